/- A small engine for walks through a Go program: plain lemmas on the model, without conditions of their own. -/
import Derived.Test.YtodhafdaelcnlaaGreatAb12
import Derived.Shelf.GgSortFunc.RowK
set_option linter.unusedVariables false
set_option linter.unusedSimpArgs false
set_option linter.ambiguousOpen false
set_option linter.unusedSectionVars false
set_option linter.unnecessarySimpa false
open Nat renaming eq_zero_or_pos->Asz
open List renaming getElem?_eq_getElem->Cmz,getElem?_eq_none->Avz,getElem?_append->Djz,getElem?_drop->Baz
open Array renaming getElem?_modify->Dkz
namespace Go.E
open Go
open Rep (rd)
open Sep (own)
section
variable {α:Type}{enc:α->List Value}{k:Nat}
theorem BZ (hk:∀ x,(enc x).length=k):∀ l:List α,(l.flatMap enc).length=l.length*k
 | []=>by simp
 | x::l=>by simp[BZ hk l,hk,Nat.add_mul];omega
theorem Nl (hk:∀ x,(enc x).length=k):∀ (l:List α) (t:Nat),t<l.length*k->(l.flatMap enc)[t]?=(l[t / k]?).bind λx=>(enc x)[t % k]?
 | [],t,h=>by simp at h
 | x::l,t,h=>by
  have k0:0<k:=by
   rcases Asz k with h0|h0;rw[h0] at h;simp at h;exact h0
  simp only[List.flatMap_cons];by_cases ht:t<k;rw[List.getElem?_append_left (by rw[hk];exact ht),Nat.div_eq_of_lt ht,Nat.mod_eq_of_lt ht];rfl;have hm:(x::l).length*k=l.length*k+k:=by rw[bH,Nat.add_mul];omega
  rw[List.getElem?_append_right (by rw[hk];omega),hk,Nl hk l (t-k) (by omega)];have U:t / k=(t-k) / k+1:=by rw[Nat.div_eq_sub_div k0 (by omega)]
  have W:t % k=(t-k) % k:=Nat.mod_eq_sub_mod (by omega);rw[U,W,List.getElem?_cons_succ]
theorem MI [Inhabited α](hk:∀ x,(enc x).length=k)(l:List α):(Sort.flatK enc k l.toArray).toList=l.flatMap enc:=by
 apply List.ext_getElem?;intro t;by_cases ht:t<l.length*k;rw[Nl hk l t ht];have k0:0<k:=by
  rcases Asz k with h0|h0;rw[h0] at ht;simp at ht;exact h0
 have hq:t / k<l.length:=(Nat.div_lt_iff_lt_mul k0).2 ht;have hm:t % k<k:=Nat.mod_lt _ k0;have U:l[t / k]?=some l[t / k]:=Cmz hq;have hm' : t % k<(enc l[t / k]).length:=by rw[hk];exact hm
 have W:(enc l[t / k])[t % k]?=some (enc l[t / k])[t % k]:=Cmz hm';rw[U,aj,W];simp[Sort.flatK,ht,hq,hk,hm];rw[Avz (by simp;omega),Avz (by rw[BZ hk];omega)]
end
theorem WY {w:World}{g:Nat}{e:TypeId}{cur:List Value}{F:Array Value}(h:dE w g e cur)(hl:F.size<=cur.length):dE (Sort.putRow id w g 0 F) g e (cH cur 0 F.toList):=by
 have Y:w.heap[g]?=some (.cells cur.toArray e (0,0)):=h;show (Sort.putRow id w g 0 F).heap[g]?=some (.cells (cH cur 0 F.toList).toArray e (0,0));simp only[Sort.putRow,Sort.mapBlock,Dkz,if_true,Y,Option.map_some,Sort.onCells];congr 2;apply Array.ext_getElem?;intro t;simp only[Sort.putCells,Array.getElem?_mapIdx];by_cases ht:t<F.size;have U:t<cur.length:=by omega
 simp[cH,U,ht,Djz];by_cases U:t<cur.length;simp[cH,U,ht,Djz,Baz,show F.size+(t-F.size)=t by omega];simp[cH,U,ht,Djz,Baz,show cur.length<=F.size+(t-F.size) by omega]
theorem WX {w:World}{g:Nat}{F:Array Value}:cF (· = g) w (Sort.putRow id w g 0 F):=
 ⟨rfl,rfl,rfl,by simp[Sort.putRow,Sort.mapBlock],λq _ hq=>by simp only[Sort.putRow,Sort.mapBlock,Dkz];rw[al λe=>hq e.symm]⟩
theorem UO {M:Nat->Prop}{w w' : World}{os:Array Obj}(h:cF M w w'):cF M w (Sort.grow w' os):=h.trans (.of_ext (Gr.ext ⟨0,os,by simp[World.drewN]⟩))
theorem LO (w:World)(n:Nat):cd w (Sort.ahead w n):=⟨rfl,rfl,rfl,Nat.le_refl _,λ_ _ _=>rfl⟩
end Go.E

/- A small engine for walks through a Go program: plain lemmas on the model, without conditions of their own. -/
import Derived.Test.YteefempppabmkacGreatEngC
import Derived.Sort.Grow
import Derived.Deep.Draws
import Derived.Shelf.GgSortFunc.RowK
import Derived.OrdersHeld
import Derived.Laws.CopyRow
import Derived.Laws.IdiomCopy
set_option linter.unusedVariables false
set_option linter.unusedSimpArgs false
set_option linter.ambiguousOpen false
set_option linter.unusedSectionVars false
set_option linter.unnecessarySimpa false
namespace Go.E
open Go
def Gr (w w' : World):Prop:=∃ q os,w'=Sort.grow (w.drewN q) os
theorem Gr.refl (w:World):Gr w w:=⟨0,#[],by simp [Sort.grow,World.drewN]⟩
theorem Gr.trans {a b c:World}(h:Gr a b)(k:Gr b c):Gr a c:=by
 obtain⟨q,os,rfl⟩:=h
 obtain⟨q2,os2,rfl⟩:=k
 exact⟨q+q2,os++os2,by simp [Sort.grow,World.drewN,Array.append_assoc,Nat.add_assoc]⟩
theorem Gr.draw (w:World):Gr w { w with drawn:=w.drawn+1 }:=⟨1,#[],by simp only [Sort.grow,World.drewN,Array.append_empty]⟩
theorem Gr.alloc (w:World)(o:Obj):Gr w (w.alloc o):=⟨0,#[o],Sort.alloc_eq_grow w o⟩
theorem Gr.ext {w w' : World}(h:Gr w w'):Ext w w':=by
 obtain⟨q,os,rfl⟩:=h
 refine⟨rfl,rfl,rfl,by simp [Sort.grow,World.drewN],fun k hk _=>?_⟩
 simp only [Sort.grow,World.drewN]
 rw [Array.getElem?_append_left hk]
section
variable {P:Program}{n d:Nat}{Q:Post}{ρ:Env}{w:World}{ops:Array Oper}{o:Oper}{rest:List Oper}{e:TypeId}{v:Value}{cs:List Value}
theorem q1G {T:TypeId}{x:Operand}(hg:o.guard=none)(hd:o.dst=some d)(ho:o.op = .box T x)(hx:E.ev ρ x=v)(hc:v.cells=cs.toArray)
  (h:∀ b w',Gr w w'→w.heap.size≤b→Blk w' b T cs→WL P n ops Q rest (upd ρ d (.pointer (some ⟨b,0,none⟩))) w'):WL P n ops Q (o :: rest) ρ w:=
 q0v hg fun a K ha hok hK=>by
  unfold Oper.wp
  rw [q4n ha hok]
  simp only [execOp,ho,hx,Instr.box,newVar,hc,Sem.run_bind,q8w,Result.andThen_ok,Sem.run_pure]
  exact hK _ _ (by rw [hd]; exact h _ _ (Gr.alloc _ _) (Nat.le_refl _) (q6Y _ _ _))
theorem q1L {T m:Nat}{z:Value}{parts:Array (Nat × Operand)}{vs:List Value}(hg:o.guard=none)(hd:o.dst=some d)(ho:o.op = .buildSlice T m parts)(hT:q4Y P T=some e)(hk:szT P e=some 1)(hz:q6d P e=some [z])
  (hp:parts.toList.map (fun p=>(p.1,E.ev ρ p.2))=idxL 0 vs) (h1:∀ v∈vs,v.cells=#[v]) (hn:vs.length=m) (hm:Nat.blt 0 m=true) (hm2:Nat.ble m 100000=true)
  (h:∀ g w',Gr w w'→Blk w' g e vs→WL P n ops Q rest (upd ρ d (.slice (some ⟨g,0,none⟩) m m)) w'):WL P n ops Q (o :: rest) ρ w:=
 q0v hg fun a K ha hok hK=>by
  unfold Oper.wp
  rw [q4n ha hok]
  have hp' : parts.map (fun p=>(p.1,E.ev ρ p.2))=(idxL 0 vs).toArray:=by
   apply Array.ext'; simpa using hp
  have hr:=j4v (P:=P) (w:=w) hT hk hz h1 hn hm hm2
  simp only [execOp,ho,hp',Sem.run_bind,hr,Result.andThen_ok,Sem.run_pure]
  exact hK _ _ (by rw [hd]; exact h _ _ (Gr.alloc _ _) (q6Y w e vs))
end
end Go.E
namespace Go.E
open Go
open Rep (rd)
open Sep (own)
section
variable {α:Type}[Sep α]{enc:α→List Value}{ok:α→Prop}
theorem j1R (he:∀ {L w x cs},own L w x cs→L=[]∧cs=enc x∧ok x){w:World}:∀ {xs:List α} {L:List Nat} {cs:List Value},ownL w L xs cs→L=[]∧cs=xs.flatMap enc∧∀ x∈xs,ok x
 | [],_,_,h=>⟨h.1,h.2,by simp⟩
 | x :: xs,_,_,⟨L1,L2,c,r,hL,hc,h1,h2⟩=>by
  obtain⟨a1,a2,a3⟩:=he h1
  obtain⟨b1,b2,b3⟩:=j1R he h2
  refine⟨by rw [hL,a1,b1]; rfl,by rw [hc,a2,b2]; simp,fun y hy=>?_⟩
  rcases List.mem_cons.1 hy with rfl | hy
  ·exact a3
  ·exact b3 y hy
theorem j1S (ho:∀ {w x},ok x→own [] w x (enc x)){w:World}:∀ {xs:List α},(∀ x∈xs,ok x)→ownL w [] xs (xs.flatMap enc)
 | [],_=>⟨rfl,rfl⟩
 | x :: xs,h=>⟨[],[],enc x,xs.flatMap enc,rfl,by simp,ho (h x (by simp)),j1S ho fun y hy=>h y (by simp [hy])⟩
end
section
variable {α:Type}{enc:α→List Value}{k:Nat}
theorem z1Q (hk:∀ x,(enc x).length=k):∀ l:List α,(l.flatMap enc).length=l.length*k
 | []=>by simp
 | x :: l=>by simp [z1Q hk l,hk,Nat.add_mul]; omega
theorem z8y (hk:∀ x,(enc x).length=k):∀ (l:List α) (t:Nat),t < l.length*k→(l.flatMap enc)[t]? = (l[t / k]?).bind fun x=>(enc x)[t % k]?
 | [],t,h=>by simp at h
 | x :: l,t,h=>by
  have k0:0 < k:=by
   rcases Nat.eq_zero_or_pos k with h0 | h0
   ·rw [h0] at h; simp at h
   ·exact h0
  simp only [List.flatMap_cons]
  by_cases ht:t < k
  ·rw [List.getElem?_append_left (by rw [hk]; exact ht),Nat.div_eq_of_lt ht,Nat.mod_eq_of_lt ht]; rfl
  ·have hm:(x :: l).length*k=l.length*k+k:=by rw [List.length_cons,Nat.add_mul]; omega
   rw [List.getElem?_append_right (by rw [hk]; omega),hk,z8y hk l (t - k) (by omega)]
   have h1:t / k=(t - k) / k+1:=by rw [Nat.div_eq_sub_div k0 (by omega)]
   have h2:t % k=(t - k) % k:=Nat.mod_eq_sub_mod (by omega)
   rw [h1,h2,List.getElem?_cons_succ]
theorem j0r [Inhabited α](hk:∀ x,(enc x).length=k)(l:List α):(Sort.flatK enc k l.toArray).toList=l.flatMap enc:=by
 apply List.ext_getElem?
 intro t
 by_cases ht:t < l.length*k
 ·rw [z8y hk l t ht]
  have k0:0 < k:=by
   rcases Nat.eq_zero_or_pos k with h0 | h0
   ·rw [h0] at ht; simp at ht
   ·exact h0
  have hq:t / k < l.length:=(Nat.div_lt_iff_lt_mul k0).2 ht
  have hm:t % k < k:=Nat.mod_lt _ k0
  have h1:l[t / k]? = some l[t / k]:=List.getElem?_eq_getElem hq
  have hm' : t % k < (enc l[t / k]).length:=by rw [hk]; exact hm
  have h2:(enc l[t / k])[t % k]? = some (enc l[t / k])[t % k]:=List.getElem?_eq_getElem hm'
  rw [h1,Option.bind_some,h2]
  simp [Sort.flatK,ht,hq,hk,hm]
 ·rw [List.getElem?_eq_none (by simp; omega),List.getElem?_eq_none (by rw [z1Q hk]; omega)]
end
theorem j4Q {w:World}{g:Nat}{e:TypeId}{cur:List Value}{F:Array Value}(h:Blk w g e cur)(hl:F.size≤cur.length):Blk (Sort.putRow id w g 0 F) g e (q3O cur 0 F.toList):=by
 have hb:w.heap[g]? = some (.cells cur.toArray e (0,0)):=h
 show (Sort.putRow id w g 0 F).heap[g]? = some (.cells (q3O cur 0 F.toList).toArray e (0,0))
 simp only [Sort.putRow,Sort.mapBlock,Array.getElem?_modify,if_true,hb,Option.map_some,Sort.onCells]
 congr 2
 apply Array.ext_getElem?
 intro t
 simp only [Sort.putCells,Array.getElem?_mapIdx]
 by_cases ht:t < F.size
 ·have h1:t < cur.length:=by omega
  simp [q3O,h1,ht,List.getElem?_append]
 ·by_cases h1:t < cur.length
  ·simp [q3O,h1,ht,List.getElem?_append,List.getElem?_drop,show F.size+(t - F.size)=t by omega]
  ·simp [q3O,h1,ht,List.getElem?_append,List.getElem?_drop,show cur.length≤F.size+(t - F.size) by omega]
theorem j4R {w:World}{g:Nat}{F:Array Value}:Chg (· = g) w (Sort.putRow id w g 0 F):=
 ⟨rfl,rfl,rfl,by simp [Sort.putRow,Sort.mapBlock],fun q _ hq=>by simp only [Sort.putRow,Sort.mapBlock,Array.getElem?_modify]; rw [if_neg fun e=>hq e.symm]⟩
theorem j7T {M:Nat→Prop}{w w' : World}{os:Array Obj}(h:Chg M w w'):Chg M w (Sort.grow w' os):=h.trans (.of_ext (Gr.ext ⟨0,os,by simp [World.drewN]⟩))
theorem j1T (w:World)(n:Nat):Ext w (Sort.ahead w n):=⟨rfl,rfl,rfl,Nat.le_refl _,fun _ _ _=>rfl⟩
section
variable {α:Type}[Inhabited α][Sep α]{enc:α→List Value}{ok:α→Prop}{F0:Nat→Prop}{M:List Nat}{w0 w:World}{fr:List Pr}{ow:List It}{i:Nat}{e:TypeId}
theorem HL.holdsK (he:∀ {L w x cs},own L w x cs→L=[]∧cs=enc x∧ok x)(hk:∀ x,(enc x).length=Rep.sz α){xs:List α}{g m c:Nat}(H:HL F0 M w0 w fr ow)(hi:ow[i]? = some (It.O e xs (.slice (some ⟨g,0,none⟩) m c)))(h0:xs≠[]) :
  Sort.HoldsK enc (Rep.sz α) w g 0 xs.toArray∧g < w.heap.size∧xs.length=m∧m≤maxLen∧(∀ x∈xs,ok x) ∧
   ∀ {w' : World} {ys:List α} {n:Nat} {os:Array Obj},ys.length=xs.length→(∀ y∈ys,ok y)→(∀ {w x},ok x→own [] w x (enc x))→w'=Sort.grow (Sort.putRowK enc (Rep.sz α) (Sort.ahead w n) g 0 ys.toArray) os→HL F0 M w0 w' fr (ow.set i (It.O e ys (.slice (some ⟨g,0,none⟩) m c))):=by
 obtain⟨F,L,C,⟨cs,hr,h3⟩,hN,hF,hupd⟩:=H.upd hi
 obtain⟨A2,c2,he2,hmc,hcm⟩:=hr.form
 injection he2 with e1 e2 e3
 subst e3; subst e2
 obtain⟨rfl,hcs,hok⟩:=j1R he h3
 have hlt:0 < xs.length:=List.length_pos_iff.2 h0
 obtain⟨h1,h2⟩:=hr.own hlt
 rcases h1.2 with ⟨hv,h00⟩ | ⟨g',cap,cur,hv,_,hgb,hn,hcm',hs,ht⟩
 ·omega
 ·injection hv with e1 e2 e3
  injection e1 with e1; injection e1 with e1
  subst e1; subst e3
  have hB:Blk w g e cur.toList:=by simpa [Blk] using hgb
  have hflat:(Sort.flatK enc (Rep.sz α) xs.toArray).toList=cs:=by rw [j0r hk,hcs]
  have hsz:(Sort.flatK enc (Rep.sz α) xs.toArray).size=xs.length*Rep.sz α:=by simp
  have hfit:xs.length*Rep.sz α≤cur.size:=by rw [hs]; exact Nat.mul_le_mul_right _ hn
  refine⟨fun j hj=>?_,hB.lt,rfl,by omega,hok,fun {w' ys n os} hl hoy hown hw'=>?_⟩
  ·have hjc:cs[j]? = some (Sort.flatK enc (Rep.sz α) xs.toArray)[j]!:=by
    rw [← hflat,Array.getElem?_toList,Array.getElem?_eq_getElem hj,getElem!_pos _ j hj]
   have hcj:cur[0+j]? = some (Sort.flatK enc (Rep.sz α) xs.toArray)[j]!:=by
    rw [Nat.zero_add]
    rw [← ht,List.getElem?_take] at hjc
    split at hjc
    ·simpa using hjc
    ·cases hjc
   refine⟨?_,?_⟩
   ·rw [cell_of_row w g (0+j) cur e (0,0) hgb]; exact hcj
   ·unfold World.frozen?; rw [hgb]; simp
  ·have hsy:(Sort.flatK enc (Rep.sz α) ys.toArray).size=xs.length*Rep.sz α:=by simp [hl]
   have hB1:Blk (Sort.ahead w n) g e cur.toList:=hB.ext (j1T w n)
   have hB2:=j4Q (F:=Sort.flatK enc (Rep.sz α) ys.toArray) hB1 (by rw [hsy]; simpa using hfit)
   have hc1:Chg (· = g) w (Sort.putRow id (Sort.ahead w n) g 0 (Sort.flatK enc (Rep.sz α) ys.toArray)):=Chg.trans (.of_ext (j1T w n)) j4R
   have hc2:Chg (· = g) w w':=by rw [hw']; exact j7T hc1
   have hB3:Blk w' g e (q3O cur.toList 0 (Sort.flatK enc (Rep.sz α) ys.toArray).toList):=by
    rw [hw']; exact hB2.ext (Gr.ext ⟨0,os,rfl⟩)
   rw [j0r hk] at hB3
   have hcl:cs.length=xs.length*Rep.sz α:=h1.1
   have hyl:(ys.flatMap enc).length=xs.length*Rep.sz α:=by rw [z1Q hk,hl]
   refine hupd (L':=L) (C':=[]) (hc2.mono fun q _ e=>by rw [h2]; simp [Value.ownBlock,e]) (fun F' _=>⟨ys.flatMap enc,.inl ⟨?_,h2⟩,j1S hown hoy⟩) (by simpa using (List.nodup_append.1 hN).1) (fun q hq=>.inl hq) (fun q hq=>by simp at hq)
   have:=h1.st (w':=w') rfl hB (off:=0) (l:=ys.flatMap enc) (by rw [hyl]; omega) hB3
   rw [hl]
   have hsp:q3O cs 0 (ys.flatMap enc)=ys.flatMap enc:=by
    unfold q3O; rw [List.drop_eq_nil_of_le (by rw [hyl,hcl]; omega)]; simp
   rw [hsp] at this
   exact this
end
end Go.E
namespace Go.E
open Go
open Rep (rd)
open Sep (own)
def ThB (b:Nat)(T:TypeId)(css:List (List Value))(m:Nat)(w:World):Prop:=∃ cs,css[m]? = some cs∧Blk w b T cs
section
variable {F0:Nat→Prop}{M:List Nat}{w0 w w' : World}{fr ps:List Pr}{ow l:List It}{i j b m:Nat}{T:TypeId}{cs cs' : List Value}{S:Nat→Prop}{css:List (List Value)}
theorem ThB.mono (hb:b < w.heap.size):∀ m a c (T' : Nat→Prop),ThB b T css m a→Chg T' a c→(∀ q,T' q→w.heap.size≤q)→ThB b T css m c:=
 fun _ _ _ _ ⟨cs,h1,h2⟩ hc hT=>⟨cs,h1,(hc.block b h2.lt fun ht=>absurd (hT b ht) (by omega)).trans h2⟩
end
section
variable {P:Program}{n d:Nat}{Q:Post}{ρ:Env}{w:World}{ops:Array Oper}{o:Oper}{l:List Oper}{h i m:Nat}{ks:List K2}{Mw:Nat→Prop}{Θ:Nat→World→Prop}{C:List Nat}{os:List (Option Nat)}{K:Nat→World→Prop}{G:Nat→Nat→Prop}{X:World→Prop}
end
end Go.E
namespace Go.E
open Go
open Rep (rd)
open Sep (own)
section
variable {F0:Nat→Prop}{M:List Nat}{w0 w w' : World}{fr:List Pr}{ow:List It}
theorem HL.updP {i:Nat}{o:It}(H:HL F0 M w0 w fr ow)(hi:ow[i]? = some o) :
  ∃ F L C,AllP F w fr∧(∀ q∈L,¬ F q)∧o.p L C F w∧(L++C).Nodup∧(∀ q∈C,F q) ∧
   ∀ {w' : World} {o' : It} {L' C' : List Nat},Chg (·∈L) w w'→(∀ F',(∀ b,F b→F' b)→o'.p L' C' F' w')→(L'++C').Nodup→(∀ q∈L',q∈L∨w.heap.size≤q)→(∀ q∈C',q∈C∨q∈L∨w.heap.size≤q) →
    HL F0 M w0 w' fr (ow.set i o'):=by
 obtain⟨Fr,LC,h1,h2,h3,h4,h5,h6⟩:=H
 have hlt:=h3.lt
 obtain⟨a,b,A,L,C,B,rfl,rfl,rfl,g1,g2,g3⟩:=h3.split hi
 have hnf:∀ q∈L,¬ fz F0 w0 M (Fr++claims (A++(L,C) :: B)) q:=fun q hq=>j9D h4 h6 rfl hq
 have hb:blks (A++(L,C) :: B)=blks A++((L++C)++blks B):=by rw [q4S]; rfl
 have hcl:claims (A++(L,C) :: B)=claims A++(C++claims B):=by rw [q4O]; rfl
 rw [hb] at h4 h6 hlt
 have h4':=h4
 simp only [List.nodup_append,List.mem_append] at h4'
 obtain⟨n1,⟨n2,⟨⟨n3,n4,n5⟩,n6,n7⟩,n8⟩,n9⟩:=h4'
 refine⟨_,L,C,h2,hnf,g2,by rw [List.nodup_append]; exact⟨n3,n4,n5⟩,fun q hq=>.inr (by rw [hcl]; simp [hq]),fun {w' o' L' C'} hc ho hN hL hC=>?_⟩
 have hF:∀ q,fz F0 w0 M (Fr++claims (A++(L,C) :: B)) q→q < w.heap.size→w'.heap[q]? = w.heap[q]?:=fun q hq hl=>hc.block q hl fun hm=>hnf q hm hq
 have hsub:∀ q,fz F0 w0 M (Fr++claims (A++(L,C) :: B)) q→fz F0 w0 M ((Fr++C.filter (fun q=>!C'.contains q))++claims (A++(L',C') :: B)) q:=by
  refine z2i fun q hq=>?_
  rw [hcl] at hq
  rw [q4O]
  simp only [claims,List.mem_append,List.mem_filter] at hq ⊢
  rcases hq with h | h | h | h
  ·simp [h]
  ·simp [h]
  ·by_cases hc' : q∈C'
   ·simp [hc']
   ·left; right; exact⟨h,by simp [hc']⟩
  ·simp [h]
 have hA:∀ q∈blks A,w'.heap[q]? = w.heap[q]?:=fun q hq=>hc.block q (hlt q (by simp [hq])) fun hm=>n8 q hq q (.inl (.inl hm)) rfl
 have hB:∀ q∈blks B,w'.heap[q]? = w.heap[q]?:=fun q hq=>hc.block q (hlt q (by simp [hq])) fun hm=>n7 q (.inl hm) q hq rfl
 refine⟨Fr++C.filter (fun q=>!C'.contains q),A++(L',C') :: B,?_,?_,?_,?_,?_,?_⟩
 ·refine⟨hc.os.trans h1.os,hc.tape.trans h1.tape,hc.output.trans h1.output,Nat.le_trans h1.size hc.size,fun k hk hm=>?_⟩
  refine (hc.block k (Nat.lt_of_lt_of_le hk h1.size) fun hl=>?_).trans (h1.block k hk hm)
  rcases h6 k (by simp [hl]) with h | h
  ·exact hm h
  ·omega
 ·exact (h2.frame hF).mono hsub
 ·rw [List.set_append_right _ _ (Nat.le_refl _),Nat.sub_self,List.set_cons_zero]
  exact AllI.app (AllI.trans hsub hF g1 hA) ⟨ho _ hsub,AllI.trans hsub hF g3 hB⟩
 ·rw [q4S]
  simp only [blks,List.nodup_append,List.mem_append,List.mem_filter]
  rw [List.nodup_append] at hN
  have out:∀ q,q∈L'∨q∈C'→q∈L∨q∈C∨w.heap.size≤q:=fun q hq=>by
   rcases hq with hq | hq
   ·rcases hL q hq with h | h
    ·exact .inl h
    ·exact .inr (.inr h)
   ·rcases hC q hq with h | h | h
    ·exact .inr (.inl h)
    ·exact .inl h
    ·exact .inr (.inr h)
  refine⟨⟨n1,n4.filter _,fun x hx y hy=>n9 x hx y (.inr (.inl (.inr hy.1)))⟩,⟨n2,⟨hN,n6,fun x hx y hy e=>?_⟩,fun x hx y hy e=>?_⟩,fun x hx y hy e=>?_⟩
  ·subst e
   rcases out x hx with h | h | h
   ·exact n7 x (.inl h) x hy rfl
   ·exact n7 x (.inr h) x hy rfl
   ·have:=hlt x (by simp [hy]); omega
  ·subst e
   rcases hy with hy | hy
   ·rcases out x hy with h | h | h
    ·exact n8 x hx x (.inl (.inl h)) rfl
    ·exact n8 x hx x (.inl (.inr h)) rfl
    ·have:=hlt x (by simp [hx]); omega
   ·exact n8 x hx x (.inr hy) rfl
  ·subst e
   rcases hx with hx | hx
   ·rcases hy with hy | hy | hy
    ·exact n9 x hx x (.inl hy) rfl
    ·rcases out x hy with h | h | h
     ·exact n9 x hx x (.inr (.inl (.inl h))) rfl
     ·exact n9 x hx x (.inr (.inl (.inr h))) rfl
     ·have:=h5 x hx; omega
    ·exact n9 x hx x (.inr (.inr hy)) rfl
   ·obtain⟨hx,hx'⟩:=hx
    rcases hy with hy | hy | hy
    ·exact n8 x hy x (.inl (.inr hx)) rfl
    ·rcases hy with hy | hy
     ·rcases hL x hy with h | h
      ·exact n5 x h x hx rfl
      ·have:=hlt x (by simp [hx]); omega
     ·simp [hy] at hx'
    ·exact n7 x (.inr hx) x hy rfl
 ·intro q hq
  rcases List.mem_append.1 hq with hq | hq
  ·exact Nat.lt_of_lt_of_le (h5 q hq) hc.size
  ·exact Nat.lt_of_lt_of_le (hlt q (by simp [(List.mem_filter.1 hq).1])) hc.size
 ·intro q hq
  rw [q4S] at hq
  simp only [blks,List.mem_append,List.mem_filter] at hq
  have:=h1.size
  rcases hq with (hq | hq) | hq | (hq | hq) | hq
  ·exact h6 q (by simp [hq])
  ·exact h6 q (by simp [hq.1])
  ·exact h6 q (by simp [hq])
  ·rcases hL q hq with h | h
   ·exact h6 q (by simp [h])
   ·exact .inr (by omega)
  ·rcases hC q hq with h | h | h
   ·exact h6 q (by simp [h])
   ·exact h6 q (by simp [h])
   ·exact .inr (by omega)
  ·exact h6 q (by simp [hq])
end
section
variable {F0:Nat→Prop}{M:List Nat}{w0 w w' : World}{fr:List Pr}{ow:List It}{i j:Nat}{e:TypeId}{v:Value}{cs:List Value}
variable {P:Program}{n d:Nat}{Q:Post}{ρ:Env}{ops:Array Oper}{o:Oper}{rest:List Oper}
theorem q1k {α:Type}[Rep α]{T b:Nat}{z:List Value}{s x:Operand}{xs ys:List α}{A:Option Addr}{c2:Nat}{news:List Value}(hg:o.guard=none)(hd:o.dst=some d)
  (ho:o.op = .call { callee:=.builtin .append,args:=#[s,x],argTypes:=#[T,T] }) (hT:q4Y P T=some e) (hk:szT P e=some (Rep.sz α)) (hb:byT P e=some b) (hz:q6d P e=some z) (hzk:z.length=Rep.sz α)
  (hs:E.ev ρ s=v) (hx:E.ev ρ x = .slice A ys.length c2) (H:HL F0 M w0 w fr ow) (hi:ow[i]? = some (It.G e xs v)) (hy:∀ F,AllP F w fr→rdL F w ys news) (hat:ys.length=0∨∃ b o,A=some ⟨b,o,none⟩∧At w b o news)
  (hmax:((xs.length:Int)+(ys.length:Int))*b≤140737488355328∧(xs.length:Int)+ys.length≤9223372036854775807)
  (h:∀ A m c w',HL F0 M w0 w' fr (ow.set i (It.G e (xs++ys) (.slice A m c)))→WL P n ops Q rest (upd ρ d (.slice A m c)) w'):WL P n ops Q (o :: rest) ρ w:=by
 have h:∀ v' w',(∃ A m c,v' = .slice A m c)→HL F0 M w0 w' fr (ow.set i (It.G e (xs++ys) v'))→WL P n ops Q rest (upd ρ d v') w':=by
  rintro v' w' ⟨A,m,c,rfl⟩ H
  exact h A m c w' H
 obtain⟨F,L,C,hP,hnF,⟨cs,h0,rfl,h3⟩,hN,hF,hupd⟩:=H.updP hi
 have hy0:=hy F hP
 have hm1:(xs.length+ys.length)*b≤140737488355328:=by
  have:(((xs.length+ys.length)*b:Nat):Int)≤140737488355328:=by rw [Int.natCast_mul,Int.natCast_add]; exact hmax.1
  omega
 have hm2:xs.length+ys.length≤maxLen:=by show _≤9223372036854775807; omega
 have hNC:=(List.nodup_append.1 hN).2.1
 rcases h0 with ⟨h1,h2⟩ | ⟨⟨A0,rfl⟩,hx0,rfl,rfl⟩
 ·refine WL.app hg hd ho hT hk hb hz hzk (by simpa using Rep.pos (α:=α)) hs hx h1 hy0.len hat (rdL.one hy0) hm1 hm2 (Nat.zero_le _) fun v' w' hc ho' hnew=>h v' w' (by obtain⟨A,c,e⟩:=ho'.form; exact⟨A,_,c,e⟩) ?_
  have f:∀ b,F b→b < w.heap.size→w'.heap[b]? = w.heap[b]?:=fun b hb hl=>hc.block b hl fun e=>hnF b (by rw [h2]; simpa [z2z] using e) hb
  refine hupd (L':=v'.ownBlock.toList) (C':=[]) (hc.mono fun q _ e=>by rw [h2]; simpa [z2z] using e) (fun F' hm=>⟨cs++news,.inl ⟨by rw [List.length_append]; exact ho',rfl⟩,rfl,((h3.frame f).append (hy0.frame f)).mono hm⟩) (by cases v'.ownBlock<;>simp) (fun q hq=>?_) (by simp)
  rcases hnew q (by simpa [z2z] using hq) with h | h
  ·left; rw [h2]; simpa [z2z] using h
  ·exact .inr h
 ·-- a slice without room
  obtain rfl:=List.eq_nil_of_length_eq_zero hx0
  obtain⟨v',w',hrun,hE,hv⟩:=j4s (P:=P) (ty:=o.type) (A0:=A0) (c2:=c2) hT hk hb hz hzk hy0.len hat (by simpa using hm1) (by simpa using hm2)
  refine q0v hg fun a K ha hok hK=>?_
  unfold Oper.wp
  rw [q4n ha hok]
  simp only [execOp,ho,resolve,invoke,builtin,Sem.run_bind,Sem.run_pure,Result.andThen_ok,List.map_toArray,List.map_cons,List.map_nil,hs,hx,hrun]
  refine hK _ _ (by
   rw [hd]
   refine h v' w' ?_ ?_
   ·obtain⟨L',hv,_⟩:=hv
    obtain⟨A,c,e,_⟩:=hv.form
    exact⟨A,_,c,e⟩
   ·obtain⟨L',hv,hn⟩:=hv
    exact hupd (L':=L') (C':=[]) (hE.mono fun q _ e=>e.elim) (fun F' hm=>⟨news,by simpa using hv,rfl,by simpa using (hy0.frame fun b _ hl=>hE.block b hl id).mono hm⟩) (by simpa using hv.nodup) (fun q hq=>.inr (hn q hq)) (by simp))
end
end Go.E
namespace Go.E
open Go
open Rep (rd)
open Sep (own)
section
variable {P:Program}{n d:Nat}{Q:Post}{ρ:Env}{w w0:World}{ops:Array Oper}{o:Oper}{e:TypeId}{F0:Nat→Prop}{M:List Nat}{fr:List Pr}{ow:List It}
end
section
variable {P:Program}{n d:Nat}{Q:Post}{ρ:Env}{w:World}{ops:Array Oper}{o:Oper}{l:List Oper}{h i m:Nat}{ks:List K2}{Mw:Nat→Prop}{Θ:Nat→World→Prop}{C:List Nat}{os:List (Option Nat)}{K:Nat→World→Prop}{G:Nat→Nat→Prop}
end
end Go.E
namespace Go.E
open Go
open Rep (rd)
open Sep (own)
def Th2 (b:Nat)(T:TypeId)(css:List (List Value))(b2:Nat)(T2:TypeId)(css2:List (List Value))(m:Nat)(w:World):Prop:=ThB b T css m w∧ThB b2 T2 css2 m w
section
variable {F0:Nat→Prop}{M:List Nat}{w0 w w' w'' : World}{fr ps:List Pr}{ow l:List It}{i j b b2 m:Nat}{T T2:TypeId}{cs cs' c2 c2' : List Value}{S:Nat→Prop}{css css2:List (List Value)}
theorem Th2.mono (hb:b < w.heap.size)(hb2:b2 < w.heap.size):∀ m a c (T' : Nat→Prop),Th2 b T css b2 T2 css2 m a→Chg T' a c→(∀ q,T' q→w.heap.size≤q)→Th2 b T css b2 T2 css2 m c:=
 fun m a c T' h hc hT=>⟨ThB.mono hb m a c T' h.1 hc hT,ThB.mono hb2 m a c T' h.2 hc hT⟩
end
section
variable {P:Program}{n d:Nat}{Q:Post}{ρ:Env}{w:World}{ops:Array Oper}{o:Oper}{l:List Oper}{h i m:Nat}{ks:List K2}{Mw:Nat→Prop}{Θ:Nat→World→Prop}{C:List Nat}{os:List (Option Nat)}{K:Nat→World→Prop}{G:Nat→Nat→Prop}{X:World→Prop}
end
section
variable {P:Program}{ρ:Env}{w:World}
end
end Go.E
namespace Go.E
open Go
open Rep (rd)
open Sep (own)
section
variable {P:Program}{n d:Nat}{Q:Post}{ρ:Env}{w:World}{ops:Array Oper}{o:Oper}{l:List Oper}{h i m:Nat}{ks:List K2}{Mw:Nat→Prop}{Θ:Nat→World→Prop}{C:List Nat}{os:List (Option Nat)}{K:Nat→World→Prop}{G:Nat→Nat→Prop}{X:World→Prop}{e:TypeId}{v:Value}{S:Nat→Prop}
end
end Go.E
namespace Go.E
open Go
section
variable {P:Program}{ρ:Env}{o:Oper}{w:World}{T:TypeId}{x:Operand}{i ft off k:Nat}{cs:List Value}{u:Value}
end
end Go.E
namespace Go.E
open Go
open Rep (rd)
open Sep (own)
section
variable {F0:Nat→Prop}{M:List Nat}{w0 w w' : World}{fr:List Pr}{ow:List It}{i j:Nat}{e:TypeId}{v:Value}{cs:List Value}
variable {P:Program}{n d:Nat}{Q:Post}{ρ:Env}{ops:Array Oper}{o:Oper}{rest:List Oper}
end
end Go.E
namespace Go.E
open Go
section
variable {P:Program}{n:Nat}{K:Env→World→Prop}{Q:Post}{ρ:Env}{w:World}{ops:Array Oper}{o:Oper}{S:World→Prop}{listed:Array Bool}{k i:Nat}{v:Value}
abbrev j4S (K:Env→World→Prop):Post:=fun e ρ w=>e = .normal∧K ρ w
def HW (P:Program)(n:Nat)(ops:Array Oper)(K:Env→World→Prop)(S:World→Prop)(k:Nat)(listed:Array Bool)(ρ:Env)(w:World):Prop:=
 ops.toList.all (q5L n)=true→∀ a,Rel n ρ a→wpAnyH P .any ops (lift n (j4S K)) S k listed a w
theorem q0y {id:Nat}(S:World→Prop)(hm:P.follows .mixedOrders=true)(h:∀ w',Ext w w'→HW P n ops (fun ρ w=>Q .normal ρ w) S ops.size (Array.replicate ops.size false) ρ w'):CW P n (.region id ops true) Q ρ w:=by
 intro hok a ha
 have hok' : ops.toList.all (q5L n)=true:=by simpa [q9h] using hok
 refine Code.wp_mono (Q:=lift n (j4S fun ρ w=>Q .normal ρ w)) (fun e a w ⟨ρ,hr,he,hq⟩=>⟨ρ,hr,by subst he; exact hq⟩) ?_
 exact wp_region_held hm (h { w with drawn:=w.drawn+1 } ⟨rfl,rfl,rfl,Nat.le_refl _,fun _ _ _=>rfl⟩ hok' a ha)
theorem j1U (hok:ops.toList.all (q5L n)=true):q7t n ops=true:=by
 refine List.all_eq_true.2 fun o' ho'=>?_
 have:=List.all_eq_true.1 hok o' ho'
 simp only [q5L,Bool.and_eq_true] at this
 exact this.1.1
theorem q1l (hi:ops[i]? = some o)(hs:Region.noSelect ops=true)(hf:Region.free .any ops listed i=true)(hr:(Region.ready .any ops listed).contains i=true)(hS:S w)
  (hy:(gate ops ρ o=true∧∀ w',S w'→Ev P ρ o w' v)∨(gate ops ρ o=false∧v=undef)) (h:HW P n ops K S k (listed.setIfInBounds i true) (E.put ρ o.dst v) w):HW P n ops K S (k+1) listed ρ w:=fun hok a ha=>by
 have hoko:q5L n o=true:=List.all_eq_true.1 hok o (by rw [Array.mem_toList_iff]; exact Array.mem_of_getElem? hi)
 refine wpAnyH_take (v:=v) hi hs hf hr (fun c a w ⟨ρ,_,he,_⟩=>by cases he) ?_ hS (h hok _ (ha.put _ _))
 rcases hy with ⟨h1,h2⟩ | ⟨h1,h2⟩
 ·refine .inl ⟨by rw [q9k (j1U hok) ha]; exact h1,fun w' hw'=>?_⟩
  rw [q4n ha hoko]; exact h2 w' hw'
 ·exact .inr ⟨by rw [q9k (j1U hok) ha]; exact h1,h2⟩
theorem HW.take {d:Nat}(i:Nat)(hS:S w)(hi:ops[i]? = some o)(hs:(Region.noSelect ops&&Region.free .any ops listed i&&(Region.ready .any ops listed).contains i)=true)(hg:o.guard=none)(hd:o.dst=some d)(he:∀ w',S w'→Ev P ρ o w' v)(h:HW P n ops K S k (listed.setIfInBounds i true) (upd ρ d v) w):HW P n ops K S (k+1) listed ρ w:=by
 simp only [Bool.and_eq_true] at hs
 exact q1l hi hs.1.1 hs.1.2 hs.2 hS (.inl ⟨by simp [gate,hg],he⟩) (by rw [hd]; exact h)
theorem q0n {d:Nat}(i:Nat)(hS:S w)(hi:ops[i]? = some o)(hs:(Region.noSelect ops&&Region.free .any ops listed i&&(Region.ready .any ops listed).contains i)=true)(hg:gate ops ρ o=true)(hd:o.dst=some d)(he:∀ w',S w'→Ev P ρ { o with guard:=none } w' v)(h:HW P n ops K S k (listed.setIfInBounds i true) (upd ρ d v) w):HW P n ops K S (k+1) listed ρ w:=by
 simp only [Bool.and_eq_true] at hs
 exact q1l hi hs.1.1 hs.1.2 hs.2 hS (.inl ⟨hg,he⟩) (by rw [hd]; exact h)
theorem q0k {d:Nat}(i:Nat)(hS:S w)(hi:ops[i]? = some o)(hs:(Region.noSelect ops&&Region.free .any ops listed i&&(Region.ready .any ops listed).contains i)=true)(hg:gate ops ρ o=false)(hd:o.dst=some d)(h:HW P n ops K S k (listed.setIfInBounds i true) (upd ρ d undef) w):HW P n ops K S (k+1) listed ρ w:=by
 simp only [Bool.and_eq_true] at hs
 exact q1l hi hs.1.1 hs.1.2 hs.2 hS (.inr ⟨hg,rfl⟩) (by rw [hd]; exact h)
theorem q0f (i:Nat)(hi:ops[i]? = some o)(hr:Region.ready .any ops listed=[i])(h:WL P n ops (j4S fun ρ' w'=>S w'∧HW P n ops K S k (listed.setIfInBounds i true) ρ' w') [o] ρ w):HW P n ops K S (k+1) listed ρ w:=fun hok a ha=>by
 have hoko:q5L n o=true:=List.all_eq_true.1 hok o (by rw [Array.mem_toList_iff]; exact Array.mem_of_getElem? hi)
 refine wpAnyH_all hr (by simp) fun j hj=>?_
 obtain rfl:j=i:=by simpa using hj
 have h1:=h (by simp [hoko]) a ha
 unfold wpList at h1
 unfold wpOp
 simp only [hi]
 by_cases hw:Region.wanted o (yielded ops a.tmps)=true
 ·rw [if_pos hw] at h1 ⊢
  rcases h1 with h1 | h1
  ·refine .inl (z2A (fun a' w' h2=>?_) (fun e a' w' he ⟨ρ',_,h3,_⟩=>absurd h3 he) h1)
   unfold wpList at h2
   obtain⟨ρ',hr',_,hS',hH⟩:=h2
   exact⟨hS',hH hok a' hr'⟩
  ·obtain⟨_,a',w',ρ',_,he,_⟩:=h1
   cases he
 ·rw [if_neg hw] at h1 ⊢
  unfold wpList at h1
  obtain⟨ρ',hr',_,hS',hH⟩:=h1
  exact⟨hS',hH hok _ hr'⟩
theorem q0r (hr:Region.ready .any ops listed=[])(h:K ρ w):HW P n ops K S k listed ρ w:=fun _ a ha=>wpAnyH_done hr ⟨ρ,ha,rfl,h⟩ k
theorem HW.next (hS:S w)(h:HW P n ops K S k listed ρ w):WL P n ops (j4S fun ρ' w'=>S w'∧HW P n ops K S k listed ρ' w') [] ρ w:=WL.nil ⟨rfl,hS,h⟩
end
end Go.E
namespace Go.E
open Go
open Rep (rd)
open Sep (own)
structure Sp where
 p:List Nat→World→Prop
 frame:∀ {L:List Nat} {w w' : World},p L w→(∀ b∈L,w'.heap[b]? = w.heap[b]?)→p L w'
 lt:∀ {L:List Nat} {w:World},p L w→∀ b∈L,b < w.heap.size
def AllSp (w:World):List Nat→List Sp→Prop
 | L,[]=>L=[]
 | L,s :: l=>∃ L1 L2,L=L1++L2∧s.p L1 w∧AllSp w L2 l
theorem AllSp.frame {w w' : World}:∀ {l:List Sp} {L:List Nat},AllSp w L l→(∀ b∈L,w'.heap[b]? = w.heap[b]?)→AllSp w' L l
 | [],_,h,_=>h
 | s :: l,_,⟨L1,L2,e,h1,h2⟩,hf=>by
  subst e
  exact⟨L1,L2,rfl,s.frame h1 fun b hb=>hf b (List.mem_append.2 (.inl hb)),AllSp.frame h2 fun b hb=>hf b (List.mem_append.2 (.inr hb))⟩
theorem AllSp.lt {w:World}:∀ {l:List Sp} {L:List Nat},AllSp w L l→∀ b∈L,b < w.heap.size
 | [],_,h,b,hb=>by rw [show _=_ from h] at hb; simp at hb
 | s :: l,_,⟨L1,L2,e,h1,h2⟩,b,hb=>by
  subst e
  rcases List.mem_append.1 hb with hb | hb
  ·exact s.lt h1 b hb
  ·exact AllSp.lt h2 b hb
section
variable {F0:Nat→Prop}{M:List Nat}{w0 w w' : World}{fr:List Pr}{ow:List It}{i k:Nat}{e:TypeId}{v u:Value}
end
section
variable {F0:Nat→Prop}{M:List Nat}{w0 w w' : World}{fr:List Pr}{ow:List It}{i j:Nat}{e:TypeId}{v:Value}{cs:List Value}
variable {P:Program}{n d:Nat}{Q:Post}{ρ:Env}{ops:Array Oper}{o:Oper}{rest:List Oper}
end
end Go.E
namespace Go.E
open Go
open Rep (rd)
open Sep (own)
section
variable {F0:Nat→Prop}{M:List Nat}{w0 w w' : World}{fr:List Pr}{ow:List It}{i j:Nat}{e:TypeId}{v:Value}{cs:List Value}
end
end Go.E
namespace Go.E
open Go
section
variable {P:Program}{n:Nat}{K:Env→World→Prop}{Q:Post}{ρ:Env}{w:World}{ops:Array Oper}{o:Oper}{S:World→Prop}{listed:Array Bool}{k i:Nat}{v:Value}
def q2a (P:Program)(n:Nat)(ops:Array Oper)(K:Env→World→Prop)(S:World→Prop)(k:Nat)(listed:Array Bool)(ρ:Env)(w:World)(i:Nat):Prop:=
 ∃ o,ops[i]? = some o∧WL P n ops (j4S fun ρ' w'=>S w'∧HW P n ops K S k (listed.setIfInBounds i true) ρ' w') [o] ρ w
theorem q0M (hi:ops[i]? = some o)(h:WL P n ops (j4S fun ρ' w'=>S w'∧HW P n ops K S k (listed.setIfInBounds i true) ρ' w') [o] ρ w):q2a P n ops K S k listed ρ w i:=⟨o,hi,h⟩
def q1q (P:Program)(n:Nat)(ops:Array Oper)(K:Env→World→Prop)(S:World→Prop)(k:Nat)(listed:Array Bool)(ρ:Env)(w:World):List Nat→Prop
 | []=>True
 | i :: l=>q2a P n ops K S k listed ρ w i∧q1q P n ops K S k listed ρ w l
theorem q1q.get:∀ {l:List Nat} {i:Nat},q1q P n ops K S k listed ρ w l→i∈l→q2a P n ops K S k listed ρ w i
 | j :: l,i,h,hi=>by
  rcases List.mem_cons.1 hi with rfl | hi
  ·exact h.1
  ·exact q1q.get h.2 hi
theorem q1b (rs:List Nat)(hr:Region.ready .any ops listed=rs)(hne:rs.isEmpty=false)(h:q1q P n ops K S k listed ρ w rs):HW P n ops K S (k+1) listed ρ w:=fun hok a ha=>by
 refine wpAnyH_all hr (by rintro rfl; cases hne) fun j hj=>?_
 obtain⟨o,hi,h⟩:=h.get hj
 have hoko:q5L n o=true:=List.all_eq_true.1 hok o (by rw [Array.mem_toList_iff]; exact Array.mem_of_getElem? hi)
 have h1:=h (by simp [hoko]) a ha
 unfold wpList at h1
 unfold wpOp
 simp only [hi]
 by_cases hw:Region.wanted o (yielded ops a.tmps)=true
 ·rw [if_pos hw] at h1 ⊢
  rcases h1 with h1 | h1
  ·refine .inl (z2A (fun a' w' h2=>?_) (fun e a' w' he ⟨ρ',_,h3,_⟩=>absurd h3 he) h1)
   unfold wpList at h2
   obtain⟨ρ',hr',_,hS',hH⟩:=h2
   exact⟨hS',hH hok a' hr'⟩
  ·obtain⟨_,a',w',ρ',_,he,_⟩:=h1
   cases he
 ·rw [if_neg hw] at h1 ⊢
  unfold wpList at h1
  obtain⟨ρ',hr',_,hS',hH⟩:=h1
  exact⟨hS',hH hok _ hr'⟩
end
end Go.E
namespace Go.E
open Go
theorem At.cellK {w:World}{b o a k:Nat}{cs:List Value}{v:Value}(h:At w b o cs)(hv:cs[k]? = some v)(he:a=o+k):w.cell? ⟨b,a,none⟩=some v:=by
 subst he; exact h k v hv
end Go.E
namespace Go.E
open Go
open Rep (rd)
open Sep (own)
section
variable {P:Program}{ρ:Env}{w:World}{o:Oper}
theorem q1H {T1 T2:TypeId}{x y:Operand}{q r:IntKind}{a b:Int}(ho:o.op = .call { callee:=.builtin .max,args:=#[x,y],argTypes:=#[T1,T2] })(hx:E.ev ρ x = .int q a)(hy:E.ev ρ y = .int r b):Ev P ρ o w (.int q (if b > a then b else a)):=by
 simp [Ev,execOp,ho,hx,hy,resolve,invoke,builtin,Builtin.max_,Builtin.max2,List.foldlM]
theorem q2b {T1 T2:TypeId}{x y:Operand}{q r:IntKind}{a b:Int}(ho:o.op = .call { callee:=.builtin .min,args:=#[x,y],argTypes:=#[T1,T2] })(hx:E.ev ρ x = .int q a)(hy:E.ev ρ y = .int r b):Ev P ρ o w (.int q (if b < a then b else a)):=by
 simp [Ev,execOp,ho,hx,hy,resolve,invoke,builtin,Builtin.min_,Builtin.min2,List.foldlM]
end
theorem j2X {a b:Int}{c:Prop}[Decidable c](ha:I64 a)(hb:I64 b):I64 (if c then b else a):=by
 split
 ·exact hb
 ·exact ha
theorem j1V (off:Nat):∀ (l:List Value) (k:Nat) (cs:Array Value),off+(k+l.length)≤cs.size →
  ((l.zipIdx k).foldl (fun cs (p:Value × Nat)=>cs.setIfInBounds (off+p.2) p.1) cs).toList=cs.toList.take (off+k)++(l++cs.toList.drop (off+(k+l.length)))
 | [],k,cs,_=>by simp
 | x :: l,k,cs,h=>by
  simp only [List.length_cons] at h
  simp only [List.zipIdx_cons,List.foldl_cons]
  rw [j1V off l (k+1) _ (by simp; omega)]
  have hk:off+k < cs.toList.length:=by simp; omega
  have h1:(cs.setIfInBounds (off+k) x).toList.take (off+(k+1))=cs.toList.take (off+k)++[x]:=by
   rw [Array.toList_setIfInBounds,← Nat.add_assoc,List.take_add_one,List.take_set_of_le (Nat.le_refl _)]
   simp only [Array.length_toList] at hk
   simp [hk]
  have h2:(cs.setIfInBounds (off+k) x).toList.drop (off+(k+1+l.length))=cs.toList.drop (off+(k+(x :: l).length)):=by
   rw [Array.toList_setIfInBounds,List.drop_set_of_lt (by omega)]
   congr 1
   simp only [List.length_cons]; omega
  rw [h1,h2]; simp
def catL (k:Nat):List Value→List (List Value)→Prop
 | [],[]=>True
 | v :: vs,c :: cs=>v.cells=c.toArray∧c.length=k∧catL k vs cs
 | _,_=>False
theorem catL.len {k:Nat}:∀ {vs:List Value} {css:List (List Value)},catL k vs css→css.flatten.length=vs.length*k
 | [],[],_=>by simp
 | v :: vs,c :: cs,⟨_,h,h2⟩=>by
  have:=catL.len h2
  simp only [List.flatten_cons,List.length_append,List.length_cons,h,this,Nat.add_mul]; omega
 | [],_ :: _,h=>h.elim
 | _ :: _,[],h=>h.elim
theorem j1W {k:Nat}:∀ (vs:List Value) (css:List (List Value)) (j:Nat) (cs:Array Value),catL k vs css→cs.size=(j+vs.length)*k→Instr.fill (fun i=>some (i*k,k)) cs (idxL j vs)=some (cs.toList.take (j*k)++css.flatten).toArray
 | [],[],j,cs,_,h=>by
  simp only [idxL,Instr.fill,List.flatten_nil,List.append_nil]
  congr 1
  apply Array.ext'
  simp at h
  simp [List.take_of_length_le,h]
 | v :: vs,c :: css,j,cs,⟨hv,hc,hr⟩,h=>by
  have hl:(v :: vs).length=vs.length+1:=rfl
  rw [hl] at h
  have hmul:(j+(vs.length+1))*k=j*k+k+vs.length*k:=by rw [Nat.add_mul,Nat.add_mul]; omega
  have hseg:=j1V (j*k) c 0 cs (by rw [hc]; omega)
  simp only [idxL,Instr.fill,hv]
  have e1:¬ ((c.toArray.size≠k||j*k+c.toArray.size > cs.size)=true):=by simp [hc]; omega
  rw [if_neg e1]
  have e2:(c.toArray.zipIdx.foldl (fun cs (x:Value × Nat)=>cs.setIfInBounds (j*k+x.2) x.1) cs)=(cs.toList.take (j*k)++(c++cs.toList.drop (j*k+(0+c.length)))).toArray:=by
   apply Array.ext'
   rw [Nat.add_zero] at hseg
   rw [← Array.foldl_toList]
   refine Eq.trans ?_ hseg
   simp
  have ih:=j1W vs css (j+1) (cs.toList.take (j*k)++(c++cs.toList.drop (j*k+(0+c.length)))).toArray hr (by
   simp [hc]
   rw [Nat.min_eq_left (by omega),Nat.add_mul,Nat.add_mul]
   omega)
  refine (congrArg (fun q=>Instr.fill _ q _) e2).trans (ih.trans ?_)
  congr 1
  apply Array.ext'
  simp only [List.flatten_cons]
  rw [← List.append_assoc,← List.append_assoc]
  rw [List.take_append_of_le_length (by simp [hc,Nat.add_mul]; omega),List.take_of_length_le (by simp [hc,Nat.add_mul]; omega)]
 | [],_ :: _,_,_,h,_=>h.elim
 | _ :: _,[],_,_,h,_=>h.elim
section
variable {F0:Nat→Prop}{M:List Nat}{w0 w w' : World}{fr:List Pr}{ow:List It}{i j:Nat}{e:TypeId}{v:Value}{cs:List Value}
variable {P:Program}{n d:Nat}{Q:Post}{ρ:Env}{ops:Array Oper}{o:Oper}{rest:List Oper}
theorem j7U {T m k:Nat}{z:List Value}{vs:List Value}{css:List (List Value)}(hT:q4Y P T=some e)(hk:szT P e=some k)(hz:q6d P e=some z)(hzk:z.length=k)(h1:catL k vs css)(hn:vs.length=m)(hk0:Nat.blt 0 k=true)(hm:Nat.blt 0 m=true)(hm2:Nat.ble (m*k) 100000=true) :
  (Instr.buildSlice T m (idxL 0 vs).toArray).run P w = .ok (.slice (some ⟨w.heap.size,0,none⟩) m m) (w.alloc (.cells css.flatten.toArray e)):=by
 obtain⟨zv,hzv,hzc⟩:=q6L (P:=P) (w:=w) hz
 have hm' : 0 < m:=by simpa using hm
 have hk' : 0 < k:=by simpa using hk0
 have hm2' : m*k≤100000:=by simpa using hm2
 have hpos:0 < m*k:=Nat.mul_pos hm' hk'
 have n1:¬ 16777216 < m*k:=by omega
 have n2:¬ m*k=0:=by omega
 have n3:¬ (m=0∨k=0):=by omega
 have hf:=j1W vs css 0 ((Array.range (m*k)).map (z.toArray[· % z.toArray.size]!)) h1 (by simp [hn])
 have hnr:=q8w (P:=P) (w:=w) e css.flatten
 have hr:(Array.range (m*k)).map (fun x=>z.toArray[x % z.toArray.size]!)=(Array.range (m*k)).map (z.toArray[· % z.toArray.size]!):=rfl
 unfold Instr.buildSlice
 simp only [Sem.run_bind,run_underlying (q5f hT),Result.andThen_ok,q4M hk,Sem.run_pure]
 simp only [Nat.zero_mul,List.take_zero,List.nil_append] at hf
 simp [n1,n2,hzv,hzc]
 simp only [List.size_toArray] at hf
 simp at hf
 rw [hf]
 simp [hnr]
theorem q2c {α:Type}[Rep α]{T m k:Nat}{z:List Value}{parts:Array (Nat × Operand)}{vs:List Value}{css:List (List Value)}{xs:List α}(hg:o.guard=none)(hd:o.dst=some d)(ho:o.op = .buildSlice T m parts)(hT:q4Y P T=some e)(hk:szT P e=some k)(hz:q6d P e=some z)(hzk:z.length=k)
  (hp:parts.toList.map (fun p=>(p.1,E.ev ρ p.2))=idxL 0 vs) (h1:catL k vs css) (hn:vs.length=m) (hk0:Nat.blt 0 k=true) (hm:Nat.blt 0 m=true) (hm2:Nat.ble (m*k) 100000=true) (hx:∀ F,AllP F w fr→rdL F w xs css.flatten) (hs:Rep.sz α=k) (hlen:xs.length=m) (H:HL F0 M w0 w fr ow)
  (h:∀ A q c w',HL F0 M w0 w' fr (ow++[It.G e xs (.slice A q c)])→WL P n ops Q rest (upd ρ d (.slice A q c)) w'):WL P n ops Q (o :: rest) ρ w:=
 q0v hg fun a K ha hok hK=>by
  unfold Oper.wp
  rw [q4n ha hok]
  have hp' : parts.map (fun p=>(p.1,E.ev ρ p.2))=(idxL 0 vs).toArray:=by
   apply Array.ext'; simpa using hp
  have hr:=j7U (P:=P) (w:=w) hT hk hz hzk h1 hn hk0 hm hm2
  simp only [execOp,ho,hp',Sem.run_bind,hr,Result.andThen_ok,Sem.run_pure]
  refine hK _ _ (by
   rw [hd]
   refine h _ _ _ _ ?_
   have hm2' : m*k≤100000:=by simpa using hm2
   have hk' : 0 < k:=by simpa using hk0
   have:m≤m*k:=Nat.le_mul_of_pos_right m hk'
   have hml:xs.length≤maxLen:=by show _≤9223372036854775807; omega
   have hE:=Ext.alloc w (.cells css.flatten.toArray e)
   have H1:=H.new1 (o:=It.emp) (L:=[]) (C:=[]) (Ext.refl w) (fun _=>⟨rfl,rfl⟩) (by simp) (by simp) fun _ _ _ _ _ h=>h
   obtain⟨F,L,C,hP,hnF,⟨hL,hC⟩,hN,hF,hupd⟩:=H1.updP (i:=ow.length) (o:=It.emp) (by simp)
   subst hL; subst hC
   have hB:=q6Y w e css.flatten
   have h2:=hupd (o':=It.G e xs (.slice (some ⟨w.heap.size,0,none⟩) xs.length xs.length)) (L':=[w.heap.size]) (C':=[]) (hE.mono fun q _ e=>e.elim) (fun F' hm=>⟨css.flatten,.inl ⟨Own.of_blk hB (by rw [h1.len,hs,hlen,hn]) (Nat.zero_le _) hml,rfl⟩,rfl,((hx F hP).frame fun b _ hl=>hE.block b hl id).mono hm⟩) (by simp) (fun q hq=>by simp at hq; right; omega) (by simp)
   rw [List.set_append_right _ _ (Nat.le_refl _),Nat.sub_self,List.set_cons_zero,hlen] at h2
   exact h2)
end
theorem ownL.consK {α:Type}[Sep α]{w:World}{x:α}{xs:List α}{c r:List Value}(h:own [] w x c)(h2:ownL w [] xs r):ownL w [] (x :: xs) (c++r):=⟨[],[],c,r,rfl,rfl,h,h2⟩
theorem rdL.consK {α:Type}[Rep α]{S:Nat→Prop}{w:World}{x:α}{xs:List α}{c r:List Value}(h:rd S w x c)(h2:rdL S w xs r):rdL S w (x :: xs) (c++r):=⟨c,r,rfl,h,h2⟩
theorem j5X {w:World}:∀ {xs:List Int} {C:List Nat} {cs:List Value},ownL w C xs cs→C=[]
 | [],_,_,h=>h.1
 | x :: xs,_,_,⟨L1,L2,c,r,hL,_,h1,h2⟩=>by
  obtain⟨h1,_⟩:=h1
  subst h1
  rw [hL,j5X h2]; rfl
theorem j5Y {S:Nat→Prop}{w:World}:∀ {xs:List Int} {cs:List Value},rdL S w xs cs→(∀ w',ownL w' [] xs cs)∧(∀ v∈cs,v.oneCell'=true)∧cs.length=xs.length
 | [],_,h=>by rw [show _=_ from h]; exact⟨fun _=>⟨rfl,rfl⟩,by simp,rfl⟩
 | x :: xs,_,⟨c,r,hc,h1,h2⟩=>by
  subst hc
  obtain⟨rfl,hx⟩:=h1
  obtain⟨b1,b2,b3⟩:=j5Y h2
  exact⟨fun w'=>ownL.consK ⟨rfl,rfl,hx⟩ (b1 w'),fun v hv=>(List.mem_append.1 hv).elim (fun h=>by simp at h; subst h; rfl) (b2 v),by simp [b3]⟩
section
variable {F0:Nat→Prop}{M:List Nat}{w0 w w' : World}{fr:List Pr}{ow:List It}{i j:Nat}{e:TypeId}{v u:Value}{cs:List Value}
variable {P:Program}{n d:Nat}{Q:Post}{ρ:Env}{ops:Array Oper}{o:Oper}{rest:List Oper}
theorem q2o {T T2:TypeId}{x y:Operand}{xs ys:List Int}{S:Nat→Prop}(hg:o.guard=none)(hd:o.dst=some d)
  (ho:o.op = .call { callee:=.builtin .copy,args:=#[x,y],argTypes:=#[T,T2] }) (hT:q4Y P T=some e) (hk:szT P e=some 1)
  (hx:E.ev ρ x=v) (hy:E.ev ρ y=u) (H:HL F0 M w0 w fr ow) (hi:ow[i]? = some (It.O e xs v)) (hr:rdS S w ys u)
  (hlen:ys.length=xs.length) (h:∀ w',HL F0 M w0 w' fr (ow.set i (It.O e ys v))→WL P n ops Q rest (upd ρ d (.int .i64 (ys.length:Int))) w'):WL P n ops Q (o :: rest) ρ w:=by
 refine q0v hg fun a K ha hok hK=>?_
 unfold Oper.wp
 rw [q4n ha hok]
 have hsz:(P.info? e).map (·.size)=some 1:=hk
 obtain⟨F,L,C,⟨cs,h0,h3⟩,hN,hF,hupd⟩:=H.upd hi
 obtain⟨A,cap,ds,rfl,hc1,hc2,hds,hcase⟩:=hr
 obtain⟨o1,o2,o3⟩:=j5Y hds
 obtain rfl:=j5X h3
 by_cases hz:ys=[]
 ·subst hz
  have hxs:xs=[]:=List.eq_nil_of_length_eq_zero hlen.symm
  subst hxs
  obtain⟨A',c',rfl,_⟩:=h0.form
  have hrun:(Builtin.copy_ #[T,T2] o.type #[.slice A' 0 c',.slice A 0 cap]).run P w = .ok (goInt 0) w:=run_copy_none w T T2 o.type e A' A 0 c' 0 cap (q5f hT) hsz rfl
  have hx' : E.ev ρ x = .slice A' 0 c':=hx
  have hy' : E.ev ρ y = .slice A 0 cap:=hy
  simp only [execOp,ho,resolve,invoke,builtin,Sem.run_bind,Sem.run_pure,Result.andThen_ok,List.map_toArray,List.map_cons,List.map_nil,hx',hy',hrun]
  refine hK _ _ ?_
  rw [hd]
  refine h w ?_
  have:ow.set i (It.O e ([]:List Int) (.slice A' 0 c'))=ow:=by
   apply List.ext_getElem?
   intro k
   rw [List.getElem?_set]
   split
   ·next hik=>subst hik; rw [hi]; simp [(List.getElem?_eq_some_iff.1 hi).1]
   ·rfl
  have hv:(.slice A' 0 c' : Value) = .slice A' ([]:List Int).length c':=rfl
  show HL F0 M w0 w fr (ow.set i (It.O e ([]:List Int) (.slice A' 0 c')))
  rw [this]; exact H
 ·obtain⟨b,off,rfl,_,hat⟩:=hcase.resolve_left hz
  have hpos:0 < xs.length:=by rw [← hlen]; exact List.length_pos_iff.2 hz
  obtain⟨h1,h2⟩:=h0.own hpos
  rcases h1.2 with ⟨_,h00⟩ | ⟨g,c',cur,rfl,hb0,hgb,hn,hcm,hs,ht⟩
  ·omega
  ·have hs1:Rep.sz Int=1:=rfl
   rw [hs1,Nat.mul_one] at hs
   have hrun:=run_copy_row (P:=P) w T T2 o.type e g 0 xs.length c' ⟨b,off,none⟩ ys.length cap cur e ds (q5f hT) hsz hgb (by rw [o3,hlen]; simp) (fun j v hv=>by
    have:=hat j v hv
    by_cases hj:j=0
    ·subst hj; simpa [Addr.add] using this
    ·simpa [Addr.add,hj] using this) (by rw [o3,hlen]; omega) o2
   simp only [execOp,ho,resolve,invoke,builtin,Sem.run_bind,Sem.run_pure,Result.andThen_ok,List.map_toArray,List.map_cons,List.map_nil,hx,hy,hrun]
   refine hK _ _ ?_
   rw [hd]
   have e3:(Value.int .i64 (ys.length:Int))=goInt ds.length:=by rw [o3]; rfl
   rw [e3] at h
   refine h _ ?_
   have hB:Blk w g e cur.toList:=by simpa [Blk] using hgb
   have hsp:cur.toList.take 0++ds++cur.toList.drop (0+ds.length)=q3O cur.toList 0 ds:=rfl
   rw [hsp]
   have hc:=z6J w g (q3O cur.toList 0 ds).toArray
   have hb' : Blk (w.setRow g (q3O cur.toList 0 ds).toArray) g e (q3O cur.toList 0 ds):=setRow_heap w g _ _ e _ hgb
   have hst:=h1.st (w':=w.setRow g (q3O cur.toList 0 ds).toArray) rfl hB (off:=0) (l:=ds) (by rw [o3,hlen,hs1]; omega) hb'
   have hcl:cs.length=xs.length*Rep.sz Int:=h1.1
   have hspl:q3O cs 0 ds=ds:=by
    unfold q3O
    rw [List.drop_eq_nil_of_le (by rw [hcl,hs1,o3,hlen]; omega)]
    simp
   rw [hspl,← hlen] at hst
   rw [← hlen]
   exact hupd (L':=L) (C':=[]) (hc.mono fun q _ e=>by rw [h2]; simp [Value.ownBlock,e]) (fun F' _=>⟨ds,.inl ⟨hst,by rw [h2]; rfl⟩,o1 _⟩) (by simpa using hN) (fun q hq=>.inl hq) (by simp)
end
end Go.E
namespace Go.E
open Go
open Rep (rd)
open Sep (own)
section
variable {F0:Nat→Prop}{M:List Nat}{w0 w w' : World}{fr:List Pr}{ow:List It}{i j:Nat}{e:TypeId}{v:Value}{cs:List Value}
theorem HL.callWM (m:List Bool)(H:HL F0 M w0 w fr ow)(hC:NoC (q4h m ow)) :
  ∃ F' M',AllP F' w fr ∧
   ∀ {ps:List Pr},AllP F' w ps→HL F' M' w w ps (q4h m ow) ∧
    ∀ {w' : World} {rs:List Pr} {ow1 ow2:List It},HL F' M' w w' rs (ow1++ow2)→ow1.length=(q4h m ow).length→HL F0 M w0 w' (fr++rs) (q6v m ow ow1++ow2):=by
 obtain⟨Fr,LC,h1,h2,h3,h4,h5,h6⟩:=H
 obtain⟨hm,hr⟩:=h3.mask m
 have hlt:=h3.lt
 have hp:=z5L m LC
 have hcm:=hC.claims hm
 have h4p:=List.nodup_append.1 (z2j h4 hp)
 have h4q:=List.nodup_append.1 h4p.2.1
 -- what may be read
 have hF:∀ q,fz F0 w0 M (Fr++claims LC) q→q < w.heap.size→q < w.heap.size∧q ∉ blks (q4h m LC):=fun q hq hl=>⟨hl,fun hb=>by
  rcases hq with ⟨_,g1,g2⟩ | hq
  ·rcases h6 q (List.mem_append.2 (.inr (hp.mem_iff.2 (List.mem_append.2 (.inl hb))))) with h | h
   ·exact g2 h
   ·omega
  ·rcases List.mem_append.1 hq with hq | hq
   ·exact h4p.2.2 q hq q (List.mem_append.2 (.inl hb)) rfl
   ·rcases q9l m LC q hq with h | h
    ·rw [hcm] at h; simp at h
    ·exact h4q.2.2 q hb q (q4N h) rfl⟩
 have hFl:∀ q,fz F0 w0 M (Fr++claims LC) q→q < w.heap.size:=fun q hq=>by
  rcases hq with ⟨_,g1,_⟩ | hq
  ·exact Nat.lt_of_lt_of_le g1 h1.size
  ·rcases List.mem_append.1 hq with hq | hq
   ·exact h5 q hq
   ·exact hlt q (q4N hq)
 refine⟨fz F0 w0 M (Fr++claims LC),blks (q4h m LC),h2,fun {ps} hps=>⟨?_,?_⟩⟩
 ·refine⟨[],q4h m LC,Chg.refl w,hps.mono fun q hq=>.inl ⟨hq,hFl q hq,(hF q hq (hFl q hq)).2⟩,AllI.trans (fun q hq=>.inl ⟨hq,hFl q hq,(hF q hq (hFl q hq)).2⟩) (fun _ _ _=>rfl) hm fun _ _=>rfl,by simpa using h4q.1,by simp,fun q hq=>.inl (by simpa using hq)⟩
 ·rintro w' rs ow1 ow2 ⟨Fr2,LC2,k1,k2,k3,k4,k5,k6⟩ hn
  obtain⟨A2,B2,rfl,ka,kb⟩:=k3.unapp
  have hA2:A2.length=(q4h m LC).length:=by rw [← ka.length,hn,hm.length]
  have hpm:=z4x m LC A2 hA2
  have hcm2:=z1y m LC A2 hA2
  have hs1:∀ q,fz F0 w0 M (Fr++claims LC) q→fz F0 w0 M ((Fr++Fr2)++claims (q6v m LC A2++B2)) q:=z2i fun q hq=>by
   rw [q4O]
   simp only [List.mem_append,hcm2] at hq ⊢
   rcases hq with h | h
   ·simp [h]
   ·rcases q9l m LC q h with h | h
    ·rw [hcm] at h; simp at h
    ·simp [h]
  have hs2:∀ q,fz (fz F0 w0 M (Fr++claims LC)) w (blks (q4h m LC)) (Fr2++claims (A2++B2)) q→fz F0 w0 M ((Fr++Fr2)++claims (q6v m LC A2++B2)) q:=fun q hq=>by
   rcases hq with ⟨h,_,_⟩ | h
   ·exact hs1 q h
   ·refine .inr ?_
    rw [q4O] at h ⊢
    simp only [List.mem_append,hcm2] at h ⊢
    rcases h with h | h | h<;>simp [h]
  have hfr:∀ q,fz F0 w0 M (Fr++claims LC) q→q < w.heap.size→w'.heap[q]? = w.heap[q]?:=fun q hq hl=>k1.block q hl fun hm=>(hF q hq hl).2 hm
  have k6' : ∀ q∈Fr2++blks (A2++B2),q∈blks (q4h m LC)∨w.heap.size≤q:=k6
  have hrl:∀ q∈blks (q7D m LC),q < w.heap.size∧q ∉ blks (q4h m LC):=fun q hq=>⟨hlt q (hp.mem_iff.2 (List.mem_append.2 (.inr hq))),fun hm=>h4q.2.2 q hm q hq rfl⟩
  have hFr:∀ q∈Fr,q < w.heap.size∧q ∉ blks (q4h m LC):=fun q hq=>⟨h5 q hq,fun hm=>h4p.2.2 q hq q (List.mem_append.2 (.inl hm)) rfl⟩
  have hpb:(blks (q6v m LC A2++B2)).Perm (blks (A2++B2)++blks (q7D m LC)):=by
   rw [q4S,q4S]
   refine (hpm.append_right _).trans ?_
   rw [List.append_assoc,List.append_assoc]
   exact List.Perm.append_left _ List.perm_append_comm
  refine⟨Fr++Fr2,q6v m LC A2++B2,?_,((h2.frame hfr).mono hs1).app (k2.mono hs2),?_,?_,?_,?_⟩
  ·refine⟨k1.os.trans h1.os,k1.tape.trans h1.tape,k1.output.trans h1.output,Nat.le_trans h1.size k1.size,fun k hk hnm=>?_⟩
   refine (k1.block k (Nat.lt_of_lt_of_le hk h1.size) fun hl=>?_).trans (h1.block k hk hnm)
   rcases h6 k (List.mem_append.2 (.inr (hp.mem_iff.2 (List.mem_append.2 (.inl hl))))) with h | h
   ·exact hnm h
   ·omega
  ·exact AllI.app (AllI.merge m h3.length (AllI.trans hs1 hfr hr fun q hq=>k1.block q (hrl q hq).1 (hrl q hq).2) (AllI.trans hs2 (fun _ _ _=>rfl) ka fun _ _=>rfl) hn) (AllI.trans hs2 (fun _ _ _=>rfl) kb fun _ _=>rfl)
  ·refine (List.Perm.append_left _ hpb).nodup_iff.2 ?_
   have k4':=List.nodup_append.1 k4
   rw [List.append_assoc,List.nodup_append]
   refine⟨h4p.1,?_,fun x hx y hy e=>?_⟩
   ·rw [← List.append_assoc,List.nodup_append]
    refine⟨k4,h4q.2.1,fun x hx y hy e=>?_⟩
    subst e
    have:=hrl x hy
    rcases k6' x hx with h | h
    ·exact this.2 h
    ·omega
   ·subst e
    have:=hFr x hx
    rcases List.mem_append.1 hy with hy | hy
    ·rcases k6' x (List.mem_append.2 (.inl hy)) with h | h
     ·exact this.2 h
     ·omega
    ·rcases List.mem_append.1 hy with hy | hy
     ·rcases k6' x (List.mem_append.2 (.inr hy)) with h | h
      ·exact this.2 h
      ·omega
     ·exact h4p.2.2 x hx x (List.mem_append.2 (.inr hy)) rfl
  ·intro q hq
   rcases List.mem_append.1 hq with h | h
   ·exact Nat.lt_of_lt_of_le (h5 q h) k1.size
   ·exact k5 q h
  ·intro q hq
   have conv:∀ q∈Fr2++blks (A2++B2),q∈M∨w0.heap.size≤q:=fun q hq=>by
    rcases k6' q hq with h | h
    ·exact h6 q (List.mem_append.2 (.inr (hp.mem_iff.2 (List.mem_append.2 (.inl h)))))
    ·exact .inr (Nat.le_trans h1.size h)
   rcases List.mem_append.1 hq with hq | hq
   ·rcases List.mem_append.1 hq with hq | hq
    ·exact h6 q (List.mem_append.2 (.inl hq))
    ·exact conv q (List.mem_append.2 (.inl hq))
   ·rcases List.mem_append.1 (hpb.mem_iff.1 hq) with hq | hq
    ·exact conv q (List.mem_append.2 (.inr hq))
    ·exact h6 q (List.mem_append.2 (.inr (hp.mem_iff.2 (List.mem_append.2 (.inr hq)))))
theorem HL.callW (m:List Bool)(H:HL F0 M w0 w fr ow)(hC:NoC (q4h m ow)) :
  ∃ F' M',AllP F' w fr ∧
   ∀ {ps:List Pr},AllP F' w ps→HL F' M' w w ps (q4h m ow) ∧
    ∀ {w' : World} {rs:List Pr} {l:List It} (n:Nat),HL F' M' w w' rs l→(l.take n).length=(q4h m ow).length→HL F0 M w0 w' (fr++rs) (q6v m ow (l.take n)++l.drop n):=by
 obtain⟨F',M',h1,h3⟩:=H.callWM m hC
 refine⟨F',M',h1,fun hps=>⟨(h3 hps).1,fun n H2 hn=>?_⟩⟩
 exact (h3 hps).2 (by rwa [List.take_append_drop]) hn
end
end Go.E
namespace Go.E
open Go
section
variable {P:Program}{ρ:Env}{w:World}
theorem j9M {fn:Func}{t0:Nat}{u0:Value}{t1:Nat}{u1:Value}{t2:Nat}{u2:Value}(hr:fn.results=#[.tmp t0,.tmp t1,.tmp t2])(ht0:Nat.blt t0 fn.ntmps=true)(hu0:ρ t0=u0)(ht1:Nat.blt t1 fn.ntmps=true)(hu1:ρ t1=u1)(ht2:Nat.blt t2 fn.ntmps=true)(hu2:ρ t2=u2):∀ a:Act,Rel fn.ntmps ρ a→(results fn a.tmps).run P w = .ok (.tuple #[u0,u1,u2]) w:=fun a ha=>by
 have h0:a.tmps.getD t0 undef=u0:=(ha.at_ t0 (by simpa using ht0)).trans hu0
 have h1:a.tmps.getD t1 undef=u1:=(ha.at_ t1 (by simpa using ht1)).trans hu1
 have h2:a.tmps.getD t2 undef=u2:=(ha.at_ t2 (by simpa using ht2)).trans hu2
 simp only [Array.getD_eq_getD_getElem?] at h0 h1 h2
 simp [results,hr,h0,h1,h2]
end
end Go.E
namespace Go.E
open Go
open Rep (rd)
open Sep (own)
section
variable {P:Program}{ρ:Env}{w:World}{o:Oper}
end
end Go.E
namespace Go.E
open Go
open Rep (rd)
open Sep (own)
theorem At.same {w:World}{b o:Nat}{cs ds:List Value}(h1:At w b o cs)(h2:At w b o ds)(hl:cs.length=ds.length):cs=ds:=by
 apply List.ext_getElem?
 intro j
 by_cases hj:j < cs.length
 ·have a1:=h1 j cs[j] (List.getElem?_eq_getElem hj)
  have a2:=h2 j (ds[j]'(by omega)) (List.getElem?_eq_getElem (by omega))
  rw [a1] at a2
  rw [List.getElem?_eq_getElem hj,List.getElem?_eq_getElem (by omega)]
  exact a2
 ·rw [List.getElem?_eq_none (by omega),List.getElem?_eq_none (by omega)]
section
variable {F0:Nat→Prop}{M:List Nat}{w0 w w' : World}{fr:List Pr}{ow:List It}{i j:Nat}{e:TypeId}{v:Value}{cs:List Value}
variable {P:Program}{n d:Nat}{Q:Post}{ρ:Env}{ops:Array Oper}{o:Oper}{rest:List Oper}
theorem q1M {α:Type}[Rep α]{T b:Nat}{z:List Value}{s x:Operand}{xs ys:List α}{u:Value}(hg:o.guard=none)(hd:o.dst=some d)
  (ho:o.op = .call { callee:=.builtin .append,args:=#[s,x],argTypes:=#[T,T] }) (hT:q4Y P T=some e) (hk:szT P e=some (Rep.sz α)) (hb:byT P e=some b) (hz:q6d P e=some z) (hzk:z.length=Rep.sz α)
  (hs:E.ev ρ s=v) (hx:E.ev ρ x=u) (H:HL F0 M w0 w fr ow) (hi:ow[i]? = some (It.G e xs v)) (hj:fr[j]? = some (Pr.S ys u))
  (hmax:((xs.length:Int)+(ys.length:Int))*b≤140737488355328∧(xs.length:Int)+ys.length≤9223372036854775807)
  (h:∀ A m c w',HL F0 M w0 w' fr (ow.set i (It.G e (xs++ys) (.slice A m c)))→WL P n ops Q rest (upd ρ d (.slice A m c)) w'):WL P n ops Q (o :: rest) ρ w:=by
 obtain⟨F,hF⟩:∃ F,AllP F w fr:=by obtain⟨Fr,LC,_,h2,_⟩:=H; exact⟨_,h2⟩
 obtain⟨A,cap,cells,rfl,_,_,hr,hat⟩:=(hF.get hj:rdS F w ys u)
 refine q1k (news:=cells) hg hd ho hT hk hb hz hzk hs hx H hi (fun F' hF'=>?_) ?_ hmax h
 ·obtain⟨A',cap',cells',he,_,_,hr',hat'⟩:=(hF'.get hj:rdS F' w ys _)
  have hl:cells.length=cells'.length:=by rw [hr.len,hr'.len]
  rcases hat' with rfl | ⟨b',o',rfl,_,hat'⟩
  ·have e1:cells'=[]:=hr'
   subst e1
   obtain rfl:=List.eq_nil_of_length_eq_zero hl
   exact hr'
  ·rcases hat with rfl | ⟨b1,o1,rfl,_,hat⟩
   ·have e1:cells=[]:=hr
    subst e1
    obtain rfl:=List.eq_nil_of_length_eq_zero hl.symm
    exact hr'
   ·injection he with h1 _ _
    injection h1 with h1
    injection h1 with h1 h2 _
    subst h1; subst h2
    rw [hat.same hat' hl]; exact hr'
 ·rcases hat with rfl | ⟨b,o,rfl,_,hat⟩
  ·exact .inl rfl
  ·exact .inr ⟨b,o,rfl,hat⟩
end
end Go.E
namespace Go.E
open Go
open Rep (rd)
open Sep (own)
theorem rdL.set {α:Type}[Rep α]{F:Nat→Prop}{w:World}{z:α}{l:List Value}(hz:rd F w z l):∀ {xs:List α} {cs:List Value} {k:Nat},rdL F w xs cs→k < xs.length→rdL F w (xs.set k z) (q3O cs (k*Rep.sz α) l)
 | [],_,_,_,hk=>by simp at hk
 | x :: xs,_,0,⟨c,r,rfl,hc,hr⟩,_=>by
  have h1:=Rep.len hc
  have h2:=Rep.len hz
  refine⟨l,r,?_,hz,hr⟩
  rw [Nat.zero_mul,q3O,List.take_zero,List.nil_append,Nat.zero_add,h2,← h1,List.drop_left]
 | x :: xs,_,k+1,⟨c,r,rfl,hc,hr⟩,hk=>by
  have h1:=Rep.len hc
  have ih:=rdL.set hz (k:=k) hr (by simpa using hk)
  refine⟨c,q3O r (k*Rep.sz α) l,?_,hc,ih⟩
  have e:(k+1)*Rep.sz α=c.length+k*Rep.sz α:=by rw [h1,Nat.succ_mul,Nat.add_comm]
  unfold q3O
  rw [e,List.take_length_add_append,show c.length+k*Rep.sz α+l.length=c.length+(k*Rep.sz α+l.length) by omega,List.drop_length_add_append]
  simp
section
variable {F0:Nat→Prop}{M:List Nat}{w0 w w' : World}{fr:List Pr}{ow:List It}{i j:Nat}{e:TypeId}{v:Value}{cs:List Value}
variable {P:Program}{n d:Nat}{Q:Post}{ρ:Env}{ops:Array Oper}{o:Oper}{rest:List Oper}
theorem q0Y {α:Type}[Rep α]{T:TypeId}{a y:Operand}{xs:List α}{u:Value}{l:List Value}{z:α}{b k:Nat}(hg:o.guard=none)(hd:o.dst=none)(ho:o.op = .store T a y)(hk:szT P T=some (Rep.sz α))(hx:E.ev ρ a = .pointer (some ⟨b,0+k*Rep.sz α,none⟩))(hy:E.ev ρ y=u)
  (hu:u.cells=l.toArray) (hz:∀ F,AllP F w fr→rd F w z l) (H:HL F0 M w0 w fr ow) (hi:ow[i]? = some (It.G e xs v)) (hb:v.ownBlock=some b) (hlt:k < xs.length)
  (h:∀ w',HL F0 M w0 w' fr (ow.set i (It.G e (xs.set k z) v))→WL P n ops Q rest ρ w'):WL P n ops Q (o :: rest) ρ w:=by
 obtain⟨F,L,C,hP,hnF,⟨cs,h0,rfl,h3⟩,hN,hF,hupd⟩:=H.updP hi
 obtain⟨h1,h2⟩:=h0.own hlt
 have hrz:=hz F hP
 obtain⟨cur,hcur⟩:∃ cur,Blk w b e cur:=by
  rcases h1.2 with ⟨rfl,_⟩ | ⟨g,cap,cur,rfl,_,hg,_⟩
  ·cases hb
  ·cases hb; exact⟨cur.toList,by simpa [Blk] using hg⟩
 have hmul:k*Rep.sz α+Rep.sz α≤xs.length*Rep.sz α:=by rw [← Nat.succ_mul]; exact Nat.mul_le_mul_right _ hlt
 have hlen:xs.length*Rep.sz α≤cur.length:=by
  rcases h1.2 with ⟨rfl,_⟩ | ⟨g,cap,cur2,rfl,_,hg,hn,_,hs,_⟩
  ·cases hb
  ·cases hb
   have h1:w.heap[g]? = some (.cells cur.toArray e (0,0)):=hcur
   rw [h1] at hg; injection hg with hg; injection hg with hg; subst hg
   simp only [List.size_toArray] at hs
   rw [hs]; exact Nat.mul_le_mul_right _ hn
 refine WL.st hg hd ho hk hx hy hu (Rep.len hrz) (Rep.one hrz) hcur (by omega) fun w' hc hb'=>h w' ?_
 have f:∀ q,F q→q < w.heap.size→w'.heap[q]? = w.heap[q]?:=fun q hq hl=>hc.block q hl fun e=>hnF q (by rw [h2,hb]; simpa using e) hq
 refine hupd (L':=L) (C':=[]) (hc.mono fun q _ e=>by rw [h2,hb]; simp [e]) (fun F' hm=>⟨q3O cs (k*Rep.sz α) l,.inl ⟨?_,h2⟩,rfl,((rdL.set hrz h3 hlt).frame f).mono hm⟩) (by rw [List.append_nil]; exact h0.nodup) (fun q hq=>.inl hq) (by simp)
 rw [List.length_set,← Nat.zero_add (k*Rep.sz α)]
 exact h1.st hb hcur (by rw [Rep.len hrz]; omega) hb'
end
end Go.E
namespace Go.E
open Go
theorem ixJ {P:Program}{ρ:Env}{o:Oper}{w:World}{v:Value}{T:TypeId}{x j:Operand}{b off n' c:Nat}{q:IntKind}{m k:Nat}{α:Type}{xs:List α}{y:α}(ho:o.op = .indexAddr T x j)(hT:(q4Y P T).bind (szT P)=some k)(hx:E.ev ρ x=v)(hv:v = .slice (some ⟨b,off,none⟩) n' c)(hj:E.ev ρ j = .int q (m:Int))(hn:xs.length=n')(hy:xs[m]? = some y):Ev P ρ o w (.pointer (some ⟨b,off+m*k,none⟩)):=by
 obtain⟨e,h1,h2⟩:=Option.bind_eq_some_iff.1 hT
 exact q0V ho h1 h2 hx hv hj (hn▸(List.getElem?_eq_some_iff.1 hy).1)
section
variable {P:Program}{n:Nat}{Q:Post}{ρ:Env}{w w0:World}{ops:Array Oper}{o:Oper}{rest:List Oper}{d:Nat}{v:Value}{F0:Nat→Prop}{M:List Nat}{fr:List Pr}{ow:List It}{C:World→Prop}{F:Env→Prop}
theorem V {x:Operand}  (hg:o.guard=none:=by exact rfl)(hd:o.dst=some d:=by exact rfl)(ho:o.op = .move x:=by exact rfl)(hx:E.ev ρ x=v:=by exact rfl)(h:WL P n ops Q rest (upd ρ d v) w):WL P n ops Q (o :: rest) ρ w:=q0b hg hd (q0j ho hx) h
theorem qV {x:Operand}  (hg:o.guard=none:=by exact rfl)(hd:o.dst=some d:=by exact rfl)(ho:o.op = .move x:=by exact rfl)(hx:E.ev ρ x=v:=by exact rfl)(h:QL P n ops C F rest (upd ρ d v)):QL P n ops C F (o :: rest) ρ:=q0i hg hd (fun _ hq=>q0j ho hx) h
theorem A {x:Operand}  (hg:o.guard=none:=by exact rfl)(hd:o.dst=some d:=by exact rfl)(ho:o.op = .assign x:=by exact rfl)(hx:E.ev ρ x=v:=by exact rfl)(h:WL P n ops Q rest (upd ρ d v) w):WL P n ops Q (o :: rest) ρ w:=q0b hg hd (q1m ho hx) h
theorem qA {x:Operand}  (hg:o.guard=none:=by exact rfl)(hd:o.dst=some d:=by exact rfl)(ho:o.op = .assign x:=by exact rfl)(hx:E.ev ρ x=v:=by exact rfl)(h:QL P n ops C F rest (upd ρ d v)):QL P n ops C F (o :: rest) ρ:=q0i hg hd (fun _ hq=>q1m ho hx) h
theorem D {T:TypeId}{x:Operand}{i b off:Nat}(k:Nat)(hg:o.guard=none:=by exact rfl)(hd:o.dst=some d:=by exact rfl)(ho:o.op = .fieldAddr T x i:=by exact rfl)(hT:q7u P T i=some k:=by kernel_rfl)(hx:E.ev ρ x = .pointer (some ⟨b,off,none⟩):=by exact rfl)(h:WL P n ops Q rest (upd ρ d (.pointer (some ⟨b,off+k,none⟩))) w):WL P n ops Q (o :: rest) ρ w:=q0b hg hd (q0m ho hT hx) h
theorem qD {T:TypeId}{x:Operand}{i b off:Nat}(k:Nat)(hg:o.guard=none:=by exact rfl)(hd:o.dst=some d:=by exact rfl)(ho:o.op = .fieldAddr T x i:=by exact rfl)(hT:q7u P T i=some k:=by kernel_rfl)(hx:E.ev ρ x = .pointer (some ⟨b,off,none⟩):=by exact rfl)(h:QL P n ops C F rest (upd ρ d (.pointer (some ⟨b,off+k,none⟩)))):QL P n ops C F (o :: rest) ρ:=q0i hg hd (fun _ hq=>q0m ho hT hx) h
theorem L {T:TypeId}{x:Operand}{b off T' : Nat}{cs:List Value}(H:HL F0 M w0 w fr ow)(i:Nat)(hg:o.guard=none:=by exact rfl)(hd:o.dst=some d:=by exact rfl)(ho:o.op = .load T x:=by exact rfl)(hT:aggT P T=some false:=by kernel_rfl)(hx:E.ev ρ x = .pointer (some ⟨b,off,none⟩):=by exact rfl)(hi:ow[i]? = some (It.B b T' cs):=by exact rfl)(hc:cs[off]? = some v:=by exact rfl)(h:WL P n ops Q rest (upd ρ d v) w):WL P n ops Q (o :: rest) ρ w:=q0b hg hd (q0h ho hT hx ((H.rB hi).cell hc)) h
theorem qL {T:TypeId}{x:Operand}{b off T' : Nat}{cs:List Value}(H:HL F0 M w0 w fr ow)(i:Nat)(hg:o.guard=none:=by exact rfl)(hd:o.dst=some d:=by exact rfl)(ho:o.op = .load T x:=by exact rfl)(hT:aggT P T=some false:=by kernel_rfl)(hx:E.ev ρ x = .pointer (some ⟨b,off,none⟩):=by exact rfl)(hi:ow[i]? = some (It.B b T' cs):=by exact rfl)(hc:cs[off]? = some v:=by exact rfl)(h:QL P n ops (Ext w) F rest (upd ρ d v)):QL P n ops (Ext w) F (o :: rest) ρ:=q0i hg hd (fun _ hq=>q0h ho hT hx (((H.ext hq).rB hi).cell hc)) h
theorem LB {T:TypeId}{x:Operand}{b T' : Nat}{cs:List Value}(H:HL F0 M w0 w fr ow)(i:Nat)(hg:o.guard=none:=by exact rfl)(hd:o.dst=some d:=by exact rfl)(ho:o.op = .load T x:=by exact rfl)(hT:aggT P T=some true:=by kernel_rfl)(hx:E.ev ρ x = .pointer (some ⟨b,0,none⟩):=by exact rfl)(hi:ow[i]? = some (It.B b T' cs):=by exact rfl)(hk:szT P T=some cs.length:=by kernel_rfl)(h:WL P n ops Q rest (upd ρ d (.agg cs.toArray)) w):WL P n ops Q (o :: rest) ρ w:=q0b hg hd (q0c ho hT hk hx (At.blk (H.rB hi)) rfl) h
theorem qLB {T:TypeId}{x:Operand}{b T' : Nat}{cs:List Value}(H:HL F0 M w0 w fr ow)(i:Nat)(hg:o.guard=none:=by exact rfl)(hd:o.dst=some d:=by exact rfl)(ho:o.op = .load T x:=by exact rfl)(hT:aggT P T=some true:=by kernel_rfl)(hx:E.ev ρ x = .pointer (some ⟨b,0,none⟩):=by exact rfl)(hi:ow[i]? = some (It.B b T' cs):=by exact rfl)(hk:szT P T=some cs.length:=by kernel_rfl)(h:QL P n ops (Ext w) F rest (upd ρ d (.agg cs.toArray))):QL P n ops (Ext w) F (o :: rest) ρ:=q0i hg hd (fun _ hq=>q0c ho hT hk hx (At.blk ((H.ext hq).rB hi)) rfl) h
theorem LA {T:TypeId}{x:Operand}{b off:Nat}{cs:List Value}(H:HL F0 M w0 w fr ow)(i:Nat)(hg:o.guard=none:=by exact rfl)(hd:o.dst=some d:=by exact rfl)(ho:o.op = .load T x:=by exact rfl)(hT:aggT P T=some true:=by kernel_rfl)(hx:E.ev ρ x = .pointer (some ⟨b,off,none⟩):=by exact rfl)(hi:fr[i]? = some (Pr.A b off cs):=by exact rfl)(hk:szT P T=some cs.length:=by kernel_rfl)(h:WL P n ops Q rest (upd ρ d (.agg cs.toArray)) w):WL P n ops Q (o :: rest) ρ w:=q0b hg hd (q0c ho hT hk hx (H.rA hi) rfl) h
theorem qLA {T:TypeId}{x:Operand}{b off:Nat}{cs:List Value}(H:HL F0 M w0 w fr ow)(i:Nat)(hg:o.guard=none:=by exact rfl)(hd:o.dst=some d:=by exact rfl)(ho:o.op = .load T x:=by exact rfl)(hT:aggT P T=some true:=by kernel_rfl)(hx:E.ev ρ x = .pointer (some ⟨b,off,none⟩):=by exact rfl)(hi:fr[i]? = some (Pr.A b off cs):=by exact rfl)(hk:szT P T=some cs.length:=by kernel_rfl)(h:QL P n ops (Ext w) F rest (upd ρ d (.agg cs.toArray))):QL P n ops (Ext w) F (o :: rest) ρ:=q0i hg hd (fun _ hq=>q0c ho hT hk hx ((H.ext hq).rA hi) rfl) h
theorem LC {T:TypeId}{x:Operand}{b off j:Nat}{cs:List Value}(H:HL F0 M w0 w fr ow)(i:Nat)(hg:o.guard=none:=by exact rfl)(hd:o.dst=some d:=by exact rfl)(ho:o.op = .load T x:=by exact rfl)(hT:aggT P T=some false:=by kernel_rfl)(hx:E.ev ρ x = .pointer (some ⟨b,off+j,none⟩):=by exact rfl)(hi:fr[i]? = some (Pr.A b off cs):=by exact rfl)(hc:cs[j]? = some v:=by exact rfl)(h:WL P n ops Q rest (upd ρ d v) w):WL P n ops Q (o :: rest) ρ w:=q0b hg hd (q0h ho hT hx ((H.rA hi).cell hc)) h
theorem qLC {T:TypeId}{x:Operand}{b off j:Nat}{cs:List Value}(H:HL F0 M w0 w fr ow)(i:Nat)(hg:o.guard=none:=by exact rfl)(hd:o.dst=some d:=by exact rfl)(ho:o.op = .load T x:=by exact rfl)(hT:aggT P T=some false:=by kernel_rfl)(hx:E.ev ρ x = .pointer (some ⟨b,off+j,none⟩):=by exact rfl)(hi:fr[i]? = some (Pr.A b off cs):=by exact rfl)(hc:cs[j]? = some v:=by exact rfl)(h:QL P n ops (Ext w) F rest (upd ρ d v)):QL P n ops (Ext w) F (o :: rest) ρ:=q0i hg hd (fun _ hq=>q0h ho hT hx (((H.ext hq).rA hi).cell hc)) h
theorem L0 {T:TypeId}{x:Operand}{b off:Nat}{cs:List Value}(H:HL F0 M w0 w fr ow)(i:Nat)(hg:o.guard=none:=by exact rfl)(hd:o.dst=some d:=by exact rfl)(ho:o.op = .load T x:=by exact rfl)(hT:aggT P T=some false:=by kernel_rfl)(hx:E.ev ρ x = .pointer (some ⟨b,off,none⟩):=by exact rfl)(hi:fr[i]? = some (Pr.A b off cs):=by exact rfl)(hc:cs[0]? = some v:=by exact rfl)(h:WL P n ops Q rest (upd ρ d v) w):WL P n ops Q (o :: rest) ρ w:=q0b hg hd (q0h ho hT hx ((H.rA hi).cell0 hc)) h
theorem qL0 {T:TypeId}{x:Operand}{b off:Nat}{cs:List Value}(H:HL F0 M w0 w fr ow)(i:Nat)(hg:o.guard=none:=by exact rfl)(hd:o.dst=some d:=by exact rfl)(ho:o.op = .load T x:=by exact rfl)(hT:aggT P T=some false:=by kernel_rfl)(hx:E.ev ρ x = .pointer (some ⟨b,off,none⟩):=by exact rfl)(hi:fr[i]? = some (Pr.A b off cs):=by exact rfl)(hc:cs[0]? = some v:=by exact rfl)(h:QL P n ops (Ext w) F rest (upd ρ d v)):QL P n ops (Ext w) F (o :: rest) ρ:=q0i hg hd (fun _ hq=>q0h ho hT hx (((H.ext hq).rA hi).cell0 hc)) h
theorem LT {T:TypeId}{x:Operand}{b off j:Nat}{cs:List Value}(hA:At w b off cs)(hg:o.guard=none:=by exact rfl)(hd:o.dst=some d:=by exact rfl)(ho:o.op = .load T x:=by exact rfl)(hT:aggT P T=some false:=by kernel_rfl)(hx:E.ev ρ x = .pointer (some ⟨b,off+j,none⟩):=by exact rfl)(hc:cs[j]? = some v:=by exact rfl)(h:WL P n ops Q rest (upd ρ d v) w):WL P n ops Q (o :: rest) ρ w:=q0b hg hd (q0h ho hT hx (hA.cell hc)) h
theorem N {T:TypeId}{x:Operand}{b:Bool}  (hg:o.guard=none:=by exact rfl)(hd:o.dst=some d:=by exact rfl)(ho:o.op = .unOp .not T x:=by exact rfl)(hx:E.ev ρ x = .bool b:=by exact rfl)(h:WL P n ops Q rest (upd ρ d (.bool (!b))) w):WL P n ops Q (o :: rest) ρ w:=q0b hg hd (q1n ho hx) h
theorem qN {T:TypeId}{x:Operand}{b:Bool}  (hg:o.guard=none:=by exact rfl)(hd:o.dst=some d:=by exact rfl)(ho:o.op = .unOp .not T x:=by exact rfl)(hx:E.ev ρ x = .bool b:=by exact rfl)(h:QL P n ops C F rest (upd ρ d (.bool (!b)))):QL P n ops C F (o :: rest) ρ:=q0i hg hd (fun _ hq=>q1n ho hx) h
theorem NN {α:Type}[Rep α]{S:Nat→Prop}{w2:World}{xs:List α}{T:TypeId}{x:Operand}(hS:rdS S w2 xs v)(hg:o.guard=none:=by exact rfl)(hd:o.dst=some d:=by exact rfl)(ho:o.op = .call { callee:=.builtin .len,args:=#[x],argTypes:=#[T] }:=by exact rfl)(hT:(q4Y P T).isSome=true:=by kernel_rfl)(hx:E.ev ρ x=v:=by exact rfl)(h:WL P n ops Q rest (upd ρ d (.int .i64 (xs.length:Int))) w):WL P n ops Q (o :: rest) ρ w:=q0b hg hd (q0H ho (Option.some_get hT).symm hx hS) h
theorem qNN {α:Type}[Rep α]{S:Nat→Prop}{w2:World}{xs:List α}{T:TypeId}{x:Operand}(hS:rdS S w2 xs v)(hg:o.guard=none:=by exact rfl)(hd:o.dst=some d:=by exact rfl)(ho:o.op = .call { callee:=.builtin .len,args:=#[x],argTypes:=#[T] }:=by exact rfl)(hT:(q4Y P T).isSome=true:=by kernel_rfl)(hx:E.ev ρ x=v:=by exact rfl)(h:QL P n ops C F rest (upd ρ d (.int .i64 (xs.length:Int)))):QL P n ops C F (o :: rest) ρ:=q0i hg hd (fun _ hq=>q0H ho (Option.some_get hT).symm hx hS) h
theorem J {T:TypeId}{x j:Operand}{b off n' c:Nat}{q:IntKind}{m:Nat}{α:Type}{xs:List α}{y:α}(k:Nat)(hv:v = .slice (some ⟨b,off,none⟩) n' c)(hy:xs[m]? = some y)(hg:o.guard=none:=by exact rfl)(hd:o.dst=some d:=by exact rfl)(ho:o.op = .indexAddr T x j:=by exact rfl)(hT:(q4Y P T).bind (szT P)=some k:=by kernel_rfl)(hx:E.ev ρ x=v:=by exact rfl)(hj:E.ev ρ j = .int q (m:Int):=by exact rfl)(hn:xs.length=n':=by exact rfl)(h:WL P n ops Q rest (upd ρ d (.pointer (some ⟨b,off+m*k,none⟩))) w):WL P n ops Q (o :: rest) ρ w:=q0b hg hd (ixJ ho hT hx hv hj hn hy) h
theorem qJ {T:TypeId}{x j:Operand}{b off n' c:Nat}{q:IntKind}{m:Nat}{α:Type}{xs:List α}{y:α}(k:Nat)(hv:v = .slice (some ⟨b,off,none⟩) n' c)(hy:xs[m]? = some y)(hg:o.guard=none:=by exact rfl)(hd:o.dst=some d:=by exact rfl)(ho:o.op = .indexAddr T x j:=by exact rfl)(hT:(q4Y P T).bind (szT P)=some k:=by kernel_rfl)(hx:E.ev ρ x=v:=by exact rfl)(hj:E.ev ρ j = .int q (m:Int):=by exact rfl)(hn:xs.length=n':=by exact rfl)(h:QL P n ops C F rest (upd ρ d (.pointer (some ⟨b,off+m*k,none⟩)))):QL P n ops C F (o :: rest) ρ:=q0i hg hd (fun _ hq=>ixJ ho hT hx hv hj hn hy) h
theorem B {op:BinOp}{T U:TypeId}{x y:Operand}{u t:Value}  (hg:o.guard=none:=by exact rfl)(hd:o.dst=some d:=by exact rfl)(ho:o.op = .binOp op T x y U:=by exact rfl)(hx:E.ev ρ x=u:=by exact rfl)(hy:E.ev ρ y=t:=by exact rfl)(hb:Bin P op T u t v:=by first | exact q1u | exact q1c | exact q1t | exact q1r | exact q1s | exact q0U | exact q1d | exact q1e | exact q1i | exact Bin.leqS | exact Bin.gtrS | exact Bin.geqS | exact Bin.addw | exact Bin.subw | exact Bin.mulw | exact q1h | exact Bin.orT | exact Bin.xorT | exact Bin.andNotT)(h:WL P n ops Q rest (upd ρ d v) w):WL P n ops Q (o :: rest) ρ w:=q0b hg hd (q0J ho hx hy hb) h
theorem qB {op:BinOp}{T U:TypeId}{x y:Operand}{u t:Value}  (hg:o.guard=none:=by exact rfl)(hd:o.dst=some d:=by exact rfl)(ho:o.op = .binOp op T x y U:=by exact rfl)(hx:E.ev ρ x=u:=by exact rfl)(hy:E.ev ρ y=t:=by exact rfl)(hb:Bin P op T u t v:=by first | exact q1u | exact q1c | exact q1t | exact q1r | exact q1s | exact q0U | exact q1d | exact q1e | exact q1i | exact Bin.leqS | exact Bin.gtrS | exact Bin.geqS | exact Bin.addw | exact Bin.subw | exact Bin.mulw | exact q1h | exact Bin.orT | exact Bin.xorT | exact Bin.andNotT)(h:QL P n ops C F rest (upd ρ d v)):QL P n ops C F (o :: rest) ρ:=q0i hg hd (fun _ hq=>q0J ho hx hy hb) h
theorem BN {op:BinOp}{T U:TypeId}{x y:Operand}{u t:Value}(hb:Bin P op T u t v)(hg:o.guard=none:=by exact rfl)(hd:o.dst=some d:=by exact rfl)(ho:o.op = .binOp op T x y U:=by exact rfl)(hx:E.ev ρ x=u:=by exact rfl)(hy:E.ev ρ y=t:=by exact rfl)(h:WL P n ops Q rest (upd ρ d v) w):WL P n ops Q (o :: rest) ρ w:=q0b hg hd (q0J ho hx hy hb) h
theorem qBN {op:BinOp}{T U:TypeId}{x y:Operand}{u t:Value}(hb:Bin P op T u t v)(hg:o.guard=none:=by exact rfl)(hd:o.dst=some d:=by exact rfl)(ho:o.op = .binOp op T x y U:=by exact rfl)(hx:E.ev ρ x=u:=by exact rfl)(hy:E.ev ρ y=t:=by exact rfl)(h:QL P n ops C F rest (upd ρ d v)):QL P n ops C F (o :: rest) ρ:=q0i hg hd (fun _ hq=>q0J ho hx hy hb) h
theorem AN {T U:TypeId}{x y:Operand}{k n' : Nat}(h1:k < n')(h2:I64 (n' : Int))(hg:o.guard=none:=by exact rfl)(hd:o.dst=some d:=by exact rfl)(ho:o.op = .binOp .add T x y U:=by exact rfl)(hx:E.ev ρ x = .int .i64 (k:Int):=by exact rfl)(hy:E.ev ρ y = .int .i64 ((1:Nat):Int):=by exact rfl)(h:WL P n ops Q rest (upd ρ d (.int .i64 ((k+1:Nat):Int))) w):WL P n ops Q (o :: rest) ρ w:=q0b hg hd (q0J ho hx hy (q0I rfl (z5K h1 h2.2))) h
theorem T {c x y:Operand}  (hg:o.guard=none:=by exact rfl)(hd:o.dst=some d:=by exact rfl)(ho:o.op = .pick c x y:=by exact rfl)(hc:E.ev ρ c = .bool true:=by exact rfl)(hx:E.ev ρ x=v:=by exact rfl)(h:WL P n ops Q rest (upd ρ d v) w):WL P n ops Q (o :: rest) ρ w:=q0b hg hd (q0C ho hc hx) h
theorem qT {c x y:Operand}  (hg:o.guard=none:=by exact rfl)(hd:o.dst=some d:=by exact rfl)(ho:o.op = .pick c x y:=by exact rfl)(hc:E.ev ρ c = .bool true:=by exact rfl)(hx:E.ev ρ x=v:=by exact rfl)(h:QL P n ops C F rest (upd ρ d v)):QL P n ops C F (o :: rest) ρ:=q0i hg hd (fun _ hq=>q0C ho hc hx) h
theorem U {c x y:Operand}  (hg:o.guard=none:=by exact rfl)(hd:o.dst=some d:=by exact rfl)(ho:o.op = .pick c x y:=by exact rfl)(hc:E.ev ρ c = .bool false:=by exact rfl)(hy:E.ev ρ y=v:=by exact rfl)(h:WL P n ops Q rest (upd ρ d v) w):WL P n ops Q (o :: rest) ρ w:=q0b hg hd (q0P ho hc hy) h
theorem qU {c x y:Operand}  (hg:o.guard=none:=by exact rfl)(hd:o.dst=some d:=by exact rfl)(ho:o.op = .pick c x y:=by exact rfl)(hc:E.ev ρ c = .bool false:=by exact rfl)(hy:E.ev ρ y=v:=by exact rfl)(h:QL P n ops C F rest (upd ρ d v)):QL P n ops C F (o :: rest) ρ:=q0i hg hd (fun _ hq=>q0P ho hc hy) h
theorem NC {x:Operand}{a:Addr}  (hg:o.guard=none:=by exact rfl)(hd:o.dst=some d:=by exact rfl)(ho:o.op = .nilCheck x:=by exact rfl)(hx:E.ev ρ x = .pointer (some a):=by exact rfl)(h:WL P n ops Q rest (upd ρ d (.pointer (some a))) w):WL P n ops Q (o :: rest) ρ w:=q0b hg hd (q0o ho hx) h
theorem qNC {x:Operand}{a:Addr}  (hg:o.guard=none:=by exact rfl)(hd:o.dst=some d:=by exact rfl)(ho:o.op = .nilCheck x:=by exact rfl)(hx:E.ev ρ x = .pointer (some a):=by exact rfl)(h:QL P n ops C F rest (upd ρ d (.pointer (some a)))):QL P n ops C F (o :: rest) ρ:=q0i hg hd (fun _ hq=>q0o ho hx) h
theorem EX {x:Operand}{k:Nat}{vs:Array Value}  (hg:o.guard=none:=by exact rfl)(hd:o.dst=some d:=by exact rfl)(ho:o.op = .extract x k:=by exact rfl)(hx:E.ev ρ x = .tuple vs:=by exact rfl)(hv:vs[k]? = some v:=by exact rfl)(h:WL P n ops Q rest (upd ρ d v) w):WL P n ops Q (o :: rest) ρ w:=q0b hg hd (q2n ho hx hv) h
theorem Z (h:Q .normal ρ w):WL P n ops Q [] ρ w:=WL.nil h
theorem X {id:Nat}(h:WL P n ops Q ops.toList ρ w):CW P n (.region id ops false) Q ρ w:=q1x h
theorem Y {x y:Code}(h:CW P n x (z5F (fun ρ w=>CW P n y Q ρ w) Q) ρ w):CW P n (.seq x y) Q ρ w:=CW.seq h
theorem R {y:Code}{id:Nat}(h:WL P n ops (z5F (fun ρ w=>CW P n y Q ρ w) Q) ops.toList ρ w):CW P n (.seq (.region id ops false) y) Q ρ w:=CW.seq (q1x h)
theorem K (h:Q .normal ρ w):CW P n .skip Q ρ w:=q1O h
theorem G (hG:q7t n ops=true:=by exact rfl)(hg:gate ops ρ o=true:=by exact rfl)(h:WL P n ops Q ({ o with guard:=none } :: rest) ρ w):WL P n ops Q (o :: rest) ρ w:=WL.on hG hg h
theorem O (hG:q7t n ops=true:=by exact rfl)(hg:gate ops ρ o=false:=by exact rfl)(hd:o.dst=some d:=by exact rfl)(h:WL P n ops Q rest (upd ρ d undef) w):WL P n ops Q (o :: rest) ρ w:=q2d hG hg hd h
theorem qG (hG:q7t n ops=true:=by exact rfl)(hg:gate ops ρ o=true:=by exact rfl)(h:QL P n ops C F ({ o with guard:=none } :: rest) ρ):QL P n ops C F (o :: rest) ρ:=QL.on hG hg h
theorem qO (hG:q7t n ops=true:=by exact rfl)(hg:gate ops ρ o=false:=by exact rfl)(hd:o.dst=some d:=by exact rfl)(h:QL P n ops C F rest (upd ρ d undef)):QL P n ops C F (o :: rest) ρ:=q2g hG hg hd h
theorem BX {T:TypeId}{x:Operand}{cs:List Value}(H:HL F0 M w0 w fr ow)(hg:o.guard=none:=by exact rfl)(hd:o.dst=some d:=by exact rfl)(ho:o.op = .box T x:=by exact rfl)(hx:E.ev ρ x=v:=by exact rfl)(hc:v.cells=cs.toArray:=by exact rfl)(h:∀ b w',HL F0 M w0 w' fr (ow++[It.B b T cs])→WL P n ops Q rest (upd ρ d (.pointer (some ⟨b,0,none⟩))) w'):WL P n ops Q (o :: rest) ρ w:=q1U hg hd ho hx hc H h
theorem AH {T:TypeId}{cs:List Value}(hT:q6d P T=some cs)(H:HL F0 M w0 w fr ow)(hg:o.guard=none:=by exact rfl)(hd:o.dst=some d:=by exact rfl)(ho:o.op = .alloc T:=by exact rfl)(h:∀ b w',HL F0 M w0 w' fr (ow++[It.B b T cs])→WL P n ops Q rest (upd ρ d (.pointer (some ⟨b,0,none⟩))) w'):WL P n ops Q (o :: rest) ρ w:=q1D hg hd ho hT H h
theorem SB {T:TypeId}{x y:Operand}{b off TB:Nat}{u:Value}{cs l cs' : List Value}(H:HL F0 M w0 w fr ow)(i:Nat)(hg:o.guard=none:=by exact rfl)(hd:o.dst=none:=by exact rfl)(ho:o.op = .store T x y:=by exact rfl)(hx:E.ev ρ x = .pointer (some ⟨b,off,none⟩):=by exact rfl)(hy:E.ev ρ y=u:=by exact rfl)(hv:u.cells=l.toArray:=by exact rfl)(hk:szT P T=some l.length:=by kernel_rfl)(h1:∀ u∈l,u.oneCell'=true:=by repeat (first | exact all0 | refine all1 rfl ?_))(hi:ow[i]? = some (It.B b TB cs):=by exact rfl)(hfit:Nat.ble (off+l.length) cs.length=true:=by exact rfl)(hcs:q3O cs off l=cs':=by exact rfl)
  (h:∀ w',HL F0 M w0 w' fr (ow.set i (It.B b TB cs'))→WL P n ops Q rest ρ w'):WL P n ops Q (o :: rest) ρ w:=q2l hg hd ho hk hx hy hv rfl h1 H hi hfit hcs h
theorem En {f:FuncId}{fn:Func}{c:Code}{args:Array Value}{M:Nat→Prop}{R:Value→World→Prop}(hf:P.funcs[f]? = some fn)(hb:fn.body=some c:=by exact rfl)(hok:q9h fn.ntmps c=true:=by exact rfl)(hs:Nat.ble args.size fn.ntmps=true:=by exact rfl)(h:CW P fn.ntmps c (endE P fn fun v w'=>Chg M w w'∧R v w') (j7M args) w):Ret P f args w M R:=enter hf hb hok hs h
theorem cT {c:Operand}{x y:Code}(hc:E.ev ρ c = .bool true:=by exact rfl)(h:CW P n x Q ρ w):CW P n (.cond c x y) Q ρ w:=q0N hc h
theorem cF {c:Operand}{x y:Code}(hc:E.ev ρ c = .bool false:=by exact rfl)(h:CW P n y Q ρ w):CW P n (.cond c x y) Q ρ w:=q0O hc h
theorem CE {id:Nat}(h:Q (.exit id) ρ w):CW P n (.exit id) Q ρ w:=q1P h
theorem CR (h:Q .ret ρ w):CW P n .ret Q ρ w:=q1w h
theorem CA {c:Call}{f:FuncId}{x:Operand}{caps:Array Value}{args:List Value}{M:Nat→Prop}{R:Value→World→Prop}(hc:q2p P f=true)(hr:Ret P f args.toArray w M R)(hg:o.guard=none:=by exact rfl)(hd:o.dst=some d:=by exact rfl)(ho:o.op = .call c:=by exact rfl)(hx:c.callee = .value x:=by exact rfl)(hf:E.ev ρ x = .func (.func f) #[] caps:=by exact rfl)(ha:c.args.toList.map (E.ev ρ)++caps.toList=args:=by exact rfl)
  (h:∀ v w',Chg M w w'→R v w'→WL P n ops Q rest (upd ρ d v) w'):WL P n ops Q (o :: rest) ρ w:=WL.call hg hd ho hx hf hc ha hr h
theorem qC {c:Call}{f:FuncId}{x:Operand}{caps:Array Value}{args:List Value}(hc:q2p P f=true)(hr:∀ w,C w→Ret P f args.toArray w (fun _=>False) fun u _=>u=v)(hg:o.guard=none:=by exact rfl)(hd:o.dst=some d:=by exact rfl)(ho:o.op = .call c:=by exact rfl)(hx:c.callee = .value x:=by exact rfl)(hf:E.ev ρ x = .func (.func f) #[] caps:=by exact rfl)(ha:c.args.toList.map (E.ev ρ)++caps.toList=args:=by exact rfl)
  (h:QL P n ops C F rest (upd ρ d v)):QL P n ops C F (o :: rest) ρ:=QL.call hg hd ho hx hf hc ha hr h
theorem HL.kp {fr' : List Pr}{ow' : List It}(H:HL F0 M w0 w fr ow)(h1:fr.take fr'.length=fr')(h2:ow.take ow'.length=ow'):HL F0 M w0 w fr' ow':=by
 have:=H.keep fr'.length ow'.length
 rwa [h1,h2] at this
theorem HL.fin {ow' : List It}(H:HL F0 M w0 w fr ow)(h:ow'.Sublist ow):HL F0 M w0 w [] ow':=H.out (fun _ _=>trivial) h
theorem C0 {G:Prop}(h:G:=by
 repeat' first
  | exact trivial
  | exact rfl
  | (refine HL.kp ‹HL _ _ _ _ _ _› ?_ ?_<;>exact rfl)
  | (refine HL.fin ‹HL _ _ _ _ _ _› ?_; repeat (first | exact List.Sublist.slnil | apply List.Sublist.cons_cons | apply List.Sublist.cons))
  | assumption
  | (refine Nat.sub_lt_sub_left ?_ (Nat.lt_succ_self _); assumption)
  | exact Nat.lt_succ_self _
  | decide
  | (apply z5f; assumption; assumption)
  | (dsimp only; first | decide | (apply z5f; assumption; assumption))
  | apply And.intro
  | apply Exists.intro):G:=h
theorem W0 {G:Prop}(h:G:=by
 refine q1w ?_
 apply Exists.intro
 refine⟨?_,?_,?_⟩
 (first | exact res1 rfl rfl rfl | exact res2 rfl rfl rfl rfl rfl | exact j9M rfl rfl rfl rfl rfl rfl rfl)
 (first | exact HL.ext0 ‹HL _ _ _ _ _ _› | exact HL.chg ‹HL _ _ _ _ _ _›)
 exact C0):G:=h
theorem W1 {A0 G:Prop}(a:A0)(h:A0→G:=by
 intro a
 obtain rfl:=sm a
 exact W0):G:=h a
theorem W2 {A0 A1 A2 G:Prop}(a:A0)(b:A1)(c:A2)(h:A0→A1→A2→G:=by
 intro a b c
 obtain rfl:=sm a
 obtain rfl:=b _ rfl
 obtain rfl:=sm c
 exact W0):G:=h a b c
theorem W3 {A0 A1 A2 A3 A4 G:Prop}(a:A0)(b:A1)(c:A2)(d:A3)(e:A4)(h:A0→A1→A2→A3→A4→G:=by
 intro a b c d e
 obtain rfl:=sm a
 obtain rfl:=b _ rfl
 obtain rfl:=sm c
 obtain rfl:=d _ rfl
 obtain rfl:=sm e
 exact W0):G:=h a b c d e
theorem C1 {A0 G:Prop}(a:A0)(h:A0→G:=by
 intro a
 obtain rfl:=sm a
 exact C0):G:=h a
theorem C2 {A0 A1 G:Prop}(a:A0)(b:A1)(h:A0→A1→G:=by
 intro a b
 obtain rfl:=sm a
 obtain rfl:=b _ rfl
 exact C0):G:=h a b
theorem I1 {A0:Prop}{α:Type}{G:α→Prop}(a:A0)(x:α)(h:A0→G x:=by
 intro a
 obtain rfl:=sm a
 exact C0):∃ x,G x:=⟨x,h a⟩
theorem I2 {A0 A1:Prop}{α:Type}{G:α→Prop}(a:A0)(b:A1)(x:α)(h:A0→A1→G x:=by
 intro a b
 obtain rfl:=sm a
 have b:=b _ rfl
 exact C0):∃ x,G x:=⟨x,h a b⟩
section
variable {α:Type}{u u' y:α}{C:World→Prop}{F:Env→Prop}
theorem iD {p:Prop}{i1 i2:Decidable p}{c:Operand}{X Y:Code}(hr:@ite α p i1 u u'=y)(ht:p→u=y→CW P n X Q ρ w)(hf:¬ p→u'=y→CW P n Y Q ρ w)(hc:E.ev ρ c = .bool (@decide p i2):=by exact rfl):CW P n (.cond c X Y) Q ρ w:=q0e hc (fun h=>ht h (@ifp α _ i1 _ _ _ h hr)) fun h=>hf h (@ifn α _ i1 _ _ _ h hr)
theorem jD {p:Prop}{i1 i2:Decidable p}{x:Operand}(hr:@ite α p i1 u u'=y)(ht:p→u=y→WL P n ops Q rest (upd ρ d (.bool true)) w)(hf:¬ p→u'=y→WL P n ops Q rest (upd ρ d (.bool false)) w)(hg:o.guard=none:=by exact rfl)(hd:o.dst=some d:=by exact rfl)(ho:o.op = .move x:=by exact rfl)(hx:E.ev ρ x = .bool (@decide p i2):=by exact rfl):WL P n ops Q (o :: rest) ρ w:=q2h hg hd ho hx (fun h=>ht h (@ifp α _ i1 _ _ _ h hr)) fun h=>hf h (@ifn α _ i1 _ _ _ h hr)
theorem kD {p:Prop}{i1 i2:Decidable p}{x:Operand}(hr:@ite α p i1 u u'=y)(ht:p→u=y→QL P n ops C F rest (upd ρ d (.bool true)))(hf:¬ p→u'=y→QL P n ops C F rest (upd ρ d (.bool false)))(hg:o.guard=none:=by exact rfl)(hd:o.dst=some d:=by exact rfl)(ho:o.op = .move x:=by exact rfl)(hx:E.ev ρ x = .bool (@decide p i2):=by exact rfl):QL P n ops C F (o :: rest) ρ:=q2j hg hd ho hx (fun h=>ht h (@ifp α _ i1 _ _ _ h hr)) fun h=>hf h (@ifn α _ i1 _ _ _ h hr)
theorem iB {b:Bool}{i1:Decidable (b=true)}{c:Operand}{X Y:Code}(hr:@ite α (b=true) i1 u u'=y)(ht:b=true→u=y→CW P n X Q ρ w)(hf:¬ b=true→u'=y→CW P n Y Q ρ w)(hc:E.ev ρ c = .bool (b):=by exact rfl):CW P n (.cond c X Y) Q ρ w:=q1K hc (fun h=>ht h (@ifp α _ i1 _ _ _ h hr)) fun h=>hf h (@ifn α _ i1 _ _ _ h hr)
theorem jB {b:Bool}{i1:Decidable (b=true)}{x:Operand}(hr:@ite α (b=true) i1 u u'=y)(ht:b=true→u=y→WL P n ops Q rest (upd ρ d (.bool true)) w)(hf:¬ b=true→u'=y→WL P n ops Q rest (upd ρ d (.bool false)) w)(hg:o.guard=none:=by exact rfl)(hd:o.dst=some d:=by exact rfl)(ho:o.op = .move x:=by exact rfl)(hx:E.ev ρ x = .bool (b):=by exact rfl):WL P n ops Q (o :: rest) ρ w:=q2m hg hd ho hx (fun h=>ht h (@ifp α _ i1 _ _ _ h hr)) fun h=>hf h (@ifn α _ i1 _ _ _ h hr)
theorem iN {p:Prop}{i1 i2:Decidable p}{c:Operand}{X Y:Code}(hr:@ite α p i1 u u'=y)(ht:¬ p→u'=y→CW P n X Q ρ w)(hf:p→u=y→CW P n Y Q ρ w)(hc:E.ev ρ c = .bool (!(@decide p i2)):=by exact rfl):CW P n (.cond c X Y) Q ρ w:=q1I hc (fun h=>ht h (@ifn α _ i1 _ _ _ h hr)) fun h=>hf h (@ifp α _ i1 _ _ _ h hr)
theorem jN {p:Prop}{i1 i2:Decidable p}{x:Operand}(hr:@ite α p i1 u u'=y)(ht:¬ p→u'=y→WL P n ops Q rest (upd ρ d (.bool true)) w)(hf:p→u=y→WL P n ops Q rest (upd ρ d (.bool false)) w)(hg:o.guard=none:=by exact rfl)(hd:o.dst=some d:=by exact rfl)(ho:o.op = .move x:=by exact rfl)(hx:E.ev ρ x = .bool (!(@decide p i2)):=by exact rfl):WL P n ops Q (o :: rest) ρ w:=q2i hg hd ho hx (fun h=>ht h (@ifn α _ i1 _ _ _ h hr)) fun h=>hf h (@ifp α _ i1 _ _ _ h hr)
theorem kN {p:Prop}{i1 i2:Decidable p}{x:Operand}(hr:@ite α p i1 u u'=y)(ht:¬ p→u'=y→QL P n ops C F rest (upd ρ d (.bool true)))(hf:p→u=y→QL P n ops C F rest (upd ρ d (.bool false)))(hg:o.guard=none:=by exact rfl)(hd:o.dst=some d:=by exact rfl)(ho:o.op = .move x:=by exact rfl)(hx:E.ev ρ x = .bool (!(@decide p i2)):=by exact rfl):QL P n ops C F (o :: rest) ρ:=q2k hg hd ho hx (fun h=>ht h (@ifn α _ i1 _ _ _ h hr)) fun h=>hf h (@ifp α _ i1 _ _ _ h hr)
theorem iM {b:Bool}{i1:Decidable (b=true)}{c:Operand}{X Y:Code}(hr:@ite α (b=true) i1 u u'=y)(ht:¬ b=true→u'=y→CW P n X Q ρ w)(hf:b=true→u=y→CW P n Y Q ρ w)(hc:E.ev ρ c = .bool (!b):=by exact rfl):CW P n (.cond c X Y) Q ρ w:=q1E hc (fun h=>ht h (@ifn α _ i1 _ _ _ h hr)) fun h=>hf h (@ifp α _ i1 _ _ _ h hr)
theorem jM {b:Bool}{i1:Decidable (b=true)}{x:Operand}(hr:@ite α (b=true) i1 u u'=y)(ht:¬ b=true→u'=y→WL P n ops Q rest (upd ρ d (.bool true)) w)(hf:b=true→u=y→WL P n ops Q rest (upd ρ d (.bool false)) w)(hg:o.guard=none:=by exact rfl)(hd:o.dst=some d:=by exact rfl)(ho:o.op = .move x:=by exact rfl)(hx:E.ev ρ x = .bool (!b):=by exact rfl):WL P n ops Q (o :: rest) ρ w:=q1V hg hd ho hx (fun h=>ht h (@ifn α _ i1 _ _ _ h hr)) fun h=>hf h (@ifp α _ i1 _ _ _ h hr)
theorem kM {b:Bool}{i1:Decidable (b=true)}{x:Operand}(hr:@ite α (b=true) i1 u u'=y)(ht:¬ b=true→u'=y→QL P n ops C F rest (upd ρ d (.bool true)))(hf:b=true→u=y→QL P n ops C F rest (upd ρ d (.bool false)))(hg:o.guard=none:=by exact rfl)(hd:o.dst=some d:=by exact rfl)(ho:o.op = .move x:=by exact rfl)(hx:E.ev ρ x = .bool (!b):=by exact rfl):QL P n ops C F (o :: rest) ρ:=q1W hg hd ho hx (fun h=>ht h (@ifn α _ i1 _ _ _ h hr)) fun h=>hf h (@ifp α _ i1 _ _ _ h hr)
end
theorem cu (H:HL F0 M w0 w fr ow)(m:Nat)(L:List (Nat × Value))(fr' : List Pr)(ow' : List It)(h1:WL P n ops (z5F (fun ρ' w=>q4R ρ' L∧HL F0 M w0 w fr' ow') Q) (rest.take m) ρ w)(h2:∀ σ w',HL F0 M w0 w' fr' ow'→WL P n ops Q (rest.drop m) (ofL σ L) w'):WL P n ops Q rest ρ w:=
 WL.cut m _ h1 fun ρ' w' ⟨ha,hH⟩=>by obtain⟨σ,rfl⟩:=q4H ha; exact h2 σ w' hH
theorem cm {c:Code}(H:HL F0 M w0 w fr ow)(L:List (Nat × Value))(fr' : List Pr)(ow' : List It)(h1:CW P n c (z5F (fun ρ' w=>q4R ρ' L∧HL F0 M w0 w fr' ow') Q) ρ w)(h2:∀ σ w',HL F0 M w0 w' fr' ow'→Q .normal (ofL σ L) w'):CW P n c Q ρ w:=
 q0u _ h1 fun ρ' w' ⟨ha,hH⟩=>by obtain⟨σ,rfl⟩:=q4H ha; exact h2 σ w' hH
theorem lE {σt β:Type}{α:Type}{f:Nat→α→σt→Option σt}{xs:List α}{s0 q:σt}{c:Code}{id:Nat}(hq:q2J f 0 xs s0=some q)(env:Nat→σt→β→List (Nat × Value))(J:σt→β→World→Prop)(b0:β)(ha:q4R ρ (env 0 s0 b0):=by repeat (first | exact trivial | refine⟨rfl,?_⟩))(hJ:J s0 b0 w:=by exact C0)
  (round:∀ k s b σ w,k≤xs.length→q2J f k (xs.drop k) s=some q→J s b w→CW P n c (z5F (fun ρ' w'=>∃ x' : Nat × σt × β,q4R ρ' (env x'.1 x'.2.1 x'.2.2)∧(x'.1≤xs.length∧q2J f x'.1 (xs.drop (x'.1)) x'.2.1=some q∧J x'.2.1 x'.2.2 w')∧xs.length - x'.1 < xs.length - k) (z5G id Q)) (ofL σ (env k s b)) w):CW P n (.block id (.loop c)) Q ρ w:=
 CW.block (CW.loop (α:=Nat × σt × β) (fun x=>env x.1 x.2.1 x.2.2) (fun x w=>x.1≤xs.length∧q2J f x.1 (xs.drop (x.1)) x.2.1=some q∧J x.2.1 x.2.2 w) (fun x=>xs.length - x.1) (0,s0,b0) ha ⟨Nat.zero_le _,hq,hJ⟩ fun x σ w h=>round x.1 x.2.1 x.2.2 σ w h.1 h.2.1 h.2.2)
theorem lF {σt β:Type}{α ρt:Type}{f:Nat→α→σt→Option (σt ⊕ ρt)}{xs:List α}{s0:σt}{q:σt ⊕ ρt}{c:Code}{id:Nat}(hq:q2u f 0 xs s0=some q)(env:Nat→σt→β→List (Nat × Value))(J:σt→β→World→Prop)(b0:β)(ha:q4R ρ (env 0 s0 b0):=by repeat (first | exact trivial | refine⟨rfl,?_⟩))(hJ:J s0 b0 w:=by exact C0)
  (round:∀ k s b σ w,k≤xs.length→q2u f k (xs.drop k) s=some q→J s b w→CW P n c (z5F (fun ρ' w'=>∃ x' : Nat × σt × β,q4R ρ' (env x'.1 x'.2.1 x'.2.2)∧(x'.1≤xs.length∧q2u f x'.1 (xs.drop x'.1) x'.2.1=some q∧J x'.2.1 x'.2.2 w')∧xs.length - x'.1 < xs.length - k) (z5G id Q)) (ofL σ (env k s b)) w):CW P n (.block id (.loop c)) Q ρ w:=
 CW.block (CW.loop (α:=Nat × σt × β) (fun x=>env x.1 x.2.1 x.2.2) (fun x w=>x.1≤xs.length∧q2u f x.1 (xs.drop x.1) x.2.1=some q∧J x.2.1 x.2.2 w) (fun x=>xs.length - x.1) (0,s0,b0) ha ⟨Nat.zero_le _,hq,hJ⟩ fun x σ w h=>round x.1 x.2.1 x.2.2 σ w h.1 h.2.1 h.2.2)
theorem lN {σt β:Type}{f:Nat→σt→Option σt}{n' : Nat}{s0 q:σt}{c:Code}{id:Nat}(hq:z7J f 0 n' s0=some q)(env:Nat→σt→β→List (Nat × Value))(J:σt→β→World→Prop)(b0:β)(ha:q4R ρ (env 0 s0 b0):=by repeat (first | exact trivial | refine⟨rfl,?_⟩))(hJ:J s0 b0 w:=by exact C0)
  (round:∀ k s b σ w,k≤n'→z7J f k (n' - k) s=some q→J s b w→CW P n c (z5F (fun ρ' w'=>∃ x' : Nat × σt × β,q4R ρ' (env x'.1 x'.2.1 x'.2.2)∧(x'.1≤n'∧z7J f x'.1 (n' - x'.1) x'.2.1=some q∧J x'.2.1 x'.2.2 w')∧n' - x'.1 < n' - k) (z5G id Q)) (ofL σ (env k s b)) w):CW P n (.block id (.loop c)) Q ρ w:=
 CW.block (CW.loop (α:=Nat × σt × β) (fun x=>env x.1 x.2.1 x.2.2) (fun x w=>x.1≤n'∧z7J f x.1 (n' - x.1) x.2.1=some q∧J x.2.1 x.2.2 w) (fun x=>n' - x.1) (0,s0,b0) ha ⟨Nat.zero_le _,hq,hJ⟩ fun x σ w h=>round x.1 x.2.1 x.2.2 σ w h.1 h.2.1 h.2.2)
theorem lM {σt β:Type}{ρt:Type}{f:Nat→σt→Option (σt ⊕ ρt)}{n' : Nat}{s0:σt}{q:σt ⊕ ρt}{c:Code}{id:Nat}(hq:z4P f 0 n' s0=some q)(env:Nat→σt→β→List (Nat × Value))(J:σt→β→World→Prop)(b0:β)(ha:q4R ρ (env 0 s0 b0):=by repeat (first | exact trivial | refine⟨rfl,?_⟩))(hJ:J s0 b0 w:=by exact C0)
  (round:∀ k s b σ w,k≤n'→z4P f k (n' - k) s=some q→J s b w→CW P n c (z5F (fun ρ' w'=>∃ x' : Nat × σt × β,q4R ρ' (env x'.1 x'.2.1 x'.2.2)∧(x'.1≤n'∧z4P f x'.1 (n' - x'.1) x'.2.1=some q∧J x'.2.1 x'.2.2 w')∧n' - x'.1 < n' - k) (z5G id Q)) (ofL σ (env k s b)) w):CW P n (.block id (.loop c)) Q ρ w:=
 CW.block (CW.loop (α:=Nat × σt × β) (fun x=>env x.1 x.2.1 x.2.2) (fun x w=>x.1≤n'∧z4P f x.1 (n' - x.1) x.2.1=some q∧J x.2.1 x.2.2 w) (fun x=>n' - x.1) (0,s0,b0) ha ⟨Nat.zero_le _,hq,hJ⟩ fun x σ w h=>round x.1 x.2.1 x.2.2 σ w h.1 h.2.1 h.2.2)
theorem lI {σt β:Type}{ρt:Type}{f:σt→Option (σt ⊕ ρt)}{m0:Nat}{s0:σt}{q:ρt}{c:Code}{id:Nat}(hq:z4Q f m0 s0=some q)(env:Nat→σt→β→List (Nat × Value))(J:σt→β→World→Prop)(b0:β)(ha:q4R ρ (env m0 s0 b0):=by repeat (first | exact trivial | refine⟨rfl,?_⟩))(hJ:J s0 b0 w:=by exact C0)
  (round:∀ k s b σ w,z4Q f k s=some q→J s b w→CW P n c (z5F (fun ρ' w'=>∃ x' : Nat × σt × β,q4R ρ' (env x'.1 x'.2.1 x'.2.2)∧(z4Q f x'.1 x'.2.1=some q∧J x'.2.1 x'.2.2 w')∧x'.1 < k) (z5G id Q)) (ofL σ (env k s b)) w):CW P n (.block id (.loop c)) Q ρ w:=
 CW.block (CW.loop (α:=Nat × σt × β) (fun x=>env x.1 x.2.1 x.2.2) (fun x w=>z4Q f x.1 x.2.1=some q∧J x.2.1 x.2.2 w) (fun x=>x.1) (m0,s0,b0) ha ⟨hq,hJ⟩ fun x σ w h=>round x.1 x.2.1 x.2.2 σ w h.1 h.2)
theorem iE {α σt:Type}{f:Nat→α→σt→Option σt}{xs:List α}{s q:σt}{k:Nat}{c:Operand}{X Y:Code}(hq:q2J f k (xs.drop k) s=some q)(ht:k < xs.length→∀ x z,xs[k]? = some x→f k x s=some z→q2J f (k+1) (xs.drop (k+1)) z=some q→CW P n X Q ρ w)(hf:s=q→CW P n Y Q ρ w)(hc:E.ev ρ c = .bool (decide ((k:Int) < (xs.length:Int))):=by exact rfl):CW P n (.cond c X Y) Q ρ w:=q0e hc (fun h=>by obtain⟨x,z,h1,h2,h3⟩:=q8k hq (q2G h); exact ht (q2G h) x z h1 h2 h3) fun h=>hf (q6Z hq (q2t h))
theorem iF {α σt ρt β:Type}{f:Nat→α→σt→Option (σt ⊕ ρt)}{xs:List α}{s:σt}{q:σt ⊕ ρt}{k:Nat}{c:Operand}{X Y:Code}{g1:ρt→Option β}{g2:σt→Option β}{r:Option β}(hq:q2u f k (xs.drop k) s=some q)(hr:onr g1 g2 q=r)(ht:k < xs.length→∀ x z,xs[k]? = some x→f k x s=some z→(∀ s',z = .inl s'→q2u f (k+1) (xs.drop (k+1)) s'=some q)→(∀ r,z = .inr r→q = .inr r)→CW P n X Q ρ w)(hf:g2 s=r→CW P n Y Q ρ w)(hc:E.ev ρ c = .bool (decide ((k:Int) < (xs.length:Int))):=by exact rfl):CW P n (.cond c X Y) Q ρ w:=q0e hc (fun h=>by obtain⟨x,z,h1,h2,h3,h4⟩:=q3o hq (q2G h); exact ht (q2G h) x z h1 h2 h3 h4) fun h=>hf (by have e:=q2M hq (q2t h); rw [e] at hr; exact hr)
theorem rs {α:Type}[Rep α]{xs:List α}(H:HL F0 M w0 w fr ow)(i:Nat)(hi:fr[i]? = some (Pr.S xs v):=by exact rfl):rdS (Lt w) w xs v:=H.rS hi
theorem ro {α:Type}[Sep α]{xs:List α}{e:TypeId}(H:HL F0 M w0 w fr ow)(i:Nat)(hi:ow[i]? = some (It.O e xs v):=by exact rfl):rdS (Lt w) w xs v:=H.rO hi
theorem bb {α β:Type}{G:Prop}{x:Option α}{f:α→Option β}{r:β}(h:x.bind f=some r)(k:∀ y,x=some y→f y=some r→G):G:=by obtain⟨y,h1,h2⟩:=bd h; exact k y h1 h2
theorem gg {α:Type}{G c:Prop}{i:Decidable c}{x:Option α}{r:α}(h:@grd α c i x=some r)(k:c→x=some r→G):G:=by obtain⟨h1,h2⟩:=j7N h; exact k h1 h2
theorem cE {u:Value}{K:Value→World→Prop}(H:HL F0 M w0 w fr ow)(k:∀ w',HL F0 M w0 w' fr ow→K u w'):∀ v w',Chg (fun _=>False) w w'→v=u→K v w':=fun _ w' hE e=>by subst e; exact k w' (H.ext hE)
theorem cF' {u:Value}{A:Prop}{K:Value→World→Prop}(H:HL F0 M w0 w fr ow)(k:∀ w',A→HL F0 M w0 w' fr ow→K u w'):∀ v w',Chg (fun _=>False) w w'→v=u∧A→K v w':=fun _ w' hE e=>by obtain⟨rfl,h⟩:=e; exact k w' h (H.ext hE)
theorem NI {α:Type}[Rep α]{xs:List α}{T:TypeId}{x:Operand}(H:HL F0 M w0 w fr ow)(i:Nat)(hi:fr[i]? = some (Pr.S xs v):=by exact rfl)(hg:o.guard=none:=by exact rfl)(hd:o.dst=some d:=by exact rfl)(ho:o.op = .call { callee:=.builtin .len,args:=#[x],argTypes:=#[T] }:=by exact rfl)(hT:(q4Y P T).isSome=true:=by kernel_rfl)(hx:E.ev ρ x=v:=by exact rfl)(h:I64 (xs.length:Int)→WL P n ops Q rest (upd ρ d (.int .i64 (xs.length:Int))) w):WL P n ops Q (o :: rest) ρ w:=q0b hg hd (q0H ho (Option.some_get hT).symm hx (H.rS hi)) (h (H.rS hi).I)
abbrev pB (b:Nat):Value:=.pointer (some ⟨b,0,none⟩)
abbrev zN (k:Nat):Value:=.int .i64 (k:Int)
end
end Go.E
namespace Go.E
open Go
section
variable {P:Program}{n:Nat}{Q:Post}{ρ:Env}{w w0:World}{ops:Array Oper}{o:Oper}{rest:List Oper}{d:Nat}{v:Value}{F0:Nat→Prop}{M:List Nat}{fr:List Pr}{ow:List It}{C:World→Prop}{F:Env→Prop}
theorem AZ {x:Operand}(hg:o.guard=none:=by exact rfl)(hd:o.dst=some d:=by exact rfl)(ho:o.op = .assign x:=by exact rfl)(hx:E.ev ρ x=v:=by exact rfl)(h:Q .normal (upd ρ d v) w):WL P n ops Q [o] ρ w:=q0b hg hd (q1m ho hx) (WL.nil h)
theorem BZ {op:BinOp}{T U:TypeId}{x y:Operand}{u t:Value}(hg:o.guard=none:=by exact rfl)(hd:o.dst=some d:=by exact rfl)(ho:o.op = .binOp op T x y U:=by exact rfl)(hx:E.ev ρ x=u:=by exact rfl)(hy:E.ev ρ y=t:=by exact rfl)(hb:Bin P op T u t v:=by first | exact q1u | exact q1c | exact q1t | exact q1r | exact q1s | exact q0U | exact q1d | exact q1e | exact q1i | exact Bin.leqS | exact Bin.gtrS | exact Bin.geqS | exact Bin.addw | exact Bin.subw | exact Bin.mulw | exact q1h | exact Bin.orT | exact Bin.xorT | exact Bin.andNotT)(h:Q .normal (upd ρ d v) w):WL P n ops Q [o] ρ w:=q0b hg hd (q0J ho hx hy hb) (WL.nil h)
theorem OF {A0 G:Prop}(a:A0)(h:A0→G:=by
 intro a
 repeat refine (O) ?_
 first | refine (T) ?_ | refine (U) ?_
 refine Z ?_
 exact C1 a):G:=h a
theorem dI {p:Prop}(h:p:=by first | decide | (dsimp only; decide)):p:=h
theorem rb {b T:Nat}{cs:List Value}(H:HL F0 M w0 w fr ow)(i:Nat)(hi:ow[i]? = some (It.B b T cs):=by exact rfl):Blk w b T cs:=H.rB hi
theorem ra {b off:Nat}{cs:List Value}(H:HL F0 M w0 w fr ow)(i:Nat)(hi:fr[i]? = some (Pr.A b off cs):=by exact rfl):At w b off cs:=H.rA hi
theorem ab {b T:Nat}{cs:List Value}(H:HL F0 M w0 w fr ow)(i:Nat)(hi:ow[i]? = some (It.B b T cs):=by exact rfl):At w b 0 cs:=At.blk (H.rB hi)
theorem tv {p:Prop}(h:p:=by exact⟨fun _ _ _ _ _ h=>h,trivial⟩):p:=h
theorem tw {p:Prop}(h:p:=by exact fun _ _=>trivial):p:=h
theorem fo {α:Type}[Sep α]{xs:List α}{e:TypeId}(H:HL F0 M w0 w fr ow)(i:Nat)(hi:ow[i]? = some (It.O e xs v):=by exact rfl):∃ A n c,v = .slice A n c:=(H.rO hi).form3
theorem po {α:Type}[Sep α]{xs:List α}{e:TypeId}{k:Nat}{x:α}(H:HL F0 M w0 w fr ow)(i:Nat)(hx:xs[k]? = some x)(hi:ow[i]? = some (It.O e xs v):=by exact rfl):∃ b c,v = .slice (some ⟨b,0,none⟩) xs.length c∧v.ownBlock=some b:=H.ptO hi hx
end
abbrev eB:ByteArray:=⟨#[]⟩
end Go.E
namespace Go.E
open Go
open Go.E.Rep (rd)
def ixC (T E F I B:TypeId):Code:=(Code.region 0 #[{ dst:=some 4,op:=.assign (.const (.int .i64 0)),type:=I,pos := "slices.go:107", after:=#[],guard:=none }] false).seq (((Code.region 1 #[{ dst:=some 6,op:=.move (.tmp 0),type:=T,pos := "slices.go:108", after:=#[],guard:=none },{ dst:=some 7,op:=.call { callee:=.builtin .len,args:=#[.tmp 6],argTypes:=#[T] },type:=I,pos := "slices.go:108", after:=#[{ on:=0,ground:=.data }],guard:=none },{ dst:=some 8,op:=.move (.const (.int .i64 0)),type:=I,pos := "slices.go:108", after:=#[],guard:=none }] false).seq (Code.block 0 ((Code.region 2 #[{ dst:=some 9,op:=.binOp .lss I (.tmp 8) (.tmp 7) I,type:=0,pos := "slices.go:108", after:=#[],guard:=none }] false).seq ((Code.cond (.tmp 9) .skip (.exit 0)).seq ((Code.block 1 ((Code.region 3 #[{ dst:=some 10,op:=.move (.tmp 8),type:=I,pos := "slices.go:108", after:=#[],guard:=none },{ dst:=some 5,op:=.assign (.tmp 10),type:=I,pos := "slices.go:108", after:=#[{ on:=0,ground:=.data },{ on:=0,ground:=.phase }],guard:=none }] false).seq ((Code.region 4 #[{ dst:=some 11,op:=.move (.tmp 1),type:=F,pos := "slices.go:109", after:=#[],guard:=none },{ dst:=some 12,op:=.move (.tmp 0),type:=T,pos := "slices.go:109", after:=#[],guard:=none },{ dst:=some 13,op:=.move (.tmp 5),type:=I,pos := "slices.go:109", after:=#[],guard:=none },{ dst:=some 14,op:=.indexAddr T (.tmp 12) (.tmp 13),type:=0,pos := "slices.go:109", after:=#[{ on:=1,ground:=.data },{ on:=2,ground:=.data }],guard:=none },{ dst:=some 15,op:=.load E (.tmp 14),type:=E,pos := "slices.go:109", after:=#[{ on:=3,ground:=.data }],guard:=none },{ dst:=some 16,op:=.call { callee:=.value (.tmp 11),args:=#[.tmp 15],argTypes:=#[E] },type:=B,pos := "slices.go:109", after:=#[{ on:=0,ground:=.data },{ on:=4,ground:=.data }],guard:=none }] false).seq (Code.cond (.tmp 16) ((Code.region 5 #[{ dst:=some 17,op:=.move (.tmp 5),type:=I,pos := "slices.go:110", after:=#[],guard:=none },{ dst:=some 4,op:=.assign (.tmp 17),type:=I,pos := "slices.go:110", after:=#[{ on:=0,ground:=.data },{ on:=0,ground:=.phase }],guard:=none }] false).seq .ret) .skip)))).seq (Code.region 6 #[{ dst:=some 18,op:=.binOp .add I (.tmp 8) (.const (.int .i64 1)) I,type:=I,pos := "slices.go:108", after:=#[],guard:=none },{ dst:=some 8,op:=.move (.tmp 18),type:=I,pos := "slices.go:108", after:=#[{ on:=0,ground:=.data }],guard:=none }] false)))).loop)).seq ((Code.region 7 #[{ dst:=some 4,op:=.assign (.const (.int .i64 (-1))),type:=I,pos := "slices.go:113", after:=#[],guard:=none }] false).seq .ret))
def ixFn (nm:String)(T E F I B:TypeId):Func:={ name:=nm,origin := "slices.IndexFunc", targs:=#[T,E],params:=#[T,F],resultTypes:=#[I],nfree:=0,ntmps:=19,results:=#[.tmp 4],body:=some (ixC T E F I B),norace:=false,file := "slices/slices.go", endLine:=114,tmpNames:=#["s", "f", "s", "f", "", "i", "", "", "", "", "", "", "", "", "", "", "", "", ""] }
def ixM {α:Type}(g:α→Option Bool)(xs:List α):Option Int:=(q2u (fun k x (_:Unit)=>(g x).bind fun y=>if y=true then some (.inr (k:Int)) else some (.inl ())) 0 xs ()).bind <| onr (fun r=>some r) fun _=>some (-1)
def coC (T F I B f:Nat):Code:=(Code.region 0 #[{ dst:=some 4,op:=.assign (.const (.bool false)),type:=B,pos := "slices.go:124", after:=#[],guard:=none }] false).seq ((Code.region 1 #[{ dst:=some 5,op:=.move (.tmp 0),type:=T,pos := "slices.go:125", after:=#[],guard:=none },{ dst:=some 6,op:=.move (.tmp 1),type:=F,pos := "slices.go:125", after:=#[],guard:=none },{ dst:=some 7,op:=.call { callee:=.value (.func f),args:=#[.tmp 5,.tmp 6],argTypes:=#[T,F] },type:=I,pos := "slices.go:125", after:=#[{ on:=0,ground:=.data },{ on:=1,ground:=.data }],guard:=none },{ dst:=some 8,op:=.binOp .geq I (.tmp 7) (.const (.int .i64 0)) I,type:=B,pos := "slices.go:125", after:=#[{ on:=2,ground:=.data }],guard:=none },{ dst:=some 4,op:=.assign (.tmp 8),type:=B,pos := "slices.go:125", after:=#[{ on:=3,ground:=.data },{ on:=2,ground:=.chain },{ on:=0,ground:=.phase },{ on:=1,ground:=.phase },{ on:=2,ground:=.phase },{ on:=3,ground:=.phase }],guard:=none }] false).seq Code.ret)
def coFn (nm:String)(T E F I B f:Nat):Func:={ name:=nm,origin := "slices.ContainsFunc", targs:=#[T,E],params:=#[T,F],resultTypes:=#[B],nfree:=0,ntmps:=9,results:=#[.tmp 4],body:=some (coC T F I B f),norace:=false,file := "slices/slices.go", endLine:=126,tmpNames:=#["s", "f", "s", "f", "", "", "", "", ""] }
section
variable {P:Program}{α:Type}[Rep α]{F0:Nat→Prop}{w0:World}{nm:String}{T eT F I bT f g:Nat}{xs:List α}{z:Value}{caps:List Value}{gm:α→Option Bool}{r:Int}
theorem ixFu (hf:P.funcs[f]? = some (ixFn nm T eT F I bT))(hr:ixM gm xs=some r)(hx:rdS F0 w0 xs z)(hc:q2p P g=true)
  (hg:∀ w1,Ext w0 w1→∀ {x:α} {cs:List Value} {y:Bool},gm x=some y→rd (Lt w1) w1 x cs→Ret P g (.agg cs.toArray :: caps).toArray w1 (fun _=>False) fun v _=>v = .bool y)
  (hT:q4Y P T=some eT:=by kernel_rfl) (hk:szT P eT=some (Rep.sz α):=by kernel_rfl) (ha:aggT P eT=some true:=by kernel_rfl):Ret P f #[z,.func (.func g) #[] caps.toArray] w0 (fun _=>False) fun v _=>v = .int .i64 r∧I64 r:=by
 obtain⟨A1,n1,c1,rfl⟩:=hx.form3
 have H:=(HL.start F0 w0).argS hx
 have hE0:=Ext.refl w0
 unfold ixM at hr
 refine (En hf) ?_
 refine R ((A) (Z (Y (R ((V) ?_)))))
 refine q0b rfl rfl (q0H rfl hT rfl (rs H 0)) ?_
 have hl1:=(H.rS (i:=0) rfl).I
 refine (V) (Z ?_)
 refine bb hr fun q1 hq1 hr=>?_
 refine (lF hq1 (fun k1 _ _=>[(0,.slice A1 n1 c1),(1,.func (.func g) #[] caps.toArray),(7,zN xs.length),(8,zN k1)]) (fun _ _ w=>Ext w0 w∧HL F0 [] w0 w [Pr.S xs (.slice A1 n1 c1)] []) () (hJ:=⟨hE0,H⟩)) ?_
 rintro k1 _ _ σ w1 hk1 hq1 ⟨hE,H⟩
 refine R ((BZ) (Y ?_))
 refine q0e rfl (fun h1=>?_) (fun h1=>?_)
 ·have hk2:=q2G h1
  obtain⟨x1,z1,hx1,hb1,hs1,ht1⟩:=q3o hq1 hk2
  refine K (Y ?_)
  refine CW.block (R ((V) ((A) (Z (R ((V) ((V) ((V) ?_))))))))
  obtain⟨b1,ob1,cb1,cs1,hvb1,hr1,H'⟩:=H.ixS (i:=0) rfl hx1
  refine q0b rfl rfl (q0V rfl hT hk rfl hvb1 rfl (q4G hx1)) ?_
  refine q0b rfl rfl (q0c rfl ha (hk.trans (by rw [Rep.len hr1])) rfl (ra H' 1) rfl) ?_
  refine bb hb1 fun y1 hy1 hb1=>?_
  refine (CA hc (hg w1 hE hy1 hr1)) ?_
  rintro _ w2 hE2 rfl
  have H:=H.ext hE2
  have hE:=hE.trans hE2
  refine Z (iB hb1 (fun _ hb1=>?_) fun _ hb1=>?_)
  ·exact R ((V) ((A) (Z (W2 hb1 ht1 hr))))
  ·refine K (X ((AN hk2 hl1) ((V) (Z ?_))))
   obtain rfl:=sm hb1
   exact⟨⟨k1+1,(),()⟩,⟨rfl,rfl,rfl,rfl,trivial⟩,⟨hk2,hs1 _ rfl,hE,H⟩,Nat.sub_lt_sub_left hk2 (Nat.lt_succ_self _)⟩
 ·obtain rfl:=q2M hq1 (q2t h1)
  have hr:=(q2S _ _ _).symm.trans hr
  exact CE (R ((A) (Z (W1 hr))))
theorem coF {fi:Nat}{cl:Value}{ix:Option Int}{r:Bool}(hf:P.funcs[f]? = some (coFn nm T eT F I bT fi))(hr:(ix.bind fun y=>some (decide (0≤y)))=some r)(hc:q2p P fi=true)
  (hi:∀ {y:Int},ix=some y→Ret P fi #[z,cl] w0 (fun _=>False) fun v _=>v = .int .i64 y∧I64 y):Ret P f #[z,cl] w0 (fun _=>False) fun v _=>v = .bool r:=by
 refine (En hf) ?_
 refine R ((A) (Z (R ((V) ((V) ?_)))))
 refine bb hr fun y1 hy1 hr=>?_
 refine (CA hc (hi hy1)) ?_
 rintro _ w1 hE ⟨rfl,hI⟩
 obtain rfl:=sm hr
 exact (B) ((A) (Z (CR ⟨_,res1 rfl rfl rfl,hE,rfl⟩)))
theorem CapP.lt {b:Nat}{x:α}{w1:World}(h:CapP F0 w0 b x)(hE:Ext w0 w1):CapP (Lt w1) w1 b x:=by
 have H:=HL.start F0 w0
 obtain⟨cs,H⟩:=H.argP h
 have H:=H.ext hE
 have hr:=H.rR (i:=1) rfl
 have hA:=H.rA (i:=0) rfl
 have hp:=Rep.pos (α:=α)
 have hl:=Rep.len hr
 exact⟨hA.lt (j:=0) (List.getElem?_eq_getElem (by omega)),cs,hA,hr⟩
end
abbrev ag (c:List Value):Value:=.agg c.toArray
abbrev nF:Nat→Prop:=fun _=>False
theorem Bk {P:Program}{n:Nat}{Q:Post}{ρ:Env}{w:World}{id:Nat}{c:Code}(h:CW P n c (z5G id Q) ρ w):CW P n (.block id c) Q ρ w:=CW.block h
end Go.E
namespace Go.E
section
variable {α:Type}{lt:α→α→Bool}
theorem j0s (irr:∀ a,lt a a=false)(tr:∀ a b c,lt a b=true→lt b c=true→lt a c=true) :
  ∀ {xs ys:List α},xs.Pairwise (fun a b=>lt a b=true)→ys.Pairwise (fun a b=>lt a b=true)→(∀ a,a∈xs↔a∈ys)→xs=ys
 | [],[],_,_,_=>rfl
 | [],y :: ys,_,_,h=>absurd ((h y).2 (by simp)) (by simp)
 | x :: xs,[],_,_,h=>absurd ((h x).1 (by simp)) (by simp)
 | x :: xs,y :: ys,hx,hy,h=>by
  rw [List.pairwise_cons] at hx hy
  have asym:∀ a b,lt a b=true→lt b a=true→False:=fun a b h1 h2=>by have:=tr a b a h1 h2; rw [irr] at this; cases this
  have hxy:x=y:=by
   have h1:=(h x).1 (by simp)
   have h2:=(h y).2 (by simp)
   rcases List.mem_cons.1 h1 with e | h1
   ·exact e
   rcases List.mem_cons.1 h2 with e | h2
   ·exact e.symm
   exact (asym x y (hx.1 y h2) (hy.1 x h1)).elim
  subst hxy
  congr 1
  refine j0s irr tr hx.2 hy.2 fun a=>?_
  constructor
  ·intro ha
   rcases List.mem_cons.1 ((h a).1 (by simp [ha])) with e | h1
   ·subst e; have:=hx.1 _ ha; rw [irr] at this; cases this
   ·exact h1
  ·intro ha
   rcases List.mem_cons.1 ((h a).2 (by simp [ha])) with e | h1
   ·subst e; have:=hy.1 _ ha; rw [irr] at this; cases this
   ·exact h1
theorem j4T (tr:∀ a b c,lt a b=true→lt b c=true→lt a c=true)(tot:∀ a b,lt a b=false→lt b a=false→a=b){l:List α}{o:α}{k:Nat}(hl:l.Pairwise (fun a b=>lt a b=true))
  (hb:∀ a∈l.take k,lt a o=true) (ha:∀ y,l[k]? = some y→lt y o=false∧y≠o):(l.take k++o :: l.drop k).Pairwise (fun a b=>lt a b=true):=by
 have hs:(l.take k++l.drop k).Pairwise (fun a b=>lt a b=true):=by rw [List.take_append_drop]; exact hl
 rw [List.pairwise_append] at hs
 have ho:∀ z∈l.drop k,lt o z=true:=by
  cases hd:l.drop k with
  | nil=>intro z hz; cases hz
  | cons y r=>
   have hy:l[k]? = some y:=by
    have:(l.drop k)[0]? = some y:=by rw [hd]; rfl
    simpa using this
   obtain⟨h1,h2⟩:=ha y hy
   have h3:lt o y=true:=by
    cases h:lt o y with
    | true=>rfl
    | false=>exact absurd (tot _ _ h1 h) h2
   intro z hz
   rcases List.mem_cons.1 hz with e | hz
   ·rw [e]; exact h3
   ·have:=hs.2.1; rw [hd,List.pairwise_cons] at this
    exact tr _ _ _ h3 (this.1 z hz)
 rw [List.pairwise_append,List.pairwise_cons]
 refine⟨hs.1,⟨ho,hs.2.1⟩,fun a h1 b h2=>?_⟩
 rcases List.mem_cons.1 h2 with e | h2
 ·rw [e]; exact hb a h1
 ·exact hs.2.2 a h1 b h2
end
section
variable {α:Type}[DecidableEq α]{lt:α→α→Bool}
def q3H:List α→List α
 | []=>[]
 | [x]=>[x]
 | x :: y :: l=>if x=y then q3H (y :: l) else x :: q3H (y :: l)
theorem z3C {a:α}:∀ {l:List α},a∈q3H l↔a∈l
 | []=>Iff.rfl
 | [x]=>Iff.rfl
 | x :: y :: l=>by
  unfold q3H
  have ih:=z3C (a:=a) (l:=y :: l)
  split
  ·rename_i e; subst e; rw [ih]; simp
  ·rw [List.mem_cons,ih]; simp
theorem z3D (tr:∀ a b c,lt a b=true→lt b c=true→lt a c=true)(tot:∀ a b,lt a b=false→lt b a=false→a=b) :
  ∀ {l:List α},l.Pairwise (fun a b=>lt b a=false)→(q3H l).Pairwise (fun a b=>lt a b=true)
 | [],_=>List.Pairwise.nil
 | [x],_=>by simp [q3H]
 | x :: y :: l,h=>by
  unfold q3H
  rw [List.pairwise_cons] at h
  have ih:=z3D tr tot h.2
  split
  ·exact ih
  ·rename_i hne
   rw [List.pairwise_cons]
   refine⟨fun z hz=>?_,ih⟩
   have h1:lt x y=true:=by
    cases e:lt x y with
    | true=>rfl
    | false=>exact absurd (tot _ _ e (h.1 y (by simp))) hne
   rcases List.mem_cons.1 (z3C.1 hz) with e | hz
   ·rw [e]; exact h1
   ·have h2:=(List.pairwise_cons.1 h.2).1 z hz
    cases e:lt y z with
    | true=>exact tr _ _ _ h1 e
    | false=>rw [← tot _ _ e h2]; exact h1
theorem z5M {a:α}:∀ {l:List α},q3H (l++[a])=if l.getLast? = some a then q3H l else q3H l++[a]
 | []=>by simp [q3H]
 | [x]=>by
  simp only [q3H,List.cons_append,List.nil_append,List.getLast?_singleton,Option.some.injEq]
  by_cases e:x=a
  ·subst e; simp
  ·simp [e]
 | x :: y :: l=>by
  have ih:=z5M (a:=a) (l:=y :: l)
  simp only [List.cons_append] at ih ⊢
  have e:(x :: y :: l).getLast? = (y :: l).getLast?:=by simp [List.getLast?_cons_cons]
  rw [e]
  show (if x=y then q3H (y :: (l++[a])) else x :: q3H (y :: (l++[a])))=_
  rw [ih]
  show _=if (y :: l).getLast? = some a then (if x=y then q3H (y :: l) else x :: q3H (y :: l)) else (if x=y then q3H (y :: l) else x :: q3H (y :: l))++[a]
  split<;>split<;>simp
theorem z5N {l:List α}{i:Nat}{a b:α}(ha:l[i]? = some a)(hb:l[i+1]? = some b):q3H (l.take (i+2))=if a=b then q3H (l.take (i+1)) else q3H (l.take (i+1))++[b]:=by
 have h1:l.take (i+2)=l.take (i+1)++[b]:=by rw [show i+2=(i+1)+1 from rfl,List.take_add_one,hb]; rfl
 have h2:(l.take (i+1)).getLast? = some a:=by rw [List.take_add_one,ha]; simp
 rw [h1,z5M,h2]
 by_cases e:a=b
 ·simp [e]
 ·simp [e]
end
end Go.E

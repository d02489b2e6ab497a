/- A small engine for walks through a Go program: plain lemmas on the model, without conditions of their own. -/
import Derived.Test.YtodhafdaelcnlaaGreatAb2
import Derived.Laws.CopyRow
import Derived.Laws.IdiomCopy
import Derived.OrdersHeld
set_option linter.unusedVariables false
set_option linter.unusedSimpArgs false
set_option linter.ambiguousOpen false
set_option linter.unusedSectionVars false
set_option linter.unnecessarySimpa false
open Array renaming toList_setIfInBounds->Bmz,ext'->Bnz,range->Boz
open List renaming take_of_length_le->Biz,append_assoc->Azz
open Nat renaming add_mul->Arz
namespace Go.E
open Go
open Rep (rd)
open Sep (own)
structure Sp where
 p:List Nat->World->Prop
 frame:∀ {L:List Nat} {w w' : World},p L w->(∀ b∈L,w'.heap[b]?=w.heap[b]?)->p L w'
 lt:∀ {L:List Nat} {w:World},p L w->∀ b∈L,b<w.heap.size
end Go.E
namespace Go.E
open Go
open Rep (rd)
open Sep (own)
section
variable {P:Program}{ρ:Env}{w:World}{o:Oper}
theorem QY {T1 T2:TypeId}{x y:Operand}{q r:IntKind}{a b:Int}(ho:o.op=.call { callee:=.builtin .max,args:=#[x,y],argTypes:=#[T1,T2] })(hx:E.ev ρ x=.int q a)(hy:E.ev ρ y=.int r b):Ev P ρ o w (.int q (if b > a then b else a)):=by
 simp[Ev,execOp,ho,hx,hy,resolve,invoke,builtin,Builtin.max_,Builtin.max2,List.foldlM]
theorem QX {T1 T2:TypeId}{x y:Operand}{q r:IntKind}{a b:Int}(ho:o.op=.call { callee:=.builtin .min,args:=#[x,y],argTypes:=#[T1,T2] })(hx:E.ev ρ x=.int q a)(hy:E.ev ρ y=.int r b):Ev P ρ o w (.int q (if b<a then b else a)):=by
 simp[Ev,execOp,ho,hx,hy,resolve,invoke,builtin,Builtin.min_,Builtin.min2,List.foldlM]
end
theorem JG {a b:Int}{c:Prop}[Decidable c](ha:aR a)(Y:aR b):aR (if c then b else a):=by
 split;exact Y;exact ha
theorem LC (off:Nat):∀ (l:List Value) (k:Nat) (cs:Array Value),off+(k+l.length)<=cs.size ->
  ((l.zipIdx k).foldl (λcs (p:Value×Nat)=>cs.setIfInBounds (off+p.2) p.1) cs).toList=cs.toList.take (off+k)++(l++cs.toList.drop (off+(k+l.length)))
 | [],k,cs,_=>by simp
 | x::l,k,cs,h=>by
  simp only[bH] at h;simp only[List.zipIdx_cons,List.foldl_cons];rw[LC off l (k+1) _ (by simp;omega)];have hk:off+k<cs.toList.length:=by simp;omega
  have U:(cs.setIfInBounds (off+k) x).toList.take (off+(k+1))=cs.toList.take (off+k)++[x]:=by
   rw[Bmz,← Nat.add_assoc,List.take_add_one,List.take_set_of_le (Nat.le_refl _)];simp only[Array.length_toList] at hk;simp[hk]
  have W:(cs.setIfInBounds (off+k) x).toList.drop (off+(k+1+l.length))=cs.toList.drop (off+(k+(x::l).length)):=by
   rw[Bmz,List.drop_set_of_lt (by omega)];congr 1;simp only[bH];omega
  rw[U,W];simp
def ly (k:Nat):List Value->List (List Value)->Prop
 | [],[]=>True
 | v::vs,c::cs=>v.cells=c.toArray/\c.length=k/\ly k vs cs
 | _,_=>False
theorem LB {k:Nat}:∀ (vs:List Value) (css:List (List Value)) (j:Nat) (cs:Array Value),ly k vs css->cs.size=(j+vs.length)*k->Instr.fill (λi=>some (i*k,k)) cs (dJ j vs)=some (cs.toList.take (j*k)++css.flatten).toArray
 | [],[],j,cs,_,h=>by
  simp only[dJ,Instr.fill,List.flatten_nil,List.append_nil];congr 1;apply Bnz;simp at h;simp[Biz,h]
 | v::vs,c::css,j,cs,⟨hv,hc,Z⟩,h=>by
  have hl:(v::vs).length=vs.length+1:=rfl;rw[hl] at h;have hmul:(j+(vs.length+1))*k=j*k+k+vs.length*k:=by rw[Arz,Arz];omega
  have hseg:=LC (j*k) c 0 cs (by rw[hc];omega);simp only[dJ,Instr.fill,hv];have e1:¬ ((c.toArray.size≠k||j*k+c.toArray.size > cs.size)=true):=by simp[hc];omega
  rw[al e1];have e2:(c.toArray.zipIdx.foldl (λcs (x:Value×Nat)=>cs.setIfInBounds (j*k+x.2) x.1) cs)=(cs.toList.take (j*k)++(c++cs.toList.drop (j*k+(0+c.length)))).toArray:=by
   apply Bnz;rw[Nat.add_zero] at hseg;rw[← Array.foldl_toList];refine Eq.trans ?_ hseg;simp
  have ih:=LB vs css (j+1) (cs.toList.take (j*k)++(c++cs.toList.drop (j*k+(0+c.length)))).toArray Z (by
   simp[hc];rw[Nat.min_eq_left (by omega),Arz,Arz];omega)
  refine (congrArg (λq=>Instr.fill _ q _) e2).trans (ih.trans ?_);congr 1;apply Bnz;simp only[List.flatten_cons];rw[← Azz,← Azz];rw[List.take_append_of_le_length (by simp[hc,Arz];omega),Biz (by simp[hc,Arz];omega)]
 | [],_::_,_,_,h,_=>h.elim
 | _::_,[],_,_,h,_=>h.elim
section
variable {F0:Nat->Prop}{M:List Nat}{w0 w w' : World}{fr:List Pr}{ow:List It}{i j:Nat}{e:TypeId}{v:Value}{cs:List Value}
variable {P:Program}{n d:Nat}{Q:b8}{ρ:Env}{ops:Array Oper}{o:Oper}{rest:List Oper}
theorem KM {T m k:Nat}{z:List Value}{vs:List Value}{css:List (List Value)}(hT:cY P T=some e)(hk:cn P e=some k)(hz:fO P e=some z)(hzk:z.length=k)(U:ly k vs css)(hn:vs.length=m)(hk0:Nat.blt 0 k=true)(hm:Nat.blt 0 m=true)(hm2:Nat.ble (m*k) 100000=true) :
  (Instr.buildSlice T m (dJ 0 vs).toArray).run P w=.ok (.slice (some ⟨w.heap.size,0,none⟩) m m) (w.alloc (.cells css.flatten.toArray e)):=by
 obtain⟨zv,hzv,hzc⟩:=uG (P:=P) (w:=w) hz;have hm' : 0<m:=by simpa using hm
 have hk' : 0<k:=by simpa using hk0
 have hm2' : m*k<=100000:=by simpa using hm2
 have hpos:0<m*k:=Nat.mul_pos hm' hk';have n1:¬ 16777216<m*k:=by omega
 have n2:¬ m*k=0:=by omega
 have n3:¬ (m=0∨k=0):=by omega
 have hf:=LB vs css 0 ((Boz (m*k)).map (z.toArray[· % z.toArray.size]!)) U (by simp[hn]);have hnr:=qZ (P:=P) (w:=w) e css.flatten;have Z:(Boz (m*k)).map (λx=>z.toArray[x % z.toArray.size]!)=(Boz (m*k)).map (z.toArray[· % z.toArray.size]!):=rfl;unfold Instr.buildSlice;simp only[Sem.run_bind,run_underlying (ga hT),Result.andThen_ok,jL hk,Sem.run_pure];simp only[Nat.zero_mul,List.take_zero,List.nil_append] at hf;simp[n1,n2,hzv,hzc];simp only[List.size_toArray] at hf;simp at hf;rw[hf];simp[hnr]
end
end Go.E

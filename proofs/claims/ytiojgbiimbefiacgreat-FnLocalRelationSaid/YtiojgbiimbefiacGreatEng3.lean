/- A small engine for walks through a Go program: plain lemmas on the model, without conditions of their own. -/
import Derived.Test.YtiojgbiimbefiacGreatAb2
import Derived.Laws.CopyRow
import Derived.Laws.IdiomCopy
import Derived.OrdersHeld
set_option linter.unusedVariables false
set_option linter.unusedSimpArgs false
set_option linter.ambiguousOpen false
set_option linter.unusedSectionVars false
set_option linter.unnecessarySimpa false
namespace Go.E
open Go
section
variable {P:Program}{n:Nat}{K:Env→World→Prop}{Q:Post}{ρ:Env}{w:World}{ops:Array Oper}{o:Oper}{S:World→Prop}{listed:Array Bool}{k i:Nat}{v:Value}
abbrev j4c (K:Env→World→Prop):Post:=fun e ρ w=>e = .normal∧K ρ w
def HW (P:Program)(n:Nat)(ops:Array Oper)(K:Env→World→Prop)(S:World→Prop)(k:Nat)(listed:Array Bool)(ρ:Env)(w:World):Prop:=
 ops.toList.all (q3d n)=true→∀ a,Rel n ρ a→wpAnyH P .any ops (lift n (j4c K)) S k listed a w
theorem z4C (hok:ops.toList.all (q3d n)=true):q5c n ops=true:=by
 refine List.all_eq_true.2 fun o' ho'=>?_
 have:=List.all_eq_true.1 hok o' ho'
 simp only [q3d,Bool.and_eq_true] at this
 exact this.1.1
theorem q0T (hi:ops[i]? = some o)(hs:Region.noSelect ops=true)(hf:Region.free .any ops listed i=true)(hr:(Region.ready .any ops listed).contains i=true)(hS:S w)
  (hy:(gate ops ρ o=true∧∀ w',S w'→Ev P ρ o w' v)∨(gate ops ρ o=false∧v=undef)) (h:HW P n ops K S k (listed.setIfInBounds i true) (E.put ρ o.dst v) w):HW P n ops K S (k+1) listed ρ w:=fun hok a ha=>by
 have hoko:q3d n o=true:=List.all_eq_true.1 hok o (by rw [Array.mem_toList_iff]; exact Array.mem_of_getElem? hi)
 refine wpAnyH_take (v:=v) hi hs hf hr (fun c a w ⟨ρ,_,he,_⟩=>by cases he) ?_ hS (h hok _ (ha.put _ _))
 rcases hy with ⟨h1,h2⟩ | ⟨h1,h2⟩
 ·refine .inl ⟨by rw [q4t (z4C hok) ha]; exact h1,fun w' hw'=>?_⟩
  rw [q4I ha hoko]; exact h2 w' hw'
 ·exact .inr ⟨by rw [q4t (z4C hok) ha]; exact h1,h2⟩
theorem HW.take {d:Nat}(i:Nat)(hS:S w)(hi:ops[i]? = some o)(hs:(Region.noSelect ops&&Region.free .any ops listed i&&(Region.ready .any ops listed).contains i)=true)(hg:o.guard=none)(hd:o.dst=some d)(he:∀ w',S w'→Ev P ρ o w' v)(h:HW P n ops K S k (listed.setIfInBounds i true) (upd ρ d v) w):HW P n ops K S (k+1) listed ρ w:=by
 simp only [Bool.and_eq_true] at hs
 exact q0T hi hs.1.1 hs.1.2 hs.2 hS (.inl ⟨by simp [gate,hg],he⟩) (by rw [hd]; exact h)
end
end Go.E
namespace Go.E
open Go
open Rep (rd)
open Sep (own)
structure Sp where
 p:List Nat→World→Prop
 frame:∀ {L:List Nat} {w w' : World},p L w→(∀ b∈L,w'.heap[b]? = w.heap[b]?)→p L w'
 lt:∀ {L:List Nat} {w:World},p L w→∀ b∈L,b < w.heap.size
def AllSp (w:World):List Nat→List Sp→Prop
 | L,[]=>L=[]
 | L,s :: l=>∃ L1 L2,L=L1++L2∧s.p L1 w∧AllSp w L2 l
theorem AllSp.frame {w w' : World}:∀ {l:List Sp} {L:List Nat},AllSp w L l→(∀ b∈L,w'.heap[b]? = w.heap[b]?)→AllSp w' L l
 | [],_,h,_=>h
 | s :: l,_,⟨L1,L2,e,h1,h2⟩,hf=>by
  subst e
  exact⟨L1,L2,rfl,s.frame h1 fun b hb=>hf b (List.mem_append.2 (.inl hb)),AllSp.frame h2 fun b hb=>hf b (List.mem_append.2 (.inr hb))⟩
theorem AllSp.lt {w:World}:∀ {l:List Sp} {L:List Nat},AllSp w L l→∀ b∈L,b < w.heap.size
 | [],_,h,b,hb=>by rw [show _=_ from h] at hb; simp at hb
 | s :: l,_,⟨L1,L2,e,h1,h2⟩,b,hb=>by
  subst e
  rcases List.mem_append.1 hb with hb | hb
  ·exact s.lt h1 b hb
  ·exact AllSp.lt h2 b hb
section
variable {F0:Nat→Prop}{M:List Nat}{w0 w w' : World}{fr:List Pr}{ow:List It}{i k:Nat}{e:TypeId}{v u:Value}
end
section
variable {F0:Nat→Prop}{M:List Nat}{w0 w w' : World}{fr:List Pr}{ow:List It}{i j:Nat}{e:TypeId}{v:Value}{cs:List Value}
variable {P:Program}{n d:Nat}{Q:Post}{ρ:Env}{ops:Array Oper}{o:Oper}{rest:List Oper}
end
end Go.E
namespace Go.E
open Go
section
variable {P:Program}{n:Nat}{K:Env→World→Prop}{Q:Post}{ρ:Env}{w:World}{ops:Array Oper}{o:Oper}{S:World→Prop}{listed:Array Bool}{k i:Nat}{v:Value}
def q1m (P:Program)(n:Nat)(ops:Array Oper)(K:Env→World→Prop)(S:World→Prop)(k:Nat)(listed:Array Bool)(ρ:Env)(w:World)(i:Nat):Prop:=
 ∃ o,ops[i]? = some o∧WL P n ops (j4c fun ρ' w'=>S w'∧HW P n ops K S k (listed.setIfInBounds i true) ρ' w') [o] ρ w
def q0b (P:Program)(n:Nat)(ops:Array Oper)(K:Env→World→Prop)(S:World→Prop)(k:Nat)(listed:Array Bool)(ρ:Env)(w:World):List Nat→Prop
 | []=>True
 | i :: l=>q1m P n ops K S k listed ρ w i∧q0b P n ops K S k listed ρ w l
theorem q0b.get:∀ {l:List Nat} {i:Nat},q0b P n ops K S k listed ρ w l→i∈l→q1m P n ops K S k listed ρ w i
 | j :: l,i,h,hi=>by
  rcases List.mem_cons.1 hi with rfl | hi
  ·exact h.1
  ·exact q0b.get h.2 hi
theorem HW.some (rs:List Nat)(hr:Region.ready .any ops listed=rs)(hne:rs.isEmpty=false)(h:q0b P n ops K S k listed ρ w rs):HW P n ops K S (k+1) listed ρ w:=fun hok a ha=>by
 refine wpAnyH_all hr (by rintro rfl; cases hne) fun j hj=>?_
 obtain⟨o,hi,h⟩:=h.get hj
 have hoko:q3d n o=true:=List.all_eq_true.1 hok o (by rw [Array.mem_toList_iff]; exact Array.mem_of_getElem? hi)
 have h1:=h (by simp [hoko]) a ha
 unfold wpList at h1
 unfold wpOp
 simp only [hi]
 by_cases hw:Region.wanted o (yielded ops a.tmps)=true
 ·rw [if_pos hw] at h1 ⊢
  rcases h1 with h1 | h1
  ·refine .inl (z3A (fun a' w' h2=>?_) (fun e a' w' he ⟨ρ',_,h3,_⟩=>absurd h3 he) h1)
   unfold wpList at h2
   obtain⟨ρ',hr',_,hS',hH⟩:=h2
   exact⟨hS',hH hok a' hr'⟩
  ·obtain⟨_,a',w',ρ',_,he,_⟩:=h1
   cases he
 ·rw [if_neg hw] at h1 ⊢
  unfold wpList at h1
  obtain⟨ρ',hr',_,hS',hH⟩:=h1
  exact⟨hS',hH hok _ hr'⟩
end
end Go.E
namespace Go.E
open Go
open Rep (rd)
open Sep (own)
section
variable {P:Program}{ρ:Env}{w:World}{o:Oper}
end
theorem z4D (off:Nat):∀ (l:List Value) (k:Nat) (cs:Array Value),off+(k+l.length)≤cs.size →
  ((l.zipIdx k).foldl (fun cs (p:Value × Nat)=>cs.setIfInBounds (off+p.2) p.1) cs).toList=cs.toList.take (off+k)++(l++cs.toList.drop (off+(k+l.length)))
 | [],k,cs,_=>by simp
 | x :: l,k,cs,h=>by
  simp only [List.length_cons] at h
  simp only [List.zipIdx_cons,List.foldl_cons]
  rw [z4D off l (k+1) _ (by simp; omega)]
  have hk:off+k < cs.toList.length:=by simp; omega
  have h1:(cs.setIfInBounds (off+k) x).toList.take (off+(k+1))=cs.toList.take (off+k)++[x]:=by
   rw [Array.toList_setIfInBounds,← Nat.add_assoc,List.take_add_one,List.take_set_of_le (Nat.le_refl _)]
   simp only [Array.length_toList] at hk
   simp [hk]
  have h2:(cs.setIfInBounds (off+k) x).toList.drop (off+(k+1+l.length))=cs.toList.drop (off+(k+(x :: l).length)):=by
   rw [Array.toList_setIfInBounds,List.drop_set_of_lt (by omega)]
   congr 1
   simp only [List.length_cons]; omega
  rw [h1,h2]; simp
def catL (k:Nat):List Value→List (List Value)→Prop
 | [],[]=>True
 | v :: vs,c :: cs=>v.cells=c.toArray∧c.length=k∧catL k vs cs
 | _,_=>False
theorem catL.len {k:Nat}:∀ {vs:List Value} {css:List (List Value)},catL k vs css→css.flatten.length=vs.length*k
 | [],[],_=>by simp
 | v :: vs,c :: cs,⟨_,h,h2⟩=>by
  have:=catL.len h2
  simp only [List.flatten_cons,List.length_append,List.length_cons,h,this,Nat.add_mul]; omega
 | [],_ :: _,h=>h.elim
 | _ :: _,[],h=>h.elim
theorem z4E {k:Nat}:∀ (vs:List Value) (css:List (List Value)) (j:Nat) (cs:Array Value),catL k vs css→cs.size=(j+vs.length)*k→Instr.fill (fun i=>some (i*k,k)) cs (idxL j vs)=some (cs.toList.take (j*k)++css.flatten).toArray
 | [],[],j,cs,_,h=>by
  simp only [idxL,Instr.fill,List.flatten_nil,List.append_nil]
  congr 1
  apply Array.ext'
  simp at h
  simp [List.take_of_length_le,h]
 | v :: vs,c :: css,j,cs,⟨hv,hc,hr⟩,h=>by
  have hl:(v :: vs).length=vs.length+1:=rfl
  rw [hl] at h
  have hmul:(j+(vs.length+1))*k=j*k+k+vs.length*k:=by rw [Nat.add_mul,Nat.add_mul]; omega
  have hseg:=z4D (j*k) c 0 cs (by rw [hc]; omega)
  simp only [idxL,Instr.fill,hv]
  have e1:¬ ((c.toArray.size≠k||j*k+c.toArray.size > cs.size)=true):=by simp [hc]; omega
  rw [if_neg e1]
  have e2:(c.toArray.zipIdx.foldl (fun cs (x:Value × Nat)=>cs.setIfInBounds (j*k+x.2) x.1) cs)=(cs.toList.take (j*k)++(c++cs.toList.drop (j*k+(0+c.length)))).toArray:=by
   apply Array.ext'
   rw [Nat.add_zero] at hseg
   rw [← Array.foldl_toList]
   refine Eq.trans ?_ hseg
   simp
  have ih:=z4E vs css (j+1) (cs.toList.take (j*k)++(c++cs.toList.drop (j*k+(0+c.length)))).toArray hr (by
   simp [hc]
   rw [Nat.min_eq_left (by omega),Nat.add_mul,Nat.add_mul]
   omega)
  refine (congrArg (fun q=>Instr.fill _ q _) e2).trans (ih.trans ?_)
  congr 1
  apply Array.ext'
  simp only [List.flatten_cons]
  rw [← List.append_assoc,← List.append_assoc]
  rw [List.take_append_of_le_length (by simp [hc,Nat.add_mul]; omega),List.take_of_length_le (by simp [hc,Nat.add_mul]; omega)]
 | [],_ :: _,_,_,h,_=>h.elim
 | _ :: _,[],_,_,h,_=>h.elim
section
variable {F0:Nat→Prop}{M:List Nat}{w0 w w' : World}{fr:List Pr}{ow:List It}{i j:Nat}{e:TypeId}{v:Value}{cs:List Value}
variable {P:Program}{n d:Nat}{Q:Post}{ρ:Env}{ops:Array Oper}{o:Oper}{rest:List Oper}
theorem z7m {T m k:Nat}{z:List Value}{vs:List Value}{css:List (List Value)}(hT:q3W P T=some e)(hk:szT P e=some k)(hz:q6T P e=some z)(hzk:z.length=k)(h1:catL k vs css)(hn:vs.length=m)(hk0:Nat.blt 0 k=true)(hm:Nat.blt 0 m=true)(hm2:Nat.ble (m*k) 100000=true) :
  (Instr.buildSlice T m (idxL 0 vs).toArray).run P w = .ok (.slice (some ⟨w.heap.size,0,none⟩) m m) (w.alloc (.cells css.flatten.toArray e)):=by
 obtain⟨zv,hzv,hzc⟩:=q5d (P:=P) (w:=w) hz
 have hm' : 0 < m:=by simpa using hm
 have hk' : 0 < k:=by simpa using hk0
 have hm2' : m*k≤100000:=by simpa using hm2
 have hpos:0 < m*k:=Nat.mul_pos hm' hk'
 have n1:¬ 16777216 < m*k:=by omega
 have n2:¬ m*k=0:=by omega
 have n3:¬ (m=0∨k=0):=by omega
 have hf:=z4E vs css 0 ((Array.range (m*k)).map (z.toArray[· % z.toArray.size]!)) h1 (by simp [hn])
 have hnr:=q6r (P:=P) (w:=w) e css.flatten
 have hr:(Array.range (m*k)).map (fun x=>z.toArray[x % z.toArray.size]!)=(Array.range (m*k)).map (z.toArray[· % z.toArray.size]!):=rfl
 unfold Instr.buildSlice
 simp only [Sem.run_bind,run_underlying (q2S hT),Result.andThen_ok,q2L hk,Sem.run_pure]
 simp only [Nat.zero_mul,List.take_zero,List.nil_append] at hf
 simp [n1,n2,hzv,hzc]
 simp only [List.size_toArray] at hf
 simp at hf
 rw [hf]
 simp [hnr]
end
section
variable {F0:Nat→Prop}{M:List Nat}{w0 w w' : World}{fr:List Pr}{ow:List It}{i j:Nat}{e:TypeId}{v u:Value}{cs:List Value}
variable {P:Program}{n d:Nat}{Q:Post}{ρ:Env}{ops:Array Oper}{o:Oper}{rest:List Oper}
end
end Go.E

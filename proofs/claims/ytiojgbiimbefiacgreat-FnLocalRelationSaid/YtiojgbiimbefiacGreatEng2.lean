/- A small engine for walks through a Go program: plain lemmas on the model, without conditions of their own. -/
import Derived.Test.YtiojgbiimbefiacGreatAb1
import Derived.ChangeArms
import Derived.Deep.Draws
import Derived.Sort.Grow
set_option linter.unusedVariables false
set_option linter.unusedSimpArgs false
set_option linter.ambiguousOpen false
set_option linter.unusedSectionVars false
set_option linter.unnecessarySimpa false
namespace Go.E
def grd {α:Type}(c:Prop)[Decidable c](k:Option α):Option α:=if c then k else none
theorem q7J {α:Type}{c:Prop}[Decidable c]{k:Option α}{r:α}(h:grd c k=some r):c∧k=some r:=by
 unfold grd at h; split at h
 ·exact⟨‹_›,h⟩
 ·cases h
theorem q1n {α:Type}{c:Prop}[Decidable c]{k:Option α}(h:c):grd c k=k:=if_pos h
theorem bd {α β:Type}{o:Option α}{f:α→Option β}{r:β}(h:o.bind f=some r):∃ x,o=some x∧f x=some r:=Option.bind_eq_some_iff.1 h
def onr {σ ρ β:Type}(g:ρ→Option β)(f:σ→Option β):σ ⊕ ρ→Option β
 | .inl s=>f s
 | .inr r=>g r
@[simp] theorem q8c {σ ρ β:Type} (g:ρ→Option β) (f:σ→Option β) (s:σ):onr g f (.inl s)=f s:=rfl
@[simp] theorem z5T {σ ρ β:Type} (g:ρ→Option β) (f:σ→Option β) (r:ρ):onr g f (.inr r)=g r:=rfl
def eachL {α σ:Type}(f:Nat→α→σ→Option σ):Nat→List α→σ→Option σ
 | _,[],s=>some s
 | i,x :: xs,s=>(f i x s).bind (eachL f (i+1) xs)
def findL {α σ ρ:Type}(f:Nat→α→σ→Option (σ ⊕ ρ)):Nat→List α→σ→Option (σ ⊕ ρ)
 | _,[],s=>some (.inl s)
 | i,x :: xs,s=>(f i x s).bind fun | .inl s'=>findL f (i+1) xs s' | .inr r=>some (.inr r)
def eachN {σ:Type}(f:Nat→σ→Option σ):Nat→Nat→σ→Option σ
 | _,0,s=>some s
 | i,n+1,s=>(f i s).bind (eachN f (i+1) n)
def findN {σ ρ:Type}(f:Nat→σ→Option (σ ⊕ ρ)):Nat→Nat→σ→Option (σ ⊕ ρ)
 | _,0,s=>some (.inl s)
 | i,n+1,s=>(f i s).bind fun | .inl s'=>findN f (i+1) n s' | .inr r=>some (.inr r)
def z0S {σ ρ:Type}(f:σ→Option (σ ⊕ ρ)):Nat→σ→Option ρ
 | 0,_=>none
 | n+1,s=>(f s).bind fun | .inl s'=>z0S f n s' | .inr r=>some r
theorem z0f {σ ρ:Type}{f:σ→Option (σ ⊕ ρ)}:∀ {n m:Nat} {s:σ} {r:ρ},z0S f n s=some r→n≤m→z0S f m s=some r
 | n+1,m+1,s,r,h,hm=>by
  simp only [z0S] at h ⊢
  obtain⟨x,h1,h2⟩:=bd h
  rw [h1]
  cases x with
  | inl s'=>exact z0f (n:=n) h2 (by omega)
  | inr q=>exact h2
 | n+1,0,_,_,_,hm=>absurd hm (by omega)
open Classical in
noncomputable def q2t {σ ρ:Type} (f:σ→Option (σ ⊕ ρ)) (s:σ):Option ρ:=if h:∃ r n,z0S f n s=some r then some h.choose else none
theorem q8J {σ ρ:Type}{f:σ→Option (σ ⊕ ρ)}{s:σ}{r:ρ}:q2t f s=some r↔∃ n,z0S f n s=some r:=by
 constructor
 ·intro h
  unfold q2t at h
  split at h
  ·rename_i hx
   cases h
   exact hx.choose_spec
  ·cases h
 ·rintro⟨n,h⟩
  have hx:∃ r n,z0S f n s=some r:=⟨r,n,h⟩
  unfold q2t
  rw [dif_pos hx]
  obtain⟨m,hm⟩:=hx.choose_spec
  have h1:=z0f hm (Nat.le_max_left m n)
  have h2:=z0f h (Nat.le_max_right m n)
  exact h1.symm.trans h2
theorem q2c {σ ρ:Type}{f:σ→Option (σ ⊕ ρ)}{s s' : σ}(h:f s=some (.inl s')):q2t f s=q2t f s':=by
 have key:∀ r,q2t f s=some r↔q2t f s'=some r:=by
  intro r
  rw [q8J,q8J]
  constructor
  ·rintro⟨n,hn⟩
   cases n with
   | zero=>cases hn
   | succ n=>simp only [z0S,h,Option.bind_some] at hn; exact⟨n,hn⟩
  ·rintro⟨n,hn⟩
   exact⟨n+1,by simp only [z0S,h,Option.bind_some]; exact hn⟩
 cases ho:q2t f s with
 | none=>cases h2:q2t f s' with
  | none=>rfl
  | some r=>rw [(key r).2 h2] at ho; cases ho
 | some r=>exact ((key r).1 ho).symm
theorem q1D {σ ρ:Type}{f:σ→Option (σ ⊕ ρ)}{s:σ}{r:ρ}(h:f s=some (.inr r)):q2t f s=some r:=
 q8J.2 ⟨1,by simp [z0S,h]⟩
section
variable {α σ ρ:Type}
end
end Go.E
namespace Go.E
open Go
open Rep (rd)
open Sep (own)
structure Pr where
 p:(Nat→Prop)→World→Prop
 mono:∀ {F F' : Nat→Prop} {w:World},p F w→(∀ b,F b→F' b)→p F' w
 frame:∀ {F:Nat→Prop} {w w' : World},p F w→(∀ b,F b→b < w.heap.size→w'.heap[b]? = w.heap[b]?)→p F w'
structure It where
 p:List Nat→List Nat→(Nat→Prop)→World→Prop
 mono:∀ {L C:List Nat} {F F' : Nat→Prop} {w:World},p L C F w→(∀ b,F b→F' b)→p L C F' w
 frame:∀ {L C:List Nat} {F:Nat→Prop} {w w' : World},p L C F w→(∀ b,F b→b < w.heap.size→w'.heap[b]? = w.heap[b]?)→(∀ b∈L++C,w'.heap[b]? = w.heap[b]?)→p L C F w'
 lt:∀ {L C:List Nat} {F:Nat→Prop} {w:World},p L C F w→∀ b∈L++C,b < w.heap.size
def It.emp:It:=⟨fun L C _ _=>L=[]∧C=[],fun h _=>h,fun h _ _=>h,by rintro L C F w ⟨rfl,rfl⟩ b hb; simp at hb⟩
def It.B (b:Nat)(T:TypeId)(cs:List Value):It:=⟨fun L C _ w=>L=[b]∧C=[]∧Blk w b T cs,fun h _=>h,
 by rintro L C F w w' ⟨rfl,rfl,h⟩ _ hf; exact⟨rfl,rfl,(hf b (by simp)).trans h⟩,
 by rintro L C F w ⟨rfl,rfl,h⟩ q hq; simp at hq; subst hq; exact h.lt⟩
def It.O {α:Type}[Sep α](e:TypeId)(xs:List α)(v:Value):It:=
 ⟨fun L C _ w=>∃ cs,RowO w e (Rep.sz α) v xs.length L cs∧ownL w C xs cs,fun h _=>h,
 by
  rintro L C F w w' ⟨cs,h1,h2⟩ _ hf
  exact⟨cs,h1.frm fun b hb=>hf b (List.mem_append.2 (.inl hb)),h2.frame fun b hb=>hf b (List.mem_append.2 (.inr hb))⟩,
 by
  rintro L C F w ⟨cs,h1,h2⟩ q hq
  rcases List.mem_append.1 hq with hq | hq
  ·exact h1.lst q hq
  ·exact h2.lt q hq⟩
def AllP (F:Nat→Prop)(w:World):List Pr→Prop
 | []=>True
 | p :: l=>p.p F w∧AllP F w l
def AllI (F:Nat→Prop)(w:World):List It→List (List Nat × List Nat)→Prop
 | [],[]=>True
 | i :: is,(L,C) :: l=>i.p L C F w∧AllI F w is l
 | _,_=>False
def blks:List (List Nat × List Nat)→List Nat
 | []=>[]
 | (L,C) :: l=>(L++C)++blks l
def q2p:List (List Nat × List Nat)→List Nat
 | []=>[]
 | (_,C) :: l=>C++q2p l
def fz (F0:Nat→Prop)(w0:World)(M Fr:List Nat):Nat→Prop:=fun q=>(F0 q∧q < w0.heap.size∧q ∉ M)∨q∈Fr
theorem AllP.get {F:Nat→Prop}{w:World}:∀ {l:List Pr} {i:Nat} {p:Pr},AllP F w l→l[i]? = some p→p.p F w
 | p :: l,0,_,h,e=>by simp at e; subst e; exact h.1
 | p :: l,i+1,_,h,e=>AllP.get h.2 (by simpa using e)
theorem AllP.app {F:Nat→Prop}{w:World}:∀ {l m:List Pr},AllP F w l→AllP F w m→AllP F w (l++m)
 | [],_,_,h=>h
 | _ :: _,_,h1,h2=>⟨h1.1,AllP.app h1.2 h2⟩
theorem AllP.mono {F F' : Nat→Prop}{w:World}(hm:∀ b,F b→F' b):∀ {l:List Pr},AllP F w l→AllP F' w l
 | [],_=>trivial
 | p :: _,h=>⟨p.mono h.1 hm,AllP.mono hm h.2⟩
theorem AllP.frame {F:Nat→Prop}{w w' : World}(hf:∀ b,F b→b < w.heap.size→w'.heap[b]? = w.heap[b]?):∀ {l:List Pr},AllP F w l→AllP F w' l
 | [],_=>trivial
 | p :: _,h=>⟨p.frame h.1 hf,AllP.frame hf h.2⟩
theorem j0Y {LC:List (List Nat × List Nat)}{b:Nat}:b∈blks LC↔∃ x∈LC,b∈x.1∨b∈x.2:=by
 induction LC with
 | nil=>simp [blks]
 | cons x l ih=>obtain⟨L,C⟩:=x; simp [blks,ih,or_assoc]
theorem z8b {LC:List (List Nat × List Nat)}{b:Nat}:b∈q2p LC↔∃ x∈LC,b∈x.2:=by
 induction LC with
 | nil=>simp [q2p]
 | cons x l ih=>obtain⟨L,C⟩:=x; simp [q2p,ih]
theorem z1q {LC:List (List Nat × List Nat)}{b:Nat}(h:b∈q2p LC):b∈blks LC:=by
 rw [z8b] at h; rw [j0Y]; obtain⟨x,h1,h2⟩:=h; exact⟨x,h1,.inr h2⟩
theorem q5e (A B:List (List Nat × List Nat)):blks (A++B)=blks A++blks B:=by
 induction A with
 | nil=>rfl
 | cons x l ih=>obtain⟨L,C⟩:=x; simp [blks,ih]
theorem q5B (A B:List (List Nat × List Nat)):q2p (A++B)=q2p A++q2p B:=by
 induction A with
 | nil=>rfl
 | cons x l ih=>obtain⟨L,C⟩:=x; simp [q2p,ih]
theorem AllI.lt {F:Nat→Prop}{w:World}:∀ {l:List It} {LC:List (List Nat × List Nat)},AllI F w l LC→∀ b∈blks LC,b < w.heap.size
 | [],[],_,b,hb=>by simp [blks] at hb
 | i :: _,(L,C) :: _,h,b,hb=>by
  simp only [blks] at hb
  rcases List.mem_append.1 hb with hb | hb
  ·exact i.lt h.1 b hb
  ·exact AllI.lt h.2 b hb
 | [],_ :: _,h,_,_=>h.elim
 | _ :: _,[],h,_,_=>h.elim
theorem AllI.trans {F F' : Nat→Prop}{w w' : World}(hm:∀ b,F b→F' b)(hf:∀ b,F b→b < w.heap.size→w'.heap[b]? = w.heap[b]?):∀ {l:List It} {LC:List (List Nat × List Nat)},AllI F w l LC→(∀ b∈blks LC,w'.heap[b]? = w.heap[b]?)→AllI F' w' l LC
 | [],[],_,_=>trivial
 | i :: _,(L,C) :: _,h,hb=>⟨i.mono (i.frame h.1 hf fun b hq=>hb b (by simp only [blks]; exact List.mem_append.2 (.inl hq))) hm,AllI.trans hm hf h.2 fun b hq=>hb b (by simp only [blks]; exact List.mem_append.2 (.inr hq))⟩
 | [],_ :: _,h,_=>h.elim
 | _ :: _,[],h,_=>h.elim
theorem AllI.split {F:Nat→Prop}{w:World}:∀ {l:List It} {LC:List (List Nat × List Nat)} {i:Nat} {o:It},AllI F w l LC→l[i]? = some o→∃ a b A L C B,l=a++o :: b∧a.length=i∧LC=A++(L,C) :: B∧AllI F w a A∧o.p L C F w∧AllI F w b B
 | i :: l,(L,C) :: LC,0,_,h,e=>by simp at e; subst e; exact⟨[],l,[],L,C,LC,rfl,rfl,rfl,trivial,h.1,h.2⟩
 | i :: l,(L,C) :: LC,n+1,_,h,e=>by
  obtain⟨a,b,A,L',C',B,rfl,rfl,rfl,h1,h2,h3⟩:=AllI.split h.2 (i:=n) (by simpa using e)
  exact⟨i :: a,b,(L,C) :: A,L',C',B,rfl,by simp,rfl,⟨h.1,h1⟩,h2,h3⟩
 | [],_ :: _,_,_,h,_=>h.elim
 | _ :: _,[],_,_,h,_=>h.elim
 | [],[],_,_,_,e=>by simp at e
theorem AllI.app {F:Nat→Prop}{w:World}:∀ {l m:List It} {A B:List (List Nat × List Nat)},AllI F w l A→AllI F w m B→AllI F w (l++m) (A++B)
 | [],_,[],_,_,h=>h
 | _ :: _,_,(_,_) :: _,_,h1,h2=>⟨h1.1,AllI.app h1.2 h2⟩
 | [],_,_ :: _,_,h,_=>h.elim
 | _ :: _,_,[],_,h,_=>h.elim
def HL (F0:Nat→Prop)(M:List Nat)(w0 w:World)(fr:List Pr)(ow:List It):Prop:=
 ∃ Fr LC,Chg (·∈M) w0 w∧AllP (fz F0 w0 M (Fr++q2p LC)) w fr∧AllI (fz F0 w0 M (Fr++q2p LC)) w ow LC∧(Fr++blks LC).Nodup ∧
  (∀ q∈Fr,q < w.heap.size)∧∀ q∈Fr++blks LC,q∈M∨w0.heap.size≤q
section
variable {F0:Nat→Prop}{M:List Nat}{w0 w w' : World}{fr:List Pr}{ow:List It}
theorem HL.chg (H:HL F0 M w0 w fr ow):Chg (·∈M) w0 w:=by obtain⟨Fr,LC,h,_⟩:=H; exact h
theorem z2K {Fr Fr' : List Nat}(h:∀ q∈Fr,q∈Fr'):∀ b,fz F0 w0 M Fr b→fz F0 w0 M Fr' b:=fun _ hb=>hb.imp id (h _)
theorem j3X {Fr:List Nat}{LC:List (List Nat × List Nat)}(h4:(Fr++blks LC).Nodup)(h6:∀ q∈Fr++blks LC,q∈M∨w0.heap.size≤q){A B:List (List Nat × List Nat)}{L C:List Nat}(hLC:LC=A++(L,C) :: B){q:Nat}(hq:q∈L):¬ fz F0 w0 M (Fr++q2p LC) q:=by
 subst hLC
 have hqb:q∈blks (A++(L,C) :: B):=by rw [q5e]; simp [blks,hq]
 rintro (⟨_,h1,h2⟩ | h)
 ·rcases h6 q (by simp only [List.mem_append]; exact .inr hqb) with h | h
  ·exact h2 h
  ·omega
 ·rw [q5e] at h4
  simp only [blks,List.nodup_append,List.mem_append] at h4
  simp only [q5B,q2p,List.mem_append] at h
  obtain⟨_,⟨_,⟨⟨_,_,n1⟩,_,n2⟩,n3⟩,n4⟩:=h4
  rcases h with h | h | h | h
  ·exact n4 q h q (.inr (.inl (.inl hq))) rfl
  ·exact n3 q (z1q h) q (.inl (.inl hq)) rfl
  ·exact n1 q hq q h rfl
  ·exact n2 q (.inl hq) q (z1q h) rfl
theorem HL.upd {i:Nat}{o:It}(H:HL F0 M w0 w fr ow)(hi:ow[i]? = some o) :
  ∃ F L C,o.p L C F w∧(L++C).Nodup∧(∀ q∈C,F q) ∧
   ∀ {w' : World} {o' : It} {L' C' : List Nat},Chg (·∈L) w w'→(∀ F',(∀ b,F b→F' b)→o'.p L' C' F' w')→(L'++C').Nodup→(∀ q∈L',q∈L∨w.heap.size≤q)→(∀ q∈C',q∈C∨q∈L∨w.heap.size≤q) →
    HL F0 M w0 w' fr (ow.set i o'):=by
 obtain⟨Fr,LC,h1,h2,h3,h4,h5,h6⟩:=H
 have hlt:=h3.lt
 obtain⟨a,b,A,L,C,B,rfl,rfl,rfl,g1,g2,g3⟩:=h3.split hi
 have hnf:∀ q∈L,¬ fz F0 w0 M (Fr++q2p (A++(L,C) :: B)) q:=fun q hq=>j3X h4 h6 rfl hq
 have hb:blks (A++(L,C) :: B)=blks A++((L++C)++blks B):=by rw [q5e]; rfl
 have hcl:q2p (A++(L,C) :: B)=q2p A++(C++q2p B):=by rw [q5B]; rfl
 rw [hb] at h4 h6 hlt
 have h4':=h4
 simp only [List.nodup_append,List.mem_append] at h4'
 obtain⟨n1,⟨n2,⟨⟨n3,n4,n5⟩,n6,n7⟩,n8⟩,n9⟩:=h4'
 refine⟨_,L,C,g2,by rw [List.nodup_append]; exact⟨n3,n4,n5⟩,fun q hq=>.inr (by rw [hcl]; simp [hq]),fun {w' o' L' C'} hc ho hN hL hC=>?_⟩
 have hF:∀ q,fz F0 w0 M (Fr++q2p (A++(L,C) :: B)) q→q < w.heap.size→w'.heap[q]? = w.heap[q]?:=fun q hq hl=>hc.block q hl fun hm=>hnf q hm hq
 have hsub:∀ q,fz F0 w0 M (Fr++q2p (A++(L,C) :: B)) q→fz F0 w0 M ((Fr++C.filter (fun q=>!C'.contains q))++q2p (A++(L',C') :: B)) q:=by
  refine z2K fun q hq=>?_
  rw [hcl] at hq
  rw [q5B]
  simp only [q2p,List.mem_append,List.mem_filter] at hq ⊢
  rcases hq with h | h | h | h
  ·simp [h]
  ·simp [h]
  ·by_cases hc' : q∈C'
   ·simp [hc']
   ·left; right; exact⟨h,by simp [hc']⟩
  ·simp [h]
 have hA:∀ q∈blks A,w'.heap[q]? = w.heap[q]?:=fun q hq=>hc.block q (hlt q (by simp [hq])) fun hm=>n8 q hq q (.inl (.inl hm)) rfl
 have hB:∀ q∈blks B,w'.heap[q]? = w.heap[q]?:=fun q hq=>hc.block q (hlt q (by simp [hq])) fun hm=>n7 q (.inl hm) q hq rfl
 refine⟨Fr++C.filter (fun q=>!C'.contains q),A++(L',C') :: B,?_,?_,?_,?_,?_,?_⟩
 ·refine⟨hc.os.trans h1.os,hc.tape.trans h1.tape,hc.output.trans h1.output,Nat.le_trans h1.size hc.size,fun k hk hm=>?_⟩
  refine (hc.block k (Nat.lt_of_lt_of_le hk h1.size) fun hl=>?_).trans (h1.block k hk hm)
  rcases h6 k (by simp [hl]) with h | h
  ·exact hm h
  ·omega
 ·exact (h2.frame hF).mono hsub
 ·rw [List.set_append_right _ _ (Nat.le_refl _),Nat.sub_self,List.set_cons_zero]
  exact AllI.app (AllI.trans hsub hF g1 hA) ⟨ho _ hsub,AllI.trans hsub hF g3 hB⟩
 ·rw [q5e]
  simp only [blks,List.nodup_append,List.mem_append,List.mem_filter]
  rw [List.nodup_append] at hN
  have out:∀ q,q∈L'∨q∈C'→q∈L∨q∈C∨w.heap.size≤q:=fun q hq=>by
   rcases hq with hq | hq
   ·rcases hL q hq with h | h
    ·exact .inl h
    ·exact .inr (.inr h)
   ·rcases hC q hq with h | h | h
    ·exact .inr (.inl h)
    ·exact .inl h
    ·exact .inr (.inr h)
  refine⟨⟨n1,n4.filter _,fun x hx y hy=>n9 x hx y (.inr (.inl (.inr hy.1)))⟩,⟨n2,⟨hN,n6,fun x hx y hy e=>?_⟩,fun x hx y hy e=>?_⟩,fun x hx y hy e=>?_⟩
  ·subst e
   rcases out x hx with h | h | h
   ·exact n7 x (.inl h) x hy rfl
   ·exact n7 x (.inr h) x hy rfl
   ·have:=hlt x (by simp [hy]); omega
  ·subst e
   rcases hy with hy | hy
   ·rcases out x hy with h | h | h
    ·exact n8 x hx x (.inl (.inl h)) rfl
    ·exact n8 x hx x (.inl (.inr h)) rfl
    ·have:=hlt x (by simp [hx]); omega
   ·exact n8 x hx x (.inr hy) rfl
  ·subst e
   rcases hx with hx | hx
   ·rcases hy with hy | hy | hy
    ·exact n9 x hx x (.inl hy) rfl
    ·rcases out x hy with h | h | h
     ·exact n9 x hx x (.inr (.inl (.inl h))) rfl
     ·exact n9 x hx x (.inr (.inl (.inr h))) rfl
     ·have:=h5 x hx; omega
    ·exact n9 x hx x (.inr (.inr hy)) rfl
   ·obtain⟨hx,hx'⟩:=hx
    rcases hy with hy | hy | hy
    ·exact n8 x hy x (.inl (.inr hx)) rfl
    ·rcases hy with hy | hy
     ·rcases hL x hy with h | h
      ·exact n5 x h x hx rfl
      ·have:=hlt x (by simp [hx]); omega
     ·simp [hy] at hx'
    ·exact n7 x (.inr hx) x hy rfl
 ·intro q hq
  rcases List.mem_append.1 hq with hq | hq
  ·exact Nat.lt_of_lt_of_le (h5 q hq) hc.size
  ·exact Nat.lt_of_lt_of_le (hlt q (by simp [(List.mem_filter.1 hq).1])) hc.size
 ·intro q hq
  rw [q5e] at hq
  simp only [blks,List.mem_append,List.mem_filter] at hq
  have:=h1.size
  rcases hq with (hq | hq) | hq | (hq | hq) | hq
  ·exact h6 q (by simp [hq])
  ·exact h6 q (by simp [hq.1])
  ·exact h6 q (by simp [hq])
  ·rcases hL q hq with h | h
   ·exact h6 q (by simp [h])
   ·exact .inr (by omega)
  ·rcases hC q hq with h | h | h
   ·exact h6 q (by simp [h])
   ·exact h6 q (by simp [h])
   ·exact .inr (by omega)
  ·exact h6 q (by simp [hq])
theorem HL.comp {F:Nat→Prop}{Fr:List Nat}{LC:List (List Nat × List Nat)}(h1:Chg (·∈M) w0 w)(h2:AllP (fz F0 w0 M (Fr++q2p LC)) w fr)(h3:AllI (fz F0 w0 M (Fr++q2p LC)) w ow LC)(h4:(Fr++blks LC).Nodup)
  (h5:∀ q∈Fr,q < w.heap.size) (h6:∀ q∈Fr++blks LC,q∈M∨w0.heap.size≤q) (hF:∀ q,F q→q < w.heap.size→fz F0 w0 M (Fr++q2p LC) q) {fr' : List Pr} {ow' : List It} (H:HL F [] w w' fr' ow'):HL F0 M w0 w' (fr++fr') (ow++ow'):=by
 obtain⟨Fr2,LC2,k1,k2,k3,k4,k5,k6⟩:=H
 have hlt:=h3.lt
 have k6' : ∀ q∈Fr2++blks LC2,w.heap.size≤q:=fun q hq=>by
   rcases k6 q hq with h | h; · simp at h
   ·exact h
 have e1:Ext w w':=k1.mono fun _ _ h=>by simp at h
 have s1:∀ q,fz F0 w0 M (Fr++q2p LC) q→fz F0 w0 M ((Fr++Fr2)++q2p (LC++LC2)) q:=z2K fun q hq=>by
  rw [q5B]; simp only [List.mem_append] at hq ⊢; rcases hq with h | h<;>simp [h]
 have s2:∀ q,fz F w [] (Fr2++q2p LC2) q→fz F0 w0 M ((Fr++Fr2)++q2p (LC++LC2)) q:=fun q hq=>by
  rcases hq with ⟨g1,g2,_⟩ | h
  ·exact s1 q (hF q g1 g2)
  ·exact .inr (by rw [q5B]; simp only [List.mem_append] at h ⊢; rcases h with h | h<;>simp [h])
 have fr1:∀ q,fz F0 w0 M (Fr++q2p LC) q→q < w.heap.size→w'.heap[q]? = w.heap[q]?:=fun q _ hl=>e1.block q hl id
 refine⟨Fr++Fr2,LC++LC2,h1.trans_ext e1,((h2.frame fr1).mono s1).app (k2.mono s2),AllI.app (AllI.trans s1 fr1 h3 fun q hq=>e1.block q (hlt q hq) id) (AllI.trans s2 (fun _ _ _=>rfl) k3 fun _ _=>rfl),?_,?_,?_⟩
 ·rw [q5e]
  simp only [List.nodup_append,List.mem_append] at h4 k4 ⊢
  refine⟨⟨h4.1,k4.1,fun a ha b hb e=>?_⟩,⟨h4.2.1,k4.2.1,fun a ha b hb e=>?_⟩,fun a ha b hb e=>?_⟩
  ·subst e; have:=h5 a ha; have:=k6' a (by simp [hb]); omega
  ·subst e; have:=hlt a ha; have:=k6' a (by simp [hb]); omega
  ·subst e
   rcases ha with ha | ha<;>rcases hb with hb | hb
   ·exact h4.2.2 a ha a hb rfl
   ·have:=h5 a ha; have:=k6' a (by simp [hb]); omega
   ·have:=hlt a hb; have:=k6' a (by simp [ha]); omega
   ·exact k4.2.2 a ha a hb rfl
 ·intro q hq
  rcases List.mem_append.1 hq with h | h
  ·exact Nat.lt_of_lt_of_le (h5 q h) e1.size
  ·exact k5 q h
 ·intro q hq
  rw [q5e] at hq
  have hs:=h1.size
  simp only [List.mem_append] at hq
  rcases hq with (h | h) | (h | h)
  ·exact h6 q (by simp [h])
  ·exact .inr (Nat.le_trans hs (k6' q (by simp [h])))
  ·exact h6 q (by simp [h])
  ·exact .inr (Nat.le_trans hs (k6' q (by simp [h])))
theorem HL.call (H:HL F0 M w0 w fr ow):∃ F,AllP F w fr∧∀ {w' : World} {fr' : List Pr} {ow' : List It},HL F [] w w' fr' ow'→HL F0 M w0 w' (fr++fr') (ow++ow'):=by
 obtain⟨Fr,LC,h1,h2,h3,h4,h5,h6⟩:=H
 exact⟨_,h2,fun H=>HL.comp h1 h2 h3 h4 h5 h6 (fun _ h _=>h) H⟩
abbrev Lt (w:World):Nat→Prop:=fun q=>q < w.heap.size
def z9j:List It→Prop
 | []=>True
 | o :: l=>(∀ L C F F' w,o.p L C F w→o.p L C F' w)∧z9j l
theorem AllI.free {F F' : Nat→Prop}{w:World}:∀ {l:List It} {LC:List (List Nat × List Nat)},z9j l→AllI F w l LC→AllI F' w l LC
 | [],[],_,_=>trivial
 | _ :: _,(_,_) :: _,hf,h=>⟨hf.1 _ _ _ _ _ h.1,AllI.free hf.2 h.2⟩
 | [],_ :: _,_,h=>h.elim
 | _ :: _,[],_,h=>h.elim
theorem HL.callA {F:Nat→Prop}{ow' : List It}(H:HL F0 M w0 w fr ow)(H' : HL F [] w w' [] ow')(hf:z9j ow'):HL F0 M w0 w' fr (ow++ow'):=by
 obtain⟨Fr,LC,h1,h2,h3,h4,h5,h6⟩:=H
 obtain⟨Fr2,LC2,k1,k2,k3,k4⟩:=H'
 have:=HL.comp h1 h2 h3 h4 h5 h6 (F:=fun _=>False) (fun _ h _=>h.elim) (fr':=[]) (ow':=ow') ⟨Fr2,LC2,k1,trivial,k3.free hf,k4⟩
 rwa [List.append_nil] at this
theorem HL.ext (H:HL F0 M w0 w fr ow)(hE:Ext w w'):HL F0 M w0 w' fr ow:=by
 have:=H.callA (F:=fun _=>False) (ow':=[]) ⟨[],[],hE.mono fun _ _ h=>h.elim,trivial,trivial,by simp [blks],by simp,by simp [blks]⟩ trivial
 rwa [List.append_nil] at this
theorem HL.news {ow' : List It}{LC' : List (List Nat × List Nat)}(H:HL F0 M w0 w fr ow)(hE:Ext w w')(hI:AllI (fun _=>False) w' ow' LC')(hf:z9j ow')(hN:(blks LC').Nodup)(hn:∀ q∈blks LC',w.heap.size≤q):HL F0 M w0 w' fr (ow++ow'):=
 H.callA (F:=fun _=>False) ⟨[],LC',hE.mono fun _ _ h=>h.elim,trivial,hI.free hf,by simpa using hN,by simp,fun q hq=>.inr (hn q (by simpa using hq))⟩ hf
theorem HL.new1 {o:It}{L C:List Nat}(H:HL F0 M w0 w fr ow)(hE:Ext w w')(h:∀ F,o.p L C F w')(hN:(L++C).Nodup)(hn:∀ q∈L++C,w.heap.size≤q)(hf:∀ L C F F' w,o.p L C F w→o.p L C F' w):HL F0 M w0 w' fr (ow++[o]):=
 H.news (LC':=[(L,C)]) hE ⟨h _,trivial⟩ ⟨hf,trivial⟩ (by simpa [blks] using hN) (by simpa [blks] using hn)
end
end Go.E
namespace Go.E
open Go
open Rep (rd)
open Sep (own)
section
variable {F0:Nat→Prop}{M:List Nat}{w0 w w' : World}{fr:List Pr}{ow:List It}{i j:Nat}{e:TypeId}{v:Value}{cs:List Value}
theorem rdL.lt {α:Type}[Rep α]{F:Nat→Prop}{xs:List α}(h:rdL F w xs cs):rdL (Lt w) w xs cs:=h.bound.mono fun _ hb=>hb.2
theorem Own.len {α:Type}[Rep α]{xs:List α}{e2 m:Nat}(h:Own w 0 e2 (Rep.sz α) v m cs)(hr:rdL (fun _=>True) w xs cs):m=xs.length:=(h.rd hr fun _ _=>trivial).1
theorem Own.slice {k m n:Nat}(h:Own w 0 e k v m cs)(hm:n < m):∃ b c,v = .slice (some ⟨b,0,none⟩) m c∧v.ownBlock=some b:=by
 rcases h.2 with ⟨_,h0⟩ | ⟨g,cap,cur,rfl,_⟩
 ·omega
 ·exact⟨g,cap,rfl,rfl⟩
theorem Own.at {k m:Nat}{b:Nat}(h:Own w 0 e k v m cs)(hb:v.ownBlock=some b):At w b 0 cs:=by
 rcases h.2 with ⟨rfl,_⟩ | ⟨g,cap,cur,rfl,_,hg,hn,hc,hs,ht⟩
 ·cases hb
 ·cases hb
  intro j u hu
  rw [cell_of_row w g (0+j) cur e (0,0) hg,Nat.zero_add]
  rw [← ht,List.getElem?_take] at hu
  split at hu
  ·simpa using hu
  ·cases hu
theorem HL.turn {o o' : It}(H:HL F0 M w0 w fr ow)(hi:ow[i]? = some o)(h:∀ F L C,o.p L C F w→(L++C).Nodup→∃ L' C',(∀ F',(∀ b,F b→F' b)→o'.p L' C' F' w)∧(L'++C').Nodup∧(∀ q∈L',q∈L)∧∀ q∈C',q∈C∨q∈L):HL F0 M w0 w fr (ow.set i o'):=by
 obtain⟨F,L,C,h1,h2,_,h3⟩:=H.upd hi
 obtain⟨L',C',k1,k2,k3,k4⟩:=h F L C h1 h2
 exact h3 (Chg.refl w) k1 k2 (fun q hq=>.inl (k3 q hq)) fun q hq=>(k4 q hq).imp id .inl
theorem HL.drop {o:It}(H:HL F0 M w0 w fr ow)(hi:ow[i]? = some o):HL F0 M w0 w fr (ow.set i It.emp):=
 H.turn hi fun _ _ _ _ _=>⟨[],[],fun _ _=>⟨rfl,rfl⟩,by simp,by simp,by simp⟩
theorem HL.nil {α:Type}[Sep α](e:TypeId)(H:HL F0 M w0 w fr ow):HL F0 M w0 w fr (ow++[It.O e ([]:List α) (.slice none 0 0)]):=
 H.new1 (L:=[]) (C:=[]) (Ext.refl w) (fun _=>⟨[],⟨0,.inr ⟨⟨_,rfl⟩,rfl,rfl,rfl⟩⟩,rfl,rfl⟩) (by simp) (by simp) fun _ _ _ _ _ h=>h
end
end Go.E
namespace Go.E
open Go
open Rep (rd)
open Sep (own)
section
variable {F0:Nat→Prop}{M:List Nat}{w0 w w' : World}{fr:List Pr}{ow:List It}{i j:Nat}{e:TypeId}{v:Value}{cs:List Value}
variable {P:Program}{n d:Nat}{Q:Post}{ρ:Env}{ops:Array Oper}{o:Oper}{rest:List Oper}
theorem Own.form {k m:Nat}(h:Own w 0 e k v m cs):∃ A c,v = .slice A m c:=by
 rcases h.2 with ⟨rfl,rfl⟩ | ⟨g,cap,cur,rfl,_⟩
 ·exact⟨_,_,rfl⟩
 ·exact⟨_,_,rfl⟩
theorem ownL.set {α:Type}[Sep α]{xs:List α}{L:List Nat}(h:ownL w L xs cs){k:Nat}{y:α}{l:List Value}(hk:k < xs.length)(hy:own [] w y l):∃ L',(∀ q∈L',q∈L)∧(L.Nodup→L'.Nodup)∧ownL w L' (xs.set k y) (q1K cs (k*Rep.sz α) l):=by
 obtain⟨L1,Li,L2,c1,ci,c2,rfl,rfl,hl1,ho,hp⟩:=h.focus k hk
 have h1:=Rep.len (Sep.own_rd ho)
 have h2:=Rep.len (Sep.own_rd hy)
 have:=hp (w':=w) (Li':=[]) hy (fun _ _=>rfl) (fun _ _=>rfl)
 refine⟨L1++([]++L2),fun q hq=>?_,fun hN=>?_,?_⟩
 ·simp only [List.nil_append,List.mem_append] at hq ⊢; rcases hq with h | h<;>simp [h]
 ·simp only [List.nil_append,List.nodup_append,List.mem_append] at hN ⊢; exact⟨hN.1,hN.2.1.2.1,fun a ha b hb=>hN.2.2 a ha b (.inr hb)⟩
 ·have e1:q1K (c1++(ci++c2)) (k*Rep.sz α) l=c1++(l++c2):=by
   rw [← hl1,q1K,List.take_left',List.append_assoc]
   ·congr 1; congr 1
    rw [h2,← h1]
    rw [← List.append_assoc,← List.length_append,List.drop_left]
   ·rfl
  rw [e1]; exact this
theorem z5U {cur l:List Value}{off N:Nat}(h:off+l.length≤N)(hN:N≤cur.length):(q1K cur off l).take N=q1K (cur.take N) off l:=by
 simp only [q1K]
 have e1:(cur.take off).length=off:=by simp; omega
 rw [List.append_assoc,List.append_assoc,List.take_append,List.take_append,e1,List.take_take,List.take_take,List.drop_take]
 rw [show min N off=off by omega,show min off N=off by omega,List.take_of_length_le (l:=l) (by omega),show N - off - l.length=N - (off+l.length) by omega]
theorem Own.st {k m:Nat}{b off:Nat}{l cur:List Value}(h:Own w 0 e k v m cs)(hb:v.ownBlock=some b)(hB:Blk w b e cur)(hfit:off+l.length≤m*k)(hB' : Blk w' b e (q1K cur off l)):Own w' 0 e k v m (q1K cs off l):=by
 rcases h.2 with ⟨rfl,_⟩ | ⟨g,cap,cur2,rfl,h0,hg,hn,hc,hs,ht⟩
 ·cases hb
 ·cases hb
  have e0:cur2=cur.toArray:=by
   have h1:w.heap[g]? = some (.cells cur.toArray e (0,0)):=hB
   rw [h1] at hg
   injection hg with hg
   injection hg with hg
   exact hg.symm
  subst e0
  simp only [List.size_toArray] at hs
  simp only [] at ht
  have hmk:m*k≤cap*k:=Nat.mul_le_mul_right _ hn
  have hcl:cs.length=m*k:=h.1
  refine⟨?_,.inr ⟨g,cap,(q1K cur off l).toArray,rfl,h0,hB',hn,hc,?_,?_⟩⟩
  ·rw [q9B (by rw [hcl]; exact hfit)]; exact hcl
  ·simp only [List.size_toArray]; rw [q9B (by omega)]; exact hs
  ·subst ht
   exact z5U hfit (by omega)
end
end Go.E
namespace Go.E
open Go
open Rep (rd)
open Sep (own)
section
variable {F0:Nat→Prop}{M:List Nat}{w0 w w' : World}{fr:List Pr}{ow:List It}{i j:Nat}{e:TypeId}{v:Value}{cs:List Value}
variable {P:Program}{n d:Nat}{Q:Post}{ρ:Env}{ops:Array Oper}{o:Oper}{rest:List Oper}
theorem j4J {α:Type}{xs:List α}{k:Nat}{x:α}(h:xs[k]? = some x):k < xs.length:=(List.getElem?_eq_some_iff.1 h).1
theorem z9k {n k:Nat}(h:I64 (n:Int))(hk:k≤4611686018427387904):I64 ((n:Int) - (k:Int)):=⟨by omega,by have:=h.2; omega⟩
theorem j0Z {s:ByteArray}(h:s.size≤9223372036854775807):I64 (s.size:Int):=⟨by omega,by omega⟩
theorem toNat_lt {k:Nat}{b:Int}(h:(k:Int) < b):k < b.toNat:=by omega
theorem AllI.sub {F:Nat→Prop}:∀ {l l' : List It} {LC:List (List Nat × List Nat)},l'.Sublist l→AllI F w l LC→(blks LC).Nodup→∃ LC' D,AllI F w l' LC'∧(∀ q∈q2p LC,q∈D∨q∈q2p LC')∧(D++blks LC').Nodup∧∀ q∈D++blks LC',q∈blks LC
 | _,_,LC,.slnil,h,hN=>⟨LC,[],h,fun q hq=>.inr hq,by simpa using hN,fun q hq=>by simpa using hq⟩
 | _,_,(L,C) :: LC,.cons a hs,h,hN=>by
  simp only [blks,List.nodup_append,List.mem_append] at hN
  obtain⟨⟨n1,n2,n3⟩,n4,n5⟩:=hN
  obtain⟨LC',D,h1,h2,h3,h4⟩:=AllI.sub hs h.2 n4
  simp only [List.nodup_append,List.mem_append] at h3 h4
  refine⟨LC',C++D,h1,fun q hq=>?_,?_,fun q hq=>?_⟩
  ·simp only [q2p,List.mem_append] at hq ⊢
   rcases hq with h | h
   ·exact .inl (.inl h)
   ·exact (h2 q h).imp .inr id
  ·simp only [List.nodup_append,List.mem_append]
   refine⟨⟨n2,h3.1,fun x hx y hy=>n5 x (.inr hx) y (h4 y (.inl hy))⟩,h3.2.1,fun x hx y hy=>?_⟩
   rcases hx with hx | hx
   ·exact n5 x (.inr hx) y (h4 y (.inr hy))
   ·exact h3.2.2 x hx y hy
  ·simp only [blks,List.mem_append] at hq ⊢
   rcases hq with (h | h) | h
   ·exact .inl (.inr h)
   ·exact .inr (h4 q (.inl h))
   ·exact .inr (h4 q (.inr h))
 | _,_,(L,C) :: LC,.cons_cons a hs,h,hN=>by
  simp only [blks,List.nodup_append,List.mem_append] at hN
  obtain⟨⟨n1,n2,n3⟩,n4,n5⟩:=hN
  obtain⟨LC',D,h1,h2,h3,h4⟩:=AllI.sub hs h.2 n4
  simp only [List.nodup_append,List.mem_append] at h3 h4
  refine⟨(L,C) :: LC',D,⟨h.1,h1⟩,fun q hq=>?_,?_,fun q hq=>?_⟩
  ·simp only [q2p,List.mem_append] at hq ⊢
   rcases hq with h | h
   ·exact .inr (.inl h)
   ·exact (h2 q h).imp id .inr
  ·simp only [blks,List.nodup_append,List.mem_append]
   refine⟨h3.1,⟨⟨n1,n2,n3⟩,h3.2.1,fun x hx y hy=>n5 x hx y (h4 y (.inr hy))⟩,fun x hx y hy e=>?_⟩
   rcases hy with hy | hy
   ·exact n5 y hy x (h4 x (.inl hx)) e.symm
   ·exact h3.2.2 x hx y hy e
  ·simp only [blks,List.mem_append] at hq ⊢
   rcases hq with h | (h | h) | h
   ·exact .inr (h4 q (.inl h))
   ·exact .inl (.inl h)
   ·exact .inl (.inr h)
   ·exact .inr (h4 q (.inr h))
 | _ :: _,_,[],.cons _ _,h,_=>h.elim
 | _ :: _,_,[],.cons_cons _ _,h,_=>h.elim
theorem HL.out {fr' : List Pr}{ow' : List It}(H:HL F0 M w0 w fr ow)(hf:∀ F,AllP F w fr→AllP F w fr')(hs:ow'.Sublist ow):HL F0 M w0 w fr' ow':=by
 obtain⟨Fr,LC,h1,h2,h3,h4,h5,h6⟩:=H
 have hlt:=h3.lt
 have h4':=List.nodup_append.1 h4
 obtain⟨LC',D,g1,g2,g3,g4⟩:=h3.sub hs h4'.2.1
 have hsub:∀ q∈Fr++q2p LC,q∈(Fr++D)++q2p LC':=fun q hq=>by
  simp only [List.mem_append] at hq ⊢
  rcases hq with h | h
  ·exact .inl (.inl h)
  ·exact (g2 q h).imp .inr id
 refine⟨Fr++D,LC',h1,hf _ (h2.mono (z2K hsub)),AllI.trans (z2K hsub) (fun _ _ _=>rfl) g1 fun _ _=>rfl,?_,fun q hq=>?_,fun q hq=>h6 q ?_⟩
 ·rw [List.append_assoc,List.nodup_append]
  exact⟨h4'.1,g3,fun x hx y hy=>h4'.2.2 x hx y (g4 y hy)⟩
 ·rcases List.mem_append.1 hq with h | h
  ·exact h5 q h
  ·exact hlt q (g4 q (by simp [h]))
 ·simp only [List.mem_append] at hq ⊢
  rcases hq with (h | h) | h
  ·exact .inl h
  ·exact .inr (g4 q (by simp [h]))
  ·exact .inr (g4 q (by simp [h]))
end
end Go.E
namespace Go.E
open Go
open Rep (rd)
open Sep (own)
theorem q1o {k:Nat}{b:Int}(h:(k:Int) < b)(hn:b≤9223372036854775807):I64 ((k+1:Nat):Int):=⟨by omega,by omega⟩
theorem j2O {k:Int}(h:k < 63):I64 ((2 ^ k.toNat:Nat):Int):=by
 have h1:k.toNat≤62:=by omega
 have h2:2 ^ k.toNat≤2 ^ 62:=Nat.pow_le_pow_right (by decide) h1
 have h3:(2:Nat) ^ 62=4611686018427387904:=by decide
 generalize 2 ^ k.toNat=n at *
 exact⟨by omega,by omega⟩
theorem j2P {x k:Int}(hx:I64 x):I64 ((x.toNat >>> k.toNat:Nat):Int):=by
 have h1:x.toNat >>> k.toNat≤x.toNat:=by rw [Nat.shiftRight_eq_div_pow]; exact Nat.div_le_self _ _
 have:=hx.2
 generalize x.toNat >>> k.toNat=n at *
 exact⟨by omega,by omega⟩
theorem j2Q {x y:Int}(h:0≤x∧0≤y)(hx:I64 x)(hy:I64 y):I64 ((x.toNat &&& y.toNat:Nat):Int):=by
 have h1:x.toNat &&& y.toNat≤x.toNat:=Nat.and_le_left
 have:=hx.2
 exact⟨by omega,by omega⟩
theorem j3Y {x y:Int}(h:0≤x∧0≤y)(hx:I64 x)(hy:I64 y):I64 ((x.toNat ||| y.toNat:Nat):Int):=by
 have h1:x.toNat < 2 ^ 63:=by
   have:=hx.2; have:(2:Nat) ^ 63=9223372036854775808:=by decide
   omega
 have h2:y.toNat < 2 ^ 63:=by
   have:=hy.2; have:(2:Nat) ^ 63=9223372036854775808:=by decide
   omega
 have h3:=Nat.or_lt_two_pow h1 h2
 have h4:(2:Nat) ^ 63=9223372036854775808:=by decide
 exact⟨by omega,by omega⟩
section
variable {F0:Nat→Prop}{M:List Nat}{w0 w w' : World}{fr:List Pr}{ow:List It}{i j:Nat}{e:TypeId}{v:Value}{cs:List Value}
variable {P:Program}{n d:Nat}{Q:Post}{ρ:Env}{ops:Array Oper}{o:Oper}{rest:List Oper}
theorem q0H {T:TypeId}{a b:Nat}{y:Int}(hy:y=(b:Int))(h:I64 ((a+b:Nat):Int)):Bin P .add T (.int .i64 (a:Int)) (.int .i64 y) (.int .i64 ((a+b:Nat):Int)):=by
 subst hy
 rw [Int.natCast_add]
 rw [Int.natCast_add] at h
 exact Bin.add h
theorem Ev.ex {x:Operand}{k:Nat}{vs:Array Value}{u:Value}(ho:o.op = .extract x k)(hx:E.ev ρ x = .tuple vs)(hv:vs[k]? = some u):Ev P ρ o w u:=by
 simp [Ev,execOp,ho,hx,Instr.extract,hv]
end
end Go.E
namespace Go.E
open Go
open Rep (rd)
open Sep (own)
def NewI (S:Nat→Prop)(w:World)(l:List It):Prop:=∃ LC,AllI (fun _=>False) w l LC∧(blks LC).Nodup∧∀ q∈blks LC,S q
section
variable {F0:Nat→Prop}{M:List Nat}{w0 w w' : World}{fr:List Pr}{ow l l2:List It}{i j:Nat}{e:TypeId}{v:Value}{cs:List Value}{S S2:Nat→Prop}
variable {P:Program}{n d:Nat}{Q:Post}{ρ:Env}{ops:Array Oper}{o:Oper}{rest:List Oper}
theorem NewI.ext (h:NewI S w l)(hE:Ext w w'):NewI S w' l:=by
 obtain⟨LC,h1,h2,h3⟩:=h
 have hlt:=h1.lt
 exact⟨LC,AllI.trans (fun _ h=>h) (fun _ h=>h.elim) h1 fun q hq=>hE.block q (hlt q hq) id,h2,h3⟩
theorem HL.add (H:HL F0 M w0 w fr ow)(hE:Ext w w')(h:NewI S w' l)(hf:z9j l)(hS:∀ q,S q→w.heap.size≤q):HL F0 M w0 w' fr (ow++l):=by
 obtain⟨LC,h1,h2,h3⟩:=h
 exact H.news hE h1 hf h2 fun q hq=>hS q (h3 q hq)
theorem NewI.app (h:NewI S w l)(h2:NewI S2 w l2)(hd:∀ q,S q→S2 q→False):NewI (fun q=>S q∨S2 q) w (l++l2):=by
 obtain⟨A,a1,a2,a3⟩:=h
 obtain⟨B,b1,b2,b3⟩:=h2
 refine⟨A++B,a1.app b1,?_,fun q hq=>?_⟩
 ·rw [q5e,List.nodup_append]
  exact⟨a2,b2,fun x hx y hy e=>by subst e; exact hd x (a3 x hx) (b3 x hy)⟩
 ·rw [q5e] at hq
  rcases List.mem_append.1 hq with h | h
  ·exact .inl (a3 q h)
  ·exact .inr (b3 q h)
theorem Ret.get {f:FuncId}{args:Array Value}{M:Nat→Prop}{R:Value→World→Prop}(h:Ret P f args w M R):∃ v w',R v w':=by
 obtain⟨e,w',fr,⟨v,_,_,hR⟩,_⟩:=h []
 exact⟨v,w',hR⟩
end
end Go.E
namespace Go.E
open Go
open Rep (rd)
open Sep (own)
instance:Rep UInt8 where
 sz:=1
 pos:=by decide
 rd _ _ x cs:=cs=[.int .u8 (x.toNat:Int)]
 len h:=by rw [h]; rfl
 one h:=by rw [h]; simp [Value.oneCell']
 mono h _:=h
 frame h _:=h
 bound h:=h
instance:Sep UInt8 where
 own L w x cs:=L=[]∧rd (fun _=>False) w x cs
 own_rd h:=h.2
 own_frame h _:=h
 own_lt h:=by rw [h.1]; simp
instance:Flat UInt8:=⟨fun h=>⟨rfl,h⟩⟩
theorem j3Z (b:UInt8):I64 (b.toNat:Int):=⟨by omega,by have:=b.toNat_lt; omega⟩
section
variable {P:Program}{ρ:Env}{w:World}{o:Oper}
theorem Ev.sIx {T:TypeId}{x i:Operand}{s:ByteArray}{q:IntKind}{k:Nat}{b:UInt8}(ho:o.op = .index T x i)(hT:P.underlying T=some .string)(hx:E.ev ρ x = .string s)(hi:E.ev ρ i = .int q (k:Int))(hb:s.data[k]? = some b):Ev P ρ o w (.int .u8 (b.toNat:Int)):=by
 have h1:s[k]? = some b:=by
  obtain⟨h2,h3⟩:=Array.getElem?_eq_some_iff.1 hb
  have h4:k < s.size:=h2
  have:s[k]? = some s[k]:=getElem?_pos s k h4
  rw [this]; congr 1
 simp [Ev,execOp,ho,hx,hi,Instr.index,asIntOf,run_underlying hT,h1]
theorem z1b (a:Int):I64 (IntKind.i64.wrap a):=by
 have:IntKind.i64.wrap a=(a+9223372036854775808) % 18446744073709551616 - 9223372036854775808:=by
  simp [IntKind.wrap,IntKind.bits,IntKind.signed]
  split<;>omega
 rw [this]
 constructor<;>omega
def z2s (x y:Int):Int:=x.fdiv (2 ^ min y.toNat 64)
def z0g (x y:Int):Int:=IntKind.i64.wrap ((BitVec.ofInt 64 x &&& BitVec.ofInt 64 y).toNat:Int)
def z9l (x y:Int):Int:=IntKind.i64.wrap ((BitVec.ofInt 64 x ^^^ BitVec.ofInt 64 y).toNat:Int)
theorem j1a {x:Int}(hx:I64 x)(y:Int):I64 (z2s x y):=by
 unfold z2s
 rw [Int.fdiv_eq_ediv_of_nonneg _ (by exact_mod_cast Nat.zero_le _)]
 have h1:(1:Int)≤2 ^ min y.toNat 64:=by exact_mod_cast Nat.one_le_two_pow
 generalize (2:Int) ^ min y.toNat 64=m at *
 have h2:=hx.1
 have h3:=hx.2
 have h4:m*(x / m)+x % m=x:=Int.mul_ediv_add_emod x m
 have h5:=Int.emod_nonneg x (show m≠0 by omega)
 have h6:=Int.emod_lt_of_pos x (show 0 < m by omega)
 constructor
 ·rcases Int.lt_or_le x 0 with h | h
  ·exact Int.le_trans h2 (Int.le_ediv_of_mul_le (by omega) (by
    have:x*m≤x*1:=Int.mul_le_mul_of_nonpos_left (by omega) h1
    omega))
  ·have:=Int.ediv_nonneg h (show 0≤m by omega); omega
 ·rcases Int.lt_or_le x 0 with h | h
  ·have:=Int.ediv_neg_of_neg_of_pos h (show 0 < m by omega); omega
  ·have:=Int.ediv_le_self m h; omega
theorem q0I {T:TypeId}{x y:Int}{q:IntKind}(h:0≤y):Bin P .shr T (.int .i64 x) (.int q y) (.int .i64 (z2s x y)):=fun a b w=>by
 have:¬ y < 0:=by omega
 simp [q2o,binOp,Op.shift,z2s,this,IntKind.bits]
theorem q0J {T:TypeId}{x y:Int}:Bin P .and T (.int .i64 x) (.int .i64 y) (.int .i64 (z0g x y)):=fun a b w=>by
 simp only [q2o]
 rfl
theorem q0K {T:TypeId}{x y:Int}:Bin P .xor T (.int .i64 x) (.int .i64 y) (.int .i64 (z9l x y)):=fun a b w=>by
 simp only [q2o]
 rfl
theorem q0L {T:TypeId}{x y:Int}(h:y≠0)(hi:I64 (x.tdiv y)):Bin P .quo T (.int .i64 x) (.int .i64 y) (.int .i64 (x.tdiv y)):=fun a b w=>by
 simp [q2o,binOp,Op.intDiv,h,IntWalk.i64_in _ hi]
theorem q0M {T:TypeId}{x y:Int}(h:y≠0):Bin P .rem T (.int .i64 x) (.int .i64 y) (.int .i64 (x.tmod y)):=fun a b w=>by
 simp [q2o,binOp,Op.intDiv,h]
theorem j2R {x y:Int}(hx:I64 x):I64 (x.tmod y):=by
 have h1:=hx.1
 have h2:=hx.2
 have h3:(x.tmod y).natAbs≤x.natAbs:=by
  rw [Int.natAbs_tmod]; exact Nat.mod_le _ _
 rcases Int.lt_or_le x 0 with h | h
 ·have h4:=Int.tmod_nonneg (a:=-x) y (by omega)
  rw [Int.neg_tmod] at h4
  constructor<;>omega
 ·constructor<;>omega
theorem q0N {T:TypeId}{a b:ByteArray}:Bin P .lss T (.string a) (.string b) (.bool (Op.bytesLess a.toList b.toList)):=fun x y w=>by simp [q6w,binOp,Op.stringOp]
theorem q0O {T:TypeId}{a b:ByteArray}:Bin P .gtr T (.string a) (.string b) (.bool (!(Op.bytesLess a.toList b.toList||decide (a=b)))):=fun x y w=>by simp [q6w,binOp,Op.stringOp,beqS]
theorem q0P {T:TypeId}{a b:ByteArray}:Bin P .geq T (.string a) (.string b) (.bool (!Op.bytesLess a.toList b.toList)):=fun x y w=>by simp [q6w,binOp,Op.stringOp]
theorem q0Q {T:TypeId}{a b:ByteArray}:Bin P .leq T (.string a) (.string b) (.bool (Op.bytesLess a.toList b.toList||decide (a=b))):=fun x y w=>by simp [q6w,binOp,Op.stringOp,beqS]
end
end Go.E
namespace Go.E
open Go
open Rep (rd)
open Sep (own)
theorem AllI.length {F:Nat→Prop}{w:World}:∀ {ow:List It} {LC:List (List Nat × List Nat)},AllI F w ow LC→ow.length=LC.length
 | [],[],_=>rfl
 | _ :: _,(_,_) :: _,h=>by simp [AllI.length h.2]
 | [],_ :: _,h=>h.elim
 | _ :: _,[],h=>h.elim
section
variable {F0:Nat→Prop}{M:List Nat}{w0 w w' : World}{fr:List Pr}{ow:List It}{i j:Nat}{e:TypeId}{v:Value}{cs:List Value}
theorem Ev.nilc {P:Program}{ρ:Env}{o:Oper}{x:Operand}{a:Addr}(ho:o.op = .nilCheck x)(hx:E.ev ρ x = .pointer (some a)):Ev P ρ o w (.pointer (some a)):=by
 simp [Ev,execOp,ho,hx]
class FlatN (α:Type) [Sep α]:Prop where
 none:∀ {L:List Nat} {w:World} {x:α} {cs:List Value},own L w x cs→L=[]
instance:FlatN Int:=⟨fun h=>h.1⟩
instance:FlatN ByteArray:=⟨fun h=>h.1⟩
instance:FlatN Bool:=⟨fun h=>h.1⟩
instance:FlatN UInt8:=⟨fun h=>h.1⟩
end
end Go.E
namespace Go.E
open Go
open Rep (rd)
open Sep (own)
def idxL:Nat→List Value→List (Nat × Value)
 | _,[]=>[]
 | k,v :: vs=>(k,v) :: idxL (k+1) vs
theorem z7g:∀ (vs:List Value) (k:Nat) (cs:Array Value),(∀ v∈vs,v.cells=#[v])→cs.size=k+vs.length→Instr.fill (fun i=>some (i*1,1)) cs (idxL k vs)=some (cs.toList.take k++vs).toArray
 | [],k,cs,_,h=>by
  simp only [idxL,Instr.fill,List.append_nil]
  congr 1
  apply Array.ext'
  simp at h
  simp [List.take_of_length_le,h]
 | v :: vs,k,cs,h1,h=>by
  have hv:=h1 v (by simp)
  simp only [List.length_cons] at h
  have ih:=z7g vs (k+1) (cs.setIfInBounds k v) (fun u hu=>h1 u (by simp [hu])) (by simp; omega)
  simp only [idxL,Instr.fill,hv]
  have hk:k < cs.toList.length:=by simp; omega
  have e1:¬ (((#[v]:Array Value).size≠1||k*1+(#[v]:Array Value).size > cs.size)=true):=by simp; omega
  rw [if_neg e1]
  have e2:(#[v]:Array Value).zipIdx.foldl (fun cs (x:Value × Nat)=>cs.setIfInBounds (k*1+x.2) x.1) cs=cs.setIfInBounds k v:=by simp
  have e3:(cs.setIfInBounds k v).toList.take (k+1)=cs.toList.take k++[v]:=by
   rw [Array.toList_setIfInBounds,List.take_add_one,List.take_set_of_le (Nat.le_refl _)]
   simp at hk
   simp [hk]
  rw [e3,List.append_assoc,List.singleton_append] at ih
  exact (congrArg (fun c=>Instr.fill _ c _) e2).trans ih
section
variable {F0:Nat→Prop}{M:List Nat}{w0 w w' : World}{fr:List Pr}{ow:List It}{i j:Nat}{e:TypeId}{v:Value}{cs:List Value}
variable {P:Program}{n d:Nat}{Q:Post}{ρ:Env}{ops:Array Oper}{o:Oper}{rest:List Oper}
theorem j1b {T m:Nat}{z:Value}{vs:List Value}(hT:q3W P T=some e)(hk:szT P e=some 1)(hz:q6T P e=some [z])(h1:∀ v∈vs,v.cells=#[v])(hn:vs.length=m)(hm:Nat.blt 0 m=true)(hm2:Nat.ble m 100000=true) :
  (Instr.buildSlice T m (idxL 0 vs).toArray).run P w = .ok (.slice (some ⟨w.heap.size,0,none⟩) m m) (w.alloc (.cells vs.toArray e)):=by
 obtain⟨zv,hzv,hzc⟩:=q5d (P:=P) (w:=w) hz
 have hm' : 0 < m:=by simpa using hm
 have hm2' : m≤100000:=by simpa using hm2
 have n1:¬ 16777216 < m:=by omega
 have n2:¬ m=0:=by omega
 have hf:=z7g vs 0 ((Array.range m).map (fun x=>(#[z]:Array Value)[x % 1]!)) h1 (by simp [hn])
 have hnr:=q6r (P:=P) (w:=w) e vs
 simp only [Nat.mul_one] at hf
 simp [Instr.buildSlice,run_underlying (q2S hT),q2L hk,n1,n2,hzv,hzc]
 simp at hf
 rw [hf]
 simp [hnr]
end
theorem j4K {p:Value→Prop}:∀ v∈([]:List Value),p v:=by simp
theorem j4a {p:Value→Prop}{a:Value}{l:List Value}(h:p a)(hl:∀ v∈l,p v):∀ v∈a :: l,p v:=fun v hv=>by
 rcases List.mem_cons.1 hv with rfl | hv
 ·exact h
 ·exact hl v hv
class CntSz (α:Type) [Sz α] [Mk α]:Prop where
 le:∀ x:α,Mk.cnt x≤16*(1+Sz.szd x)
instance:CntSz Int:=⟨fun x=>by show 1≤_; omega⟩
instance:CntSz ByteArray:=⟨fun x=>by show 1≤_; omega⟩
instance:CntSz Bool:=⟨fun x=>by show 1≤_; omega⟩
theorem z9m {α:Type}[Sz α][Mk α][CntSz α]:∀ xs:List α,cntL xs≤16*szL xs
 | []=>by simp [cntL]
 | x :: xs=>by
  have h:=z9m xs
  have h1:=CntSz.le x
  simp only [cntL,szL]; omega
instance {α:Type} [Sz α] [Mk α] [CntSz α]:CntSz (List α):=⟨fun x=>by have:=z9m x; show cntL x≤16*(1+szL x); omega⟩
class CntTSz (α:Type) [Sz α] [MkT α]:Prop where
 le:∀ x:α,MkT.cntT x≤16*Sz.szd x
end Go.E
namespace Go.E
open Go
open Rep (rd)
open Sep (own)
section
variable {α:Type}{N:Nat→Sep α}{k:Nat}{hk:0 < k}{hsz:∀ n,(N n).sz=k}
end
open Classical in
noncomputable def recO {ρ:Type} (g:Nat→Option ρ):Option ρ:=if h:∃ r N,∀ n,N≤n→g n=some r then some h.choose else none
theorem q4v {ρ:Type}{g:Nat→Option ρ}{r:ρ}(h:recO g=some r):∃ n,g n=some r:=by
 unfold recO at h
 split at h
 ·rename_i hx
  cases h
  obtain⟨N,hN⟩:=hx.choose_spec
  exact⟨N,hN N (Nat.le_refl _)⟩
 ·cases h
theorem q7K {ρ:Type}{g:Nat→Option ρ}{r:ρ}(N:Nat)(h:∀ n,N≤n→g n=some r):recO g=some r:=by
 unfold recO
 have hx:∃ r N,∀ n,N≤n→g n=some r:=⟨r,N,h⟩
 rw [dif_pos hx]
 obtain⟨M,hM⟩:=hx.choose_spec
 have h1:=h (max N M) (Nat.le_max_left _ _)
 have h2:=hM (max N M) (Nat.le_max_right _ _)
 exact h2.symm.trans h1
section
variable {P:Program}{n:Nat}{ops:Array Oper}{ρ:Env}{w:World}
theorem z3A {o:Oper}{a:Act}{w:World}{K K' : Act→World→Prop}{Q Q' : Exit→Act→World→Prop}(h:∀ a w,K a w→K' a w)(hq:∀ e a w,e≠.normal→Q e a w→Q' e a w)
  (hh:o.wp P a w K Q):o.wp P a w K' Q':=by
 unfold Oper.wp at *
 generalize (execOp a.eval o).run P w=r at *
 cases r with
 | ok n w'=>
  cases n<;>simp only [Oper.upon] at hh ⊢ <;>
   first
    | exact h _ _ hh
    | exact hq _ _ _ (by simp) hh
    | exact Calls.mono hh (fun e w'' he=>by cases e<;>first | exact h _ _ he | exact hq _ _ _ (by simp) he | exact he.imp fun a h=>h.imp fun w h=>hq _ _ _ (by simp) h | exact he)
    | exact Rows.mono hh (fun _ _ he=>h _ _ he)
 | halt x w'=>cases x<;>simp only [Oper.upon] at hh ⊢ <;> first | exact hh | exact hq _ _ _ (by simp) hh
end
end Go.E
namespace Go.E
open Go
open Rep (rd)
open Sep (own)
section
variable {F0:Nat→Prop}{M:List Nat}{w0 w w' : World}{fr:List Pr}{ow:List It}
end
def OpensF (P:Program)(T:TypeId)(α:Type)[Rep α](N:Nat):Prop:=
 P.cellsOf T=Rep.sz α∧∀ (H:Type) (enc:TypeId × Value→H) (w:World) (base:Nat) (spare:Nat→Bool) (held:Bool) (fuel:Nat) (cs:List Value) (x:DataW H × List MemPlace),
  fuel < N→DataW.trod enc P w base spare held fuel T cs=some x→∃ a:α,rd (fun _=>True) w a cs
theorem OpensF.slice {P:Program}{T e:TypeId}{α:Type}[Rep α]{N:Nat}(hc:P.cellsOf T=1)(ht:P.underlying T=some (.slice e))(he:OpensF P e α N):OpensF P T (List α) N:=by
 refine⟨hc,fun H enc w base spare held fuel cs x hN h=>?_⟩
 rcases DataW.trod_slice ht h with ⟨rfl,_⟩ | ⟨a,len,cap,elems,rest,n,rfl,rfl,_,_,hl,hm,hlen0,hel,_⟩
 ·exact⟨[],_,rfl,none,0,[],rfl,Nat.le_refl _,by decide,rfl,.inl rfl⟩
 obtain⟨b,o,sp⟩:=a
 have key:∀ k,k≤len→∃ (xs:List α) (cells:List Value),xs.length=k∧rdL (fun _=>True) w xs cells∧(k=0∨sp=none)∧∀ j v,cells[j]? = some v→w.cell? ⟨b,o+j,none⟩=some v:=by
  intro k
  induction k with
  | zero=>intro _; exact⟨[],[],rfl,rfl,.inl rfl,by simp⟩
  | succ k ih=>
   intro hk
   obtain⟨xs,cells,h1,h2,h3,h4⟩:=ih (by omega)
   have hek:=hel k (by omega)
   rw [List.getElem?_eq_getElem (by omega)] at hek
   obtain⟨cs',hcs,htr⟩:=Option.bind_eq_some_iff.1 hek
   obtain⟨y,hy⟩:=he.2 H enc w base spare held n cs' _ (by omega) htr
   have hlen:=Rep.len hy
   have hp:=Rep.pos (α:=α)
   rw [he.1] at hcs
   have hsp:sp=none:=by
    rcases h3 with rfl | h3
    ·obtain⟨_,hl',hat⟩:=World.cells?_some hcs
     have h0:=hat 0 hp
     rw [List.getElem?_eq_getElem (by omega)] at h0
     simp only [Nat.zero_mul,Addr.add,if_true] at h0
     cases sp with
     | none=>rfl
     | some f=>
      exfalso
      unfold World.cell? at h0
      split at h0
      ·simp at h0
      ·cases h0
    ·exact h3
   subst hsp
   have hadd:Addr.add ⟨b,o,none⟩ (k*Rep.sz α)=⟨b,o+k*Rep.sz α,none⟩:=by
    unfold Addr.add; split
    ·next h0=>rw [h0]; rfl
    ·rfl
   rw [hadd] at hcs
   obtain⟨_,hat⟩:=At.ofCells hcs
   have hcl:=h2.len
   refine⟨xs++[y],cells++cs',by simp [h1],rdL.append h2 (rdL.single hy),.inr rfl,fun j v hj=>?_⟩
   ·by_cases hjc:j < cells.length
    ·rw [List.getElem?_append_left hjc] at hj; exact h4 j v hj
    ·rw [List.getElem?_append_right (by omega)] at hj
     have:=hat _ v hj
     rw [← this]; congr 2
     rw [hcl,h1]
     have:cells.length=k*Rep.sz α:=by rw [hcl,h1]
     omega
 obtain⟨xs,cells,h1,h2,h3,h4⟩:=key len (Nat.le_refl _)
 subst h1
 refine⟨xs,_,rfl,_,cap,cells,rfl,hl,hm,h2,?_⟩
 rcases h3 with h3 | rfl
 ·exact .inl (List.eq_nil_of_length_eq_zero h3)
 ·exact .inr ⟨b,o,rfl,trivial,h4⟩
end Go.E
namespace Go.E
open Go
section
variable {P:Program}{n:Nat}{Q:Post}{ρ:Env}{w:World}{ops:Array Oper}{o:Oper}{rest:List Oper}{F:Env→Prop}
structure RelW (R:World→World→Prop):Prop where
 trans:∀ {a b c:World},R a b→R b c→R a c
 ext:∀ {a b:World},Ext a b→R a b
 size:∀ {a b:World},R a b→a.heap.size≤b.heap.size
theorem RelW.chg (M:Nat→Prop):RelW (Chg M):=⟨fun h k=>h.trans k,fun h=>h.mono fun _ _ e=>e.elim,fun h=>h.size⟩
def z0E (ops:Array Oper)(h:Nat)(C:List Nat):Bool:=
 C.all (fun i=>Nat.blt i h)&&(List.range C.length).all fun k=>match C[k+1]?,C[k]? with
  | some j,some i=>Nat.blt i j&&(match ops[j]? with | some o=>(q1u o).contains i | none=>false)
  | _,_=>true
theorem z9n {h:Nat}{C:List Nat}(hC:z0E ops h C=true){k i:Nat}(hk:C[k]? = some i):i < h:=by
 simp only [z0E,Bool.and_eq_true] at hC
 simpa using List.all_eq_true.1 hC.1 i (List.mem_of_getElem? hk)
theorem z1r {h:Nat}{C:List Nat}(hC:z0E ops h C=true){k i j:Nat}(hi:C[k]? = some i)(hj:C[k+1]? = some j):i < j∧∀ o,ops[j]? = some o→(q1u o).contains i=true:=by
 simp only [z0E,Bool.and_eq_true] at hC
 have:=List.all_eq_true.1 hC.2 k (List.mem_range.2 (List.getElem?_eq_some_iff.1 hi).1)
 rw [hi,hj] at this
 simp only [Bool.and_eq_true] at this
 refine⟨by simpa using this.1,fun o ho=>?_⟩
 have h2:=this.2
 rw [ho] at h2
 exact h2
theorem q9e {h:Nat}{C:List Nat}(hC:z0E ops h C=true):∀ {d k i j:Nat},C[k]? = some i→C[k+d+1]? = some j→i < j
 | 0,k,i,j,hi,hj=>(z1r hC hi hj).1
 | d+1,k,i,j,hi,hj=>by
  have hk:k+d+1 < C.length:=by have:=(List.getElem?_eq_some_iff.1 hj).1; omega
  have h1:=q9e hC (d:=d) hi (List.getElem?_eq_getElem hk)
  have h2:=(z1r hC (List.getElem?_eq_getElem hk) hj).1
  omega
theorem q8K {h:Nat}{C:List Nat}(hC:z0E ops h C=true){k k' i:Nat}(hk:C[k]? = some i)(hk' : C[k']? = some i):k=k':=by
 rcases Nat.lt_trichotomy k k' with hlt | rfl | hlt
 ·have:=q9e hC (d:=k' - k - 1) hk (by rw [show k+(k' - k - 1)+1=k' by omega]; exact hk')
  omega
 ·rfl
 ·have:=q9e hC (d:=k - k' - 1) hk' (by rw [show k'+(k - k' - 1)+1=k by omega]; exact hk)
  omega
def q3A (os:List (Option Nat))(i:Nat):Nat:=match os[i]? with
 | some (some k)=>k
 | _=>i
def ownB (ops:Array Oper)(h:Nat)(os:List (Option Nat)):Bool:=
 (List.range h).all fun i=>match ops[i]? with
  | some o=>(Nat.beq (q3A os i) i||((q1u o).contains (q3A os i)&&Nat.beq (q3A os (q3A os i)) (q3A os i))) &&
    (List.range h).all fun j=>Nat.beq i j||Nat.beq (q3A os i) i||Nat.beq (q3A os j) j || !(Nat.beq (q3A os i) (q3A os j))
  | none=>false
theorem z9o {h:Nat}{os:List (Option Nat)}(hO:ownB ops h os=true){i:Nat}{o:Oper}(hi:i < h)(ho:ops[i]? = some o):q3A os i=i∨(q1u o).contains (q3A os i)=true∧q3A os (q3A os i)=q3A os i:=by
 have h1:=List.all_eq_true.1 hO i (List.mem_range.2 hi)
 simp only [ho,Bool.and_eq_true,Bool.or_eq_true] at h1
 rcases h1.1 with h1 | h1
 ·exact .inl (Nat.eq_of_beq_eq_true h1)
 ·exact .inr ⟨h1.1,Nat.eq_of_beq_eq_true h1.2⟩
structure LooseR (n:Nat) (ops:Array Oper) (h:Nat) (D:Nat→List Nat) (Ψ:Nat→(Nat→Prop)→List Value→World→Prop) (Mw:Nat→Prop) (Θ:Nat→World→Prop) (C:List Nat) (os:List (Option Nat)) (S:Nat→Nat→Prop) (ρ0:Env) (w0:World) (listed:Array Bool) (ρ:Env) (w:World):Prop where
 head:HeadInv .any ops h listed
 ext:Chg (fun q=>Mw q∨w0.heap.size≤q) w0 w
 out:∀ t,(∀ j,j < h→q1C ops j≠some t)→ρ t=ρ0 t
 apart:∀ i j q,i < h→j < h→listed.getD i false=true→listed.getD j false=true→S i q→S j q→i=j
 bound:∀ i q,i < h→listed.getD i false=true→S i q→w0.heap.size≤q∧q < w.heap.size
 known:∀ j,j < h→listed.getD j false=true→Ψ j (S (q3A os j)) ((D j).map ρ) w
 chain:∃ m,m≤C.length∧(∀ k x,C[k]? = some x→(listed.getD x false=true↔k < m))∧Θ m w
section loose
variable {h:Nat}{D:Nat→List Nat}
end loose
end
end Go.E
namespace Go.E
open Go
inductive K2 where
 | fix (u:Value)
 | free (φ:(Nat→Prop)→Value→World→Prop)
 | dep (t:Nat) (g:Value→Value)
 | wr (t s:Nat) (ψ:(Nat→Prop)→Value→Value→World→Prop)
def K2.on:K2→List Nat
 | .dep t _=>[t]
 | .wr t s _=>[t,s]
 | _=>[]
def K2.at (k:Option K2)(S:Nat→Prop)(ρ:Env)(d:Option Nat)(w:World):Prop:=match k,d with
 | some (.fix u),some t=>ρ t=u
 | some (.free φ),some t=>φ S (ρ t) w
 | some (.dep s g),some t=>ρ t=g (ρ s)
 | some (.wr a b ψ),_=>ψ S (ρ a) (ρ b) w
 | _,_=>True
def q0q (k:Option K2)(S:Nat→Prop)(ρ:Env)(v:Value)(w:World):Prop:=match k with
 | some (.fix u)=>v=u
 | some (.free φ)=>φ S v w
 | some (.dep s g)=>v=g (ρ s)
 | some (.wr a b ψ)=>ψ S (ρ a) (ρ b) w
 | none=>True
def K2.mono (w:World)(Mw:Nat→Prop)(k:K2):Prop:=match k with
 | .free φ=>∀ S v a b (T:Nat→Prop),φ S v a→Chg T a b→(∀ q,T q→¬ S q)→(∀ q,T q→Mw q∨w.heap.size≤q)→φ S v b
 | .wr _ _ ψ=>∀ S p x a b (T:Nat→Prop),ψ S p x a→Chg T a b→(∀ q,T q→¬ S q)→(∀ q,T q→Mw q∨w.heap.size≤q)→ψ S p x b
 | _=>True
def K2.monos (w:World)(Mw:Nat→Prop):List K2→Prop
 | []=>True
 | k :: l=>k.mono w Mw∧K2.monos w Mw l
theorem K2.monos.get {w:World}{Mw:Nat→Prop}:∀ {l:List K2} {i:Nat} {k:K2},K2.monos w Mw l→l[i]? = some k→k.mono w Mw
 | _ :: _,0,_,h,hi=>by simp at hi; subst hi; exact h.1
 | _ :: _,i+1,_,h,hi=>K2.monos.get h.2 (by simpa using hi)
section
variable {P:Program}{n:Nat}{Q:Post}{ρ:Env}{w:World}{ops:Array Oper}{o:Oper}{h:Nat}{Mw:Nat→Prop}{Θ:Nat→World→Prop}{C:List Nat}{os:List (Option Nat)}
abbrev RW (Mw:Nat→Prop)(w w' : World):Prop:=Chg (fun q=>Mw q∨w.heap.size≤q) w w'
def LL2 (P:Program)(n:Nat)(Q:Post)(ops:Array Oper)(h:Nat)(ks:List K2)(Mw:Nat→Prop)(Θ:Nat→World→Prop)(C:List Nat)(os:List (Option Nat))(w:World):Nat→List Oper→Env→(Nat→World→Prop)→(Nat→Nat→Prop)→Nat→Prop
 | _,[],ρ,K,G,m=>∀ w',RW Mw w w'→Θ m w'→(∀ j,j < h→K j w')→(∀ i j q,G i q→G j q→i=j)→(∀ i q,G i q→w.heap.size≤q∧q < w'.heap.size)→WL P n ops Q (ops.toList.drop h) ρ w'
 | i,o :: l,ρ,K,G,m=>
  (∃ u d,ks[i]? = some (.fix u)∧o.dst=some d∧C.contains i=false∧q3A os i=i∧(∀ w',RW Mw w w'→(∃ q,Θ q w')→(∀ j,(q1u o).contains j=true→K j w')→OpX P ops o ρ w' (fun v w''=>Ext w' w''∧v=u))∧LL2 P n Q ops h ks Mw Θ C os w (i+1) l (upd ρ d u) K G m) ∨
  (∃ φ d,ks[i]? = some (.free φ)∧o.dst=some d∧C.contains i=false∧q3A os i=i∧(∀ w',RW Mw w w'→(∃ q,Θ q w')→(∀ j,(q1u o).contains j=true→K j w')→OpX P ops o ρ w' (fun v w''=>Ext w' w''∧φ (fun q=>w'.heap.size≤q∧q < w''.heap.size) v w'')) ∧
   ∀ v S,LL2 P n Q ops h ks Mw Θ C os w (i+1) l (upd ρ d v) (fun j w'=>if j=i then φ S v w' else K j w') (fun j q=>if j=i then S q else G j q) m) ∨
  (∃ t g d,ks[i]? = some (.dep t g)∧o.dst=some d∧C.contains i=false∧q3A os i=i∧(∀ w',RW Mw w w'→(∃ q,Θ q w')→(∀ j,(q1u o).contains j=true→K j w')→OpX P ops o ρ w' (fun v w''=>Ext w' w''∧v=g (ρ t)))∧LL2 P n Q ops h ks Mw Θ C os w (i+1) l (upd ρ d (g (ρ t))) (fun j w'=>if j=i then (∀ j',(q1u o).contains j'=true→K j' w') else K j w') G m) ∨
  (∃ u d,ks[i]? = some (.fix u)∧o.dst=some d∧C[m]? = some i∧q3A os i=i∧(∀ w',RW Mw w w'→Θ m w'→(∀ j,(q1u o).contains j=true→K j w')→OpX P ops o ρ w' (fun v w''=>Chg Mw w' w''∧Θ (m+1) w''∧v=u))∧LL2 P n Q ops h ks Mw Θ C os w (i+1) l (upd ρ d u) K G (m+1)) ∨
  (∃ φ d,ks[i]? = some (.free φ)∧o.dst=some d∧C[m]? = some i∧q3A os i=i∧(∀ w',RW Mw w w'→Θ m w'→(∀ j,(q1u o).contains j=true→K j w')→OpX P ops o ρ w' (fun v w''=>Chg Mw w' w''∧Θ (m+1) w''∧φ (fun q=>w'.heap.size≤q∧q < w''.heap.size) v w'')) ∧
   ∀ v S,LL2 P n Q ops h ks Mw Θ C os w (i+1) l (upd ρ d v) (fun j w'=>if j=i then φ S v w' else K j w') (fun j q=>if j=i then S q else G j q) (m+1)) ∨
  (∃ t s ψ φ,ks[i]? = some (.wr t s ψ)∧o.dst=none∧C.contains i=false∧q3A os i≠i∧q1C ops (q3A os i)=some t∧ks[q3A os i]? = some (.free φ) ∧
   (∀ w',RW Mw w w'→(∃ q,Θ q w')→(∀ j,(q1u o).contains j=true→K j w')→OpX P ops o ρ w' (fun v w''=>Chg (G (q3A os i)) w' w''∧ψ (G (q3A os i)) (ρ t) (ρ s) w''∧φ (G (q3A os i)) (ρ t) w'')) ∧
   LL2 P n Q ops h ks Mw Θ C os w (i+1) l ρ (fun j w'=>if j=i then ψ (G (q3A os i)) (ρ t) (ρ s) w' else K j w') G m) ∨
  (∃ t s ψ,ks[i]? = some (.wr t s ψ)∧o.dst=none∧C[m]? = some i∧q3A os i=i∧(∀ S p x w',ψ S p x w')∧(∀ w',RW Mw w w'→Θ m w'→(∀ j,(q1u o).contains j=true→K j w')→OpX P ops o ρ w' (fun _ w''=>Chg Mw w' w''∧Θ (m+1) w''))∧LL2 P n Q ops h ks Mw Θ C os w (i+1) l ρ K G (m+1))
def j2S (P:Program)(ops:Array Oper)(ks:List K2)(Mw:Nat→Prop)(Θ:Nat→World→Prop)(C:List Nat)(os:List (Option Nat))(S:Nat→Nat→Prop)(k:Nat)(o:Oper)(ρ' : Env)(w' : World):Prop:=
 (k ∉ C→q3A os k=k→(∃ m,Θ m w')→OpX P ops o ρ' w' (fun v w''=>Ext w' w''∧q0q ks[k]? (fun q=>w'.heap.size≤q∧q < w''.heap.size) ρ' v w'')) ∧
 (∀ m,C[m]? = some k→Θ m w'→q3A os k=k∧OpX P ops o ρ' w' (fun v w''=>Chg Mw w' w''∧Θ (m+1) w''∧q0q ks[k]? (fun q=>w'.heap.size≤q∧q < w''.heap.size) ρ' v w'')) ∧
 (k ∉ C→q3A os k≠k→(∃ m,Θ m w')→OpX P ops o ρ' w' (fun v w''=>Chg (S (q3A os k)) w' w''∧q0q ks[k]? (S (q3A os k)) ρ' v w''∧K2.at ks[q3A os k]? (S (q3A os k)) ρ' (q1C ops (q3A os k)) w''))
theorem LL2.step {ks:List K2}{k:Nat}{o:Oper}{ρ' : Env}{w' : World}{S:Nat→Nat→Prop}{L:Nat→Prop}(hC:z0E ops h C=true)(hO:ownB ops h os=true)(hw:RW Mw w w')(ho:ops[k]? = some o)(hk:k < h)(hoko:q3d n o=true)
  (hlook:∀ t∈o.looksAt ops,∀ j,j < h→q1C ops j=some t→(q1u o).contains j=true)
  (hdep:∀ i oi q t,i < h→ks[i]? = some q→t∈q.on→ops[i]? = some oi→∀ j,j < h→q1C ops j=some t→(q1u oi).contains j=true)
  (hback:∀ i oi,ops[i]? = some oi→∀ j,(q1u oi).contains j=true→j < i)
  (hdL:∀ j,(q1u o).contains j=true→L j) (hLL:∀ j oj,L j→ops[j]? = some oj→∀ k,(q1u oj).contains k=true→L k) (hLh:∀ j,L j→j < h)
  (hdist:∀ i j,i≠j→i < h→j < h→∀ t,q1C ops i=some t→q1C ops j≠some t)
  (hknow:∀ j,L j→K2.at ks[j]? (S (q3A os j)) ρ' (q1C ops j) w') :
  ∀ (l:List Oper) (i:Nat) (ρ:Env) (K:Nat→World→Prop) (G:Nat→Nat→Prop) (m:Nat),LL2 P n Q ops h ks Mw Θ C os w i l ρ K G m→(∀ j,l[j]? = if j < l.length then ops[i+j]? else none)→i+l.length=h→i≤k →
   (∀ t,(∀ j,j < h→q1C ops j≠some t)→ρ t=ρ' t)→(∀ j t,j < i→L j→q1C ops j=some t→ρ t=ρ' t)→(∀ j,L j∨i≤j→K j w')→(∀ j φ,j < i→ks[j]? = some (.free φ)→G j=S j) →
   j2S P ops ks Mw Θ C os S k o ρ' w'
 | [],i,ρ,K,G,m,_,_,hlen,hik,_,_,_,_=>by simp at hlen; omega
 | o' :: l,i,ρ,K,G,m,hL,hl,hlen,hik,hout,hdir,hK,hGS=>by
  simp only [List.length_cons] at hlen
  have ho' : ops[i]? = some o':=by have:=hl 0; simpa using this.symm
  have hl' : ∀ j,l[j]? = if j < l.length then ops[i+1+j]? else none:=fun j=>by
   have:=hl (j+1)
   simp only [List.getElem?_cons_succ,List.length_cons] at this
   rw [this]
   by_cases hj:j < l.length
   ·rw [if_pos (by omega),if_pos hj]; congr 1; omega
   ·rw [if_neg (by omega),if_neg hj]
  have hdo:q1C ops i=o'.dst:=by unfold q1C; rw [ho']; rfl
  -- a slot that is waited for holds the same in both
  have hslot:∀ oi t,(∀ j,j < h→q1C ops j=some t→(q1u oi).contains j=true)→ops[i]? = some oi→(∀ j,(q1u oi).contains j=true→L j)→ρ t=ρ' t:=fun oi t hc hoi hLi=>by
   by_cases hin:∃ j,j < h∧q1C ops j=some t
   ·obtain⟨j,hj,hdj⟩:=hin
    have hc':=hc j hj hdj
    exact hdir j t (hback i oi hoi j hc') (hLi j hc') hdj
   ·exact hout t fun j hj hd=>hin ⟨j,hj,hd⟩
  have gfree:q3A os i≠i→∀ φ,ks[q3A os i]? = some (.free φ)→G (q3A os i)=S (q3A os i):=fun hn φ hφ=>by
   rcases z9o hO (by omega) ho' with h1 | h1
   ·exact absurd h1 hn
   ·exact hGS _ φ (hback i o' ho' _ h1.1) hφ
  by_cases hki:k=i
  ·subst hki
   obtain rfl:o'=o:=Option.some.inj (ho'.symm.trans ho)
   have hsame:∀ t∈o'.looksAt ops,ρ' t=ρ t:=fun t ht=>(hslot o' t (hlook t ht) ho hdL).symm
   have hKd:∀ j,(q1u o').contains j=true→K j w':=fun j hj=>hK j (.inl (hdL j hj))
   have nm:∀ {p},C.contains k=false→C[p]? = some k→False:=fun h1 h2=>by
    have:=List.mem_of_getElem? h2
    rw [List.contains_eq_mem,decide_eq_false_iff_not] at h1
    exact h1 this
   rcases hL with ⟨u,d,hu,_,hc,hoo,hs,_⟩ | ⟨φ,d,hφ,_,hc,hoo,hs,_⟩ | ⟨t,g,d,ht,_,hc,hoo,hs,_⟩ | ⟨u,d,hu,_,hc,hoo,hs,_⟩ | ⟨φ,d,hφ,_,hc,hoo,hs,_⟩ | ⟨t,s,ψ,φ,hψ,hdn,hc,hoo,htd,hφ,hs,_⟩ | ⟨t,s,ψ,hψ,hdn,hc,hoo,hall,hs,_⟩
   ·exact⟨fun _ _ hq=>(OpX.congr hoko hsame (hs w' hw hq hKd)).mono fun v w'' hv=>⟨hv.1,by rw [hu]; exact hv.2⟩,fun p hp=>(nm hc hp).elim,fun _ hn=>absurd hoo hn⟩
   ·exact⟨fun _ _ hq=>(OpX.congr hoko hsame (hs w' hw hq hKd)).mono fun v w'' hv=>⟨hv.1,by rw [hφ]; exact hv.2⟩,fun p hp=>(nm hc hp).elim,fun _ hn=>absurd hoo hn⟩
   ·have e:=hslot o' t (hdep k o' _ t hk ht (by simp [K2.on]) ho) ho hdL
    exact⟨fun _ _ hq=>(OpX.congr hoko hsame (hs w' hw hq hKd)).mono fun v w'' hv=>⟨hv.1,by rw [ht]; show v=g (ρ' t); rw [← e]; exact hv.2⟩,fun p hp=>(nm hc hp).elim,fun _ hn=>absurd hoo hn⟩
   ·exact⟨fun hn=>absurd (List.mem_of_getElem? hc) hn,fun p hp hq=>by
     obtain rfl:=q8K hC hc hp
     exact⟨hoo,(OpX.congr hoko hsame (hs w' hw hq hKd)).mono fun v w'' hv=>⟨hv.1,hv.2.1,by rw [hu]; exact hv.2.2⟩⟩,fun hn=>absurd (List.mem_of_getElem? hc) hn⟩
   ·exact⟨fun hn=>absurd (List.mem_of_getElem? hc) hn,fun p hp hq=>by
     obtain rfl:=q8K hC hc hp
     exact⟨hoo,(OpX.congr hoko hsame (hs w' hw hq hKd)).mono fun v w'' hv=>⟨hv.1,hv.2.1,by rw [hφ]; exact hv.2.2⟩⟩,fun hn=>absurd (List.mem_of_getElem? hc) hn⟩
   ·have e1:=hslot o' t (hdep k o' _ t hk hψ (by simp [K2.on]) ho) ho hdL
    have e2:=hslot o' s (hdep k o' _ s hk hψ (by simp [K2.on]) ho) ho hdL
    have eg:=gfree hoo φ hφ
    exact⟨fun _ hn=>absurd hn hoo,fun p hp=>(nm hc hp).elim,fun _ _ hq=>(OpX.congr hoko hsame (hs w' hw hq hKd)).mono fun v w'' hv=>by
     rw [eg,e1,e2] at hv
     exact⟨hv.1,by rw [hψ]; exact hv.2.1,by rw [hφ,htd]; exact hv.2.2⟩⟩
   ·exact⟨fun hn=>absurd (List.mem_of_getElem? hc) hn,fun p hp hq=>by
     obtain rfl:=q8K hC hc hp
     exact⟨hoo,(OpX.congr hoko hsame (hs w' hw hq hKd)).mono fun v w'' hv=>⟨hv.1,hv.2,by rw [hψ]; exact hall _ _ _ _⟩⟩,fun hn=>absurd (List.mem_of_getElem? hc) hn⟩
  ·-- going on with a value u that is the true one if the operation has been carried out
   have hK1:∀ j,L j∨i+1≤j→K j w':=fun j hj=>hK j (hj.imp id fun h=>by omega)
   have fixed:∀ (u:Value) (d:Nat) (m' : Nat) (K2' : Nat→World→Prop),o'.dst=some d→(∀ φ,ks[i]?≠some (.free φ))→(∀ j,L j∨i+1≤j→K2' j w')→(L i→ρ' d=u)→LL2 P n Q ops h ks Mw Θ C os w (i+1) l (upd ρ d u) K2' G m'→j2S P ops ks Mw Θ C os S k o ρ' w':=fun u d m' K2' hod hnf hK2 hu hr=>by
    have hd:q1C ops i=some d:=by rw [hdo]; exact hod
    have hne:∀ t,(∀ j,j < h→q1C ops j≠some t)→t≠d:=fun t ht e=>ht i (by omega) (by rw [e]; exact hd)
    refine LL2.step hC hO hw ho hk hoko hlook hdep hback hdL hLL hLh hdist hknow l (i+1) _ _ _ _ hr hl' (by omega) (by omega) (fun t ht=>?_) (fun j t hj hc hdj=>?_) hK2 (fun j φ hj hf=>?_)
    ·exact (q2f _ _ (hne t ht)).trans (hout t ht)
    ·by_cases hji:j=i
     ·subst hji
      obtain rfl:d=t:=Option.some.inj (hd.symm.trans hdj)
      show upd ρ d u d=_
      rw [q4Q]
      exact (hu hc).symm
     ·have:t≠d:=fun e=>hdist j i hji (hLh j hc) (by omega) t hdj (by rw [e]; exact hd)
      exact (q2f _ _ this).trans (hdir j t (by omega) hc hdj)
    ·by_cases hji:j=i
     ·subst hji; exact absurd hf (hnf φ)
     ·exact hGS j φ (by omega) hf
   have freed:∀ (φ:(Nat→Prop)→Value→World→Prop) (d:Nat) (m' : Nat),o'.dst=some d→(L i→φ (S i) (ρ' d) w')→(∀ (v:Value) (S:Nat→Prop),LL2 P n Q ops h ks Mw Θ C os w (i+1) l (upd ρ d v) (fun j w'=>if j=i then φ S v w' else K j w') (fun j q=>if j=i then S q else G j q) m')→j2S P ops ks Mw Θ C os S k o ρ' w':=fun φ d m' hod hu hr=>by
    have hd:q1C ops i=some d:=by rw [hdo]; exact hod
    have hne:∀ t,(∀ j,j < h→q1C ops j≠some t)→t≠d:=fun t ht e=>ht i (by omega) (by rw [e]; exact hd)
    refine LL2.step hC hO hw ho hk hoko hlook hdep hback hdL hLL hLh hdist hknow l (i+1) _ _ _ _ (hr (ρ' d) (S i)) hl' (by omega) (by omega) (fun t ht=>?_) (fun j t hj hc hdj=>?_) (fun j hj=>?_) (fun j φ' hj hf=>?_)
    ·exact (q2f _ _ (hne t ht)).trans (hout t ht)
    ·by_cases hji:j=i
     ·subst hji
      obtain rfl:d=t:=Option.some.inj (hd.symm.trans hdj)
      exact q4Q _ _ _
     ·have:t≠d:=fun e=>hdist j i hji (hLh j hc) (by omega) t hdj (by rw [e]; exact hd)
      exact (q2f _ _ this).trans (hdir j t (by omega) hc hdj)
    ·by_cases hji:j=i
     ·subst hji
      simp only [if_true]
      exact hu (hj.resolve_right (by omega))
     ·simp only [if_neg hji]
      exact hK1 j hj
    ·by_cases hji:j=i
     ·subst hji; funext q; simp
     ·have:=hGS j φ' (by omega) hf
      funext q; simp only [if_neg hji]; rw [this]
   have kn:∀ {q:K2},ks[i]? = some q→q3A os i=i→∀ d,o'.dst=some d→L i→K2.at (some q) (S i) ρ' (some d) w':=fun {q} hq hoo d hd hLi=>by
    have:=hknow i hLi
    rw [hq,hoo,hdo,hd] at this
    exact this
   have kids:L i→∀ j,(q1u o').contains j=true→L j:=fun hLi j hj=>hLL i o' hLi ho' j hj
   rcases hL with ⟨u,d,hu,hd,hc,hoo,_,hr⟩ | ⟨φ,d,hφ,hd,hc,hoo,_,hr⟩ | ⟨t,g,d,ht,hd,hc,hoo,_,hr⟩ | ⟨u,d,hu,hd,hc,hoo,_,hr⟩ | ⟨φ,d,hφ,hd,hc,hoo,_,hr⟩ | ⟨t,s,ψ,φ,hψ,hdn,hc,hoo,htd,hφ,_,hr⟩ | ⟨t,s,ψ,hψ,hdn,hc,hoo,hall,_,hr⟩
   ·exact fixed u d m K hd (fun φ e=>by rw [hu] at e; cases e) hK1 (fun hLi=>kn hu hoo d hd hLi) hr
   ·exact freed φ d m hd (fun hLi=>kn hφ hoo d hd hLi) hr
   ·refine fixed _ d m _ hd (fun φ e=>by rw [ht] at e; cases e) (fun j hj=>?_) (fun hLi=>?_) hr
    ·by_cases hji:j=i
     ·subst hji
      simp only [if_true]
      exact fun j' hj'=>hK j' (.inl (kids (hj.resolve_right (by omega)) j' hj'))
     ·simp only [if_neg hji]
      exact hK1 j hj
    ·have e:=hslot o' t (hdep i o' _ t (by omega) ht (by simp [K2.on]) ho') ho' (kids hLi)
     rw [e]; exact kn ht hoo d hd hLi
   ·exact fixed u d (m+1) K hd (fun φ e=>by rw [hu] at e; cases e) hK1 (fun hLi=>kn hu hoo d hd hLi) hr
   ·exact freed φ d (m+1) hd (fun hLi=>kn hφ hoo d hd hLi) hr
   ·refine LL2.step hC hO hw ho hk hoko hlook hdep hback hdL hLL hLh hdist hknow l (i+1) _ _ _ _ hr hl' (by omega) (by omega) hout (fun j t' hj hc' hdj=>?_) (fun j hj=>?_) (fun j φ' hj hf=>?_)
    ·by_cases hji:j=i
     ·subst hji; rw [hdo,hdn] at hdj; cases hdj
     ·exact hdir j t' (by omega) hc' hdj
    ·by_cases hji:j=i
     ·subst hji
      simp only [if_true]
      have hLi:=hj.resolve_right (by omega)
      have e1:=hslot o' t (hdep j o' _ t (by omega) hψ (by simp [K2.on]) ho') ho' (kids hLi)
      have e2:=hslot o' s (hdep j o' _ s (by omega) hψ (by simp [K2.on]) ho') ho' (kids hLi)
      have:=hknow j hLi
      rw [hψ] at this
      rw [gfree hoo φ hφ,e1,e2]
      exact this
     ·simp only [if_neg hji]
      exact hK1 j hj
    ·by_cases hji:j=i
     ·subst hji; rw [hψ] at hf; cases hf
     ·exact hGS j φ' (by omega) hf
   ·refine LL2.step hC hO hw ho hk hoko hlook hdep hback hdL hLL hLh hdist hknow l (i+1) _ _ _ _ hr hl' (by omega) (by omega) hout (fun j t' hj hc' hdj=>?_) hK1 (fun j φ' hj hf=>?_)
    ·by_cases hji:j=i
     ·subst hji; rw [hdo,hdn] at hdj; cases hdj
     ·exact hdir j t' (by omega) hc' hdj
    ·by_cases hji:j=i
     ·subst hji; rw [hψ] at hf; cases hf
     ·exact hGS j φ' (by omega) hf
theorem q0a {ks:List K2}{ρ' : Env}{w' : World}{S:Nat→Nat→Prop}(hC:z0E ops h C=true)(hO:ownB ops h os=true)(hw:RW Mw w w')(hΘ:Θ C.length w')
  (hdep:∀ i oi q t,i < h→ks[i]? = some q→t∈q.on→ops[i]? = some oi→∀ j,j < h→q1C ops j=some t→(q1u oi).contains j=true)
  (hback:∀ i oi,ops[i]? = some oi→∀ j,(q1u oi).contains j=true→j < i)
  (hdist:∀ i j,i≠j→i < h→j < h→∀ t,q1C ops i=some t→q1C ops j≠some t)
  (hap:∀ i j q,i < h→j < h→S i q→S j q→i=j) (hbd:∀ i q,i < h→S i q→w.heap.size≤q∧q < w'.heap.size)
  (hknow:∀ j,j < h→K2.at ks[j]? (S (q3A os j)) ρ' (q1C ops j) w') :
  ∀ (l:List Oper) (i:Nat) (ρ:Env) (K:Nat→World→Prop) (G:Nat→Nat→Prop) (m:Nat),LL2 P n Q ops h ks Mw Θ C os w i l ρ K G m→(∀ j,l[j]? = if j < l.length then ops[i+j]? else none)→i+l.length=h →
   (∀ t,(∀ j,j < h→q1C ops j≠some t)→ρ t=ρ' t)→(∀ j t,j < i→q1C ops j=some t→ρ t=ρ' t)→(∀ j,K j w')→(∀ j q,G j q→j < h∧S j q)→(∀ j φ,j < i→ks[j]? = some (.free φ)→G j=S j) →
   (m≤C.length∧∀ p x,C[p]? = some x→(x < i↔p < m))→WL P n ops Q (ops.toList.drop h) ρ' w'
 | [],i,ρ,K,G,m,hL,_,hlen,hout,hdir,hK,hG,_,hm=>by
  simp only [List.length_nil,Nat.add_zero] at hlen
  subst hlen
  have:ρ=ρ':=by
   funext t
   by_cases hin:∃ j,j < i∧q1C ops j=some t
   ·obtain⟨j,hj,hdj⟩:=hin
    exact hdir j t hj hdj
   ·exact hout t fun j hj hd=>hin ⟨j,hj,hd⟩
  subst this
  have hmC:m=C.length:=by
   rcases Nat.lt_or_ge m C.length with hlt | hge
   ·have h1:=z9n hC (List.getElem?_eq_getElem hlt)
    have:=(hm.2 m _ (List.getElem?_eq_getElem hlt)).1 h1
    omega
   ·omega
  exact hL w' hw (by rw [hmC]; exact hΘ) (fun j _=>hK j) (fun a b q ha hb=>hap a b q (hG a q ha).1 (hG b q hb).1 (hG a q ha).2 (hG b q hb).2) (fun a q ha=>hbd a q (hG a q ha).1 (hG a q ha).2)
 | o' :: l,i,ρ,K,G,m,hL,hl,hlen,hout,hdir,hK,hG,hGS,hm=>by
  simp only [List.length_cons] at hlen
  have ho' : ops[i]? = some o':=by have:=hl 0; simpa using this.symm
  have hl' : ∀ j,l[j]? = if j < l.length then ops[i+1+j]? else none:=fun j=>by
   have:=hl (j+1)
   simp only [List.getElem?_cons_succ,List.length_cons] at this
   rw [this]
   by_cases hj:j < l.length
   ·rw [if_pos (by omega),if_pos hj]; congr 1; omega
   ·rw [if_neg (by omega),if_neg hj]
  have hdo:q1C ops i=o'.dst:=by unfold q1C; rw [ho']; rfl
  have hkn:=hknow i (by omega)
  have hslot:∀ q t,ks[i]? = some q→t∈q.on→ρ t=ρ' t:=fun q t hq ht=>by
   by_cases hin:∃ j,j < h∧q1C ops j=some t
   ·obtain⟨j,hj,hdj⟩:=hin
    exact hdir j t (hback i o' ho' j (hdep i o' q t (by omega) hq ht ho' j hj hdj)) hdj
   ·exact hout t fun j hj hd=>hin ⟨j,hj,hd⟩
  have notin:C.contains i=false→m≤C.length∧∀ p x,C[p]? = some x→(x < i+1↔p < m):=fun hc=>⟨hm.1,fun p x hx=>by
   have hxi:x≠i:=fun e=>by
    subst e
    rw [List.contains_eq_mem,decide_eq_false_iff_not] at hc
    exact hc (List.mem_of_getElem? hx)
   rw [← hm.2 p x hx]; omega⟩
  have isin:C[m]? = some i→m+1≤C.length∧∀ p x,C[p]? = some x→(x < i+1↔p < m+1):=fun hc=>⟨(List.getElem?_eq_some_iff.1 hc).1,fun p x hx=>by
   have h1:=hm.2 p x hx
   constructor
   ·intro h2
    rcases Nat.lt_or_ge x i with h3 | h3
    ·have:=h1.1 h3; omega
    ·have:x=i:=by omega
     subst this
     have:=q8K hC hx hc
     omega
   ·intro h2
    rcases Nat.lt_or_ge p m with h3 | h3
    ·have:=h1.2 h3; omega
    ·have:p=m:=by omega
     subst this
     have:x=i:=Option.some.inj (hx.symm.trans hc)
     omega⟩
  have fixed:∀ (u:Value) (d:Nat) (m' : Nat) (K2' : Nat→World→Prop),o'.dst=some d→(∀ φ,ks[i]?≠some (.free φ))→(∀ j,K2' j w')→ρ' d=u→(m'≤C.length∧∀ p x,C[p]? = some x→(x < i+1↔p < m'))→LL2 P n Q ops h ks Mw Θ C os w (i+1) l (upd ρ d u) K2' G m'→WL P n ops Q (ops.toList.drop h) ρ' w':=fun u d m' K2' hod hnf hK2 hu hm' hr=>by
   have hd:q1C ops i=some d:=by rw [hdo]; exact hod
   have hne:∀ t,(∀ j,j < h→q1C ops j≠some t)→t≠d:=fun t ht e=>ht i (by omega) (by rw [e]; exact hd)
   refine q0a hC hO hw hΘ hdep hback hdist hap hbd hknow l (i+1) _ _ _ _ hr hl' (by omega) (fun t ht=>?_) (fun j t hj hdj=>?_) hK2 hG (fun j φ hj hf=>?_) hm'
   ·exact (q2f _ _ (hne t ht)).trans (hout t ht)
   ·by_cases hji:j=i
    ·subst hji
     obtain rfl:d=t:=Option.some.inj (hd.symm.trans hdj)
     show upd ρ d u d=_
     rw [q4Q]
     exact hu.symm
    ·have:t≠d:=fun e=>hdist j i hji (by omega) (by omega) t hdj (by rw [e]; exact hd)
     exact (q2f _ _ this).trans (hdir j t (by omega) hdj)
   ·by_cases hji:j=i
    ·subst hji; exact absurd hf (hnf φ)
    ·exact hGS j φ (by omega) hf
  have freed:∀ (φ:(Nat→Prop)→Value→World→Prop) (d:Nat) (m' : Nat),o'.dst=some d→φ (S i) (ρ' d) w'→(m'≤C.length∧∀ p x,C[p]? = some x→(x < i+1↔p < m'))→(∀ (v:Value) (S:Nat→Prop),LL2 P n Q ops h ks Mw Θ C os w (i+1) l (upd ρ d v) (fun j w'=>if j=i then φ S v w' else K j w') (fun j q=>if j=i then S q else G j q) m')→WL P n ops Q (ops.toList.drop h) ρ' w':=fun φ d m' hod hu hm' hr=>by
   have hd:q1C ops i=some d:=by rw [hdo]; exact hod
   have hne:∀ t,(∀ j,j < h→q1C ops j≠some t)→t≠d:=fun t ht e=>ht i (by omega) (by rw [e]; exact hd)
   refine q0a hC hO hw hΘ hdep hback hdist hap hbd hknow l (i+1) _ _ _ _ (hr (ρ' d) (S i)) hl' (by omega) (fun t ht=>?_) (fun j t hj hdj=>?_) (fun j=>?_) (fun j q=>?_) (fun j φ' hj hf=>?_) hm'
   ·exact (q2f _ _ (hne t ht)).trans (hout t ht)
   ·by_cases hji:j=i
    ·subst hji
     obtain rfl:d=t:=Option.some.inj (hd.symm.trans hdj)
     exact q4Q _ _ _
    ·have:t≠d:=fun e=>hdist j i hji (by omega) (by omega) t hdj (by rw [e]; exact hd)
     exact (q2f _ _ this).trans (hdir j t (by omega) hdj)
   ·by_cases hji:j=i
    ·subst hji; simp only [if_true]; exact hu
    ·simp only [if_neg hji]; exact hK j
   ·by_cases hji:j=i
    ·subst hji; simp only [if_true]; exact fun hs=>⟨by omega,hs⟩
    ·simp only [if_neg hji]; exact hG j q
   ·by_cases hji:j=i
    ·subst hji; funext q; simp
    ·have:=hGS j φ' (by omega) hf
     funext q; simp only [if_neg hji]; rw [this]
  rcases hL with ⟨u,d,hu,hd,hc,hoo,_,hr⟩ | ⟨φ,d,hφ,hd,hc,hoo,_,hr⟩ | ⟨t,g,d,ht,hd,hc,hoo,_,hr⟩ | ⟨u,d,hu,hd,hc,hoo,_,hr⟩ | ⟨φ,d,hφ,hd,hc,hoo,_,hr⟩ | ⟨t,s,ψ,φ,hψ,hdn,hc,hoo,htd,hφ,_,hr⟩ | ⟨t,s,ψ,hψ,hdn,hc,hoo,hall,_,hr⟩
  ·rw [hu,hdo,hd] at hkn; exact fixed u d m K hd (fun φ e=>by rw [hu] at e; cases e) hK hkn (notin hc) hr
  ·rw [hφ,hdo,hd,hoo] at hkn; exact freed φ d m hd hkn (notin hc) hr
  ·have e:=hslot _ t ht (by simp [K2.on])
   rw [ht,hdo,hd] at hkn
   exact fixed _ d m _ hd (fun φ e=>by rw [ht] at e; cases e) (fun j=>by by_cases hji:j=i<;>simp [hji,hK]) (by rw [e]; exact hkn) (notin hc) hr
  ·rw [hu,hdo,hd] at hkn; exact fixed u d (m+1) K hd (fun φ e=>by rw [hu] at e; cases e) hK hkn (isin hc) hr
  ·rw [hφ,hdo,hd,hoo] at hkn; exact freed φ d (m+1) hd hkn (isin hc) hr
  ·have e1:=hslot _ t hψ (by simp [K2.on])
   have e2:=hslot _ s hψ (by simp [K2.on])
   have eg:G (q3A os i)=S (q3A os i):=by
    rcases z9o hO (by omega) ho' with h1 | h1
    ·exact absurd h1 hoo
    ·exact hGS _ φ (hback i o' ho' _ h1.1) hφ
   rw [hψ] at hkn
   refine q0a hC hO hw hΘ hdep hback hdist hap hbd hknow l (i+1) _ _ _ _ hr hl' (by omega) hout (fun j t' hj hdj=>?_) (fun j=>?_) hG (fun j φ' hj hf=>?_) (notin hc)
   ·by_cases hji:j=i
    ·subst hji; rw [hdo,hdn] at hdj; cases hdj
    ·exact hdir j t' (by omega) hdj
   ·by_cases hji:j=i
    ·subst hji
     simp only [if_true]
     rw [eg,e1,e2]; exact hkn
    ·simp only [if_neg hji]; exact hK j
   ·by_cases hji:j=i
    ·subst hji; rw [hψ] at hf; cases hf
    ·exact hGS j φ' (by omega) hf
  ·refine q0a hC hO hw hΘ hdep hback hdist hap hbd hknow l (i+1) _ _ _ _ hr hl' (by omega) hout (fun j t' hj hdj=>?_) hK hG (fun j φ' hj hf=>?_) (isin hc)
   ·by_cases hji:j=i
    ·subst hji; rw [hdo,hdn] at hdj; cases hdj
    ·exact hdir j t' (by omega) hdj
   ·by_cases hji:j=i
    ·subst hji; rw [hψ] at hf; cases hf
    ·exact hGS j φ' (by omega) hf
end
end Go.E
namespace Go.E
open Go
open Rep (rd)
open Sep (own)
abbrev NoM:Nat→Prop:=fun _=>False
theorem j4b {w w' : World}(h:RW NoM w w'):Ext w w':=h.mono fun k hk hm=>hm.elim id fun h=>by omega
section
variable {P:Program}{n d:Nat}{Q:Post}{ρ:Env}{w:World}{ops:Array Oper}{o:Oper}{l:List Oper}{h i m:Nat}{ks:List K2}{Θ:Nat→World→Prop}{C:List Nat}{os:List (Option Nat)}{K:Nat→World→Prop}{G:Nat→Nat→Prop}
theorem LL2.free {φ:(Nat→Prop)→Value→World→Prop}(hk:ks[i]? = some (.free φ))(hc:C.contains i=false)(hoo:q3A os i=i)(hd:o.dst=some d)(he:∀ w',Ext w w'→(∀ j,(q1u o).contains j=true→K j w')→OpX P ops o ρ w' (fun v w''=>Ext w' w''∧φ (fun q=>w'.heap.size≤q∧q < w''.heap.size) v w''))
  (hr:∀ v S,LL2 P n Q ops h ks NoM Θ C os w (i+1) l (upd ρ d v) (fun j w'=>if j=i then φ S v w' else K j w') (fun j q=>if j=i then S q else G j q) m):LL2 P n Q ops h ks NoM Θ C os w i (o :: l) ρ K G m:=
 .inr (.inl ⟨φ,d,hk,hd,hc,hoo,fun w' hw _ hK=>he w' (j4b hw) hK,hr⟩)
end
section
variable {F:Nat→Prop}{w0 a b:World}{ps:List Pr}{l:List It}{S T:Nat→Prop}{TB k:Nat}{p x v:Value}{cells:List Value}
end
section
variable {F F0:Nat→Prop}{M:List Nat}{w0 w w' : World}{fr ps ps2:List Pr}{ow l l2:List It}{S S2:Nat→Prop}
theorem AllP.ext (h:AllP F w fr)(hE:Ext w w'):AllP F w' fr:=h.frame fun b _ hl=>hE.block b hl id
def NewV (F:Nat→Prop)(w0:World)(S:Nat→Prop)(w:World)(ps:List Pr)(l:List It):Prop:=
 ∃ Fr LC,AllP (fz F w0 [] (Fr++q2p LC)) w ps∧AllI (fz F w0 [] (Fr++q2p LC)) w l LC∧(Fr++blks LC).Nodup∧∀ q∈Fr++blks LC,S q∧q < w.heap.size
theorem NewV.ext (h:NewV F w0 S w ps l)(hE:Ext w w'):NewV F w0 S w' ps l:=by
 obtain⟨Fr,LC,h1,h2,h3,h4⟩:=h
 have hlt:=h2.lt
 exact⟨Fr,LC,h1.ext hE,AllI.trans (fun _ h=>h) (fun b _ hl=>hE.block b hl id) h2 fun q hq=>hE.block q (hlt q hq) id,h3,fun q hq=>⟨(h4 q hq).1,Nat.lt_of_lt_of_le (h4 q hq).2 hE.size⟩⟩
theorem NewV.app (h:NewV F w0 S w ps l)(h2:NewV F w0 S2 w ps2 l2)(hd:∀ q,S q→S2 q→False):NewV F w0 (fun q=>S q∨S2 q) w (ps++ps2) (l++l2):=by
 obtain⟨A,B,a1,a2,a3,a4⟩:=h
 obtain⟨A',B',b1,b2,b3,b4⟩:=h2
 have s1:∀ q,fz F w0 [] (A++q2p B) q→fz F w0 [] ((A++A')++q2p (B++B')) q:=z2K fun q hq=>by
  rw [q5B]; simp only [List.mem_append] at hq ⊢; rcases hq with h | h<;>simp [h]
 have s2:∀ q,fz F w0 [] (A'++q2p B') q→fz F w0 [] ((A++A')++q2p (B++B')) q:=z2K fun q hq=>by
  rw [q5B]; simp only [List.mem_append] at hq ⊢; rcases hq with h | h<;>simp [h]
 refine⟨A++A',B++B',(a1.mono s1).app (b1.mono s2),(AllI.trans s1 (fun _ _ _=>rfl) a2 fun _ _=>rfl).app (AllI.trans s2 (fun _ _ _=>rfl) b2 fun _ _=>rfl),?_,fun q hq=>?_⟩
 ·have hx:∀ x∈A++blks B,∀ y∈A'++blks B',x≠y:=fun x hx y hy e=>by subst e; exact hd x (a4 x hx).1 (b4 x hy).1
  rw [q5e]
  simp only [List.nodup_append,List.mem_append] at a3 b3 hx ⊢
  obtain⟨a31,a32,a33⟩:=a3
  obtain⟨b31,b32,b33⟩:=b3
  refine⟨⟨a31,b31,fun x h1 y h2=>hx x (.inl h1) y (.inl h2)⟩,⟨a32,b32,fun x h1 y h2=>hx x (.inr h1) y (.inr h2)⟩,fun x h1 y h2=>?_⟩
  rcases h1 with h1 | h1<;>rcases h2 with h2 | h2
  ·exact a33 x h1 y h2
  ·exact hx x (.inl h1) y (.inr h2)
  ·exact fun e=>hx y (.inr h2) x (.inl h1) e.symm
  ·exact b33 x h1 y h2
 ·rw [q5e] at hq
  simp only [List.mem_append] at hq
  have k1:∀ q,q∈A++blks B→(S q∨S2 q)∧q < w.heap.size:=fun q hq=>⟨.inl (a4 q hq).1,(a4 q hq).2⟩
  have k2:∀ q,q∈A'++blks B'→(S q∨S2 q)∧q < w.heap.size:=fun q hq=>⟨.inr (b4 q hq).1,(b4 q hq).2⟩
  rcases hq with (h | h) | (h | h)
  ·exact k1 q (by simp [h])
  ·exact k2 q (by simp [h])
  ·exact k1 q (by simp [h])
  ·exact k2 q (by simp [h])
end
end Go.E
namespace Go.E
open Go
open Rep (rd)
open Sep (own)
theorem z2t (z:Array Value)(n:Nat):Builtin.zeroCells z n=madeCells z (n*z.size):=rfl
section
variable {F0:Nat→Prop}{M:List Nat}{w0 w w' : World}{fr:List Pr}{ow:List It}{i j:Nat}{e:TypeId}{v:Value}{cs:List Value}
variable {P:Program}{n d:Nat}{Q:Post}{ρ:Env}{ops:Array Oper}{o:Oper}{rest:List Oper}
theorem ownL.take {α:Type}[Sep α]:∀ {xs:List α} {L:List Nat} {cs:List Value} (h:Nat),ownL w L xs cs→∃ L',(∀ q∈L',q∈L)∧(L.Nodup→L'.Nodup)∧ownL w L' (xs.take h) (cs.take (h*Rep.sz α))
 | [],L,cs,h,ho=>⟨[],by simp,fun _=>List.nodup_nil,by obtain⟨_,rfl⟩:=ho; simp [ownL]⟩
 | x :: xs,L,cs,0,_=>⟨[],by simp,fun _=>List.nodup_nil,by simp [ownL]⟩
 | x :: xs,L,cs,h+1,⟨L1,L2,c,r,hL,hc,h1,h2⟩=>by
  obtain⟨L',g1,g2,g3⟩:=ownL.take h h2
  subst hL; subst hc
  have hl:=Rep.len (Sep.own_rd h1)
  refine⟨L1++L',fun q hq=>?_,fun hN=>?_,L1,L',c,r.take (h*Rep.sz α),rfl,?_,h1,g3⟩
  ·rcases List.mem_append.1 hq with h | h
   ·exact List.mem_append.2 (.inl h)
   ·exact List.mem_append.2 (.inr (g1 q h))
  ·rw [List.nodup_append] at hN ⊢
   exact⟨hN.1,g2 hN.2.1,fun a ha b hb=>hN.2.2 a ha b (g1 b hb)⟩
  ·rw [show (h+1)*Rep.sz α=c.length+h*Rep.sz α by rw [hl,Nat.add_mul]; omega,List.take_append]
   simp [List.take_of_length_le]
theorem RowO.take {k m h:Nat}{L:List Nat}{A:Option Addr}{c:Nat}(hr:RowO w e k (.slice A m c) m L cs)(hh:h≤m):RowO w e k (.slice A h c) h L (cs.take (h*k)):=by
 obtain⟨e1,hr⟩:=hr
 refine⟨e1,?_⟩
 rcases hr with ⟨h1,rfl⟩ | ⟨⟨A',h1⟩,rfl,rfl,rfl⟩
 ·refine .inl ⟨⟨by rw [List.length_take,h1.1]; exact Nat.min_eq_left (Nat.mul_le_mul_right _ hh),?_⟩,by cases A<;>rfl⟩
  rcases h1.2 with ⟨hv,h0⟩ | ⟨g,cap,cur,hv,hb,hg,hn,hc,hs,ht⟩
  ·cases hv
   obtain rfl:h=0:=by omega
   exact .inl ⟨rfl,rfl⟩
  ·cases hv
   refine .inr ⟨g,_,cur,rfl,hb,hg,by omega,hc,hs,?_⟩
   rw [← ht,List.take_take,Nat.min_eq_left (Nat.mul_le_mul_right _ hh)]
 ·obtain rfl:h=0:=by omega
  cases h1
  exact .inr ⟨⟨_,rfl⟩,rfl,by simp,rfl⟩
theorem z7h {z:List Value}(h:∀ u∈z,u.oneCell'=true):∀ m,∀ u∈reps z m,u.oneCell'=true
 | 0,u,hu=>by simp [reps] at hu
 | m+1,u,hu=>by
  rcases List.mem_append.1 hu with hu | hu
  ·exact h u hu
  ·exact z7h h m u hu
end
end Go.E
namespace Go.E
open Go
def Gr (w w' : World):Prop:=∃ q os,w'=Sort.grow (w.drewN q) os
theorem Gr.refl (w:World):Gr w w:=⟨0,#[],by simp [Sort.grow,World.drewN]⟩
theorem Gr.trans {a b c:World}(h:Gr a b)(k:Gr b c):Gr a c:=by
 obtain⟨q,os,rfl⟩:=h
 obtain⟨q2,os2,rfl⟩:=k
 exact⟨q+q2,os++os2,by simp [Sort.grow,World.drewN,Array.append_assoc,Nat.add_assoc]⟩
theorem Gr.draw (w:World):Gr w { w with drawn:=w.drawn+1 }:=⟨1,#[],by simp only [Sort.grow,World.drewN,Array.append_empty]⟩
theorem Gr.alloc (w:World)(o:Obj):Gr w (w.alloc o):=⟨0,#[o],Sort.alloc_eq_grow w o⟩
theorem Gr.ext {w w' : World}(h:Gr w w'):Ext w w':=by
 obtain⟨q,os,rfl⟩:=h
 refine⟨rfl,rfl,rfl,by simp [Sort.grow,World.drewN],fun k hk _=>?_⟩
 simp only [Sort.grow,World.drewN]
 rw [Array.getElem?_append_left hk]
section
variable {P:Program}{n d:Nat}{Q:Post}{ρ:Env}{w:World}{ops:Array Oper}{o:Oper}{rest:List Oper}{e:TypeId}{v:Value}{cs:List Value}
theorem q0r {T:TypeId}{x:Operand}(hg:o.guard=none)(hd:o.dst=some d)(ho:o.op = .box T x)(hx:E.ev ρ x=v)(hc:v.cells=cs.toArray)
  (h:∀ b w',Gr w w'→w.heap.size≤b→Blk w' b T cs→WL P n ops Q rest (upd ρ d (.pointer (some ⟨b,0,none⟩))) w'):WL P n ops Q (o :: rest) ρ w:=
 WL.step hg fun a K ha hok hK=>by
  unfold Oper.wp
  rw [q4I ha hok]
  simp only [execOp,ho,hx,Instr.box,newVar,hc,Sem.run_bind,q6r,Result.andThen_ok,Sem.run_pure]
  exact hK _ _ (by rw [hd]; exact h _ _ (Gr.alloc _ _) (Nat.le_refl _) (q5V _ _ _))
theorem q0R {T m:Nat}{z:Value}{parts:Array (Nat × Operand)}{vs:List Value}(hg:o.guard=none)(hd:o.dst=some d)(ho:o.op = .buildSlice T m parts)(hT:q3W P T=some e)(hk:szT P e=some 1)(hz:q6T P e=some [z])
  (hp:parts.toList.map (fun p=>(p.1,E.ev ρ p.2))=idxL 0 vs) (h1:∀ v∈vs,v.cells=#[v]) (hn:vs.length=m) (hm:Nat.blt 0 m=true) (hm2:Nat.ble m 100000=true)
  (h:∀ g w',Gr w w'→Blk w' g e vs→WL P n ops Q rest (upd ρ d (.slice (some ⟨g,0,none⟩) m m)) w'):WL P n ops Q (o :: rest) ρ w:=
 WL.step hg fun a K ha hok hK=>by
  unfold Oper.wp
  rw [q4I ha hok]
  have hp' : parts.map (fun p=>(p.1,E.ev ρ p.2))=(idxL 0 vs).toArray:=by
   apply Array.ext'; simpa using hp
  have hr:=j1b (P:=P) (w:=w) hT hk hz h1 hn hm hm2
  simp only [execOp,ho,hp',Sem.run_bind,hr,Result.andThen_ok,Sem.run_pure]
  exact hK _ _ (by rw [hd]; exact h _ _ (Gr.alloc _ _) (q5V w e vs))
end
end Go.E
namespace Go.E
open Go
open Rep (rd)
open Sep (own)
def ThB (b:Nat)(T:TypeId)(css:List (List Value))(m:Nat)(w:World):Prop:=∃ cs,css[m]? = some cs∧Blk w b T cs
section
variable {F0:Nat→Prop}{M:List Nat}{w0 w w' : World}{fr ps:List Pr}{ow l:List It}{i j b m:Nat}{T:TypeId}{cs cs' : List Value}{S:Nat→Prop}{css:List (List Value)}
theorem ThB.mono (hb:b < w.heap.size):∀ m a c (T' : Nat→Prop),ThB b T css m a→Chg T' a c→(∀ q,T' q→w.heap.size≤q)→ThB b T css m c:=
 fun _ _ _ _ ⟨cs,h1,h2⟩ hc hT=>⟨cs,h1,(hc.block b h2.lt fun ht=>absurd (hT b ht) (by omega)).trans h2⟩
theorem ThB.get (h:css[m]? = some cs)(hT:ThB b T css m w):Blk w b T cs:=by
 obtain⟨c,h1,h2⟩:=hT
 obtain rfl:cs=c:=Option.some.inj (h.symm.trans h1)
 exact h2
theorem NewI.nil:NewI (fun _=>False) w []:=⟨[],trivial,List.nodup_nil,fun _ h=>by simp [blks] at h⟩
end
section
variable {P:Program}{n d:Nat}{Q:Post}{ρ:Env}{w:World}{ops:Array Oper}{o:Oper}{l:List Oper}{h i m:Nat}{ks:List K2}{Mw:Nat→Prop}{Θ:Nat→World→Prop}{C:List Nat}{os:List (Option Nat)}{K:Nat→World→Prop}{G:Nat→Nat→Prop}{X:World→Prop}
end
end Go.E
namespace Go.E
open Go
open Rep (rd)
open Sep (own)
section
variable {P:Program}{n d:Nat}{Q:Post}{ρ:Env}{w w0:World}{ops:Array Oper}{o:Oper}{e:TypeId}{F0:Nat→Prop}{M:List Nat}{fr:List Pr}{ow:List It}
theorem q0S {S T:TypeId}{x:Operand}{m:UInt8}{d:TypeDesc}(ho:o.op = .convert S T x)(hS:P.underlying S=some d)(hT:intT P T=some .i64)(hx:E.ev ρ x = .int .u8 (m.toNat:Int)):Ev P ρ o w (.int .i64 (m.toNat:Int)):=by
 have h:=q0e (w:=w) ho hS hT hx
 have:=m.toNat_lt
 rwa [IntWalk.i64_in _ (by omega)] at h
theorem Opens.byte {T:TypeId}(hc:P.cellsOf T=1)(ht:P.underlying T=some (.int .u8)):Opens P T UInt8:=by
 refine⟨hc,fun H enc w base spare held fuel cs x h=>?_⟩
 obtain⟨n,rfl,_,hw⟩:=DataW.trod_int ht h
 have hb:=bounds_u8 hw
 refine⟨UInt8.ofNat n.toNat,?_⟩
 show [Value.int .u8 n]=[.int .u8 ((UInt8.ofNat n.toNat).toNat:Int)]
 have:((UInt8.ofNat n.toNat).toNat:Int)=n:=by
  rw [UInt8.toNat_ofNat']; omega
 rw [this]
end
section
variable {P:Program}{n d:Nat}{Q:Post}{ρ:Env}{w:World}{ops:Array Oper}{o:Oper}{l:List Oper}{h i m:Nat}{ks:List K2}{Mw:Nat→Prop}{Θ:Nat→World→Prop}{C:List Nat}{os:List (Option Nat)}{K:Nat→World→Prop}{G:Nat→Nat→Prop}
theorem OpX.on {R:Value→World→Prop}(hg:gate ops ρ o=true)(h:OpX P ops { o with guard:=none } ρ w R):OpX P ops o ρ w R:=by
 rcases h with h | h
 ·exact .inl ⟨hg,h.2⟩
 ·exact absurd h.1 (by simp [gate])
theorem LL2.on (hg:gate ops ρ o=true)(h' : LL2 P n Q ops h ks Mw Θ C os w i ({ o with guard:=none } :: l) ρ K G m):LL2 P n Q ops h ks Mw Θ C os w i (o :: l) ρ K G m:=by
 rcases h' with ⟨u,d,h1,h2,h3,h4,h5,h6⟩ | ⟨φ,d,h1,h2,h3,h4,h5,h6⟩ | ⟨t,g,d,h1,h2,h3,h4,h5,h6⟩ | ⟨u,d,h1,h2,h3,h4,h5,h6⟩ | ⟨φ,d,h1,h2,h3,h4,h5,h6⟩ | ⟨t,s,ψ,φ,h1,h2,h3,h4,h5,h6,h7,h8⟩ | ⟨t,s,ψ,h1,h2,h3,h4,h5,h6,h7⟩
 ·exact .inl ⟨u,d,h1,h2,h3,h4,fun w' a b c=>OpX.on hg (h5 w' a b c),h6⟩
 ·exact .inr (.inl ⟨φ,d,h1,h2,h3,h4,fun w' a b c=>OpX.on hg (h5 w' a b c),h6⟩)
 ·exact .inr (.inr (.inl ⟨t,g,d,h1,h2,h3,h4,fun w' a b c=>OpX.on hg (h5 w' a b c),h6⟩))
 ·exact .inr (.inr (.inr (.inl ⟨u,d,h1,h2,h3,h4,fun w' a b c=>OpX.on hg (h5 w' a b c),h6⟩)))
 ·exact .inr (.inr (.inr (.inr (.inl ⟨φ,d,h1,h2,h3,h4,fun w' a b c=>OpX.on hg (h5 w' a b c),h6⟩))))
 ·exact .inr (.inr (.inr (.inr (.inr (.inl ⟨t,s,ψ,φ,h1,h2,h3,h4,h5,h6,fun w' a b c=>OpX.on hg (h7 w' a b c),h8⟩)))))
 ·exact .inr (.inr (.inr (.inr (.inr (.inr ⟨t,s,ψ,h1,h2,h3,h4,h5,fun w' a b c=>OpX.on hg (h6 w' a b c),h7⟩)))))
end
end Go.E
namespace Go.E
open Go
open Rep (rd)
open Sep (own)
def Th2 (b:Nat)(T:TypeId)(css:List (List Value))(b2:Nat)(T2:TypeId)(css2:List (List Value))(m:Nat)(w:World):Prop:=ThB b T css m w∧ThB b2 T2 css2 m w
section
variable {F0:Nat→Prop}{M:List Nat}{w0 w w' w'' : World}{fr ps:List Pr}{ow l:List It}{i j b b2 m:Nat}{T T2:TypeId}{cs cs' c2 c2' : List Value}{S:Nat→Prop}{css css2:List (List Value)}
theorem Th2.mono (hb:b < w.heap.size)(hb2:b2 < w.heap.size):∀ m a c (T' : Nat→Prop),Th2 b T css b2 T2 css2 m a→Chg T' a c→(∀ q,T' q→w.heap.size≤q)→Th2 b T css b2 T2 css2 m c:=
 fun m a c T' h hc hT=>⟨ThB.mono hb m a c T' h.1 hc hT,ThB.mono hb2 m a c T' h.2 hc hT⟩
end
section
variable {P:Program}{n d:Nat}{Q:Post}{ρ:Env}{w:World}{ops:Array Oper}{o:Oper}{l:List Oper}{h i m:Nat}{ks:List K2}{Mw:Nat→Prop}{Θ:Nat→World→Prop}{C:List Nat}{os:List (Option Nat)}{K:Nat→World→Prop}{G:Nat→Nat→Prop}{X:World→Prop}
end
section
variable {P:Program}{ρ:Env}{w:World}
end
end Go.E
namespace Go.E
open Go
def q8d (P:Program)(T:TypeId)(i:Nat):Option (TypeId × Nat):=match P.underlying T with
 | some (.struct fs)=>(fs[i]?).map fun f=>(f.type,f.offset)
 | _=>none
theorem z0F {P:Program}{T:TypeId}{i ft off:Nat}(h:q8d P T i=some (ft,off)):∃ fs f,P.underlying T=some (.struct fs)∧fs[i]? = some f∧f.type=ft∧f.offset=off:=by
 unfold q8d at h
 split at h
 ·rename_i fs hfs
  cases hf:fs[i]? with
  | none=>rw [hf] at h; cases h
  | some f=>
   rw [hf] at h
   simp only [Option.map_some,Option.some.injEq,Prod.mk.injEq] at h
   exact⟨fs,f,hfs,hf,h.1,h.2⟩
 ·cases h
section
variable {P:Program}{ρ:Env}{o:Oper}{w:World}{T:TypeId}{x:Operand}{i ft off k:Nat}{cs:List Value}{u:Value}
theorem Ev.fld (ho:o.op = .field T x i)(hT:q8d P T i=some (ft,off))(hg:aggT P ft=some false)(hx:E.ev ρ x = .agg cs.toArray)(hc:cs[off]? = some u):Ev P ρ o w u:=by
 obtain⟨fs,f,h1,h2,h3,h4⟩:=z0F hT
 subst h3; subst h4
 simp [Ev,execOp,ho,hx,Instr.field,run_underlying h1,h2,asAgg,part,q6v hg,hc]
theorem Ev.flda (ho:o.op = .field T x i)(hT:q8d P T i=some (ft,off))(hg:aggT P ft=some true)(hk:szT P ft=some k)(hx:E.ev ρ x = .agg cs.toArray):Ev P ρ o w (.agg (cs.toArray.extract off (off+k))):=by
 obtain⟨fs,f,h1,h2,h3,h4⟩:=z0F hT
 subst h3; subst h4
 simp [Ev,execOp,ho,hx,Instr.field,run_underlying h1,h2,asAgg,part,q6v hg,q2L hk]
end
end Go.E

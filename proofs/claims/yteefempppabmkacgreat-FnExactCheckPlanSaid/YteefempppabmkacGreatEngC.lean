/- A small engine for walks through a Go program: plain lemmas on the model, without conditions of their own. -/
import Derived.Test.YteefempppabmkacGreatEngB
import Derived.ChangeArms
set_option linter.unusedVariables false
set_option linter.unusedSimpArgs false
set_option linter.ambiguousOpen false
set_option linter.unusedSectionVars false
set_option linter.unnecessarySimpa false
namespace Go.E
def grd {α:Type}(c:Prop)[Decidable c](k:Option α):Option α:=if c then k else none
theorem j7N {α:Type}{c:Prop}[Decidable c]{k:Option α}{r:α}(h:grd c k=some r):c∧k=some r:=by
 unfold grd at h; split at h
 ·exact⟨‹_›,h⟩
 ·cases h
theorem q2q {α:Type}{c:Prop}[Decidable c]{k:Option α}(h:c):grd c k=k:=if_pos h
theorem bd {α β:Type}{o:Option α}{f:α→Option β}{r:β}(h:o.bind f=some r):∃ x,o=some x∧f x=some r:=Option.bind_eq_some_iff.1 h
theorem ifp {α:Type}{c:Prop}[Decidable c]{a b x:α}(hc:c)(h:(if c then a else b)=x):a=x:=(if_pos hc).symm.trans h
theorem ifn {α:Type}{c:Prop}[Decidable c]{a b x:α}(hc:¬ c)(h:(if c then a else b)=x):b=x:=(if_neg hc).symm.trans h
theorem sm {α:Type}{a b:α}(h:some a=some b):a=b:=Option.some.inj h
def onr {σ ρ β:Type}(g:ρ→Option β)(f:σ→Option β):σ ⊕ ρ→Option β
 | .inl s=>f s
 | .inr r=>g r
@[simp] theorem q2S {σ ρ β:Type} (g:ρ→Option β) (f:σ→Option β) (s:σ):onr g f (.inl s)=f s:=rfl
@[simp] theorem z6K {σ ρ β:Type} (g:ρ→Option β) (f:σ→Option β) (r:ρ):onr g f (.inr r)=g r:=rfl
def q2J {α σ:Type}(f:Nat→α→σ→Option σ):Nat→List α→σ→Option σ
 | _,[],s=>some s
 | i,x :: xs,s=>(f i x s).bind (q2J f (i+1) xs)
def q2u {α σ ρ:Type}(f:Nat→α→σ→Option (σ ⊕ ρ)):Nat→List α→σ→Option (σ ⊕ ρ)
 | _,[],s=>some (.inl s)
 | i,x :: xs,s=>(f i x s).bind fun | .inl s'=>q2u f (i+1) xs s' | .inr r=>some (.inr r)
def z7J {σ:Type}(f:Nat→σ→Option σ):Nat→Nat→σ→Option σ
 | _,0,s=>some s
 | i,n+1,s=>(f i s).bind (z7J f (i+1) n)
def z4P {σ ρ:Type}(f:Nat→σ→Option (σ ⊕ ρ)):Nat→Nat→σ→Option (σ ⊕ ρ)
 | _,0,s=>some (.inl s)
 | i,n+1,s=>(f i s).bind fun | .inl s'=>z4P f (i+1) n s' | .inr r=>some (.inr r)
def z4Q {σ ρ:Type}(f:σ→Option (σ ⊕ ρ)):Nat→σ→Option ρ
 | 0,_=>none
 | n+1,s=>(f s).bind fun | .inl s'=>z4Q f n s' | .inr r=>some r
theorem z6L {σ ρ:Type}{f:σ→Option (σ ⊕ ρ)}:∀ {n m:Nat} {s:σ} {r:ρ},z4Q f n s=some r→n≤m→z4Q f m s=some r
 | n+1,m+1,s,r,h,hm=>by
  simp only [z4Q] at h ⊢
  obtain⟨x,h1,h2⟩:=bd h
  rw [h1]
  cases x with
  | inl s'=>exact z6L (n:=n) h2 (by omega)
  | inr q=>exact h2
 | n+1,0,_,_,_,hm=>absurd hm (by omega)
open Classical in
noncomputable def q7k {σ ρ:Type} (f:σ→Option (σ ⊕ ρ)) (s:σ):Option ρ:=if h:∃ r n,z4Q f n s=some r then some h.choose else none
theorem q5g {σ ρ:Type}{f:σ→Option (σ ⊕ ρ)}{s:σ}{r:ρ}:q7k f s=some r↔∃ n,z4Q f n s=some r:=by
 constructor
 ·intro h
  unfold q7k at h
  split at h
  ·rename_i hx
   cases h
   exact hx.choose_spec
  ·cases h
 ·rintro⟨n,h⟩
  have hx:∃ r n,z4Q f n s=some r:=⟨r,n,h⟩
  unfold q7k
  rw [dif_pos hx]
  obtain⟨m,hm⟩:=hx.choose_spec
  have h1:=z6L hm (Nat.le_max_left m n)
  have h2:=z6L h (Nat.le_max_right m n)
  exact h1.symm.trans h2
theorem q5h {σ ρ:Type}{f:σ→Option (σ ⊕ ρ)}{s s' : σ}(h:f s=some (.inl s')):q7k f s=q7k f s':=by
 have key:∀ r,q7k f s=some r↔q7k f s'=some r:=by
  intro r
  rw [q5g,q5g]
  constructor
  ·rintro⟨n,hn⟩
   cases n with
   | zero=>cases hn
   | succ n=>simp only [z4Q,h,Option.bind_some] at hn; exact⟨n,hn⟩
  ·rintro⟨n,hn⟩
   exact⟨n+1,by simp only [z4Q,h,Option.bind_some]; exact hn⟩
 cases ho:q7k f s with
 | none=>cases h2:q7k f s' with
  | none=>rfl
  | some r=>rw [(key r).2 h2] at ho; cases ho
 | some r=>exact ((key r).1 ho).symm
theorem q3X {σ ρ:Type}{f:σ→Option (σ ⊕ ρ)}{s:σ}{r:ρ}(h:f s=some (.inr r)):q7k f s=some r:=
 q5g.2 ⟨1,by simp [z4Q,h]⟩
section
variable {α σ ρ:Type}
theorem q8k {f:Nat→α→σ→Option σ}{xs:List α}{k:Nat}{s q:σ}(h:q2J f k (xs.drop k) s=some q)(hk:k < xs.length):∃ x s',xs[k]? = some x∧f k x s=some s'∧q2J f (k+1) (xs.drop (k+1)) s'=some q:=by
 rw [List.drop_eq_getElem_cons hk] at h
 obtain⟨s',h1,h2⟩:=bd h
 exact⟨_,s',List.getElem?_eq_getElem hk,h1,h2⟩
theorem q6Z {f:Nat→α→σ→Option σ}{xs:List α}{k:Nat}{s q:σ}(h:q2J f k (xs.drop k) s=some q)(hk:¬ k < xs.length):s=q:=by
 rw [List.drop_eq_nil_of_le (by omega)] at h; exact sm h
theorem q3o {f:Nat→α→σ→Option (σ ⊕ ρ)}{xs:List α}{k:Nat}{s:σ}{q:σ ⊕ ρ}(h:q2u f k (xs.drop k) s=some q)(hk:k < xs.length) :
  ∃ x z,xs[k]? = some x∧f k x s=some z∧(∀ s',z = .inl s'→q2u f (k+1) (xs.drop (k+1)) s'=some q)∧∀ r,z = .inr r→q = .inr r:=by
 rw [List.drop_eq_getElem_cons hk] at h
 obtain⟨z,h1,h2⟩:=bd h
 exact⟨_,z,List.getElem?_eq_getElem hk,h1,fun s' e=>by subst e; exact h2,fun r e=>by subst e; exact (sm h2).symm⟩
theorem q2M {f:Nat→α→σ→Option (σ ⊕ ρ)}{xs:List α}{k:Nat}{s:σ}{q:σ ⊕ ρ}(h:q2u f k (xs.drop k) s=some q)(hk:¬ k < xs.length):q = .inl s:=by
 rw [List.drop_eq_nil_of_le (by omega)] at h; exact (sm h).symm
theorem j7O {f:Nat→σ→Option σ}{n k:Nat}{s q:σ}(h:z7J f k (n - k) s=some q)(hk:k < n):∃ s',f k s=some s'∧z7J f (k+1) (n - (k+1)) s'=some q:=by
 obtain⟨m,hm⟩:∃ m,n - k=m+1:=⟨n - k - 1,by omega⟩
 rw [hm] at h
 obtain⟨s',h1,h2⟩:=bd h
 exact⟨s',h1,by rw [show n - (k+1)=m by omega]; exact h2⟩
theorem j5R {f:Nat→σ→Option σ}{n k:Nat}{s q:σ}(h:z7J f k (n - k) s=some q)(hk:¬ k < n):s=q:=by
 rw [show n - k=0 by omega] at h; exact sm h
theorem j0J {f:Nat→σ→Option (σ ⊕ ρ)}{n k:Nat}{s:σ}{q:σ ⊕ ρ}(h:z4P f k (n - k) s=some q)(hk:k < n) :
  ∃ z,f k s=some z∧(∀ s',z = .inl s'→z4P f (k+1) (n - (k+1)) s'=some q)∧∀ r,z = .inr r→q = .inr r:=by
 obtain⟨m,hm⟩:∃ m,n - k=m+1:=⟨n - k - 1,by omega⟩
 rw [hm] at h
 obtain⟨z,h1,h2⟩:=bd h
 exact⟨z,h1,fun s' e=>by subst e; rw [show n - (k+1)=m by omega]; exact h2,fun r e=>by subst e; exact (sm h2).symm⟩
theorem z8v {f:Nat→σ→Option (σ ⊕ ρ)}{n k:Nat}{s:σ}{q:σ ⊕ ρ}(h:z4P f k (n - k) s=some q)(hk:¬ k < n):q = .inl s:=by
 rw [show n - k=0 by omega] at h; exact (sm h).symm
theorem q8B {f:σ→Option (σ ⊕ ρ)}{n:Nat}{s:σ}{q:ρ}(h:z4Q f n s=some q) :
  ∃ m z,n=m+1∧f s=some z∧(∀ s',z = .inl s'→z4Q f m s'=some q)∧∀ r,z = .inr r→r=q:=by
 cases n with
 | zero=>cases h
 | succ m=>
  obtain⟨z,h1,h2⟩:=bd h
  exact⟨m,z,rfl,h1,fun s' e=>by subst e; exact h2,fun r e=>by subst e; exact sm h2⟩
end
end Go.E
namespace Go.E
open Go
open Rep (rd)
open Sep (own)
structure Pr where
 p:(Nat→Prop)→World→Prop
 mono:∀ {F F' : Nat→Prop} {w:World},p F w→(∀ b,F b→F' b)→p F' w
 frame:∀ {F:Nat→Prop} {w w' : World},p F w→(∀ b,F b→b < w.heap.size→w'.heap[b]? = w.heap[b]?)→p F w'
structure It where
 p:List Nat→List Nat→(Nat→Prop)→World→Prop
 mono:∀ {L C:List Nat} {F F' : Nat→Prop} {w:World},p L C F w→(∀ b,F b→F' b)→p L C F' w
 frame:∀ {L C:List Nat} {F:Nat→Prop} {w w' : World},p L C F w→(∀ b,F b→b < w.heap.size→w'.heap[b]? = w.heap[b]?)→(∀ b∈L++C,w'.heap[b]? = w.heap[b]?)→p L C F w'
 lt:∀ {L C:List Nat} {F:Nat→Prop} {w:World},p L C F w→∀ b∈L++C,b < w.heap.size
def Pr.R {α:Type}[Rep α](x:α)(cs:List Value):Pr:=⟨fun F w=>rd F w x cs,fun h hm=>Rep.mono h hm,fun h hf=>Rep.frame h hf⟩
def Pr.S {α:Type}[Rep α](xs:List α)(v:Value):Pr:=⟨fun F w=>rdS F w xs v,fun h hm=>h.mono hm,fun h hf=>h.frame hf⟩
def Pr.A (b o:Nat)(cs:List Value):Pr:=⟨fun F w=>F b∧At w b o cs,fun h hm=>⟨hm _ h.1,h.2⟩,fun h hf=>⟨h.1,h.2.frame' (hf _ h.1)⟩⟩
def It.emp:It:=⟨fun L C _ _=>L=[]∧C=[],fun h _=>h,fun h _ _=>h,by rintro L C F w ⟨rfl,rfl⟩ b hb; simp at hb⟩
def It.B (b:Nat)(T:TypeId)(cs:List Value):It:=⟨fun L C _ w=>L=[b]∧C=[]∧Blk w b T cs,fun h _=>h,
 by rintro L C F w w' ⟨rfl,rfl,h⟩ _ hf; exact⟨rfl,rfl,(hf b (by simp)).trans h⟩,
 by rintro L C F w ⟨rfl,rfl,h⟩ q hq; simp at hq; subst hq; exact h.lt⟩
theorem Own.lst {w:World}{base e k m:Nat}{v:Value}{cs:List Value}(h:Own w base e k v m cs):∀ b∈v.ownBlock.toList,b < w.heap.size:=fun b hb=>(h.lt (by simpa [z2z] using hb)).2
theorem Own.frm {w w' : World}{base e k m:Nat}{v:Value}{cs:List Value}(h:Own w base e k v m cs)(hf:∀ b∈v.ownBlock.toList,w'.heap[b]? = w.heap[b]?):Own w' base e k v m cs:=by
 refine⟨h.1,?_⟩
 rcases h.2 with h2 | ⟨g,cap,cur,rfl,hb,hg,r⟩
 ·exact .inl h2
 ·refine .inr ⟨g,cap,cur,rfl,hb,?_,r⟩
  rw [hf g (by simp [Value.ownBlock])]; exact hg
def RowO (w:World)(e:TypeId)(k:Nat)(v:Value)(n:Nat)(L:List Nat)(cs:List Value):Prop:=
 (Own w 0 e k v n cs∧L=v.ownBlock.toList)∨((∃ A,v = .slice A 0 0)∧n=0∧cs=[]∧L=[])
section
variable {w w' : World}{e:TypeId}{k n:Nat}{v:Value}{L:List Nat}{cs:List Value}
theorem RowO.lst (h:RowO w e k v n L cs):∀ b∈L,b < w.heap.size:=by
 rcases h with ⟨h,rfl⟩ | ⟨_,_,_,rfl⟩
 ·exact h.lst
 ·simp
theorem RowO.frm (h:RowO w e k v n L cs)(hf:∀ b∈L,w'.heap[b]? = w.heap[b]?):RowO w' e k v n L cs:=by
 rcases h with ⟨h,rfl⟩ | h
 ·exact .inl ⟨h.frm hf,rfl⟩
 ·exact .inr h
theorem RowO.form (h:RowO w e k v n L cs):∃ A c,v = .slice A n c∧n≤c∧c≤maxLen:=by
 rcases h with ⟨h,_⟩ | ⟨⟨A,rfl⟩,rfl,_⟩
 ·rcases h.2 with ⟨rfl,rfl⟩ | ⟨g,cap,cur,rfl,_,_,h1,h2,_⟩
  ·exact⟨_,_,rfl,Nat.le_refl _,Nat.zero_le _⟩
  ·exact⟨_,_,rfl,h1,h2⟩
 ·exact⟨_,_,rfl,Nat.le_refl _,Nat.zero_le _⟩
theorem RowO.own {i:Nat}(h:RowO w e k v n L cs)(hi:i < n):Own w 0 e k v n cs∧L=v.ownBlock.toList:=by
 rcases h with h | ⟨_,rfl,_⟩
 ·exact h
 ·omega
theorem RowO.nodup (h:RowO w e k v n L cs):L.Nodup:=by
 rcases h with ⟨_,rfl⟩ | ⟨_,_,_,rfl⟩
 ·cases v.ownBlock<;>simp
 ·simp
theorem RowO.rd {α:Type}[Rep α]{S:Nat→Prop}{xs:List α}(h:RowO w e (Rep.sz α) v xs.length L cs)(hr:rdL S w xs cs)(hS:∀ b∈L,S b):rdS S w xs v:=by
 rcases h with ⟨h,rfl⟩ | ⟨⟨A,rfl⟩,h0,rfl,_⟩
 ·exact (h.rd hr fun b hb=>hS b (by simpa [z2z] using hb)).2
 ·obtain rfl:=List.eq_nil_of_length_eq_zero h0
  exact rdS.nil (Nat.zero_le _)
end
def It.O {α:Type}[Sep α](e:TypeId)(xs:List α)(v:Value):It:=
 ⟨fun L C _ w=>∃ cs,RowO w e (Rep.sz α) v xs.length L cs∧ownL w C xs cs,fun h _=>h,
 by
  rintro L C F w w' ⟨cs,h1,h2⟩ _ hf
  exact⟨cs,h1.frm fun b hb=>hf b (List.mem_append.2 (.inl hb)),h2.frame fun b hb=>hf b (List.mem_append.2 (.inr hb))⟩,
 by
  rintro L C F w ⟨cs,h1,h2⟩ q hq
  rcases List.mem_append.1 hq with hq | hq
  ·exact h1.lst q hq
  ·exact h2.lt q hq⟩
def It.G {α:Type}[Rep α](e:TypeId)(xs:List α)(v:Value):It:=
 ⟨fun L C F w=>∃ cs,RowO w e (Rep.sz α) v xs.length L cs∧C=[]∧rdL F w xs cs,
 by rintro L C F F' w ⟨cs,h1,h3,h4⟩ hm; exact⟨cs,h1,h3,h4.mono hm⟩,
 by
  rintro L C F w w' ⟨cs,h1,rfl,h2⟩ hF hf
  exact⟨cs,h1.frm fun b hb=>hf b (List.mem_append.2 (.inl hb)),rfl,h2.frame hF⟩,
 by
  rintro L C F w ⟨cs,h1,rfl,h2⟩ q hq
  rw [List.append_nil] at hq
  exact h1.lst q hq⟩
def AllP (F:Nat→Prop)(w:World):List Pr→Prop
 | []=>True
 | p :: l=>p.p F w∧AllP F w l
def AllI (F:Nat→Prop)(w:World):List It→List (List Nat × List Nat)→Prop
 | [],[]=>True
 | i :: is,(L,C) :: l=>i.p L C F w∧AllI F w is l
 | _,_=>False
def blks:List (List Nat × List Nat)→List Nat
 | []=>[]
 | (L,C) :: l=>(L++C)++blks l
def claims:List (List Nat × List Nat)→List Nat
 | []=>[]
 | (_,C) :: l=>C++claims l
def fz (F0:Nat→Prop)(w0:World)(M Fr:List Nat):Nat→Prop:=fun q=>(F0 q∧q < w0.heap.size∧q ∉ M)∨q∈Fr
theorem AllP.get {F:Nat→Prop}{w:World}:∀ {l:List Pr} {i:Nat} {p:Pr},AllP F w l→l[i]? = some p→p.p F w
 | p :: l,0,_,h,e=>by simp at e; subst e; exact h.1
 | p :: l,i+1,_,h,e=>AllP.get h.2 (by simpa using e)
theorem AllP.app {F:Nat→Prop}{w:World}:∀ {l m:List Pr},AllP F w l→AllP F w m→AllP F w (l++m)
 | [],_,_,h=>h
 | _ :: _,_,h1,h2=>⟨h1.1,AllP.app h1.2 h2⟩
theorem AllP.mono {F F' : Nat→Prop}{w:World}(hm:∀ b,F b→F' b):∀ {l:List Pr},AllP F w l→AllP F' w l
 | [],_=>trivial
 | p :: _,h=>⟨p.mono h.1 hm,AllP.mono hm h.2⟩
theorem AllP.frame {F:Nat→Prop}{w w' : World}(hf:∀ b,F b→b < w.heap.size→w'.heap[b]? = w.heap[b]?):∀ {l:List Pr},AllP F w l→AllP F w' l
 | [],_=>trivial
 | p :: _,h=>⟨p.frame h.1 hf,AllP.frame hf h.2⟩
theorem AllP.keep {F:Nat→Prop}{w:World}:∀ {l:List Pr} (n:Nat),AllP F w l→AllP F w (l.take n)
 | [],n,_=>by simp [AllP]
 | _ :: _,0,_=>trivial
 | _ :: _,n+1,h=>⟨h.1,AllP.keep n h.2⟩
theorem j7P {LC:List (List Nat × List Nat)}{b:Nat}:b∈blks LC↔∃ x∈LC,b∈x.1∨b∈x.2:=by
 induction LC with
 | nil=>simp [blks]
 | cons x l ih=>obtain⟨L,C⟩:=x; simp [blks,ih,or_assoc]
theorem j0p {LC:List (List Nat × List Nat)}{b:Nat}:b∈claims LC↔∃ x∈LC,b∈x.2:=by
 induction LC with
 | nil=>simp [claims]
 | cons x l ih=>obtain⟨L,C⟩:=x; simp [claims,ih]
theorem q4N {LC:List (List Nat × List Nat)}{b:Nat}(h:b∈claims LC):b∈blks LC:=by
 rw [j0p] at h; rw [j7P]; obtain⟨x,h1,h2⟩:=h; exact⟨x,h1,.inr h2⟩
theorem q4S (A B:List (List Nat × List Nat)):blks (A++B)=blks A++blks B:=by
 induction A with
 | nil=>rfl
 | cons x l ih=>obtain⟨L,C⟩:=x; simp [blks,ih]
theorem q4O (A B:List (List Nat × List Nat)):claims (A++B)=claims A++claims B:=by
 induction A with
 | nil=>rfl
 | cons x l ih=>obtain⟨L,C⟩:=x; simp [claims,ih]
theorem AllI.lt {F:Nat→Prop}{w:World}:∀ {l:List It} {LC:List (List Nat × List Nat)},AllI F w l LC→∀ b∈blks LC,b < w.heap.size
 | [],[],_,b,hb=>by simp [blks] at hb
 | i :: _,(L,C) :: _,h,b,hb=>by
  simp only [blks] at hb
  rcases List.mem_append.1 hb with hb | hb
  ·exact i.lt h.1 b hb
  ·exact AllI.lt h.2 b hb
 | [],_ :: _,h,_,_=>h.elim
 | _ :: _,[],h,_,_=>h.elim
theorem AllI.trans {F F' : Nat→Prop}{w w' : World}(hm:∀ b,F b→F' b)(hf:∀ b,F b→b < w.heap.size→w'.heap[b]? = w.heap[b]?):∀ {l:List It} {LC:List (List Nat × List Nat)},AllI F w l LC→(∀ b∈blks LC,w'.heap[b]? = w.heap[b]?)→AllI F' w' l LC
 | [],[],_,_=>trivial
 | i :: _,(L,C) :: _,h,hb=>⟨i.mono (i.frame h.1 hf fun b hq=>hb b (by simp only [blks]; exact List.mem_append.2 (.inl hq))) hm,AllI.trans hm hf h.2 fun b hq=>hb b (by simp only [blks]; exact List.mem_append.2 (.inr hq))⟩
 | [],_ :: _,h,_=>h.elim
 | _ :: _,[],h,_=>h.elim
theorem AllI.split {F:Nat→Prop}{w:World}:∀ {l:List It} {LC:List (List Nat × List Nat)} {i:Nat} {o:It},AllI F w l LC→l[i]? = some o→∃ a b A L C B,l=a++o :: b∧a.length=i∧LC=A++(L,C) :: B∧AllI F w a A∧o.p L C F w∧AllI F w b B
 | i :: l,(L,C) :: LC,0,_,h,e=>by simp at e; subst e; exact⟨[],l,[],L,C,LC,rfl,rfl,rfl,trivial,h.1,h.2⟩
 | i :: l,(L,C) :: LC,n+1,_,h,e=>by
  obtain⟨a,b,A,L',C',B,rfl,rfl,rfl,h1,h2,h3⟩:=AllI.split h.2 (i:=n) (by simpa using e)
  exact⟨i :: a,b,(L,C) :: A,L',C',B,rfl,by simp,rfl,⟨h.1,h1⟩,h2,h3⟩
 | [],_ :: _,_,_,h,_=>h.elim
 | _ :: _,[],_,_,h,_=>h.elim
 | [],[],_,_,_,e=>by simp at e
theorem AllI.app {F:Nat→Prop}{w:World}:∀ {l m:List It} {A B:List (List Nat × List Nat)},AllI F w l A→AllI F w m B→AllI F w (l++m) (A++B)
 | [],_,[],_,_,h=>h
 | _ :: _,_,(_,_) :: _,_,h1,h2=>⟨h1.1,AllI.app h1.2 h2⟩
 | [],_,_ :: _,_,h,_=>h.elim
 | _ :: _,_,[],_,h,_=>h.elim
theorem AllI.unapp {F:Nat→Prop}{w:World}:∀ {l m:List It} {LC:List (List Nat × List Nat)},AllI F w (l++m) LC→∃ A B,LC=A++B∧AllI F w l A∧AllI F w m B
 | [],_,LC,h=>⟨[],LC,rfl,trivial,h⟩
 | _ :: _,_,(L,C) :: LC,h=>by
  obtain⟨A,B,rfl,h1,h2⟩:=AllI.unapp h.2
  exact⟨(L,C) :: A,B,rfl,⟨h.1,h1⟩,h2⟩
 | _ :: _,_,[],h=>h.elim
theorem j1N {B:List (List Nat × List Nat)}(h:(blks B).Nodup):(claims B).Nodup:=by
 induction B with
 | nil=>exact List.nodup_nil
 | cons x l ih=>
  obtain⟨L,C⟩:=x
  simp only [blks,claims,List.nodup_append,List.mem_append] at h ⊢
  exact⟨h.1.2.1,ih h.2.1,fun a ha b hb=>h.2.2 a (.inr ha) b (q4N hb)⟩
def HL (F0:Nat→Prop)(M:List Nat)(w0 w:World)(fr:List Pr)(ow:List It):Prop:=
 ∃ Fr LC,Chg (·∈M) w0 w∧AllP (fz F0 w0 M (Fr++claims LC)) w fr∧AllI (fz F0 w0 M (Fr++claims LC)) w ow LC∧(Fr++blks LC).Nodup ∧
  (∀ q∈Fr,q < w.heap.size)∧∀ q∈Fr++blks LC,q∈M∨w0.heap.size≤q
section
variable {F0:Nat→Prop}{M:List Nat}{w0 w w' : World}{fr:List Pr}{ow:List It}
theorem HL.chg (H:HL F0 M w0 w fr ow):Chg (·∈M) w0 w:=by obtain⟨Fr,LC,h,_⟩:=H; exact h
theorem HL.ext0 (H:HL F0 [] w0 w fr ow):Ext w0 w:=H.chg.mono fun _ _ h=>by simp at h
theorem z2i {Fr Fr' : List Nat}(h:∀ q∈Fr,q∈Fr'):∀ b,fz F0 w0 M Fr b→fz F0 w0 M Fr' b:=fun _ hb=>hb.imp id (h _)
theorem HL.start (F0:Nat→Prop)(w:World):HL F0 [] w w [] []:=⟨[],[],Chg.refl w,trivial,trivial,by simp [blks],by simp,by simp [blks]⟩
theorem HL.argR {α:Type}[Rep α]{x:α}{cs:List Value}(H:HL F0 [] w w fr ow)(h:rd F0 w x cs):HL F0 [] w w (fr++[Pr.R x cs]) ow:=by
 obtain⟨Fr,LC,h1,h2,h3⟩:=H
 exact⟨Fr,LC,h1,h2.app ⟨Rep.mono (Rep.bound h) fun b hb=>.inl ⟨hb.1,hb.2,by simp⟩,trivial⟩,h3⟩
theorem HL.argS {α:Type}[Rep α]{xs:List α}{v:Value}(H:HL F0 [] w w fr ow)(h:rdS F0 w xs v):HL F0 [] w w (fr++[Pr.S xs v]) ow:=by
 obtain⟨Fr,LC,h1,h2,h3⟩:=H
 exact⟨Fr,LC,h1,h2.app ⟨h.bound.mono fun b hb=>.inl ⟨hb.1,hb.2,by simp⟩,trivial⟩,h3⟩
theorem HL.more {ps:List Pr}(H:HL F0 M w0 w fr ow){i:Nat}{p:Pr}(hi:fr[i]? = some p)(h:∀ F,p.p F w→AllP F w ps):HL F0 M w0 w (fr++ps) ow:=by
 obtain⟨Fr,LC,h1,h2,h3⟩:=H
 exact⟨Fr,LC,h1,h2.app (h _ (h2.get hi)),h3⟩
theorem HL.keep (n m:Nat)(H:HL F0 M w0 w fr ow):HL F0 M w0 w (fr.take n) (ow.take m):=by
 obtain⟨Fr,LC,h1,h2,h3,h4,h5,h6⟩:=H
 rw [← List.take_append_drop m ow] at h3
 obtain⟨A,B,rfl,h3,h3'⟩:=h3.unapp
 have hlt:=h3'.lt
 rw [q4S] at h4 h6
 have hsub:∀ q,q∈Fr++claims (A++B)→q∈(Fr++claims B)++claims A:=fun q hq=>by
  rw [q4O] at hq; simp only [List.mem_append] at hq ⊢; rcases hq with h | h | h<;>simp [h]
 refine⟨Fr++claims B,A,h1,(h2.keep n).mono (z2i hsub),AllI.trans (z2i hsub) (fun _ _ _=>rfl) h3 fun _ _=>rfl,?_,fun q hq=>?_,fun q hq=>h6 q ?_⟩
 ·simp only [List.nodup_append,List.mem_append] at h4 ⊢
  obtain⟨n1,⟨n2,n3,n4⟩,n5⟩:=h4
  refine⟨⟨n1,j1N n3,fun a ha b hb=>n5 a ha b (.inr (q4N hb))⟩,n2,fun a ha b hb=>?_⟩
  rcases ha with ha | ha
  ·exact n5 a ha b (.inl hb)
  ·exact fun e=>n4 b hb a (q4N ha) e.symm
 ·rcases List.mem_append.1 hq with hq | hq
  ·exact h5 q hq
  ·exact hlt q (q4N hq)
 ·simp only [List.mem_append] at hq ⊢
  rcases hq with (h | h) | h
  ·exact .inl h
  ·exact .inr (.inr (q4N h))
  ·exact .inr (.inl h)
theorem j9D {Fr:List Nat}{LC:List (List Nat × List Nat)}(h4:(Fr++blks LC).Nodup)(h6:∀ q∈Fr++blks LC,q∈M∨w0.heap.size≤q){A B:List (List Nat × List Nat)}{L C:List Nat}(hLC:LC=A++(L,C) :: B){q:Nat}(hq:q∈L):¬ fz F0 w0 M (Fr++claims LC) q:=by
 subst hLC
 have hqb:q∈blks (A++(L,C) :: B):=by rw [q4S]; simp [blks,hq]
 rintro (⟨_,h1,h2⟩ | h)
 ·rcases h6 q (by simp only [List.mem_append]; exact .inr hqb) with h | h
  ·exact h2 h
  ·omega
 ·rw [q4S] at h4
  simp only [blks,List.nodup_append,List.mem_append] at h4
  simp only [q4O,claims,List.mem_append] at h
  obtain⟨_,⟨_,⟨⟨_,_,n1⟩,_,n2⟩,n3⟩,n4⟩:=h4
  rcases h with h | h | h | h
  ·exact n4 q h q (.inr (.inl (.inl hq))) rfl
  ·exact n3 q (q4N h) q (.inl (.inl hq)) rfl
  ·exact n1 q hq q h rfl
  ·exact n2 q (.inl hq) q (q4N h) rfl
theorem HL.upd {i:Nat}{o:It}(H:HL F0 M w0 w fr ow)(hi:ow[i]? = some o) :
  ∃ F L C,o.p L C F w∧(L++C).Nodup∧(∀ q∈C,F q) ∧
   ∀ {w' : World} {o' : It} {L' C' : List Nat},Chg (·∈L) w w'→(∀ F',(∀ b,F b→F' b)→o'.p L' C' F' w')→(L'++C').Nodup→(∀ q∈L',q∈L∨w.heap.size≤q)→(∀ q∈C',q∈C∨q∈L∨w.heap.size≤q) →
    HL F0 M w0 w' fr (ow.set i o'):=by
 obtain⟨Fr,LC,h1,h2,h3,h4,h5,h6⟩:=H
 have hlt:=h3.lt
 obtain⟨a,b,A,L,C,B,rfl,rfl,rfl,g1,g2,g3⟩:=h3.split hi
 have hnf:∀ q∈L,¬ fz F0 w0 M (Fr++claims (A++(L,C) :: B)) q:=fun q hq=>j9D h4 h6 rfl hq
 have hb:blks (A++(L,C) :: B)=blks A++((L++C)++blks B):=by rw [q4S]; rfl
 have hcl:claims (A++(L,C) :: B)=claims A++(C++claims B):=by rw [q4O]; rfl
 rw [hb] at h4 h6 hlt
 have h4':=h4
 simp only [List.nodup_append,List.mem_append] at h4'
 obtain⟨n1,⟨n2,⟨⟨n3,n4,n5⟩,n6,n7⟩,n8⟩,n9⟩:=h4'
 refine⟨_,L,C,g2,by rw [List.nodup_append]; exact⟨n3,n4,n5⟩,fun q hq=>.inr (by rw [hcl]; simp [hq]),fun {w' o' L' C'} hc ho hN hL hC=>?_⟩
 have hF:∀ q,fz F0 w0 M (Fr++claims (A++(L,C) :: B)) q→q < w.heap.size→w'.heap[q]? = w.heap[q]?:=fun q hq hl=>hc.block q hl fun hm=>hnf q hm hq
 have hsub:∀ q,fz F0 w0 M (Fr++claims (A++(L,C) :: B)) q→fz F0 w0 M ((Fr++C.filter (fun q=>!C'.contains q))++claims (A++(L',C') :: B)) q:=by
  refine z2i fun q hq=>?_
  rw [hcl] at hq
  rw [q4O]
  simp only [claims,List.mem_append,List.mem_filter] at hq ⊢
  rcases hq with h | h | h | h
  ·simp [h]
  ·simp [h]
  ·by_cases hc' : q∈C'
   ·simp [hc']
   ·left; right; exact⟨h,by simp [hc']⟩
  ·simp [h]
 have hA:∀ q∈blks A,w'.heap[q]? = w.heap[q]?:=fun q hq=>hc.block q (hlt q (by simp [hq])) fun hm=>n8 q hq q (.inl (.inl hm)) rfl
 have hB:∀ q∈blks B,w'.heap[q]? = w.heap[q]?:=fun q hq=>hc.block q (hlt q (by simp [hq])) fun hm=>n7 q (.inl hm) q hq rfl
 refine⟨Fr++C.filter (fun q=>!C'.contains q),A++(L',C') :: B,?_,?_,?_,?_,?_,?_⟩
 ·refine⟨hc.os.trans h1.os,hc.tape.trans h1.tape,hc.output.trans h1.output,Nat.le_trans h1.size hc.size,fun k hk hm=>?_⟩
  refine (hc.block k (Nat.lt_of_lt_of_le hk h1.size) fun hl=>?_).trans (h1.block k hk hm)
  rcases h6 k (by simp [hl]) with h | h
  ·exact hm h
  ·omega
 ·exact (h2.frame hF).mono hsub
 ·rw [List.set_append_right _ _ (Nat.le_refl _),Nat.sub_self,List.set_cons_zero]
  exact AllI.app (AllI.trans hsub hF g1 hA) ⟨ho _ hsub,AllI.trans hsub hF g3 hB⟩
 ·rw [q4S]
  simp only [blks,List.nodup_append,List.mem_append,List.mem_filter]
  rw [List.nodup_append] at hN
  have out:∀ q,q∈L'∨q∈C'→q∈L∨q∈C∨w.heap.size≤q:=fun q hq=>by
   rcases hq with hq | hq
   ·rcases hL q hq with h | h
    ·exact .inl h
    ·exact .inr (.inr h)
   ·rcases hC q hq with h | h | h
    ·exact .inr (.inl h)
    ·exact .inl h
    ·exact .inr (.inr h)
  refine⟨⟨n1,n4.filter _,fun x hx y hy=>n9 x hx y (.inr (.inl (.inr hy.1)))⟩,⟨n2,⟨hN,n6,fun x hx y hy e=>?_⟩,fun x hx y hy e=>?_⟩,fun x hx y hy e=>?_⟩
  ·subst e
   rcases out x hx with h | h | h
   ·exact n7 x (.inl h) x hy rfl
   ·exact n7 x (.inr h) x hy rfl
   ·have:=hlt x (by simp [hy]); omega
  ·subst e
   rcases hy with hy | hy
   ·rcases out x hy with h | h | h
    ·exact n8 x hx x (.inl (.inl h)) rfl
    ·exact n8 x hx x (.inl (.inr h)) rfl
    ·have:=hlt x (by simp [hx]); omega
   ·exact n8 x hx x (.inr hy) rfl
  ·subst e
   rcases hx with hx | hx
   ·rcases hy with hy | hy | hy
    ·exact n9 x hx x (.inl hy) rfl
    ·rcases out x hy with h | h | h
     ·exact n9 x hx x (.inr (.inl (.inl h))) rfl
     ·exact n9 x hx x (.inr (.inl (.inr h))) rfl
     ·have:=h5 x hx; omega
    ·exact n9 x hx x (.inr (.inr hy)) rfl
   ·obtain⟨hx,hx'⟩:=hx
    rcases hy with hy | hy | hy
    ·exact n8 x hy x (.inl (.inr hx)) rfl
    ·rcases hy with hy | hy
     ·rcases hL x hy with h | h
      ·exact n5 x h x hx rfl
      ·have:=hlt x (by simp [hx]); omega
     ·simp [hy] at hx'
    ·exact n7 x (.inr hx) x hy rfl
 ·intro q hq
  rcases List.mem_append.1 hq with hq | hq
  ·exact Nat.lt_of_lt_of_le (h5 q hq) hc.size
  ·exact Nat.lt_of_lt_of_le (hlt q (by simp [(List.mem_filter.1 hq).1])) hc.size
 ·intro q hq
  rw [q4S] at hq
  simp only [blks,List.mem_append,List.mem_filter] at hq
  have:=h1.size
  rcases hq with (hq | hq) | hq | (hq | hq) | hq
  ·exact h6 q (by simp [hq])
  ·exact h6 q (by simp [hq.1])
  ·exact h6 q (by simp [hq])
  ·rcases hL q hq with h | h
   ·exact h6 q (by simp [h])
   ·exact .inr (by omega)
  ·rcases hC q hq with h | h | h
   ·exact h6 q (by simp [h])
   ·exact h6 q (by simp [h])
   ·exact .inr (by omega)
  ·exact h6 q (by simp [hq])
theorem HL.comp {F:Nat→Prop}{Fr:List Nat}{LC:List (List Nat × List Nat)}(h1:Chg (·∈M) w0 w)(h2:AllP (fz F0 w0 M (Fr++claims LC)) w fr)(h3:AllI (fz F0 w0 M (Fr++claims LC)) w ow LC)(h4:(Fr++blks LC).Nodup)
  (h5:∀ q∈Fr,q < w.heap.size) (h6:∀ q∈Fr++blks LC,q∈M∨w0.heap.size≤q) (hF:∀ q,F q→q < w.heap.size→fz F0 w0 M (Fr++claims LC) q) {fr' : List Pr} {ow' : List It} (H:HL F [] w w' fr' ow'):HL F0 M w0 w' (fr++fr') (ow++ow'):=by
 obtain⟨Fr2,LC2,k1,k2,k3,k4,k5,k6⟩:=H
 have hlt:=h3.lt
 have k6' : ∀ q∈Fr2++blks LC2,w.heap.size≤q:=fun q hq=>by
   rcases k6 q hq with h | h; · simp at h
   ·exact h
 have e1:Ext w w':=k1.mono fun _ _ h=>by simp at h
 have s1:∀ q,fz F0 w0 M (Fr++claims LC) q→fz F0 w0 M ((Fr++Fr2)++claims (LC++LC2)) q:=z2i fun q hq=>by
  rw [q4O]; simp only [List.mem_append] at hq ⊢; rcases hq with h | h<;>simp [h]
 have s2:∀ q,fz F w [] (Fr2++claims LC2) q→fz F0 w0 M ((Fr++Fr2)++claims (LC++LC2)) q:=fun q hq=>by
  rcases hq with ⟨g1,g2,_⟩ | h
  ·exact s1 q (hF q g1 g2)
  ·exact .inr (by rw [q4O]; simp only [List.mem_append] at h ⊢; rcases h with h | h<;>simp [h])
 have fr1:∀ q,fz F0 w0 M (Fr++claims LC) q→q < w.heap.size→w'.heap[q]? = w.heap[q]?:=fun q _ hl=>e1.block q hl id
 refine⟨Fr++Fr2,LC++LC2,h1.trans_ext e1,((h2.frame fr1).mono s1).app (k2.mono s2),AllI.app (AllI.trans s1 fr1 h3 fun q hq=>e1.block q (hlt q hq) id) (AllI.trans s2 (fun _ _ _=>rfl) k3 fun _ _=>rfl),?_,?_,?_⟩
 ·rw [q4S]
  simp only [List.nodup_append,List.mem_append] at h4 k4 ⊢
  refine⟨⟨h4.1,k4.1,fun a ha b hb e=>?_⟩,⟨h4.2.1,k4.2.1,fun a ha b hb e=>?_⟩,fun a ha b hb e=>?_⟩
  ·subst e; have:=h5 a ha; have:=k6' a (by simp [hb]); omega
  ·subst e; have:=hlt a ha; have:=k6' a (by simp [hb]); omega
  ·subst e
   rcases ha with ha | ha<;>rcases hb with hb | hb
   ·exact h4.2.2 a ha a hb rfl
   ·have:=h5 a ha; have:=k6' a (by simp [hb]); omega
   ·have:=hlt a hb; have:=k6' a (by simp [ha]); omega
   ·exact k4.2.2 a ha a hb rfl
 ·intro q hq
  rcases List.mem_append.1 hq with h | h
  ·exact Nat.lt_of_lt_of_le (h5 q h) e1.size
  ·exact k5 q h
 ·intro q hq
  rw [q4S] at hq
  have hs:=h1.size
  simp only [List.mem_append] at hq
  rcases hq with (h | h) | (h | h)
  ·exact h6 q (by simp [h])
  ·exact .inr (Nat.le_trans hs (k6' q (by simp [h])))
  ·exact h6 q (by simp [h])
  ·exact .inr (Nat.le_trans hs (k6' q (by simp [h])))
theorem HL.call (H:HL F0 M w0 w fr ow):∃ F,AllP F w fr∧∀ {w' : World} {fr' : List Pr} {ow' : List It},HL F [] w w' fr' ow'→HL F0 M w0 w' (fr++fr') (ow++ow'):=by
 obtain⟨Fr,LC,h1,h2,h3,h4,h5,h6⟩:=H
 exact⟨_,h2,fun H=>HL.comp h1 h2 h3 h4 h5 h6 (fun _ h _=>h) H⟩
abbrev Lt (w:World):Nat→Prop:=fun q=>q < w.heap.size
def z7K:List It→Prop
 | []=>True
 | o :: l=>(∀ L C F F' w,o.p L C F w→o.p L C F' w)∧z7K l
theorem AllI.free {F F' : Nat→Prop}{w:World}:∀ {l:List It} {LC:List (List Nat × List Nat)},z7K l→AllI F w l LC→AllI F' w l LC
 | [],[],_,_=>trivial
 | _ :: _,(_,_) :: _,hf,h=>⟨hf.1 _ _ _ _ _ h.1,AllI.free hf.2 h.2⟩
 | [],_ :: _,_,h=>h.elim
 | _ :: _,[],_,h=>h.elim
theorem HL.callA {F:Nat→Prop}{ow' : List It}(H:HL F0 M w0 w fr ow)(H' : HL F [] w w' [] ow')(hf:z7K ow'):HL F0 M w0 w' fr (ow++ow'):=by
 obtain⟨Fr,LC,h1,h2,h3,h4,h5,h6⟩:=H
 obtain⟨Fr2,LC2,k1,k2,k3,k4⟩:=H'
 have:=HL.comp h1 h2 h3 h4 h5 h6 (F:=fun _=>False) (fun _ h _=>h.elim) (fr':=[]) (ow':=ow') ⟨Fr2,LC2,k1,trivial,k3.free hf,k4⟩
 rwa [List.append_nil] at this
theorem HL.ext (H:HL F0 M w0 w fr ow)(hE:Ext w w'):HL F0 M w0 w' fr ow:=by
 have:=H.callA (F:=fun _=>False) (ow':=[]) ⟨[],[],hE.mono fun _ _ h=>h.elim,trivial,trivial,by simp [blks],by simp,by simp [blks]⟩ trivial
 rwa [List.append_nil] at this
theorem HL.news {ow' : List It}{LC' : List (List Nat × List Nat)}(H:HL F0 M w0 w fr ow)(hE:Ext w w')(hI:AllI (fun _=>False) w' ow' LC')(hf:z7K ow')(hN:(blks LC').Nodup)(hn:∀ q∈blks LC',w.heap.size≤q):HL F0 M w0 w' fr (ow++ow'):=
 H.callA (F:=fun _=>False) ⟨[],LC',hE.mono fun _ _ h=>h.elim,trivial,hI.free hf,by simpa using hN,by simp,fun q hq=>.inr (hn q (by simpa using hq))⟩ hf
theorem HL.new1 {o:It}{L C:List Nat}(H:HL F0 M w0 w fr ow)(hE:Ext w w')(h:∀ F,o.p L C F w')(hN:(L++C).Nodup)(hn:∀ q∈L++C,w.heap.size≤q)(hf:∀ L C F F' w,o.p L C F w→o.p L C F' w):HL F0 M w0 w' fr (ow++[o]):=
 H.news (LC':=[(L,C)]) hE ⟨h _,trivial⟩ ⟨hf,trivial⟩ (by simpa [blks] using hN) (by simpa [blks] using hn)
end
end Go.E
namespace Go.E
open Go
open Rep (rd)
open Sep (own)
section
variable {F0:Nat→Prop}{M:List Nat}{w0 w w' : World}{fr:List Pr}{ow:List It}{i j:Nat}{e:TypeId}{v:Value}{cs:List Value}
theorem rdL.lt {α:Type}[Rep α]{F:Nat→Prop}{xs:List α}(h:rdL F w xs cs):rdL (Lt w) w xs cs:=h.bound.mono fun _ hb=>hb.2
theorem HL.rP {p:Pr}(H:HL F0 M w0 w fr ow)(hi:fr[i]? = some p):∃ F,p.p F w:=by
 obtain⟨Fr,LC,h1,h2,h3⟩:=H; exact⟨_,h2.get hi⟩
theorem HL.rR {α:Type}[Rep α]{x:α}(H:HL F0 M w0 w fr ow)(hi:fr[i]? = some (Pr.R x cs)):rd (Lt w) w x cs:=by
 obtain⟨F,h⟩:=H.rP hi; exact Rep.mono (Rep.bound h) fun _ hb=>hb.2
theorem HL.rS {α:Type}[Rep α]{xs:List α}(H:HL F0 M w0 w fr ow)(hi:fr[i]? = some (Pr.S xs v)):rdS (Lt w) w xs v:=by
 obtain⟨F,h⟩:=H.rP hi; exact (rdS.bound h).mono fun _ hb=>hb.2
theorem HL.rA {b o:Nat}(H:HL F0 M w0 w fr ow)(hi:fr[i]? = some (Pr.A b o cs)):At w b o cs:=by
 obtain⟨F,h⟩:=H.rP hi; exact h.2
theorem HL.rI {o:It}(H:HL F0 M w0 w fr ow)(hi:ow[i]? = some o):∃ F L C,o.p L C F w∧(L++C).Nodup:=by
 obtain⟨F,L,C,h,hN,_⟩:=H.upd hi; exact⟨F,L,C,h,hN⟩
theorem HL.rB {b:Nat}{T:TypeId}(H:HL F0 M w0 w fr ow)(hi:ow[i]? = some (It.B b T cs)):Blk w b T cs:=by
 obtain⟨F,L,C,h,_⟩:=H.rI hi; exact h.2.2
theorem HL.rO {α:Type}[Sep α]{xs:List α}(H:HL F0 M w0 w fr ow)(hi:ow[i]? = some (It.O e xs v)):rdS (Lt w) w xs v:=by
 obtain⟨F,L,C,⟨cs,h1,h3⟩,_⟩:=H.rI hi
 exact h1.rd (h3.rd.mono fun b hb=>h3.lt b hb) h1.lst
theorem HL.rG {α:Type}[Rep α]{xs:List α}(H:HL F0 M w0 w fr ow)(hi:ow[i]? = some (It.G e xs v)):rdS (Lt w) w xs v:=by
 obtain⟨F,L,C,⟨cs,h1,h2',h3⟩,_⟩:=H.rI hi
 exact h1.rd h3.lt h1.lst
theorem rdS.bd {α:Type}[Rep α]{S:Nat→Prop}{xs:List α}(h:rdS S w xs v):(xs.length:Int)≤9223372036854775807:=by
 obtain⟨A,c,rfl,h1,h2⟩:=h.form
 have:c≤9223372036854775807:=h2
 omega
theorem rdS.I {α:Type}[Rep α]{S:Nat→Prop}{xs:List α}(h:rdS S w xs v):I64 (xs.length:Int):=⟨by omega,h.bd⟩
theorem HL.ixS {α:Type}[Rep α]{xs:List α}{k:Nat}{x:α}(H:HL F0 M w0 w fr ow)(hi:fr[i]? = some (Pr.S xs v))(hx:xs[k]? = some x) :
  ∃ b o c cs,v = .slice (some ⟨b,o,none⟩) xs.length c∧rd (Lt w) w x cs∧HL F0 M w0 w (fr++[Pr.A b (o+k*Rep.sz α) cs,Pr.R x cs]) ow:=by
 obtain⟨Fr,LC,h1,h2,h3⟩:=H
 have hS:=h2.get hi
 obtain⟨A,c,rfl,_,_⟩:=rdS.form hS
 have hk:k < xs.length:=(List.getElem?_eq_some_iff.1 hx).1
 obtain⟨b,o,cs,rfl,hb,hr,hat⟩:=rdS.elem hS hk
 have hxe:xs[k]=x:=by rw [List.getElem?_eq_getElem hk] at hx; exact Option.some.inj hx
 rw [hxe] at hr
 exact⟨b,o,c,cs,rfl,Rep.mono (Rep.bound hr) fun _ hb=>hb.2,Fr,LC,h1,h2.app ⟨⟨hb,hat⟩,hr,trivial⟩,h3⟩
theorem Own.slice {k m n:Nat}(h:Own w 0 e k v m cs)(hm:n < m):∃ b c,v = .slice (some ⟨b,0,none⟩) m c∧v.ownBlock=some b:=by
 rcases h.2 with ⟨_,h0⟩ | ⟨g,cap,cur,rfl,_⟩
 ·omega
 ·exact⟨g,cap,rfl,rfl⟩
theorem Own.at {k m:Nat}{b:Nat}(h:Own w 0 e k v m cs)(hb:v.ownBlock=some b):At w b 0 cs:=by
 rcases h.2 with ⟨rfl,_⟩ | ⟨g,cap,cur,rfl,_,hg,hn,hc,hs,ht⟩
 ·cases hb
 ·cases hb
  intro j u hu
  rw [cell_of_row w g (0+j) cur e (0,0) hg,Nat.zero_add]
  rw [← ht,List.getElem?_take] at hu
  split at hu
  ·simpa using hu
  ·cases hu
theorem HL.ptO {α:Type}[Sep α]{xs:List α}{k:Nat}{x:α}(H:HL F0 M w0 w fr ow)(hi:ow[i]? = some (It.O e xs v))(hx:xs[k]? = some x):∃ b c,v = .slice (some ⟨b,0,none⟩) xs.length c∧v.ownBlock=some b:=by
 obtain⟨F,L,C,⟨cs,h1,h3⟩,_⟩:=H.rI hi
 exact (h1.own (List.getElem?_eq_some_iff.1 hx).1).1.slice (List.getElem?_eq_some_iff.1 hx).1
theorem HL.ptG {α:Type}[Rep α]{xs:List α}{k:Nat}{x:α}(H:HL F0 M w0 w fr ow)(hi:ow[i]? = some (It.G e xs v))(hx:xs[k]? = some x):∃ b c,v = .slice (some ⟨b,0,none⟩) xs.length c∧v.ownBlock=some b:=by
 obtain⟨F,L,C,⟨cs,h1,h3⟩,_⟩:=H.rI hi
 exact (h1.own (List.getElem?_eq_some_iff.1 hx).1).1.slice (List.getElem?_eq_some_iff.1 hx).1
theorem HL.elO {α:Type}[Sep α]{xs:List α}{k:Nat}{x:α}{b:Nat}(H:HL F0 M w0 w fr ow)(hi:ow[i]? = some (It.O e xs v))(hx:xs[k]? = some x)(hb:v.ownBlock=some b) :
  ∃ cs,At w b (0+k*Rep.sz α) cs∧rd (Lt w) w x cs∧HL F0 M w0 w (fr++[Pr.R x cs]) ow:=by
 obtain⟨Fr,LC,h1,h2,h3,h4⟩:=H
 obtain⟨a,l,A,L,C,B,rfl,rfl,rfl,g1,⟨cells,q0,q3⟩,g3⟩:=h3.split hi
 have hk:k < xs.length:=(List.getElem?_eq_some_iff.1 hx).1
 have q1:=(q0.own hk).1
 obtain⟨cs,hr,hat⟩:=q3.rd.get k hk
 have hxe:xs[k]=x:=by rw [List.getElem?_eq_getElem hk] at hx; exact Option.some.inj hx
 rw [hxe] at hr
 refine⟨cs,(q1.at hb).sub _ cs hat,Rep.mono (Rep.bound hr) fun _ hb=>hb.2,Fr,A++(L,C) :: B,h1,h2.app ⟨Rep.mono hr fun q hq=>.inr (by simp [q4O,claims,hq]),trivial⟩,h3,h4⟩
theorem HL.turn {o o' : It}(H:HL F0 M w0 w fr ow)(hi:ow[i]? = some o)(h:∀ F L C,o.p L C F w→(L++C).Nodup→∃ L' C',(∀ F',(∀ b,F b→F' b)→o'.p L' C' F' w)∧(L'++C').Nodup∧(∀ q∈L',q∈L)∧∀ q∈C',q∈C∨q∈L):HL F0 M w0 w fr (ow.set i o'):=by
 obtain⟨F,L,C,h1,h2,_,h3⟩:=H.upd hi
 obtain⟨L',C',k1,k2,k3,k4⟩:=h F L C h1 h2
 exact h3 (Chg.refl w) k1 k2 (fun q hq=>.inl (k3 q hq)) fun q hq=>(k4 q hq).imp id .inl
theorem HL.frz {o:It}{ps:List Pr}(H:HL F0 M w0 w fr ow)(hi:ow[i]? = some o)(h:∀ F L C,o.p L C F w→(∀ q∈L++C,F q)→AllP F w ps):HL F0 M w0 w (fr++ps) (ow.set i It.emp):=by
 obtain⟨Fr,LC,h1,h2,h3,h4,h5,h6⟩:=H
 have hlt:=h3.lt
 obtain⟨a,b,A,L,C,B,rfl,rfl,rfl,g1,g2,g3⟩:=h3.split hi
 have hsub:∀ q,fz F0 w0 M (Fr++claims (A++(L,C) :: B)) q→fz F0 w0 M ((Fr++(L++C))++claims (A++([],[]) :: B)) q:=z2i fun q hq=>by
  rw [q4O] at hq ⊢
  simp only [claims,List.mem_append,List.nil_append] at hq ⊢
  rcases hq with h | h | h | h<;>simp [h]
 have hb:blks (A++(L,C) :: B)=blks A++((L++C)++blks B):=by rw [q4S]; rfl
 have hb' : blks (A++([],[]) :: B)=blks A++blks B:=by rw [q4S]; rfl
 rw [hb] at h4 h6 hlt
 refine⟨Fr++(L++C),A++([],[]) :: B,h1,(h2.mono hsub).app (h _ L C (o.mono g2 hsub) fun q hq=>.inr ?_),?_,?_,?_,?_⟩
 ·simp only [List.mem_append] at hq ⊢; exact .inl (.inr hq)
 ·rw [List.set_append_right _ _ (Nat.le_refl _),Nat.sub_self,List.set_cons_zero]
  exact AllI.app (AllI.trans hsub (fun _ _ _=>rfl) g1 fun _ _=>rfl) ⟨⟨rfl,rfl⟩,AllI.trans hsub (fun _ _ _=>rfl) g3 fun _ _=>rfl⟩
 ·rw [hb']
  simp only [List.nodup_append,List.mem_append] at h4 ⊢
  obtain⟨n1,⟨n2,⟨⟨n3,n4,n5⟩,n6,n7⟩,n8⟩,n9⟩:=h4
  refine⟨⟨n1,⟨n3,n4,n5⟩,fun x hx y hy=>n9 x hx y (.inr (.inl hy))⟩,⟨n2,n6,fun x hx y hy=>n8 x hx y (.inr hy)⟩,fun x hx y hy e=>?_⟩
  subst e
  rcases hx with hx | hx<;>rcases hy with hy | hy
  ·exact n9 x hx x (.inl hy) rfl
  ·exact n9 x hx x (.inr (.inr hy)) rfl
  ·exact n8 x hy x (.inl hx) rfl
  ·exact n7 x hx x hy rfl
 ·intro q hq
  rcases List.mem_append.1 hq with hq | hq
  ·exact h5 q hq
  ·exact hlt q (by simp only [List.mem_append] at hq ⊢; exact .inr (.inl hq))
 ·intro q hq
  rw [hb'] at hq
  refine h6 q ?_
  simp only [List.mem_append] at hq ⊢
  rcases hq with (h | h | h) | (h | h)<;>simp [h]
theorem HL.frzO {α:Type}[Sep α]{xs:List α}(H:HL F0 M w0 w fr ow)(hi:ow[i]? = some (It.O e xs v)):HL F0 M w0 w (fr++[Pr.S xs v]) (ow.set i It.emp):=
 H.frz hi fun _ _ _ ⟨_,h1,h3⟩ hF=>⟨h1.rd (h3.rd.mono fun b hb=>hF b (List.mem_append.2 (.inr hb))) fun b hb=>hF b (List.mem_append.2 (.inl hb)),trivial⟩
theorem HL.frzG {α:Type}[Rep α]{xs:List α}(H:HL F0 M w0 w fr ow)(hi:ow[i]? = some (It.G e xs v)):HL F0 M w0 w (fr++[Pr.S xs v]) (ow.set i It.emp):=
 H.frz hi fun _ _ _ ⟨_,h1,_,h3⟩ hF=>⟨h1.rd h3 fun b hb=>hF b (List.mem_append.2 (.inl hb)),trivial⟩
theorem HL.drop {o:It}(H:HL F0 M w0 w fr ow)(hi:ow[i]? = some o):HL F0 M w0 w fr (ow.set i It.emp):=
 H.turn hi fun _ _ _ _ _=>⟨[],[],fun _ _=>⟨rfl,rfl⟩,by simp,by simp,by simp⟩
theorem HL.nil {α:Type}[Sep α](e:TypeId)(H:HL F0 M w0 w fr ow):HL F0 M w0 w fr (ow++[It.O e ([]:List α) (.slice none 0 0)]):=
 H.new1 (L:=[]) (C:=[]) (Ext.refl w) (fun _=>⟨[],.inr ⟨⟨_,rfl⟩,rfl,rfl,rfl⟩,rfl,rfl⟩) (by simp) (by simp) fun _ _ _ _ _ h=>h
theorem HL.nilG {α:Type}[Rep α](e:TypeId)(H:HL F0 M w0 w fr ow):HL F0 M w0 w fr (ow++[It.G e ([]:List α) (.slice none 0 0)]):=by
 have H:=H.new1 (o:=It.emp) (L:=[]) (C:=[]) (Ext.refl w) (fun _=>⟨rfl,rfl⟩) (by simp) (by simp) fun _ _ _ _ _ h=>h
 have:=H.turn (i:=ow.length) (o:=It.emp) (o':=It.G e ([]:List α) (.slice none 0 0)) (by simp) fun F L C _ _=>⟨[],[],fun F' _=>⟨[],.inr ⟨⟨_,rfl⟩,rfl,rfl,rfl⟩,rfl,rfl⟩,by simp,by simp,by simp⟩
 rwa [List.set_append_right _ _ (Nat.le_refl _),Nat.sub_self,List.set_cons_zero] at this
theorem HL.toG {α:Type}[Sep α]{xs:List α}(H:HL F0 M w0 w fr ow)(hi:ow[i]? = some (It.O e xs v)):HL F0 M w0 w fr (ow.set i (It.G e xs v)):=by
 obtain⟨F,L,C,⟨cs,h1,h3⟩,hN,hF,hupd⟩:=H.upd hi
 exact hupd (Chg.refl w) (fun F' hm=>⟨cs,h1,rfl,h3.rd.mono fun b hb=>hm b (hF b hb)⟩) (by simpa using (List.nodup_append.1 hN).1) (fun q hq=>.inl hq) (by simp)
end
end Go.E
namespace Go.E
open Go
open Rep (rd)
open Sep (own)
section
variable {F0:Nat→Prop}{M:List Nat}{w0 w w' : World}{fr:List Pr}{ow:List It}{i j:Nat}{e:TypeId}{v:Value}{cs:List Value}
variable {P:Program}{n d:Nat}{Q:Post}{ρ:Env}{ops:Array Oper}{o:Oper}{rest:List Oper}
theorem HL.newB {b:Nat}{T:TypeId}(H:HL F0 M w0 w fr ow)(hE:Ext w w')(hb:w.heap.size≤b)(h:Blk w' b T cs):HL F0 M w0 w' fr (ow++[It.B b T cs]):=
 H.new1 (L:=[b]) (C:=[]) hE (fun _=>⟨rfl,rfl,h⟩) (by simp) (by simpa using hb) fun _ _ _ _ _ h=>h
theorem q1U {T:TypeId}{x:Operand}(hg:o.guard=none)(hd:o.dst=some d)(ho:o.op = .box T x)(hx:E.ev ρ x=v)(hc:v.cells=cs.toArray)(H:HL F0 M w0 w fr ow)
  (h:∀ b w',HL F0 M w0 w' fr (ow++[It.B b T cs])→WL P n ops Q rest (upd ρ d (.pointer (some ⟨b,0,none⟩))) w'):WL P n ops Q (o :: rest) ρ w:=
 WL.box hg hd ho hx hc fun b w' hE hb hB=>h b w' (H.newB hE hb hB)
theorem q1D {T:TypeId}(hg:o.guard=none)(hd:o.dst=some d)(ho:o.op = .alloc T)(hT:q6d P T=some cs)(H:HL F0 M w0 w fr ow)
  (h:∀ b w',HL F0 M w0 w' fr (ow++[It.B b T cs])→WL P n ops Q rest (upd ρ d (.pointer (some ⟨b,0,none⟩))) w'):WL P n ops Q (o :: rest) ρ w:=
 WL.alloc hg hd ho hT fun b w' hE hb hB=>h b w' (H.newB hE hb hB)
theorem q2l {T:TypeId}{x y:Operand}{b off k:Nat}{TB:TypeId}{u:Value}{l cs' : List Value}(hg:o.guard=none)(hd:o.dst=none)(ho:o.op = .store T x y)(hk:szT P T=some k)(hx:E.ev ρ x = .pointer (some ⟨b,off,none⟩))
  (hy:E.ev ρ y=u) (hv:u.cells=l.toArray) (hl:l.length=k) (h1:∀ u∈l,u.oneCell'=true) (H:HL F0 M w0 w fr ow) (hi:ow[i]? = some (It.B b TB cs)) (hfit:Nat.ble (off+k) cs.length=true) (hcs:q3O cs off l=cs')
  (h:∀ w',HL F0 M w0 w' fr (ow.set i (It.B b TB cs'))→WL P n ops Q rest ρ w'):WL P n ops Q (o :: rest) ρ w:=by
 obtain⟨F,L,C,⟨rfl,rfl,hb⟩,hN,hF,hupd⟩:=H.upd hi
 subst hcs
 exact WL.st hg hd ho hk hx hy hv hl h1 hb (Nat.le_of_ble_eq_true hfit) fun w' hc hb'=>h w' (hupd (L':=[b]) (C':=[]) (hc.mono fun k _ e=>by simp [e]) (fun _ _=>⟨rfl,rfl,hb'⟩) (by simp) (by simp) (by simp))
theorem HL.newO {α:Type}[Sep α]{xs:List α}{b:Nat}{C:List Nat}(H:HL F0 M w0 w fr ow)(hE:Ext w w')(hb:w.heap.size≤b)(h:Blk w' b e cs)(ho:ownL w' C xs cs)(hN:C.Nodup)(hC:∀ q∈C,w.heap.size≤q∧q≠b)(hm:xs.length≤maxLen) :
  HL F0 M w0 w' fr (ow++[It.O e xs (.slice (some ⟨b,0,none⟩) xs.length xs.length)]):=
 H.new1 (L:=[b]) (C:=C) hE (fun _=>⟨cs,.inl ⟨Own.of_blk h (by rw [← ho.rd.len]) (Nat.zero_le _) hm,rfl⟩,ho⟩) (by simp [hN]; exact fun h=>(hC b h).2 rfl) (fun q hq=>by
  rcases List.mem_append.1 hq with h | h
  ·simp at h; subst h; exact hb
  ·exact (hC q h).1) fun _ _ _ _ _ h=>h
theorem Own.form {k m:Nat}(h:Own w 0 e k v m cs):∃ A c,v = .slice A m c:=by
 rcases h.2 with ⟨rfl,rfl⟩ | ⟨g,cap,cur,rfl,_⟩
 ·exact⟨_,_,rfl⟩
 ·exact⟨_,_,rfl⟩
theorem q0s {α:Type}[Sep α]{T k:Nat}(hg:o.guard=none)(hd:o.dst=some d)(ho:o.op = .buildSlice T 0 #[])(hT:q4Y P T=some e)(hk:szT P e=some k)(H:HL F0 M w0 w fr ow)
  (h:∀ A m c w',HL F0 M w0 w' fr (ow++[It.O e ([]:List α) (.slice A m c)])→WL P n ops Q rest (upd ρ d (.slice A m c)) w'):WL P n ops Q (o :: rest) ρ w:=
 q1S hg hd ho hT hk fun g w' hE hb hB=>h _ _ _ w' (H.newO (xs:=([]:List α)) (C:=[]) hE hb hB ⟨rfl,rfl⟩ List.nodup_nil (by simp) (Nat.zero_le _))
theorem q0B {α:Type}[Sep α]{T b:Nat}{z:List Value}{l c:Operand}{q q' : IntKind}{m:Int}{x:α}(hg:o.guard=none)(hd:o.dst=some d)(ho:o.op = .makeSlice T l c)(hT:q4Y P T=some e)(hk:szT P e=some (Rep.sz α))(hb:byT P e=some b)(hz:q6d P e=some z)
  (hx:∀ w,own [] w x z) (hl:E.ev ρ l = .int q m) (hc:E.ev ρ c = .int q' m) (hm:0≤m∧m*b≤281474976710656∧m≤9223372036854775807) (H:HL F0 M w0 w fr ow)
  (h:∀ A m' c w',HL F0 M w0 w' fr (ow++[It.O e (List.replicate m.toNat x) (.slice A m' c)])→WL P n ops Q rest (upd ρ d (.slice A m' c)) w'):WL P n ops Q (o :: rest) ρ w:=by
 obtain⟨k,rfl⟩:∃ k:Nat,m=k:=⟨m.toNat,by omega⟩
 have hb2:b*k≤281474976710656:=by
  have:((k*b:Nat):Int)≤281474976710656:=by rw [Int.natCast_mul]; exact hm.2.1
  rw [Nat.mul_comm]; omega
 refine WL.mk hg hd ho hT hk hb hz (Rep.len (Sep.own_rd (hx w))) hl hc (by omega) hb2 fun g w' hE hg2 hB=>?_
 have hml:k≤maxLen:=by show k≤9223372036854775807; omega
 have h1:=h (some ⟨g,0,none⟩) k k w'
 simp only [Int.toNat_natCast] at h1
 refine h1 ?_
 have:=H.newO (xs:=List.replicate k x) (C:=[]) hE hg2 hB (ownL.reps (hx w') k) List.nodup_nil (by simp) (by simpa using hml)
 simp only [List.length_replicate] at this
 exact this
theorem ownL.set {α:Type}[Sep α]{xs:List α}{L:List Nat}(h:ownL w L xs cs){k:Nat}{y:α}{l:List Value}(hk:k < xs.length)(hy:own [] w y l):∃ L',(∀ q∈L',q∈L)∧(L.Nodup→L'.Nodup)∧ownL w L' (xs.set k y) (q3O cs (k*Rep.sz α) l):=by
 obtain⟨L1,Li,L2,c1,ci,c2,rfl,rfl,hl1,ho,hp⟩:=h.focus k hk
 have h1:=Rep.len (Sep.own_rd ho)
 have h2:=Rep.len (Sep.own_rd hy)
 have:=hp (w':=w) (Li':=[]) hy (fun _ _=>rfl) (fun _ _=>rfl)
 refine⟨L1++([]++L2),fun q hq=>?_,fun hN=>?_,?_⟩
 ·simp only [List.nil_append,List.mem_append] at hq ⊢; rcases hq with h | h<;>simp [h]
 ·simp only [List.nil_append,List.nodup_append,List.mem_append] at hN ⊢; exact⟨hN.1,hN.2.1.2.1,fun a ha b hb=>hN.2.2 a ha b (.inr hb)⟩
 ·have e1:q3O (c1++(ci++c2)) (k*Rep.sz α) l=c1++(l++c2):=by
   rw [← hl1,q3O,List.take_left',List.append_assoc]
   ·congr 1; congr 1
    rw [h2,← h1]
    rw [← List.append_assoc,← List.length_append,List.drop_left]
   ·rfl
  rw [e1]; exact this
theorem j2T {cur l:List Value}{off N:Nat}(h:off+l.length≤N)(hN:N≤cur.length):(q3O cur off l).take N=q3O (cur.take N) off l:=by
 simp only [q3O]
 have e1:(cur.take off).length=off:=by simp; omega
 rw [List.append_assoc,List.append_assoc,List.take_append,List.take_append,e1,List.take_take,List.take_take,List.drop_take]
 rw [show min N off=off by omega,show min off N=off by omega,List.take_of_length_le (l:=l) (by omega),show N - off - l.length=N - (off+l.length) by omega]
theorem Own.st {k m:Nat}{b off:Nat}{l cur:List Value}(h:Own w 0 e k v m cs)(hb:v.ownBlock=some b)(hB:Blk w b e cur)(hfit:off+l.length≤m*k)(hB' : Blk w' b e (q3O cur off l)):Own w' 0 e k v m (q3O cs off l):=by
 rcases h.2 with ⟨rfl,_⟩ | ⟨g,cap,cur2,rfl,h0,hg,hn,hc,hs,ht⟩
 ·cases hb
 ·cases hb
  have e0:cur2=cur.toArray:=by
   have h1:w.heap[g]? = some (.cells cur.toArray e (0,0)):=hB
   rw [h1] at hg
   injection hg with hg
   injection hg with hg
   exact hg.symm
  subst e0
  simp only [List.size_toArray] at hs
  simp only [] at ht
  have hmk:m*k≤cap*k:=Nat.mul_le_mul_right _ hn
  have hcl:cs.length=m*k:=h.1
  refine⟨?_,.inr ⟨g,cap,(q3O cur off l).toArray,rfl,h0,hB',hn,hc,?_,?_⟩⟩
  ·rw [z5J (by rw [hcl]; exact hfit)]; exact hcl
  ·simp only [List.size_toArray]; rw [z5J (by omega)]; exact hs
  ·subst ht
   exact j2T hfit (by omega)
theorem q0G {α:Type}[Sep α]{T:TypeId}{a y:Operand}{xs:List α}{u:Value}{l:List Value}{z:α}{b k:Nat}(hg:o.guard=none)(hd:o.dst=none)(ho:o.op = .store T a y)(hk:szT P T=some (Rep.sz α))(hx:E.ev ρ a = .pointer (some ⟨b,0+k*Rep.sz α,none⟩))(hy:E.ev ρ y=u)
  (hu:u.cells=l.toArray) (hz:∀ w,own [] w z l) (H:HL F0 M w0 w fr ow) (hi:ow[i]? = some (It.O e xs v)) (hb:v.ownBlock=some b) (hlt:k < xs.length)
  (h:∀ w',HL F0 M w0 w' fr (ow.set i (It.O e (xs.set k z) v))→WL P n ops Q rest ρ w'):WL P n ops Q (o :: rest) ρ w:=by
 obtain⟨F,L,C,⟨cs,h0,h3⟩,hN,hF,hupd⟩:=H.upd hi
 obtain⟨h1,h2⟩:=h0.own hlt
 have hrz:=Sep.own_rd (hz w)
 obtain⟨cur,hcur⟩:∃ cur,Blk w b e cur:=by
  rcases h1.2 with ⟨rfl,_⟩ | ⟨g,cap,cur,rfl,_,hg,_⟩
  ·cases hb
  ·cases hb; exact⟨cur.toList,by simpa [Blk] using hg⟩
 have hmul:k*Rep.sz α+Rep.sz α≤xs.length*Rep.sz α:=by rw [← Nat.succ_mul]; exact Nat.mul_le_mul_right _ hlt
 have hlen:xs.length*Rep.sz α≤cur.length:=by
  rcases h1.2 with ⟨rfl,_⟩ | ⟨g,cap,cur2,rfl,_,hg,hn,_,hs,_⟩
  ·cases hb
  ·cases hb
   have h1:w.heap[g]? = some (.cells cur.toArray e (0,0)):=hcur
   rw [h1] at hg; injection hg with hg; injection hg with hg; subst hg
   simp only [List.size_toArray] at hs
   rw [hs]; exact Nat.mul_le_mul_right _ hn
 refine WL.st hg hd ho hk hx hy hu (Rep.len hrz) (Rep.one hrz) hcur (by omega) fun w' hc hb'=>h w' ?_
 have hbC:b ∉ C:=fun hm=>by
  rw [h2,hb] at hN
  simp at hN
  exact hN.1 hm
 obtain⟨L',g1,g2,g3⟩:=ownL.set h3 hlt (hz w)
 have hNC:=(List.nodup_append.1 hN).2.1
 refine hupd (L':=L) (C':=L') (hc.mono fun q _ e=>by rw [h2,hb]; simp [e]) (fun F' _=>⟨q3O cs (k*Rep.sz α) l,.inl ⟨?_,h2⟩,?_⟩) ?_ (fun q hq=>.inl hq) (fun q hq=>.inl (g1 q hq))
 ·rw [List.length_set,← Nat.zero_add (k*Rep.sz α)]
  exact h1.st hb hcur (by rw [Rep.len hrz]; omega) hb'
 ·refine g3.frame fun q hq=>hc.block q (h3.lt q (g1 q hq)) fun e=>hbC ?_
  subst e; exact g1 q hq
 ·rw [List.nodup_append] at hN ⊢
  exact⟨hN.1,g2 hNC,fun x hx y hy=>hN.2.2 x hx y (g1 y hy)⟩
theorem j4s {T ty k b:Nat}{z:List Value}{A0 A:Option Addr}{m2 c2:Nat}{news:List Value}(hT:q4Y P T=some e)(hk:szT P e=some k)(hb:byT P e=some b)(hz:q6d P e=some z)(hzk:z.length=k)
  (hl:news.length=m2*k) (hat:m2=0∨∃ b o,A=some ⟨b,o,none⟩∧At w b o news) (hmax:m2*b≤140737488355328) (hm:m2≤maxLen) :
  ∃ v' w',(Builtin.append_ #[T,T] ty #[.slice A0 0 0,.slice A m2 c2]).run P w = .ok v' w'∧Ext w w'∧∃ L,RowO w' e k v' m2 L news∧∀ q∈L,w.heap.size≤q:=by
 obtain⟨i,zv,hi,hik,hib,hiv,hvc⟩:=j0I hk hb hz
 by_cases h0:m2=0
 ·subst h0
  have hn:news=[]:=List.eq_nil_of_length_eq_zero (by simpa using hl)
  subst hn
  refine⟨.slice A0 0 0,w,?_,Ext.refl w,[],.inr ⟨⟨_,rfl⟩,rfl,rfl,rfl⟩,by simp⟩
  cases A<;>cases A0<;>simp [Builtin.append_,run_underlying (q5f hT),sizeOf,typeInfo,hi,Builtin.lenOf,Builtin.firstCells,storeCells,loadCells,loadCellsFrom]
 ·obtain⟨b2,o2,hA,hat2⟩:=hat.resolve_left h0
  subst hA
  subst hik; subst hib
  have hcells:∀ j u,news[j]? = some u→w.cell? ((⟨b2,o2,none⟩:Addr).add j)=some u:=by
   intro j u hu
   have hadd:(⟨b2,o2,none⟩:Addr).add j=⟨b2,o2+j,none⟩:=by unfold Addr.add; split<;>simp_all
   rw [hadd]; exact hat2 j u hu
  have hm' : m2≤9223372036854775807:=by simp only [maxLen] at hm; omega
  have key:∃ cur:Array Value,(Builtin.append_ #[T,T] ty #[.slice A0 0 0,.slice (some ⟨b2,o2,none⟩) m2 c2]).run P w = .ok (.slice (some ⟨w.heap.size,0,none⟩) m2 (grownCap w m2 0 e)) (w.drew.alloc (.cells cur e))∧cur=news.toArray++Builtin.zeroCells zv.cells (grownCap w m2 0 e - m2):=by
   cases A0 with
   | none=>exact⟨_,run_append_nil (P:=P) (w:=w) T ty e i zv (q5f hT) hi hiv ⟨b2,o2,none⟩ m2 c2 news hl hcells (by omega) (by omega) (by omega),rfl⟩
   | some g=>
    have hr:=run_append_grow (P:=P) (w:=w) T ty e i zv (q5f hT) hi hiv g 0 0 [] (by simp) (by simp) ⟨b2,o2,none⟩ m2 c2 news hl hcells (by omega) (by omega) (by rw [Nat.zero_add,nextslicecap_zero (by omega)]; omega)
    simp only [Nat.zero_add] at hr
    exact⟨_,hr,by simp⟩
  obtain⟨cur,hr,hcur⟩:=key
  have hzs:zv.cells.size=i.size:=by rw [hvc]; simpa using hzk
  have hge:=grownCap_ge w m2 0 e
  refine⟨_,_,hr,(Ext.drew w).trans (Ext.alloc _ _),[w.heap.size],.inl ⟨⟨hl,.inr ⟨w.heap.size,grownCap w m2 0 e,cur,rfl,Nat.zero_le _,heap_alloc_new w.drew _,hge,grownCap_le_maxLen w m2 0 e hm,?_,?_⟩⟩,rfl⟩,by simp⟩
  ·rw [hcur]
   simp only [Array.size_append,List.size_toArray,size_zeroCells,hzs,hl,← Nat.add_mul]
   congr 1; omega
  ·rw [hcur]
   simp only [Array.toList_append]
   rw [List.take_append_of_le_length (by simp [hl]),List.take_of_length_le (by simp [hl])]
theorem q0t {α:Type}[Sep α]{T b:Nat}{z:List Value}{s x:Operand}{xs ys:List α}{A:Option Addr}{c2:Nat}{news:List Value}(hg:o.guard=none)(hd:o.dst=some d)
  (ho:o.op = .call { callee:=.builtin .append,args:=#[s,x],argTypes:=#[T,T] }) (hT:q4Y P T=some e) (hk:szT P e=some (Rep.sz α)) (hb:byT P e=some b) (hz:q6d P e=some z) (hzk:z.length=Rep.sz α)
  (hs:E.ev ρ s=v) (hx:E.ev ρ x = .slice A ys.length c2) (H:HL F0 M w0 w fr ow) (hi:ow[i]? = some (It.O e xs v)) (hy:∀ w,ownL w [] ys news) (hat:ys.length=0∨∃ b o,A=some ⟨b,o,none⟩∧At w b o news)
  (hmax:((xs.length:Int)+(ys.length:Int))*b≤140737488355328∧(xs.length:Int)+ys.length≤9223372036854775807)
  (h:∀ A m c w',HL F0 M w0 w' fr (ow.set i (It.O e (xs++ys) (.slice A m c)))→WL P n ops Q rest (upd ρ d (.slice A m c)) w'):WL P n ops Q (o :: rest) ρ w:=by
 have h:∀ v' w',(∃ A m c,v' = .slice A m c)→HL F0 M w0 w' fr (ow.set i (It.O e (xs++ys) v'))→WL P n ops Q rest (upd ρ d v') w':=by
  rintro v' w' ⟨A,m,c,rfl⟩ H
  exact h A m c w' H
 obtain⟨F,L,C,⟨cs,h0,h3⟩,hN,hF,hupd⟩:=H.upd hi
 have hm1:(xs.length+ys.length)*b≤140737488355328:=by
  have:(((xs.length+ys.length)*b:Nat):Int)≤140737488355328:=by rw [Int.natCast_mul,Int.natCast_add]; exact hmax.1
  omega
 have hm2:xs.length+ys.length≤maxLen:=by show _≤9223372036854775807; omega
 have hNC:=(List.nodup_append.1 hN).2.1
 rcases h0 with ⟨h1,h2⟩ | ⟨⟨A0,rfl⟩,hx0,rfl,rfl⟩
 ·refine WL.app hg hd ho hT hk hb hz hzk (by simpa using Rep.pos (α:=α)) hs hx h1 (hy w).rd.len hat (rdL.one (hy w).rd) hm1 hm2 (Nat.zero_le _) fun v' w' hc ho' hnew=>h v' w' (by obtain⟨A,c,e⟩:=ho'.form; exact⟨A,_,c,e⟩) ?_
  have hbC:∀ q,z2z v q→q ∉ C:=fun q hq hm=>by
   rw [h2] at hN
   have hq' : v.ownBlock=some q:=hq
   rw [hq'] at hN
   simp at hN
   exact hN.1 hm
  refine hupd (L':=v'.ownBlock.toList) (C':=C) (hc.mono fun q _ e=>by rw [h2]; simpa [z2z] using e) (fun F' _=>⟨cs++news,.inl ⟨by rw [List.length_append]; exact ho',rfl⟩,?_⟩) ?_ (fun q hq=>?_) (fun q hq=>.inl hq)
  ·have:=(h3.frame (w':=w') fun q hq=>hc.block q (h3.lt q hq) fun e=>hbC q e hq).append (hy w')
   simpa using this
  ·rw [List.nodup_append]
   refine⟨by cases v'.ownBlock<;>simp,hNC,fun x hx y hy e=>?_⟩
   subst e
   rcases hnew x (by simpa [z2z] using hx) with h | h
   ·exact hbC x h hy
   ·have:=h3.lt x hy; omega
  ·rcases hnew q (by simpa [z2z] using hq) with h | h
   ·left; rw [h2]; simpa [z2z] using h
   ·exact .inr h
 ·-- a slice without room
  obtain rfl:=List.eq_nil_of_length_eq_zero hx0
  obtain⟨v',w',hrun,hE,hv⟩:=j4s (P:=P) (ty:=o.type) (A0:=A0) (c2:=c2) hT hk hb hz hzk (hy w).rd.len hat (by simpa using hm1) (by simpa using hm2)
  refine q0v hg fun a K ha hok hK=>?_
  unfold Oper.wp
  rw [q4n ha hok]
  simp only [execOp,ho,resolve,invoke,builtin,Sem.run_bind,Sem.run_pure,Result.andThen_ok,List.map_toArray,List.map_cons,List.map_nil,hs,hx,hrun]
  refine hK _ _ (by
   rw [hd]
   refine h v' w' ?_ ?_
   ·obtain⟨L',hv,_⟩:=hv
    obtain⟨A,c,e,_⟩:=hv.form
    exact⟨A,_,c,e⟩
   ·obtain⟨L',hv,hn⟩:=hv
    refine hupd (L':=L') (C':=C) (hE.mono fun q _ e=>e.elim) (fun F' _=>⟨news,by simpa using hv,?_⟩) ?_ (fun q hq=>.inr (hn q hq)) (fun q hq=>.inl hq)
    ·have h4:C=[]:=h3.1
     subst h4
     simpa using hy w'
    ·rw [List.nodup_append]
     exact⟨hv.nodup,hNC,fun x hx y hy e=>by subst e; have:=hn x hx; have:=h3.lt x hy; omega⟩)
end
end Go.E
namespace Go.E
open Go
open Rep (rd)
open Sep (own)
section
variable {F0:Nat→Prop}{M:List Nat}{w0 w w' : World}{fr:List Pr}{ow:List It}{i j:Nat}{e:TypeId}{v:Value}{cs:List Value}
variable {P:Program}{n d:Nat}{Q:Post}{ρ:Env}{ops:Array Oper}{o:Oper}{rest:List Oper}
theorem q4G {α:Type}{xs:List α}{k:Nat}{x:α}(h:xs[k]? = some x):k < xs.length:=(List.getElem?_eq_some_iff.1 h).1
theorem z5e {n k:Nat}(h:I64 (n:Int))(hk:k≤4611686018427387904):I64 ((n:Int) - (k:Int)):=⟨by omega,by have:=h.2; omega⟩
theorem z8m {s:ByteArray}(h:s.size≤9223372036854775807):I64 (s.size:Int):=⟨by omega,by omega⟩
theorem z5f {k n:Nat}(h:k < n)(hn:I64 (n:Int)):I64 (k:Int):=⟨by omega,by have:=hn.2; omega⟩
theorem q2G {k n:Nat}(h:(k:Int) < (n:Int)):k < n:=by omega
theorem q2t {k n:Nat}(h:¬ (k:Int) < (n:Int)):¬ k < n:=by omega
theorem q0H {α:Type}[Rep α]{T e:TypeId}{x:Operand}{S:Nat→Prop}{w2:World}{xs:List α}(ho:o.op = .call { callee:=.builtin .len,args:=#[x],argTypes:=#[T] })(hT:q4Y P T=some e)(hx:E.ev ρ x=v)(hv:rdS S w2 xs v):Ev P ρ o w (.int .i64 (xs.length:Int)):=by
 obtain⟨A,c,rfl,_⟩:=hv.form
 exact q1Q ho hT hx
theorem q0l {T e k:TypeId}{x i:Operand}{b off n c:Nat}{q:IntKind}{m:Int}(ho:o.op = .indexAddr T x i)(hT:q4Y P T=some e)(hk:szT P e=some k)(hx:E.ev ρ x=v)(hv:v = .slice (some ⟨b,off,none⟩) n c)
  (hi:E.ev ρ i = .int q m) (h0:0≤m) (hj:m.toNat < n):Ev P ρ o w (.pointer (some ⟨b,off+m.toNat*k,none⟩)):=
 q1T ho hT hk (hx.trans hv) rfl hi h0 (by omega)
theorem q0V {T e k:TypeId}{x i:Operand}{b off n c:Nat}{q:IntKind}{m:Nat}(ho:o.op = .indexAddr T x i)(hT:q4Y P T=some e)(hk:szT P e=some k)(hx:E.ev ρ x=v)(hv:v = .slice (some ⟨b,off,none⟩) n c)
  (hi:E.ev ρ i = .int q (m:Int)) (hj:m < n):Ev P ρ o w (.pointer (some ⟨b,off+m*k,none⟩)):=
 q1N ho hT hk (hx.trans hv) rfl hi hj
theorem q0u {c:Code}(J:Env→World→Prop)(h1:CW P n c (z5F J Q) ρ w)(h2:∀ ρ' w',J ρ' w'→Q .normal ρ' w'):CW P n c Q ρ w:=
 h1.mono fun e ρ w h=>by
  cases e<;>first | exact h2 _ _ h | exact h
theorem q4H {L:List (Nat × Value)}(h:q4R ρ L):∃ σ,ρ=ofL σ L:=⟨ρ,(z8l h).symm⟩
theorem AllI.sub {F:Nat→Prop}:∀ {l l' : List It} {LC:List (List Nat × List Nat)},l'.Sublist l→AllI F w l LC→(blks LC).Nodup→∃ LC' D,AllI F w l' LC'∧(∀ q∈claims LC,q∈D∨q∈claims LC')∧(D++blks LC').Nodup∧∀ q∈D++blks LC',q∈blks LC
 | _,_,LC,.slnil,h,hN=>⟨LC,[],h,fun q hq=>.inr hq,by simpa using hN,fun q hq=>by simpa using hq⟩
 | _,_,(L,C) :: LC,.cons a hs,h,hN=>by
  simp only [blks,List.nodup_append,List.mem_append] at hN
  obtain⟨⟨n1,n2,n3⟩,n4,n5⟩:=hN
  obtain⟨LC',D,h1,h2,h3,h4⟩:=AllI.sub hs h.2 n4
  simp only [List.nodup_append,List.mem_append] at h3 h4
  refine⟨LC',C++D,h1,fun q hq=>?_,?_,fun q hq=>?_⟩
  ·simp only [claims,List.mem_append] at hq ⊢
   rcases hq with h | h
   ·exact .inl (.inl h)
   ·exact (h2 q h).imp .inr id
  ·simp only [List.nodup_append,List.mem_append]
   refine⟨⟨n2,h3.1,fun x hx y hy=>n5 x (.inr hx) y (h4 y (.inl hy))⟩,h3.2.1,fun x hx y hy=>?_⟩
   rcases hx with hx | hx
   ·exact n5 x (.inr hx) y (h4 y (.inr hy))
   ·exact h3.2.2 x hx y hy
  ·simp only [blks,List.mem_append] at hq ⊢
   rcases hq with (h | h) | h
   ·exact .inl (.inr h)
   ·exact .inr (h4 q (.inl h))
   ·exact .inr (h4 q (.inr h))
 | _,_,(L,C) :: LC,.cons_cons a hs,h,hN=>by
  simp only [blks,List.nodup_append,List.mem_append] at hN
  obtain⟨⟨n1,n2,n3⟩,n4,n5⟩:=hN
  obtain⟨LC',D,h1,h2,h3,h4⟩:=AllI.sub hs h.2 n4
  simp only [List.nodup_append,List.mem_append] at h3 h4
  refine⟨(L,C) :: LC',D,⟨h.1,h1⟩,fun q hq=>?_,?_,fun q hq=>?_⟩
  ·simp only [claims,List.mem_append] at hq ⊢
   rcases hq with h | h
   ·exact .inr (.inl h)
   ·exact (h2 q h).imp id .inr
  ·simp only [blks,List.nodup_append,List.mem_append]
   refine⟨h3.1,⟨⟨n1,n2,n3⟩,h3.2.1,fun x hx y hy=>n5 x hx y (h4 y (.inr hy))⟩,fun x hx y hy e=>?_⟩
   rcases hy with hy | hy
   ·exact n5 y hy x (h4 x (.inl hx)) e.symm
   ·exact h3.2.2 x hx y hy e
  ·simp only [blks,List.mem_append] at hq ⊢
   rcases hq with h | (h | h) | h
   ·exact .inr (h4 q (.inl h))
   ·exact .inl (.inl h)
   ·exact .inl (.inr h)
   ·exact .inr (h4 q (.inr h))
 | _ :: _,_,[],.cons _ _,h,_=>h.elim
 | _ :: _,_,[],.cons_cons _ _,h,_=>h.elim
theorem HL.out {fr' : List Pr}{ow' : List It}(H:HL F0 M w0 w fr ow)(hf:∀ F,AllP F w fr→AllP F w fr')(hs:ow'.Sublist ow):HL F0 M w0 w fr' ow':=by
 obtain⟨Fr,LC,h1,h2,h3,h4,h5,h6⟩:=H
 have hlt:=h3.lt
 have h4':=List.nodup_append.1 h4
 obtain⟨LC',D,g1,g2,g3,g4⟩:=h3.sub hs h4'.2.1
 have hsub:∀ q∈Fr++claims LC,q∈(Fr++D)++claims LC':=fun q hq=>by
  simp only [List.mem_append] at hq ⊢
  rcases hq with h | h
  ·exact .inl (.inl h)
  ·exact (g2 q h).imp .inr id
 refine⟨Fr++D,LC',h1,hf _ (h2.mono (z2i hsub)),AllI.trans (z2i hsub) (fun _ _ _=>rfl) g1 fun _ _=>rfl,?_,fun q hq=>?_,fun q hq=>h6 q ?_⟩
 ·rw [List.append_assoc,List.nodup_append]
  exact⟨h4'.1,g3,fun x hx y hy=>h4'.2.2 x hx y (g4 y hy)⟩
 ·rcases List.mem_append.1 hq with h | h
  ·exact h5 q h
  ·exact hlt q (g4 q (by simp [h]))
 ·simp only [List.mem_append] at hq ⊢
  rcases hq with (h | h) | h
  ·exact .inl h
  ·exact .inr (g4 q (by simp [h]))
  ·exact .inr (g4 q (by simp [h]))
def q4h {α:Type}:List Bool→List α→List α
 | true :: m,x :: l=>x :: q4h m l
 | false :: m,_ :: l=>q4h m l
 | _,_=>[]
theorem z8w {α:Type}:∀ (m:List Bool) (l:List α),(q4h m l).Sublist l
 | true :: m,x :: l=>.cons_cons _ (z8w m l)
 | false :: m,x :: l=>.cons _ (z8w m l)
 | [],l=>by cases l<;>simp [q4h]
 | true :: _,[]=>by simp [q4h]
 | false :: _,[]=>by simp [q4h]
theorem HL.outM {fr' : List Pr}(m:List Bool)(H:HL F0 M w0 w fr ow)(hf:∀ F,AllP F w fr→AllP F w fr'):HL F0 M w0 w fr' (q4h m ow):=H.out hf (z8w m ow)
end
end Go.E
namespace Go.E
open Go
open Rep (rd)
open Sep (own)
theorem z5K {k n:Nat}(h:k < n)(hn:(n:Int)≤9223372036854775807):I64 ((k+1:Nat):Int):=⟨by omega,by omega⟩
section
variable {F0:Nat→Prop}{M:List Nat}{w0 w w' : World}{fr:List Pr}{ow:List It}{i j:Nat}{e:TypeId}{v:Value}{cs:List Value}
variable {P:Program}{n d:Nat}{Q:Post}{ρ:Env}{ops:Array Oper}{o:Oper}{rest:List Oper}
theorem q0I {T:TypeId}{a b:Nat}{y:Int}(hy:y=(b:Int))(h:I64 ((a+b:Nat):Int)):Bin P .add T (.int .i64 (a:Int)) (.int .i64 y) (.int .i64 ((a+b:Nat):Int)):=by
 subst hy
 rw [Int.natCast_add]
 rw [Int.natCast_add] at h
 exact Bin.add h
theorem rdS.form3 {α:Type}[Rep α]{S:Nat→Prop}{xs:List α}(h:rdS S w xs v):∃ A n c,v = .slice A n c:=by
 obtain⟨A,c,e,_⟩:=h.form; exact⟨A,_,c,e⟩
theorem HL.nilS {α:Type}[Rep α](H:HL F0 M w0 w fr ow):HL F0 M w0 w (fr++[Pr.S ([]:List α) (.slice none 0 0)]) ow:=by
 obtain⟨Fr,LC,h1,h2,h3⟩:=H
 exact⟨Fr,LC,h1,h2.app ⟨rdS.nil (Nat.zero_le _),trivial⟩,h3⟩
theorem q0W {α:Type}[Sep α][Flat α]{T b:Nat}{z:List Value}{s x:Operand}{xs ys:List α}{u:Value}{S:Nat→Prop}(hg:o.guard=none)(hd:o.dst=some d)
  (ho:o.op = .call { callee:=.builtin .append,args:=#[s,x],argTypes:=#[T,T] }) (hT:q4Y P T=some e) (hk:szT P e=some (Rep.sz α)) (hb:byT P e=some b) (hz:q6d P e=some z) (hzk:z.length=Rep.sz α)
  (hs:E.ev ρ s=v) (hx:E.ev ρ x=u) (H:HL F0 M w0 w fr ow) (hi:ow[i]? = some (It.O e xs v)) (hy:rdS S w ys u)
  (hmax:((xs.length:Int)+(ys.length:Int))*b≤140737488355328∧(xs.length:Int)+ys.length≤9223372036854775807)
  (h:∀ A m c w',HL F0 M w0 w' fr (ow.set i (It.O e (xs++ys) (.slice A m c)))→WL P n ops Q rest (upd ρ d (.slice A m c)) w'):WL P n ops Q (o :: rest) ρ w:=by
 obtain⟨A,cap,cells,rfl,_,_,hr,hat⟩:=hy
 refine q0t hg hd ho hT hk hb hz hzk hs hx H hi (news:=cells) (fun w=>Flat.list hr) ?_ hmax h
 rcases hat with rfl | ⟨b,o,rfl,_,hat⟩
 ·exact .inl rfl
 ·exact .inr ⟨b,o,rfl,hat⟩
theorem q2m {x:Operand}{b:Bool}(hg:o.guard=none)(hd:o.dst=some d)(ho:o.op = .move x)(hx:E.ev ρ x = .bool b)(hT:b=true→WL P n ops Q rest (upd ρ d (.bool true)) w)(hF:¬ b=true→WL P n ops Q rest (upd ρ d (.bool false)) w):WL P n ops Q (o :: rest) ρ w:=by
 cases b
 ·exact q0b hg hd (q0j ho hx) (hF (by simp))
 ·exact q0b hg hd (q0j ho hx) (hT rfl)
theorem q1V {x:Operand}{b:Bool}(hg:o.guard=none)(hd:o.dst=some d)(ho:o.op = .move x)(hx:E.ev ρ x = .bool (!b))(hT:¬ b=true→WL P n ops Q rest (upd ρ d (.bool true)) w)(hF:b=true→WL P n ops Q rest (upd ρ d (.bool false)) w):WL P n ops Q (o :: rest) ρ w:=by
 cases b
 ·exact q0b hg hd (q0j ho hx) (hT (by simp))
 ·exact q0b hg hd (q0j ho hx) (hF rfl)
theorem q1W {C:World→Prop}{F:Env→Prop}{x:Operand}{b:Bool}(hg:o.guard=none)(hd:o.dst=some d)(ho:o.op = .move x)(hx:E.ev ρ x = .bool (!b))(hT:¬ b=true→QL P n ops C F rest (upd ρ d (.bool true)))(hF:b=true→QL P n ops C F rest (upd ρ d (.bool false))):QL P n ops C F (o :: rest) ρ:=by
 cases b
 ·exact q0i hg hd (fun _ _=>q0j ho hx) (hT (by simp))
 ·exact q0i hg hd (fun _ _=>q0j ho hx) (hF rfl)
theorem q1K {c:Operand}{x y:Code}{b:Bool}(hc:E.ev ρ c = .bool b)(ht:b=true→CW P n x Q ρ w)(hf:¬ b=true→CW P n y Q ρ w):CW P n (.cond c x y) Q ρ w:=by
 cases b
 ·exact q0O hc (hf (by simp))
 ·exact q0N hc (ht rfl)
theorem q1E {c:Operand}{x y:Code}{b:Bool}(hc:E.ev ρ c = .bool (!b))(ht:¬ b=true→CW P n x Q ρ w)(hf:b=true→CW P n y Q ρ w):CW P n (.cond c x y) Q ρ w:=by
 cases b
 ·exact q0N hc (ht (by simp))
 ·exact q0O hc (hf rfl)
theorem q2n {x:Operand}{k:Nat}{vs:Array Value}{u:Value}(ho:o.op = .extract x k)(hx:E.ev ρ x = .tuple vs)(hv:vs[k]? = some u):Ev P ρ o w u:=by
 simp [Ev,execOp,ho,hx,Instr.extract,hv]
end
end Go.E
namespace Go.E
open Go
open Rep (rd)
open Sep (own)
def NewI (S:Nat→Prop)(w:World)(l:List It):Prop:=∃ LC,AllI (fun _=>False) w l LC∧(blks LC).Nodup∧∀ q∈blks LC,S q
section
variable {F0:Nat→Prop}{M:List Nat}{w0 w w' : World}{fr:List Pr}{ow l l2:List It}{i j:Nat}{e:TypeId}{v:Value}{cs:List Value}{S S2:Nat→Prop}
variable {P:Program}{n d:Nat}{Q:Post}{ρ:Env}{ops:Array Oper}{o:Oper}{rest:List Oper}
def CapP {α:Type}[Rep α](F:Nat→Prop)(w:World)(b:Nat)(x:α):Prop:=F b∧∃ cs,At w b 0 cs∧rd F w x cs
theorem HL.argP {α:Type}[Rep α]{b:Nat}{x:α}(H:HL F0 [] w w fr ow)(h:CapP F0 w b x):∃ cs,HL F0 [] w w (fr++[Pr.A b 0 cs,Pr.R x cs]) ow:=by
 obtain⟨Fr,LC,h1,h2,h3⟩:=H
 obtain⟨hb,cs,hat,hr⟩:=h
 have hl:=Rep.len hr
 have hp:=Rep.pos (α:=α)
 have hlt:b < w.heap.size:=hat.lt (j:=0) (List.getElem?_eq_getElem (by omega))
 exact⟨cs,Fr,LC,h1,h2.app ⟨⟨.inl ⟨hb,hlt,by simp⟩,hat⟩,Rep.mono (Rep.bound hr) fun b hb=>.inl ⟨hb.1,hb.2,by simp⟩,trivial⟩,h3⟩
theorem HL.rAl {b:Nat}{o' : Nat}{c:Value}(H:HL F0 M w0 w fr ow)(hi:fr[i]? = some (Pr.A b o' (c :: cs))):b < w.heap.size:=(H.rA hi).lt (j:=0) rfl
theorem NewI.of {F:Nat→Prop}(H:HL F [] w w' [] l)(hf:z7K l):NewI (fun q=>w.heap.size≤q∧q < w'.heap.size) w' l:=by
 obtain⟨Fr,LC,h1,h2,h3,h4,h5,h6⟩:=H
 have hlt:=h3.lt
 refine⟨LC,h3.free hf,(List.nodup_append.1 h4).2.1,fun q hq=>⟨?_,hlt q hq⟩⟩
 rcases h6 q (by simp [hq]) with h | h
 ·simp at h
 ·exact h
theorem HL.add (H:HL F0 M w0 w fr ow)(hE:Ext w w')(h:NewI S w' l)(hf:z7K l)(hS:∀ q,S q→w.heap.size≤q):HL F0 M w0 w' fr (ow++l):=by
 obtain⟨LC,h1,h2,h3⟩:=h
 exact H.news hE h1 hf h2 fun q hq=>hS q (h3 q hq)
theorem NewI.app (h:NewI S w l)(h2:NewI S2 w l2)(hd:∀ q,S q→S2 q→False):NewI (fun q=>S q∨S2 q) w (l++l2):=by
 obtain⟨A,a1,a2,a3⟩:=h
 obtain⟨B,b1,b2,b3⟩:=h2
 refine⟨A++B,a1.app b1,?_,fun q hq=>?_⟩
 ·rw [q4S,List.nodup_append]
  exact⟨a2,b2,fun x hx y hy e=>by subst e; exact hd x (a3 x hx) (b3 x hy)⟩
 ·rw [q4S] at hq
  rcases List.mem_append.1 hq with h | h
  ·exact .inl (a3 q h)
  ·exact .inr (b3 q h)
theorem Ret.get {f:FuncId}{args:Array Value}{M:Nat→Prop}{R:Value→World→Prop}(h:Ret P f args w M R):∃ v w',R v w':=by
 obtain⟨e,w',fr,⟨v,_,_,hR⟩,_⟩:=h []
 exact⟨v,w',hR⟩
theorem j5S (A:Option Addr)(l h c k:Nat):∃ A' n' c',cutS A l h c k = .slice A' n' c':=⟨_,_,_,rfl⟩
theorem HL.slS {α:Type}[Rep α]{xs:List α}{A:Option Addr}{n c:Nat}(H:HL F0 M w0 w fr ow)(hi:fr[i]? = some (Pr.S xs (.slice A n c))){l h:Nat}(hl:l≤h)(hh:h≤xs.length) :
  ∃ A' n' c',cutS A l h c (Rep.sz α) = .slice A' n' c'∧HL F0 M w0 w (fr++[Pr.S ((xs.take h).drop l) (.slice A' n' c')]) ow:=by
 obtain⟨A',n',c',e⟩:=j5S A l h c (Rep.sz α)
 refine⟨A',n',c',e,H.more (p:=Pr.S xs (.slice A n c)) hi fun F hS=>⟨?_,trivial⟩⟩
 have h1:rdS F w xs (.slice A n c):=hS
 have:=h1.cut hl hh
 rw [e] at this
 exact this
theorem HL.slL {α:Type}[Rep α]{xs:List α}{A:Option Addr}{n c:Nat}(H:HL F0 M w0 w fr ow)(hi:fr[i]? = some (Pr.S xs (.slice A n c))){l:Nat}(hl:l≤xs.length) :
  ∃ A' n' c',cutS A l n c (Rep.sz α) = .slice A' n' c'∧l≤n∧HL F0 M w0 w (fr++[Pr.S (xs.drop l) (.slice A' n' c')]) ow:=by
 have hn:=(H.rS hi).len
 subst hn
 obtain⟨A',n',c',e,H⟩:=H.slS hi hl (Nat.le_refl _)
 rw [List.take_length] at H
 exact⟨A',n',c',e,hl,H⟩
theorem HL.slH {α:Type}[Rep α]{xs:List α}{A:Option Addr}{n c:Nat}(H:HL F0 M w0 w fr ow)(hi:fr[i]? = some (Pr.S xs (.slice A n c))){h:Nat}(hh:h≤xs.length) :
  ∃ A' n' c',cutS A 0 h c (Rep.sz α) = .slice A' n' c'∧h≤c∧HL F0 M w0 w (fr++[Pr.S (xs.take h) (.slice A' n' c')]) ow:=by
 have hc:=(H.rS hi).cap
 obtain⟨A',n',c',e,H⟩:=H.slS hi (Nat.zero_le h) hh
 exact⟨A',n',c',e,by omega,by simpa using H⟩
theorem q1g {T k:Nat}{x lo:Operand}{A:Option Addr}{m c l:Nat}{a:Int}{q:IntKind}(ho:o.op = .slice T x (some lo) none none)(hT:q4Y P T=some e)(hk:szT P e=some k)(hx:E.ev ρ x = .slice A m c)
  (hl:E.ev ρ lo = .int q a) (ha:a=(l:Int)) (h1:l≤m) (he:cutS A l m c k=v):Ev P ρ o w v:=by
 subst ha; subst he; exact Ev.slL ho hT hk hx hl h1
theorem q0L {T k:Nat}{x hi:Operand}{A:Option Addr}{m c h:Nat}{a:Int}{q:IntKind}(ho:o.op = .slice T x none (some hi) none)(hT:q4Y P T=some e)(hk:szT P e=some k)(hx:E.ev ρ x = .slice A m c)
  (hh:E.ev ρ hi = .int q a) (ha:a=(h:Int)) (h2:h≤c) (he:cutS A 0 h c k=v):Ev P ρ o w v:=by
 subst ha; subst he; exact Ev.slH ho hT hk hx hh h2
end
end Go.E
namespace Go.E
open Go
open Rep (rd)
open Sep (own)
section
variable {P:Program}{ρ:Env}{w:World}{o:Oper}
theorem q1a {T:TypeId}{x i:Operand}{s:ByteArray}{q:IntKind}{k:Nat}{b:UInt8}(ho:o.op = .index T x i)(hT:P.underlying T=some .string)(hx:E.ev ρ x = .string s)(hi:E.ev ρ i = .int q (k:Int))(hb:s.data[k]? = some b):Ev P ρ o w (.int .u8 (b.toNat:Int)):=by
 have h1:s[k]? = some b:=by
  obtain⟨h2,h3⟩:=Array.getElem?_eq_some_iff.1 hb
  have h4:k < s.size:=h2
  have:s[k]? = some s[k]:=getElem?_pos s k h4
  rw [this]; congr 1
 simp [Ev,execOp,ho,hx,hi,Instr.index,asIntOf,run_underlying hT,h1]
theorem j4t (a:Int):I64 (IntKind.i64.wrap a):=by
 have:IntKind.i64.wrap a=(a+9223372036854775808) % 18446744073709551616 - 9223372036854775808:=by
  simp [IntKind.wrap,IntKind.bits,IntKind.signed]
  split<;>omega
 rw [this]
 constructor<;>omega
def j7Q (x y:Int):Int:=IntKind.i64.wrap ((BitVec.ofInt 64 x &&& BitVec.ofInt 64 y).toNat:Int)
theorem q1h {T:TypeId}{x y:Int}:Bin P .and T (.int .i64 x) (.int .i64 y) (.int .i64 (j7Q x y)):=fun a b w=>by
 simp only [q8A]
 rfl
theorem q1i {T:TypeId}{a b:ByteArray}:Bin P .lss T (.string a) (.string b) (.bool (Op.bytesLess a.toList b.toList)):=fun x y w=>by simp [z8u,binOp,Op.stringOp]
end
end Go.E
namespace Go.E
open Go
open Rep (rd)
open Sep (own)
def q7D {α:Type}:List Bool→List α→List α
 | true :: m,_ :: l=>q7D m l
 | false :: m,x :: l=>x :: q7D m l
 | [],l=>l
 | _ :: _,[]=>[]
def q6v {α:Type}:List Bool→List α→List α→List α
 | true :: m,_ :: l,p :: ps=>p :: q6v m l ps
 | false :: m,x :: l,ps=>x :: q6v m l ps
 | _,l,_=>l
theorem AllI.mask {F:Nat→Prop}{w:World}:∀ (m:List Bool) {ow:List It} {LC:List (List Nat × List Nat)},AllI F w ow LC→AllI F w (q4h m ow) (q4h m LC)∧AllI F w (q7D m ow) (q7D m LC)
 | [],ow,LC,h=>by cases ow<;>cases LC<;>simp_all [q4h,q7D,AllI]
 | b :: m,[],[],h=>by cases b<;>simp [q4h,q7D,AllI]
 | true :: m,o :: ow,(L,C) :: LC,h=>⟨⟨h.1,(AllI.mask m h.2).1⟩,(AllI.mask m h.2).2⟩
 | false :: m,o :: ow,(L,C) :: LC,h=>⟨(AllI.mask m h.2).1,⟨h.1,(AllI.mask m h.2).2⟩⟩
 | _ :: _,[],_ :: _,h=>h.elim
 | _ :: _,_ :: _,[],h=>h.elim
theorem AllI.merge {F:Nat→Prop}{w:World}:∀ (m:List Bool) {ow ow1:List It} {LC LC1:List (List Nat × List Nat)},ow.length=LC.length→AllI F w (q7D m ow) (q7D m LC)→AllI F w ow1 LC1→ow1.length=(q4h m ow).length→AllI F w (q6v m ow ow1) (q6v m LC LC1)
 | [],ow,ow1,LC,LC1,_,h,_,_=>by simpa [q6v,q7D] using h
 | b :: m,[],ow1,[],LC1,_,h,_,_=>by cases b<;>simp [q6v,AllI]
 | true :: m,o :: ow,o1 :: ow1,x :: LC,(L,C) :: LC1,hl,h,h1,hn=>⟨h1.1,AllI.merge m (by simpa using hl) h h1.2 (by simpa [q4h] using hn)⟩
 | true :: m,o :: ow,[],x :: LC,_,_,_,_,hn=>by simp [q4h] at hn
 | true :: m,o :: ow,_ :: _,x :: LC,[],_,_,h1,_=>h1.elim
 | false :: m,o :: ow,ow1,(L,C) :: LC,LC1,hl,h,h1,hn=>⟨h.1,AllI.merge m (by simpa using hl) h.2 h1 (by simpa [q4h] using hn)⟩
 | _ :: _,[],_,_ :: _,_,hl,_,_,_=>by simp at hl
 | _ :: _,_ :: _,_,[],_,hl,_,_,_=>by simp at hl
theorem AllI.length {F:Nat→Prop}{w:World}:∀ {ow:List It} {LC:List (List Nat × List Nat)},AllI F w ow LC→ow.length=LC.length
 | [],[],_=>rfl
 | _ :: _,(_,_) :: _,h=>by simp [AllI.length h.2]
 | [],_ :: _,h=>h.elim
 | _ :: _,[],h=>h.elim
theorem z5L:∀ (m:List Bool) (LC:List (List Nat × List Nat)),(blks LC).Perm (blks (q4h m LC)++blks (q7D m LC))
 | [],LC=>by cases LC<;>simp [q4h,q7D,blks]
 | b :: m,[]=>by cases b<;>simp [q4h,q7D,blks]
 | true :: m,(L,C) :: LC=>by
  simp only [q4h,q7D,blks,List.append_assoc]
  exact ((z5L m LC).append_left C).append_left L
 | false :: m,(L,C) :: LC=>by
  simp only [q4h,q7D,blks]
  exact ((z5L m LC).append_left (L++C)).trans (by
   rw [← List.append_assoc,← List.append_assoc]
   exact List.Perm.append_right _ List.perm_append_comm)
theorem z4x:∀ (m:List Bool) (LC LC1:List (List Nat × List Nat)),LC1.length=(q4h m LC).length→(blks (q6v m LC LC1)).Perm (blks LC1++blks (q7D m LC))
 | [],LC,LC1,h=>by
  have:LC1=[]:=by cases LC<;>exact List.eq_nil_of_length_eq_zero (by simpa [q4h] using h)
  subst this; simp [q6v,q7D,blks]
 | b :: m,[],LC1,h=>by
  have:LC1=[]:=List.eq_nil_of_length_eq_zero (by cases b<;>simpa [q4h] using h)
  subst this; cases b<;>simp [q6v,q7D,blks]
 | true :: m,x :: LC,[],h=>by simp [q4h] at h
 | true :: m,x :: LC,(L,C) :: LC1,h=>by
  simp only [q6v,q7D,blks,List.append_assoc]
  exact ((z4x m LC LC1 (by simpa [q4h] using h)).append_left C).append_left L
 | false :: m,(L,C) :: LC,LC1,h=>by
  simp only [q6v,q7D,blks]
  exact ((z4x m LC LC1 (by simpa [q4h] using h)).append_left (L++C)).trans (by
   rw [← List.append_assoc,← List.append_assoc]
   exact List.Perm.append_right _ List.perm_append_comm)
theorem z1y:∀ (m:List Bool) (LC LC1:List (List Nat × List Nat)),LC1.length=(q4h m LC).length→∀ q,q∈claims (q6v m LC LC1)↔q∈claims LC1∨q∈claims (q7D m LC)
 | [],LC,LC1,h,q=>by
  have:LC1=[]:=by cases LC<;>exact List.eq_nil_of_length_eq_zero (by simpa [q4h] using h)
  subst this; simp [q6v,q7D,claims]
 | b :: m,[],LC1,h,q=>by
  have:LC1=[]:=List.eq_nil_of_length_eq_zero (by cases b<;>simpa [q4h] using h)
  subst this; cases b<;>simp [q6v,q7D,claims]
 | true :: m,x :: LC,[],h,q=>by simp [q4h] at h
 | true :: m,(L0,C0) :: LC,(L,C) :: LC1,h,q=>by
  have:=z1y m LC LC1 (by simpa [q4h] using h) q
  simp only [q6v,q7D,claims,List.mem_append,this,or_assoc]
 | false :: m,(L,C) :: LC,LC1,h,q=>by
  have:=z1y m LC LC1 (by simpa [q4h] using h) q
  simp only [q6v,q7D,claims,List.mem_append,this]
  constructor
  ·rintro (h | h | h)<;>simp [h]
  ·rintro (h | h | h)<;>simp [h]
theorem q9l:∀ (m:List Bool) (LC:List (List Nat × List Nat)) (q:Nat),q∈claims LC→q∈claims (q4h m LC)∨q∈claims (q7D m LC)
 | [],LC,q,h=>by right; cases LC<;>simpa [q7D] using h
 | b :: m,[],q,h=>by simp [claims] at h
 | true :: m,(L,C) :: LC,q,h=>by
  simp only [claims,List.mem_append,q4h,q7D] at h ⊢
  rcases h with h | h
  ·exact .inl (.inl h)
  ·exact (q9l m LC q h).imp .inr id
 | false :: m,(L,C) :: LC,q,h=>by
  simp only [claims,List.mem_append,q4h,q7D] at h ⊢
  rcases h with h | h
  ·exact .inr (.inl h)
  ·exact (q9l m LC q h).imp id .inr
def NoC:List It→Prop
 | []=>True
 | o :: l=>(∀ L C F w,o.p L C F w→C=[])∧NoC l
theorem NoC.claims {F:Nat→Prop}{w:World}:∀ {l:List It} {LC:List (List Nat × List Nat)},NoC l→AllI F w l LC→claims LC=[]
 | [],[],_,_=>rfl
 | _ :: _,(L,C) :: _,hn,h=>by simp [E.claims,hn.1 _ _ _ _ h.1,NoC.claims hn.2 h.2]
 | [],_ :: _,_,h=>h.elim
 | _ :: _,[],_,h=>h.elim
theorem z2j {A B C D:List Nat}(h:(A++B).Nodup)(hp:B.Perm (C++D)):(A++(C++D)).Nodup:=(hp.append_left A).nodup_iff.1 h
section
variable {F0:Nat→Prop}{M:List Nat}{w0 w w' : World}{fr:List Pr}{ow:List It}{i j:Nat}{e:TypeId}{v:Value}{cs:List Value}
theorem HL.callM (m:List Bool)(H:HL F0 M w0 w fr ow)(hC:NoC (q4h m ow)) :
  ∃ F' M',AllP F' w fr∧(∀ o∈q7D m ow,∃ L C F'',o.p L C F'' w∧(∀ q∈L++C,F' q)∧∀ q,F'' q→F' q) ∧
   ∀ {ps:List Pr},AllP F' w ps→HL F' M' w w ps (q4h m ow) ∧
    ∀ {w' : World} {ow1 ow2:List It},HL F' M' w w' [] (ow1++ow2)→ow1.length=(q4h m ow).length→z7K (ow1++ow2)→HL F0 M w0 w' fr (q6v m ow ow1++ow2):=by
 obtain⟨Fr,LC,h1,h2,h3,h4,h5,h6⟩:=H
 obtain⟨hm,hr⟩:=h3.mask m
 have hlt:=h3.lt
 have hp:=z5L m LC
 have hcm:=hC.claims hm
 have h4p:=List.nodup_append.1 (z2j h4 hp)
 have h4q:=List.nodup_append.1 h4p.2.1
 -- what may be read
 have hF:∀ q,fz F0 w0 M (Fr++claims LC) q→q < w.heap.size→q < w.heap.size∧q ∉ blks (q4h m LC):=fun q hq hl=>⟨hl,fun hb=>by
  rcases hq with ⟨_,g1,g2⟩ | hq
  ·rcases h6 q (List.mem_append.2 (.inr (hp.mem_iff.2 (List.mem_append.2 (.inl hb))))) with h | h
   ·exact g2 h
   ·omega
  ·rcases List.mem_append.1 hq with hq | hq
   ·exact h4p.2.2 q hq q (List.mem_append.2 (.inl hb)) rfl
   ·rcases q9l m LC q hq with h | h
    ·rw [hcm] at h; simp at h
    ·exact h4q.2.2 q hb q (q4N h) rfl⟩
 have hFl:∀ q,fz F0 w0 M (Fr++claims LC) q→q < w.heap.size:=fun q hq=>by
  rcases hq with ⟨_,g1,_⟩ | hq
  ·exact Nat.lt_of_lt_of_le g1 h1.size
  ·rcases List.mem_append.1 hq with hq | hq
   ·exact h5 q hq
   ·exact hlt q (q4N hq)
 refine⟨fun q=>q < w.heap.size∧q ∉ blks (q4h m LC),blks (q4h m LC),h2.mono fun q hq=>hF q hq (hFl q hq),?_,fun {ps} hps=>⟨?_,?_⟩⟩
 ·-- the others may be read
  have key:∀ {l:List It} {LC2:List (List Nat × List Nat)},AllI (fz F0 w0 M (Fr++claims LC)) w l LC2→(∀ q∈blks LC2,q∈blks (q7D m LC))→∀ o∈l,∃ L C F'',o.p L C F'' w∧(∀ q∈L++C,q < w.heap.size∧q ∉ blks (q4h m LC))∧∀ q,F'' q→q < w.heap.size∧q ∉ blks (q4h m LC):=by
   intro l
   induction l with
   | nil=>intro LC2 _ _ o ho; simp at ho
   | cons x l ih=>
    intro LC2 h hs o ho
    cases LC2 with
    | nil=>exact h.elim
    | cons y LC2=>
     obtain⟨L,C⟩:=y
     rcases List.mem_cons.1 ho with rfl | ho
     ·refine⟨L,C,_,h.1,fun q hq=>?_,fun q hq=>hF q hq (hFl q hq)⟩
      have hb:=hs q (by simp only [blks]; exact List.mem_append.2 (.inl hq))
      exact⟨hlt q (hp.mem_iff.2 (List.mem_append.2 (.inr hb))),fun hm=>h4q.2.2 q hm q hb rfl⟩
     ·exact ih h.2 (fun q hq=>hs q (by simp only [blks]; exact List.mem_append.2 (.inr hq))) o ho
  exact key hr fun q hq=>hq
 ·refine⟨[],q4h m LC,Chg.refl w,hps.mono fun q hq=>.inl ⟨hq,hq.1,hq.2⟩,AllI.trans (fun q hq=>.inl ⟨hF q hq (hFl q hq),hFl q hq,(hF q hq (hFl q hq)).2⟩) (fun _ _ _=>rfl) hm fun _ _=>rfl,by simpa using h4q.1,by simp,fun q hq=>.inl (by simpa using hq)⟩
 ·rintro w' ow1 ow2 ⟨Fr2,LC2,k1,_,k3,k4,k5,k6⟩ hn hf
  obtain⟨A2,B2,rfl,ka,kb⟩:=k3.unapp
  have hA2:A2.length=(q4h m LC).length:=by rw [← ka.length,hn,hm.length]
  have hpm:=z4x m LC A2 hA2
  have hcm2:=z1y m LC A2 hA2
  have hs1:∀ q,fz F0 w0 M (Fr++claims LC) q→fz F0 w0 M ((Fr++Fr2)++claims (q6v m LC A2++B2)) q:=z2i fun q hq=>by
   rw [q4O]
   simp only [List.mem_append,hcm2] at hq ⊢
   rcases hq with h | h
   ·simp [h]
   ·rcases q9l m LC q h with h | h
    ·rw [hcm] at h; simp at h
    ·simp [h]
  have hfr:∀ q,fz F0 w0 M (Fr++claims LC) q→q < w.heap.size→w'.heap[q]? = w.heap[q]?:=fun q hq hl=>k1.block q hl fun hm=>(hF q hq hl).2 hm
  have k6' : ∀ q∈Fr2++blks (A2++B2),q∈blks (q4h m LC)∨w.heap.size≤q:=k6
  have hrl:∀ q∈blks (q7D m LC),q < w.heap.size∧q ∉ blks (q4h m LC):=fun q hq=>⟨hlt q (hp.mem_iff.2 (List.mem_append.2 (.inr hq))),fun hm=>h4q.2.2 q hm q hq rfl⟩
  have hFr:∀ q∈Fr,q < w.heap.size∧q ∉ blks (q4h m LC):=fun q hq=>⟨h5 q hq,fun hm=>h4p.2.2 q hq q (List.mem_append.2 (.inl hm)) rfl⟩
  have hpb:(blks (q6v m LC A2++B2)).Perm (blks (A2++B2)++blks (q7D m LC)):=by
   rw [q4S,q4S]
   refine (hpm.append_right _).trans ?_
   rw [List.append_assoc,List.append_assoc]
   exact List.Perm.append_left _ List.perm_append_comm
  refine⟨Fr++Fr2,q6v m LC A2++B2,?_,(h2.frame hfr).mono hs1,?_,?_,?_,?_⟩
  ·refine⟨k1.os.trans h1.os,k1.tape.trans h1.tape,k1.output.trans h1.output,Nat.le_trans h1.size k1.size,fun k hk hnm=>?_⟩
   refine (k1.block k (Nat.lt_of_lt_of_le hk h1.size) fun hl=>?_).trans (h1.block k hk hnm)
   rcases h6 k (List.mem_append.2 (.inr (hp.mem_iff.2 (List.mem_append.2 (.inl hl))))) with h | h
   ·exact hnm h
   ·omega
  ·have hfa:∀ {l1 l2:List It},z7K (l1++l2)→z7K l1∧z7K l2:=by
    intro l1 l2
    induction l1 with
    | nil=>intro h; exact⟨trivial,h⟩
    | cons x l ih=>intro h; exact⟨⟨h.1,(ih h.2).1⟩,(ih h.2).2⟩
   obtain⟨f1,f2⟩:=hfa hf
   exact AllI.app (AllI.merge m h3.length (AllI.trans hs1 hfr hr fun q hq=>k1.block q (hrl q hq).1 (hrl q hq).2) (ka.free f1) hn) (kb.free f2)
  ·refine (List.Perm.append_left _ hpb).nodup_iff.2 ?_
   have k4':=List.nodup_append.1 k4
   rw [List.append_assoc,List.nodup_append]
   refine⟨h4p.1,?_,fun x hx y hy e=>?_⟩
   ·rw [← List.append_assoc,List.nodup_append]
    refine⟨k4,h4q.2.1,fun x hx y hy e=>?_⟩
    subst e
    have:=hrl x hy
    rcases k6' x hx with h | h
    ·exact this.2 h
    ·omega
   ·subst e
    have:=hFr x hx
    rcases List.mem_append.1 hy with hy | hy
    ·rcases k6' x (List.mem_append.2 (.inl hy)) with h | h
     ·exact this.2 h
     ·omega
    ·rcases List.mem_append.1 hy with hy | hy
     ·rcases k6' x (List.mem_append.2 (.inr hy)) with h | h
      ·exact this.2 h
      ·omega
     ·exact h4p.2.2 x hx x (List.mem_append.2 (.inr hy)) rfl
  ·intro q hq
   rcases List.mem_append.1 hq with h | h
   ·exact Nat.lt_of_lt_of_le (h5 q h) k1.size
   ·exact k5 q h
  ·intro q hq
   have conv:∀ q∈Fr2++blks (A2++B2),q∈M∨w0.heap.size≤q:=fun q hq=>by
    rcases k6' q hq with h | h
    ·exact h6 q (List.mem_append.2 (.inr (hp.mem_iff.2 (List.mem_append.2 (.inl h)))))
    ·exact .inr (Nat.le_trans h1.size h)
   rcases List.mem_append.1 hq with hq | hq
   ·rcases List.mem_append.1 hq with hq | hq
    ·exact h6 q (List.mem_append.2 (.inl hq))
    ·exact conv q (List.mem_append.2 (.inl hq))
   ·rcases List.mem_append.1 (hpb.mem_iff.1 hq) with hq | hq
    ·exact conv q (List.mem_append.2 (.inr hq))
    ·exact h6 q (List.mem_append.2 (.inr (hp.mem_iff.2 (List.mem_append.2 (.inr hq)))))
theorem HL.callN (m:List Bool)(H:HL F0 M w0 w fr ow)(hC:NoC (q4h m ow)) :
  ∃ F' M',AllP F' w fr∧(∀ (k:Nat) (o:It),(q7D m ow)[k]? = some o→∃ L C F'',o.p L C F'' w∧(∀ q∈L++C,F' q)∧∀ q,F'' q→F' q) ∧
   ∀ {ps:List Pr},AllP F' w ps→HL F' M' w w ps (q4h m ow) ∧
    ∀ {w' : World} {l:List It} (n:Nat),HL F' M' w w' [] l→(l.take n).length=(q4h m ow).length→z7K l→HL F0 M w0 w' fr (q6v m ow (l.take n)++l.drop n):=by
 obtain⟨F',M',h1,h2,h3⟩:=H.callM m hC
 refine⟨F',M',h1,fun k o hk=>h2 o (List.mem_of_getElem? hk),fun hps=>⟨(h3 hps).1,fun n H2 hn hf=>?_⟩⟩
 exact (h3 hps).2 (by rwa [List.take_append_drop]) hn (by rwa [List.take_append_drop])
theorem q0o {P:Program}{ρ:Env}{o:Oper}{x:Operand}{a:Addr}(ho:o.op = .nilCheck x)(hx:E.ev ρ x = .pointer (some a)):Ev P ρ o w (.pointer (some a)):=by
 simp [Ev,execOp,ho,hx]
theorem q1X {P:Program}{ρ:Env}{ops:Array Oper}{o:Oper}{α:Type}[Sep α]{T b:Nat}{z:List Value}{l c:Operand}{q q' : IntKind}{m:Int}{x:α}{R:Value→World→Prop}(hg:o.guard=none)(ho:o.op = .makeSlice T l c)(hT:q4Y P T=some e)(hk:szT P e=some (Rep.sz α))(hb:byT P e=some b)(hz:q6d P e=some z)
  (hx:∀ w,own [] w x z) (hl:E.ev ρ l = .int q m) (hc:E.ev ρ c = .int q' m) (hm:0≤m∧m*b≤281474976710656∧m≤9223372036854775807)
  (h:∀ A k c w',Ext w w'→NewI (fun q=>w.heap.size≤q∧q < w'.heap.size) w' [It.O e (List.replicate m.toNat x) (.slice A k c)]→R (.slice A k c) w'):OpX P ops o ρ w R:=by
 obtain⟨k,rfl⟩:∃ k:Nat,m=k:=⟨m.toNat,by omega⟩
 have hb2:b*k≤281474976710656:=by
  have:((k*b:Nat):Int)≤281474976710656:=by rw [Int.natCast_mul]; exact hm.2.1
  rw [Nat.mul_comm]; omega
 have hzk:=Rep.len (Sep.own_rd (hx w))
 obtain⟨i,v,hi,hik,hib,hiv,hvc⟩:=j0I hk hb hz
 have hr:=run_make (P:=P) w T e i v (q5f hT) hi hiv q q' k k (by omega) (by omega) (by rw [hib,← Int.natCast_mul]; exact Int.ofNat_le.2 hb2) (by omega)
 have hcells:madeCells v.cells (k*i.size)=(reps z k).toArray:=by
  have:=z1O v.cells k
  rw [hvc] at this ⊢
  simp only [List.size_toArray,hzk] at this
  rw [hik]
  simpa using this
 have hml:k≤maxLen:=by show k≤9223372036854775807; omega
 refine .inl ⟨by simp [gate,hg],?_⟩
 simp only [Int.toNat_natCast,hcells] at hr
 have hB:Blk (w.alloc (.cells (reps z k).toArray e)) w.heap.size e (reps z k):=q6Y _ _ _
 have hO:Own (w.alloc (.cells (reps z k).toArray e)) 0 e (Rep.sz α) (.slice (some ⟨w.heap.size,0,none⟩) k k) k (reps z k):=Own.of_blk hB (by rw [z2y,hzk]) (Nat.zero_le _) hml
 have hR:=h (some ⟨w.heap.size,0,none⟩) k k (w.alloc (.cells (reps z k).toArray e)) (Ext.alloc _ _) ⟨[([w.heap.size],[])],⟨⟨reps z k,.inl ⟨by simpa using hO,rfl⟩,by simpa using ownL.reps (hx _) k⟩,trivial⟩,by simp [blks],by simpa [blks] using hB.lt⟩
 simp only [execOp,ho,hl,hc,Sem.run_bind,hr,Result.andThen_ok,Sem.run_pure]
 exact hR
class FlatN (α:Type) [Sep α]:Prop where
 none:∀ {L:List Nat} {w:World} {x:α} {cs:List Value},own L w x cs→L=[]
instance:FlatN Int:=⟨fun h=>h.1⟩
theorem FlatN.list {α:Type}[Sep α][FlatN α]:∀ {xs:List α} {L:List Nat} {cs:List Value},ownL w L xs cs→L=[]
 | [],_,_,h=>h.1
 | _ :: _,_,_,⟨L1,L2,c,r,hL,hc,h1,h2⟩=>by rw [hL,FlatN.none h1,FlatN.list h2]; rfl
theorem noO {α:Type}[Sep α][FlatN α]{xs:List α}:∀ L C F w,(It.O e xs v).p L C F w→C=[]:=fun _ _ _ _ ⟨_,_,h⟩=>FlatN.list h
theorem noB {b:Nat}{T:TypeId}:∀ L C F w,(It.B b T cs).p L C F w→C=[]:=fun _ _ _ _ ⟨_,h,_⟩=>h
end
end Go.E
namespace Go.E
open Go
open Rep (rd)
open Sep (own)
def idxL:Nat→List Value→List (Nat × Value)
 | _,[]=>[]
 | k,v :: vs=>(k,v) :: idxL (k+1) vs
theorem j4u:∀ (vs:List Value) (k:Nat) (cs:Array Value),(∀ v∈vs,v.cells=#[v])→cs.size=k+vs.length→Instr.fill (fun i=>some (i*1,1)) cs (idxL k vs)=some (cs.toList.take k++vs).toArray
 | [],k,cs,_,h=>by
  simp only [idxL,Instr.fill,List.append_nil]
  congr 1
  apply Array.ext'
  simp at h
  simp [List.take_of_length_le,h]
 | v :: vs,k,cs,h1,h=>by
  have hv:=h1 v (by simp)
  simp only [List.length_cons] at h
  have ih:=j4u vs (k+1) (cs.setIfInBounds k v) (fun u hu=>h1 u (by simp [hu])) (by simp; omega)
  simp only [idxL,Instr.fill,hv]
  have hk:k < cs.toList.length:=by simp; omega
  have e1:¬ (((#[v]:Array Value).size≠1||k*1+(#[v]:Array Value).size > cs.size)=true):=by simp; omega
  rw [if_neg e1]
  have e2:(#[v]:Array Value).zipIdx.foldl (fun cs (x:Value × Nat)=>cs.setIfInBounds (k*1+x.2) x.1) cs=cs.setIfInBounds k v:=by simp
  have e3:(cs.setIfInBounds k v).toList.take (k+1)=cs.toList.take k++[v]:=by
   rw [Array.toList_setIfInBounds,List.take_add_one,List.take_set_of_le (Nat.le_refl _)]
   simp at hk
   simp [hk]
  rw [e3,List.append_assoc,List.singleton_append] at ih
  exact (congrArg (fun c=>Instr.fill _ c _) e2).trans ih
section
variable {F0:Nat→Prop}{M:List Nat}{w0 w w' : World}{fr:List Pr}{ow:List It}{i j:Nat}{e:TypeId}{v:Value}{cs:List Value}
variable {P:Program}{n d:Nat}{Q:Post}{ρ:Env}{ops:Array Oper}{o:Oper}{rest:List Oper}
theorem j4v {T m:Nat}{z:Value}{vs:List Value}(hT:q4Y P T=some e)(hk:szT P e=some 1)(hz:q6d P e=some [z])(h1:∀ v∈vs,v.cells=#[v])(hn:vs.length=m)(hm:Nat.blt 0 m=true)(hm2:Nat.ble m 100000=true) :
  (Instr.buildSlice T m (idxL 0 vs).toArray).run P w = .ok (.slice (some ⟨w.heap.size,0,none⟩) m m) (w.alloc (.cells vs.toArray e)):=by
 obtain⟨zv,hzv,hzc⟩:=q6L (P:=P) (w:=w) hz
 have hm' : 0 < m:=by simpa using hm
 have hm2' : m≤100000:=by simpa using hm2
 have n1:¬ 16777216 < m:=by omega
 have n2:¬ m=0:=by omega
 have hf:=j4u vs 0 ((Array.range m).map (fun x=>(#[z]:Array Value)[x % 1]!)) h1 (by simp [hn])
 have hnr:=q8w (P:=P) (w:=w) e vs
 simp only [Nat.mul_one] at hf
 simp [Instr.buildSlice,run_underlying (q5f hT),q4M hk,n1,n2,hzv,hzc]
 simp at hf
 rw [hf]
 simp [hnr]
theorem q1Y {α:Type}[Sep α]{T m:Nat}{z:Value}{parts:Array (Nat × Operand)}{vs:List Value}{xs:List α}(hg:o.guard=none)(hd:o.dst=some d)(ho:o.op = .buildSlice T m parts)(hT:q4Y P T=some e)(hk:szT P e=some 1)(hz:q6d P e=some [z])
  (hp:parts.toList.map (fun p=>(p.1,E.ev ρ p.2))=idxL 0 vs) (h1:∀ v∈vs,v.cells=#[v]) (hn:vs.length=m) (hm:Nat.blt 0 m=true) (hm2:Nat.ble m 100000=true) (hx:∀ w,ownL w [] xs vs) (hs:Rep.sz α=1) (H:HL F0 M w0 w fr ow)
  (h:∀ A k c w',HL F0 M w0 w' fr (ow++[It.O e xs (.slice A k c)])→WL P n ops Q rest (upd ρ d (.slice A k c)) w'):WL P n ops Q (o :: rest) ρ w:=
 q0v hg fun a K ha hok hK=>by
  unfold Oper.wp
  rw [q4n ha hok]
  have hp' : parts.map (fun p=>(p.1,E.ev ρ p.2))=(idxL 0 vs).toArray:=by
   apply Array.ext'; simpa using hp
  have hr:=j4v (P:=P) (w:=w) hT hk hz h1 hn hm hm2
  simp only [execOp,ho,hp',Sem.run_bind,hr,Result.andThen_ok,Sem.run_pure]
  refine hK _ _ (by
   rw [hd]
   refine h _ _ _ _ ?_
   have hxl:xs.length=m:=by
    have:=(hx w).rd.len
    rw [hs,Nat.mul_one] at this
    omega
   have hm2' : m≤100000:=by simpa using hm2
   have hml:xs.length≤maxLen:=by show _≤9223372036854775807; omega
   have:=H.newO (xs:=xs) (C:=[]) (Ext.alloc w (.cells vs.toArray e)) (Nat.le_refl _) (q6Y w e vs) (hx _) List.nodup_nil (by simp) hml
   rw [hxl] at this
   exact this)
end
theorem ownL.cons1 {α:Type}[Sep α]{w:World}{x:α}{xs:List α}{v:Value}{vs:List Value}(h:own [] w x [v])(h2:ownL w [] xs vs):ownL w [] (x :: xs) (v :: vs):=⟨[],[],[v],vs,rfl,rfl,h,h2⟩
theorem k1e {p:Value→Prop}:∀ v∈([]:List Value),p v:=by simp
theorem z5g {p:Value→Prop}{a:Value}{l:List Value}(h:p a)(hl:∀ v∈l,p v):∀ v∈a :: l,p v:=fun v hv=>by
 rcases List.mem_cons.1 hv with rfl | hv
 ·exact h
 ·exact hl v hv
class CntSz (α:Type) [Sz α] [Mk α]:Prop where
 le:∀ x:α,Mk.cnt x≤16*(1+Sz.szd x)
class CntTSz (α:Type) [Sz α] [MkT α]:Prop where
 le:∀ x:α,MkT.cntT x≤16*Sz.szd x
end Go.E
namespace Go.E
open Go
open Rep (rd)
open Sep (own)
theorem j2U {α:Type}{i1 i2:Rep α}{S:Nat→Prop}{w:World}(h:∀ x cs,i1.rd S w x cs→i2.rd S w x cs):∀ {xs:List α} {cs:List Value},@rdL α i1 S w xs cs→@rdL α i2 S w xs cs
 | [],_,e=>e
 | _ :: _,_,⟨c,r,e,h1,h2⟩=>⟨c,r,e,h _ _ h1,j2U h h2⟩
theorem j5T {α:Type}{i1 i2:Rep α}{S:Nat→Prop}{w:World}{xs:List α}{v:Value}(h:∀ x cs,i1.rd S w x cs→i2.rd S w x cs):@rdS α i1 S w xs v→@rdS α i2 S w xs v
 | ⟨A,cap,cells,e,h1,h2,h3,h4⟩=>⟨A,cap,cells,e,h1,h2,j2U h h3,h4⟩
theorem j0K {α:Type}{i1 i2:Sep α}{w:World}(h:∀ L x cs,i1.own L w x cs→i2.own L w x cs):∀ {xs:List α} {L:List Nat} {cs:List Value},@ownL α i1 w L xs cs→@ownL α i2 w L xs cs
 | [],_,_,e=>e
 | _ :: _,_,_,⟨L1,L2,c,r,e,e2,h1,h2⟩=>⟨L1,L2,c,r,e,e2,h _ _ _ h1,j0K h h2⟩
theorem j4w {α:Type}{i1 i2:Sep α}{w:World}{L:List Nat}{xs:List α}{v:Value}(h:∀ L x cs,i1.own L w x cs→i2.own L w x cs):@ownS α i1 L w xs v→@ownS α i2 L w xs v
 | ⟨A,cap,cells,e,h1,h2,h3⟩=>⟨A,cap,cells,e,h1,h2,h3.imp id fun ⟨b,o,e,cur,L',p1,p2,p3,p4,p5⟩=>⟨b,o,e,cur,L',p1,p2,p3,p4,j0K h p5⟩⟩
@[reducible] def k1f (α:Type) (k:Nat) (hk:0 < k):Sep α where
 sz:=k
 pos:=hk
 rd _ _ _ _:=False
 len h:=h.elim
 one h:=h.elim
 mono h _:=h
 frame h _:=h
 bound h:=h
 own _ _ _ _:=False
 own_rd h:=h
 own_frame h _:=h
 own_lt h:=h.elim
@[reducible] def j1O {α:Type} (N:Nat→Sep α) (k:Nat) (hk:0 < k) (hsz:∀ n,(N n).sz=k):Sep α where
 sz:=k
 pos:=hk
 rd S w x cs:=∃ n,(N n).rd S w x cs
 len:=fun ⟨n,h⟩=>(hsz n).symm▸(N n).len h
 one:=fun ⟨n,h⟩=>(N n).one h
 mono:=fun ⟨n,h⟩ hS=>⟨n,(N n).mono h hS⟩
 frame:=fun ⟨n,h⟩ hf=>⟨n,(N n).frame h hf⟩
 bound:=fun ⟨n,h⟩=>⟨n,(N n).bound h⟩
 own L w x cs:=∃ n,(N n).own L w x cs
 own_rd:=fun ⟨n,h⟩=>⟨n,(N n).own_rd h⟩
 own_frame:=fun ⟨n,h⟩ hf=>⟨n,(N n).own_frame h hf⟩
 own_lt:=fun ⟨n,h⟩=>(N n).own_lt h
section
variable {α:Type}{N:Nat→Sep α}{k:Nat}{hk:0 < k}{hsz:∀ n,(N n).sz=k}
theorem j5U (hm:∀ n S w x cs,(N n).rd S w x cs→(N (n+1)).rd S w x cs){S:Nat→Prop}{w:World}{x:α}{cs:List Value}:∀ {n m:Nat},n≤m→(N n).rd S w x cs→(N m).rd S w x cs
 | n,0,h,h1=>by
   obtain rfl:n=0:=by omega
   exact h1
 | n,m+1,h,h1=>by
  by_cases e:n=m+1
  ·subst e; exact h1
  ·exact hm m _ _ _ _ (j5U hm (by omega) h1)
theorem j2V (hm:∀ n L w x cs,(N n).own L w x cs→(N (n+1)).own L w x cs){L:List Nat}{w:World}{x:α}{cs:List Value}:∀ {n m:Nat},n≤m→(N n).own L w x cs→(N m).own L w x cs
 | n,0,h,h1=>by
   obtain rfl:n=0:=by omega
   exact h1
 | n,m+1,h,h1=>by
  by_cases e:n=m+1
  ·subst e; exact h1
  ·exact hm m _ _ _ _ (j2V hm (by omega) h1)
theorem j5V (hm:∀ n S w x cs,(N n).rd S w x cs→(N (n+1)).rd S w x cs){S:Nat→Prop}{w:World}:∀ {xs:List α} {cs:List Value},@rdL α (j1O N k hk hsz).toRep S w xs cs→∃ n,@rdL α (N n).toRep S w xs cs
 | [],_,e=>⟨0,e⟩
 | _ :: _,_,⟨c,r,e,⟨n,h1⟩,h2⟩=>by
  obtain⟨m,h3⟩:=j5V hm h2
  exact⟨max n m,c,r,e,j5U hm (Nat.le_max_left n m) h1,j2U (fun x cs h=>j5U hm (Nat.le_max_right n m) h) h3⟩
theorem j9J (hm:∀ n S w x cs,(N n).rd S w x cs→(N (n+1)).rd S w x cs){S:Nat→Prop}{w:World}{xs:List α}{v:Value}:@rdS α (j1O N k hk hsz).toRep S w xs v→∃ n,@rdS α (N n).toRep S w xs v
 | ⟨A,cap,cells,e,h1,h2,h3,h4⟩=>by
  obtain⟨n,h5⟩:=j5V hm h3
  exact⟨n,A,cap,cells,e,h1,h2,h5,h4⟩
theorem j4x (hm:∀ n L w x cs,(N n).own L w x cs→(N (n+1)).own L w x cs){w:World}:∀ {xs:List α} {L:List Nat} {cs:List Value},@ownL α (j1O N k hk hsz) w L xs cs→∃ n,@ownL α (N n) w L xs cs
 | [],_,_,e=>⟨0,e⟩
 | _ :: _,_,_,⟨L1,L2,c,r,e,e2,⟨n,h1⟩,h2⟩=>by
  obtain⟨m,h3⟩:=j4x hm h2
  exact⟨max n m,L1,L2,c,r,e,e2,j2V hm (Nat.le_max_left n m) h1,j0K (fun L x cs h=>j2V hm (Nat.le_max_right n m) h) h3⟩
theorem j7R (hm:∀ n L w x cs,(N n).own L w x cs→(N (n+1)).own L w x cs){L:List Nat}{w:World}{xs:List α}{v:Value}:@ownS α (j1O N k hk hsz) L w xs v→∃ n,@ownS α (N n) L w xs v
 | ⟨A,cap,cells,e,h1,h2,h3⟩=>by
  rcases h3 with h3 | ⟨b,o,e2,cur,L',p1,p2,p3,p4,p5⟩
  ·exact⟨0,A,cap,cells,e,h1,h2,.inl h3⟩
  ·obtain⟨n,h5⟩:=j4x hm p5
   exact⟨n,A,cap,cells,e,h1,h2,.inr ⟨b,o,e2,cur,L',p1,p2,p3,p4,h5⟩⟩
end
open Classical in
noncomputable def recO {ρ:Type} (g:Nat→Option ρ):Option ρ:=if h:∃ r N,∀ n,N≤n→g n=some r then some h.choose else none
theorem q4v {ρ:Type}{g:Nat→Option ρ}{r:ρ}(h:recO g=some r):∃ n,g n=some r:=by
 unfold recO at h
 split at h
 ·rename_i hx
  cases h
  obtain⟨N,hN⟩:=hx.choose_spec
  exact⟨N,hN N (Nat.le_refl _)⟩
 ·cases h
theorem q7E {ρ:Type}{g:Nat→Option ρ}{r:ρ}(N:Nat)(h:∀ n,N≤n→g n=some r):recO g=some r:=by
 unfold recO
 have hx:∃ r N,∀ n,N≤n→g n=some r:=⟨r,N,h⟩
 rw [dif_pos hx]
 obtain⟨M,hM⟩:=hx.choose_spec
 have h1:=h (max N M) (Nat.le_max_left _ _)
 have h2:=hM (max N M) (Nat.le_max_right _ _)
 exact h2.symm.trans h1
section
variable {P:Program}{n:Nat}{ops:Array Oper}{ρ:Env}{w:World}
theorem z2A {o:Oper}{a:Act}{w:World}{K K' : Act→World→Prop}{Q Q' : Exit→Act→World→Prop}(h:∀ a w,K a w→K' a w)(hq:∀ e a w,e≠.normal→Q e a w→Q' e a w)
  (hh:o.wp P a w K Q):o.wp P a w K' Q':=by
 unfold Oper.wp at *
 generalize (execOp a.eval o).run P w=r at *
 cases r with
 | ok n w'=>
  cases n<;>simp only [Oper.upon] at hh ⊢ <;>
   first
    | exact h _ _ hh
    | exact hq _ _ _ (by simp) hh
    | exact Calls.mono hh (fun e w'' he=>by cases e<;>first | exact h _ _ he | exact hq _ _ _ (by simp) he | exact he.imp fun a h=>h.imp fun w h=>hq _ _ _ (by simp) h | exact he)
    | exact Rows.mono hh (fun _ _ he=>h _ _ he)
 | halt x w'=>cases x<;>simp only [Oper.upon] at hh ⊢ <;> first | exact hh | exact hq _ _ _ (by simp) hh
theorem j0q {Q1 Q2:Exit→Act→World→Prop}(hq:∀ e a w,e≠.normal→Q1 e a w→Q2 e a w):∀ (m:Nat) (l:List Oper),(∀ a w,Q1 .normal a w→wpList P ops Q2 (l.drop m) a w)→∀ a w,wpList P ops Q1 (l.take m) a w→wpList P ops Q2 l a w
 | 0,l,h2,a,w,h1=>h2 a w h1
 | m+1,[],h2,a,w,h1=>h2 a w h1
 | m+1,o :: l,h2,a,w,h1=>by
  have ih:=j0q hq m l h2
  simp only [List.take_succ_cons] at h1
  unfold wpList at h1 ⊢
  split at h1
  ·rename_i hw
   rw [if_pos hw]
   exact h1.imp (z2A (fun a w=>ih a w) hq) fun h=>⟨h.1,h.2.imp fun a h=>h.imp fun w h=>hq _ _ _ (by simp) h⟩
  ·rename_i hw
   rw [if_neg hw]
   exact ih _ _ h1
theorem WL.cut {Q:Post}{rest:List Oper}(m:Nat)(J:Env→World→Prop)(h1:WL P n ops (z5F J Q) (rest.take m) ρ w)(h2:∀ ρ' w',J ρ' w'→WL P n ops Q (rest.drop m) ρ' w'):WL P n ops Q rest ρ w:=by
 intro hok a ha
 have hok1:(rest.take m).all (q5L n)=true:=by
  rw [List.all_eq_true] at hok ⊢
  exact fun x hx=>hok x (List.mem_of_mem_take hx)
 have hok2:(rest.drop m).all (q5L n)=true:=by
  rw [List.all_eq_true] at hok ⊢
  exact fun x hx=>hok x (List.mem_of_mem_drop hx)
 refine j0q (Q1:=lift n (z5F J Q)) (fun e a w he ⟨ρ',h3,h4⟩=>⟨ρ',h3,by cases e<;>first | exact absurd rfl he | exact h4⟩) m rest (fun a w ⟨ρ',h3,h4⟩=>?_) a w (h1 hok1 a ha)
 exact h2 ρ' w h4 hok2 a h3
end
end Go.E
namespace Go.E
open Go
open Rep (rd)
open Sep (own)
section
variable {F0:Nat→Prop}{M:List Nat}{w0 w w' : World}{fr:List Pr}{ow:List It}
theorem HL.argA {b:Nat}{c:Value}{cs:List Value}(H:HL F0 [] w w fr ow)(h:F0 b∧At w b 0 (c :: cs)):HL F0 [] w w (fr++[Pr.A b 0 (c :: cs)]) ow:=by
 obtain⟨Fr,LC,h1,h2,h3⟩:=H
 have hlt:b < w.heap.size:=h.2.lt (j:=0) rfl
 exact⟨Fr,LC,h1,h2.app ⟨⟨.inl ⟨h.1,hlt,by simp⟩,h.2⟩,trivial⟩,h3⟩
end
def OpensF (P:Program)(T:TypeId)(α:Type)[Rep α](N:Nat):Prop:=
 P.cellsOf T=Rep.sz α∧∀ (H:Type) (enc:TypeId × Value→H) (w:World) (base:Nat) (spare:Nat→Bool) (held:Bool) (fuel:Nat) (cs:List Value) (x:DataW H × List MemPlace),
  fuel < N→DataW.trod enc P w base spare held fuel T cs=some x→∃ a:α,rd (fun _=>True) w a cs
theorem Opens.toF {P:Program}{T:TypeId}{α:Type}[Rep α]{N:Nat}(h:Opens P T α):OpensF P T α N:=⟨h.1,fun H enc w base spare held fuel cs x _ hx=>h.2 H enc w base spare held fuel cs x hx⟩
theorem Opens.ofF {P:Program}{T:TypeId}{α:Type}[Rep α](h:∀ N,OpensF P T α N):Opens P T α:=⟨(h 0).1,fun H enc w base spare held fuel cs x hx=>(h (fuel+1)).2 H enc w base spare held fuel cs x (Nat.lt_succ_self _) hx⟩
theorem OpensF.zero {P:Program}{T:TypeId}{α:Type}[Rep α]{k:Nat}(hc:P.cellsOf T=k)(hk:Rep.sz α=k):OpensF P T α 0:=⟨hc.trans hk.symm,fun _ _ _ _ _ _ _ _ _ h=>absurd h (Nat.not_lt_zero _)⟩
theorem OpensF.slice {P:Program}{T e:TypeId}{α:Type}[Rep α]{N:Nat}(hc:P.cellsOf T=1)(ht:P.underlying T=some (.slice e))(he:OpensF P e α N):OpensF P T (List α) N:=by
 refine⟨hc,fun H enc w base spare held fuel cs x hN h=>?_⟩
 rcases DataW.trod_slice ht h with ⟨rfl,_⟩ | ⟨a,len,cap,elems,rest,n,rfl,rfl,_,_,hl,hm,hlen0,hel,_⟩
 ·exact⟨[],_,rfl,none,0,[],rfl,Nat.le_refl _,by decide,rfl,.inl rfl⟩
 obtain⟨b,o,sp⟩:=a
 have key:∀ k,k≤len→∃ (xs:List α) (cells:List Value),xs.length=k∧rdL (fun _=>True) w xs cells∧(k=0∨sp=none)∧∀ j v,cells[j]? = some v→w.cell? ⟨b,o+j,none⟩=some v:=by
  intro k
  induction k with
  | zero=>intro _; exact⟨[],[],rfl,rfl,.inl rfl,by simp⟩
  | succ k ih=>
   intro hk
   obtain⟨xs,cells,h1,h2,h3,h4⟩:=ih (by omega)
   have hek:=hel k (by omega)
   rw [List.getElem?_eq_getElem (by omega)] at hek
   obtain⟨cs',hcs,htr⟩:=Option.bind_eq_some_iff.1 hek
   obtain⟨y,hy⟩:=he.2 H enc w base spare held n cs' _ (by omega) htr
   have hlen:=Rep.len hy
   have hp:=Rep.pos (α:=α)
   rw [he.1] at hcs
   have hsp:sp=none:=by
    rcases h3 with rfl | h3
    ·obtain⟨_,hl',hat⟩:=World.cells?_some hcs
     have h0:=hat 0 hp
     rw [List.getElem?_eq_getElem (by omega)] at h0
     simp only [Nat.zero_mul,Addr.add,if_true] at h0
     cases sp with
     | none=>rfl
     | some f=>
      exfalso
      unfold World.cell? at h0
      split at h0
      ·simp at h0
      ·cases h0
    ·exact h3
   subst hsp
   have hadd:Addr.add ⟨b,o,none⟩ (k*Rep.sz α)=⟨b,o+k*Rep.sz α,none⟩:=by
    unfold Addr.add; split
    ·next h0=>rw [h0]; rfl
    ·rfl
   rw [hadd] at hcs
   obtain⟨_,hat⟩:=At.ofCells hcs
   have hcl:=h2.len
   refine⟨xs++[y],cells++cs',by simp [h1],rdL.append h2 (rdL.single hy),.inr rfl,fun j v hj=>?_⟩
   ·by_cases hjc:j < cells.length
    ·rw [List.getElem?_append_left hjc] at hj; exact h4 j v hj
    ·rw [List.getElem?_append_right (by omega)] at hj
     have:=hat _ v hj
     rw [← this]; congr 2
     rw [hcl,h1]
     have:cells.length=k*Rep.sz α:=by rw [hcl,h1]
     omega
 obtain⟨xs,cells,h1,h2,h3,h4⟩:=key len (Nat.le_refl _)
 subst h1
 refine⟨xs,_,rfl,_,cap,cells,rfl,hl,hm,h2,?_⟩
 rcases h3 with h3 | rfl
 ·exact .inl (List.eq_nil_of_length_eq_zero h3)
 ·exact .inr ⟨b,o,rfl,trivial,h4⟩
theorem OpensF.fld {P:Program}{α:Type}[Rep α]{H:Type}{enc:TypeId × Value→H}{w:World}{base n N:Nat}{spare:Nat→Bool}{held:Bool}{fs:Array Field}{cs:List Value}{xs:List (DataW H × List MemPlace)}{i:Nat}{f:Field}{t off k:Nat}(he:OpensF P t α N)(hN:n < N)
  (hf:∀ (i:Nat) (f:Field),fs[i]? = some f→DataW.trod enc P w base spare held n f.type ((cs.drop f.offset).take (P.cellsOf f.type))=xs[i]?) (hlen:xs.length=fs.size) (hi:fs[i]? = some f) (ht:f.type=t) (ho:f.offset=off) (hk:Rep.sz α=k):∃ a:α,rd (fun _=>True) w a ((cs.drop off).take k):=by
 have h:=hf i f hi
 have hix:i < xs.length:=by rw [hlen]; exact (Array.getElem?_eq_some_iff.1 hi).1
 rw [List.getElem?_eq_getElem hix,ht,ho,he.1,hk] at h
 exact he.2 H enc w base spare held n _ _ hN h
theorem OpensF.struct {P:Program}{T:TypeId}{α:Type}[Rep α]{fs:Array Field}{k N:Nat}(hc:P.cellsOf T=k)(hk:Rep.sz α=k)(ht:P.underlying T=some (.struct fs))
  (h:∀ (H:Type) (enc:TypeId × Value→H) (w:World) (base:Nat) (spare:Nat→Bool) (held:Bool) (n:Nat) (cs:List Value) (xs:List (DataW H × List MemPlace)),n < N→cs.length=k→xs.length=fs.size →
   (∀ (i:Nat) (f:Field),fs[i]? = some f→DataW.trod enc P w base spare held n f.type ((cs.drop f.offset).take (P.cellsOf f.type))=xs[i]?)→∃ a:α,rd (fun _=>True) w a cs):OpensF P T α (N+1):=by
 refine⟨hc.trans hk.symm,fun H enc w base spare held fuel cs x hN hx=>?_⟩
 obtain⟨xs,n,rfl,_,hl,hx,hf⟩:=DataW.trod_struct ht hx
 exact h H enc w base spare held n cs xs (by omega) (hl.trans hc) hx hf
end Go.E
namespace Go.E
open Go
section
variable {P:Program}{n:Nat}{Q:Post}{ρ:Env}{w:World}{ops:Array Oper}{o:Oper}{rest:List Oper}{F:Env→Prop}
structure RelW (R:World→World→Prop):Prop where
 trans:∀ {a b c:World},R a b→R b c→R a c
 ext:∀ {a b:World},Ext a b→R a b
 size:∀ {a b:World},R a b→a.heap.size≤b.heap.size
def z3B (ops:Array Oper)(h:Nat)(C:List Nat):Bool:=
 C.all (fun i=>Nat.blt i h)&&(List.range C.length).all fun k=>match C[k+1]?,C[k]? with
  | some j,some i=>Nat.blt i j&&(match ops[j]? with | some o=>(q2v o).contains i | none=>false)
  | _,_=>true
theorem j1P {h:Nat}{C:List Nat}(hC:z3B ops h C=true){k i:Nat}(hk:C[k]? = some i):i < h:=by
 simp only [z3B,Bool.and_eq_true] at hC
 simpa using List.all_eq_true.1 hC.1 i (List.mem_of_getElem? hk)
theorem z5h {h:Nat}{C:List Nat}(hC:z3B ops h C=true){k i j:Nat}(hi:C[k]? = some i)(hj:C[k+1]? = some j):i < j∧∀ o,ops[j]? = some o→(q2v o).contains i=true:=by
 simp only [z3B,Bool.and_eq_true] at hC
 have:=List.all_eq_true.1 hC.2 k (List.mem_range.2 (List.getElem?_eq_some_iff.1 hi).1)
 rw [hi,hj] at this
 simp only [Bool.and_eq_true] at this
 refine⟨by simpa using this.1,fun o ho=>?_⟩
 have h2:=this.2
 rw [ho] at h2
 exact h2
theorem j2W {h:Nat}{C:List Nat}(hC:z3B ops h C=true){k j:Nat}{o:Oper}(hj:C[k+1]? = some j)(ho:ops[j]? = some o):∃ i,C[k]? = some i∧(q2v o).contains i=true:=by
 have hk:k < C.length:=by have:=(List.getElem?_eq_some_iff.1 hj).1; omega
 exact⟨C[k],List.getElem?_eq_getElem hk,(z5h hC (List.getElem?_eq_getElem hk) hj).2 o ho⟩
theorem z5i {h:Nat}{C:List Nat}(hC:z3B ops h C=true):∀ {d k i j:Nat},C[k]? = some i→C[k+d+1]? = some j→i < j
 | 0,k,i,j,hi,hj=>(z5h hC hi hj).1
 | d+1,k,i,j,hi,hj=>by
  have hk:k+d+1 < C.length:=by have:=(List.getElem?_eq_some_iff.1 hj).1; omega
  have h1:=z5i hC (d:=d) hi (List.getElem?_eq_getElem hk)
  have h2:=(z5h hC (List.getElem?_eq_getElem hk) hj).1
  omega
theorem z2k {h:Nat}{C:List Nat}(hC:z3B ops h C=true){k k' i:Nat}(hk:C[k]? = some i)(hk' : C[k']? = some i):k=k':=by
 rcases Nat.lt_trichotomy k k' with hlt | rfl | hlt
 ·have:=z5i hC (d:=k' - k - 1) hk (by rw [show k+(k' - k - 1)+1=k' by omega]; exact hk')
  omega
 ·rfl
 ·have:=z5i hC (d:=k - k' - 1) hk' (by rw [show k'+(k - k' - 1)+1=k by omega]; exact hk)
  omega
def q2N (os:List (Option Nat))(i:Nat):Nat:=match os[i]? with
 | some (some k)=>k
 | _=>i
def ownB (ops:Array Oper)(h:Nat)(os:List (Option Nat)):Bool:=
 (List.range h).all fun i=>match ops[i]? with
  | some o=>(Nat.beq (q2N os i) i||((q2v o).contains (q2N os i)&&Nat.beq (q2N os (q2N os i)) (q2N os i))) &&
    (List.range h).all fun j=>Nat.beq i j||Nat.beq (q2N os i) i||Nat.beq (q2N os j) j || !(Nat.beq (q2N os i) (q2N os j))
  | none=>false
theorem z5j {h:Nat}{os:List (Option Nat)}(hO:ownB ops h os=true){i:Nat}{o:Oper}(hi:i < h)(ho:ops[i]? = some o):q2N os i=i∨(q2v o).contains (q2N os i)=true∧q2N os (q2N os i)=q2N os i:=by
 have h1:=List.all_eq_true.1 hO i (List.mem_range.2 hi)
 simp only [ho,Bool.and_eq_true,Bool.or_eq_true] at h1
 rcases h1.1 with h1 | h1
 ·exact .inl (Nat.eq_of_beq_eq_true h1)
 ·exact .inr ⟨h1.1,Nat.eq_of_beq_eq_true h1.2⟩
theorem j7S {h:Nat}{os:List (Option Nat)}(hO:ownB ops h os=true){i j:Nat}(hi:i < h)(hj:j < h)(hij:i≠j)(he:q2N os i=q2N os j)(h1:q2N os i≠i)(h2:q2N os j≠j):False:=by
 have h3:=List.all_eq_true.1 hO i (List.mem_range.2 hi)
 cases ho:ops[i]? with
 | none=>rw [ho] at h3; cases h3
 | some o=>
  simp only [ho,Bool.and_eq_true] at h3
  have h4:=List.all_eq_true.1 h3.2 j (List.mem_range.2 hj)
  simp only [Bool.or_eq_true,Bool.not_eq_true'] at h4
  rcases h4 with ((h4 | h4) | h4) | h4
  ·exact hij (Nat.eq_of_beq_eq_true h4)
  ·exact h1 (Nat.eq_of_beq_eq_true h4)
  ·exact h2 (Nat.eq_of_beq_eq_true h4)
  ·rw [he] at h4
   have:Nat.beq (q2N os j) (q2N os j)=true:=Nat.beq_refl _
   rw [this] at h4; cases h4
def k1g (P:Program)(n:Nat)(ops:Array Oper)(h:Nat)(D:Nat→List Nat)(Ψ:Nat→(Nat→Prop)→List Value→World→Prop)(Mw:Nat→Prop)(Θ:Nat→World→Prop)(C:List Nat)(os:List (Option Nat))(ρ:Env)(w:World):Prop:=
 ∀ (i:Nat) (o:Oper),ops[i]? = some o→i < h→∀ ρ' w' (S:Nat→Nat→Prop) (L:Nat→Prop),Chg (fun q=>Mw q∨w.heap.size≤q) w w'→(∀ t,(∀ j,j < h→q3f ops j≠some t)→ρ' t=ρ t)→(∀ j,(q2v o).contains j=true→L j) →
  (∀ j oj,L j→ops[j]? = some oj→∀ k,(q2v oj).contains k=true→L k)→(∀ j,L j→j < h)→(∀ j,L j→Ψ j (S (q2N os j)) ((D j).map ρ') w')→(∀ j q,L j→S j q→w.heap.size≤q∧q < w'.heap.size) →
  (i ∉ C→q2N os i=i→(∃ m,Θ m w')→OpW P n ops o ρ' w' (fun v w''=>Ext w' w''∧Ψ i (fun q=>w'.heap.size≤q∧q < w''.heap.size) ((D i).map (E.put ρ' o.dst v)) w'')) ∧
  (∀ m,C[m]? = some i→Θ m w'→q2N os i=i∧OpW P n ops o ρ' w' (fun v w''=>Chg Mw w' w''∧Θ (m+1) w''∧Ψ i (fun q=>w'.heap.size≤q∧q < w''.heap.size) ((D i).map (E.put ρ' o.dst v)) w'')) ∧
  (i ∉ C→q2N os i≠i→(∃ m,Θ m w')→OpW P n ops o ρ' w' (fun v w''=>Chg (S (q2N os i)) w' w''∧Ψ i (S (q2N os i)) ((D i).map (E.put ρ' o.dst v)) w''∧Ψ (q2N os i) (S (q2N os i)) ((D (q2N os i)).map ρ') w''))
structure LooseR (n:Nat) (ops:Array Oper) (h:Nat) (D:Nat→List Nat) (Ψ:Nat→(Nat→Prop)→List Value→World→Prop) (Mw:Nat→Prop) (Θ:Nat→World→Prop) (C:List Nat) (os:List (Option Nat)) (S:Nat→Nat→Prop) (ρ0:Env) (w0:World) (listed:Array Bool) (ρ:Env) (w:World):Prop where
 head:HeadInv .any ops h listed
 ext:Chg (fun q=>Mw q∨w0.heap.size≤q) w0 w
 out:∀ t,(∀ j,j < h→q3f ops j≠some t)→ρ t=ρ0 t
 apart:∀ i j q,i < h→j < h→listed.getD i false=true→listed.getD j false=true→S i q→S j q→i=j
 bound:∀ i q,i < h→listed.getD i false=true→S i q→w0.heap.size≤q∧q < w.heap.size
 known:∀ j,j < h→listed.getD j false=true→Ψ j (S (q2N os j)) ((D j).map ρ) w
 chain:∃ m,m≤C.length∧(∀ k x,C[k]? = some x→(listed.getD x false=true↔k < m))∧Θ m w
section loose
variable {h:Nat}{D:Nat→List Nat}
theorem q1F {id:Nat}(h:Nat)(D:Nat→List Nat)(Ψ:Nat→(Nat→Prop)→List Value→World→Prop)(Mw:Nat→Prop)(hMw:∀ q,Mw q→q < w.heap.size)(Θ:Nat→World→Prop)(C:List Nat)(os:List (Option Nat))(hm:P.follows .mixedOrders=true)(hB:z0N ops h D=true)(hC:z3B ops h C=true)(hO:ownB ops h os=true)
  (hext:∀ i S vs a b (T:Nat→Prop),Ψ i S vs a→Chg T a b→(∀ q,T q→¬ S q)→(∀ q,T q→Mw q∨w.heap.size≤q)→Ψ i S vs b) (hΘ0:Θ 0 w) (hΘx:∀ m a b (T:Nat→Prop),Θ m a→Chg T a b→(∀ q,T q→w.heap.size≤q)→Θ m b)
  (hstep:k1g P n ops h D Ψ Mw Θ C os ρ w)
  (hend:∀ ρ' w' (S:Nat→Nat→Prop),Chg (fun q=>Mw q∨w.heap.size≤q) w w'→Θ C.length w'→(∀ t,(∀ j,j < h→q3f ops j≠some t)→ρ' t=ρ t)→(∀ i j q,i < h→j < h→S i q→S j q→i=j)→(∀ i q,i < h→S i q→w.heap.size≤q∧q < w'.heap.size)→(∀ j,j < h→Ψ j (S (q2N os j)) ((D j).map ρ') w')→WL P n ops Q (ops.toList.drop h) ρ' w'):CW P n (.region id ops true) Q ρ w:=by
 intro hok a ha
 have hok' : ops.toList.all (q5L n)=true:=by simpa [q9h] using hok
 refine wp_region_any hm ?_
 have hB':=hB
 simp only [z0N,Bool.and_eq_true] at hB'
 have hle:h≤ops.size:=by simpa using hB'.1.1.1
 have hseq:=hB'.2
 -- when the head is through
 have done:∀ (S:Nat→Nat→Prop) (listed:Array Bool) (ρ' : Env) (a:Act) (w' : World),LooseR n ops h D Ψ Mw Θ C os S ρ w listed ρ' w'→Rel n ρ' a→(∀ j,j < h→listed.getD j false=true)→wpAny P .any ops (lift n Q) (ops.size - h) listed a w':=by
  intro S listed ρ' a w' inv hr hall
  have hlisted:listed=Array.replicate h true++Array.replicate (ops.size - h) false:=by
   apply Array.ext
   ·simp [inv.head.size]; omega
   ·intro i h1 h2
    by_cases hi:i < h
    ·have:=hall i hi
     simp [h1] at this
     rw [this,Array.getElem_append_left (by simpa using hi)]
     simp
    ·have:=inv.head.tail i (by omega) (by rw [← inv.head.size]; exact h1)
     simp [h1] at this
     rw [this,Array.getElem_append_right (by simpa using Nat.le_of_not_lt hi)]
     simp
  subst hlisted
  have hΘ:Θ C.length w':=by
   obtain⟨m,hm1,hm2,hm3⟩:=inv.chain
   have:m=C.length:=by
    rcases Nat.lt_or_ge m C.length with hlt | hge
    ·have h1:=j1P hC (List.getElem?_eq_getElem hlt)
     have h2:=(hm2 m _ (List.getElem?_eq_getElem hlt)).1 (hall _ h1)
     omega
    ·omega
   rw [← this]; exact hm3
  have hw:=hend ρ' w' S inv.ext hΘ inv.out (fun i j q hi hj=>inv.apart i j q hi hj (hall i hi) (hall j hj)) (fun i q hi=>inv.bound i q hi (hall i hi)) (fun j hj=>inv.known j hj (hall j hj)) (by
   refine List.all_eq_true.2 fun o ho=>List.all_eq_true.1 hok' o (List.mem_of_mem_drop ho)) a hr
  have hlen:(ops.toList.drop h).length=ops.size - h:=by simp
  have:=wpAny_of_seq (P:=P) (md:=.any) (ops:=ops) (Q':=lift n Q) (ops.toList.drop h) h (Array.replicate h true++Array.replicate (ops.size - h) false) a w'
   (fun j=>by simp [List.getElem?_drop]) (by rw [hlen]; exact hseq) hw
  rwa [hlen] at this
 have main:∀ (c:Nat) (S:Nat→Nat→Prop) (listed:Array Bool) (ρ' : Env) (a:Act) (w' : World),((List.range h).filter (fun j=>!listed.getD j false)).length=c→LooseR n ops h D Ψ Mw Θ C os S ρ w listed ρ' w'→Rel n ρ' a →
   wpAny P .any ops (lift n Q) (c+(ops.size - h)) listed a w':=by
  intro c
  induction c with
  | zero=>
   intro S listed ρ' a w' hc inv hr
   rw [Nat.zero_add]
   refine done S listed ρ' a w' inv hr fun j hj=>?_
   have h0:(List.range h).filter (fun j=>!listed.getD j false)=[]:=List.eq_nil_of_length_eq_zero hc
   have:=List.filter_eq_nil_iff.1 h0 j (List.mem_range.2 hj)
   simpa using this
  | succ c ih=>
   intro S listed ρ' a w' hc inv hr
   have hex:∃ j,j < h∧listed.getD j true=false:=by
    have:((List.range h).filter (fun j=>!listed.getD j false))≠[]:=fun e=>by rw [e] at hc; simp at hc
    obtain⟨j,hj⟩:=List.exists_mem_of_ne_nil _ this
    rw [List.mem_filter,List.mem_range] at hj
    exact⟨j,hj.1,getD_in (by rw [inv.head.size]; omega) (by simpa using hj.2)⟩
   obtain⟨j0,hj0,hl0⟩:=hex
   obtain⟨i0,hi0,_⟩:=z2h hB inv.head.size j0 j0 (Nat.le_refl _) (by omega) hl0
   rw [show c+1+(ops.size - h)=(c+(ops.size - h))+1 by omega]
   refine⟨fun h0=>(by rw [h0] at hi0; cases hi0),fun i hi=>?_⟩
   have hih:i < h:=by
    rcases Nat.lt_or_ge i h with hlt | hge
    ·exact hlt
    ·exfalso
     obtain⟨_,oi,hoi,_⟩:=mem_ready.1 hi
     have hlt:i < ops.size:=(Array.getElem?_eq_some_iff.1 hoi).1
     have hsc:Region.sinkB .any ops h=true∧Region.chainB .any ops h=true:=by
      have h3:=hB'.1.2
      simp only [Bool.or_eq_true,Bool.and_eq_true] at h3
      rcases h3 with h3 | h3
      ·have:=Nat.eq_of_beq_eq_true h3; omega
      ·exact h3
     exact tail_waits hsc.1 hsc.2 (by omega) inv.head _ j0 rfl hj0 hl0 i hge hi
   obtain⟨hun,o,ho,hall⟩:=mem_ready.1 hi
   have hmem:o∈ops.toList:=by rw [Array.mem_toList_iff]; exact Array.mem_of_getElem? ho
   have hoko:q5L n o=true:=List.all_eq_true.1 hok' o hmem
   have hguards:q7t n ops=true:=by
    refine List.all_eq_true.2 fun o' ho'=>?_
    have:=List.all_eq_true.1 hok' o' ho'
    simp only [q5L,Bool.and_eq_true] at this
    exact this.1.1
   obtain⟨m,hm1,hm2,hm3⟩:=inv.chain
   have hLp:∀ j,(q2v o).contains j=true→listed.getD j false=true∧j < h:=fun j hj=>by
    have hjd:j∈q2v o:=by simpa using hj
    obtain⟨e,he,hb,rfl⟩:=q6n.1 hjd
    have:=q6M hB ho _ hjd
    exact⟨hall e he hb,by omega⟩
   have hst:=hstep i o ho hih ρ' w' S (fun j=>listed.getD j false=true∧j < h) inv.ext inv.out hLp (fun j oj hj hoj k hk=>by
    have hkd:k∈q2v oj:=by simpa using hk
    obtain⟨e,he,hb,rfl⟩:=q6n.1 hkd
    have:=q6M hB hoj _ hkd
    exact⟨inv.head.closed j oj hoj hj.1 e he hb,by omega⟩) (fun j hj=>hj.2) (fun j hj=>inv.known j hj.2 hj.1) (fun j q hj hq=>inv.bound j q hj.2 hj.1 hq)
   -- what holds when it has been carried out
   have next:∀ v w'' (T:Nat→Prop),Chg T w' w''→(∀ q,T q→Mw q∨w.heap.size≤q)→(∀ j,j < h→listed.getD j false=true→j≠i→(∀ q,T q→¬ S (q2N os j) q)∨Ψ j (S (q2N os j)) ((D j).map ρ') w'')→(∃ m',m'≤C.length∧(∀ k x,C[k]? = some x→((listed.setIfInBounds i true).getD x false=true↔k < m'))∧Θ m' w'')→Ψ i (if q2N os i=i then fun q=>w'.heap.size≤q∧q < w''.heap.size else S (q2N os i)) ((D i).map (E.put ρ' o.dst v)) w''→wpAny P .any ops (lift n Q) (c+(ops.size - h)) (listed.setIfInBounds i true) (a.put o.dst v) w'':=by
    intro v w'' T hx hT hjj hch hΨ
    have hi_size:i < listed.size:=by rw [inv.head.size]; omega
    have hi_un:listed.getD i false=false:=getD_both hun
    refine ih (fun j=>if j=i then (fun q=>w'.heap.size≤q∧q < w''.heap.size) else S j) _ (E.put ρ' o.dst v) _ _ ?_ ⟨inv.head.set hi hih,inv.ext.trans (hx.mono fun q _ hq=>hT q hq),fun t ht=>?_,fun j1 j2 q h1 h2 hl1 hl2 hs1 hs2=>?_,fun j q h1 hl1 hs=>?_,fun j hj hl=>?_,hch⟩ (hr.put _ _)
    ·have hcount:∀ (l:List Nat),l.Nodup→i∈l→(l.filter (fun j=>!listed.getD j false)).length=(l.filter (fun j=>!(listed.setIfInBounds i true).getD j false)).length+1:=by
      intro l
      induction l with
      | nil=>intro _ h; cases h
      | cons x l ihl=>
       intro hnd hmem
       rw [List.nodup_cons] at hnd
       by_cases hx:x=i
       ·subst hx
        have hsame:l.filter (fun j=>!listed.getD j false)=l.filter (fun j=>!(listed.setIfInBounds x true).getD j false):=
         List.filter_congr fun y hy=>by
          have hne:x≠y:=fun e=>hnd.1 (by rw [e]; exact hy)
          rw [getD_set_ne false hne]
        have hset:(listed.setIfInBounds x true).getD x false=true:=by simp [hi_size]
        rw [List.filter_cons,List.filter_cons,if_pos (by rw [hi_un]; rfl),if_neg (by rw [hset]; decide),hsame,List.length_cons]
       ·have hmem' : i∈l:=by rcases List.mem_cons.1 hmem with h | h; exact absurd h.symm hx; exact h
        have:=ihl hnd.2 hmem'
        rw [List.filter_cons,List.filter_cons,getD_set_ne false (Ne.symm hx)]
        split
        ·rw [List.length_cons,List.length_cons,this]
        ·exact this
     have:=hcount (List.range h) List.nodup_range (List.mem_range.2 hih)
     omega
    ·cases hd:o.dst with
     | none=>exact inv.out t ht
     | some d=>
      have hne:t≠d:=fun e=>ht i hih (by unfold q3f; rw [ho]; simp [hd,e])
      show upd ρ' d v t=ρ t
      rw [q4F _ _ hne]
      exact inv.out t ht
    ·by_cases h3:j1=i
     ·by_cases h4:j2=i
      ·rw [h3,h4]
      ·rw [if_pos h3] at hs1
       rw [if_neg h4] at hs2
       rw [getD_set_ne false (Ne.symm h4)] at hl2
       have:=inv.bound j2 q h2 hl2 hs2
       omega
     ·rw [if_neg h3] at hs1
      rw [getD_set_ne false (Ne.symm h3)] at hl1
      by_cases h4:j2=i
      ·rw [if_pos h4] at hs2
       have:=inv.bound j1 q h1 hl1 hs1
       omega
      ·rw [if_neg h4] at hs2
       rw [getD_set_ne false (Ne.symm h4)] at hl2
       exact inv.apart j1 j2 q h1 h2 hl1 hl2 hs1 hs2
    ·have hsz:=hx.size
     by_cases h3:j=i
     ·rw [if_pos h3] at hs
      exact⟨Nat.le_trans inv.ext.size hs.1,hs.2⟩
     ·rw [if_neg h3] at hs
      rw [getD_set_ne false (Ne.symm h3)] at hl1
      have:=inv.bound j q h1 hl1 hs
      omega
    ·by_cases hji:j=i
     ·subst hji
      by_cases hoo:q2N os j=j
      ·rw [if_pos hoo] at hΨ
       simp only [hoo,if_true]; exact hΨ
      ·rw [if_neg hoo] at hΨ
       simp only [if_neg hoo]; exact hΨ
     ·rw [getD_set_ne false (Ne.symm hji)] at hl
      obtain⟨oj,hoj⟩:∃ oj,ops[j]? = some oj:=⟨ops[j]'(by omega),by rw [Array.getElem?_eq_getElem (by omega)]⟩
      have hoi:q2N os j≠i:=fun e=>by
       rcases z5j hO hj hoj with h1 | ⟨h1,_⟩
       ·rw [h1] at e; exact hji e
       ·obtain⟨ed,he,hb,hon⟩:=q6n.1 (show q2N os j∈q2v oj by simpa using h1)
        have:=inv.head.closed j oj hoj hl ed he hb
        rw [hon,e,hi_un] at this
        cases this
      simp only [if_neg hoi]
      have hkn:Ψ j (S (q2N os j)) ((D j).map ρ') w'':=by
       rcases hjj j hj hl hji with h1 | h1
       ·exact hext j _ _ _ _ T (inv.known j hj hl) hx h1 hT
       ·exact h1
      have hnot:∀ t,o.dst=some t→t ∉ D j:=fun t ht hmemt=>by
       have hdi:q3f ops i=some t:=by unfold q3f; rw [ho]; exact ht
       have h5:=(z1x hB hoj hdi (Ne.symm hji)).1 hmemt
       obtain⟨e,he,hb,hon⟩:=q6n.1 h5
       have:=inv.head.closed j oj hoj hl e he hb
       rw [hon,hi_un] at this
       cases this
      rw [z5H hnot]
      exact hkn
   have hnot:i ∉ C→∀ w'',Θ m w''→∃ m',m'≤C.length∧(∀ k x,C[k]? = some x→((listed.setIfInBounds i true).getD x false=true↔k < m'))∧Θ m' w'':=fun hni w'' hΘ=>
    ⟨m,hm1,fun k x hx=>by rw [getD_set_ne false (fun e=>hni (by rw [e]; exact List.mem_of_getElem? hx))]; exact hm2 k x hx,hΘ⟩
   have hyes:∀ p,C[p]? = some i→p=m∧∀ w'',Θ (m+1) w''→∃ m',m'≤C.length∧(∀ k x,C[k]? = some x→((listed.setIfInBounds i true).getD x false=true↔k < m'))∧Θ m' w'':=fun p hp=>by
    have hi_un:listed.getD i false=false:=getD_both hun
    have hpm:p=m:=by
     have h1:¬ p < m:=fun hlt=>by
      have:=(hm2 p i hp).2 hlt
      rw [hi_un] at this; cases this
     rcases Nat.lt_or_ge m p with hlt | hge
     ·exfalso
      obtain⟨x,hx,hxd⟩:=j2W hC (show C[(p - 1)+1]? = some i by rw [show p - 1+1=p by omega]; exact hp) ho
      have:=(hm2 (p - 1) x hx).1 (hLp x hxd).1
      omega
     ·omega
    subst hpm
    refine⟨rfl,fun w'' hΘ=>⟨p+1,(List.getElem?_eq_some_iff.1 hp).1,fun k x hx=>?_,hΘ⟩⟩
    by_cases hxi:x=i
    ·subst hxi
     have hkp:k=p:=z2k hC hx hp
     have hset:(listed.setIfInBounds x true).getD x false=true:=by
      have:x < listed.size:=by rw [inv.head.size]; omega
      simp [this]
     rw [hset]; subst hkp; simp
    ·rw [getD_set_ne false (Ne.symm hxi),hm2 k x hx]
     constructor
     ·intro; omega
     ·intro h2
      rcases Nat.lt_or_ge k p with h3 | h3
      ·exact h3
      ·exfalso
       have:k=p:=by omega
       subst this
       exact hxi (Option.some.inj (hx.symm.trans hp))
   unfold wpOp
   simp only [ho]
   rw [q9k hguards hr]
   have hlk:∀ j,j < h→listed.getD j false=true→listed.getD (q2N os j) false=true∧q2N os j < h:=fun j hj hl=>by
    obtain⟨oj,hoj⟩:∃ oj,ops[j]? = some oj:=⟨ops[j]'(by omega),by rw [Array.getElem?_eq_getElem (by omega)]⟩
    rcases z5j hO hj hoj with h1 | ⟨h1,_⟩
    ·rw [h1]; exact⟨hl,hj⟩
    ·have hd:q2N os j∈q2v oj:=by simpa using h1
     obtain⟨ed,he,hb,hon⟩:=q6n.1 hd
     have h2:=inv.head.closed j oj hoj hl ed he hb
     have h3:=q6M hB hoj _ hd
     rw [hon] at h2
     exact⟨h2,by omega⟩
   by_cases hiC:i∈C
   ·obtain⟨p,hp⟩:=List.getElem?_of_mem hiC
    obtain⟨rfl,hy⟩:=hyes p hp
    obtain⟨hoo,hst⟩:=hst.2.1 p hp hm3
    have fin:∀ v w'',Chg Mw w' w''→Θ (p+1) w''→Ψ i (fun q=>w'.heap.size≤q∧q < w''.heap.size) ((D i).map (E.put ρ' o.dst v)) w''→_:=fun v w'' h1 h2 h3=>
     next v w'' Mw h1 (fun q hq=>.inl hq) (fun j hj hl hji=>.inl fun q hq hs=>by
      have:=inv.bound _ q (hlk j hj hl).2 (hlk j hj hl).1 hs
      have:=hMw q hq
      omega) (hy _ h2) (by rw [if_pos hoo]; exact h3)
    rcases hst with ⟨hg,hop⟩ | ⟨hg,hR'⟩
    ·rw [if_pos hg]
     exact .inl (hop a _ _ hr hoko fun v w'' hv=>fin v w'' hv.1 hv.2.1 hv.2.2)
    ·rw [if_neg (by rw [hg]; decide)]
     exact fin undef w' hR'.1 hR'.2.1 hR'.2.2
   ·by_cases hoo:q2N os i=i
    ·have hst:=hst.1 hiC hoo ⟨m,hm3⟩
     have fin:∀ v w'',Ext w' w''→Ψ i (fun q=>w'.heap.size≤q∧q < w''.heap.size) ((D i).map (E.put ρ' o.dst v)) w''→_:=fun v w'' h1 h3=>
      next v w'' (fun _=>False) h1 (fun q hq=>hq.elim) (fun j hj hl hji=>.inl fun q hq=>hq.elim) (hnot hiC _ (hΘx _ _ _ _ hm3 h1 fun q hq=>hq.elim)) (by rw [if_pos hoo]; exact h3)
     rcases hst with ⟨hg,hop⟩ | ⟨hg,hR'⟩
     ·rw [if_pos hg]
      exact .inl (hop a _ _ hr hoko fun v w'' hv=>fin v w'' hv.1 hv.2)
     ·rw [if_neg (by rw [hg]; decide)]
      exact fin undef w' hR'.1 hR'.2
    ·have hst:=hst.2.2 hiC hoo ⟨m,hm3⟩
     have hod:(q2v o).contains (q2N os i)=true:=(z5j hO hih ho).elim (fun h1=>absurd h1 hoo) fun h1=>h1.1
     have hol:=hLp _ hod
     have hoself:q2N os (q2N os i)=q2N os i:=(z5j hO hih ho).elim (fun h1=>absurd h1 hoo) fun h1=>h1.2
     have fin:∀ v w'',Chg (S (q2N os i)) w' w''→Ψ i (S (q2N os i)) ((D i).map (E.put ρ' o.dst v)) w''→Ψ (q2N os i) (S (q2N os i)) ((D (q2N os i)).map ρ') w''→_:=fun v w'' h1 h3 h4=>
      next v w'' (S (q2N os i)) h1 (fun q hq=>.inr (inv.bound _ q hol.2 hol.1 hq).1) (fun j hj hl hji=>by
       by_cases hjo:q2N os j=q2N os i
       ·by_cases hjs:j=q2N os i
        ·right; rw [hjs,hoself]; exact h4
        ·exfalso
         exact j7S hO hj hih hji hjo (fun e=>hjs (e.symm.trans hjo)) hoo
       ·left
        intro q hq hs
        have:=inv.apart _ _ q (hlk j hj hl).2 hol.2 (hlk j hj hl).1 hol.1 hs hq
        exact hjo this) (hnot hiC _ (hΘx _ _ _ _ hm3 h1 fun q hq=>(inv.bound _ q hol.2 hol.1 hq).1)) (by rw [if_neg hoo]; exact h3)
     rcases hst with ⟨hg,hop⟩ | ⟨hg,hR'⟩
     ·rw [if_pos hg]
      exact .inl (hop a _ _ hr hoko fun v w'' hv=>fin v w'' hv.1 hv.2.1 hv.2.2)
     ·rw [if_neg (by rw [hg]; decide)]
      exact fin undef w' hR'.1 hR'.2.1 hR'.2.2
 have h0:LooseR n ops h D Ψ Mw Θ C os (fun _ _=>False) ρ w (Array.replicate ops.size false) ρ { w with drawn:=w.drawn+1 }:=by
  refine⟨⟨by simp,fun j oj _ hl=>?_,fun t _ ht=>by simp [ht]⟩,(Ext.drawn w _).mono fun _ _ e=>e.elim,fun _ _=>rfl,fun _ _ _ _ _ _ _ h1=>h1.elim,fun _ _ _ _ h1=>h1.elim,fun j _ hl=>?_,0,Nat.zero_le _,fun k x _=>?_,hΘx _ _ _ _ hΘ0 (Ext.drawn w _) fun _ e=>e.elim⟩
  ·rw [getD_replicate_false] at hl; cases hl
  ·rw [getD_replicate_false] at hl; cases hl
  ·rw [getD_replicate_false]; simp
 have hc0:((List.range h).filter (fun j=>!(Array.replicate ops.size false).getD j false)).length=h:=by
  rw [List.filter_eq_self.2 (fun j _=>by rw [getD_replicate_false]; rfl)]
  simp
 have:=main h _ _ ρ a _ hc0 h0 ha
 rwa [show h+(ops.size - h)=ops.size by omega] at this
end loose
end
end Go.E
namespace Go.E
open Go
inductive K2 where
 | fix (u:Value)
 | free (φ:(Nat→Prop)→Value→World→Prop)
 | dep (t:Nat) (g:Value→Value)
 | wr (t s:Nat) (ψ:(Nat→Prop)→Value→Value→World→Prop)
def K2.on:K2→List Nat
 | .dep t _=>[t]
 | .wr t s _=>[t,s]
 | _=>[]
def K2.at (k:Option K2)(S:Nat→Prop)(ρ:Env)(d:Option Nat)(w:World):Prop:=match k,d with
 | some (.fix u),some t=>ρ t=u
 | some (.free φ),some t=>φ S (ρ t) w
 | some (.dep s g),some t=>ρ t=g (ρ s)
 | some (.wr a b ψ),_=>ψ S (ρ a) (ρ b) w
 | _,_=>True
def q1p (k:Option K2)(S:Nat→Prop)(ρ:Env)(v:Value)(w:World):Prop:=match k with
 | some (.fix u)=>v=u
 | some (.free φ)=>φ S v w
 | some (.dep s g)=>v=g (ρ s)
 | some (.wr a b ψ)=>ψ S (ρ a) (ρ b) w
 | none=>True
def K2.mono (w:World)(Mw:Nat→Prop)(k:K2):Prop:=match k with
 | .free φ=>∀ S v a b (T:Nat→Prop),φ S v a→Chg T a b→(∀ q,T q→¬ S q)→(∀ q,T q→Mw q∨w.heap.size≤q)→φ S v b
 | .wr _ _ ψ=>∀ S p x a b (T:Nat→Prop),ψ S p x a→Chg T a b→(∀ q,T q→¬ S q)→(∀ q,T q→Mw q∨w.heap.size≤q)→ψ S p x b
 | _=>True
def q0Q (w:World)(Mw:Nat→Prop):List K2→Prop
 | []=>True
 | k :: l=>k.mono w Mw∧q0Q w Mw l
theorem q0Q.get {w:World}{Mw:Nat→Prop}:∀ {l:List K2} {i:Nat} {k:K2},q0Q w Mw l→l[i]? = some k→k.mono w Mw
 | _ :: _,0,_,h,hi=>by simp at hi; subst hi; exact h.1
 | _ :: _,i+1,_,h,hi=>q0Q.get h.2 (by simpa using hi)
def depD (ops:Array Oper)(ds:List (List Nat))(j:Nat):List Nat:=(q3f ops j).toList++(ds[j]?).getD []
def depB (ops:Array Oper)(h:Nat)(ds:List (List Nat)):Bool:=
 (List.range h).all fun i=>match ops[i]? with
  | some o=>((ds[i]?).getD []).all fun t=>(List.range h).all fun j=>match q3f ops j with
    | some d=>!(Nat.beq d t)||(q2v o).contains j
    | none=>true
  | none=>true
theorem j5W {ops:Array Oper}{h:Nat}{ds:List (List Nat)}(hB:depB ops h ds=true){i t j:Nat}{o:Oper}{l:List Nat}(hi:i < h)(hd:ds[i]? = some l)(htl:t∈l)(ho:ops[i]? = some o)(hj:j < h)(ht:q3f ops j=some t):(q2v o).contains j=true:=by
 have h1:=List.all_eq_true.1 hB i (List.mem_range.2 hi)
 simp only [hd,ho,Option.getD_some] at h1
 have h2:=List.all_eq_true.1 (List.all_eq_true.1 h1 t htl) j (List.mem_range.2 hj)
 simp only [ht,Bool.or_eq_true,Bool.not_eq_true'] at h2
 rcases h2 with h2 | h2
 ·have:Nat.beq t t=true:=Nat.beq_refl t
  rw [this] at h2; cases h2
 ·exact h2
def k2b (ops:Array Oper)(h:Nat)(ds:List (List Nat)):Bool:=(List.range h).all fun j=>(q3f ops j).isSome||Nat.beq ((ds[j]?).getD []).length 2
section
variable {P:Program}{n:Nat}{Q:Post}{ρ:Env}{w:World}{ops:Array Oper}{o:Oper}{h:Nat}{Mw:Nat→Prop}{Θ:Nat→World→Prop}{C:List Nat}{os:List (Option Nat)}
abbrev RW (Mw:Nat→Prop)(w w' : World):Prop:=Chg (fun q=>Mw q∨w.heap.size≤q) w w'
def LL2 (P:Program)(n:Nat)(Q:Post)(ops:Array Oper)(h:Nat)(ks:List K2)(Mw:Nat→Prop)(Θ:Nat→World→Prop)(C:List Nat)(os:List (Option Nat))(w:World):Nat→List Oper→Env→(Nat→World→Prop)→(Nat→Nat→Prop)→Nat→Prop
 | _,[],ρ,K,G,m=>∀ w',RW Mw w w'→Θ m w'→(∀ j,j < h→K j w')→(∀ i j q,G i q→G j q→i=j)→(∀ i q,G i q→w.heap.size≤q∧q < w'.heap.size)→WL P n ops Q (ops.toList.drop h) ρ w'
 | i,o :: l,ρ,K,G,m=>
  (∃ u d,ks[i]? = some (.fix u)∧o.dst=some d∧C.contains i=false∧q2N os i=i∧(∀ w',RW Mw w w'→(∃ q,Θ q w')→(∀ j,(q2v o).contains j=true→K j w')→OpX P ops o ρ w' (fun v w''=>Ext w' w''∧v=u))∧LL2 P n Q ops h ks Mw Θ C os w (i+1) l (upd ρ d u) K G m) ∨
  (∃ φ d,ks[i]? = some (.free φ)∧o.dst=some d∧C.contains i=false∧q2N os i=i∧(∀ w',RW Mw w w'→(∃ q,Θ q w')→(∀ j,(q2v o).contains j=true→K j w')→OpX P ops o ρ w' (fun v w''=>Ext w' w''∧φ (fun q=>w'.heap.size≤q∧q < w''.heap.size) v w'')) ∧
   ∀ v S,LL2 P n Q ops h ks Mw Θ C os w (i+1) l (upd ρ d v) (fun j w'=>if j=i then φ S v w' else K j w') (fun j q=>if j=i then S q else G j q) m) ∨
  (∃ t g d,ks[i]? = some (.dep t g)∧o.dst=some d∧C.contains i=false∧q2N os i=i∧(∀ w',RW Mw w w'→(∃ q,Θ q w')→(∀ j,(q2v o).contains j=true→K j w')→OpX P ops o ρ w' (fun v w''=>Ext w' w''∧v=g (ρ t)))∧LL2 P n Q ops h ks Mw Θ C os w (i+1) l (upd ρ d (g (ρ t))) (fun j w'=>if j=i then (∀ j',(q2v o).contains j'=true→K j' w') else K j w') G m) ∨
  (∃ u d,ks[i]? = some (.fix u)∧o.dst=some d∧C[m]? = some i∧q2N os i=i∧(∀ w',RW Mw w w'→Θ m w'→(∀ j,(q2v o).contains j=true→K j w')→OpX P ops o ρ w' (fun v w''=>Chg Mw w' w''∧Θ (m+1) w''∧v=u))∧LL2 P n Q ops h ks Mw Θ C os w (i+1) l (upd ρ d u) K G (m+1)) ∨
  (∃ φ d,ks[i]? = some (.free φ)∧o.dst=some d∧C[m]? = some i∧q2N os i=i∧(∀ w',RW Mw w w'→Θ m w'→(∀ j,(q2v o).contains j=true→K j w')→OpX P ops o ρ w' (fun v w''=>Chg Mw w' w''∧Θ (m+1) w''∧φ (fun q=>w'.heap.size≤q∧q < w''.heap.size) v w'')) ∧
   ∀ v S,LL2 P n Q ops h ks Mw Θ C os w (i+1) l (upd ρ d v) (fun j w'=>if j=i then φ S v w' else K j w') (fun j q=>if j=i then S q else G j q) (m+1)) ∨
  (∃ t s ψ φ,ks[i]? = some (.wr t s ψ)∧o.dst=none∧C.contains i=false∧q2N os i≠i∧q3f ops (q2N os i)=some t∧ks[q2N os i]? = some (.free φ) ∧
   (∀ w',RW Mw w w'→(∃ q,Θ q w')→(∀ j,(q2v o).contains j=true→K j w')→OpX P ops o ρ w' (fun v w''=>Chg (G (q2N os i)) w' w''∧ψ (G (q2N os i)) (ρ t) (ρ s) w''∧φ (G (q2N os i)) (ρ t) w'')) ∧
   LL2 P n Q ops h ks Mw Θ C os w (i+1) l ρ (fun j w'=>if j=i then ψ (G (q2N os i)) (ρ t) (ρ s) w' else K j w') G m) ∨
  (∃ t s ψ,ks[i]? = some (.wr t s ψ)∧o.dst=none∧C[m]? = some i∧q2N os i=i∧(∀ S p x w',ψ S p x w')∧(∀ w',RW Mw w w'→Θ m w'→(∀ j,(q2v o).contains j=true→K j w')→OpX P ops o ρ w' (fun _ w''=>Chg Mw w' w''∧Θ (m+1) w''))∧LL2 P n Q ops h ks Mw Θ C os w (i+1) l ρ K G (m+1))
def j9K (P:Program)(ops:Array Oper)(ks:List K2)(Mw:Nat→Prop)(Θ:Nat→World→Prop)(C:List Nat)(os:List (Option Nat))(S:Nat→Nat→Prop)(k:Nat)(o:Oper)(ρ' : Env)(w' : World):Prop:=
 (k ∉ C→q2N os k=k→(∃ m,Θ m w')→OpX P ops o ρ' w' (fun v w''=>Ext w' w''∧q1p ks[k]? (fun q=>w'.heap.size≤q∧q < w''.heap.size) ρ' v w'')) ∧
 (∀ m,C[m]? = some k→Θ m w'→q2N os k=k∧OpX P ops o ρ' w' (fun v w''=>Chg Mw w' w''∧Θ (m+1) w''∧q1p ks[k]? (fun q=>w'.heap.size≤q∧q < w''.heap.size) ρ' v w'')) ∧
 (k ∉ C→q2N os k≠k→(∃ m,Θ m w')→OpX P ops o ρ' w' (fun v w''=>Chg (S (q2N os k)) w' w''∧q1p ks[k]? (S (q2N os k)) ρ' v w''∧K2.at ks[q2N os k]? (S (q2N os k)) ρ' (q3f ops (q2N os k)) w''))
theorem q0R {ks:List K2}{k:Nat}{o:Oper}{ρ' : Env}{w' : World}{S:Nat→Nat→Prop}{L:Nat→Prop}(hC:z3B ops h C=true)(hO:ownB ops h os=true)(hw:RW Mw w w')(ho:ops[k]? = some o)(hk:k < h)(hoko:q5L n o=true)
  (hlook:∀ t∈o.looksAt ops,∀ j,j < h→q3f ops j=some t→(q2v o).contains j=true)
  (hdep:∀ i oi q t,i < h→ks[i]? = some q→t∈q.on→ops[i]? = some oi→∀ j,j < h→q3f ops j=some t→(q2v oi).contains j=true)
  (hback:∀ i oi,ops[i]? = some oi→∀ j,(q2v oi).contains j=true→j < i)
  (hdL:∀ j,(q2v o).contains j=true→L j) (hLL:∀ j oj,L j→ops[j]? = some oj→∀ k,(q2v oj).contains k=true→L k) (hLh:∀ j,L j→j < h)
  (hdist:∀ i j,i≠j→i < h→j < h→∀ t,q3f ops i=some t→q3f ops j≠some t)
  (hknow:∀ j,L j→K2.at ks[j]? (S (q2N os j)) ρ' (q3f ops j) w') :
  ∀ (l:List Oper) (i:Nat) (ρ:Env) (K:Nat→World→Prop) (G:Nat→Nat→Prop) (m:Nat),LL2 P n Q ops h ks Mw Θ C os w i l ρ K G m→(∀ j,l[j]? = if j < l.length then ops[i+j]? else none)→i+l.length=h→i≤k →
   (∀ t,(∀ j,j < h→q3f ops j≠some t)→ρ t=ρ' t)→(∀ j t,j < i→L j→q3f ops j=some t→ρ t=ρ' t)→(∀ j,L j∨i≤j→K j w')→(∀ j φ,j < i→ks[j]? = some (.free φ)→G j=S j) →
   j9K P ops ks Mw Θ C os S k o ρ' w'
 | [],i,ρ,K,G,m,_,_,hlen,hik,_,_,_,_=>by simp at hlen; omega
 | o' :: l,i,ρ,K,G,m,hL,hl,hlen,hik,hout,hdir,hK,hGS=>by
  simp only [List.length_cons] at hlen
  have ho' : ops[i]? = some o':=by have:=hl 0; simpa using this.symm
  have hl' : ∀ j,l[j]? = if j < l.length then ops[i+1+j]? else none:=fun j=>by
   have:=hl (j+1)
   simp only [List.getElem?_cons_succ,List.length_cons] at this
   rw [this]
   by_cases hj:j < l.length
   ·rw [if_pos (by omega),if_pos hj]; congr 1; omega
   ·rw [if_neg (by omega),if_neg hj]
  have hdo:q3f ops i=o'.dst:=by unfold q3f; rw [ho']; rfl
  -- a slot that is waited for holds the same in both
  have hslot:∀ oi t,(∀ j,j < h→q3f ops j=some t→(q2v oi).contains j=true)→ops[i]? = some oi→(∀ j,(q2v oi).contains j=true→L j)→ρ t=ρ' t:=fun oi t hc hoi hLi=>by
   by_cases hin:∃ j,j < h∧q3f ops j=some t
   ·obtain⟨j,hj,hdj⟩:=hin
    have hc':=hc j hj hdj
    exact hdir j t (hback i oi hoi j hc') (hLi j hc') hdj
   ·exact hout t fun j hj hd=>hin ⟨j,hj,hd⟩
  have gfree:q2N os i≠i→∀ φ,ks[q2N os i]? = some (.free φ)→G (q2N os i)=S (q2N os i):=fun hn φ hφ=>by
   rcases z5j hO (by omega) ho' with h1 | h1
   ·exact absurd h1 hn
   ·exact hGS _ φ (hback i o' ho' _ h1.1) hφ
  by_cases hki:k=i
  ·subst hki
   obtain rfl:o'=o:=Option.some.inj (ho'.symm.trans ho)
   have hsame:∀ t∈o'.looksAt ops,ρ' t=ρ t:=fun t ht=>(hslot o' t (hlook t ht) ho hdL).symm
   have hKd:∀ j,(q2v o').contains j=true→K j w':=fun j hj=>hK j (.inl (hdL j hj))
   have nm:∀ {p},C.contains k=false→C[p]? = some k→False:=fun h1 h2=>by
    have:=List.mem_of_getElem? h2
    rw [List.contains_eq_mem,decide_eq_false_iff_not] at h1
    exact h1 this
   rcases hL with ⟨u,d,hu,_,hc,hoo,hs,_⟩ | ⟨φ,d,hφ,_,hc,hoo,hs,_⟩ | ⟨t,g,d,ht,_,hc,hoo,hs,_⟩ | ⟨u,d,hu,_,hc,hoo,hs,_⟩ | ⟨φ,d,hφ,_,hc,hoo,hs,_⟩ | ⟨t,s,ψ,φ,hψ,hdn,hc,hoo,htd,hφ,hs,_⟩ | ⟨t,s,ψ,hψ,hdn,hc,hoo,hall,hs,_⟩
   ·exact⟨fun _ _ hq=>(q0A hoko hsame (hs w' hw hq hKd)).mono fun v w'' hv=>⟨hv.1,by rw [hu]; exact hv.2⟩,fun p hp=>(nm hc hp).elim,fun _ hn=>absurd hoo hn⟩
   ·exact⟨fun _ _ hq=>(q0A hoko hsame (hs w' hw hq hKd)).mono fun v w'' hv=>⟨hv.1,by rw [hφ]; exact hv.2⟩,fun p hp=>(nm hc hp).elim,fun _ hn=>absurd hoo hn⟩
   ·have e:=hslot o' t (hdep k o' _ t hk ht (by simp [K2.on]) ho) ho hdL
    exact⟨fun _ _ hq=>(q0A hoko hsame (hs w' hw hq hKd)).mono fun v w'' hv=>⟨hv.1,by rw [ht]; show v=g (ρ' t); rw [← e]; exact hv.2⟩,fun p hp=>(nm hc hp).elim,fun _ hn=>absurd hoo hn⟩
   ·exact⟨fun hn=>absurd (List.mem_of_getElem? hc) hn,fun p hp hq=>by
     obtain rfl:=z2k hC hc hp
     exact⟨hoo,(q0A hoko hsame (hs w' hw hq hKd)).mono fun v w'' hv=>⟨hv.1,hv.2.1,by rw [hu]; exact hv.2.2⟩⟩,fun hn=>absurd (List.mem_of_getElem? hc) hn⟩
   ·exact⟨fun hn=>absurd (List.mem_of_getElem? hc) hn,fun p hp hq=>by
     obtain rfl:=z2k hC hc hp
     exact⟨hoo,(q0A hoko hsame (hs w' hw hq hKd)).mono fun v w'' hv=>⟨hv.1,hv.2.1,by rw [hφ]; exact hv.2.2⟩⟩,fun hn=>absurd (List.mem_of_getElem? hc) hn⟩
   ·have e1:=hslot o' t (hdep k o' _ t hk hψ (by simp [K2.on]) ho) ho hdL
    have e2:=hslot o' s (hdep k o' _ s hk hψ (by simp [K2.on]) ho) ho hdL
    have eg:=gfree hoo φ hφ
    exact⟨fun _ hn=>absurd hn hoo,fun p hp=>(nm hc hp).elim,fun _ _ hq=>(q0A hoko hsame (hs w' hw hq hKd)).mono fun v w'' hv=>by
     rw [eg,e1,e2] at hv
     exact⟨hv.1,by rw [hψ]; exact hv.2.1,by rw [hφ,htd]; exact hv.2.2⟩⟩
   ·exact⟨fun hn=>absurd (List.mem_of_getElem? hc) hn,fun p hp hq=>by
     obtain rfl:=z2k hC hc hp
     exact⟨hoo,(q0A hoko hsame (hs w' hw hq hKd)).mono fun v w'' hv=>⟨hv.1,hv.2,by rw [hψ]; exact hall _ _ _ _⟩⟩,fun hn=>absurd (List.mem_of_getElem? hc) hn⟩
  ·-- going on with a value u that is the true one if the operation has been carried out
   have hK1:∀ j,L j∨i+1≤j→K j w':=fun j hj=>hK j (hj.imp id fun h=>by omega)
   have fixed:∀ (u:Value) (d:Nat) (m' : Nat) (K2' : Nat→World→Prop),o'.dst=some d→(∀ φ,ks[i]?≠some (.free φ))→(∀ j,L j∨i+1≤j→K2' j w')→(L i→ρ' d=u)→LL2 P n Q ops h ks Mw Θ C os w (i+1) l (upd ρ d u) K2' G m'→j9K P ops ks Mw Θ C os S k o ρ' w':=fun u d m' K2' hod hnf hK2 hu hr=>by
    have hd:q3f ops i=some d:=by rw [hdo]; exact hod
    have hne:∀ t,(∀ j,j < h→q3f ops j≠some t)→t≠d:=fun t ht e=>ht i (by omega) (by rw [e]; exact hd)
    refine q0R hC hO hw ho hk hoko hlook hdep hback hdL hLL hLh hdist hknow l (i+1) _ _ _ _ hr hl' (by omega) (by omega) (fun t ht=>?_) (fun j t hj hc hdj=>?_) hK2 (fun j φ hj hf=>?_)
    ·exact (q4F _ _ (hne t ht)).trans (hout t ht)
    ·by_cases hji:j=i
     ·subst hji
      obtain rfl:d=t:=Option.some.inj (hd.symm.trans hdj)
      show upd ρ d u d=_
      rw [q8j]
      exact (hu hc).symm
     ·have:t≠d:=fun e=>hdist j i hji (hLh j hc) (by omega) t hdj (by rw [e]; exact hd)
      exact (q4F _ _ this).trans (hdir j t (by omega) hc hdj)
    ·by_cases hji:j=i
     ·subst hji; exact absurd hf (hnf φ)
     ·exact hGS j φ (by omega) hf
   have freed:∀ (φ:(Nat→Prop)→Value→World→Prop) (d:Nat) (m' : Nat),o'.dst=some d→(L i→φ (S i) (ρ' d) w')→(∀ (v:Value) (S:Nat→Prop),LL2 P n Q ops h ks Mw Θ C os w (i+1) l (upd ρ d v) (fun j w'=>if j=i then φ S v w' else K j w') (fun j q=>if j=i then S q else G j q) m')→j9K P ops ks Mw Θ C os S k o ρ' w':=fun φ d m' hod hu hr=>by
    have hd:q3f ops i=some d:=by rw [hdo]; exact hod
    have hne:∀ t,(∀ j,j < h→q3f ops j≠some t)→t≠d:=fun t ht e=>ht i (by omega) (by rw [e]; exact hd)
    refine q0R hC hO hw ho hk hoko hlook hdep hback hdL hLL hLh hdist hknow l (i+1) _ _ _ _ (hr (ρ' d) (S i)) hl' (by omega) (by omega) (fun t ht=>?_) (fun j t hj hc hdj=>?_) (fun j hj=>?_) (fun j φ' hj hf=>?_)
    ·exact (q4F _ _ (hne t ht)).trans (hout t ht)
    ·by_cases hji:j=i
     ·subst hji
      obtain rfl:d=t:=Option.some.inj (hd.symm.trans hdj)
      exact q8j _ _ _
     ·have:t≠d:=fun e=>hdist j i hji (hLh j hc) (by omega) t hdj (by rw [e]; exact hd)
      exact (q4F _ _ this).trans (hdir j t (by omega) hc hdj)
    ·by_cases hji:j=i
     ·subst hji
      simp only [if_true]
      exact hu (hj.resolve_right (by omega))
     ·simp only [if_neg hji]
      exact hK1 j hj
    ·by_cases hji:j=i
     ·subst hji; funext q; simp
     ·have:=hGS j φ' (by omega) hf
      funext q; simp only [if_neg hji]; rw [this]
   have kn:∀ {q:K2},ks[i]? = some q→q2N os i=i→∀ d,o'.dst=some d→L i→K2.at (some q) (S i) ρ' (some d) w':=fun {q} hq hoo d hd hLi=>by
    have:=hknow i hLi
    rw [hq,hoo,hdo,hd] at this
    exact this
   have kids:L i→∀ j,(q2v o').contains j=true→L j:=fun hLi j hj=>hLL i o' hLi ho' j hj
   rcases hL with ⟨u,d,hu,hd,hc,hoo,_,hr⟩ | ⟨φ,d,hφ,hd,hc,hoo,_,hr⟩ | ⟨t,g,d,ht,hd,hc,hoo,_,hr⟩ | ⟨u,d,hu,hd,hc,hoo,_,hr⟩ | ⟨φ,d,hφ,hd,hc,hoo,_,hr⟩ | ⟨t,s,ψ,φ,hψ,hdn,hc,hoo,htd,hφ,_,hr⟩ | ⟨t,s,ψ,hψ,hdn,hc,hoo,hall,_,hr⟩
   ·exact fixed u d m K hd (fun φ e=>by rw [hu] at e; cases e) hK1 (fun hLi=>kn hu hoo d hd hLi) hr
   ·exact freed φ d m hd (fun hLi=>kn hφ hoo d hd hLi) hr
   ·refine fixed _ d m _ hd (fun φ e=>by rw [ht] at e; cases e) (fun j hj=>?_) (fun hLi=>?_) hr
    ·by_cases hji:j=i
     ·subst hji
      simp only [if_true]
      exact fun j' hj'=>hK j' (.inl (kids (hj.resolve_right (by omega)) j' hj'))
     ·simp only [if_neg hji]
      exact hK1 j hj
    ·have e:=hslot o' t (hdep i o' _ t (by omega) ht (by simp [K2.on]) ho') ho' (kids hLi)
     rw [e]; exact kn ht hoo d hd hLi
   ·exact fixed u d (m+1) K hd (fun φ e=>by rw [hu] at e; cases e) hK1 (fun hLi=>kn hu hoo d hd hLi) hr
   ·exact freed φ d (m+1) hd (fun hLi=>kn hφ hoo d hd hLi) hr
   ·refine q0R hC hO hw ho hk hoko hlook hdep hback hdL hLL hLh hdist hknow l (i+1) _ _ _ _ hr hl' (by omega) (by omega) hout (fun j t' hj hc' hdj=>?_) (fun j hj=>?_) (fun j φ' hj hf=>?_)
    ·by_cases hji:j=i
     ·subst hji; rw [hdo,hdn] at hdj; cases hdj
     ·exact hdir j t' (by omega) hc' hdj
    ·by_cases hji:j=i
     ·subst hji
      simp only [if_true]
      have hLi:=hj.resolve_right (by omega)
      have e1:=hslot o' t (hdep j o' _ t (by omega) hψ (by simp [K2.on]) ho') ho' (kids hLi)
      have e2:=hslot o' s (hdep j o' _ s (by omega) hψ (by simp [K2.on]) ho') ho' (kids hLi)
      have:=hknow j hLi
      rw [hψ] at this
      rw [gfree hoo φ hφ,e1,e2]
      exact this
     ·simp only [if_neg hji]
      exact hK1 j hj
    ·by_cases hji:j=i
     ·subst hji; rw [hψ] at hf; cases hf
     ·exact hGS j φ' (by omega) hf
   ·refine q0R hC hO hw ho hk hoko hlook hdep hback hdL hLL hLh hdist hknow l (i+1) _ _ _ _ hr hl' (by omega) (by omega) hout (fun j t' hj hc' hdj=>?_) hK1 (fun j φ' hj hf=>?_)
    ·by_cases hji:j=i
     ·subst hji; rw [hdo,hdn] at hdj; cases hdj
     ·exact hdir j t' (by omega) hc' hdj
    ·by_cases hji:j=i
     ·subst hji; rw [hψ] at hf; cases hf
     ·exact hGS j φ' (by omega) hf
theorem q0S {ks:List K2}{ρ' : Env}{w' : World}{S:Nat→Nat→Prop}(hC:z3B ops h C=true)(hO:ownB ops h os=true)(hw:RW Mw w w')(hΘ:Θ C.length w')
  (hdep:∀ i oi q t,i < h→ks[i]? = some q→t∈q.on→ops[i]? = some oi→∀ j,j < h→q3f ops j=some t→(q2v oi).contains j=true)
  (hback:∀ i oi,ops[i]? = some oi→∀ j,(q2v oi).contains j=true→j < i)
  (hdist:∀ i j,i≠j→i < h→j < h→∀ t,q3f ops i=some t→q3f ops j≠some t)
  (hap:∀ i j q,i < h→j < h→S i q→S j q→i=j) (hbd:∀ i q,i < h→S i q→w.heap.size≤q∧q < w'.heap.size)
  (hknow:∀ j,j < h→K2.at ks[j]? (S (q2N os j)) ρ' (q3f ops j) w') :
  ∀ (l:List Oper) (i:Nat) (ρ:Env) (K:Nat→World→Prop) (G:Nat→Nat→Prop) (m:Nat),LL2 P n Q ops h ks Mw Θ C os w i l ρ K G m→(∀ j,l[j]? = if j < l.length then ops[i+j]? else none)→i+l.length=h →
   (∀ t,(∀ j,j < h→q3f ops j≠some t)→ρ t=ρ' t)→(∀ j t,j < i→q3f ops j=some t→ρ t=ρ' t)→(∀ j,K j w')→(∀ j q,G j q→j < h∧S j q)→(∀ j φ,j < i→ks[j]? = some (.free φ)→G j=S j) →
   (m≤C.length∧∀ p x,C[p]? = some x→(x < i↔p < m))→WL P n ops Q (ops.toList.drop h) ρ' w'
 | [],i,ρ,K,G,m,hL,_,hlen,hout,hdir,hK,hG,_,hm=>by
  simp only [List.length_nil,Nat.add_zero] at hlen
  subst hlen
  have:ρ=ρ':=by
   funext t
   by_cases hin:∃ j,j < i∧q3f ops j=some t
   ·obtain⟨j,hj,hdj⟩:=hin
    exact hdir j t hj hdj
   ·exact hout t fun j hj hd=>hin ⟨j,hj,hd⟩
  subst this
  have hmC:m=C.length:=by
   rcases Nat.lt_or_ge m C.length with hlt | hge
   ·have h1:=j1P hC (List.getElem?_eq_getElem hlt)
    have:=(hm.2 m _ (List.getElem?_eq_getElem hlt)).1 h1
    omega
   ·omega
  exact hL w' hw (by rw [hmC]; exact hΘ) (fun j _=>hK j) (fun a b q ha hb=>hap a b q (hG a q ha).1 (hG b q hb).1 (hG a q ha).2 (hG b q hb).2) (fun a q ha=>hbd a q (hG a q ha).1 (hG a q ha).2)
 | o' :: l,i,ρ,K,G,m,hL,hl,hlen,hout,hdir,hK,hG,hGS,hm=>by
  simp only [List.length_cons] at hlen
  have ho' : ops[i]? = some o':=by have:=hl 0; simpa using this.symm
  have hl' : ∀ j,l[j]? = if j < l.length then ops[i+1+j]? else none:=fun j=>by
   have:=hl (j+1)
   simp only [List.getElem?_cons_succ,List.length_cons] at this
   rw [this]
   by_cases hj:j < l.length
   ·rw [if_pos (by omega),if_pos hj]; congr 1; omega
   ·rw [if_neg (by omega),if_neg hj]
  have hdo:q3f ops i=o'.dst:=by unfold q3f; rw [ho']; rfl
  have hkn:=hknow i (by omega)
  have hslot:∀ q t,ks[i]? = some q→t∈q.on→ρ t=ρ' t:=fun q t hq ht=>by
   by_cases hin:∃ j,j < h∧q3f ops j=some t
   ·obtain⟨j,hj,hdj⟩:=hin
    exact hdir j t (hback i o' ho' j (hdep i o' q t (by omega) hq ht ho' j hj hdj)) hdj
   ·exact hout t fun j hj hd=>hin ⟨j,hj,hd⟩
  have notin:C.contains i=false→m≤C.length∧∀ p x,C[p]? = some x→(x < i+1↔p < m):=fun hc=>⟨hm.1,fun p x hx=>by
   have hxi:x≠i:=fun e=>by
    subst e
    rw [List.contains_eq_mem,decide_eq_false_iff_not] at hc
    exact hc (List.mem_of_getElem? hx)
   rw [← hm.2 p x hx]; omega⟩
  have isin:C[m]? = some i→m+1≤C.length∧∀ p x,C[p]? = some x→(x < i+1↔p < m+1):=fun hc=>⟨(List.getElem?_eq_some_iff.1 hc).1,fun p x hx=>by
   have h1:=hm.2 p x hx
   constructor
   ·intro h2
    rcases Nat.lt_or_ge x i with h3 | h3
    ·have:=h1.1 h3; omega
    ·have:x=i:=by omega
     subst this
     have:=z2k hC hx hc
     omega
   ·intro h2
    rcases Nat.lt_or_ge p m with h3 | h3
    ·have:=h1.2 h3; omega
    ·have:p=m:=by omega
     subst this
     have:x=i:=Option.some.inj (hx.symm.trans hc)
     omega⟩
  have fixed:∀ (u:Value) (d:Nat) (m' : Nat) (K2' : Nat→World→Prop),o'.dst=some d→(∀ φ,ks[i]?≠some (.free φ))→(∀ j,K2' j w')→ρ' d=u→(m'≤C.length∧∀ p x,C[p]? = some x→(x < i+1↔p < m'))→LL2 P n Q ops h ks Mw Θ C os w (i+1) l (upd ρ d u) K2' G m'→WL P n ops Q (ops.toList.drop h) ρ' w':=fun u d m' K2' hod hnf hK2 hu hm' hr=>by
   have hd:q3f ops i=some d:=by rw [hdo]; exact hod
   have hne:∀ t,(∀ j,j < h→q3f ops j≠some t)→t≠d:=fun t ht e=>ht i (by omega) (by rw [e]; exact hd)
   refine q0S hC hO hw hΘ hdep hback hdist hap hbd hknow l (i+1) _ _ _ _ hr hl' (by omega) (fun t ht=>?_) (fun j t hj hdj=>?_) hK2 hG (fun j φ hj hf=>?_) hm'
   ·exact (q4F _ _ (hne t ht)).trans (hout t ht)
   ·by_cases hji:j=i
    ·subst hji
     obtain rfl:d=t:=Option.some.inj (hd.symm.trans hdj)
     show upd ρ d u d=_
     rw [q8j]
     exact hu.symm
    ·have:t≠d:=fun e=>hdist j i hji (by omega) (by omega) t hdj (by rw [e]; exact hd)
     exact (q4F _ _ this).trans (hdir j t (by omega) hdj)
   ·by_cases hji:j=i
    ·subst hji; exact absurd hf (hnf φ)
    ·exact hGS j φ (by omega) hf
  have freed:∀ (φ:(Nat→Prop)→Value→World→Prop) (d:Nat) (m' : Nat),o'.dst=some d→φ (S i) (ρ' d) w'→(m'≤C.length∧∀ p x,C[p]? = some x→(x < i+1↔p < m'))→(∀ (v:Value) (S:Nat→Prop),LL2 P n Q ops h ks Mw Θ C os w (i+1) l (upd ρ d v) (fun j w'=>if j=i then φ S v w' else K j w') (fun j q=>if j=i then S q else G j q) m')→WL P n ops Q (ops.toList.drop h) ρ' w':=fun φ d m' hod hu hm' hr=>by
   have hd:q3f ops i=some d:=by rw [hdo]; exact hod
   have hne:∀ t,(∀ j,j < h→q3f ops j≠some t)→t≠d:=fun t ht e=>ht i (by omega) (by rw [e]; exact hd)
   refine q0S hC hO hw hΘ hdep hback hdist hap hbd hknow l (i+1) _ _ _ _ (hr (ρ' d) (S i)) hl' (by omega) (fun t ht=>?_) (fun j t hj hdj=>?_) (fun j=>?_) (fun j q=>?_) (fun j φ' hj hf=>?_) hm'
   ·exact (q4F _ _ (hne t ht)).trans (hout t ht)
   ·by_cases hji:j=i
    ·subst hji
     obtain rfl:d=t:=Option.some.inj (hd.symm.trans hdj)
     exact q8j _ _ _
    ·have:t≠d:=fun e=>hdist j i hji (by omega) (by omega) t hdj (by rw [e]; exact hd)
     exact (q4F _ _ this).trans (hdir j t (by omega) hdj)
   ·by_cases hji:j=i
    ·subst hji; simp only [if_true]; exact hu
    ·simp only [if_neg hji]; exact hK j
   ·by_cases hji:j=i
    ·subst hji; simp only [if_true]; exact fun hs=>⟨by omega,hs⟩
    ·simp only [if_neg hji]; exact hG j q
   ·by_cases hji:j=i
    ·subst hji; funext q; simp
    ·have:=hGS j φ' (by omega) hf
     funext q; simp only [if_neg hji]; rw [this]
  rcases hL with ⟨u,d,hu,hd,hc,hoo,_,hr⟩ | ⟨φ,d,hφ,hd,hc,hoo,_,hr⟩ | ⟨t,g,d,ht,hd,hc,hoo,_,hr⟩ | ⟨u,d,hu,hd,hc,hoo,_,hr⟩ | ⟨φ,d,hφ,hd,hc,hoo,_,hr⟩ | ⟨t,s,ψ,φ,hψ,hdn,hc,hoo,htd,hφ,_,hr⟩ | ⟨t,s,ψ,hψ,hdn,hc,hoo,hall,_,hr⟩
  ·rw [hu,hdo,hd] at hkn; exact fixed u d m K hd (fun φ e=>by rw [hu] at e; cases e) hK hkn (notin hc) hr
  ·rw [hφ,hdo,hd,hoo] at hkn; exact freed φ d m hd hkn (notin hc) hr
  ·have e:=hslot _ t ht (by simp [K2.on])
   rw [ht,hdo,hd] at hkn
   exact fixed _ d m _ hd (fun φ e=>by rw [ht] at e; cases e) (fun j=>by by_cases hji:j=i<;>simp [hji,hK]) (by rw [e]; exact hkn) (notin hc) hr
  ·rw [hu,hdo,hd] at hkn; exact fixed u d (m+1) K hd (fun φ e=>by rw [hu] at e; cases e) hK hkn (isin hc) hr
  ·rw [hφ,hdo,hd,hoo] at hkn; exact freed φ d (m+1) hd hkn (isin hc) hr
  ·have e1:=hslot _ t hψ (by simp [K2.on])
   have e2:=hslot _ s hψ (by simp [K2.on])
   have eg:G (q2N os i)=S (q2N os i):=by
    rcases z5j hO (by omega) ho' with h1 | h1
    ·exact absurd h1 hoo
    ·exact hGS _ φ (hback i o' ho' _ h1.1) hφ
   rw [hψ] at hkn
   refine q0S hC hO hw hΘ hdep hback hdist hap hbd hknow l (i+1) _ _ _ _ hr hl' (by omega) hout (fun j t' hj hdj=>?_) (fun j=>?_) hG (fun j φ' hj hf=>?_) (notin hc)
   ·by_cases hji:j=i
    ·subst hji; rw [hdo,hdn] at hdj; cases hdj
    ·exact hdir j t' (by omega) hdj
   ·by_cases hji:j=i
    ·subst hji
     simp only [if_true]
     rw [eg,e1,e2]; exact hkn
    ·simp only [if_neg hji]; exact hK j
   ·by_cases hji:j=i
    ·subst hji; rw [hψ] at hf; cases hf
    ·exact hGS j φ' (by omega) hf
  ·refine q0S hC hO hw hΘ hdep hback hdist hap hbd hknow l (i+1) _ _ _ _ hr hl' (by omega) hout (fun j t' hj hdj=>?_) hK hG (fun j φ' hj hf=>?_) (isin hc)
   ·by_cases hji:j=i
    ·subst hji; rw [hdo,hdn] at hdj; cases hdj
    ·exact hdir j t' (by omega) hdj
   ·by_cases hji:j=i
    ·subst hji; rw [hψ] at hf; cases hf
    ·exact hGS j φ' (by omega) hf
theorem q0E {id:Nat}(h:Nat)(ks:Env→List K2)(ds:List (List Nat))(Mw:Nat→Prop)(Θ:Nat→World→Prop)(C:List Nat)(os:List (Option Nat))(hMw:∀ q,Mw q→q < w.heap.size)(hm:P.follows .mixedOrders=true)
  (hB:(z0N ops h (depD ops ds)&&j4p ops h&&k2b ops h ds&&depB ops h ds&&z3B ops h C&&ownB ops h os)=true) (hds:(ks ρ).map K2.on=ds) (hmono:q0Q w Mw (ks ρ)) (hΘ0:Θ 0 w) (hΘx:∀ m a b (T:Nat→Prop),Θ m a→Chg T a b→(∀ q,T q→w.heap.size≤q)→Θ m b)
  (hq:LL2 P n Q ops h (ks ρ) Mw Θ C os w 0 (ops.toList.take h) ρ (fun _ _=>True) (fun _ _=>False) 0):CW P n (.region id ops true) Q ρ w:=by
 simp only [Bool.and_eq_true] at hB
 obtain⟨⟨⟨⟨⟨hB1,hB2⟩,hB3⟩,hB4⟩,hC⟩,hO⟩:=hB
 generalize ks ρ=ks at hq hmono hds
 subst hds
 have hle:h≤ops.size:=by
  have:=hB1
  simp only [z0N,Bool.and_eq_true] at this
  simpa using this.1.1.1
 have hlen:(ops.toList.take h).length=h:=by simp; omega
 have hdist:∀ i j,i≠j→i < h→j < h→∀ t,q3f ops i=some t→q3f ops j≠some t:=fun i j hij hi hj t hit hjt=>by
  have hoj:ops[j]? = some (ops[j]'(by omega)):=Array.getElem?_eq_getElem _
  have:=(z1x hB1 hoj hit hij).2
  unfold q3f at hjt
  rw [hoj] at hjt
  exact this hjt
 have hget:∀ j,(ops.toList.take h)[j]? = if j < (ops.toList.take h).length then ops[0+j]? else none:=fun j=>by
  rw [hlen,List.getElem?_take,Nat.zero_add]
  split
  ·simp
  ·rfl
 have hon:∀ {i:Nat} {q:K2},ks[i]? = some q→(ks.map K2.on)[i]? = some q.on:=fun {i q} hi=>by rw [List.getElem?_map,hi]; rfl
 have hdep:∀ i oi q t,i < h→ks[i]? = some q→t∈q.on→ops[i]? = some oi→∀ j,j < h→q3f ops j=some t→(q2v oi).contains j=true:=fun i oi q t hi hk ht hoi j hj hjt=>j5W hB4 hi (hon hk) ht hoi hj hjt
 have hback:∀ i oi,ops[i]? = some oi→∀ j,(q2v oi).contains j=true→j < i:=fun i oi hoi j hj=>q6M hB1 hoi j (by simpa using hj)
 have hnone:∀ i,i < h→q3f ops i=none→∀ q,ks[i]? = some q→q.on.length=2:=fun i hi hd q hq=>by
  have:=List.all_eq_true.1 hB3 i (List.mem_range.2 hi)
  rw [hd,hon hq] at this
  simp only [Option.isSome_none,Bool.false_or,Option.getD_some] at this
  exact Nat.eq_of_beq_eq_true this
 have hself:∀ i oi q t,i < h→ops[i]? = some oi→ks[i]? = some q→t∈q.on→q3f ops i≠some t:=fun i oi q t hi hoi hq ht hd=>by
  have:=hback i oi hoi i (hdep i oi q t hi hq ht hoi i hi hd)
  omega
 -- what is said of an operation, by the values of its slots
 let Ψ:Nat→(Nat→Prop)→List Value→World→Prop:=fun i S l w=>match ks[i]? with
  | some (.fix u)=>∀ v,l=[v]→v=u
  | some (.free φ)=>∀ v,l=[v]→φ S v w
  | some (.dep _ g)=>∀ v x,l=[v,x]→v=g x
  | some (.wr _ _ ψ)=>∀ p x,(l=[p,x]∨∃ v,l=[v,p,x])→ψ S p x w
  | none=>True
 have hΨat:∀ (j:Nat) (S:Nat→Prop) (ρ' : Env) (w' : World),j < h→Ψ j S ((depD ops (ks.map K2.on) j).map ρ') w'→K2.at ks[j]? S ρ' (q3f ops j) w':=fun j S ρ' w' hj hp=>by
  simp only [Ψ,depD,List.getElem?_map] at hp
  unfold K2.at
  cases hk:ks[j]? with
  | none=>trivial
  | some k=>
   rw [hk] at hp
   cases hd:q3f ops j with
   | none=>
    rw [hd] at hp
    cases k with
    | fix u=>trivial
    | free φ=>trivial
    | dep s g=>trivial
    | wr a b ψ=>exact hp _ _ (.inl rfl)
   | some t=>
    rw [hd] at hp
    cases k with
    | fix u=>exact hp _ rfl
    | free φ=>exact hp _ rfl
    | dep s g=>exact hp _ _ rfl
    | wr a b ψ=>exact hp _ _ (.inr ⟨_,rfl⟩)
 intro hok
 have hok' : ops.toList.all (q5L n)=true:=by simpa [q9h] using hok
 -- back: from what an operation gives
 have hΨof:∀ (k:Nat) (o:Oper) (S:Nat→Prop) (ρ' : Env) (v:Value) (w' : World),k < h→ops[k]? = some o→q1p ks[k]? S ρ' v w'→Ψ k S ((depD ops (ks.map K2.on) k).map (E.put ρ' o.dst v)) w':=fun k o S ρ' v w' hk ho hv=>by
  have hdo:q3f ops k=o.dst:=by unfold q3f; rw [ho]; rfl
  simp only [Ψ,depD,List.getElem?_map]
  unfold q1p at hv
  cases hkk:ks[k]? with
  | none=>trivial
  | some q=>
   rw [hkk] at hv
   cases hd:o.dst with
   | none=>
    rw [hdo,hd]
    have h2:=hnone k hk (by rw [hdo]; exact hd) q hkk
    cases q with
    | fix u=>simp [K2.on] at h2
    | free φ=>simp [K2.on] at h2
    | dep s g=>simp [K2.on] at h2
    | wr a b ψ=>
     intro p x hpx
     simp only [Option.map_some,Option.getD_some,K2.on,Option.toList_none,List.nil_append,List.map_cons,List.map_nil,E.put] at hpx
     rcases hpx with hpx | ⟨v',hpx⟩
     ·simp only [List.cons.injEq,and_true] at hpx
      rw [← hpx.1,← hpx.2]; exact hv
     ·simp at hpx
   | some d=>
    rw [hdo,hd]
    have hne:∀ t∈q.on,t≠d:=fun t ht e=>hself k o q t hk ho hkk ht (by rw [hdo,hd,e])
    cases q with
    | fix u=>
     intro v' hv'
     simp only [Option.map_some,Option.getD_some,K2.on,Option.toList_some,List.append_nil,List.map_cons,List.map_nil,E.put,q8j,List.cons.injEq,and_true] at hv'
     rw [← hv']; exact hv
    | free φ=>
     intro v' hv'
     simp only [Option.map_some,Option.getD_some,K2.on,Option.toList_some,List.append_nil,List.map_cons,List.map_nil,E.put,q8j,List.cons.injEq,and_true] at hv'
     rw [← hv']; exact hv
    | dep s g=>
     intro v' x hv'
     simp only [Option.map_some,Option.getD_some,K2.on,Option.toList_some,List.cons_append,List.nil_append,List.map_cons,List.map_nil,E.put,q8j,q4F _ _ (hne s (by simp [K2.on])),List.cons.injEq,and_true] at hv'
     rw [← hv'.1,← hv'.2]; exact hv
    | wr a b ψ=>
     intro p x hpx
     simp only [Option.map_some,Option.getD_some,K2.on,Option.toList_some,List.cons_append,List.nil_append,List.map_cons,List.map_nil,E.put,q8j,q4F _ _ (hne a (by simp [K2.on])),q4F _ _ (hne b (by simp [K2.on]))] at hpx
     rcases hpx with hpx | ⟨v',hpx⟩
     ·simp at hpx
     ·simp only [List.cons.injEq,and_true] at hpx
      rw [← hpx.2.1,← hpx.2.2]; exact hv
 have hΨat' : ∀ (j:Nat) (S:Nat→Prop) (ρ' : Env) (w' : World),j < h→K2.at ks[j]? S ρ' (q3f ops j) w'→Ψ j S ((depD ops (ks.map K2.on) j).map ρ') w':=fun j S ρ' w' hj hv=>by
  simp only [Ψ,depD,List.getElem?_map]
  unfold K2.at at hv
  cases hkk:ks[j]? with
  | none=>trivial
  | some q=>
   rw [hkk] at hv
   cases hd:q3f ops j with
   | none=>
    rw [hd] at hv
    have h2:=hnone j hj hd q hkk
    cases q with
    | fix u=>simp [K2.on] at h2
    | free φ=>simp [K2.on] at h2
    | dep s g=>simp [K2.on] at h2
    | wr a b ψ=>
     intro p x hpx
     simp only [Option.map_some,Option.getD_some,K2.on,Option.toList_none,List.nil_append,List.map_cons,List.map_nil] at hpx
     rcases hpx with hpx | ⟨v',hpx⟩
     ·simp only [List.cons.injEq,and_true] at hpx
      rw [← hpx.1,← hpx.2]; exact hv
     ·simp at hpx
   | some d=>
    rw [hd] at hv
    cases q with
    | fix u=>
     intro v' hv'
     simp only [Option.map_some,Option.getD_some,K2.on,Option.toList_some,List.append_nil,List.map_cons,List.map_nil,List.cons.injEq,and_true] at hv'
     rw [← hv']; exact hv
    | free φ=>
     intro v' hv'
     simp only [Option.map_some,Option.getD_some,K2.on,Option.toList_some,List.append_nil,List.map_cons,List.map_nil,List.cons.injEq,and_true] at hv'
     rw [← hv']; exact hv
    | dep s g=>
     intro v' x hv'
     simp only [Option.map_some,Option.getD_some,K2.on,Option.toList_some,List.cons_append,List.nil_append,List.map_cons,List.map_nil,List.cons.injEq,and_true] at hv'
     rw [← hv'.1,← hv'.2]; exact hv
    | wr a b ψ=>
     intro p x hpx
     simp only [Option.map_some,Option.getD_some,K2.on,Option.toList_some,List.cons_append,List.nil_append,List.map_cons,List.map_nil] at hpx
     rcases hpx with hpx | ⟨v',hpx⟩
     ·simp at hpx
     ·simp only [List.cons.injEq,and_true] at hpx
      rw [← hpx.2.1,← hpx.2.2]; exact hv
 refine q1F h (depD ops (ks.map K2.on)) Ψ Mw hMw Θ C os hm hB1 hC hO ?_ hΘ0 hΘx ?_ ?_ hok
 ·intro i S vs a b T h1 hx hS hT
  simp only [Ψ] at h1 ⊢
  cases hk:ks[i]? with
  | none=>trivial
  | some k=>
   rw [hk] at h1
   have hm1:=hmono.get hk
   cases k with
   | fix u=>exact h1
   | free φ=>exact fun v hv=>hm1 _ _ _ _ T (h1 v hv) hx hS hT
   | dep s g=>exact h1
   | wr s t ψ=>exact fun p x hpx=>hm1 _ _ _ _ _ T (h1 p x hpx) hx hS hT
 ·intro k o ho hk ρ' w' S L hw hout hdL hLL hLh hp hbd
  have hoko:q5L n o=true:=List.all_eq_true.1 hok' o (by rw [Array.mem_toList_iff]; exact Array.mem_of_getElem? ho)
  have hres:=q0R (S:=S) (L:=L) hC hO hw ho hk hoko (fun t ht j hj hdj=>by
    have h6:=List.all_eq_true.1 hB2 k (List.mem_range.2 (by omega))
    simp only [ho] at h6
    have h7:=List.all_eq_true.1 (List.all_eq_true.1 h6 t ht) j (List.mem_range.2 hj)
    simp only [hdj,Bool.or_eq_true,Bool.not_eq_true'] at h7
    rcases h7 with h7 | h7
    ·have:Nat.beq t t=true:=Nat.beq_refl t
     rw [this] at h7; cases h7
    ·exact h7) hdep hback hdL hLL hLh hdist (ρ':=ρ') (fun j hj=>hΨat j _ _ _ (hLh j hj) (hp j hj)) _ 0 ρ _ _ 0 hq hget (by rw [hlen]; omega) (Nat.zero_le _)
    (fun t ht=>(hout t ht).symm) (fun _ _ h0=>absurd h0 (Nat.not_lt_zero _)) (fun _ _=>trivial) (fun _ _ h0=>absurd h0 (Nat.not_lt_zero _))
  refine⟨fun hn hoo hq=>q1v ((hres.1 hn hoo hq).mono fun v w'' hv=>⟨hv.1,hΨof k o _ ρ' v w'' hk ho hv.2⟩),fun m hmk hq=>⟨(hres.2.1 m hmk hq).1,q1v ((hres.2.1 m hmk hq).2.mono fun v w'' hv=>⟨hv.1,hv.2.1,hΨof k o _ ρ' v w'' hk ho hv.2.2⟩)⟩,fun hn hoo hq=>?_⟩
  have hoh:q2N os k < h:=by
   rcases z5j hO hk ho with h1 | h1
   ·exact absurd h1 hoo
   ·have:=hback k o ho _ h1.1; omega
  exact q1v ((hres.2.2 hn hoo hq).mono fun v w'' hv=>⟨hv.1,hΨof k o _ ρ' v w'' hk ho hv.2.1,hΨat' _ _ _ _ hoh hv.2.2⟩)
 ·intro ρ' w' S hw hΘ hout hap hbd hk
  refine q0S hC hO hw hΘ hdep hback hdist hap hbd (fun j hj=>hΨat j _ _ _ hj (hk j hj)) _ 0 ρ _ _ 0 hq hget (by rw [hlen]; omega) (fun t ht=>(hout t ht).symm) (fun _ _ h0=>absurd h0 (Nat.not_lt_zero _)) (fun _=>trivial) (fun _ _ h0=>h0.elim) (fun _ _ h0=>absurd h0 (Nat.not_lt_zero _)) ⟨Nat.zero_le _,fun p x hx=>?_⟩
  constructor
  ·intro h; omega
  ·intro h; omega
end
end Go.E
namespace Go.E
open Go
open Rep (rd)
open Sep (own)
abbrev NoM:Nat→Prop:=fun _=>False
theorem noM (w:World):∀ q,NoM q→q < w.heap.size:=fun _ h=>h.elim
theorem z0q {w w' : World}(h:RW NoM w w'):Ext w w':=h.mono fun k hk hm=>hm.elim id fun h=>by omega
def z1P (k:Nat):Value→Value
 | .tuple vs=>vs.getD k undef
 | _=>undef
def VarB (TB k:Nat)(S:Nat→Prop)(v:Value)(w:World):Prop:=∃ b,v = .pointer (some ⟨b,0,none⟩)∧S b∧∃ cs,cs.length=k∧Blk w b TB cs
def WrB (TB:Nat)(S:Nat→Prop)(p x:Value)(w:World):Prop:=∃ b,p = .pointer (some ⟨b,0,none⟩)∧S b∧Blk w b TB x.cells.toList
section
variable {P:Program}{n d:Nat}{Q:Post}{ρ:Env}{w:World}{ops:Array Oper}{o:Oper}{l:List Oper}{h i m:Nat}{ks:List K2}{Θ:Nat→World→Prop}{C:List Nat}{os:List (Option Nat)}{K:Nat→World→Prop}{G:Nat→Nat→Prop}
theorem q0g {u:Value}(hk:ks[i]? = some (.fix u))(hc:C.contains i=false)(hoo:q2N os i=i)(hg:o.guard=none)(hd:o.dst=some d)(he:∀ w',Ext w w'→(∀ j,(q2v o).contains j=true→K j w')→Ev P ρ o w' u)
  (hr:LL2 P n Q ops h ks NoM Θ C os w (i+1) l (upd ρ d u) K G m):LL2 P n Q ops h ks NoM Θ C os w i (o :: l) ρ K G m:=
 .inl ⟨u,d,hk,hd,hc,hoo,fun w' hw _ hK=>q1C hg (he w' (z0q hw) hK) ⟨Ext.refl _,rfl⟩,hr⟩
theorem q0F {u:Value}(hk:ks[i]? = some (.fix u))(hc:C.contains i=false)(hoo:q2N os i=i)(hd:o.dst=some d)(he:∀ w',Ext w w'→(∀ j,(q2v o).contains j=true→K j w')→OpX P ops o ρ w' (fun v w''=>Ext w' w''∧v=u))
  (hr:LL2 P n Q ops h ks NoM Θ C os w (i+1) l (upd ρ d u) K G m):LL2 P n Q ops h ks NoM Θ C os w i (o :: l) ρ K G m:=
 .inl ⟨u,d,hk,hd,hc,hoo,fun w' hw _ hK=>he w' (z0q hw) hK,hr⟩
theorem LL2.free {φ:(Nat→Prop)→Value→World→Prop}(hk:ks[i]? = some (.free φ))(hc:C.contains i=false)(hoo:q2N os i=i)(hd:o.dst=some d)(he:∀ w',Ext w w'→(∀ j,(q2v o).contains j=true→K j w')→OpX P ops o ρ w' (fun v w''=>Ext w' w''∧φ (fun q=>w'.heap.size≤q∧q < w''.heap.size) v w''))
  (hr:∀ v S,LL2 P n Q ops h ks NoM Θ C os w (i+1) l (upd ρ d v) (fun j w'=>if j=i then φ S v w' else K j w') (fun j q=>if j=i then S q else G j q) m):LL2 P n Q ops h ks NoM Θ C os w i (o :: l) ρ K G m:=
 .inr (.inl ⟨φ,d,hk,hd,hc,hoo,fun w' hw _ hK=>he w' (z0q hw) hK,hr⟩)
theorem q0T {t:Nat}{x:Operand}(hk:ks[i]? = some (.dep t id))(hc:C.contains i=false)(hoo:q2N os i=i)(hg:o.guard=none)(hd:o.dst=some d)(ho:o.op = .move x∨o.op = .assign x)(hx:E.ev ρ x=ρ t)
  (hr:LL2 P n Q ops h ks NoM Θ C os w (i+1) l (upd ρ d (ρ t)) (fun j w'=>if j=i then (∀ j',(q2v o).contains j'=true→K j' w') else K j w') G m):LL2 P n Q ops h ks NoM Θ C os w i (o :: l) ρ K G m:=
 .inr (.inr (.inl ⟨t,id,d,hk,hd,hc,hoo,fun w' hw _ hK=>q1C (v:=ρ t) hg (by rcases ho with ho | ho; exact q0j ho hx; exact q1m ho hx) ⟨Ext.refl _,rfl⟩,hr⟩))
theorem q0z {t k:Nat}{x:Operand}(hk:ks[i]? = some (.dep t (z1P k)))(hc:C.contains i=false)(hoo:q2N os i=i)(hg:o.guard=none)(hd:o.dst=some d)(ho:o.op = .extract x k)(hx:E.ev ρ x=ρ t)
  (hf:∀ w',Ext w w'→(∀ j,(q2v o).contains j=true→K j w')→∃ vs u,ρ t = .tuple vs∧vs[k]? = some u)
  (hr:LL2 P n Q ops h ks NoM Θ C os w (i+1) l (upd ρ d (z1P k (ρ t))) (fun j w'=>if j=i then (∀ j',(q2v o).contains j'=true→K j' w') else K j w') G m):LL2 P n Q ops h ks NoM Θ C os w i (o :: l) ρ K G m:=
 .inr (.inr (.inl ⟨t,z1P k,d,hk,hd,hc,hoo,fun w' hw _ hK=>by
  obtain⟨vs,u,h1,h2⟩:=hf w' (z0q hw) hK
  refine q1C (v:=u) hg (q2n ho (hx.trans h1) h2) ⟨Ext.refl _,?_⟩
  rw [h1]
  show u=vs.getD k undef
  rw [Array.getD_eq_getD_getElem?,h2]; rfl,hr⟩))
theorem q0x {T k:Nat}{z:List Value}(hg:o.guard=none)(ho:o.op = .alloc T)(hz:q6d P T=some z)(hl:z.length=k):OpX P ops o ρ w (fun v w'=>Ext w w'∧VarB T k (fun q=>w.heap.size≤q∧q < w'.heap.size) v w'):=
 (OpX.alloc hg ho hz).mono fun v w' ⟨h1,b,h2,h3,h4⟩=>⟨h1,b,h2,h3,z,hl,h4⟩
theorem LL2.st {t s T TB k:Nat}{x y:Operand}(hk:ks[i]? = some (.wr t s (WrB TB)))(hf:ks[q2N os i]? = some (.free (VarB TB k)))(hc:C.contains i=false)(hoo:q2N os i≠i)(htd:q3f ops (q2N os i)=some t)
  (hg:o.guard=none) (hd:o.dst=none) (ho:o.op = .store T x y) (hkk:szT P T=some k) (hx:E.ev ρ x=ρ t) (hy:E.ev ρ y=ρ s)
  (hp:∀ w',Ext w w'→(∀ j,(q2v o).contains j=true→K j w')→VarB TB k (G (q2N os i)) (ρ t) w')
  (hv:∀ w',Ext w w'→(∀ j,(q2v o).contains j=true→K j w')→∃ l:List Value,(ρ s).cells=l.toArray∧l.length=k∧∀ u∈l,u.oneCell'=true)
  (hr:LL2 P n Q ops h ks NoM Θ C os w (i+1) l ρ (fun j w'=>if j=i then WrB TB (G (q2N os i)) (ρ t) (ρ s) w' else K j w') G m):LL2 P n Q ops h ks NoM Θ C os w i (o :: l) ρ K G m:=
 .inr (.inr (.inr (.inr (.inr (.inl ⟨t,s,WrB TB,VarB TB k,hk,hd,hc,hoo,htd,hf,fun w' hw _ hK=>by
  obtain⟨b,hb,hS,cs,hcs,hB⟩:=hp w' (z0q hw) hK
  obtain⟨l,h1,h2,h3⟩:=hv w' (z0q hw) hK
  obtain⟨w'',hrun,hch,hB'⟩:=z7s (P:=P) (off:=0) hkk h1 h2 h3 hB (by omega)
  have e:q3O cs 0 l=l:=by unfold q3O; simp; omega
  rw [e] at hB'
  refine .inl ⟨by simp [gate,hg],?_⟩
  simp only [execOp,ho,hx,hy,hb,Instr.storeAt,Instr.sureAddr,Sem.run_bind,Sem.run_pure,Result.andThen_ok,hrun,j4O]
  exact⟨hch.mono fun q _ hq=>by subst hq; exact hS,⟨b,rfl,hS,by rw [h1]; exact hB'⟩,b,rfl,hS,l,h2,hB'⟩,hr⟩)))))
end
section
variable {F:Nat→Prop}{w0 a b:World}{ps:List Pr}{l:List It}{S T:Nat→Prop}{TB k:Nat}{p x v:Value}{cells:List Value}
theorem NewI.chgT (h:NewI S a l)(hc:Chg T a b)(hS:∀ q,T q→¬ S q):NewI S b l:=by
 obtain⟨LC,h1,h2,h3⟩:=h
 have hlt:=h1.lt
 exact⟨LC,AllI.trans (fun _ h=>h) (fun _ h=>h.elim) h1 fun q hq=>hc.block q (hlt q hq) fun ht=>hS q ht (h3 q hq),h2,h3⟩
theorem VarB.chgT (h:VarB TB k S v a)(hc:Chg T a b)(hS:∀ q,T q→¬ S q):VarB TB k S v b:=by
 obtain⟨q,h1,h2,cs,h3,h4⟩:=h
 exact⟨q,h1,h2,cs,h3,(hc.block q h4.lt fun ht=>hS q ht h2).trans h4⟩
theorem WrB.chgT (h:WrB TB S p x a)(hc:Chg T a b)(hS:∀ q,T q→¬ S q):WrB TB S p x b:=by
 obtain⟨q,h1,h2,h4⟩:=h
 exact⟨q,h1,h2,(hc.block q h4.lt fun ht=>hS q ht h2).trans h4⟩
theorem j0L {S' : Nat→Prop}(h1:VarB TB k S p a)(h2:WrB TB S' p x a)(hx:x.cells.toList=cells):∃ b,p = .pointer (some ⟨b,0,none⟩)∧NewI S a [It.B b TB cells]:=by
 obtain⟨b,hb,hS,_⟩:=h1
 obtain⟨b',hb',_,hB⟩:=h2
 obtain rfl:b=b':=by rw [hb] at hb'; injection hb' with e; injection e with e; injection e
 rw [hx] at hB
 exact⟨b,hb,[([b],[])],⟨⟨rfl,rfl,hB⟩,trivial⟩,by simp [blks],by simpa [blks] using hS⟩
end
section
variable {F F0:Nat→Prop}{M:List Nat}{w0 w w' : World}{fr ps ps2:List Pr}{ow l l2:List It}{S S2:Nat→Prop}
theorem AllP.ext (h:AllP F w fr)(hE:Ext w w'):AllP F w' fr:=h.frame fun b _ hl=>hE.block b hl id
theorem HL.callL (H:HL F0 M w0 w fr ow):∃ F,(∀ q,F q→q < w.heap.size)∧AllP F w fr∧∀ {w' : World} {fr' : List Pr} {ow' : List It},HL F [] w w' fr' ow'→HL F0 M w0 w' (fr++fr') (ow++ow'):=by
 obtain⟨Fr,LC,h1,h2,h3,h4,h5,h6⟩:=H
 have hlt:=h3.lt
 have hs:=h1.size
 refine⟨_,fun q hq=>?_,h2,fun H=>HL.comp h1 h2 h3 h4 h5 h6 (fun _ h _=>h) H⟩
 rcases hq with ⟨_,hq,_⟩ | hq
 ·omega
 ·rcases List.mem_append.1 hq with hq | hq
  ·exact h5 q hq
  ·exact hlt q (q4N hq)
def NewV (F:Nat→Prop)(w0:World)(S:Nat→Prop)(w:World)(ps:List Pr)(l:List It):Prop:=
 ∃ Fr LC,AllP (fz F w0 [] (Fr++claims LC)) w ps∧AllI (fz F w0 [] (Fr++claims LC)) w l LC∧(Fr++blks LC).Nodup∧∀ q∈Fr++blks LC,S q∧q < w.heap.size
theorem NewV.chgT {T:Nat→Prop}{a b:World}(h:NewV F w0 S a ps l)(hc:Chg T a b)(hS:∀ q,T q→¬ S q)(hT:∀ q,T q→NoM q∨w0.heap.size≤q)(hF:∀ q,F q→q < w0.heap.size):NewV F w0 S b ps l:=by
 obtain⟨Fr,LC,h1,h2,h3,h4⟩:=h
 have hlt:=h2.lt
 have hX:∀ q,fz F w0 [] (Fr++claims LC) q→q < a.heap.size→b.heap[q]? = a.heap[q]?:=fun q hq hl=>hc.block q hl fun ht=>by
  rcases hq with ⟨hq,_⟩ | hq
  ·have:=hF q hq
   rcases hT q ht with h | h
   ·exact h
   ·omega
  ·refine hS q ht (h4 q ?_).1
   rcases List.mem_append.1 hq with h | h
   ·simp [h]
   ·exact List.mem_append.2 (.inr (q4N h))
 exact⟨Fr,LC,h1.frame hX,AllI.trans (fun _ h=>h) hX h2 fun q hq=>hc.block q (hlt q hq) fun ht=>hS q ht (h4 q (by simp [hq])).1,h3,fun q hq=>⟨(h4 q hq).1,Nat.lt_of_lt_of_le (h4 q hq).2 hc.size⟩⟩
theorem NewV.of (hF:∀ q,F q→q < w0.heap.size)(hE:Ext w0 w)(H:HL F [] w w' ps l):NewV F w0 (fun q=>w.heap.size≤q∧q < w'.heap.size) w' ps l:=by
 obtain⟨Fr,LC,h1,h2,h3,h4,h5,h6⟩:=H
 have hlt:=h3.lt
 have hsub:∀ q,fz F w [] (Fr++claims LC) q→fz F w0 [] (Fr++claims LC) q:=fun q hq=>hq.imp (fun ⟨a,_,c⟩=>⟨a,hF q a,c⟩) id
 refine⟨Fr,LC,h2.mono hsub,AllI.trans hsub (fun _ _ _=>rfl) h3 fun _ _=>rfl,h4,fun q hq=>?_⟩
 have h7:q < w'.heap.size:=by
  rcases List.mem_append.1 hq with hq | hq
  ·exact h5 q hq
  ·exact hlt q hq
 rcases h6 q hq with h | h
 ·simp at h
 ·exact⟨⟨h,h7⟩,h7⟩
theorem NewI.V (h:NewI S w l)(hf:z7K l):NewV F w0 S w [] l:=by
 obtain⟨LC,h1,h2,h3⟩:=h
 have hlt:=h1.lt
 exact⟨[],LC,trivial,h1.free hf,by simpa using h2,fun q hq=>⟨h3 q (by simpa using hq),hlt q (by simpa using hq)⟩⟩
theorem NewV.app (h:NewV F w0 S w ps l)(h2:NewV F w0 S2 w ps2 l2)(hd:∀ q,S q→S2 q→False):NewV F w0 (fun q=>S q∨S2 q) w (ps++ps2) (l++l2):=by
 obtain⟨A,B,a1,a2,a3,a4⟩:=h
 obtain⟨A',B',b1,b2,b3,b4⟩:=h2
 have s1:∀ q,fz F w0 [] (A++claims B) q→fz F w0 [] ((A++A')++claims (B++B')) q:=z2i fun q hq=>by
  rw [q4O]; simp only [List.mem_append] at hq ⊢; rcases hq with h | h<;>simp [h]
 have s2:∀ q,fz F w0 [] (A'++claims B') q→fz F w0 [] ((A++A')++claims (B++B')) q:=z2i fun q hq=>by
  rw [q4O]; simp only [List.mem_append] at hq ⊢; rcases hq with h | h<;>simp [h]
 refine⟨A++A',B++B',(a1.mono s1).app (b1.mono s2),(AllI.trans s1 (fun _ _ _=>rfl) a2 fun _ _=>rfl).app (AllI.trans s2 (fun _ _ _=>rfl) b2 fun _ _=>rfl),?_,fun q hq=>?_⟩
 ·have hx:∀ x∈A++blks B,∀ y∈A'++blks B',x≠y:=fun x hx y hy e=>by subst e; exact hd x (a4 x hx).1 (b4 x hy).1
  rw [q4S]
  simp only [List.nodup_append,List.mem_append] at a3 b3 hx ⊢
  obtain⟨a31,a32,a33⟩:=a3
  obtain⟨b31,b32,b33⟩:=b3
  refine⟨⟨a31,b31,fun x h1 y h2=>hx x (.inl h1) y (.inl h2)⟩,⟨a32,b32,fun x h1 y h2=>hx x (.inr h1) y (.inr h2)⟩,fun x h1 y h2=>?_⟩
  rcases h1 with h1 | h1<;>rcases h2 with h2 | h2
  ·exact a33 x h1 y h2
  ·exact hx x (.inl h1) y (.inr h2)
  ·exact fun e=>hx y (.inr h2) x (.inl h1) e.symm
  ·exact b33 x h1 y h2
 ·rw [q4S] at hq
  simp only [List.mem_append] at hq
  have k1:∀ q,q∈A++blks B→(S q∨S2 q)∧q < w.heap.size:=fun q hq=>⟨.inl (a4 q hq).1,(a4 q hq).2⟩
  have k2:∀ q,q∈A'++blks B'→(S q∨S2 q)∧q < w.heap.size:=fun q hq=>⟨.inr (b4 q hq).1,(b4 q hq).2⟩
  rcases hq with (h | h) | (h | h)
  ·exact k1 q (by simp [h])
  ·exact k2 q (by simp [h])
  ·exact k1 q (by simp [h])
  ·exact k2 q (by simp [h])
theorem q0X (h:NewV F w0 S w ps l)(hE:Ext w0 w)(hS:∀ q,S q→w0.heap.size≤q):HL F [] w0 w ps l:=by
 obtain⟨Fr,LC,h1,h2,h3,h4⟩:=h
 exact⟨Fr,LC,hE.mono fun _ _ e=>e.elim,h1,h2,h3,fun q hq=>(h4 q (by simp [hq])).2,fun q hq=>.inr (hS q (h4 q hq).1)⟩
end
end Go.E
namespace Go.E
open Go
section
variable {F0:Nat→Prop}{M:List Nat}{w0 w w' : World}{fr:List Pr}{ow ow' : List It}
theorem AllI.perm {F:Nat→Prop}(hp:ow.Perm ow'):∀ {LC:List (List Nat × List Nat)},AllI F w ow LC→∃ LC',LC.Perm LC'∧AllI F w ow' LC':=by
 induction hp with
 | nil=>exact fun {LC} h=>⟨LC,List.Perm.refl _,h⟩
 | cons x _ ih=>
  intro LC h
  cases LC with
  | nil=>exact h.elim
  | cons c LC=>
   obtain⟨L,C⟩:=c
   obtain⟨LC',h1,h2⟩:=ih h.2
   exact⟨(L,C) :: LC',h1.cons _,h.1,h2⟩
 | swap x y l=>
  intro LC h
  match LC,h with
  | (L,C) :: (L',C') :: LC,h=>exact⟨(L',C') :: (L,C) :: LC,List.Perm.swap _ _ _,h.2.1,h.1,h.2.2⟩
  | [_],h=>exact h.2.elim
  | [],h=>exact h.elim
 | trans _ _ ih1 ih2=>
  intro LC h
  obtain⟨A,a1,a2⟩:=ih1 h
  obtain⟨B,b1,b2⟩:=ih2 a2
  exact⟨B,a1.trans b1,b2⟩
theorem j1Q (LC:List (List Nat × List Nat)):blks LC=LC.flatMap fun x=>x.1++x.2:=by
 induction LC with
 | nil=>rfl
 | cons x l ih=>obtain⟨L,C⟩:=x; simp [blks,ih]
theorem HL.perm (hp:ow.Perm ow')(H:HL F0 M w0 w fr ow):HL F0 M w0 w fr ow':=by
 obtain⟨Fr,LC,h1,h2,h3,h4,h5,h6⟩:=H
 obtain⟨LC',p,h3'⟩:=h3.perm hp
 have pb:(blks LC).Perm (blks LC'):=by rw [j1Q,j1Q]; exact p.flatMap_right _
 have sub:∀ q,fz F0 w0 M (Fr++claims LC) q→fz F0 w0 M (Fr++claims LC') q:=z2i fun q hq=>by
  rcases List.mem_append.1 hq with h | h
  ·exact List.mem_append.2 (.inl h)
  ·refine List.mem_append.2 (.inr ?_)
   rw [j0p] at h ⊢
   obtain⟨x,hx,hq⟩:=h
   exact⟨x,p.mem_iff.1 hx,hq⟩
 exact⟨Fr,LC',h1,h2.mono sub,AllI.trans sub (fun _ _ _=>rfl) h3' (fun _ _=>rfl),(pb.append_left Fr).nodup_iff.1 h4,h5,fun q hq=>h6 q ((pb.append_left Fr).mem_iff.2 hq)⟩
def j9L {α:Type}(i j:Nat)(l:List α):List α:=match l[i]?,l[j]? with
 | some a,some b=>(l.set i b).set j a
 | _,_=>l
theorem j4P {α:Type}(i j:Nat)(l:List α):l.Perm (j9L i j l):=by
 unfold j9L
 split
 ·next a b h1 h2=>
  obtain⟨hi,rfl⟩:=List.getElem?_eq_some_iff.1 h1
  obtain⟨hj,rfl⟩:=List.getElem?_eq_some_iff.1 h2
  exact (List.set_set_perm hi hj).symm
 ·exact List.Perm.refl _
theorem HL.swap (i j:Nat)(H:HL F0 M w0 w fr ow):HL F0 M w0 w fr (j9L i j ow):=H.perm (j4P i j ow)
end
end Go.E
namespace Go.E
open Go
open Rep (rd)
open Sep (own)
theorem z9M (z:Array Value)(n:Nat):Builtin.zeroCells z n=madeCells z (n*z.size):=rfl
section
variable {F0:Nat→Prop}{M:List Nat}{w0 w w' : World}{fr:List Pr}{ow:List It}{i j:Nat}{e:TypeId}{v:Value}{cs:List Value}
variable {P:Program}{n d:Nat}{Q:Post}{ρ:Env}{ops:Array Oper}{o:Oper}{rest:List Oper}
theorem ownL.take {α:Type}[Sep α]:∀ {xs:List α} {L:List Nat} {cs:List Value} (h:Nat),ownL w L xs cs→∃ L',(∀ q∈L',q∈L)∧(L.Nodup→L'.Nodup)∧ownL w L' (xs.take h) (cs.take (h*Rep.sz α))
 | [],L,cs,h,ho=>⟨[],by simp,fun _=>List.nodup_nil,by obtain⟨_,rfl⟩:=ho; simp [ownL]⟩
 | x :: xs,L,cs,0,_=>⟨[],by simp,fun _=>List.nodup_nil,by simp [ownL]⟩
 | x :: xs,L,cs,h+1,⟨L1,L2,c,r,hL,hc,h1,h2⟩=>by
  obtain⟨L',g1,g2,g3⟩:=ownL.take h h2
  subst hL; subst hc
  have hl:=Rep.len (Sep.own_rd h1)
  refine⟨L1++L',fun q hq=>?_,fun hN=>?_,L1,L',c,r.take (h*Rep.sz α),rfl,?_,h1,g3⟩
  ·rcases List.mem_append.1 hq with h | h
   ·exact List.mem_append.2 (.inl h)
   ·exact List.mem_append.2 (.inr (g1 q h))
  ·rw [List.nodup_append] at hN ⊢
   exact⟨hN.1,g2 hN.2.1,fun a ha b hb=>hN.2.2 a ha b (g1 b hb)⟩
  ·rw [show (h+1)*Rep.sz α=c.length+h*Rep.sz α by rw [hl,Nat.add_mul]; omega,List.take_append]
   simp [List.take_of_length_le]
theorem RowO.take {k m h:Nat}{L:List Nat}{A:Option Addr}{c:Nat}(hr:RowO w e k (.slice A m c) m L cs)(hh:h≤m):RowO w e k (.slice A h c) h L (cs.take (h*k)):=by
 rcases hr with ⟨h1,rfl⟩ | ⟨⟨A',h1⟩,rfl,rfl,rfl⟩
 ·refine .inl ⟨⟨by rw [List.length_take,h1.1]; exact Nat.min_eq_left (Nat.mul_le_mul_right _ hh),?_⟩,by cases A<;>rfl⟩
  rcases h1.2 with ⟨hv,h0⟩ | ⟨g,cap,cur,hv,hb,hg,hn,hc,hs,ht⟩
  ·cases hv
   obtain rfl:h=0:=by omega
   exact .inl ⟨rfl,rfl⟩
  ·cases hv
   refine .inr ⟨g,_,cur,rfl,hb,hg,by omega,hc,hs,?_⟩
   rw [← ht,List.take_take,Nat.min_eq_left (Nat.mul_le_mul_right _ hh)]
 ·obtain rfl:h=0:=by omega
  cases h1
  exact .inr ⟨⟨_,rfl⟩,rfl,by simp,rfl⟩
theorem HL.cutO {α:Type}[Sep α]{xs:List α}{A:Option Addr}{m c h:Nat}(H:HL F0 M w0 w fr ow)(hi:ow[i]? = some (It.O e xs (.slice A m c)))(hh:h≤xs.length) :
  ∃ A' n' c',cutS A 0 h c (Rep.sz α) = .slice A' n' c'∧h≤c∧HL F0 M w0 w fr (ow.set i (It.O e (xs.take h) (.slice A' n' c'))):=by
 obtain⟨F,L,C,⟨cs,h0,h3⟩,hN,hF,hupd⟩:=H.upd hi
 obtain⟨A2,c2,he,hmc,_⟩:=h0.form
 injection he with e1 e2 e3; subst e1; subst e2; subst e3
 refine⟨A,h,c,?_,by omega,?_⟩
 ·unfold cutS; simp only [Nat.zero_mul,Nat.sub_zero]
  congr 1
  split
  ·rfl
  ·cases A with
   | none=>rfl
   | some a=>simp [Addr.add]
 ·obtain⟨L',g1,g2,g3⟩:=ownL.take h h3
  refine hupd (L':=L) (C':=L') (Chg.refl _) (fun F' _=>⟨cs.take (h*Rep.sz α),?_,g3⟩) ?_ (fun q hq=>.inl hq) (fun q hq=>.inl (g1 q hq))
  ·rw [List.length_take,Nat.min_eq_left hh]; exact h0.take hh
  ·rw [List.nodup_append] at hN ⊢
   exact⟨hN.1,g2 hN.2.1,fun a ha b hb=>hN.2.2 a ha b (g1 b hb)⟩
theorem HL.subO {α:Type}[Sep α]{xs:List α}{A:Option Addr}{m c l:Nat}(H:HL F0 M w0 w fr ow)(hi:ow[i]? = some (It.O e xs (.slice A m c)))(hl:l≤xs.length) :
  ∃ A' n' c',cutS A l m c (Rep.sz α) = .slice A' n' c'∧l≤m:=by
 have:=(H.rO hi).len
 exact⟨_,_,_,rfl,by omega⟩
theorem rdS.dropV {α:Type}[Rep α]{S:Nat→Prop}{xs:List α}{A:Option Addr}{m c l:Nat}(hx:rdS S w xs (.slice A m c))(hl:l≤m)(he:cutS A l m c (Rep.sz α)=v):rdS S w (xs.drop l) v:=by
 have hm:=hx.len
 subst hm; subst he
 have:=hx.cut hl (Nat.le_refl _)
 rwa [List.take_length] at this
theorem HL.ptSub {α:Type}[Sep α]{xs:List α}{A:Option Addr}{m c l j:Nat}{x:α}(H:HL F0 M w0 w fr ow)(hi:ow[i]? = some (It.O e xs (.slice A m c)))(he:cutS A l m c (Rep.sz α)=v)(hx:xs[l+j]? = some x) :
  ∃ b m' c',v = .slice (some ⟨b,l*Rep.sz α,none⟩) m' c'∧j < m'∧(Value.slice A m c).ownBlock=some b:=by
 obtain⟨b,c',h1,h2⟩:=H.ptO hi hx
 injection h1 with e1 e2 e3; subst e1; subst e2; subst e3
 have hlt:=(List.getElem?_eq_some_iff.1 hx).1
 obtain⟨A2,c2,h3,h4,_⟩:∃ A' c'',(Value.slice (some ⟨b,0,none⟩) xs.length c) = .slice A' xs.length c''∧xs.length≤c''∧True:=by
  obtain⟨F,L,C,⟨cs,h0,h3⟩,_⟩:=H.rI hi
  obtain⟨A2,c2,he2,hmc,_⟩:=h0.form
  exact⟨A2,c2,he2,hmc,trivial⟩
 injection h3 with e1 e2 e3; subst e3
 refine⟨b,xs.length - l,c - l,?_,by omega,h2⟩
 subst he; unfold cutS
 rw [if_neg (by omega)]; simp [Addr.add]; try exact fun h=>h.symm
theorem q1j {T k:TypeId}{x q1:Operand}{b l m c:Nat}{q:IntKind}{j:Int}(ho:o.op = .indexAddr T x q1)(hT:q4Y P T=some e)(hk:szT P e=some k)(hx:E.ev ρ x=v)(hv:v = .slice (some ⟨b,l*k,none⟩) m c)
  (hi:E.ev ρ q1 = .int q j) (h0:0≤j) (hj:j.toNat < m):Ev P ρ o w (.pointer (some ⟨b,0+(l+j.toNat)*k,none⟩)):=by
 have:=q0l (P:=P) (w:=w) ho hT hk hx hv hi h0 hj
 rwa [show l*k+j.toNat*k=0+(l+j.toNat)*k by rw [Nat.add_mul]; omega] at this
theorem j4y {z:List Value}(h:∀ u∈z,u.oneCell'=true):∀ m,∀ u∈reps z m,u.oneCell'=true
 | 0,u,hu=>by simp [reps] at hu
 | m+1,u,hu=>by
  rcases List.mem_append.1 hu with hu | hu
  ·exact h u hu
  ·exact j4y h m u hu
theorem q1Z {α:Type}[Sep α]{T:Nat}{z:List Value}{x:Operand}{xs:List α}{x0:α}{A:Option Addr}{m c l:Nat}(hg:o.guard=none)(hd:o.dst=none)
  (ho:o.op = .call { callee:=.builtin .clear,args:=#[x],argTypes:=#[T] }) (hT:q4Y P T=some e) (hk:szT P e=some (Rep.sz α)) (hz:q6d P e=some z) (hx0:∀ w,own [] w x0 z)
  (hx:E.ev ρ x=v) (H:HL F0 M w0 w fr ow) (hi:ow[i]? = some (It.O e xs (.slice A m c))) (hl:l≤m) (he:cutS A l m c (Rep.sz α)=v)
  (h:∀ w',HL F0 M w0 w' fr (ow.set i (It.O e (xs.take l++List.replicate (xs.length - l) x0) (.slice A m c)))→WL P n ops Q rest ρ w'):WL P n ops Q (o :: rest) ρ w:=by
 obtain⟨F,L,C,⟨cs,h0,h3⟩,hN,hF,hupd⟩:=H.upd hi
 obtain⟨A2,c2,he2,hmc,_⟩:=h0.form
 injection he2 with e1 e2 e3; subst e1; subst e3
 subst e2
 have hz1:=Rep.len (Sep.own_rd (hx0 w))
 have hz2:=Rep.one (Sep.own_rd (hx0 w))
 refine q0v hg fun a K ha hok hK=>?_
 unfold Oper.wp
 rw [q4n ha hok]
 obtain⟨v',hzv,hvc⟩:=q6L (P:=P) (w:=w) hz
 by_cases hlm:l=xs.length
 ·-- nothing to clear
  have hrun:(Builtin.clear_ #[T] o.type #[v]).run P w = .ok (.tuple #[]) w:=by
   subst he; unfold cutS; subst hlm
   cases hA:(if c=xs.length then A else A.map (·.add (xs.length*Rep.sz α)))<;>simp [Builtin.clear_,run_underlying (q5f hT)]
  simp only [execOp,ho,resolve,invoke,builtin,Sem.run_bind,Sem.run_pure,Result.andThen_ok,List.map_toArray,List.map_cons,List.map_nil,hx,hrun]
  refine hK _ _ ?_
  rw [hd]
  have hxs:xs.take l++List.replicate (xs.length - l) x0=xs:=by subst hlm; simp
  refine h w ?_
  rw [hxs]
  have:ow.set i (It.O e xs (.slice A xs.length c))=ow:=by
   apply List.ext_getElem?
   intro k
   rw [List.getElem?_set]
   split
   ·next hik=>subst hik; rw [hi]; simp [(List.getElem?_eq_some_iff.1 hi).1]
   ·rfl
  rw [this]; exact H
 ·have hlt:l < xs.length:=by omega
  obtain⟨h1,h2⟩:=h0.own hlt
  rcases h1.2 with ⟨hv,h00⟩ | ⟨g,cap,cur,hv,_,hgb,hn,hcm,hs,ht⟩
  ·omega
  ·injection hv with e1 e2 e3; subst e1; subst e3
   have hcells:(Builtin.zeroCells v'.cells (xs.length - l)).toList=reps z (xs.length - l):=by
    rw [z9M,hvc]
    have:=z1O z.toArray (xs.length - l)
    rw [this]
   have hlen2:(reps z (xs.length - l)).length=(xs.length - l)*Rep.sz α:=by rw [z2y,hz1]
   have hfit:l*Rep.sz α+(xs.length - l)*Rep.sz α≤cur.size:=by
    rw [← Nat.add_mul,hs,show l+(xs.length - l)=xs.length by omega]; exact Nat.mul_le_mul_right _ hn
   have hst:=run_storeCells_at P g (l*Rep.sz α) e (reps z (xs.length - l)) 0 cur w hgb (by rw [hlen2]; simpa using hfit) (j4y hz2 _)
   have hrun:(Builtin.clear_ #[T] o.type #[v]).run P w = .ok (.tuple #[]) (w.setRow g (q3O cur.toList (l*Rep.sz α) (reps z (xs.length - l))).toArray):=by
    subst he; unfold cutS
    rw [if_neg (by omega)]
    have e1:(Option.map (fun a=>Addr.add a (l*Rep.sz α)) (some (⟨g,0,none⟩:Addr)))=some ⟨g,l*Rep.sz α,none⟩:=by
     simp [Addr.add]; try exact fun h=>h.symm
    rw [e1]
    simp only [Nat.add_zero] at hst
    have hsp:q3O cur.toList (l*Rep.sz α) (reps z (xs.length - l))=List.take (l*Rep.sz α) cur.toList++reps z (xs.length - l)++List.drop (l*Rep.sz α+(reps z (xs.length - l)).length) cur.toList:=rfl
    rw [hsp]
    obtain⟨q,hq⟩:∃ q,xs.length - l=q+1:=⟨xs.length - l - 1,by omega⟩
    rw [hq] at hcells hst ⊢
    simp [Builtin.clear_,run_underlying (q5f hT),hzv,hcells,hst]
   simp only [execOp,ho,resolve,invoke,builtin,Sem.run_bind,Sem.run_pure,Result.andThen_ok,List.map_toArray,List.map_cons,List.map_nil,hx,hrun]
   refine hK _ _ ?_
   rw [hd]
   have hB:Blk w g e cur.toList:=by simpa [Blk] using hgb
   have hc:=z6J w g (q3O cur.toList (l*Rep.sz α) (reps z (xs.length - l))).toArray
   have hb' : Blk (w.setRow g (q3O cur.toList (l*Rep.sz α) (reps z (xs.length - l))).toArray) g e (q3O cur.toList (l*Rep.sz α) (reps z (xs.length - l))):=setRow_heap w g _ _ e _ hgb
   refine h _ ?_
   have hbC:g ∉ C:=fun hm=>by
    rw [h2] at hN
    simp [Value.ownBlock] at hN
    exact hN.1 hm
   obtain⟨L',g1,g2,g3⟩:=ownL.take l h3
   have hNC:=(List.nodup_append.1 hN).2.1
   have hzr:=ownL.reps (hx0 w) (xs.length - l)
   have hall:=g3.append hzr
   rw [List.append_nil] at hall
   have hcl:cs.length=xs.length*Rep.sz α:=h1.1
   have hspl:q3O cs (l*Rep.sz α) (reps z (xs.length - l))=cs.take (l*Rep.sz α)++reps z (xs.length - l):=by
    unfold q3O
    rw [List.drop_eq_nil_of_le (by rw [hlen2,hcl,← Nat.add_mul,show l+(xs.length - l)=xs.length by omega]; exact Nat.le_refl _),List.append_nil]
   refine hupd (L':=L) (C':=L') (hc.mono fun q _ e=>by rw [h2]; simp [Value.ownBlock,e]) (fun F' _=>⟨q3O cs (l*Rep.sz α) (reps z (xs.length - l)),.inl ⟨?_,h2⟩,?_⟩) ?_ (fun q hq=>.inl hq) (fun q hq=>.inl (g1 q hq))
   ·have:=h1.st (w':=w.setRow g (q3O cur.toList (l*Rep.sz α) (reps z (xs.length - l))).toArray) rfl hB (off:=l*Rep.sz α) (l:=reps z (xs.length - l)) (by rw [hlen2,← Nat.add_mul,show l+(xs.length - l)=xs.length by omega]; exact Nat.le_refl _) hb'
    rw [List.length_append,List.length_take,List.length_replicate,Nat.min_eq_left hl,show l+(xs.length - l)=xs.length by omega]
    exact this
   ·rw [hspl]
    refine hall.frame fun q hq=>hc.block q (h3.lt q (g1 q hq)) fun e=>hbC ?_
    subst e; exact g1 q hq
   ·rw [List.nodup_append] at hN ⊢
    exact⟨hN.1,g2 hNC,fun x hx y hy=>hN.2.2 x hx y (g1 y hy)⟩
end
end Go.E
namespace Go.E
section
variable {α σ ρ:Type}
theorem z8x {c:ρ}:∀ {xs:List α} {i:Nat} {p:Nat→α→Prop} {f:Nat→α→Unit→Option (Unit ⊕ ρ)},(∀ k x,xs[k]? = some x→(p (i+k) x→f (i+k) x ()=some (.inr c))∧(¬ p (i+k) x→f (i+k) x ()=some (.inl ()))) →
  ((∃ k x,xs[k]? = some x∧p (i+k) x)→q2u f i xs ()=some (.inr c))∧((∀ k x,xs[k]? = some x→¬ p (i+k) x)→q2u f i xs ()=some (.inl ()))
 | [],i,p,f,_=>⟨fun ⟨k,x,h,_⟩=>by simp at h,fun _=>rfl⟩
 | x :: xs,i,p,f,h=>by
  have h0:=h 0 x rfl
  simp only [Nat.add_zero] at h0
  have ih:=z8x (c:=c) (xs:=xs) (i:=i+1) (p:=p) (f:=f) fun k y hy=>by
   have:=h (k+1) y hy
   rwa [show i+(k+1)=i+1+k by omega] at this
  by_cases hp:p i x
  ·refine⟨fun _=>by simp [q2u,h0.1 hp],fun hn=>absurd hp (hn 0 x rfl)⟩
  ·simp only [q2u,h0.2 hp,Option.bind_some]
   refine⟨?_,?_⟩
   ·rintro⟨k,y,hy,hpy⟩
    cases k with
    | zero=>simp at hy; subst hy; exact absurd hpy hp
    | succ k=>exact ih.1 ⟨k,y,hy,by rwa [show i+1+k=i+(k+1) by omega]⟩
   ·intro hn
    exact ih.2 fun k y hy hpy=>hn (k+1) y hy (by rwa [show i+(k+1)=i+1+k by omega])
end
end Go.E

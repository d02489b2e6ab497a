/- What those partial functions come to: plain lemmas on data; each bears its conditions in its statement. -/
import Derived.Test.YteefempppabmkacGreatMathM6c
set_option linter.unusedVariables false
set_option linter.unusedSimpArgs false
set_option linter.ambiguousOpen false
set_option linter.unusedSectionVars false
set_option linter.unnecessarySimpa false
set_option linter.unusedVariables false
set_option linter.unusedSimpArgs false
namespace Go.Proofs.YteefempppabmkacGreat
open Go Go.E
theorem j6z {ρ:Type}{g:Nat→Option ρ}(hm:∀ n r,g n=some r→g (n+1)=some r){n:Nat}{r:ρ}(h:g n=some r):recO g=some r:=by
 have up:∀ (k n:Nat) (r:ρ),g n=some r→g (n+k)=some r:=by
  intro k
  induction k with
  | zero=>intro n r h; exact h
  | succ k ih=>intro n r h; exact hm _ _ (ih n r h)
 refine q7E n fun m hm=>?_
 have h1:=up (m - n) n r h
 rwa [show n+(m - n)=m by omega] at h1
theorem z7k {α σ:Type}{f g:Nat→α→σ→Option σ}(h:∀ k x s q,f k x s=some q→g k x s=some q):∀ (xs:List α) (i:Nat) (s q:σ),q2J f i xs s=some q→q2J g i xs s=some q
 | [],i,s,q,hq=>hq
 | x :: xs,i,s,q,hq=>by
  simp only [q2J] at hq ⊢
  obtain⟨t,h1,h2⟩:=bd hq
  rw [h _ _ _ _ h1]
  exact z7k h xs _ _ _ h2
theorem j2z (a b:Occurrence):z2Q a b=some (z0P a b):=by
 unfold z2Q z0P
 by_cases h1:a.Pos < b.Pos
 ·simp [h1]
 ·by_cases h2:a.Pos=b.Pos
  ·simp [h2]
  ·simp [h1,h2]
abbrev z4n (l:List Occurrence):Prop:=l.Pairwise fun a b=>z0P a b=true
theorem j8n {l:List Occurrence}{o:Occurrence}(hl:l.length≤4398046511104):∀ (m j:Nat),j+m=l.length→(∀ a∈l.take j,z0P a o=true) →
  ∃ k:Nat,q7k (z1b l o) (j:Int)=some ((k:Nat):Int)∧k≤l.length∧(∀ a∈l.take k,z0P a o=true)∧∀ y,l[k]? = some y→z0P y o=false:=by
 intro m
 induction m with
 | zero=>
  intro j hj ha
  refine⟨j,q3X ?_,by omega,ha,fun y hy=>?_⟩
  ·unfold z1b; rw [if_neg (by omega)]
  ·rw [List.getElem?_eq_none (by omega)] at hy; cases hy
 | succ m ih=>
  intro j hj ha
  obtain⟨x,hx⟩:∃ x,l[j]? = some x:=⟨_,List.getElem?_eq_getElem (by omega)⟩
  cases hb:z0P x o with
  | false=>
   refine⟨j,q3X ?_,by omega,ha,fun y hy=>?_⟩
   ·unfold z1b
    rw [if_pos (by omega),q2q (by omega)]
    simp only [Int.toNat_natCast]
    rw [hx,Option.bind_some,j2z,Option.bind_some,if_neg (by rw [hb]; simp)]
   ·rw [hx] at hy; cases hy; exact hb
  | true=>
   have e:z1b l o (j:Int)=some (.inl ((j+1:Nat):Int)):=by
    unfold z1b
    rw [if_pos (by omega),q2q (by omega)]
    simp only [Int.toNat_natCast]
    rw [hx,Option.bind_some,j2z,Option.bind_some,if_pos hb,q2q (by constructor<;>omega)]; rfl
   rw [q5h e]
   refine ih (j+1) (by omega) fun a h=>?_
   rw [List.take_add_one,hx] at h
   rcases List.mem_append.1 h with h | h
   ·exact ha a h
   ·simp at h; rw [h]; exact hb
theorem j6A {l:List Occurrence}{o:Occurrence}(hl:l.length < 4398046511104)(hs:z4n l):∃ q,z8q l o=some q∧z4n q∧(∀ a,a∈q↔a=o∨a∈l)∧q.length≤l.length+1:=by
 obtain⟨k,h1,h2,h3,h4⟩:=j8n (l:=l) (o:=o) (by omega) l.length 0 (by omega) (by simp)
 have h1' : q7k (z1b l o) 0=some ((k:Nat):Int):=h1
 have hput:∀ (hne:∀ y,l[k]? = some y→y≠o),z4n (l.take k++[o]++l.drop k)∧(∀ a,a∈l.take k++[o]++l.drop k↔a=o∨a∈l)∧(l.take k++[o]++l.drop k).length≤l.length+1:=fun hne=>by
  refine⟨?_,fun a=>?_,by simp; omega⟩
  ·have:=j4T (lt:=z0P) lessO_swo.trans z5k (k:=k) hs h3 fun y hy=>⟨h4 y hy,hne y hy⟩
   simpa using this
  ·have:a∈l↔a∈l.take k∨a∈l.drop k:=by rw [← List.mem_append,List.take_append_drop]
   rw [this]
   simp only [List.mem_append,List.mem_singleton]
   constructor
   ·rintro ((h | h) | h)<;>simp [h]
   ·rintro (h | h | h)<;>simp [h]
 unfold z8q
 rw [h1',Option.bind_some]
 by_cases hk:k < l.length
 ·obtain⟨x,hx⟩:∃ x,l[k]? = some x:=⟨_,List.getElem?_eq_getElem hk⟩
  rw [if_pos (by omega),q2q (by omega)]
  simp only [Int.toNat_natCast]
  rw [hx,Option.bind_some]
  by_cases hxo:x=o
  ·rw [if_pos hxo]
   refine⟨l,rfl,hs,fun a=>?_,by omega⟩
   have:=List.mem_of_getElem? hx
   constructor
   ·exact .inr
   ·rintro (h | h)
    ·rw [h,← hxo]; exact this
    ·exact h
  ·rw [if_neg hxo,q2q (by omega),q2q (by omega),q2q (by simp; omega),q2q (by simp; omega),q2q (by omega),q2q (by omega),q2q (by simp; omega)]
   exact⟨_,rfl,hput fun y hy=>by rw [hx] at hy; cases hy; exact hxo⟩
 ·rw [if_neg (by omega)]
  simp only [Int.toNat_natCast]
  rw [q2q (by omega),q2q (by omega),q2q (by simp; omega),q2q (by simp; omega),q2q (by omega),q2q (by omega),q2q (by simp; omega)]
  exact⟨_,rfl,hput fun y hy=>by rw [List.getElem?_eq_none (by omega)] at hy; cases hy⟩
theorem k0m:∀ (n:Nat) (e:Expr) (l q:List Occurrence),q6h n e l=some q→q6h (n+1) e l=some q:=by
 intro n
 induction n with
 | zero=>intro e l q h; cases h
 | succ n ih=>
  intro e l q h
  have h' : z1c (q6h n) e l=some q:=h
  show z1c (q6h (n+1)) e l=some q
  have m1:∀ (xs:List Expr) (i:Nat) (s q:List Occurrence),q2J (q9o (q6h n)) i xs s=some q→q2J (q9o (q6h (n+1))) i xs s=some q:=z7k fun k x s q hq=>by
   unfold q9o at hq ⊢
   obtain⟨y,h3,h4⟩:=bd hq
   rw [ih _ _ _ h3]; exact h4
  unfold z1c at h' ⊢
  by_cases hk:e.Kind=3
  ·rw [if_pos hk] at h' ⊢
   obtain⟨y,h1,h2⟩:=bd h'
   obtain⟨s,h3,h4⟩:=bd h2
   rw [h1,Option.bind_some,m1 _ _ _ _ h3]; exact h4
  ·rw [if_neg hk] at h' ⊢
   obtain⟨s,h3,h4⟩:=bd h'
   have m2:q2J (z4D (q6h (n+1))) 0 e.Args l=some s:=m1 _ _ _ _ h3
   rw [m2]; exact h4
theorem j5u:∀ (m:Nat) (e:Expr) (l:List Occurrence),fuE e≤m→z4n l→l.length+(z3y e).length≤1099511627776 →
  ∃ q,q6h m e l=some q∧z4n q∧(∀ a,a∈q↔a∈l∨a∈z3y e)∧q.length≤l.length+(z3y e).length:=by
 intro m
 induction m with
 | zero=>intro e l h; rw [z1N] at h; omega
 | succ m ih=>
  intro e l h hs hb
  rw [z1N] at h
  rw [z3e,List.length_append] at hb
  have hl:∀ (xs:List Expr) (i:Nat) (s:List Occurrence),fuEs xs≤m→z4n s→s.length+(q9i xs).length≤1099511627776 →
    ∃ q,q2J (q9o (q6h m)) i xs s=some q∧z4n q∧(∀ a,a∈q↔a∈s∨a∈q9i xs)∧q.length≤s.length+(q9i xs).length:=by
   intro xs
   induction xs with
   | nil=>intro i s _ hs _; exact⟨s,rfl,hs,by simp [q9i],by omega⟩
   | cons x xs ihl=>
    intro i s hf hs hb
    simp only [fuEs] at hf
    simp only [q9i,List.length_append] at hb
    obtain⟨q,h1,h2,h3,h4⟩:=ih x s (by omega) hs (by omega)
    obtain⟨q2,k1,k2,k3,k4⟩:=ihl (i+1) q (by omega) h2 (by omega)
    refine⟨q2,?_,k2,fun a=>?_,by simp only [q9i,List.length_append]; omega⟩
    ·simp only [q2J,q9o,h1,Option.bind_some]; exact k1
    ·rw [k3,h3,q9i,List.mem_append,or_assoc]
  show ∃ q,z1c (q6h m) e l=some q∧_
  unfold z1c
  by_cases hk:e.Kind=3
  ·rw [if_pos hk] at hb ⊢
   simp only [List.length_cons,List.length_nil] at hb
   obtain⟨y,h1,h2,h3,h4⟩:=j6A (l:=l) (o:=⟨e.Pos,e.Name⟩) (by omega) hs
   obtain⟨q,k1,k2,k3,k4⟩:=hl e.Args 0 y (by omega) h2 (by omega)
   refine⟨q,?_,k2,fun a=>?_,?_⟩
   ·rw [h1,Option.bind_some,k1]; rfl
   ·rw [k3,h3,z3e,if_pos hk,List.mem_append,List.mem_singleton]
    constructor
    ·rintro ((h | h) | h)<;>simp [h]
    ·rintro (h | h | h)<;>simp [h]
   ·rw [z3e,if_pos hk]; simp; omega
  ·rw [if_neg hk] at hb ⊢
   simp only [List.length_nil] at hb
   obtain⟨q,k1,k2,k3,k4⟩:=hl e.Args 0 l (by omega) hs (by omega)
   have k1' : q2J (z4D (q6h m)) 0 e.Args l=some q:=k1
   refine⟨q,?_,k2,fun a=>?_,?_⟩
   ·rw [k1']; rfl
   ·rw [k3,z3e,if_neg hk]; simp
   ·rw [z3e,if_neg hk]; simpa using k4
theorem j2A (e:Expr):z4n (z8i e):=by
 refine z3D lessO_swo.trans z5k ?_
 have h:=List.pairwise_mergeSort (le:=fun x y=>!z0P y x) (fun a b c h1 h2=>by
  simp only [Bool.not_eq_true'] at h1 h2 ⊢
  exact lessO_swo.ntrans _ _ _ h2 h1) (fun a b=>by
  cases h:z0P a b with
  | false=>simp [h]
  | true=>
   cases h2:z0P b a with
   | false=>simp
   | true=>have:=lessO_swo.trans _ _ _ h h2; rw [lessO_swo.irrefl] at this; cases this) (z3y e)
 unfold z9O
 exact h.imp fun {a b} h=>by simpa using h
theorem j4B {e:Expr}(h:Sz.szd e≤1048576):q7a e=some (z8i e):=by
 have hl:=j6x h
 obtain⟨q,h1,h2,h3,h4⟩:=j5u _ e [] (Nat.le_refl _) List.Pairwise.nil (by simp; omega)
 have hq:q=z8i e:=j0s (lt:=z0P) lessO_swo.irrefl lessO_swo.trans h2 (j2A e) fun a=>by rw [h3,j6y]; simp
 subst hq
 have hr:z8Y e []=some (z8i e):=j6z (fun n q=>k0m n e [] q) h1
 unfold q7a
 rw [hr]; rfl
end Go.Proofs.YteefempppabmkacGreat

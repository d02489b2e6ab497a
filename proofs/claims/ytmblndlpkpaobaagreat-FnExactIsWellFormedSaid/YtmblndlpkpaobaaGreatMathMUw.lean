/- What those partial functions come to: plain lemmas on data; each bears its conditions in its statement. -/
import Derived.Test.YtmblndlpkpaobaaGreatMathM6w
set_option linter.unusedVariables false
set_option linter.unusedSimpArgs false
set_option linter.ambiguousOpen false
set_option linter.unusedSectionVars false
set_option linter.unnecessarySimpa false
set_option linter.unusedVariables false
set_option linter.unusedSimpArgs false
namespace Go.Proofs.YtmblndlpkpaobaaGreat
open Go Go.E
theorem z7X {ρ:Type}{g:Nat→Option ρ}(hm:∀ n r,g n=some r→g (n+1)=some r){n:Nat}{r:ρ}(h:g n=some r):recO g=some r:=by
 have up:∀ (k n:Nat) (r:ρ),g n=some r→g (n+k)=some r:=by
  intro k
  induction k with
  | zero=>intro n r h; exact h
  | succ k ih=>intro n r h; exact hm _ _ (ih n r h)
 refine q4q n fun m hm=>?_
 have h1:=up (m - n) n r h
 rwa [show n+(m - n)=m by omega] at h1
theorem z1d {α σ:Type}{f g:Nat→α→σ→Option σ}(h:∀ k x s q,f k x s=some q→g k x s=some q):∀ (xs:List α)(i:Nat)(s q:σ),eachL f i xs s=some q→eachL g i xs s=some q
 | [],i,s,q,hq=>hq
 | x :: xs,i,s,q,hq=>by
  simp only [eachL] at hq ⊢
  obtain⟨t,h1,h2⟩:=bd hq
  rw [h _ _ _ _ h1]
  exact z1d h xs _ _ _ h2
theorem z5d (a b:Occurrence):q8f a b=some (lessO a b):=by
 unfold q8f lessO
 by_cases h1:a.Pos < b.Pos
 ·simp [h1]
 ·by_cases h2:a.Pos=b.Pos
  ·simp [h2]
  ·simp [h1,h2]
abbrev q8X (l:List Occurrence):Prop:=l.Pairwise fun a b=>lessO a b=true
theorem z8T {l:List Occurrence}{o:Occurrence}(hl:l.length≤4398046511104):∀ (m j:Nat),j+m=l.length→(∀ a∈l.take j,lessO a o=true) →
  ∃ k:Nat,iterO (q6P l o) (j:Int)=some ((k:Nat):Int)∧k≤l.length∧(∀ a∈l.take k,lessO a o=true)∧∀ y,l[k]? = some y→lessO y o=false:=by
 intro m
 induction m with
 | zero=>
  intro j hj ha
  refine⟨j,q1t ?_,by omega,ha,fun y hy=>?_⟩
  ·unfold q6P; rw [if_neg (by omega)]
  ·rw [List.getElem?_eq_none (by omega)] at hy; cases hy
 | succ m ih=>
  intro j hj ha
  obtain⟨x,hx⟩:∃ x,l[j]? = some x:=⟨_,List.getElem?_eq_getElem (by omega)⟩
  cases hb:lessO x o with
  | false=>
   refine⟨j,q1t ?_,by omega,ha,fun y hy=>?_⟩
   ·unfold q6P
    rw [if_pos (by omega),q0d (by omega)]
    simp only [Int.toNat_natCast]
    rw [hx,Option.bind_some,z5d,Option.bind_some,if_neg (by rw [hb]; simp)]
   ·rw [hx] at hy; cases hy; exact hb
  | true=>
   have e:q6P l o (j:Int)=some (.inl ((j+1:Nat):Int)):=by
    unfold q6P
    rw [if_pos (by omega),q0d (by omega)]
    simp only [Int.toNat_natCast]
    rw [hx,Option.bind_some,z5d,Option.bind_some,if_pos hb,q0d (by constructor<;>omega)]; rfl
   rw [q2b e]
   refine ih (j+1) (by omega) fun a h=>?_
   rw [List.take_add_one,hx] at h
   rcases List.mem_append.1 h with h | h
   ·exact ha a h
   ·simp at h; rw [h]; exact hb
theorem z7Y {l:List Occurrence}{o:Occurrence}(hl:l.length < 4398046511104)(hs:q8X l):∃ q,z1Q l o=some q∧q8X q∧(∀ a,a∈q↔a=o∨a∈l)∧q.length≤l.length+1:=by
 obtain⟨k,h1,h2,h3,h4⟩:=z8T (l:=l) (o:=o) (by omega) l.length 0 (by omega) (by simp)
 have h1' : iterO (q6P l o) 0=some ((k:Nat):Int):=h1
 have hput:∀ (hne:∀ y,l[k]? = some y→y≠o),q8X (l.take k++[o]++l.drop k)∧(∀ a,a∈l.take k++[o]++l.drop k↔a=o∨a∈l)∧(l.take k++[o]++l.drop k).length≤l.length+1:=fun hne=>by
  refine⟨?_,fun a=>?_,by simp; omega⟩
  ·have:=z6V (lt:=lessO) lessO_swo.trans q9D (k:=k) hs h3 fun y hy=>⟨h4 y hy,hne y hy⟩
   simpa using this
  ·have:a∈l↔a∈l.take k∨a∈l.drop k:=by rw [← List.mem_append,List.take_append_drop]
   rw [this]
   simp only [List.mem_append,List.mem_singleton]
   constructor
   ·rintro ((h | h) | h)<;>simp [h]
   ·rintro (h | h | h)<;>simp [h]
 unfold z1Q
 rw [h1',Option.bind_some]
 by_cases hk:k < l.length
 ·obtain⟨x,hx⟩:∃ x,l[k]? = some x:=⟨_,List.getElem?_eq_getElem hk⟩
  rw [if_pos (by omega),q0d (by omega)]
  simp only [Int.toNat_natCast]
  rw [hx,Option.bind_some]
  by_cases hxo:x=o
  ·rw [if_pos hxo]
   refine⟨l,rfl,hs,fun a=>?_,by omega⟩
   have:=List.mem_of_getElem? hx
   constructor
   ·exact .inr
   ·rintro (h | h)
    ·rw [h,← hxo]; exact this
    ·exact h
  ·rw [if_neg hxo,q0d (by omega),q0d (by omega),q0d (by simp; omega),q0d (by simp; omega),q0d (by omega),q0d (by omega),q0d (by simp; omega)]
   exact⟨_,rfl,hput fun y hy=>by rw [hx] at hy; cases hy; exact hxo⟩
 ·rw [if_neg (by omega)]
  simp only [Int.toNat_natCast]
  rw [q0d (by omega),q0d (by omega),q0d (by simp; omega),q0d (by simp; omega),q0d (by omega),q0d (by omega),q0d (by simp; omega)]
  exact⟨_,rfl,hput fun y hy=>by rw [List.getElem?_eq_none (by omega)] at hy; cases hy⟩
theorem j0a:∀ (n:Nat)(e:Expr)(l q:List Occurrence),q3m n e l=some q→q3m (n+1) e l=some q:=by
 intro n
 induction n with
 | zero=>intro e l q h; cases h
 | succ n ih=>
  intro e l q h
  have h' : q6Q (q3m n) e l=some q:=h
  show q6Q (q3m (n+1)) e l=some q
  have m1:∀ (xs:List Expr) (i:Nat) (s q:List Occurrence),eachL (q5F (q3m n)) i xs s=some q→eachL (q5F (q3m (n+1))) i xs s=some q:=z1d fun k x s q hq=>by
   unfold q5F at hq ⊢
   obtain⟨y,h3,h4⟩:=bd hq
   rw [ih _ _ _ h3]; exact h4
  unfold q6Q at h' ⊢
  by_cases hk:e.Kind=3
  ·rw [if_pos hk] at h' ⊢
   obtain⟨y,h1,h2⟩:=bd h'
   obtain⟨s,h3,h4⟩:=bd h2
   rw [h1,Option.bind_some,m1 _ _ _ _ h3]; exact h4
  ·rw [if_neg hk] at h' ⊢
   obtain⟨s,h3,h4⟩:=bd h'
   have m2:eachL (q9i (q3m (n+1))) 0 e.Args l=some s:=m1 _ _ _ _ h3
   rw [m2]; exact h4
theorem z7o:∀ (m:Nat)(e:Expr)(l:List Occurrence),fuE e≤m→q8X l→l.length+(usesE e).length≤1099511627776 →
  ∃ q,q3m m e l=some q∧q8X q∧(∀ a,a∈q↔a∈l∨a∈usesE e)∧q.length≤l.length+(usesE e).length:=by
 intro m
 induction m with
 | zero=>intro e l h; rw [fuE_eq] at h; omega
 | succ m ih=>
  intro e l h hs hb
  rw [fuE_eq] at h
  rw [q7t,List.length_append] at hb
  have hl:∀ (xs:List Expr) (i:Nat) (s:List Occurrence),fuEs xs≤m→q8X s→s.length+(usesEs xs).length≤1099511627776 →
    ∃ q,eachL (q5F (q3m m)) i xs s=some q∧q8X q∧(∀ a,a∈q↔a∈s∨a∈usesEs xs)∧q.length≤s.length+(usesEs xs).length:=by
   intro xs
   induction xs with
   | nil=>intro i s _ hs _; exact⟨s,rfl,hs,by simp [usesEs],by omega⟩
   | cons x xs ihl=>
    intro i s hf hs hb
    simp only [fuEs] at hf
    simp only [usesEs,List.length_append] at hb
    obtain⟨q,h1,h2,h3,h4⟩:=ih x s (by omega) hs (by omega)
    obtain⟨q2,k1,k2,k3,k4⟩:=ihl (i+1) q (by omega) h2 (by omega)
    refine⟨q2,?_,k2,fun a=>?_,by simp only [usesEs,List.length_append]; omega⟩
    ·simp only [eachL,q5F,h1,Option.bind_some]; exact k1
    ·rw [k3,h3,usesEs,List.mem_append,or_assoc]
  show ∃ q,q6Q (q3m m) e l=some q∧_
  unfold q6Q
  by_cases hk:e.Kind=3
  ·rw [if_pos hk] at hb ⊢
   simp only [List.length_cons,List.length_nil] at hb
   obtain⟨y,h1,h2,h3,h4⟩:=z7Y (l:=l) (o:=⟨e.Pos,e.Name⟩) (by omega) hs
   obtain⟨q,k1,k2,k3,k4⟩:=hl e.Args 0 y (by omega) h2 (by omega)
   refine⟨q,?_,k2,fun a=>?_,?_⟩
   ·rw [h1,Option.bind_some,k1]; rfl
   ·rw [k3,h3,q7t,if_pos hk,List.mem_append,List.mem_singleton]
    constructor
    ·rintro ((h | h) | h)<;>simp [h]
    ·rintro (h | h | h)<;>simp [h]
   ·rw [q7t,if_pos hk]; simp; omega
  ·rw [if_neg hk] at hb ⊢
   simp only [List.length_nil] at hb
   obtain⟨q,k1,k2,k3,k4⟩:=hl e.Args 0 l (by omega) hs (by omega)
   have k1' : eachL (q9i (q3m m)) 0 e.Args l=some q:=k1
   refine⟨q,?_,k2,fun a=>?_,?_⟩
   ·rw [k1']; rfl
   ·rw [k3,q7t,if_neg hk]; simp
   ·rw [q7t,if_neg hk]; simpa using k4
theorem z5e (e:Expr):q8X (attrs e):=by
 refine q8F lessO_swo.trans q9D ?_
 have h:=List.pairwise_mergeSort (le:=fun x y=>!lessO y x) (fun a b c h1 h2=>by
  simp only [Bool.not_eq_true'] at h1 h2 ⊢
  exact lessO_swo.ntrans _ _ _ h2 h1) (fun a b=>by
  cases h:lessO a b with
  | false=>simp [h]
  | true=>
   cases h2:lessO b a with
   | false=>simp
   | true=>have:=lessO_swo.trans _ _ _ h h2; rw [lessO_swo.irrefl] at this; cases this) (usesE e)
 unfold sortO
 exact h.imp fun {a b} h=>by simpa using h
theorem z8U {e:Expr}(h:Sz.szd e≤1048576):q5a e=some (attrs e):=by
 have hl:=z7W h
 obtain⟨q,h1,h2,h3,h4⟩:=z7o _ e [] (Nat.le_refl _) List.Pairwise.nil (by simp; omega)
 have hq:q=attrs e:=z3z (lt:=lessO) lessO_swo.irrefl lessO_swo.trans h2 (z5e e) fun a=>by rw [h3,z2L]; simp
 subst hq
 have hr:z2m e []=some (attrs e):=z7X (fun n q=>j0a n e [] q) h1
 unfold q5a
 rw [hr]; rfl
end Go.Proofs.YtmblndlpkpaobaaGreat

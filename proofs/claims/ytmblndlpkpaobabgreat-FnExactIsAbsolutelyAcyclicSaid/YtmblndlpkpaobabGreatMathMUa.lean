/- What those partial functions come to: plain lemmas on data; each bears its conditions in its statement. -/
import Derived.Test.YtmblndlpkpaobabGreatMathM6a
set_option linter.unusedVariables false
set_option linter.unusedSimpArgs false
set_option linter.ambiguousOpen false
set_option linter.unusedSectionVars false
set_option linter.unnecessarySimpa false
set_option linter.unusedVariables false
set_option linter.unusedSimpArgs false
namespace Go.Proofs.YtmblndlpkpaobabGreat
open Go Go.E
theorem j6k {ρ:Type}{g:Nat→Option ρ}(hm:∀ n r,g n=some r→g (n+1)=some r){n:Nat}{r:ρ}(h:g n=some r):recO g=some r:=by
 have up:∀ (k n:Nat) (r:ρ),g n=some r→g (n+k)=some r:=by
  intro k
  induction k with
  | zero=>intro n r h; exact h
  | succ k ih=>intro n r h; exact hm _ _ (ih n r h)
 refine q8p n fun m hm=>?_
 have h1:=up (m - n) n r h
 rwa [show n+(m - n)=m by omega] at h1
theorem z7c {α σ:Type}{f g:Nat→α→σ→Option σ}(h:∀ k x s q,f k x s=some q→g k x s=some q):∀ (xs:List α) (i:Nat) (s q:σ),q2G f i xs s=some q→q2G g i xs s=some q
 | [],i,s,q,hq=>hq
 | x :: xs,i,s,q,hq=>by
  simp only [q2G] at hq ⊢
  obtain⟨t,h1,h2⟩:=bd hq
  rw [h _ _ _ _ h1]
  exact z7c h xs _ _ _ h2
theorem j2f (a b:Occurrence):z2X a b=some (z0Y a b):=by
 unfold z2X z0Y
 by_cases h1:a.Pos < b.Pos
 ·simp [h1]
 ·by_cases h2:a.Pos=b.Pos
  ·simp [h2]
  ·simp [h1,h2]
abbrev z4r (l:List Occurrence):Prop:=l.Pairwise fun a b=>z0Y a b=true
theorem j7U {l:List Occurrence}{o:Occurrence}(hl:l.length≤4398046511104):∀ (m j:Nat),j+m=l.length→(∀ a∈l.take j,z0Y a o=true) →
  ∃ k:Nat,q5u (z1d l o) (j:Int)=some ((k:Nat):Int)∧k≤l.length∧(∀ a∈l.take k,z0Y a o=true)∧∀ y,l[k]? = some y→z0Y y o=false:=by
 intro m
 induction m with
 | zero=>
  intro j hj ha
  refine⟨j,q2X ?_,by omega,ha,fun y hy=>?_⟩
  ·unfold z1d; rw [if_neg (by omega)]
  ·rw [List.getElem?_eq_none (by omega)] at hy; cases hy
 | succ m ih=>
  intro j hj ha
  obtain⟨x,hx⟩:∃ x,l[j]? = some x:=⟨_,List.getElem?_eq_getElem (by omega)⟩
  cases hb:z0Y x o with
  | false=>
   refine⟨j,q2X ?_,by omega,ha,fun y hy=>?_⟩
   ·unfold z1d
    rw [if_pos (by omega),q2B (by omega)]
    simp only [Int.toNat_natCast]
    rw [hx,Option.bind_some,j2f,Option.bind_some,if_neg (by rw [hb]; simp)]
   ·rw [hx] at hy; cases hy; exact hb
  | true=>
   have e:z1d l o (j:Int)=some (.inl ((j+1:Nat):Int)):=by
    unfold z1d
    rw [if_pos (by omega),q2B (by omega)]
    simp only [Int.toNat_natCast]
    rw [hx,Option.bind_some,j2f,Option.bind_some,if_pos hb,q2B (by constructor<;>omega)]; rfl
   rw [q3V e]
   refine ih (j+1) (by omega) fun a h=>?_
   rw [List.take_add_one,hx] at h
   rcases List.mem_append.1 h with h | h
   ·exact ha a h
   ·simp at h; rw [h]; exact hb
theorem j6l {l:List Occurrence}{o:Occurrence}(hl:l.length < 4398046511104)(hs:z4r l):∃ q,z8b l o=some q∧z4r q∧(∀ a,a∈q↔a=o∨a∈l)∧q.length≤l.length+1:=by
 obtain⟨k,h1,h2,h3,h4⟩:=j7U (l:=l) (o:=o) (by omega) l.length 0 (by omega) (by simp)
 have h1' : q5u (z1d l o) 0=some ((k:Nat):Int):=h1
 have hput:∀ (hne:∀ y,l[k]? = some y→y≠o),z4r (l.take k++[o]++l.drop k)∧(∀ a,a∈l.take k++[o]++l.drop k↔a=o∨a∈l)∧(l.take k++[o]++l.drop k).length≤l.length+1:=fun hne=>by
  refine⟨?_,fun a=>?_,by simp; omega⟩
  ·have:=j4B (lt:=z0Y) lessO_swo.trans z5c (k:=k) hs h3 fun y hy=>⟨h4 y hy,hne y hy⟩
   simpa using this
  ·have:a∈l↔a∈l.take k∨a∈l.drop k:=by rw [← List.mem_append,List.take_append_drop]
   rw [this]
   simp only [List.mem_append,List.mem_singleton]
   constructor
   ·rintro ((h | h) | h)<;>simp [h]
   ·rintro (h | h | h)<;>simp [h]
 unfold z8b
 rw [h1',Option.bind_some]
 by_cases hk:k < l.length
 ·obtain⟨x,hx⟩:∃ x,l[k]? = some x:=⟨_,List.getElem?_eq_getElem hk⟩
  rw [if_pos (by omega),q2B (by omega)]
  simp only [Int.toNat_natCast]
  rw [hx,Option.bind_some]
  by_cases hxo:x=o
  ·rw [if_pos hxo]
   refine⟨l,rfl,hs,fun a=>?_,by omega⟩
   have:=List.mem_of_getElem? hx
   constructor
   ·exact .inr
   ·rintro (h | h)
    ·rw [h,← hxo]; exact this
    ·exact h
  ·rw [if_neg hxo,q2B (by omega),q2B (by omega),q2B (by simp; omega),q2B (by simp; omega),q2B (by omega),q2B (by omega),q2B (by simp; omega)]
   exact⟨_,rfl,hput fun y hy=>by rw [hx] at hy; cases hy; exact hxo⟩
 ·rw [if_neg (by omega)]
  simp only [Int.toNat_natCast]
  rw [q2B (by omega),q2B (by omega),q2B (by simp; omega),q2B (by simp; omega),q2B (by omega),q2B (by omega),q2B (by simp; omega)]
  exact⟨_,rfl,hput fun y hy=>by rw [List.getElem?_eq_none (by omega)] at hy; cases hy⟩
theorem j9X:∀ (n:Nat) (e:Expr) (l q:List Occurrence),q5Z n e l=some q→q5Z (n+1) e l=some q:=by
 intro n
 induction n with
 | zero=>intro e l q h; cases h
 | succ n ih=>
  intro e l q h
  have h' : z1e (q5Z n) e l=some q:=h
  show z1e (q5Z (n+1)) e l=some q
  have m1:∀ (xs:List Expr) (i:Nat) (s q:List Occurrence),q2G (q9o (q5Z n)) i xs s=some q→q2G (q9o (q5Z (n+1))) i xs s=some q:=z7c fun k x s q hq=>by
   unfold q9o at hq ⊢
   obtain⟨y,h3,h4⟩:=bd hq
   rw [ih _ _ _ h3]; exact h4
  unfold z1e at h' ⊢
  by_cases hk:e.Kind=3
  ·rw [if_pos hk] at h' ⊢
   obtain⟨y,h1,h2⟩:=bd h'
   obtain⟨s,h3,h4⟩:=bd h2
   rw [h1,Option.bind_some,m1 _ _ _ _ h3]; exact h4
  ·rw [if_neg hk] at h' ⊢
   obtain⟨s,h3,h4⟩:=bd h'
   have m2:q2G (z4C (q5Z (n+1))) 0 e.Args l=some s:=m1 _ _ _ _ h3
   rw [m2]; exact h4
theorem j5f:∀ (m:Nat) (e:Expr) (l:List Occurrence),fuE e≤m→z4r l→l.length+(z2H e).length≤1099511627776 →
  ∃ q,q5Z m e l=some q∧z4r q∧(∀ a,a∈q↔a∈l∨a∈z2H e)∧q.length≤l.length+(z2H e).length:=by
 intro m
 induction m with
 | zero=>intro e l h; rw [z1T] at h; omega
 | succ m ih=>
  intro e l h hs hb
  rw [z1T] at h
  rw [z3m,List.length_append] at hb
  have hl:∀ (xs:List Expr) (i:Nat) (s:List Occurrence),fuEs xs≤m→z4r s→s.length+(q9d xs).length≤1099511627776 →
    ∃ q,q2G (q9o (q5Z m)) i xs s=some q∧z4r q∧(∀ a,a∈q↔a∈s∨a∈q9d xs)∧q.length≤s.length+(q9d xs).length:=by
   intro xs
   induction xs with
   | nil=>intro i s _ hs _; exact⟨s,rfl,hs,by simp [q9d],by omega⟩
   | cons x xs ihl=>
    intro i s hf hs hb
    simp only [fuEs] at hf
    simp only [q9d,List.length_append] at hb
    obtain⟨q,h1,h2,h3,h4⟩:=ih x s (by omega) hs (by omega)
    obtain⟨q2,k1,k2,k3,k4⟩:=ihl (i+1) q (by omega) h2 (by omega)
    refine⟨q2,?_,k2,fun a=>?_,by simp only [q9d,List.length_append]; omega⟩
    ·simp only [q2G,q9o,h1,Option.bind_some]; exact k1
    ·rw [k3,h3,q9d,List.mem_append,or_assoc]
  show ∃ q,z1e (q5Z m) e l=some q∧_
  unfold z1e
  by_cases hk:e.Kind=3
  ·rw [if_pos hk] at hb ⊢
   simp only [List.length_cons,List.length_nil] at hb
   obtain⟨y,h1,h2,h3,h4⟩:=j6l (l:=l) (o:=⟨e.Pos,e.Name⟩) (by omega) hs
   obtain⟨q,k1,k2,k3,k4⟩:=hl e.Args 0 y (by omega) h2 (by omega)
   refine⟨q,?_,k2,fun a=>?_,?_⟩
   ·rw [h1,Option.bind_some,k1]; rfl
   ·rw [k3,h3,z3m,if_pos hk,List.mem_append,List.mem_singleton]
    constructor
    ·rintro ((h | h) | h)<;>simp [h]
    ·rintro (h | h | h)<;>simp [h]
   ·rw [z3m,if_pos hk]; simp; omega
  ·rw [if_neg hk] at hb ⊢
   simp only [List.length_nil] at hb
   obtain⟨q,k1,k2,k3,k4⟩:=hl e.Args 0 l (by omega) hs (by omega)
   have k1' : q2G (z4C (q5Z m)) 0 e.Args l=some q:=k1
   refine⟨q,?_,k2,fun a=>?_,?_⟩
   ·rw [k1']; rfl
   ·rw [k3,z3m,if_neg hk]; simp
   ·rw [z3m,if_neg hk]; simpa using k4
theorem j2g (e:Expr):z4r (attrs e):=by
 refine z3G lessO_swo.trans z5c ?_
 have h:=List.pairwise_mergeSort (le:=fun x y=>!z0Y y x) (fun a b c h1 h2=>by
  simp only [Bool.not_eq_true'] at h1 h2 ⊢
  exact lessO_swo.ntrans _ _ _ h2 h1) (fun a b=>by
  cases h:z0Y a b with
  | false=>simp [h]
  | true=>
   cases h2:z0Y b a with
   | false=>simp
   | true=>have:=lessO_swo.trans _ _ _ h h2; rw [lessO_swo.irrefl] at this; cases this) (z2H e)
 unfold z8o
 exact h.imp fun {a b} h=>by simpa using h
theorem j4a {e:Expr}(h:Sz.szd e≤1048576):q5T e=some (attrs e):=by
 have hl:=j6i h
 obtain⟨q,h1,h2,h3,h4⟩:=j5f _ e [] (Nat.le_refl _) List.Pairwise.nil (by simp; omega)
 have hq:q=attrs e:=j0a (lt:=z0Y) lessO_swo.irrefl lessO_swo.trans h2 (j2g e) fun a=>by rw [h3,j6j]; simp
 subst hq
 have hr:z8x e []=some (attrs e):=j6k (fun n q=>j9X n e [] q) h1
 unfold q5T
 rw [hr]; rfl
end Go.Proofs.YtmblndlpkpaobabGreat

/- What those partial functions come to: plain lemmas on data; each bears its conditions in its statement. -/
import Derived.Test.YtmblndlpkpaobabGreatMathMVa
set_option linter.unusedVariables false
set_option linter.unusedSimpArgs false
set_option linter.ambiguousOpen false
set_option linter.unusedSectionVars false
set_option linter.unnecessarySimpa false
set_option linter.unusedVariables false
set_option linter.unusedSimpArgs false
namespace Go.Proofs.YtmblndlpkpaobabGreat
open Go Go.E
theorem j8i (e:Expr):∀ m,fuE e≤m→z5X m e=some (allE z4s e):=by
 induction e using z0N with
 | h e ih=>
  intro m hm
  obtain⟨m,rfl⟩:∃ q,m=q+1:=⟨m - 1,by have:=z4T e; omega⟩
  show z8a (z5X m) e=_
  unfold z8a
  rw [q3L (c:=false) (q:=allE z4s) fun k x hx=>by
   unfold j1P
   rw [ih x hx m (by have:=z4U hx; omega),Option.bind_some]
   cases allE z4s x<;>rfl]
  rw [j1i,Option.bind_some]
  cases e.Args.all (allE z4s) with
  | true=>rw [if_pos rfl,q3q,j8g,Bool.and_true]; rfl
  | false=>rw [if_neg (by simp),z8k,Bool.and_false]
theorem k0n (e:Expr):j0E e=some (allE z4s e):=q8p (fuE e) fun m hm=>j8i e m hm
theorem z9i {α:Type}(q:α→Bool)(l:List α):(!l.any fun x=>!q x)=l.all q:=by
 induction l with
 | nil=>rfl
 | cons x l ih=>simp [← ih]
theorem j8j (e:Expr):∀ m,fuE e≤m→q4C m e=some (allE z4s e):=by
 induction e using z0N with
 | h e ih=>
  intro m hm
  obtain⟨m,rfl⟩:∃ q,m=q+1:=⟨m - 1,by have:=z4T e; omega⟩
  show q5r (q4C m) e=_
  unfold q5r q3b q3g
  rw [j8h,Option.bind_some,j1i]
  cases z4s e with
  | false=>rfl
  | true=>
   rw [if_pos rfl,z9g (q:=fun x=>!allE z4s x) fun k x hx=>by
    unfold q4h q5P
    rw [ih x hx m (by have:=z4U hx; omega),Option.bind_some,Option.bind_some]
    cases allE z4s x<;>rfl]
   rw [Bool.true_and,← z9i]
   cases e.Args.any fun x=>!allE z4s x with
   | true=>
    have:(0:Int)≤((0+e.Args.findIdx fun x=>!allE z4s x:Nat):Int):=Int.natCast_nonneg _
    rw [if_pos rfl,Option.bind_some,z8k,Option.bind_some,Option.bind_some,decide_eq_true this]
   | false=>rfl
theorem k0o (e:Expr):q6t e=some (allE z4s e):=q8p (fuE e) fun m hm=>j8j e m hm
def z9j (e:Expr):Bool:=decide (cntE e≤24)&&(decide (depE e≤6)&&allE z4s e)
theorem j6y {e:Expr}(h:cntE e≤1099511627776):q9O e=some (z9j e):=by
 unfold q9O z9j
 rw [j6q h,Option.bind_some,j6s h,k0o]
 by_cases h1:cntE e≤24
 ·rw [if_pos (by omega),Option.bind_some,Option.bind_some]
  by_cases h2:depE e≤6
  ·rw [if_pos (by simp; omega),Option.bind_some]; simp [h1,h2]
  ·rw [if_neg (by simp; omega)]; simp [h1,h2]
 ·rw [if_neg (by omega)]; simp [h1]
theorem j6z {e:Expr}(h:cntE e≤1099511627776):q9H e=some (z9j e):=by
 unfold q9H z9j
 rw [j7X (by omega) (by omega) h,Option.bind_some,j6t h,k0n]
 unfold z7V
 by_cases h1:cntE e≤24
 ·have h24:((cntE e:Nat):Int)≤24:=by omega
  rw [if_pos h24,if_pos (by omega:(0:Int)≤24 - ((cntE e:Nat):Int)),Option.bind_some,Option.bind_some]
  by_cases h2:depE e≤6
  ·rw [if_pos (by simp; omega),Option.bind_some]; simp [h1,h2]
  ·rw [if_neg (by simp; omega)]; simp [h1,h2]
 ·have h24:¬ ((cntE e:Nat):Int)≤24:=by omega
  rw [if_neg h24,if_neg (by omega:¬ (0:Int)≤-1)]; simp [h1]
end Go.Proofs.YtmblndlpkpaobabGreat

/- What those partial functions come to: plain lemmas on data; each bears its conditions in its statement. -/
import Derived.Test.YtmblndlpkpaobabGreatMathMVa
set_option linter.unusedVariables false
set_option linter.unusedSimpArgs false
set_option linter.ambiguousOpen false
set_option linter.unusedSectionVars false
set_option linter.unnecessarySimpa false
set_option linter.unusedVariables false
set_option linter.unusedSimpArgs false
namespace Go.Proofs.YtmblndlpkpaobabGreat
open Go Go.E
theorem j8e (e:Expr):∀ m,fuE e≤m→z5V m e=some (allE z4q e):=by
 induction e using z0L with
 | h e ih=>
  intro m hm
  obtain⟨m,rfl⟩:∃ q,m=q+1:=⟨m - 1,by have:=z4S e; omega⟩
  show z7Y (z5V m) e=_
  unfold z7Y
  rw [q3L (c:=false) (q:=allE z4q) fun k x hx=>by
   unfold j1L
   rw [ih x hx m (by have:=z4T hx; omega),Option.bind_some]
   cases allE z4q x<;>rfl]
  rw [j1e,Option.bind_some]
  cases e.Args.all (allE z4q) with
  | true=>rw [if_pos rfl,q3q,j8c,Bool.and_true]; rfl
  | false=>rw [if_neg (by simp),z8i,Bool.and_false]
theorem k0j (e:Expr):j0A e=some (allE z4q e):=q8q (fuE e) fun m hm=>j8e e m hm
theorem z9g {α:Type}(q:α→Bool)(l:List α):(!l.any fun x=>!q x)=l.all q:=by
 induction l with
 | nil=>rfl
 | cons x l ih=>simp [← ih]
theorem j8f (e:Expr):∀ m,fuE e≤m→q4C m e=some (allE z4q e):=by
 induction e using z0L with
 | h e ih=>
  intro m hm
  obtain⟨m,rfl⟩:∃ q,m=q+1:=⟨m - 1,by have:=z4S e; omega⟩
  show q5r (q4C m) e=_
  unfold q5r q3b q3g
  rw [j8d,Option.bind_some,j1e]
  cases z4q e with
  | false=>rfl
  | true=>
   rw [if_pos rfl,z9e (q:=fun x=>!allE z4q x) fun k x hx=>by
    unfold q4h q5P
    rw [ih x hx m (by have:=z4T hx; omega),Option.bind_some,Option.bind_some]
    cases allE z4q x<;>rfl]
   rw [Bool.true_and,← z9g]
   cases e.Args.any fun x=>!allE z4q x with
   | true=>
    have:(0:Int)≤((0+e.Args.findIdx fun x=>!allE z4q x:Nat):Int):=Int.natCast_nonneg _
    rw [if_pos rfl,Option.bind_some,z8i,Option.bind_some,Option.bind_some,decide_eq_true this]
   | false=>rfl
theorem k0k (e:Expr):q6t e=some (allE z4q e):=q8q (fuE e) fun m hm=>j8f e m hm
def z9h (e:Expr):Bool:=decide (cntE e≤24)&&(decide (depE e≤6)&&allE z4q e)
theorem j6u {e:Expr}(h:cntE e≤1099511627776):q9M e=some (z9h e):=by
 unfold q9M z9h
 rw [j6m h,Option.bind_some,j6o h,k0k]
 by_cases h1:cntE e≤24
 ·rw [if_pos (by omega),Option.bind_some,Option.bind_some]
  by_cases h2:depE e≤6
  ·rw [if_pos (by simp; omega),Option.bind_some]; simp [h1,h2]
  ·rw [if_neg (by simp; omega)]; simp [h1,h2]
 ·rw [if_neg (by omega)]; simp [h1]
theorem j6v {e:Expr}(h:cntE e≤1099511627776):q9F e=some (z9h e):=by
 unfold q9F z9h
 rw [j7T (by omega) (by omega) h,Option.bind_some,j6p h,k0j]
 unfold z7T
 by_cases h1:cntE e≤24
 ·have h24:((cntE e:Nat):Int)≤24:=by omega
  rw [if_pos h24,if_pos (by omega:(0:Int)≤24 - ((cntE e:Nat):Int)),Option.bind_some,Option.bind_some]
  by_cases h2:depE e≤6
  ·rw [if_pos (by simp; omega),Option.bind_some]; simp [h1,h2]
  ·rw [if_neg (by simp; omega)]; simp [h1,h2]
 ·have h24:¬ ((cntE e:Nat):Int)≤24:=by omega
  rw [if_neg h24,if_neg (by omega:¬ (0:Int)≤-1)]; simp [h1]
end Go.Proofs.YtmblndlpkpaobabGreat

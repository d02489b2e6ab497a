/- What those partial functions come to: plain lemmas on data; each bears its conditions in its statement. -/
import Derived.Test.YteefempppabmkacGreatMathMVc
set_option linter.unusedVariables false
set_option linter.unusedSimpArgs false
set_option linter.ambiguousOpen false
set_option linter.unusedSectionVars false
set_option linter.unnecessarySimpa false
set_option linter.unusedVariables false
set_option linter.unusedSimpArgs false
namespace Go.Proofs.YteefempppabmkacGreat
open Go Go.E
theorem j8A (e:Expr):∀ m,fuE e≤m→z6f m e=some (allE z4o e):=by
 induction e using q8Y with
 | h e ih=>
  intro m hm
  obtain⟨m,rfl⟩:∃ q,m=q+1:=⟨m - 1,by have:=z3r e; omega⟩
  show z8p (z6f m) e=_
  unfold z8p
  rw [q2P (c:=false) (q:=allE z4o) fun k x hx=>by
   unfold j2i
   rw [ih x hx m (by have:=z3s hx; omega),Option.bind_some]
   cases allE z4o x<;>rfl]
  rw [z7l,Option.bind_some]
  cases e.Args.all (allE z4o) with
  | true=>rw [if_pos rfl,q2S,j8y,Bool.and_true]; rfl
  | false=>rw [if_neg (by simp),z6K,Bool.and_false]
theorem k0C (e:Expr):j1c e=some (allE z4o e):=q7E (fuE e) fun m hm=>j8A e m hm
theorem z9A {α:Type}(q:α→Bool)(l:List α):(!l.any fun x=>!q x)=l.all q:=by
 induction l with
 | nil=>rfl
 | cons x l ih=>simp [← ih]
theorem j8B (e:Expr):∀ m,fuE e≤m→q4p m e=some (allE z4o e):=by
 induction e using q8Y with
 | h e ih=>
  intro m hm
  obtain⟨m,rfl⟩:∃ q,m=q+1:=⟨m - 1,by have:=z3r e; omega⟩
  show q5k (q4p m) e=_
  unfold q5k q2Q q3a
  rw [j8z,Option.bind_some,z7l]
  cases z4o e with
  | false=>rfl
  | true=>
   rw [if_pos rfl,z9y (q:=fun x=>!allE z4o x) fun k x hx=>by
    unfold q3Y q5W
    rw [ih x hx m (by have:=z3s hx; omega),Option.bind_some,Option.bind_some]
    cases allE z4o x<;>rfl]
   rw [Bool.true_and,← z9A]
   cases e.Args.any fun x=>!allE z4o x with
   | true=>
    have:(0:Int)≤((0+e.Args.findIdx fun x=>!allE z4o x:Nat):Int):=Int.natCast_nonneg _
    rw [if_pos rfl,Option.bind_some,z6K,Option.bind_some,Option.bind_some,decide_eq_true this]
   | false=>rfl
theorem k0D (e:Expr):q6z e=some (allE z4o e):=q7E (fuE e) fun m hm=>j8B e m hm
def z9B (e:Expr):Bool:=decide (cntE e≤24)&&(decide (depE e≤6)&&allE z4o e)
theorem j6N {e:Expr}(h:cntE e≤1099511627776):q9L e=some (z9B e):=by
 unfold q9L z9B
 rw [j6F h,Option.bind_some,j6H h,k0D]
 by_cases h1:cntE e≤24
 ·rw [if_pos (by omega),Option.bind_some,Option.bind_some]
  by_cases h2:depE e≤6
  ·rw [if_pos (by simp; omega),Option.bind_some]; simp [h1,h2]
  ·rw [if_neg (by simp; omega)]; simp [h1,h2]
 ·rw [if_neg (by omega)]; simp [h1]
theorem j6O {e:Expr}(h:cntE e≤1099511627776):q9D e=some (z9B e):=by
 unfold q9D z9B
 rw [j8p (by omega) (by omega) h,Option.bind_some,j6I h,k0C]
 unfold z8j
 by_cases h1:cntE e≤24
 ·have h24:((cntE e:Nat):Int)≤24:=by omega
  rw [if_pos h24,if_pos (by omega:(0:Int)≤24 - ((cntE e:Nat):Int)),Option.bind_some,Option.bind_some]
  by_cases h2:depE e≤6
  ·rw [if_pos (by simp; omega),Option.bind_some]; simp [h1,h2]
  ·rw [if_neg (by simp; omega)]; simp [h1,h2]
 ·have h24:¬ ((cntE e:Nat):Int)≤24:=by omega
  rw [if_neg h24,if_neg (by omega:¬ (0:Int)≤-1)]; simp [h1]
end Go.Proofs.YteefempppabmkacGreat

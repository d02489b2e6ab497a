/- What those partial functions come to: plain lemmas on data; each bears its conditions in its statement. -/
import Derived.Test.YtmblndlpkpaobaaGreatMathMVw
set_option linter.unusedVariables false
set_option linter.unusedSimpArgs false
set_option linter.ambiguousOpen false
set_option linter.unusedSectionVars false
set_option linter.unnecessarySimpa false
set_option linter.unusedVariables false
set_option linter.unusedSimpArgs false
namespace Go.Proofs.YtmblndlpkpaobaaGreat
open Go Go.E
theorem z9h (e:Expr):∀ m,fuE e≤m→z0l m e=some (allE nodeB e):=by
 induction e using q5d with
 | h e ih=>
  intro m hm
  obtain⟨m,rfl⟩:∃ q,m=q+1:=⟨m - 1,by have:=fu_pos e; omega⟩
  show z1P (z0l m) e=_
  unfold z1P
  rw [q0v (c:=false) (q:=allE nodeB) fun k x hx=>by
   unfold z4L
   rw [ih x hx m (by have:=fu_arg hx; omega),Option.bind_some]
   cases allE nodeB x<;>rfl]
  rw [z1e,Option.bind_some]
  cases e.Args.all (allE nodeB) with
  | true=>rw [if_pos rfl,q0s,z9f,Bool.and_true]; rfl
  | false=>rw [if_neg (by simp),z1T,Bool.and_false]
theorem j0n (e:Expr):z3R e=some (allE nodeB e):=q4q (fuE e) fun m hm=>z9h e m hm
theorem z2O {α:Type}(q:α→Bool)(l:List α):(!l.any fun x=>!q x)=l.all q:=by
 induction l with
 | nil=>rfl
 | cons x l ih=>simp [← ih]
theorem z9i (e:Expr):∀ m,fuE e≤m→q1M m e=some (allE nodeB e):=by
 induction e using q5d with
 | h e ih=>
  intro m hm
  obtain⟨m,rfl⟩:∃ q,m=q+1:=⟨m - 1,by have:=fu_pos e; omega⟩
  show q2x (q1M m) e=_
  unfold q2x q0D q0J
  rw [z9g,Option.bind_some,z1e]
  cases nodeB e with
  | false=>rfl
  | true=>
   rw [if_pos rfl,z2M (q:=fun x=>!allE nodeB x) fun k x hx=>by
    unfold q1w q3g
    rw [ih x hx m (by have:=fu_arg hx; omega),Option.bind_some,Option.bind_some]
    cases allE nodeB x<;>rfl]
   rw [Bool.true_and,← z2O]
   cases e.Args.any fun x=>!allE nodeB x with
   | true=>
    have:(0:Int)≤((0+e.Args.findIdx fun x=>!allE nodeB x:Nat):Int):=Int.natCast_nonneg _
    rw [if_pos rfl,Option.bind_some,z1T,Option.bind_some,Option.bind_some,decide_eq_true this]
   | false=>rfl
theorem j0o (e:Expr):q3z e=some (allE nodeB e):=q4q (fuE e) fun m hm=>z9i e m hm
def validB (e:Expr):Bool:=decide (cntE e≤24)&&(decide (depE e≤6)&&allE nodeB e)
theorem z8h {e:Expr}(h:cntE e≤1099511627776):q5Z e=some (validB e):=by
 unfold q5Z validB
 rw [z8c h,Option.bind_some,z8e h,j0o]
 by_cases h1:cntE e≤24
 ·rw [if_pos (by omega),Option.bind_some,Option.bind_some]
  by_cases h2:depE e≤6
  ·rw [if_pos (by simp; omega),Option.bind_some]; simp [h1,h2]
  ·rw [if_neg (by simp; omega)]; simp [h1,h2]
 ·rw [if_neg (by omega)]; simp [h1]
theorem z8i {e:Expr}(h:cntE e≤1099511627776):q5S e=some (validB e):=by
 unfold q5S validB
 rw [z8W (by omega) (by omega) h,Option.bind_some,z8f h,j0n]
 unfold leftI
 by_cases h1:cntE e≤24
 ·have h24:((cntE e:Nat):Int)≤24:=by omega
  rw [if_pos h24,if_pos (by omega:(0:Int)≤24 - ((cntE e:Nat):Int)),Option.bind_some,Option.bind_some]
  by_cases h2:depE e≤6
  ·rw [if_pos (by simp; omega),Option.bind_some]; simp [h1,h2]
  ·rw [if_neg (by simp; omega)]; simp [h1,h2]
 ·have h24:¬ ((cntE e:Nat):Int)≤24:=by omega
  rw [if_neg h24,if_neg (by omega:¬ (0:Int)≤-1)]; simp [h1]
end Go.Proofs.YtmblndlpkpaobaaGreat

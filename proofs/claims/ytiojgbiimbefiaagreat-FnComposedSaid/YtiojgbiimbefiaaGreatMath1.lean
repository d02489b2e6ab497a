/- What those partial functions come to: plain lemmas on data; each bears its conditions in its statement. -/
import Derived.Test.YtiojgbiimbefiaaGreatEng6
set_option linter.unusedVariables false
set_option linter.unusedSimpArgs false
set_option linter.ambiguousOpen false
set_option linter.unusedSectionVars false
set_option linter.unnecessarySimpa false
set_option maxRecDepth 100000
set_option maxHeartbeats 4000000
noncomputable section
namespace Go.Proofs.YtiojgbiimbefiaaGreat
open Go Go.E
open Go.E.Sz (szd)
instance:Sz Attribute where
 szd x:=x.Name.size
theorem z2y (x:Attribute):Sz.szd x=x.Name.size:=rfl
instance:Sz Symbol where
 szd x:=x.Name.size+szL x.Attributes
theorem z1K (x:Symbol):Sz.szd x=x.Name.size+szL x.Attributes:=rfl
instance:Sz Occurrence where
 szd x:=x.Name.size
mutual
def q5n:Expr→Nat
 | ⟨a0,a1,a2,a3,a4,a5,a6⟩=>a4.size+a5.size+q6k a6
def q6k:List Expr→Nat
 | []=>0
 | x :: xs=>1+q5n x+q6k xs
end
instance:Sz Expr:=⟨q5n⟩
theorem z4Q (a:List Expr):q6k a=szL a:=by
 induction a with
 | nil=>rfl
 | cons x xs ih=>simp only [q6k,szL,ih]; rfl
theorem q3i (x:Expr):Sz.szd x=x.Symbol.size+x.Name.size+szL x.Args:=by
 cases x; show q5n _=_; simp only [q5n,z4Q]
instance:Sz Equation where
 szd x:=x.At.Name.size+x.Expr.Symbol.size+x.Expr.Name.size+szL x.Expr.Args
theorem q9A (x:Equation):Sz.szd x=x.At.Name.size+x.Expr.Symbol.size+x.Expr.Name.size+szL x.Expr.Args:=rfl
instance:Sz Contribution where
 szd x:=x.Symbol.size+x.Name.size+x.Target.Symbol.size+x.Target.Name.size+szL x.Target.Args+x.Value.Symbol.size+x.Value.Name.size+szL x.Value.Args
theorem q9J (x:Contribution):Sz.szd x=x.Symbol.size+x.Name.size+x.Target.Symbol.size+x.Target.Name.size+szL x.Target.Args+x.Value.Symbol.size+x.Value.Name.size+szL x.Value.Args:=rfl
instance:Sz Rule where
 szd x:=x.Name.size+x.Left.size+szL x.Right+szL x.Equations+szL x.Contributions
theorem z2z (x:Rule):Sz.szd x=x.Name.size+x.Left.size+szL x.Right+szL x.Equations+szL x.Contributions:=rfl
instance:Sz Grammar where
 szd x:=szL x.Symbols+szL x.Rules
theorem z0I (x:Grammar):Sz.szd x=szL x.Symbols+szL x.Rules:=rfl
instance:Sz Relation where
 szd x:=szL x.Rows
end Go.Proofs.YtiojgbiimbefiaaGreat

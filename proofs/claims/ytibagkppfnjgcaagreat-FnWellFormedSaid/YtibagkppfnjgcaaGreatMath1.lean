/- What those partial functions come to: plain lemmas on data; each bears its conditions in its statement. -/
import Derived.Test.YtibagkppfnjgcaaGreatEng6
set_option linter.unusedVariables false
set_option linter.unusedSimpArgs false
set_option linter.ambiguousOpen false
set_option linter.unusedSectionVars false
set_option linter.unnecessarySimpa false
set_option maxRecDepth 100000
set_option maxHeartbeats 4000000
noncomputable section
namespace Go.Proofs.YtibagkppfnjgcaaGreat
open Go Go.E
open Go.E.Sz (szd)
instance:Sz Attribute where
 szd x:=x.Name.size
theorem z9R (x:Attribute):Sz.szd x=x.Name.size:=rfl
instance:Sz Symbol where
 szd x:=x.Name.size+szL x.Attributes
theorem z8X (x:Symbol):Sz.szd x=x.Name.size+szL x.Attributes:=rfl
instance:Sz Occurrence where
 szd x:=x.Name.size
mutual
def q9x:Expr→Nat
 | ⟨a0,a1,a2,a3,a4,a5,a6⟩=>a4.size+a5.size+z1A a6
def z1A:List Expr→Nat
 | []=>0
 | x :: xs=>1+q9x x+z1A xs
end
instance:Sz Expr:=⟨q9x⟩
theorem j2E (a:List Expr):z1A a=szL a:=by
 induction a with
 | nil=>rfl
 | cons x xs ih=>simp only [z1A,szL,ih]; rfl
theorem q5K (x:Expr):Sz.szd x=x.Symbol.size+x.Name.size+szL x.Args:=by
 cases x; show q9x _=_; simp only [q9x,j2E]
instance:Sz Equation where
 szd x:=x.At.Name.size+x.Expr.Symbol.size+x.Expr.Name.size+szL x.Expr.Args
theorem z5W (x:Equation):Sz.szd x=x.At.Name.size+x.Expr.Symbol.size+x.Expr.Name.size+szL x.Expr.Args:=rfl
instance:Sz Contribution where
 szd x:=x.Symbol.size+x.Name.size+x.Target.Symbol.size+x.Target.Name.size+szL x.Target.Args+x.Value.Symbol.size+x.Value.Name.size+szL x.Value.Args
theorem z2V (x:Contribution):Sz.szd x=x.Symbol.size+x.Name.size+x.Target.Symbol.size+x.Target.Name.size+szL x.Target.Args+x.Value.Symbol.size+x.Value.Name.size+szL x.Value.Args:=rfl
instance:Sz Rule where
 szd x:=x.Name.size+x.Left.size+szL x.Right+szL x.Equations+szL x.Contributions
theorem z5f (x:Rule):Sz.szd x=x.Name.size+x.Left.size+szL x.Right+szL x.Equations+szL x.Contributions:=rfl
instance:Sz Grammar where
 szd x:=szL x.Symbols+szL x.Rules
theorem z2E (x:Grammar):Sz.szd x=szL x.Symbols+szL x.Rules:=rfl
end Go.Proofs.YtibagkppfnjgcaaGreat

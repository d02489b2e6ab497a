/- What those partial functions come to: plain lemmas on data; each bears its conditions in its statement. -/
import Derived.Test.YtaholdflpgcndaaGreatEng6
set_option linter.unusedVariables false
set_option linter.unusedSimpArgs false
set_option linter.ambiguousOpen false
set_option linter.unusedSectionVars false
set_option linter.unnecessarySimpa false
set_option maxRecDepth 100000
set_option maxHeartbeats 4000000
noncomputable section
namespace Go.Proofs.YtaholdflpgcndaaGreat
open Go Go.E
open Go.E.Sz (szd)
instance:Sz Attribute where
 szd x:=x.Name.size
instance:Sz Symbol where
 szd x:=x.Name.size+szL x.Attributes
theorem z3d (x:Symbol):Sz.szd x=x.Name.size+szL x.Attributes:=rfl
instance:Sz Occurrence where
 szd x:=x.Name.size
theorem z5S (x:Occurrence):Sz.szd x=x.Name.size:=rfl
mutual
def q7r:Expr→Nat
 | ⟨a0,a1,a2,a3,a4,a5,a6⟩=>a4.size+a5.size+q9e a6
def q9e:List Expr→Nat
 | []=>0
 | x :: xs=>1+q7r x+q9e xs
end
instance:Sz Expr:=⟨q7r⟩
theorem z9U (a:List Expr):q9e a=szL a:=by
 induction a with
 | nil=>rfl
 | cons x xs ih=>simp only [q9e,szL,ih]; rfl
theorem q4V (x:Expr):Sz.szd x=x.Symbol.size+x.Name.size+szL x.Args:=by
 cases x; show q7r _=_; simp only [q7r,z9U]
instance:Sz Equation where
 szd x:=x.At.Name.size+x.Expr.Symbol.size+x.Expr.Name.size+szL x.Expr.Args
theorem q7J (x:Equation):Sz.szd x=x.At.Name.size+x.Expr.Symbol.size+x.Expr.Name.size+szL x.Expr.Args:=rfl
instance:Sz Contribution where
 szd x:=x.Symbol.size+x.Name.size+x.Target.Symbol.size+x.Target.Name.size+szL x.Target.Args+x.Value.Symbol.size+x.Value.Name.size+szL x.Value.Args
theorem q6h (x:Contribution):Sz.szd x=x.Symbol.size+x.Name.size+x.Target.Symbol.size+x.Target.Name.size+szL x.Target.Args+x.Value.Symbol.size+x.Value.Name.size+szL x.Value.Args:=rfl
instance:Sz Rule where
 szd x:=x.Name.size+x.Left.size+szL x.Right+szL x.Equations+szL x.Contributions
theorem z2q (x:Rule):Sz.szd x=x.Name.size+x.Left.size+szL x.Right+szL x.Equations+szL x.Contributions:=rfl
instance:Sz Grammar where
 szd x:=szL x.Symbols+szL x.Rules
theorem q8G (x:Grammar):Sz.szd x=szL x.Symbols+szL x.Rules:=rfl
instance:Sz Node where
 szd x:=x.Rule.size+szL x.Children
theorem z4f (x:Node):Sz.szd x=x.Rule.size+szL x.Children:=rfl
instance:Sz Tree where
 szd x:=szL x.Nodes
theorem z4g (x:Tree):Sz.szd x=szL x.Nodes:=rfl
instance:Sz Instance where
 szd x:=x.Name.size
instance:Sz TraceStep where
 szd x:=x.At.Name.size+szL x.Inputs
theorem z2r (x:TraceStep):Sz.szd x=x.At.Name.size+szL x.Inputs:=rfl
end Go.Proofs.YtaholdflpgcndaaGreat
namespace Go.Proofs.YtaholdflpgcndaaGreat
open Go Go.E
theorem q8f {α ρ:Type}{p:α→Bool}{r:α→ρ}:∀ {xs:List α} {i:Nat} {f:Nat→α→Unit→Option (Unit ⊕ ρ)},(∀ k x,x∈xs→(p x=true→f k x ()=some (.inr (r x)))∧(p x=false→f k x ()=some (.inl ()))) →
  findL f i xs ()=some (match xs.find? p with | some x=>.inr (r x) | none=>.inl ())
 | [],_,_,_=>rfl
 | x :: xs,i,f,h=>by
  have h0:=h i x (by simp)
  cases hp:p x with
  | true=>simp [findL,h0.1 hp,List.find?,hp]
  | false=>
   have ih:=q8f (p:=p) (r:=r) (xs:=xs) (i:=i+1) (f:=f) fun k y hy=>h k y (by simp [hy])
   simp [findL,h0.2 hp,List.find?,hp,ih]
theorem z2s (x lo hi:Int):q4a x lo hi=some (decide (lo≤x∧x≤hi)):=by
 unfold q4a; split<;>simp_all<;>omega
theorem j5m (x lo hi:Int):q3K x lo hi=some (decide (lo≤x∧x≤hi)):=by
 unfold q3K; split<;>simp_all<;>omega
theorem j2x {α:Type}[Sz α]{x:α}:∀ {l:List α},x∈l→Sz.szd x≤szL l
 | [],h=>by simp at h
 | y :: l,h=>by
  rcases List.mem_cons.1 h with rfl | h
  ·simp only [szL]; omega
  ·have:=j2x h; simp only [szL]; omega
theorem j5O {g:Grammar}(h:Sz.szd g≤1048576):∀ y∈g.Symbols,y.Attributes.length≤1048576:=fun y hy=>by
 have h1:=j2x hy
 have h2:=z3d y
 have h3:=q8G g
 have h4:=q3A y.Attributes
 omega
end Go.Proofs.YtaholdflpgcndaaGreat
namespace Go.Proofs.YtaholdflpgcndaaGreat
open Go Go.E
def bit (x:Int)(k:Int):Prop:=x.toNat >>> k.toNat &&& 1=1
instance (x k:Int):Decidable (bit x k):=by unfold bit; infer_instance
end Go.Proofs.YtaholdflpgcndaaGreat

/- What those partial functions come to: plain lemmas on data; each bears its conditions in its statement. -/
import Derived.Test.YteefempppabmkacGreatLift
import Derived.Test.YteefempppabmkacGreatEngC
set_option linter.unusedVariables false
set_option linter.unusedSimpArgs false
set_option linter.ambiguousOpen false
set_option linter.unusedSectionVars false
set_option linter.unnecessarySimpa false
set_option linter.unusedVariables false
set_option linter.unusedSimpArgs false
namespace Go.Proofs.YteefempppabmkacGreat
open Go Go.E
theorem z4M {α ρ:Type}{p:α→Bool}{r:α→ρ}:∀ {xs:List α} {i:Nat} {f:Nat→α→Unit→Option (Unit ⊕ ρ)},(∀ k x,x∈xs→(p x=true→f k x ()=some (.inr (r x)))∧(p x=false→f k x ()=some (.inl ()))) →
  q2u f i xs ()=some (match xs.find? p with | some x=>.inr (r x) | none=>.inl ())
 | [],_,_,_=>rfl
 | x :: xs,i,f,h=>by
  have h0:=h i x (by simp)
  cases hp:p x with
  | true=>simp [q2u,h0.1 hp,List.find?,hp]
  | false=>
   have ih:=z4M (p:=p) (r:=r) (xs:=xs) (i:=i+1) (f:=f) fun k y hy=>h k y (by simp [hy])
   simp [q2u,h0.2 hp,List.find?,hp,ih]
theorem z1n (x lo hi:Int):q5q x lo hi=some (decide (lo≤x∧x≤hi)):=by
 unfold q5q; split<;>simp_all<;>omega
theorem z4Z (x lo hi:Int):q2Y x lo hi=some (decide (lo≤x∧x≤hi)):=by
 unfold q2Y; split<;>simp_all<;>omega
theorem j0x (r:Rule)(k:Int):q6U r k=q4a r k:=by
 unfold q6U q4a; rw [z1n,z4Z]
theorem j6v {α:Type}[Sz α]{x:α}:∀ {l:List α},x∈l→Sz.szd x≤szL l
 | [],h=>by simp at h
 | y :: l,h=>by
  rcases List.mem_cons.1 h with rfl | h
  ·simp only [szL]; omega
  ·have:=j6v h; simp only [szL]; omega
theorem z7j {g:Grammar}(h:Sz.szd g≤1048576):∀ y∈g.Symbols,y.Attributes.length≤1048576:=fun y hy=>by
 have h1:=j6v hy
 have h2:=j0t y
 have h3:=z0O g
 have h4:=q2R y.Attributes
 omega
theorem q5o {r:Rule}(h:Sz.szd r≤1048576):r.Right.length≤1048576:=by
 have h1:=z4y r
 have h2:=q2R r.Right
 omega
end Go.Proofs.YteefempppabmkacGreat

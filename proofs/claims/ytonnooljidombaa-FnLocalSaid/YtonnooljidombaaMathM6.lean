/- What those partial functions come to: plain lemmas on data; each bears its conditions in its statement. -/
import Derived.Test.YtonnooljidombaaLift
import Derived.Test.YtonnooljidombaaEngC
import Derived.Test.YtonnooljidombaaEngD
set_option linter.unusedVariables false
set_option linter.unusedSimpArgs false
set_option linter.ambiguousOpen false
set_option linter.unusedSectionVars false
set_option linter.unnecessarySimpa false
set_option linter.unusedVariables false
set_option linter.unusedSimpArgs false
namespace Go.Proofs.Ytonnooljidombaa
open Go Go.E
/-! ### the uses of an expression, from left to right -/
mutual
def usesE : Expr → List Occurrence
  | ⟨a0, a1, a2, a3, a4, a5, a6⟩ => (if a0 = 3 then [⟨a2, a5⟩] else []) ++ usesEs a6
def usesEs : List Expr → List Occurrence
  | [] => []
  | x :: xs => usesE x ++ usesEs xs
end
mutual
/-- fuel enough -/
def fuE : Expr → Nat
  | ⟨_, _, _, _, _, _, a6⟩ => fuEs a6 + 1
def fuEs : List Expr → Nat
  | [] => 0
  | x :: xs => max (fuE x) (fuEs xs)
end
theorem fuE_eq (e : Expr) : fuE e = fuEs e.Args + 1 := by cases e; rfl
theorem fuEs_mem : ∀ {l : List Expr} {x : Expr}, x ∈ l → fuE x ≤ fuEs l
  | y :: l, x, h => by
    simp only [fuEs]
    rcases List.mem_cons.1 h with e | h
    · subst e; omega
    · have := fuEs_mem h; omega
theorem usesE_eq (e : Expr) : usesE e = (if e.Kind = 3 then [⟨e.Pos, e.Name⟩] else []) ++ usesEs e.Args := by cases e; rfl
mutual
theorem usesE_len : ∀ e : Expr, (usesE e).length ≤ 1 + Expr_szf e
  | ⟨a0, a1, a2, a3, a4, a5, a6⟩ => by
    have := usesEs_len a6
    simp only [usesE, Expr_szf, List.length_append]
    split <;> simp <;> omega
theorem usesEs_len : ∀ l : List Expr, (usesEs l).length ≤ Expr_szs l
  | [] => by simp [usesEs]
  | x :: xs => by
    have h1 := usesE_len x
    have h2 := usesEs_len xs
    simp only [usesEs, Expr_szs, List.length_append]; omega
end
theorem uses_sz {e : Expr} (h : Sz.szd e ≤ 1048576) : (usesE e).length ≤ 1048577 := by
  have h1 := usesE_len e
  have h2 : Expr_szf e = Sz.szd e := rfl
  omega
theorem mem_usesEs {o : Occurrence} : ∀ {l : List Expr}, o ∈ usesEs l ↔ ∃ x ∈ l, o ∈ usesE x
  | [] => by simp [usesEs]
  | x :: xs => by simp [usesEs, mem_usesEs (l := xs)]
/-! ### the uses, in order and without doubles -/
def attrs (e : Expr) : List Occurrence := compactL (sortO (usesE e))
theorem mem_attrs {o : Occurrence} {e : Expr} : o ∈ attrs e ↔ o ∈ usesE e := by
  unfold attrs sortO
  rw [mem_compactL, List.mem_mergeSort]
theorem attrs_len {e : Expr} : (attrs e).length ≤ (usesE e).length := by
  unfold attrs
  refine Nat.le_trans compactL_len ?_
  unfold sortO
  rw [List.length_mergeSort]; exact Nat.le_refl _
end Go.Proofs.Ytonnooljidombaa


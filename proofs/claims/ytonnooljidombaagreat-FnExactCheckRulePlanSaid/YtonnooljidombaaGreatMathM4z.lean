/- What those partial functions come to: plain lemmas on data; each bears its conditions in its statement. -/
import Derived.Test.YtonnooljidombaaGreatMathM3z
set_option linter.unusedVariables false
set_option linter.unusedSimpArgs false
set_option linter.ambiguousOpen false
set_option linter.unusedSectionVars false
set_option linter.unnecessarySimpa false
set_option linter.unusedVariables false
set_option linter.unusedSimpArgs false
namespace Go.Proofs.YtonnooljidombaaGreat
open Go Go.E
def Valid (r : Relation) : Prop := 0 ≤ r.N ∧ r.N ≤ 16 ∧ (r.Rows.length : Int) = r.N ∧ ∀ x ∈ r.Rows, 0 ≤ x ∧ x ≤ ((2 ^ r.N.toNat : Nat) : Int) - 1
instance (r : Relation) : Decidable (Valid r) := by unfold Valid; infer_instance
def rowAt (r : Relation) (i : Int) : Int := r.Rows.getD i.toNat 0
def bit (x : Int) (k : Int) : Prop := x.toNat >>> k.toNat &&& 1 = 1
instance (x k : Int) : Decidable (bit x k) := by unfold bit; infer_instance
def inN (r : Relation) (i : Int) : Prop := 0 ≤ i ∧ i ≤ r.N - 1
instance (r : Relation) (i : Int) : Decidable (inN r i) := by unfold inN; infer_instance
def hasP (r : Relation) (i k : Int) : Prop := Valid r ∧ inN r i ∧ inN r k ∧ bit (rowAt r i) k
instance (r : Relation) (i k : Int) : Decidable (hasP r i k) := by unfold hasP; infer_instance
theorem Valid.row {r : Relation} (h : Valid r) {i : Int} (hi : inN r i) {x : Int} (hx : r.Rows[i.toNat]? = some x) : rowAt r i = x ∧ 0 ≤ x ∧ x ≤ 65535 := by
  have hm := h.2.2.2 x (List.mem_of_getElem? hx)
  have hp : 2 ^ r.N.toNat ≤ 2 ^ 16 := Nat.pow_le_pow_right (by decide) (by have := h.2.1; omega)
  refine ⟨by unfold rowAt; simp [hx], hm.1, by omega⟩
end Go.Proofs.YtonnooljidombaaGreat


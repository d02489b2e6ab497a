/- What those partial functions come to: plain lemmas on data; each bears its conditions in its statement. -/
import Derived.Test.YtonnooljidombaaMathMY
set_option linter.unusedVariables false
set_option linter.unusedSimpArgs false
set_option linter.ambiguousOpen false
set_option linter.unusedSectionVars false
set_option linter.unnecessarySimpa false
set_option linter.unusedVariables false
set_option linter.unusedSimpArgs false
namespace Go.Proofs.Ytonnooljidombaa
open Go Go.E
/-! ### the law -/
theorem occIx_has (l : List Occurrence) (q : Occurrence) : whasOccurrence_m l q = some (decide (q ∈ l)) := by
  unfold whasOccurrence_m sOccurrenceIndex_m
  have : ∀ (l : List Occurrence) (i : Nat), findL (sOccurrenceIndex_L1 q) i l () = some (if q ∈ l then .inr ((i + l.findIdx (fun x => decide (x = q)) : Nat) : Int) else .inl ()) := by
    intro l
    induction l with
    | nil => intro i; rfl
    | cons x l ih =>
      intro i
      rw [findL]
      unfold sOccurrenceIndex_L1 at ih ⊢
      by_cases h : x = q
      · rw [if_pos h]; simp [h, List.findIdx_cons]
      · rw [if_neg h, Option.bind_some]
        show findL _ (i + 1) l () = _
        rw [ih]
        have h1 : (q ∈ x :: l) ↔ q ∈ l := by simp [Ne.symm h]
        simp only [h1, List.findIdx_cons, decide_eq_false h, cond_false]
        rw [show i + 1 + l.findIdx (fun x => decide (x = q)) = i + (l.findIdx (fun x => decide (x = q)) + 1) by omega]
  rw [this]
  by_cases h : q ∈ l
  · have h0 : (0 : Int) ≤ ((0 + l.findIdx (fun x => decide (x = q)) : Nat) : Int) := Int.natCast_nonneg _
    rw [if_pos h, Option.bind_some, onr_inr, Option.bind_some, decide_eq_true h, decide_eq_true h0]
  · rw [if_neg h, decide_eq_false h]; rfl
end Go.Proofs.Ytonnooljidombaa


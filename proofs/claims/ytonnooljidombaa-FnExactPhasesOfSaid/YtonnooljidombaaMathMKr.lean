/- What those partial functions come to: plain lemmas on data; each bears its conditions in its statement. -/
import Derived.Test.YtonnooljidombaaMathMIr
set_option linter.unusedVariables false
set_option linter.unusedSimpArgs false
set_option linter.ambiguousOpen false
set_option linter.unusedSectionVars false
set_option linter.unnecessarySimpa false
set_option linter.unusedVariables false
set_option linter.unusedSimpArgs false
namespace Go.Proofs.Ytonnooljidombaa
open Go Go.E
theorem phases_any (a : List Attribute) (r : Relation) (hr : Sz.szd r ≤ 1048576) : iPhasesOf_m a r = some (phO a r) ∧ sPhasesOf_m a r = some (phO a r) := by
  have hl : r.Rows.length ≤ 1048576 := Nat.le_trans (szL_length r.Rows) (by rw [← Relation_szd]; exact hr)
  by_cases hn : a.length ≤ 16
  · exact phases_both hn hl
  · unfold iPhasesOf_m sPhasesOf_m
    rw [iIsValid_eq, sIsValid_eq, Option.bind_some, Option.bind_some]
    by_cases hv : Valid r
    · have hN : ¬ r.N = (a.length : Int) := by have := hv.2.1; omega
      have e : (!decide (r.N = (a.length : Int))) = true := by simp [hN]
      rw [phO_none (if_neg (fun h => hN h.2.1)), decide_eq_true hv, if_pos rfl, Option.bind_some, Option.bind_some, e, if_pos rfl, if_pos rfl, Option.bind_some, if_pos rfl]
      exact ⟨rfl, rfl⟩
    · rw [phO_none (if_neg (fun h => hv h.1)), decide_eq_false hv]
      exact ⟨rfl, rfl⟩
theorem cnt_str : ∀ l : List ByteArray, cntL l = l.length
  | [] => rfl
  | x :: l => by show 1 + cntL l = _; rw [cnt_str l, List.length_cons]; omega
theorem cnt_toPh (a : List Attribute) : ∀ l : List (List Nat × List Nat), cntL (l.map (toPh a)) = (flat l).length
  | [] => rfl
  | q :: l => by
    show cntL (toPh a q).Inherited + cntL (toPh a q).Synthesized + cntL (l.map (toPh a)) = _
    rw [cnt_toPh a l, cnt_str, cnt_str]
    simp [flat, toPh]; omega
theorem cnt_phases (a : List Attribute) (r : Relation) (ha : szL a ≤ 1048576) (hr : Sz.szd r ≤ 1048576) : cntL ((sPhasesOf_m a r).getD ([], false)).1 ≤ 1048576 := by
  rw [(phases_any a r hr).2]
  show cntL (phO a r).1 ≤ _
  unfold phO
  cases h : phR a r with
  | none => exact Nat.zero_le _
  | some l =>
    obtain ⟨d', HI, h0⟩ := phR_inv h
    have := HI.length h0
    have := szL_length a
    show cntL (l.map (toPh a)) ≤ _
    rw [cnt_toPh]; omega
end Go.Proofs.Ytonnooljidombaa


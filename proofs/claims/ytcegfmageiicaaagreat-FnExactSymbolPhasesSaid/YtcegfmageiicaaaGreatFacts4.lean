/- Closed facts of the row: each is checked by the kernel; without conditions. -/
import Derived.JoinedOf
import Derived.Test.YtcegfmageiicaaaGreatRows
set_option linter.unusedVariables false
set_option linter.unusedSimpArgs false
set_option linter.ambiguousOpen false
set_option linter.unusedSectionVars false
set_option linter.unnecessarySimpa false
set_option maxHeartbeats 100000000
set_option maxRecDepth 100000
namespace Go.Proofs.YtcegfmageiicaaaGreat
open Go
theorem z7Y:joinedFacts Tryz.pinned.checked.prog 6 Tryz.f6 Rows.fnExactSymbolPhasesSpec Rows.fnExactSymbolPhasesRow=true:=by
 simp only [joinedFacts,Bool.and_eq_true]
 repeat' apply And.intro
 all_goals as_aux_lemma=>kernel_rfl
theorem z7G:Tryz.pinned.checked.prog.funcNamed Rows.fnExactSymbolPhasesRow.func=some 6:=by kernel_rfl
theorem z7Z:Tryz.f6.isInstance Tryz.pinned.checked.prog Rows.fnExactSymbolPhasesRow.origin Rows.fnExactSymbolPhasesRow.targs:=of_decide_eq_true (by kernel_rfl)
theorem z8a:Tryz.f6.isWrapper Tryz.pinned.checked.prog Rows.fnExactSymbolPhasesRow.wrapper Rows.fnExactSymbolPhasesRow.mainSum:=by
 unfold Func.isWrapper; first | (rw [if_pos (by decide +kernel)]; kernel_rfl) | (rw [if_neg (by decide +kernel)]; exact⟨rfl,rfl⟩)
end Go.Proofs.YtcegfmageiicaaaGreat

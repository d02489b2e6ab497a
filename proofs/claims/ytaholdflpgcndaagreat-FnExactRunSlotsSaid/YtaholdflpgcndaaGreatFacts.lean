/- Closed facts of the row: each is checked by the kernel; without conditions. -/
import Derived.JoinedOf
import Derived.Test.YtaholdflpgcndaaGreatRows
set_option linter.unusedVariables false
set_option linter.unusedSimpArgs false
set_option linter.ambiguousOpen false
set_option linter.unusedSectionVars false
set_option linter.unnecessarySimpa false
set_option maxHeartbeats 100000000
set_option maxRecDepth 100000
namespace Go.Proofs.YtaholdflpgcndaaGreat
open Go
theorem z2C:joinedFacts Tryz.pinned.checked.prog 3 Tryz.f3 Rows.fnExactRunSlotsSpec Rows.fnExactRunSlotsRow=true:=by
 simp only [joinedFacts,Bool.and_eq_true]
 repeat' apply And.intro
 all_goals as_aux_lemma=>kernel_rfl
theorem z1G:Tryz.pinned.checked.prog.funcNamed Rows.fnExactRunSlotsRow.func=some 3:=by kernel_rfl
theorem z2D:Tryz.f3.isInstance Tryz.pinned.checked.prog Rows.fnExactRunSlotsRow.origin Rows.fnExactRunSlotsRow.targs:=of_decide_eq_true (by kernel_rfl)
theorem z2E:Tryz.f3.isWrapper Tryz.pinned.checked.prog Rows.fnExactRunSlotsRow.wrapper Rows.fnExactRunSlotsRow.mainSum:=by
 unfold Func.isWrapper; first | (rw [if_pos (by decide +kernel)]; kernel_rfl) | (rw [if_neg (by decide +kernel)]; exact⟨rfl,rfl⟩)
end Go.Proofs.YtaholdflpgcndaaGreat

/-
  NARROWER THAN 'FOR EVERY INPUT', by the rows' own cells (each row's printed sentence says how): FnExactCircularRules: loops · FnExactUnionSummaries: loops · FnExactInducedRelations: loops · FnExactSymbolPhases: loops · FnExactBuildPlan: loops.
  DERIVED. THE GIVEN ROWS OF THIS SEAT. 5 by the template 'for every input the law returns true; each argument reads behind the call as it read before'; 0 by the template 'total and deterministic' (their statements: YtcegfmageiicaaaGreatTotals.lean).
  GIVEN WITH THE SEED: the statements are not yours to turn. If you find one false, say at which input.
  Laid BY PROGRAM, IN A SANDBOX (cutbox-rows.mjs): the forced cells as the released guide's own fill.sh prints them over the translation b4447b5ca1ad3334… (all of the seat's roots in one cut). By AI agents, Wed Nov 11 2026. No macro, syntax, notation, axiom, sorry.
-/
import Derived.Test.YtcegfmageiicaaaGreatChecked
import GoSem.Claim
import GoSem.ClaimJoined
import GoSem.ClaimMapViews
import Derived.JoinedTies
import Derived.KernelRfl
namespace Go.Proofs.YtcegfmageiicaaaGreat
/- THE CELL 'sum', in the pinned program and in every row, IS THE sha256 OF THE DUMP (.gsa) THAT YtcegfmageiicaaaGreatProg.lean LOADS. Nothing in Lean hashes anything: it is a label: what it is worth is what the hold of that sum in a sandbox is worth. -/
noncomputable def Tryz.pinned : Pinned := { name := "ytcegfmageiicaaagreat", sum := "b4447b5ca1ad33348680494e88258dc8bcf788646784183c911082f20426104a", checked := Tryz.checked }
namespace Rows
def none {H : Type} : Left H := { results := [], args := [] }

/-- 'laws.FnExactCircularRules': WHATEVER THE INPUT: true; the input reads as it did. -/
def fnExactCircularRulesSpec : ChangeSpec := { name := "fnExactCircularRules", fn := fun _ => fun
  | [d] => { results := [.lit (.bool true)], args := [d] }
  | _ => none }
def fnExactCircularRulesRow : OpenClaim := { program := "ytcegfmageiicaaagreat", sum := "b4447b5ca1ad33348680494e88258dc8bcf788646784183c911082f20426104a", func := "loop.example/g00512/laws.FnExactCircularRules", spec := "fnExactCircularRules", unfollowed := true, recurses := true, loops := true, apart := false }
def FnExactCircularRulesSaid : Prop := fnExactCircularRulesRow.holds Tryz.pinned (OpenSpec.ofChange fnExactCircularRulesSpec)

/-- ITS FALSE NEIGHBOUR: 'it returns false'. Refute it at one input. -/
def fnExactCircularRulesWrong : ChangeSpec := { name := "fnExactCircularRules", fn := fun _ => fun
  | [d] => { results := [.lit (.bool false)], args := [d] }
  | _ => none }
def FnExactCircularRulesWrongFalsely : Prop := fnExactCircularRulesRow.holds Tryz.pinned (OpenSpec.ofChange fnExactCircularRulesWrong)

/-- 'laws.FnExactUnionSummaries': WHATEVER THE INPUT: true; the input reads as it did. -/
def fnExactUnionSummariesSpec : ChangeSpec := { name := "fnExactUnionSummaries", fn := fun _ => fun
  | [d] => { results := [.lit (.bool true)], args := [d] }
  | _ => none }
def fnExactUnionSummariesRow : OpenClaim := { program := "ytcegfmageiicaaagreat", sum := "b4447b5ca1ad33348680494e88258dc8bcf788646784183c911082f20426104a", func := "loop.example/g00512/laws.FnExactUnionSummaries", spec := "fnExactUnionSummaries", unfollowed := true, recurses := true, loops := true, apart := false }
def FnExactUnionSummariesSaid : Prop := fnExactUnionSummariesRow.holds Tryz.pinned (OpenSpec.ofChange fnExactUnionSummariesSpec)

/-- ITS FALSE NEIGHBOUR: 'it returns false'. Refute it at one input. -/
def fnExactUnionSummariesWrong : ChangeSpec := { name := "fnExactUnionSummaries", fn := fun _ => fun
  | [d] => { results := [.lit (.bool false)], args := [d] }
  | _ => none }
def FnExactUnionSummariesWrongFalsely : Prop := fnExactUnionSummariesRow.holds Tryz.pinned (OpenSpec.ofChange fnExactUnionSummariesWrong)

/-- 'laws.FnExactInducedRelations': WHATEVER THE INPUT: true; the input reads as it did. -/
def fnExactInducedRelationsSpec : ChangeSpec := { name := "fnExactInducedRelations", fn := fun _ => fun
  | [d] => { results := [.lit (.bool true)], args := [d] }
  | _ => none }
def fnExactInducedRelationsRow : OpenClaim := { program := "ytcegfmageiicaaagreat", sum := "b4447b5ca1ad33348680494e88258dc8bcf788646784183c911082f20426104a", func := "loop.example/g00512/laws.FnExactInducedRelations", spec := "fnExactInducedRelations", unfollowed := true, recurses := true, loops := true, apart := false }
def FnExactInducedRelationsSaid : Prop := fnExactInducedRelationsRow.holds Tryz.pinned (OpenSpec.ofChange fnExactInducedRelationsSpec)

/-- ITS FALSE NEIGHBOUR: 'it returns false'. Refute it at one input. -/
def fnExactInducedRelationsWrong : ChangeSpec := { name := "fnExactInducedRelations", fn := fun _ => fun
  | [d] => { results := [.lit (.bool false)], args := [d] }
  | _ => none }
def FnExactInducedRelationsWrongFalsely : Prop := fnExactInducedRelationsRow.holds Tryz.pinned (OpenSpec.ofChange fnExactInducedRelationsWrong)

/-- 'laws.FnExactSymbolPhases': WHATEVER THE INPUT: true; the input reads as it did. -/
def fnExactSymbolPhasesSpec : ChangeSpec := { name := "fnExactSymbolPhases", fn := fun _ => fun
  | [d] => { results := [.lit (.bool true)], args := [d] }
  | _ => none }
def fnExactSymbolPhasesRow : OpenClaim := { program := "ytcegfmageiicaaagreat", sum := "b4447b5ca1ad33348680494e88258dc8bcf788646784183c911082f20426104a", func := "loop.example/g00512/laws.FnExactSymbolPhases", spec := "fnExactSymbolPhases", unfollowed := true, recurses := true, loops := true, apart := false }
def FnExactSymbolPhasesSaid : Prop := fnExactSymbolPhasesRow.holds Tryz.pinned (OpenSpec.ofChange fnExactSymbolPhasesSpec)

/-- ITS FALSE NEIGHBOUR: 'it returns false'. Refute it at one input. -/
def fnExactSymbolPhasesWrong : ChangeSpec := { name := "fnExactSymbolPhases", fn := fun _ => fun
  | [d] => { results := [.lit (.bool false)], args := [d] }
  | _ => none }
def FnExactSymbolPhasesWrongFalsely : Prop := fnExactSymbolPhasesRow.holds Tryz.pinned (OpenSpec.ofChange fnExactSymbolPhasesWrong)

/-- 'laws.FnExactBuildPlan': WHATEVER THE INPUT: true; the input reads as it did. -/
def fnExactBuildPlanSpec : ChangeSpec := { name := "fnExactBuildPlan", fn := fun _ => fun
  | [d] => { results := [.lit (.bool true)], args := [d] }
  | _ => none }
def fnExactBuildPlanRow : OpenClaim := { program := "ytcegfmageiicaaagreat", sum := "b4447b5ca1ad33348680494e88258dc8bcf788646784183c911082f20426104a", func := "loop.example/g00512/laws.FnExactBuildPlan", spec := "fnExactBuildPlan", unfollowed := true, recurses := true, loops := true, apart := false }
def FnExactBuildPlanSaid : Prop := fnExactBuildPlanRow.holds Tryz.pinned (OpenSpec.ofChange fnExactBuildPlanSpec)

/-- ITS FALSE NEIGHBOUR: 'it returns false'. Refute it at one input. -/
def fnExactBuildPlanWrong : ChangeSpec := { name := "fnExactBuildPlan", fn := fun _ => fun
  | [d] => { results := [.lit (.bool false)], args := [d] }
  | _ => none }
def FnExactBuildPlanWrongFalsely : Prop := fnExactBuildPlanRow.holds Tryz.pinned (OpenSpec.ofChange fnExactBuildPlanWrong)

/- THE SECOND FORM. 'bulk': how many values and letters a reading holds, each counted each time it is reached (what is shared counts as often as it is met; a slice's spare places count too). A statement '..UptoSaid' is the law's where the arguments, and the package variables that the reading takes, are together of bulk at most 1048576: NARROWER than '..Said'. Prove '..Said' where nothing that the law and all that it calls make is longer than what came in: it says more and counts as full. Else prove '..UptoSaid'. A law counts once. -/
mutual
def uptoBulk {H : Type} : DataW H → Nat
  | .lit (.string bytes) => bytes.length + 1
  | .lit _ => 1
  | .nil => 1
  | .ptr d => uptoBulk d + 1
  | .slice elems spare => uptoBulkAll elems + uptoBulkAll spare + 1
  | .agg parts => uptoBulkAll parts + 1
  | .iface _ d => uptoBulk d + 1
  | .map entries => uptoBulkEntries entries + 1
  | .held _ => 1
def uptoBulkAll {H : Type} : List (DataW H) → Nat
  | [] => 0
  | d :: r => uptoBulk d + uptoBulkAll r
def uptoBulkEntries {H : Type} : List (Lit × DataW H) → Nat
  | [] => 0
  | x :: r => uptoBulkEntry x + uptoBulkEntries r
def uptoBulkEntry {H : Type} : Lit × DataW H → Nat
  | (.string bytes, d) => bytes.length + uptoBulk d + 1
  | (_, d) => uptoBulk d + 1
 end
def uptoSmall : (H : Type) → List (DataW H) → Bool := fun _ ds => decide (uptoBulkAll ds ≤ 1048576)
def OpenSpec.upto (s : _root_.Go.ChangeSpec) : _root_.Go.OpenSpec := { _root_.Go.OpenSpec.ofChange s with cond := some uptoSmall }

/-- 'laws.FnExactCircularRules', WHERE WHAT IT READS IS OF BULK AT MOST 1048576: true; the input reads as it did. -/
def fnExactCircularRulesUptoRow : OpenClaim := { program := "ytcegfmageiicaaagreat", sum := "b4447b5ca1ad33348680494e88258dc8bcf788646784183c911082f20426104a", func := "loop.example/g00512/laws.FnExactCircularRules", spec := "fnExactCircularRules", unfollowed := true, recurses := true, loops := true, apart := false, narrowed := true }
def FnExactCircularRulesUptoSaid : Prop := fnExactCircularRulesUptoRow.holds Tryz.pinned (OpenSpec.upto fnExactCircularRulesSpec)

/-- 'laws.FnExactUnionSummaries', WHERE WHAT IT READS IS OF BULK AT MOST 1048576: true; the input reads as it did. -/
def fnExactUnionSummariesUptoRow : OpenClaim := { program := "ytcegfmageiicaaagreat", sum := "b4447b5ca1ad33348680494e88258dc8bcf788646784183c911082f20426104a", func := "loop.example/g00512/laws.FnExactUnionSummaries", spec := "fnExactUnionSummaries", unfollowed := true, recurses := true, loops := true, apart := false, narrowed := true }
def FnExactUnionSummariesUptoSaid : Prop := fnExactUnionSummariesUptoRow.holds Tryz.pinned (OpenSpec.upto fnExactUnionSummariesSpec)

/-- 'laws.FnExactInducedRelations', WHERE WHAT IT READS IS OF BULK AT MOST 1048576: true; the input reads as it did. -/
def fnExactInducedRelationsUptoRow : OpenClaim := { program := "ytcegfmageiicaaagreat", sum := "b4447b5ca1ad33348680494e88258dc8bcf788646784183c911082f20426104a", func := "loop.example/g00512/laws.FnExactInducedRelations", spec := "fnExactInducedRelations", unfollowed := true, recurses := true, loops := true, apart := false, narrowed := true }
def FnExactInducedRelationsUptoSaid : Prop := fnExactInducedRelationsUptoRow.holds Tryz.pinned (OpenSpec.upto fnExactInducedRelationsSpec)

/-- 'laws.FnExactSymbolPhases', WHERE WHAT IT READS IS OF BULK AT MOST 1048576: true; the input reads as it did. -/
def fnExactSymbolPhasesUptoRow : OpenClaim := { program := "ytcegfmageiicaaagreat", sum := "b4447b5ca1ad33348680494e88258dc8bcf788646784183c911082f20426104a", func := "loop.example/g00512/laws.FnExactSymbolPhases", spec := "fnExactSymbolPhases", unfollowed := true, recurses := true, loops := true, apart := false, narrowed := true }
def FnExactSymbolPhasesUptoSaid : Prop := fnExactSymbolPhasesUptoRow.holds Tryz.pinned (OpenSpec.upto fnExactSymbolPhasesSpec)

/-- 'laws.FnExactBuildPlan', WHERE WHAT IT READS IS OF BULK AT MOST 1048576: true; the input reads as it did. -/
def fnExactBuildPlanUptoRow : OpenClaim := { program := "ytcegfmageiicaaagreat", sum := "b4447b5ca1ad33348680494e88258dc8bcf788646784183c911082f20426104a", func := "loop.example/g00512/laws.FnExactBuildPlan", spec := "fnExactBuildPlan", unfollowed := true, recurses := true, loops := true, apart := false, narrowed := true }
def FnExactBuildPlanUptoSaid : Prop := fnExactBuildPlanUptoRow.holds Tryz.pinned (OpenSpec.upto fnExactBuildPlanSpec)

end Rows
end Go.Proofs.YtcegfmageiicaaaGreat

/-
  No cell of these rows narrows 'for every input' (looked for: loops, veiled, ifaces, maps, wideKeys, modest, calm, conditions, laid).
  DERIVED. THE GIVEN ROWS OF THIS SEAT. 12 by the template 'for every input the law returns true; each argument reads behind the call as it read before'; 0 by the template 'total and deterministic' (their statements: YtaenbhfjiihhnaaTotals.lean).
  GIVEN WITH THE SEED: the statements are not yours to turn. If you find one false, say at which input.
  Laid BY PROGRAM, IN A SANDBOX (cutbox-rows.mjs): the forced cells as the released guide's own fill.sh prints them over the translation d686b2c36473494a… (all of the seat's roots in one cut). By AI agents, Wed Nov 11 2026. No macro, syntax, notation, axiom, sorry.
-/
import Derived.Test.YtaenbhfjiihhnaaChecked
import GoSem.Claim
import GoSem.ClaimJoined
import GoSem.ClaimMapViews
import Derived.JoinedTies
import Derived.KernelRfl
namespace Go.Proofs.Ytaenbhfjiihhnaa
/- THE CELL 'sum', in the pinned program and in every row, IS THE sha256 OF THE DUMP (.gsa) THAT YtaenbhfjiihhnaaProg.lean LOADS. Nothing in Lean hashes anything: it is a label: what it is worth is what the hold of that sum in a sandbox is worth. -/
noncomputable def Try.pinned : Pinned := { name := "ytaenbhfjiihhnaa", sum := "d686b2c36473494a8b1e8bcb57aef52fe856852dbfff145a6da59465b3371c2c", checked := Try.checked }
namespace Rows
def none {H : Type} : Left H := { results := [], args := [] }

/-- 'laws.FnExactOccurrenceIndex': WHATEVER THE INPUT: true; the input reads as it did. -/
def fnExactOccurrenceIndexSpec : ChangeSpec := { name := "fnExactOccurrenceIndex", fn := fun _ => fun
  | [d1, d2] => { results := [.lit (.bool true)], args := [d1, d2] }
  | _ => none }
def fnExactOccurrenceIndexRow : OpenClaim := { program := "ytaenbhfjiihhnaa", sum := "d686b2c36473494a8b1e8bcb57aef52fe856852dbfff145a6da59465b3371c2c", func := "loop.example/g00512/laws.FnExactOccurrenceIndex", spec := "fnExactOccurrenceIndex", apart := false }
def FnExactOccurrenceIndexSaid : Prop := fnExactOccurrenceIndexRow.holds Try.pinned (OpenSpec.ofChange fnExactOccurrenceIndexSpec)

/-- ITS FALSE NEIGHBOUR: 'it returns false'. Refute it at one input. -/
def fnExactOccurrenceIndexWrong : ChangeSpec := { name := "fnExactOccurrenceIndex", fn := fun _ => fun
  | [d1, d2] => { results := [.lit (.bool false)], args := [d1, d2] }
  | _ => none }
def FnExactOccurrenceIndexWrongFalsely : Prop := fnExactOccurrenceIndexRow.holds Try.pinned (OpenSpec.ofChange fnExactOccurrenceIndexWrong)

/-- 'laws.FnExactIsValidRelation': WHATEVER THE INPUT: true; the input reads as it did. -/
def fnExactIsValidRelationSpec : ChangeSpec := { name := "fnExactIsValidRelation", fn := fun _ => fun
  | [d] => { results := [.lit (.bool true)], args := [d] }
  | _ => none }
def fnExactIsValidRelationRow : OpenClaim := { program := "ytaenbhfjiihhnaa", sum := "d686b2c36473494a8b1e8bcb57aef52fe856852dbfff145a6da59465b3371c2c", func := "loop.example/g00512/laws.FnExactIsValidRelation", spec := "fnExactIsValidRelation", unfollowed := true, recurses := true, apart := false }
def FnExactIsValidRelationSaid : Prop := fnExactIsValidRelationRow.holds Try.pinned (OpenSpec.ofChange fnExactIsValidRelationSpec)

/-- ITS FALSE NEIGHBOUR: 'it returns false'. Refute it at one input. -/
def fnExactIsValidRelationWrong : ChangeSpec := { name := "fnExactIsValidRelation", fn := fun _ => fun
  | [d] => { results := [.lit (.bool false)], args := [d] }
  | _ => none }
def FnExactIsValidRelationWrongFalsely : Prop := fnExactIsValidRelationRow.holds Try.pinned (OpenSpec.ofChange fnExactIsValidRelationWrong)

/-- 'laws.FnExactHasPair': WHATEVER THE INPUT: true; the input reads as it did. -/
def fnExactHasPairSpec : ChangeSpec := { name := "fnExactHasPair", fn := fun _ => fun
  | [d1, d2, d3] => { results := [.lit (.bool true)], args := [d1, d2, d3] }
  | _ => none }
def fnExactHasPairRow : OpenClaim := { program := "ytaenbhfjiihhnaa", sum := "d686b2c36473494a8b1e8bcb57aef52fe856852dbfff145a6da59465b3371c2c", func := "loop.example/g00512/laws.FnExactHasPair", spec := "fnExactHasPair", unfollowed := true, recurses := true, apart := false }
def FnExactHasPairSaid : Prop := fnExactHasPairRow.holds Try.pinned (OpenSpec.ofChange fnExactHasPairSpec)

/-- ITS FALSE NEIGHBOUR: 'it returns false'. Refute it at one input. -/
def fnExactHasPairWrong : ChangeSpec := { name := "fnExactHasPair", fn := fun _ => fun
  | [d1, d2, d3] => { results := [.lit (.bool false)], args := [d1, d2, d3] }
  | _ => none }
def FnExactHasPairWrongFalsely : Prop := fnExactHasPairRow.holds Try.pinned (OpenSpec.ofChange fnExactHasPairWrong)

/-- 'laws.FnExactAddPair': WHATEVER THE INPUT: true; the input reads as it did. -/
def fnExactAddPairSpec : ChangeSpec := { name := "fnExactAddPair", fn := fun _ => fun
  | [d1, d2, d3] => { results := [.lit (.bool true)], args := [d1, d2, d3] }
  | _ => none }
def fnExactAddPairRow : OpenClaim := { program := "ytaenbhfjiihhnaa", sum := "d686b2c36473494a8b1e8bcb57aef52fe856852dbfff145a6da59465b3371c2c", func := "loop.example/g00512/laws.FnExactAddPair", spec := "fnExactAddPair", unfollowed := true, recurses := true, apart := false }
def FnExactAddPairSaid : Prop := fnExactAddPairRow.holds Try.pinned (OpenSpec.ofChange fnExactAddPairSpec)

/-- ITS FALSE NEIGHBOUR: 'it returns false'. Refute it at one input. -/
def fnExactAddPairWrong : ChangeSpec := { name := "fnExactAddPair", fn := fun _ => fun
  | [d1, d2, d3] => { results := [.lit (.bool false)], args := [d1, d2, d3] }
  | _ => none }
def FnExactAddPairWrongFalsely : Prop := fnExactAddPairRow.holds Try.pinned (OpenSpec.ofChange fnExactAddPairWrong)

/-- 'laws.FnExactUnionRelation': WHATEVER THE INPUT: true; the input reads as it did. -/
def fnExactUnionRelationSpec : ChangeSpec := { name := "fnExactUnionRelation", fn := fun _ => fun
  | [d1, d2] => { results := [.lit (.bool true)], args := [d1, d2] }
  | _ => none }
def fnExactUnionRelationRow : OpenClaim := { program := "ytaenbhfjiihhnaa", sum := "d686b2c36473494a8b1e8bcb57aef52fe856852dbfff145a6da59465b3371c2c", func := "loop.example/g00512/laws.FnExactUnionRelation", spec := "fnExactUnionRelation", unfollowed := true, recurses := true, apart := false }
def FnExactUnionRelationSaid : Prop := fnExactUnionRelationRow.holds Try.pinned (OpenSpec.ofChange fnExactUnionRelationSpec)

/-- ITS FALSE NEIGHBOUR: 'it returns false'. Refute it at one input. -/
def fnExactUnionRelationWrong : ChangeSpec := { name := "fnExactUnionRelation", fn := fun _ => fun
  | [d1, d2] => { results := [.lit (.bool false)], args := [d1, d2] }
  | _ => none }
def FnExactUnionRelationWrongFalsely : Prop := fnExactUnionRelationRow.holds Try.pinned (OpenSpec.ofChange fnExactUnionRelationWrong)

/-- 'laws.FnExactCountSteps': WHATEVER THE INPUT: true; the input reads as it did. -/
def fnExactCountStepsSpec : ChangeSpec := { name := "fnExactCountSteps", fn := fun _ => fun
  | [d1, d2] => { results := [.lit (.bool true)], args := [d1, d2] }
  | _ => none }
def fnExactCountStepsRow : OpenClaim := { program := "ytaenbhfjiihhnaa", sum := "d686b2c36473494a8b1e8bcb57aef52fe856852dbfff145a6da59465b3371c2c", func := "loop.example/g00512/laws.FnExactCountSteps", spec := "fnExactCountSteps", apart := false }
def FnExactCountStepsSaid : Prop := fnExactCountStepsRow.holds Try.pinned (OpenSpec.ofChange fnExactCountStepsSpec)

/-- ITS FALSE NEIGHBOUR: 'it returns false'. Refute it at one input. -/
def fnExactCountStepsWrong : ChangeSpec := { name := "fnExactCountSteps", fn := fun _ => fun
  | [d1, d2] => { results := [.lit (.bool false)], args := [d1, d2] }
  | _ => none }
def FnExactCountStepsWrongFalsely : Prop := fnExactCountStepsRow.holds Try.pinned (OpenSpec.ofChange fnExactCountStepsWrong)

/-- 'laws.FnExactCloseRelation': WHATEVER THE INPUT: true; the input reads as it did. -/
def fnExactCloseRelationSpec : ChangeSpec := { name := "fnExactCloseRelation", fn := fun _ => fun
  | [d] => { results := [.lit (.bool true)], args := [d] }
  | _ => none }
def fnExactCloseRelationRow : OpenClaim := { program := "ytaenbhfjiihhnaa", sum := "d686b2c36473494a8b1e8bcb57aef52fe856852dbfff145a6da59465b3371c2c", func := "loop.example/g00512/laws.FnExactCloseRelation", spec := "fnExactCloseRelation", unfollowed := true, recurses := true, apart := false }
def FnExactCloseRelationSaid : Prop := fnExactCloseRelationRow.holds Try.pinned (OpenSpec.ofChange fnExactCloseRelationSpec)

/-- ITS FALSE NEIGHBOUR: 'it returns false'. Refute it at one input. -/
def fnExactCloseRelationWrong : ChangeSpec := { name := "fnExactCloseRelation", fn := fun _ => fun
  | [d] => { results := [.lit (.bool false)], args := [d] }
  | _ => none }
def FnExactCloseRelationWrongFalsely : Prop := fnExactCloseRelationRow.holds Try.pinned (OpenSpec.ofChange fnExactCloseRelationWrong)

/-- 'laws.FnExactHasLoop': WHATEVER THE INPUT: true; the input reads as it did. -/
def fnExactHasLoopSpec : ChangeSpec := { name := "fnExactHasLoop", fn := fun _ => fun
  | [d] => { results := [.lit (.bool true)], args := [d] }
  | _ => none }
def fnExactHasLoopRow : OpenClaim := { program := "ytaenbhfjiihhnaa", sum := "d686b2c36473494a8b1e8bcb57aef52fe856852dbfff145a6da59465b3371c2c", func := "loop.example/g00512/laws.FnExactHasLoop", spec := "fnExactHasLoop", unfollowed := true, recurses := true, apart := false }
def FnExactHasLoopSaid : Prop := fnExactHasLoopRow.holds Try.pinned (OpenSpec.ofChange fnExactHasLoopSpec)

/-- ITS FALSE NEIGHBOUR: 'it returns false'. Refute it at one input. -/
def fnExactHasLoopWrong : ChangeSpec := { name := "fnExactHasLoop", fn := fun _ => fun
  | [d] => { results := [.lit (.bool false)], args := [d] }
  | _ => none }
def FnExactHasLoopWrongFalsely : Prop := fnExactHasLoopRow.holds Try.pinned (OpenSpec.ofChange fnExactHasLoopWrong)

/-- 'laws.FnExactProjectRelation': WHATEVER THE INPUT: true; the input reads as it did. -/
def fnExactProjectRelationSpec : ChangeSpec := { name := "fnExactProjectRelation", fn := fun _ => fun
  | [d1, d2] => { results := [.lit (.bool true)], args := [d1, d2] }
  | _ => none }
def fnExactProjectRelationRow : OpenClaim := { program := "ytaenbhfjiihhnaa", sum := "d686b2c36473494a8b1e8bcb57aef52fe856852dbfff145a6da59465b3371c2c", func := "loop.example/g00512/laws.FnExactProjectRelation", spec := "fnExactProjectRelation", unfollowed := true, recurses := true, apart := false }
def FnExactProjectRelationSaid : Prop := fnExactProjectRelationRow.holds Try.pinned (OpenSpec.ofChange fnExactProjectRelationSpec)

/-- ITS FALSE NEIGHBOUR: 'it returns false'. Refute it at one input. -/
def fnExactProjectRelationWrong : ChangeSpec := { name := "fnExactProjectRelation", fn := fun _ => fun
  | [d1, d2] => { results := [.lit (.bool false)], args := [d1, d2] }
  | _ => none }
def FnExactProjectRelationWrongFalsely : Prop := fnExactProjectRelationRow.holds Try.pinned (OpenSpec.ofChange fnExactProjectRelationWrong)

/-- 'laws.FnExactLastUse': WHATEVER THE INPUT: true; the input reads as it did. -/
def fnExactLastUseSpec : ChangeSpec := { name := "fnExactLastUse", fn := fun _ => fun
  | [d1, d2] => { results := [.lit (.bool true)], args := [d1, d2] }
  | _ => none }
def fnExactLastUseRow : OpenClaim := { program := "ytaenbhfjiihhnaa", sum := "d686b2c36473494a8b1e8bcb57aef52fe856852dbfff145a6da59465b3371c2c", func := "loop.example/g00512/laws.FnExactLastUse", spec := "fnExactLastUse", apart := false }
def FnExactLastUseSaid : Prop := fnExactLastUseRow.holds Try.pinned (OpenSpec.ofChange fnExactLastUseSpec)

/-- ITS FALSE NEIGHBOUR: 'it returns false'. Refute it at one input. -/
def fnExactLastUseWrong : ChangeSpec := { name := "fnExactLastUse", fn := fun _ => fun
  | [d1, d2] => { results := [.lit (.bool false)], args := [d1, d2] }
  | _ => none }
def FnExactLastUseWrongFalsely : Prop := fnExactLastUseRow.holds Try.pinned (OpenSpec.ofChange fnExactLastUseWrong)

/-- 'laws.FnExactStepsOf': WHATEVER THE INPUT: true; the input reads as it did. -/
def fnExactStepsOfSpec : ChangeSpec := { name := "fnExactStepsOf", fn := fun _ => fun
  | [d1, d2] => { results := [.lit (.bool true)], args := [d1, d2] }
  | _ => none }
def fnExactStepsOfRow : OpenClaim := { program := "ytaenbhfjiihhnaa", sum := "d686b2c36473494a8b1e8bcb57aef52fe856852dbfff145a6da59465b3371c2c", func := "loop.example/g00512/laws.FnExactStepsOf", spec := "fnExactStepsOf", apart := false }
def FnExactStepsOfSaid : Prop := fnExactStepsOfRow.holds Try.pinned (OpenSpec.ofChange fnExactStepsOfSpec)

/-- ITS FALSE NEIGHBOUR: 'it returns false'. Refute it at one input. -/
def fnExactStepsOfWrong : ChangeSpec := { name := "fnExactStepsOf", fn := fun _ => fun
  | [d1, d2] => { results := [.lit (.bool false)], args := [d1, d2] }
  | _ => none }
def FnExactStepsOfWrongFalsely : Prop := fnExactStepsOfRow.holds Try.pinned (OpenSpec.ofChange fnExactStepsOfWrong)

/-- 'laws.FnExactCheckSlots': WHATEVER THE INPUT: true; the input reads as it did. -/
def fnExactCheckSlotsSpec : ChangeSpec := { name := "fnExactCheckSlots", fn := fun _ => fun
  | [d1, d2, d3] => { results := [.lit (.bool true)], args := [d1, d2, d3] }
  | _ => none }
def fnExactCheckSlotsRow : OpenClaim := { program := "ytaenbhfjiihhnaa", sum := "d686b2c36473494a8b1e8bcb57aef52fe856852dbfff145a6da59465b3371c2c", func := "loop.example/g00512/laws.FnExactCheckSlots", spec := "fnExactCheckSlots", unfollowed := true, recurses := true, apart := false }
def FnExactCheckSlotsSaid : Prop := fnExactCheckSlotsRow.holds Try.pinned (OpenSpec.ofChange fnExactCheckSlotsSpec)

/-- ITS FALSE NEIGHBOUR: 'it returns false'. Refute it at one input. -/
def fnExactCheckSlotsWrong : ChangeSpec := { name := "fnExactCheckSlots", fn := fun _ => fun
  | [d1, d2, d3] => { results := [.lit (.bool false)], args := [d1, d2, d3] }
  | _ => none }
def FnExactCheckSlotsWrongFalsely : Prop := fnExactCheckSlotsRow.holds Try.pinned (OpenSpec.ofChange fnExactCheckSlotsWrong)

/- THE SECOND FORM. 'bulk': how many values and letters a reading holds, each counted each time it is reached (what is shared counts as often as it is met; a slice's spare places count too). A statement '..UptoSaid' is the law's where the arguments, and the package variables that the reading takes, are together of bulk at most 1048576: NARROWER than '..Said'. Prove '..Said' where nothing that the law and all that it calls make is longer than what came in: it says more and counts as full. Else prove '..UptoSaid'. A law counts once. -/
mutual
def uptoBulk {H : Type} : DataW H → Nat
  | .lit (.string bytes) => bytes.length + 1
  | .lit _ => 1
  | .nil => 1
  | .ptr d => uptoBulk d + 1
  | .slice elems spare => uptoBulkAll elems + uptoBulkAll spare + 1
  | .agg parts => uptoBulkAll parts + 1
  | .iface _ d => uptoBulk d + 1
  | .map entries => uptoBulkEntries entries + 1
  | .held _ => 1
def uptoBulkAll {H : Type} : List (DataW H) → Nat
  | [] => 0
  | d :: r => uptoBulk d + uptoBulkAll r
def uptoBulkEntries {H : Type} : List (Lit × DataW H) → Nat
  | [] => 0
  | x :: r => uptoBulkEntry x + uptoBulkEntries r
def uptoBulkEntry {H : Type} : Lit × DataW H → Nat
  | (.string bytes, d) => bytes.length + uptoBulk d + 1
  | (_, d) => uptoBulk d + 1
 end
def uptoSmall : (H : Type) → List (DataW H) → Bool := fun _ ds => decide (uptoBulkAll ds ≤ 1048576)
def OpenSpec.upto (s : _root_.Go.ChangeSpec) : _root_.Go.OpenSpec := { _root_.Go.OpenSpec.ofChange s with cond := some uptoSmall }

/-- 'laws.FnExactOccurrenceIndex', WHERE WHAT IT READS IS OF BULK AT MOST 1048576: true; the input reads as it did. -/
def fnExactOccurrenceIndexUptoRow : OpenClaim := { program := "ytaenbhfjiihhnaa", sum := "d686b2c36473494a8b1e8bcb57aef52fe856852dbfff145a6da59465b3371c2c", func := "loop.example/g00512/laws.FnExactOccurrenceIndex", spec := "fnExactOccurrenceIndex", apart := false, narrowed := true }
def FnExactOccurrenceIndexUptoSaid : Prop := fnExactOccurrenceIndexUptoRow.holds Try.pinned (OpenSpec.upto fnExactOccurrenceIndexSpec)

/-- 'laws.FnExactIsValidRelation', WHERE WHAT IT READS IS OF BULK AT MOST 1048576: true; the input reads as it did. -/
def fnExactIsValidRelationUptoRow : OpenClaim := { program := "ytaenbhfjiihhnaa", sum := "d686b2c36473494a8b1e8bcb57aef52fe856852dbfff145a6da59465b3371c2c", func := "loop.example/g00512/laws.FnExactIsValidRelation", spec := "fnExactIsValidRelation", unfollowed := true, recurses := true, apart := false, narrowed := true }
def FnExactIsValidRelationUptoSaid : Prop := fnExactIsValidRelationUptoRow.holds Try.pinned (OpenSpec.upto fnExactIsValidRelationSpec)

/-- 'laws.FnExactHasPair', WHERE WHAT IT READS IS OF BULK AT MOST 1048576: true; the input reads as it did. -/
def fnExactHasPairUptoRow : OpenClaim := { program := "ytaenbhfjiihhnaa", sum := "d686b2c36473494a8b1e8bcb57aef52fe856852dbfff145a6da59465b3371c2c", func := "loop.example/g00512/laws.FnExactHasPair", spec := "fnExactHasPair", unfollowed := true, recurses := true, apart := false, narrowed := true }
def FnExactHasPairUptoSaid : Prop := fnExactHasPairUptoRow.holds Try.pinned (OpenSpec.upto fnExactHasPairSpec)

/-- 'laws.FnExactAddPair', WHERE WHAT IT READS IS OF BULK AT MOST 1048576: true; the input reads as it did. -/
def fnExactAddPairUptoRow : OpenClaim := { program := "ytaenbhfjiihhnaa", sum := "d686b2c36473494a8b1e8bcb57aef52fe856852dbfff145a6da59465b3371c2c", func := "loop.example/g00512/laws.FnExactAddPair", spec := "fnExactAddPair", unfollowed := true, recurses := true, apart := false, narrowed := true }
def FnExactAddPairUptoSaid : Prop := fnExactAddPairUptoRow.holds Try.pinned (OpenSpec.upto fnExactAddPairSpec)

/-- 'laws.FnExactUnionRelation', WHERE WHAT IT READS IS OF BULK AT MOST 1048576: true; the input reads as it did. -/
def fnExactUnionRelationUptoRow : OpenClaim := { program := "ytaenbhfjiihhnaa", sum := "d686b2c36473494a8b1e8bcb57aef52fe856852dbfff145a6da59465b3371c2c", func := "loop.example/g00512/laws.FnExactUnionRelation", spec := "fnExactUnionRelation", unfollowed := true, recurses := true, apart := false, narrowed := true }
def FnExactUnionRelationUptoSaid : Prop := fnExactUnionRelationUptoRow.holds Try.pinned (OpenSpec.upto fnExactUnionRelationSpec)

/-- 'laws.FnExactCountSteps', WHERE WHAT IT READS IS OF BULK AT MOST 1048576: true; the input reads as it did. -/
def fnExactCountStepsUptoRow : OpenClaim := { program := "ytaenbhfjiihhnaa", sum := "d686b2c36473494a8b1e8bcb57aef52fe856852dbfff145a6da59465b3371c2c", func := "loop.example/g00512/laws.FnExactCountSteps", spec := "fnExactCountSteps", apart := false, narrowed := true }
def FnExactCountStepsUptoSaid : Prop := fnExactCountStepsUptoRow.holds Try.pinned (OpenSpec.upto fnExactCountStepsSpec)

/-- 'laws.FnExactCloseRelation', WHERE WHAT IT READS IS OF BULK AT MOST 1048576: true; the input reads as it did. -/
def fnExactCloseRelationUptoRow : OpenClaim := { program := "ytaenbhfjiihhnaa", sum := "d686b2c36473494a8b1e8bcb57aef52fe856852dbfff145a6da59465b3371c2c", func := "loop.example/g00512/laws.FnExactCloseRelation", spec := "fnExactCloseRelation", unfollowed := true, recurses := true, apart := false, narrowed := true }
def FnExactCloseRelationUptoSaid : Prop := fnExactCloseRelationUptoRow.holds Try.pinned (OpenSpec.upto fnExactCloseRelationSpec)

/-- 'laws.FnExactHasLoop', WHERE WHAT IT READS IS OF BULK AT MOST 1048576: true; the input reads as it did. -/
def fnExactHasLoopUptoRow : OpenClaim := { program := "ytaenbhfjiihhnaa", sum := "d686b2c36473494a8b1e8bcb57aef52fe856852dbfff145a6da59465b3371c2c", func := "loop.example/g00512/laws.FnExactHasLoop", spec := "fnExactHasLoop", unfollowed := true, recurses := true, apart := false, narrowed := true }
def FnExactHasLoopUptoSaid : Prop := fnExactHasLoopUptoRow.holds Try.pinned (OpenSpec.upto fnExactHasLoopSpec)

/-- 'laws.FnExactProjectRelation', WHERE WHAT IT READS IS OF BULK AT MOST 1048576: true; the input reads as it did. -/
def fnExactProjectRelationUptoRow : OpenClaim := { program := "ytaenbhfjiihhnaa", sum := "d686b2c36473494a8b1e8bcb57aef52fe856852dbfff145a6da59465b3371c2c", func := "loop.example/g00512/laws.FnExactProjectRelation", spec := "fnExactProjectRelation", unfollowed := true, recurses := true, apart := false, narrowed := true }
def FnExactProjectRelationUptoSaid : Prop := fnExactProjectRelationUptoRow.holds Try.pinned (OpenSpec.upto fnExactProjectRelationSpec)

/-- 'laws.FnExactLastUse', WHERE WHAT IT READS IS OF BULK AT MOST 1048576: true; the input reads as it did. -/
def fnExactLastUseUptoRow : OpenClaim := { program := "ytaenbhfjiihhnaa", sum := "d686b2c36473494a8b1e8bcb57aef52fe856852dbfff145a6da59465b3371c2c", func := "loop.example/g00512/laws.FnExactLastUse", spec := "fnExactLastUse", apart := false, narrowed := true }
def FnExactLastUseUptoSaid : Prop := fnExactLastUseUptoRow.holds Try.pinned (OpenSpec.upto fnExactLastUseSpec)

/-- 'laws.FnExactStepsOf', WHERE WHAT IT READS IS OF BULK AT MOST 1048576: true; the input reads as it did. -/
def fnExactStepsOfUptoRow : OpenClaim := { program := "ytaenbhfjiihhnaa", sum := "d686b2c36473494a8b1e8bcb57aef52fe856852dbfff145a6da59465b3371c2c", func := "loop.example/g00512/laws.FnExactStepsOf", spec := "fnExactStepsOf", apart := false, narrowed := true }
def FnExactStepsOfUptoSaid : Prop := fnExactStepsOfUptoRow.holds Try.pinned (OpenSpec.upto fnExactStepsOfSpec)

/-- 'laws.FnExactCheckSlots', WHERE WHAT IT READS IS OF BULK AT MOST 1048576: true; the input reads as it did. -/
def fnExactCheckSlotsUptoRow : OpenClaim := { program := "ytaenbhfjiihhnaa", sum := "d686b2c36473494a8b1e8bcb57aef52fe856852dbfff145a6da59465b3371c2c", func := "loop.example/g00512/laws.FnExactCheckSlots", spec := "fnExactCheckSlots", unfollowed := true, recurses := true, apart := false, narrowed := true }
def FnExactCheckSlotsUptoSaid : Prop := fnExactCheckSlotsUptoRow.holds Try.pinned (OpenSpec.upto fnExactCheckSlotsSpec)

end Rows
end Go.Proofs.Ytaenbhfjiihhnaa

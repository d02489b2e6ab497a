/-
  No cell of these rows narrows 'for every input' (looked for: loops, veiled, ifaces, maps, wideKeys, modest, calm, conditions, laid).
  DERIVED. THE GIVEN ROWS OF THIS SEAT. 5 by the template 'for every input the law returns true; each argument reads behind the call as it read before'; 0 by the template 'total and deterministic' (their statements: YtgbgkhcgpchckaaTotals.lean).
  GIVEN WITH THE SEED: the statements are not yours to turn. If you find one false, say at which input.
  Laid BY PROGRAM, IN A SANDBOX (cutbox-rows.mjs): the forced cells as the released guide's own fill.sh prints them over the translation d5a1c255824cecca… (all of the seat's roots in one cut). By AI agents, Wed Nov 11 2026. No macro, syntax, notation, axiom, sorry.
-/
import Derived.Test.YtgbgkhcgpchckaaChecked
import GoSem.Claim
import GoSem.ClaimJoined
import GoSem.ClaimMapViews
import Derived.JoinedTies
import Derived.KernelRfl
namespace Go.Proofs.Ytgbgkhcgpchckaa
/- THE CELL 'sum', in the pinned program and in every row, IS THE sha256 OF THE DUMP (.gsa) THAT YtgbgkhcgpchckaaProg.lean LOADS. Nothing in Lean hashes anything: it is a label: what it is worth is what the hold of that sum in a sandbox is worth. -/
noncomputable def Try.pinned : Pinned := { name := "ytgbgkhcgpchckaa", sum := "d5a1c255824ceccac6ce5cc6ca0b53c03dd0b391ae2accb32138ce7d9b722752", checked := Try.checked }
namespace Rows
def none {H : Type} : Left H := { results := [], args := [] }

/-- 'laws.FnExactAssignSlots': WHATEVER THE INPUT: true; the input reads as it did. -/
def fnExactAssignSlotsSpec : ChangeSpec := { name := "fnExactAssignSlots", fn := fun _ => fun
  | [d1, d2] => { results := [.lit (.bool true)], args := [d1, d2] }
  | _ => none }
def fnExactAssignSlotsRow : OpenClaim := { program := "ytgbgkhcgpchckaa", sum := "d5a1c255824ceccac6ce5cc6ca0b53c03dd0b391ae2accb32138ce7d9b722752", func := "loop.example/g00512/laws.FnExactAssignSlots", spec := "fnExactAssignSlots", unfollowed := true, recurses := true, apart := false }
def FnExactAssignSlotsSaid : Prop := fnExactAssignSlotsRow.holds Try.pinned (OpenSpec.ofChange fnExactAssignSlotsSpec)

/-- ITS FALSE NEIGHBOUR: 'it returns false'. Refute it at one input. -/
def fnExactAssignSlotsWrong : ChangeSpec := { name := "fnExactAssignSlots", fn := fun _ => fun
  | [d1, d2] => { results := [.lit (.bool false)], args := [d1, d2] }
  | _ => none }
def FnExactAssignSlotsWrongFalsely : Prop := fnExactAssignSlotsRow.holds Try.pinned (OpenSpec.ofChange fnExactAssignSlotsWrong)

/-- 'laws.FnExactPhasesOf': WHATEVER THE INPUT: true; the input reads as it did. -/
def fnExactPhasesOfSpec : ChangeSpec := { name := "fnExactPhasesOf", fn := fun _ => fun
  | [d1, d2] => { results := [.lit (.bool true)], args := [d1, d2] }
  | _ => none }
def fnExactPhasesOfRow : OpenClaim := { program := "ytgbgkhcgpchckaa", sum := "d5a1c255824ceccac6ce5cc6ca0b53c03dd0b391ae2accb32138ce7d9b722752", func := "loop.example/g00512/laws.FnExactPhasesOf", spec := "fnExactPhasesOf", unfollowed := true, recurses := true, apart := false }
def FnExactPhasesOfSaid : Prop := fnExactPhasesOfRow.holds Try.pinned (OpenSpec.ofChange fnExactPhasesOfSpec)

/-- ITS FALSE NEIGHBOUR: 'it returns false'. Refute it at one input. -/
def fnExactPhasesOfWrong : ChangeSpec := { name := "fnExactPhasesOf", fn := fun _ => fun
  | [d1, d2] => { results := [.lit (.bool false)], args := [d1, d2] }
  | _ => none }
def FnExactPhasesOfWrongFalsely : Prop := fnExactPhasesOfRow.holds Try.pinned (OpenSpec.ofChange fnExactPhasesOfWrong)

/-- 'laws.FnRelations': WHATEVER THE INPUT: true; the input reads as it did. -/
def fnRelationsSpec : ChangeSpec := { name := "fnRelations", fn := fun _ => fun
  | [d] => { results := [.lit (.bool true)], args := [d] }
  | _ => none }
def fnRelationsRow : OpenClaim := { program := "ytgbgkhcgpchckaa", sum := "d5a1c255824ceccac6ce5cc6ca0b53c03dd0b391ae2accb32138ce7d9b722752", func := "loop.example/g00512/laws.FnRelations", spec := "fnRelations", unfollowed := true, recurses := true, apart := false }
def FnRelationsSaid : Prop := fnRelationsRow.holds Try.pinned (OpenSpec.ofChange fnRelationsSpec)

/-- ITS FALSE NEIGHBOUR: 'it returns false'. Refute it at one input. -/
def fnRelationsWrong : ChangeSpec := { name := "fnRelations", fn := fun _ => fun
  | [d] => { results := [.lit (.bool false)], args := [d] }
  | _ => none }
def FnRelationsWrongFalsely : Prop := fnRelationsRow.holds Try.pinned (OpenSpec.ofChange fnRelationsWrong)

/-- 'laws.FnPairs': WHATEVER THE INPUT: true; the input reads as it did. -/
def fnPairsSpec : ChangeSpec := { name := "fnPairs", fn := fun _ => fun
  | [d] => { results := [.lit (.bool true)], args := [d] }
  | _ => none }
def fnPairsRow : OpenClaim := { program := "ytgbgkhcgpchckaa", sum := "d5a1c255824ceccac6ce5cc6ca0b53c03dd0b391ae2accb32138ce7d9b722752", func := "loop.example/g00512/laws.FnPairs", spec := "fnPairs", unfollowed := true, recurses := true, apart := false }
def FnPairsSaid : Prop := fnPairsRow.holds Try.pinned (OpenSpec.ofChange fnPairsSpec)

/-- ITS FALSE NEIGHBOUR: 'it returns false'. Refute it at one input. -/
def fnPairsWrong : ChangeSpec := { name := "fnPairs", fn := fun _ => fun
  | [d] => { results := [.lit (.bool false)], args := [d] }
  | _ => none }
def FnPairsWrongFalsely : Prop := fnPairsRow.holds Try.pinned (OpenSpec.ofChange fnPairsWrong)

/-- 'laws.FnPhases': WHATEVER THE INPUT: true; the input reads as it did. -/
def fnPhasesSpec : ChangeSpec := { name := "fnPhases", fn := fun _ => fun
  | [d] => { results := [.lit (.bool true)], args := [d] }
  | _ => none }
def fnPhasesRow : OpenClaim := { program := "ytgbgkhcgpchckaa", sum := "d5a1c255824ceccac6ce5cc6ca0b53c03dd0b391ae2accb32138ce7d9b722752", func := "loop.example/g00512/laws.FnPhases", spec := "fnPhases", unfollowed := true, recurses := true, apart := false }
def FnPhasesSaid : Prop := fnPhasesRow.holds Try.pinned (OpenSpec.ofChange fnPhasesSpec)

/-- ITS FALSE NEIGHBOUR: 'it returns false'. Refute it at one input. -/
def fnPhasesWrong : ChangeSpec := { name := "fnPhases", fn := fun _ => fun
  | [d] => { results := [.lit (.bool false)], args := [d] }
  | _ => none }
def FnPhasesWrongFalsely : Prop := fnPhasesRow.holds Try.pinned (OpenSpec.ofChange fnPhasesWrong)

/- THE SECOND FORM. 'bulk': how many values and letters a reading holds, each counted each time it is reached (what is shared counts as often as it is met; a slice's spare places count too). A statement '..UptoSaid' is the law's where the arguments, and the package variables that the reading takes, are together of bulk at most 1048576: NARROWER than '..Said'. Prove '..Said' where nothing that the law and all that it calls make is longer than what came in: it says more and counts as full. Else prove '..UptoSaid'. A law counts once. -/
mutual
def uptoBulk {H : Type} : DataW H → Nat
  | .lit (.string bytes) => bytes.length + 1
  | .lit _ => 1
  | .nil => 1
  | .ptr d => uptoBulk d + 1
  | .slice elems spare => uptoBulkAll elems + uptoBulkAll spare + 1
  | .agg parts => uptoBulkAll parts + 1
  | .iface _ d => uptoBulk d + 1
  | .map entries => uptoBulkEntries entries + 1
  | .held _ => 1
def uptoBulkAll {H : Type} : List (DataW H) → Nat
  | [] => 0
  | d :: r => uptoBulk d + uptoBulkAll r
def uptoBulkEntries {H : Type} : List (Lit × DataW H) → Nat
  | [] => 0
  | x :: r => uptoBulkEntry x + uptoBulkEntries r
def uptoBulkEntry {H : Type} : Lit × DataW H → Nat
  | (.string bytes, d) => bytes.length + uptoBulk d + 1
  | (_, d) => uptoBulk d + 1
 end
def uptoSmall : (H : Type) → List (DataW H) → Bool := fun _ ds => decide (uptoBulkAll ds ≤ 1048576)
def OpenSpec.upto (s : _root_.Go.ChangeSpec) : _root_.Go.OpenSpec := { _root_.Go.OpenSpec.ofChange s with cond := some uptoSmall }

/-- 'laws.FnExactAssignSlots', WHERE WHAT IT READS IS OF BULK AT MOST 1048576: true; the input reads as it did. -/
def fnExactAssignSlotsUptoRow : OpenClaim := { program := "ytgbgkhcgpchckaa", sum := "d5a1c255824ceccac6ce5cc6ca0b53c03dd0b391ae2accb32138ce7d9b722752", func := "loop.example/g00512/laws.FnExactAssignSlots", spec := "fnExactAssignSlots", unfollowed := true, recurses := true, apart := false, narrowed := true }
def FnExactAssignSlotsUptoSaid : Prop := fnExactAssignSlotsUptoRow.holds Try.pinned (OpenSpec.upto fnExactAssignSlotsSpec)

/-- 'laws.FnExactPhasesOf', WHERE WHAT IT READS IS OF BULK AT MOST 1048576: true; the input reads as it did. -/
def fnExactPhasesOfUptoRow : OpenClaim := { program := "ytgbgkhcgpchckaa", sum := "d5a1c255824ceccac6ce5cc6ca0b53c03dd0b391ae2accb32138ce7d9b722752", func := "loop.example/g00512/laws.FnExactPhasesOf", spec := "fnExactPhasesOf", unfollowed := true, recurses := true, apart := false, narrowed := true }
def FnExactPhasesOfUptoSaid : Prop := fnExactPhasesOfUptoRow.holds Try.pinned (OpenSpec.upto fnExactPhasesOfSpec)

/-- 'laws.FnRelations', WHERE WHAT IT READS IS OF BULK AT MOST 1048576: true; the input reads as it did. -/
def fnRelationsUptoRow : OpenClaim := { program := "ytgbgkhcgpchckaa", sum := "d5a1c255824ceccac6ce5cc6ca0b53c03dd0b391ae2accb32138ce7d9b722752", func := "loop.example/g00512/laws.FnRelations", spec := "fnRelations", unfollowed := true, recurses := true, apart := false, narrowed := true }
def FnRelationsUptoSaid : Prop := fnRelationsUptoRow.holds Try.pinned (OpenSpec.upto fnRelationsSpec)

/-- 'laws.FnPairs', WHERE WHAT IT READS IS OF BULK AT MOST 1048576: true; the input reads as it did. -/
def fnPairsUptoRow : OpenClaim := { program := "ytgbgkhcgpchckaa", sum := "d5a1c255824ceccac6ce5cc6ca0b53c03dd0b391ae2accb32138ce7d9b722752", func := "loop.example/g00512/laws.FnPairs", spec := "fnPairs", unfollowed := true, recurses := true, apart := false, narrowed := true }
def FnPairsUptoSaid : Prop := fnPairsUptoRow.holds Try.pinned (OpenSpec.upto fnPairsSpec)

/-- 'laws.FnPhases', WHERE WHAT IT READS IS OF BULK AT MOST 1048576: true; the input reads as it did. -/
def fnPhasesUptoRow : OpenClaim := { program := "ytgbgkhcgpchckaa", sum := "d5a1c255824ceccac6ce5cc6ca0b53c03dd0b391ae2accb32138ce7d9b722752", func := "loop.example/g00512/laws.FnPhases", spec := "fnPhases", unfollowed := true, recurses := true, apart := false, narrowed := true }
def FnPhasesUptoSaid : Prop := fnPhasesUptoRow.holds Try.pinned (OpenSpec.upto fnPhasesSpec)

end Rows
end Go.Proofs.Ytgbgkhcgpchckaa

/-
  NARROWER THAN 'FOR EVERY INPUT', by the rows' own cells (each row's printed sentence says how): FnExactUsesAny: loops · FnExactIsMonotone: loops.
  DERIVED. THE GIVEN ROWS OF THIS SEAT. 8 by the template 'for every input the law returns true; each argument reads behind the call as it read before'; 0 by the template 'total and deterministic' (their statements: YtonnooljidombaaTotals.lean).
  GIVEN WITH THE SEED: the statements are not yours to turn. If you find one false, say at which input.
  Laid BY PROGRAM, IN A SANDBOX (cutbox-rows.mjs): the forced cells as the released guide's own fill.sh prints them over the translation 80523570be9d1884… (all of the seat's roots in one cut). By AI agents, Wed Nov 11 2026. No macro, syntax, notation, axiom, sorry.
-/
import Derived.Test.YtonnooljidombaaChecked
import GoSem.Claim
import GoSem.ClaimJoined
import GoSem.ClaimMapViews
import Derived.JoinedTies
import Derived.KernelRfl
namespace Go.Proofs.Ytonnooljidombaa
/- THE CELL 'sum', in the pinned program and in every row, IS THE sha256 OF THE DUMP (.gsa) THAT YtonnooljidombaaProg.lean LOADS. Nothing in Lean hashes anything: it is a label: what it is worth is what the hold of that sum in a sandbox is worth. -/
noncomputable def Try.pinned : Pinned := { name := "ytonnooljidombaa", sum := "80523570be9d18842f3cec4f3bdf71b5b1a72cee0968a0d2d192c494b466300a", checked := Try.checked }
namespace Rows
def none {H : Type} : Left H := { results := [], args := [] }

/-- 'laws.FnExactUsesAny': WHATEVER THE INPUT: true; the input reads as it did. -/
def fnExactUsesAnySpec : ChangeSpec := { name := "fnExactUsesAny", fn := fun _ => fun
  | [d1, d2] => { results := [.lit (.bool true)], args := [d1, d2] }
  | _ => none }
def fnExactUsesAnyRow : OpenClaim := { program := "ytonnooljidombaa", sum := "80523570be9d18842f3cec4f3bdf71b5b1a72cee0968a0d2d192c494b466300a", func := "loop.example/g00512/laws.FnExactUsesAny", spec := "fnExactUsesAny", unfollowed := true, recurses := true, loops := true, apart := false }
def FnExactUsesAnySaid : Prop := fnExactUsesAnyRow.holds Try.pinned (OpenSpec.ofChange fnExactUsesAnySpec)

/-- ITS FALSE NEIGHBOUR: 'it returns false'. Refute it at one input. -/
def fnExactUsesAnyWrong : ChangeSpec := { name := "fnExactUsesAny", fn := fun _ => fun
  | [d1, d2] => { results := [.lit (.bool false)], args := [d1, d2] }
  | _ => none }
def FnExactUsesAnyWrongFalsely : Prop := fnExactUsesAnyRow.holds Try.pinned (OpenSpec.ofChange fnExactUsesAnyWrong)

/-- 'laws.FnExactIsMonotone': WHATEVER THE INPUT: true; the input reads as it did. -/
def fnExactIsMonotoneSpec : ChangeSpec := { name := "fnExactIsMonotone", fn := fun _ => fun
  | [d1, d2] => { results := [.lit (.bool true)], args := [d1, d2] }
  | _ => none }
def fnExactIsMonotoneRow : OpenClaim := { program := "ytonnooljidombaa", sum := "80523570be9d18842f3cec4f3bdf71b5b1a72cee0968a0d2d192c494b466300a", func := "loop.example/g00512/laws.FnExactIsMonotone", spec := "fnExactIsMonotone", unfollowed := true, recurses := true, loops := true, apart := false }
def FnExactIsMonotoneSaid : Prop := fnExactIsMonotoneRow.holds Try.pinned (OpenSpec.ofChange fnExactIsMonotoneSpec)

/-- ITS FALSE NEIGHBOUR: 'it returns false'. Refute it at one input. -/
def fnExactIsMonotoneWrong : ChangeSpec := { name := "fnExactIsMonotone", fn := fun _ => fun
  | [d1, d2] => { results := [.lit (.bool false)], args := [d1, d2] }
  | _ => none }
def FnExactIsMonotoneWrongFalsely : Prop := fnExactIsMonotoneRow.holds Try.pinned (OpenSpec.ofChange fnExactIsMonotoneWrong)

/-- 'laws.FnLocal': WHATEVER THE INPUT: true; the input reads as it did. -/
def fnLocalSpec : ChangeSpec := { name := "fnLocal", fn := fun _ => fun
  | [d] => { results := [.lit (.bool true)], args := [d] }
  | _ => none }
def fnLocalRow : OpenClaim := { program := "ytonnooljidombaa", sum := "80523570be9d18842f3cec4f3bdf71b5b1a72cee0968a0d2d192c494b466300a", func := "loop.example/g00512/laws.FnLocal", spec := "fnLocal", unfollowed := true, recurses := true, apart := false }
def FnLocalSaid : Prop := fnLocalRow.holds Try.pinned (OpenSpec.ofChange fnLocalSpec)

/-- ITS FALSE NEIGHBOUR: 'it returns false'. Refute it at one input. -/
def fnLocalWrong : ChangeSpec := { name := "fnLocal", fn := fun _ => fun
  | [d] => { results := [.lit (.bool false)], args := [d] }
  | _ => none }
def FnLocalWrongFalsely : Prop := fnLocalRow.holds Try.pinned (OpenSpec.ofChange fnLocalWrong)

/-- 'laws.FnMonotone': WHATEVER THE INPUT: true; the input reads as it did. -/
def fnMonotoneSpec : ChangeSpec := { name := "fnMonotone", fn := fun _ => fun
  | [d] => { results := [.lit (.bool true)], args := [d] }
  | _ => none }
def fnMonotoneRow : OpenClaim := { program := "ytonnooljidombaa", sum := "80523570be9d18842f3cec4f3bdf71b5b1a72cee0968a0d2d192c494b466300a", func := "loop.example/g00512/laws.FnMonotone", spec := "fnMonotone", unfollowed := true, recurses := true, apart := false }
def FnMonotoneSaid : Prop := fnMonotoneRow.holds Try.pinned (OpenSpec.ofChange fnMonotoneSpec)

/-- ITS FALSE NEIGHBOUR: 'it returns false'. Refute it at one input. -/
def fnMonotoneWrong : ChangeSpec := { name := "fnMonotone", fn := fun _ => fun
  | [d] => { results := [.lit (.bool false)], args := [d] }
  | _ => none }
def FnMonotoneWrongFalsely : Prop := fnMonotoneRow.holds Try.pinned (OpenSpec.ofChange fnMonotoneWrong)

/-- 'laws.FnRelations': WHATEVER THE INPUT: true; the input reads as it did. -/
def fnRelationsSpec : ChangeSpec := { name := "fnRelations", fn := fun _ => fun
  | [d] => { results := [.lit (.bool true)], args := [d] }
  | _ => none }
def fnRelationsRow : OpenClaim := { program := "ytonnooljidombaa", sum := "80523570be9d18842f3cec4f3bdf71b5b1a72cee0968a0d2d192c494b466300a", func := "loop.example/g00512/laws.FnRelations", spec := "fnRelations", unfollowed := true, recurses := true, apart := false }
def FnRelationsSaid : Prop := fnRelationsRow.holds Try.pinned (OpenSpec.ofChange fnRelationsSpec)

/-- ITS FALSE NEIGHBOUR: 'it returns false'. Refute it at one input. -/
def fnRelationsWrong : ChangeSpec := { name := "fnRelations", fn := fun _ => fun
  | [d] => { results := [.lit (.bool false)], args := [d] }
  | _ => none }
def FnRelationsWrongFalsely : Prop := fnRelationsRow.holds Try.pinned (OpenSpec.ofChange fnRelationsWrong)

/-- 'laws.FnPairs': WHATEVER THE INPUT: true; the input reads as it did. -/
def fnPairsSpec : ChangeSpec := { name := "fnPairs", fn := fun _ => fun
  | [d] => { results := [.lit (.bool true)], args := [d] }
  | _ => none }
def fnPairsRow : OpenClaim := { program := "ytonnooljidombaa", sum := "80523570be9d18842f3cec4f3bdf71b5b1a72cee0968a0d2d192c494b466300a", func := "loop.example/g00512/laws.FnPairs", spec := "fnPairs", unfollowed := true, recurses := true, apart := false }
def FnPairsSaid : Prop := fnPairsRow.holds Try.pinned (OpenSpec.ofChange fnPairsSpec)

/-- ITS FALSE NEIGHBOUR: 'it returns false'. Refute it at one input. -/
def fnPairsWrong : ChangeSpec := { name := "fnPairs", fn := fun _ => fun
  | [d] => { results := [.lit (.bool false)], args := [d] }
  | _ => none }
def FnPairsWrongFalsely : Prop := fnPairsRow.holds Try.pinned (OpenSpec.ofChange fnPairsWrong)

/-- 'laws.FnPhases': WHATEVER THE INPUT: true; the input reads as it did. -/
def fnPhasesSpec : ChangeSpec := { name := "fnPhases", fn := fun _ => fun
  | [d] => { results := [.lit (.bool true)], args := [d] }
  | _ => none }
def fnPhasesRow : OpenClaim := { program := "ytonnooljidombaa", sum := "80523570be9d18842f3cec4f3bdf71b5b1a72cee0968a0d2d192c494b466300a", func := "loop.example/g00512/laws.FnPhases", spec := "fnPhases", unfollowed := true, recurses := true, apart := false }
def FnPhasesSaid : Prop := fnPhasesRow.holds Try.pinned (OpenSpec.ofChange fnPhasesSpec)

/-- ITS FALSE NEIGHBOUR: 'it returns false'. Refute it at one input. -/
def fnPhasesWrong : ChangeSpec := { name := "fnPhases", fn := fun _ => fun
  | [d] => { results := [.lit (.bool false)], args := [d] }
  | _ => none }
def FnPhasesWrongFalsely : Prop := fnPhasesRow.holds Try.pinned (OpenSpec.ofChange fnPhasesWrong)

/-- 'laws.FnExactPhasesOf': WHATEVER THE INPUT: true; the input reads as it did. -/
def fnExactPhasesOfSpec : ChangeSpec := { name := "fnExactPhasesOf", fn := fun _ => fun
  | [d1, d2] => { results := [.lit (.bool true)], args := [d1, d2] }
  | _ => none }
def fnExactPhasesOfRow : OpenClaim := { program := "ytonnooljidombaa", sum := "80523570be9d18842f3cec4f3bdf71b5b1a72cee0968a0d2d192c494b466300a", func := "loop.example/g00512/laws.FnExactPhasesOf", spec := "fnExactPhasesOf", unfollowed := true, recurses := true, apart := false }
def FnExactPhasesOfSaid : Prop := fnExactPhasesOfRow.holds Try.pinned (OpenSpec.ofChange fnExactPhasesOfSpec)

/-- ITS FALSE NEIGHBOUR: 'it returns false'. Refute it at one input. -/
def fnExactPhasesOfWrong : ChangeSpec := { name := "fnExactPhasesOf", fn := fun _ => fun
  | [d1, d2] => { results := [.lit (.bool false)], args := [d1, d2] }
  | _ => none }
def FnExactPhasesOfWrongFalsely : Prop := fnExactPhasesOfRow.holds Try.pinned (OpenSpec.ofChange fnExactPhasesOfWrong)

/- THE SECOND FORM. 'bulk': how many values and letters a reading holds, each counted each time it is reached (what is shared counts as often as it is met; a slice's spare places count too). A statement '..UptoSaid' is the law's where the arguments, and the package variables that the reading takes, are together of bulk at most 1048576: NARROWER than '..Said'. Prove '..Said' where nothing that the law and all that it calls make is longer than what came in: it says more and counts as full. Else prove '..UptoSaid'. A law counts once. -/
mutual
def uptoBulk {H : Type} : DataW H → Nat
  | .lit (.string bytes) => bytes.length + 1
  | .lit _ => 1
  | .nil => 1
  | .ptr d => uptoBulk d + 1
  | .slice elems spare => uptoBulkAll elems + uptoBulkAll spare + 1
  | .agg parts => uptoBulkAll parts + 1
  | .iface _ d => uptoBulk d + 1
  | .map entries => uptoBulkEntries entries + 1
  | .held _ => 1
def uptoBulkAll {H : Type} : List (DataW H) → Nat
  | [] => 0
  | d :: r => uptoBulk d + uptoBulkAll r
def uptoBulkEntries {H : Type} : List (Lit × DataW H) → Nat
  | [] => 0
  | x :: r => uptoBulkEntry x + uptoBulkEntries r
def uptoBulkEntry {H : Type} : Lit × DataW H → Nat
  | (.string bytes, d) => bytes.length + uptoBulk d + 1
  | (_, d) => uptoBulk d + 1
 end
def uptoSmall : (H : Type) → List (DataW H) → Bool := fun _ ds => decide (uptoBulkAll ds ≤ 1048576)
def OpenSpec.upto (s : _root_.Go.ChangeSpec) : _root_.Go.OpenSpec := { _root_.Go.OpenSpec.ofChange s with cond := some uptoSmall }

/-- 'laws.FnExactUsesAny', WHERE WHAT IT READS IS OF BULK AT MOST 1048576: true; the input reads as it did. -/
def fnExactUsesAnyUptoRow : OpenClaim := { program := "ytonnooljidombaa", sum := "80523570be9d18842f3cec4f3bdf71b5b1a72cee0968a0d2d192c494b466300a", func := "loop.example/g00512/laws.FnExactUsesAny", spec := "fnExactUsesAny", unfollowed := true, recurses := true, loops := true, apart := false, narrowed := true }
def FnExactUsesAnyUptoSaid : Prop := fnExactUsesAnyUptoRow.holds Try.pinned (OpenSpec.upto fnExactUsesAnySpec)

/-- 'laws.FnExactIsMonotone', WHERE WHAT IT READS IS OF BULK AT MOST 1048576: true; the input reads as it did. -/
def fnExactIsMonotoneUptoRow : OpenClaim := { program := "ytonnooljidombaa", sum := "80523570be9d18842f3cec4f3bdf71b5b1a72cee0968a0d2d192c494b466300a", func := "loop.example/g00512/laws.FnExactIsMonotone", spec := "fnExactIsMonotone", unfollowed := true, recurses := true, loops := true, apart := false, narrowed := true }
def FnExactIsMonotoneUptoSaid : Prop := fnExactIsMonotoneUptoRow.holds Try.pinned (OpenSpec.upto fnExactIsMonotoneSpec)

/-- 'laws.FnLocal', WHERE WHAT IT READS IS OF BULK AT MOST 1048576: true; the input reads as it did. -/
def fnLocalUptoRow : OpenClaim := { program := "ytonnooljidombaa", sum := "80523570be9d18842f3cec4f3bdf71b5b1a72cee0968a0d2d192c494b466300a", func := "loop.example/g00512/laws.FnLocal", spec := "fnLocal", unfollowed := true, recurses := true, apart := false, narrowed := true }
def FnLocalUptoSaid : Prop := fnLocalUptoRow.holds Try.pinned (OpenSpec.upto fnLocalSpec)

/-- 'laws.FnMonotone', WHERE WHAT IT READS IS OF BULK AT MOST 1048576: true; the input reads as it did. -/
def fnMonotoneUptoRow : OpenClaim := { program := "ytonnooljidombaa", sum := "80523570be9d18842f3cec4f3bdf71b5b1a72cee0968a0d2d192c494b466300a", func := "loop.example/g00512/laws.FnMonotone", spec := "fnMonotone", unfollowed := true, recurses := true, apart := false, narrowed := true }
def FnMonotoneUptoSaid : Prop := fnMonotoneUptoRow.holds Try.pinned (OpenSpec.upto fnMonotoneSpec)

/-- 'laws.FnRelations', WHERE WHAT IT READS IS OF BULK AT MOST 1048576: true; the input reads as it did. -/
def fnRelationsUptoRow : OpenClaim := { program := "ytonnooljidombaa", sum := "80523570be9d18842f3cec4f3bdf71b5b1a72cee0968a0d2d192c494b466300a", func := "loop.example/g00512/laws.FnRelations", spec := "fnRelations", unfollowed := true, recurses := true, apart := false, narrowed := true }
def FnRelationsUptoSaid : Prop := fnRelationsUptoRow.holds Try.pinned (OpenSpec.upto fnRelationsSpec)

/-- 'laws.FnPairs', WHERE WHAT IT READS IS OF BULK AT MOST 1048576: true; the input reads as it did. -/
def fnPairsUptoRow : OpenClaim := { program := "ytonnooljidombaa", sum := "80523570be9d18842f3cec4f3bdf71b5b1a72cee0968a0d2d192c494b466300a", func := "loop.example/g00512/laws.FnPairs", spec := "fnPairs", unfollowed := true, recurses := true, apart := false, narrowed := true }
def FnPairsUptoSaid : Prop := fnPairsUptoRow.holds Try.pinned (OpenSpec.upto fnPairsSpec)

/-- 'laws.FnPhases', WHERE WHAT IT READS IS OF BULK AT MOST 1048576: true; the input reads as it did. -/
def fnPhasesUptoRow : OpenClaim := { program := "ytonnooljidombaa", sum := "80523570be9d18842f3cec4f3bdf71b5b1a72cee0968a0d2d192c494b466300a", func := "loop.example/g00512/laws.FnPhases", spec := "fnPhases", unfollowed := true, recurses := true, apart := false, narrowed := true }
def FnPhasesUptoSaid : Prop := fnPhasesUptoRow.holds Try.pinned (OpenSpec.upto fnPhasesSpec)

/-- 'laws.FnExactPhasesOf', WHERE WHAT IT READS IS OF BULK AT MOST 1048576: true; the input reads as it did. -/
def fnExactPhasesOfUptoRow : OpenClaim := { program := "ytonnooljidombaa", sum := "80523570be9d18842f3cec4f3bdf71b5b1a72cee0968a0d2d192c494b466300a", func := "loop.example/g00512/laws.FnExactPhasesOf", spec := "fnExactPhasesOf", unfollowed := true, recurses := true, apart := false, narrowed := true }
def FnExactPhasesOfUptoSaid : Prop := fnExactPhasesOfUptoRow.holds Try.pinned (OpenSpec.upto fnExactPhasesOfSpec)

end Rows
end Go.Proofs.Ytonnooljidombaa

/-
  NARROWER THAN 'FOR EVERY INPUT', by the rows' own cells (each row's printed sentence says how): FnExactUsesAny: loops · FnExactIsMonotone: loops · FnExactPlainAttributes: loops · FnExactOccurrencesOf: loops · FnExactPositionIndices: loops · FnExactCircularOccurrences: loops · FnExactSummaryOf: loops.
  DERIVED. THE GIVEN ROWS OF THIS SEAT. 7 by the template 'for every input the law returns true; each argument reads behind the call as it read before'; 0 by the template 'total and deterministic' (their statements: YtfnnadlahlkkoaaTotals.lean).
  GIVEN WITH THE SEED: the statements are not yours to turn. If you find one false, say at which input.
  Laid BY PROGRAM, IN A SANDBOX (cutbox-rows.mjs): the forced cells as the released guide's own fill.sh prints them over the translation da7ebeb98377ab9e… (all of the seat's roots in one cut). By AI agents, Wed Nov 11 2026. No macro, syntax, notation, axiom, sorry.
-/
import Derived.Test.YtfnnadlahlkkoaaChecked
import GoSem.Claim
import GoSem.ClaimJoined
import GoSem.ClaimMapViews
import Derived.JoinedTies
import Derived.KernelRfl
namespace Go.Proofs.Ytfnnadlahlkkoaa
/- THE CELL 'sum', in the pinned program and in every row, IS THE sha256 OF THE DUMP (.gsa) THAT YtfnnadlahlkkoaaProg.lean LOADS. Nothing in Lean hashes anything: it is a label: what it is worth is what the hold of that sum in a sandbox is worth. -/
noncomputable def Try.pinned : Pinned := { name := "ytfnnadlahlkkoaa", sum := "da7ebeb98377ab9e766bc99790afe0225cad62e727003a0564444feb3a03c0b8", checked := Try.checked }
namespace Rows
def none {H : Type} : Left H := { results := [], args := [] }

/-- 'laws.FnExactUsesAny': WHATEVER THE INPUT: true; the input reads as it did. -/
def fnExactUsesAnySpec : ChangeSpec := { name := "fnExactUsesAny", fn := fun _ => fun
  | [d1, d2] => { results := [.lit (.bool true)], args := [d1, d2] }
  | _ => none }
def fnExactUsesAnyRow : OpenClaim := { program := "ytfnnadlahlkkoaa", sum := "da7ebeb98377ab9e766bc99790afe0225cad62e727003a0564444feb3a03c0b8", func := "loop.example/g00512/laws.FnExactUsesAny", spec := "fnExactUsesAny", unfollowed := true, recurses := true, loops := true, apart := false }
def FnExactUsesAnySaid : Prop := fnExactUsesAnyRow.holds Try.pinned (OpenSpec.ofChange fnExactUsesAnySpec)

/-- ITS FALSE NEIGHBOUR: 'it returns false'. Refute it at one input. -/
def fnExactUsesAnyWrong : ChangeSpec := { name := "fnExactUsesAny", fn := fun _ => fun
  | [d1, d2] => { results := [.lit (.bool false)], args := [d1, d2] }
  | _ => none }
def FnExactUsesAnyWrongFalsely : Prop := fnExactUsesAnyRow.holds Try.pinned (OpenSpec.ofChange fnExactUsesAnyWrong)

/-- 'laws.FnExactIsMonotone': WHATEVER THE INPUT: true; the input reads as it did. -/
def fnExactIsMonotoneSpec : ChangeSpec := { name := "fnExactIsMonotone", fn := fun _ => fun
  | [d1, d2] => { results := [.lit (.bool true)], args := [d1, d2] }
  | _ => none }
def fnExactIsMonotoneRow : OpenClaim := { program := "ytfnnadlahlkkoaa", sum := "da7ebeb98377ab9e766bc99790afe0225cad62e727003a0564444feb3a03c0b8", func := "loop.example/g00512/laws.FnExactIsMonotone", spec := "fnExactIsMonotone", unfollowed := true, recurses := true, loops := true, apart := false }
def FnExactIsMonotoneSaid : Prop := fnExactIsMonotoneRow.holds Try.pinned (OpenSpec.ofChange fnExactIsMonotoneSpec)

/-- ITS FALSE NEIGHBOUR: 'it returns false'. Refute it at one input. -/
def fnExactIsMonotoneWrong : ChangeSpec := { name := "fnExactIsMonotone", fn := fun _ => fun
  | [d1, d2] => { results := [.lit (.bool false)], args := [d1, d2] }
  | _ => none }
def FnExactIsMonotoneWrongFalsely : Prop := fnExactIsMonotoneRow.holds Try.pinned (OpenSpec.ofChange fnExactIsMonotoneWrong)

/-- 'laws.FnExactPlainAttributes': WHATEVER THE INPUT: true; the input reads as it did. -/
def fnExactPlainAttributesSpec : ChangeSpec := { name := "fnExactPlainAttributes", fn := fun _ => fun
  | [d1, d2] => { results := [.lit (.bool true)], args := [d1, d2] }
  | _ => none }
def fnExactPlainAttributesRow : OpenClaim := { program := "ytfnnadlahlkkoaa", sum := "da7ebeb98377ab9e766bc99790afe0225cad62e727003a0564444feb3a03c0b8", func := "loop.example/g00512/laws.FnExactPlainAttributes", spec := "fnExactPlainAttributes", recurses := true, loops := true, apart := false }
def FnExactPlainAttributesSaid : Prop := fnExactPlainAttributesRow.holds Try.pinned (OpenSpec.ofChange fnExactPlainAttributesSpec)

/-- ITS FALSE NEIGHBOUR: 'it returns false'. Refute it at one input. -/
def fnExactPlainAttributesWrong : ChangeSpec := { name := "fnExactPlainAttributes", fn := fun _ => fun
  | [d1, d2] => { results := [.lit (.bool false)], args := [d1, d2] }
  | _ => none }
def FnExactPlainAttributesWrongFalsely : Prop := fnExactPlainAttributesRow.holds Try.pinned (OpenSpec.ofChange fnExactPlainAttributesWrong)

/-- 'laws.FnExactOccurrencesOf': WHATEVER THE INPUT: true; the input reads as it did. -/
def fnExactOccurrencesOfSpec : ChangeSpec := { name := "fnExactOccurrencesOf", fn := fun _ => fun
  | [d1, d2] => { results := [.lit (.bool true)], args := [d1, d2] }
  | _ => none }
def fnExactOccurrencesOfRow : OpenClaim := { program := "ytfnnadlahlkkoaa", sum := "da7ebeb98377ab9e766bc99790afe0225cad62e727003a0564444feb3a03c0b8", func := "loop.example/g00512/laws.FnExactOccurrencesOf", spec := "fnExactOccurrencesOf", recurses := true, loops := true, apart := false }
def FnExactOccurrencesOfSaid : Prop := fnExactOccurrencesOfRow.holds Try.pinned (OpenSpec.ofChange fnExactOccurrencesOfSpec)

/-- ITS FALSE NEIGHBOUR: 'it returns false'. Refute it at one input. -/
def fnExactOccurrencesOfWrong : ChangeSpec := { name := "fnExactOccurrencesOf", fn := fun _ => fun
  | [d1, d2] => { results := [.lit (.bool false)], args := [d1, d2] }
  | _ => none }
def FnExactOccurrencesOfWrongFalsely : Prop := fnExactOccurrencesOfRow.holds Try.pinned (OpenSpec.ofChange fnExactOccurrencesOfWrong)

/-- 'laws.FnExactPositionIndices': WHATEVER THE INPUT: true; the input reads as it did. -/
def fnExactPositionIndicesSpec : ChangeSpec := { name := "fnExactPositionIndices", fn := fun _ => fun
  | [d1, d2, d3] => { results := [.lit (.bool true)], args := [d1, d2, d3] }
  | _ => none }
def fnExactPositionIndicesRow : OpenClaim := { program := "ytfnnadlahlkkoaa", sum := "da7ebeb98377ab9e766bc99790afe0225cad62e727003a0564444feb3a03c0b8", func := "loop.example/g00512/laws.FnExactPositionIndices", spec := "fnExactPositionIndices", recurses := true, loops := true, apart := false }
def FnExactPositionIndicesSaid : Prop := fnExactPositionIndicesRow.holds Try.pinned (OpenSpec.ofChange fnExactPositionIndicesSpec)

/-- ITS FALSE NEIGHBOUR: 'it returns false'. Refute it at one input. -/
def fnExactPositionIndicesWrong : ChangeSpec := { name := "fnExactPositionIndices", fn := fun _ => fun
  | [d1, d2, d3] => { results := [.lit (.bool false)], args := [d1, d2, d3] }
  | _ => none }
def FnExactPositionIndicesWrongFalsely : Prop := fnExactPositionIndicesRow.holds Try.pinned (OpenSpec.ofChange fnExactPositionIndicesWrong)

/-- 'laws.FnExactCircularOccurrences': WHATEVER THE INPUT: true; the input reads as it did. -/
def fnExactCircularOccurrencesSpec : ChangeSpec := { name := "fnExactCircularOccurrences", fn := fun _ => fun
  | [d1, d2] => { results := [.lit (.bool true)], args := [d1, d2] }
  | _ => none }
def fnExactCircularOccurrencesRow : OpenClaim := { program := "ytfnnadlahlkkoaa", sum := "da7ebeb98377ab9e766bc99790afe0225cad62e727003a0564444feb3a03c0b8", func := "loop.example/g00512/laws.FnExactCircularOccurrences", spec := "fnExactCircularOccurrences", unfollowed := true, recurses := true, loops := true, apart := false }
def FnExactCircularOccurrencesSaid : Prop := fnExactCircularOccurrencesRow.holds Try.pinned (OpenSpec.ofChange fnExactCircularOccurrencesSpec)

/-- ITS FALSE NEIGHBOUR: 'it returns false'. Refute it at one input. -/
def fnExactCircularOccurrencesWrong : ChangeSpec := { name := "fnExactCircularOccurrences", fn := fun _ => fun
  | [d1, d2] => { results := [.lit (.bool false)], args := [d1, d2] }
  | _ => none }
def FnExactCircularOccurrencesWrongFalsely : Prop := fnExactCircularOccurrencesRow.holds Try.pinned (OpenSpec.ofChange fnExactCircularOccurrencesWrong)

/-- 'laws.FnExactSummaryOf': WHATEVER THE INPUT: true; the input reads as it did. -/
def fnExactSummaryOfSpec : ChangeSpec := { name := "fnExactSummaryOf", fn := fun _ => fun
  | [d1, d2, d3] => { results := [.lit (.bool true)], args := [d1, d2, d3] }
  | _ => none }
def fnExactSummaryOfRow : OpenClaim := { program := "ytfnnadlahlkkoaa", sum := "da7ebeb98377ab9e766bc99790afe0225cad62e727003a0564444feb3a03c0b8", func := "loop.example/g00512/laws.FnExactSummaryOf", spec := "fnExactSummaryOf", unfollowed := true, recurses := true, loops := true, apart := false }
def FnExactSummaryOfSaid : Prop := fnExactSummaryOfRow.holds Try.pinned (OpenSpec.ofChange fnExactSummaryOfSpec)

/-- ITS FALSE NEIGHBOUR: 'it returns false'. Refute it at one input. -/
def fnExactSummaryOfWrong : ChangeSpec := { name := "fnExactSummaryOf", fn := fun _ => fun
  | [d1, d2, d3] => { results := [.lit (.bool false)], args := [d1, d2, d3] }
  | _ => none }
def FnExactSummaryOfWrongFalsely : Prop := fnExactSummaryOfRow.holds Try.pinned (OpenSpec.ofChange fnExactSummaryOfWrong)

/- THE SECOND FORM. 'bulk': how many values and letters a reading holds, each counted each time it is reached (what is shared counts as often as it is met; a slice's spare places count too). A statement '..UptoSaid' is the law's where the arguments, and the package variables that the reading takes, are together of bulk at most 1048576: NARROWER than '..Said'. Prove '..Said' where nothing that the law and all that it calls make is longer than what came in: it says more and counts as full. Else prove '..UptoSaid'. A law counts once. -/
mutual
def uptoBulk {H : Type} : DataW H → Nat
  | .lit (.string bytes) => bytes.length + 1
  | .lit _ => 1
  | .nil => 1
  | .ptr d => uptoBulk d + 1
  | .slice elems spare => uptoBulkAll elems + uptoBulkAll spare + 1
  | .agg parts => uptoBulkAll parts + 1
  | .iface _ d => uptoBulk d + 1
  | .map entries => uptoBulkEntries entries + 1
  | .held _ => 1
def uptoBulkAll {H : Type} : List (DataW H) → Nat
  | [] => 0
  | d :: r => uptoBulk d + uptoBulkAll r
def uptoBulkEntries {H : Type} : List (Lit × DataW H) → Nat
  | [] => 0
  | x :: r => uptoBulkEntry x + uptoBulkEntries r
def uptoBulkEntry {H : Type} : Lit × DataW H → Nat
  | (.string bytes, d) => bytes.length + uptoBulk d + 1
  | (_, d) => uptoBulk d + 1
 end
def uptoSmall : (H : Type) → List (DataW H) → Bool := fun _ ds => decide (uptoBulkAll ds ≤ 1048576)
def OpenSpec.upto (s : _root_.Go.ChangeSpec) : _root_.Go.OpenSpec := { _root_.Go.OpenSpec.ofChange s with cond := some uptoSmall }

/-- 'laws.FnExactUsesAny', WHERE WHAT IT READS IS OF BULK AT MOST 1048576: true; the input reads as it did. -/
def fnExactUsesAnyUptoRow : OpenClaim := { program := "ytfnnadlahlkkoaa", sum := "da7ebeb98377ab9e766bc99790afe0225cad62e727003a0564444feb3a03c0b8", func := "loop.example/g00512/laws.FnExactUsesAny", spec := "fnExactUsesAny", unfollowed := true, recurses := true, loops := true, apart := false, narrowed := true }
def FnExactUsesAnyUptoSaid : Prop := fnExactUsesAnyUptoRow.holds Try.pinned (OpenSpec.upto fnExactUsesAnySpec)

/-- 'laws.FnExactIsMonotone', WHERE WHAT IT READS IS OF BULK AT MOST 1048576: true; the input reads as it did. -/
def fnExactIsMonotoneUptoRow : OpenClaim := { program := "ytfnnadlahlkkoaa", sum := "da7ebeb98377ab9e766bc99790afe0225cad62e727003a0564444feb3a03c0b8", func := "loop.example/g00512/laws.FnExactIsMonotone", spec := "fnExactIsMonotone", unfollowed := true, recurses := true, loops := true, apart := false, narrowed := true }
def FnExactIsMonotoneUptoSaid : Prop := fnExactIsMonotoneUptoRow.holds Try.pinned (OpenSpec.upto fnExactIsMonotoneSpec)

/-- 'laws.FnExactPlainAttributes', WHERE WHAT IT READS IS OF BULK AT MOST 1048576: true; the input reads as it did. -/
def fnExactPlainAttributesUptoRow : OpenClaim := { program := "ytfnnadlahlkkoaa", sum := "da7ebeb98377ab9e766bc99790afe0225cad62e727003a0564444feb3a03c0b8", func := "loop.example/g00512/laws.FnExactPlainAttributes", spec := "fnExactPlainAttributes", recurses := true, loops := true, apart := false, narrowed := true }
def FnExactPlainAttributesUptoSaid : Prop := fnExactPlainAttributesUptoRow.holds Try.pinned (OpenSpec.upto fnExactPlainAttributesSpec)

/-- 'laws.FnExactOccurrencesOf', WHERE WHAT IT READS IS OF BULK AT MOST 1048576: true; the input reads as it did. -/
def fnExactOccurrencesOfUptoRow : OpenClaim := { program := "ytfnnadlahlkkoaa", sum := "da7ebeb98377ab9e766bc99790afe0225cad62e727003a0564444feb3a03c0b8", func := "loop.example/g00512/laws.FnExactOccurrencesOf", spec := "fnExactOccurrencesOf", recurses := true, loops := true, apart := false, narrowed := true }
def FnExactOccurrencesOfUptoSaid : Prop := fnExactOccurrencesOfUptoRow.holds Try.pinned (OpenSpec.upto fnExactOccurrencesOfSpec)

/-- 'laws.FnExactPositionIndices', WHERE WHAT IT READS IS OF BULK AT MOST 1048576: true; the input reads as it did. -/
def fnExactPositionIndicesUptoRow : OpenClaim := { program := "ytfnnadlahlkkoaa", sum := "da7ebeb98377ab9e766bc99790afe0225cad62e727003a0564444feb3a03c0b8", func := "loop.example/g00512/laws.FnExactPositionIndices", spec := "fnExactPositionIndices", recurses := true, loops := true, apart := false, narrowed := true }
def FnExactPositionIndicesUptoSaid : Prop := fnExactPositionIndicesUptoRow.holds Try.pinned (OpenSpec.upto fnExactPositionIndicesSpec)

/-- 'laws.FnExactCircularOccurrences', WHERE WHAT IT READS IS OF BULK AT MOST 1048576: true; the input reads as it did. -/
def fnExactCircularOccurrencesUptoRow : OpenClaim := { program := "ytfnnadlahlkkoaa", sum := "da7ebeb98377ab9e766bc99790afe0225cad62e727003a0564444feb3a03c0b8", func := "loop.example/g00512/laws.FnExactCircularOccurrences", spec := "fnExactCircularOccurrences", unfollowed := true, recurses := true, loops := true, apart := false, narrowed := true }
def FnExactCircularOccurrencesUptoSaid : Prop := fnExactCircularOccurrencesUptoRow.holds Try.pinned (OpenSpec.upto fnExactCircularOccurrencesSpec)

/-- 'laws.FnExactSummaryOf', WHERE WHAT IT READS IS OF BULK AT MOST 1048576: true; the input reads as it did. -/
def fnExactSummaryOfUptoRow : OpenClaim := { program := "ytfnnadlahlkkoaa", sum := "da7ebeb98377ab9e766bc99790afe0225cad62e727003a0564444feb3a03c0b8", func := "loop.example/g00512/laws.FnExactSummaryOf", spec := "fnExactSummaryOf", unfollowed := true, recurses := true, loops := true, apart := false, narrowed := true }
def FnExactSummaryOfUptoSaid : Prop := fnExactSummaryOfUptoRow.holds Try.pinned (OpenSpec.upto fnExactSummaryOfSpec)

end Rows
end Go.Proofs.Ytfnnadlahlkkoaa

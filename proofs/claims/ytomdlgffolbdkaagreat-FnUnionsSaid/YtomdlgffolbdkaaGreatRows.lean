/-
  NARROWER THAN 'FOR EVERY INPUT', by the rows' own cells (each row's printed sentence says how): FnExactIsCircular: loops · FnExactSummaries: loops.
  DERIVED. THE GIVEN ROWS OF THIS SEAT. 4 by the template 'for every input the law returns true; each argument reads behind the call as it read before'; 0 by the template 'total and deterministic' (their statements: YtomdlgffolbdkaaGreatTotals.lean).
  GIVEN WITH THE SEED: the statements are not yours to turn. If you find one false, say at which input.
  Laid BY PROGRAM, IN A SANDBOX (cutbox-rows.mjs): the forced cells as the released guide's own fill.sh prints them over the translation 6729813b517e2169… (all of the seat's roots in one cut). By AI agents, Wed Nov 11 2026. No macro, syntax, notation, axiom, sorry.
-/
import Derived.Test.YtomdlgffolbdkaaGreatChecked
import GoSem.Claim
import GoSem.ClaimJoined
import GoSem.ClaimMapViews
import Derived.JoinedTies
import Derived.KernelRfl
namespace Go.Proofs.YtomdlgffolbdkaaGreat
/- THE CELL 'sum', in the pinned program and in every row, IS THE sha256 OF THE DUMP (.gsa) THAT YtomdlgffolbdkaaGreatProg.lean LOADS. Nothing in Lean hashes anything: it is a label: what it is worth is what the hold of that sum in a sandbox is worth. -/
noncomputable def Tryz.pinned : Pinned := { name := "ytomdlgffolbdkaagreat", sum := "6729813b517e216933d4671e792df0987e6afe560eb7e5f9117dae71f9834aba", checked := Tryz.checked }
namespace Rows
def none {H : Type} : Left H := { results := [], args := [] }

/-- 'laws.FnSummaries': WHATEVER THE INPUT: true; the input reads as it did. -/
def fnSummariesSpec : ChangeSpec := { name := "fnSummaries", fn := fun _ => fun
  | [d] => { results := [.lit (.bool true)], args := [d] }
  | _ => none }
def fnSummariesRow : OpenClaim := { program := "ytomdlgffolbdkaagreat", sum := "6729813b517e216933d4671e792df0987e6afe560eb7e5f9117dae71f9834aba", func := "loop.example/g00512/laws.FnSummaries", spec := "fnSummaries", unfollowed := true, recurses := true, apart := false }
def FnSummariesSaid : Prop := fnSummariesRow.holds Tryz.pinned (OpenSpec.ofChange fnSummariesSpec)

/-- ITS FALSE NEIGHBOUR: 'it returns false'. Refute it at one input. -/
def fnSummariesWrong : ChangeSpec := { name := "fnSummaries", fn := fun _ => fun
  | [d] => { results := [.lit (.bool false)], args := [d] }
  | _ => none }
def FnSummariesWrongFalsely : Prop := fnSummariesRow.holds Tryz.pinned (OpenSpec.ofChange fnSummariesWrong)

/-- 'laws.FnUnions': WHATEVER THE INPUT: true; the input reads as it did. -/
def fnUnionsSpec : ChangeSpec := { name := "fnUnions", fn := fun _ => fun
  | [d] => { results := [.lit (.bool true)], args := [d] }
  | _ => none }
def fnUnionsRow : OpenClaim := { program := "ytomdlgffolbdkaagreat", sum := "6729813b517e216933d4671e792df0987e6afe560eb7e5f9117dae71f9834aba", func := "loop.example/g00512/laws.FnUnions", spec := "fnUnions", unfollowed := true, recurses := true, apart := false }
def FnUnionsSaid : Prop := fnUnionsRow.holds Tryz.pinned (OpenSpec.ofChange fnUnionsSpec)

/-- ITS FALSE NEIGHBOUR: 'it returns false'. Refute it at one input. -/
def fnUnionsWrong : ChangeSpec := { name := "fnUnions", fn := fun _ => fun
  | [d] => { results := [.lit (.bool false)], args := [d] }
  | _ => none }
def FnUnionsWrongFalsely : Prop := fnUnionsRow.holds Tryz.pinned (OpenSpec.ofChange fnUnionsWrong)

/-- 'laws.FnExactIsCircular': WHATEVER THE INPUT: true; the input reads as it did. -/
def fnExactIsCircularSpec : ChangeSpec := { name := "fnExactIsCircular", fn := fun _ => fun
  | [d] => { results := [.lit (.bool true)], args := [d] }
  | _ => none }
def fnExactIsCircularRow : OpenClaim := { program := "ytomdlgffolbdkaagreat", sum := "6729813b517e216933d4671e792df0987e6afe560eb7e5f9117dae71f9834aba", func := "loop.example/g00512/laws.FnExactIsCircular", spec := "fnExactIsCircular", unfollowed := true, recurses := true, loops := true, apart := false }
def FnExactIsCircularSaid : Prop := fnExactIsCircularRow.holds Tryz.pinned (OpenSpec.ofChange fnExactIsCircularSpec)

/-- ITS FALSE NEIGHBOUR: 'it returns false'. Refute it at one input. -/
def fnExactIsCircularWrong : ChangeSpec := { name := "fnExactIsCircular", fn := fun _ => fun
  | [d] => { results := [.lit (.bool false)], args := [d] }
  | _ => none }
def FnExactIsCircularWrongFalsely : Prop := fnExactIsCircularRow.holds Tryz.pinned (OpenSpec.ofChange fnExactIsCircularWrong)

/-- 'laws.FnExactSummaries': WHATEVER THE INPUT: true; the input reads as it did. -/
def fnExactSummariesSpec : ChangeSpec := { name := "fnExactSummaries", fn := fun _ => fun
  | [d] => { results := [.lit (.bool true)], args := [d] }
  | _ => none }
def fnExactSummariesRow : OpenClaim := { program := "ytomdlgffolbdkaagreat", sum := "6729813b517e216933d4671e792df0987e6afe560eb7e5f9117dae71f9834aba", func := "loop.example/g00512/laws.FnExactSummaries", spec := "fnExactSummaries", unfollowed := true, recurses := true, loops := true, apart := false }
def FnExactSummariesSaid : Prop := fnExactSummariesRow.holds Tryz.pinned (OpenSpec.ofChange fnExactSummariesSpec)

/-- ITS FALSE NEIGHBOUR: 'it returns false'. Refute it at one input. -/
def fnExactSummariesWrong : ChangeSpec := { name := "fnExactSummaries", fn := fun _ => fun
  | [d] => { results := [.lit (.bool false)], args := [d] }
  | _ => none }
def FnExactSummariesWrongFalsely : Prop := fnExactSummariesRow.holds Tryz.pinned (OpenSpec.ofChange fnExactSummariesWrong)

/- THE SECOND FORM. 'bulk': how many values and letters a reading holds, each counted each time it is reached (what is shared counts as often as it is met; a slice's spare places count too). A statement '..UptoSaid' is the law's where the arguments, and the package variables that the reading takes, are together of bulk at most 1048576: NARROWER than '..Said'. Prove '..Said' where nothing that the law and all that it calls make is longer than what came in: it says more and counts as full. Else prove '..UptoSaid'. A law counts once. -/
mutual
def uptoBulk {H : Type} : DataW H → Nat
  | .lit (.string bytes) => bytes.length + 1
  | .lit _ => 1
  | .nil => 1
  | .ptr d => uptoBulk d + 1
  | .slice elems spare => uptoBulkAll elems + uptoBulkAll spare + 1
  | .agg parts => uptoBulkAll parts + 1
  | .iface _ d => uptoBulk d + 1
  | .map entries => uptoBulkEntries entries + 1
  | .held _ => 1
def uptoBulkAll {H : Type} : List (DataW H) → Nat
  | [] => 0
  | d :: r => uptoBulk d + uptoBulkAll r
def uptoBulkEntries {H : Type} : List (Lit × DataW H) → Nat
  | [] => 0
  | x :: r => uptoBulkEntry x + uptoBulkEntries r
def uptoBulkEntry {H : Type} : Lit × DataW H → Nat
  | (.string bytes, d) => bytes.length + uptoBulk d + 1
  | (_, d) => uptoBulk d + 1
 end
def uptoSmall : (H : Type) → List (DataW H) → Bool := fun _ ds => decide (uptoBulkAll ds ≤ 1048576)
def OpenSpec.upto (s : _root_.Go.ChangeSpec) : _root_.Go.OpenSpec := { _root_.Go.OpenSpec.ofChange s with cond := some uptoSmall }

/-- 'laws.FnSummaries', WHERE WHAT IT READS IS OF BULK AT MOST 1048576: true; the input reads as it did. -/
def fnSummariesUptoRow : OpenClaim := { program := "ytomdlgffolbdkaagreat", sum := "6729813b517e216933d4671e792df0987e6afe560eb7e5f9117dae71f9834aba", func := "loop.example/g00512/laws.FnSummaries", spec := "fnSummaries", unfollowed := true, recurses := true, apart := false, narrowed := true }
def FnSummariesUptoSaid : Prop := fnSummariesUptoRow.holds Tryz.pinned (OpenSpec.upto fnSummariesSpec)

/-- 'laws.FnUnions', WHERE WHAT IT READS IS OF BULK AT MOST 1048576: true; the input reads as it did. -/
def fnUnionsUptoRow : OpenClaim := { program := "ytomdlgffolbdkaagreat", sum := "6729813b517e216933d4671e792df0987e6afe560eb7e5f9117dae71f9834aba", func := "loop.example/g00512/laws.FnUnions", spec := "fnUnions", unfollowed := true, recurses := true, apart := false, narrowed := true }
def FnUnionsUptoSaid : Prop := fnUnionsUptoRow.holds Tryz.pinned (OpenSpec.upto fnUnionsSpec)

/-- 'laws.FnExactIsCircular', WHERE WHAT IT READS IS OF BULK AT MOST 1048576: true; the input reads as it did. -/
def fnExactIsCircularUptoRow : OpenClaim := { program := "ytomdlgffolbdkaagreat", sum := "6729813b517e216933d4671e792df0987e6afe560eb7e5f9117dae71f9834aba", func := "loop.example/g00512/laws.FnExactIsCircular", spec := "fnExactIsCircular", unfollowed := true, recurses := true, loops := true, apart := false, narrowed := true }
def FnExactIsCircularUptoSaid : Prop := fnExactIsCircularUptoRow.holds Tryz.pinned (OpenSpec.upto fnExactIsCircularSpec)

/-- 'laws.FnExactSummaries', WHERE WHAT IT READS IS OF BULK AT MOST 1048576: true; the input reads as it did. -/
def fnExactSummariesUptoRow : OpenClaim := { program := "ytomdlgffolbdkaagreat", sum := "6729813b517e216933d4671e792df0987e6afe560eb7e5f9117dae71f9834aba", func := "loop.example/g00512/laws.FnExactSummaries", spec := "fnExactSummaries", unfollowed := true, recurses := true, loops := true, apart := false, narrowed := true }
def FnExactSummariesUptoSaid : Prop := fnExactSummariesUptoRow.holds Tryz.pinned (OpenSpec.upto fnExactSummariesSpec)

end Rows
end Go.Proofs.YtomdlgffolbdkaaGreat

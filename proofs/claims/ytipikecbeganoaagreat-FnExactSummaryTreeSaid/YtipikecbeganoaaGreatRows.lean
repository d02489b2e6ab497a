/-
  NARROWER THAN 'FOR EVERY INPUT', by the rows' own cells (each row's printed sentence says how): FnExactSummaryTree: loops · FnExactCircularTree: loops.
  DERIVED. THE GIVEN ROWS OF THIS SEAT. 2 by the template 'for every input the law returns true; each argument reads behind the call as it read before'; 0 by the template 'total and deterministic' (their statements: YtipikecbeganoaaGreatTotals.lean).
  GIVEN WITH THE SEED: the statements are not yours to turn. If you find one false, say at which input.
  Laid BY PROGRAM, IN A SANDBOX (cutbox-rows.mjs): the forced cells as the released guide's own fill.sh prints them over the translation 369a8ab9f76401a2… (all of the seat's roots in one cut). By AI agents, Wed Nov 11 2026. No macro, syntax, notation, axiom, sorry.
-/
import Derived.Test.YtipikecbeganoaaGreatChecked
import GoSem.Claim
import GoSem.ClaimJoined
import GoSem.ClaimMapViews
import Derived.JoinedTies
import Derived.KernelRfl
namespace Go.Proofs.YtipikecbeganoaaGreat
/- THE CELL 'sum', in the pinned program and in every row, IS THE sha256 OF THE DUMP (.gsa) THAT YtipikecbeganoaaGreatProg.lean LOADS. Nothing in Lean hashes anything: it is a label: what it is worth is what the hold of that sum in a sandbox is worth. -/
noncomputable def Tryz.pinned : Pinned := { name := "ytipikecbeganoaagreat", sum := "369a8ab9f76401a27929e1bd91f7043b104390d30608e88f59894bb0512ccf1a", checked := Tryz.checked }
namespace Rows
def none {H : Type} : Left H := { results := [], args := [] }

/-- 'laws.FnExactSummaryTree': WHATEVER THE INPUT: true; the input reads as it did. -/
def fnExactSummaryTreeSpec : ChangeSpec := { name := "fnExactSummaryTree", fn := fun _ => fun
  | [d1, d2, d3] => { results := [.lit (.bool true)], args := [d1, d2, d3] }
  | _ => none }
def fnExactSummaryTreeRow : OpenClaim := { program := "ytipikecbeganoaagreat", sum := "369a8ab9f76401a27929e1bd91f7043b104390d30608e88f59894bb0512ccf1a", func := "loop.example/g00512/laws.FnExactSummaryTree", spec := "fnExactSummaryTree", unfollowed := true, recurses := true, loops := true, apart := false }
def FnExactSummaryTreeSaid : Prop := fnExactSummaryTreeRow.holds Tryz.pinned (OpenSpec.ofChange fnExactSummaryTreeSpec)

/-- ITS FALSE NEIGHBOUR: 'it returns false'. Refute it at one input. -/
def fnExactSummaryTreeWrong : ChangeSpec := { name := "fnExactSummaryTree", fn := fun _ => fun
  | [d1, d2, d3] => { results := [.lit (.bool false)], args := [d1, d2, d3] }
  | _ => none }
def FnExactSummaryTreeWrongFalsely : Prop := fnExactSummaryTreeRow.holds Tryz.pinned (OpenSpec.ofChange fnExactSummaryTreeWrong)

/-- 'laws.FnExactCircularTree': WHATEVER THE INPUT: true; the input reads as it did. -/
def fnExactCircularTreeSpec : ChangeSpec := { name := "fnExactCircularTree", fn := fun _ => fun
  | [d] => { results := [.lit (.bool true)], args := [d] }
  | _ => none }
def fnExactCircularTreeRow : OpenClaim := { program := "ytipikecbeganoaagreat", sum := "369a8ab9f76401a27929e1bd91f7043b104390d30608e88f59894bb0512ccf1a", func := "loop.example/g00512/laws.FnExactCircularTree", spec := "fnExactCircularTree", unfollowed := true, recurses := true, loops := true, apart := false }
def FnExactCircularTreeSaid : Prop := fnExactCircularTreeRow.holds Tryz.pinned (OpenSpec.ofChange fnExactCircularTreeSpec)

/-- ITS FALSE NEIGHBOUR: 'it returns false'. Refute it at one input. -/
def fnExactCircularTreeWrong : ChangeSpec := { name := "fnExactCircularTree", fn := fun _ => fun
  | [d] => { results := [.lit (.bool false)], args := [d] }
  | _ => none }
def FnExactCircularTreeWrongFalsely : Prop := fnExactCircularTreeRow.holds Tryz.pinned (OpenSpec.ofChange fnExactCircularTreeWrong)

/- THE SECOND FORM. 'bulk': how many values and letters a reading holds, each counted each time it is reached (what is shared counts as often as it is met; a slice's spare places count too). A statement '..UptoSaid' is the law's where the arguments, and the package variables that the reading takes, are together of bulk at most 1048576: NARROWER than '..Said'. Prove '..Said' where nothing that the law and all that it calls make is longer than what came in: it says more and counts as full. Else prove '..UptoSaid'. A law counts once. -/
mutual
def uptoBulk {H : Type} : DataW H → Nat
  | .lit (.string bytes) => bytes.length + 1
  | .lit _ => 1
  | .nil => 1
  | .ptr d => uptoBulk d + 1
  | .slice elems spare => uptoBulkAll elems + uptoBulkAll spare + 1
  | .agg parts => uptoBulkAll parts + 1
  | .iface _ d => uptoBulk d + 1
  | .map entries => uptoBulkEntries entries + 1
  | .held _ => 1
def uptoBulkAll {H : Type} : List (DataW H) → Nat
  | [] => 0
  | d :: r => uptoBulk d + uptoBulkAll r
def uptoBulkEntries {H : Type} : List (Lit × DataW H) → Nat
  | [] => 0
  | x :: r => uptoBulkEntry x + uptoBulkEntries r
def uptoBulkEntry {H : Type} : Lit × DataW H → Nat
  | (.string bytes, d) => bytes.length + uptoBulk d + 1
  | (_, d) => uptoBulk d + 1
 end
def uptoSmall : (H : Type) → List (DataW H) → Bool := fun _ ds => decide (uptoBulkAll ds ≤ 1048576)
def OpenSpec.upto (s : _root_.Go.ChangeSpec) : _root_.Go.OpenSpec := { _root_.Go.OpenSpec.ofChange s with cond := some uptoSmall }

/-- 'laws.FnExactSummaryTree', WHERE WHAT IT READS IS OF BULK AT MOST 1048576: true; the input reads as it did. -/
def fnExactSummaryTreeUptoRow : OpenClaim := { program := "ytipikecbeganoaagreat", sum := "369a8ab9f76401a27929e1bd91f7043b104390d30608e88f59894bb0512ccf1a", func := "loop.example/g00512/laws.FnExactSummaryTree", spec := "fnExactSummaryTree", unfollowed := true, recurses := true, loops := true, apart := false, narrowed := true }
def FnExactSummaryTreeUptoSaid : Prop := fnExactSummaryTreeUptoRow.holds Tryz.pinned (OpenSpec.upto fnExactSummaryTreeSpec)

/-- 'laws.FnExactCircularTree', WHERE WHAT IT READS IS OF BULK AT MOST 1048576: true; the input reads as it did. -/
def fnExactCircularTreeUptoRow : OpenClaim := { program := "ytipikecbeganoaagreat", sum := "369a8ab9f76401a27929e1bd91f7043b104390d30608e88f59894bb0512ccf1a", func := "loop.example/g00512/laws.FnExactCircularTree", spec := "fnExactCircularTree", unfollowed := true, recurses := true, loops := true, apart := false, narrowed := true }
def FnExactCircularTreeUptoSaid : Prop := fnExactCircularTreeUptoRow.holds Tryz.pinned (OpenSpec.upto fnExactCircularTreeSpec)

end Rows
end Go.Proofs.YtipikecbeganoaaGreat

/-
  No cell of these rows narrows 'for every input' (looked for: loops, veiled, ifaces, maps, wideKeys, modest, calm, conditions, laid).
  DERIVED. THE GIVEN ROWS OF THIS SEAT. 2 by the template 'for every input the law returns true; each argument reads behind the call as it read before'; 0 by the template 'total and deterministic' (their statements: YtppbkkcekpbaiaaGreatTotals.lean).
  GIVEN WITH THE SEED: the statements are not yours to turn. If you find one false, say at which input.
  Laid BY PROGRAM, IN A SANDBOX (cutbox-rows.mjs): the forced cells as the released guide's own fill.sh prints them over the translation 614dfe220600809c… (all of the seat's roots in one cut). By AI agents, Wed Nov 11 2026. No macro, syntax, notation, axiom, sorry.
-/
import Derived.Test.YtppbkkcekpbaiaaGreatChecked
import GoSem.Claim
import GoSem.ClaimJoined
import GoSem.ClaimMapViews
import Derived.JoinedTies
import Derived.KernelRfl
namespace Go.Proofs.YtppbkkcekpbaiaaGreat
/- THE CELL 'sum', in the pinned program and in every row, IS THE sha256 OF THE DUMP (.gsa) THAT YtppbkkcekpbaiaaGreatProg.lean LOADS. Nothing in Lean hashes anything: it is a label: what it is worth is what the hold of that sum in a sandbox is worth. -/
noncomputable def Tryz.pinned : Pinned := { name := "ytppbkkcekpbaiaagreat", sum := "614dfe220600809ce993895c6cb4cfc631a3145097200af8df3068cbdb0464dc", checked := Tryz.checked }
namespace Rows
def none {H : Type} : Left H := { results := [], args := [] }

/-- 'laws.FnPlanChecked': WHATEVER THE INPUT: true; the input reads as it did. -/
def fnPlanCheckedSpec : ChangeSpec := { name := "fnPlanChecked", fn := fun _ => fun
  | [d] => { results := [.lit (.bool true)], args := [d] }
  | _ => none }
def fnPlanCheckedRow : OpenClaim := { program := "ytppbkkcekpbaiaagreat", sum := "614dfe220600809ce993895c6cb4cfc631a3145097200af8df3068cbdb0464dc", func := "loop.example/g00512/laws.FnPlanChecked", spec := "fnPlanChecked", unfollowed := true, recurses := true, apart := false }
def FnPlanCheckedSaid : Prop := fnPlanCheckedRow.holds Tryz.pinned (OpenSpec.ofChange fnPlanCheckedSpec)

/-- ITS FALSE NEIGHBOUR: 'it returns false'. Refute it at one input. -/
def fnPlanCheckedWrong : ChangeSpec := { name := "fnPlanChecked", fn := fun _ => fun
  | [d] => { results := [.lit (.bool false)], args := [d] }
  | _ => none }
def FnPlanCheckedWrongFalsely : Prop := fnPlanCheckedRow.holds Tryz.pinned (OpenSpec.ofChange fnPlanCheckedWrong)

/-- 'laws.FnPlanned': WHATEVER THE INPUT: true; the input reads as it did. -/
def fnPlannedSpec : ChangeSpec := { name := "fnPlanned", fn := fun _ => fun
  | [d] => { results := [.lit (.bool true)], args := [d] }
  | _ => none }
def fnPlannedRow : OpenClaim := { program := "ytppbkkcekpbaiaagreat", sum := "614dfe220600809ce993895c6cb4cfc631a3145097200af8df3068cbdb0464dc", func := "loop.example/g00512/laws.FnPlanned", spec := "fnPlanned", unfollowed := true, recurses := true, apart := false }
def FnPlannedSaid : Prop := fnPlannedRow.holds Tryz.pinned (OpenSpec.ofChange fnPlannedSpec)

/-- ITS FALSE NEIGHBOUR: 'it returns false'. Refute it at one input. -/
def fnPlannedWrong : ChangeSpec := { name := "fnPlanned", fn := fun _ => fun
  | [d] => { results := [.lit (.bool false)], args := [d] }
  | _ => none }
def FnPlannedWrongFalsely : Prop := fnPlannedRow.holds Tryz.pinned (OpenSpec.ofChange fnPlannedWrong)

/- THE SECOND FORM. 'bulk': how many values and letters a reading holds, each counted each time it is reached (what is shared counts as often as it is met; a slice's spare places count too). A statement '..UptoSaid' is the law's where the arguments, and the package variables that the reading takes, are together of bulk at most 1048576: NARROWER than '..Said'. Prove '..Said' where nothing that the law and all that it calls make is longer than what came in: it says more and counts as full. Else prove '..UptoSaid'. A law counts once. -/
mutual
def uptoBulk {H : Type} : DataW H → Nat
  | .lit (.string bytes) => bytes.length + 1
  | .lit _ => 1
  | .nil => 1
  | .ptr d => uptoBulk d + 1
  | .slice elems spare => uptoBulkAll elems + uptoBulkAll spare + 1
  | .agg parts => uptoBulkAll parts + 1
  | .iface _ d => uptoBulk d + 1
  | .map entries => uptoBulkEntries entries + 1
  | .held _ => 1
def uptoBulkAll {H : Type} : List (DataW H) → Nat
  | [] => 0
  | d :: r => uptoBulk d + uptoBulkAll r
def uptoBulkEntries {H : Type} : List (Lit × DataW H) → Nat
  | [] => 0
  | x :: r => uptoBulkEntry x + uptoBulkEntries r
def uptoBulkEntry {H : Type} : Lit × DataW H → Nat
  | (.string bytes, d) => bytes.length + uptoBulk d + 1
  | (_, d) => uptoBulk d + 1
 end
def uptoSmall : (H : Type) → List (DataW H) → Bool := fun _ ds => decide (uptoBulkAll ds ≤ 1048576)
def OpenSpec.upto (s : _root_.Go.ChangeSpec) : _root_.Go.OpenSpec := { _root_.Go.OpenSpec.ofChange s with cond := some uptoSmall }

/-- 'laws.FnPlanChecked', WHERE WHAT IT READS IS OF BULK AT MOST 1048576: true; the input reads as it did. -/
def fnPlanCheckedUptoRow : OpenClaim := { program := "ytppbkkcekpbaiaagreat", sum := "614dfe220600809ce993895c6cb4cfc631a3145097200af8df3068cbdb0464dc", func := "loop.example/g00512/laws.FnPlanChecked", spec := "fnPlanChecked", unfollowed := true, recurses := true, apart := false, narrowed := true }
def FnPlanCheckedUptoSaid : Prop := fnPlanCheckedUptoRow.holds Tryz.pinned (OpenSpec.upto fnPlanCheckedSpec)

/-- 'laws.FnPlanned', WHERE WHAT IT READS IS OF BULK AT MOST 1048576: true; the input reads as it did. -/
def fnPlannedUptoRow : OpenClaim := { program := "ytppbkkcekpbaiaagreat", sum := "614dfe220600809ce993895c6cb4cfc631a3145097200af8df3068cbdb0464dc", func := "loop.example/g00512/laws.FnPlanned", spec := "fnPlanned", unfollowed := true, recurses := true, apart := false, narrowed := true }
def FnPlannedUptoSaid : Prop := fnPlannedUptoRow.holds Tryz.pinned (OpenSpec.upto fnPlannedSpec)

end Rows
end Go.Proofs.YtppbkkcekpbaiaaGreat

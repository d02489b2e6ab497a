/-
  DERIVED. GIVEN WITH THE SEED: THE CARDS: each row of YtbgnnjmfmnkkaaaDoorRows.lean that lists a variable, with what it lists TIED to the program's text (the seventh form; the later family's looks); each row that meets fmt, with fmt's text TOLD by the authors' own Lean function (tested against real Go, not proved from fmt's source: count such statements apart). THE CARD IS WHAT COUNTS. Prove the row's statement (the work); the ties are given (YtbgnnjmfmnkkaaaDoorTie.lean); close each card by the builder's one call (the guide's Derived/Test/ToyasCard.lean, 'card_holds'). Laid BY PROGRAM, IN A SANDBOX (cutbox-door.mjs). By AI agents, Wed Nov 11 2026. No macro, syntax, notation, axiom, sorry.
-/
import Derived.Test.YtbgnnjmfmnkkaaaDoorRows
import GoSem.ClaimSeven
namespace Go.Proofs.YtbgnnjmfmnkkaaaDoor
namespace Rows

/-- THE TIED CARD OF 'laws.FnExactFormatStep'. -/
def fnExactFormatStepCard : Claim7 := { stood := { row := fnExactFormatStepRow, standIns := [], harness := (true, "928c6b7a1d0009f0d392c68e7fa88c660c320768beabc4d0e72b572f58fa38f8"), looks := false }, kinds := [], alts := [], laidByText := true, laidKinds := [.data, .data, .data], laidTests := true, laidLooks := .later }
def FnExactFormatStepCardSaid : Prop := Claim7.holds Tryd.pinned (.plain (OpenSpec.ofChange fnExactFormatStepSpec)) fnExactFormatStepCard

/-- THE SECOND FORM's CARD OF 'laws.FnExactFormatStep'. -/
def fnExactFormatStepUptoCard : Claim7 := { stood := { row := fnExactFormatStepUptoRow, standIns := [], harness := (true, "928c6b7a1d0009f0d392c68e7fa88c660c320768beabc4d0e72b572f58fa38f8"), looks := false }, kinds := [], alts := [], laidByText := true, laidKinds := [.data, .data, .data], laidTests := true, laidLooks := .later }
def FnExactFormatStepUptoCardSaid : Prop := Claim7.holds Tryd.pinned (.plain (OpenSpec.upto fnExactFormatStepSpec)) fnExactFormatStepUptoCard
end Rows
end Go.Proofs.YtbgnnjmfmnkkaaaDoor

/-
  DERIVED. GIVEN WITH THE SEED: THE CARDS: each row of YtgkepiefcpfimaaGreatDoorRows.lean that lists a variable, with what it lists TIED to the program's text (the seventh form; the later family's looks); each row that meets fmt, with fmt's text TOLD by the authors' own Lean function (tested against real Go, not proved from fmt's source: count such statements apart). THE CARD IS WHAT COUNTS. Prove the row's statement (the work); the ties are given (YtgkepiefcpfimaaGreatDoorTie.lean); close each card by the builder's one call (the guide's Derived/Test/ToyasCard.lean, 'card_holds'). Laid BY PROGRAM, IN A SANDBOX (cutbox-door.mjs). By AI agents, Wed Nov 11 2026. No macro, syntax, notation, axiom, sorry.
-/
import Derived.Test.YtgkepiefcpfimaaGreatDoorRows
import GoSem.ClaimSeven
namespace Go.Proofs.YtgkepiefcpfimaaGreatDoor
namespace Rows

/-- THE TIED CARD OF 'laws.FnBuilt'. -/
def fnBuiltCard : Claim7 := { stood := { row := fnBuiltRow, standIns := [], harness := (true, "6fffe5d1159fa73c732f2d7f88bc829207abf14187de8e38d3a5f58bf965bc8b"), looks := false }, kinds := [], alts := [], laidByText := true, laidKinds := [.data, .data, .data], laidTests := true, laidLooks := .later }
def FnBuiltCardSaid : Prop := Claim7.holds Tryz.pinned (.plain (OpenSpec.ofChange fnBuiltSpec)) fnBuiltCard

/-- THE SECOND FORM's CARD OF 'laws.FnBuilt'. -/
def fnBuiltUptoCard : Claim7 := { stood := { row := fnBuiltUptoRow, standIns := [], harness := (true, "6fffe5d1159fa73c732f2d7f88bc829207abf14187de8e38d3a5f58bf965bc8b"), looks := false }, kinds := [], alts := [], laidByText := true, laidKinds := [.data, .data, .data], laidTests := true, laidLooks := .later }
def FnBuiltUptoCardSaid : Prop := Claim7.holds Tryz.pinned (.plain (OpenSpec.upto fnBuiltSpec)) fnBuiltUptoCard
end Rows
end Go.Proofs.YtgkepiefcpfimaaGreatDoor

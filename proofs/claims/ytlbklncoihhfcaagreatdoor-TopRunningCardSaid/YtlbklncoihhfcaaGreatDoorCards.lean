/-
  DERIVED. GIVEN WITH THE SEED: THE CARDS: each row of YtlbklncoihhfcaaGreatDoorRows.lean that lists a variable, with what it lists TIED to the program's text (the seventh form; the later family's looks); each row that meets fmt, with fmt's text TOLD by the authors' own Lean function (tested against real Go, not proved from fmt's source: count such statements apart). THE CARD IS WHAT COUNTS. Prove the row's statement (the work); the ties are given (YtlbklncoihhfcaaGreatDoorTie.lean); close each card by the builder's one call (the guide's Derived/Test/ToyasCard.lean, 'card_holds'). Laid BY PROGRAM, IN A SANDBOX (cutbox-door.mjs). By AI agents, Wed Nov 11 2026. No macro, syntax, notation, axiom, sorry.
-/
import Derived.Test.YtlbklncoihhfcaaGreatDoorRows
import GoSem.ClaimSeven
namespace Go.Proofs.YtlbklncoihhfcaaGreatDoor
namespace Rows

/-- THE TIED CARD OF 'almucantartop.TopRunning'. -/
def topRunningCard : Claim7 := { stood := { row := topRunningRow, standIns := [], harness := (true, "5442f93b15594f5a111abc80afe5709e36e753656a1284318e198eec6efb8e67"), looks := false }, kinds := [], alts := [], laidByText := true, laidKinds := [.data], laidTests := true, laidLooks := .later }
def TopRunningCardSaid : Prop := Claim7.holds Tryz.pinned (.plain (OpenSpec.ofChange topRunningSpec)) topRunningCard

/-- THE SECOND FORM's CARD OF 'almucantartop.TopRunning'. -/
def topRunningUptoCard : Claim7 := { stood := { row := topRunningUptoRow, standIns := [], harness := (true, "5442f93b15594f5a111abc80afe5709e36e753656a1284318e198eec6efb8e67"), looks := false }, kinds := [], alts := [], laidByText := true, laidKinds := [.data], laidTests := true, laidLooks := .later }
def TopRunningUptoCardSaid : Prop := Claim7.holds Tryz.pinned (.plain (OpenSpec.upto topRunningSpec)) topRunningUptoCard
end Rows
end Go.Proofs.YtlbklncoihhfcaaGreatDoor

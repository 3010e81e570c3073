/-
  DERIVED. GIVEN WITH THE SEED: THE CARDS: each row of YtipjnfabodfkcaaGreatDoorRows.lean that lists a variable, with what it lists TIED to the program's text (the seventh form; the later family's looks); each row that meets fmt, with fmt's text TOLD by the authors' own Lean function (tested against real Go, not proved from fmt's source: count such statements apart). THE CARD IS WHAT COUNTS. Prove the row's statement (the work); the ties are given (YtipjnfabodfkcaaGreatDoorTie.lean); close each card by the builder's one call (the guide's Derived/Test/ToyasCard.lean, 'card_holds'). Laid BY PROGRAM, IN A SANDBOX (cutbox-door.mjs). By AI agents, Wed Nov 11 2026. No macro, syntax, notation, axiom, sorry.
-/
import Derived.Test.YtipjnfabodfkcaaGreatDoorRows
import GoSem.ClaimSeven
namespace Go.Proofs.YtipjnfabodfkcaaGreatDoor
namespace Rows

/-- THE TIED CARD OF 'almucantarlaw28.HalfangleSolves'. -/
def halfangleSolvesCard : Claim7 := { stood := { row := halfangleSolvesRow, standIns := [], harness := (true, "343022659981713b77e52cad816164f6225353e9e5470d620567608f44090f51"), looks := false }, kinds := [], alts := [], laidByText := true, laidKinds := [.data], laidTests := true, laidLooks := .later }
def HalfangleSolvesCardSaid : Prop := Claim7.holds Tryz.pinned (.plain (OpenSpec.ofChange halfangleSolvesSpec)) halfangleSolvesCard

/-- THE TIED CARD OF 'almucantarlaw28.HalfangleSides'. -/
def halfangleSidesCard : Claim7 := { stood := { row := halfangleSidesRow, standIns := [], harness := (true, "343022659981713b77e52cad816164f6225353e9e5470d620567608f44090f51"), looks := false }, kinds := [], alts := [], laidByText := true, laidKinds := [.data], laidTests := true, laidLooks := .later }
def HalfangleSidesCardSaid : Prop := Claim7.holds Tryz.pinned (.plain (OpenSpec.ofChange halfangleSidesSpec)) halfangleSidesCard

/-- THE TIED CARD OF 'almucantarlaw28.HalfangleMeets'. -/
def halfangleMeetsCard : Claim7 := { stood := { row := halfangleMeetsRow, standIns := [], harness := (true, "343022659981713b77e52cad816164f6225353e9e5470d620567608f44090f51"), looks := false }, kinds := [], alts := [], laidByText := true, laidKinds := [.data], laidTests := true, laidLooks := .later }
def HalfangleMeetsCardSaid : Prop := Claim7.holds Tryz.pinned (.plain (OpenSpec.ofChange halfangleMeetsSpec)) halfangleMeetsCard

/-- THE SECOND FORM's CARD OF 'almucantarlaw28.HalfangleSolves'. -/
def halfangleSolvesUptoCard : Claim7 := { stood := { row := halfangleSolvesUptoRow, standIns := [], harness := (true, "343022659981713b77e52cad816164f6225353e9e5470d620567608f44090f51"), looks := false }, kinds := [], alts := [], laidByText := true, laidKinds := [.data], laidTests := true, laidLooks := .later }
def HalfangleSolvesUptoCardSaid : Prop := Claim7.holds Tryz.pinned (.plain (OpenSpec.upto halfangleSolvesSpec)) halfangleSolvesUptoCard

/-- THE SECOND FORM's CARD OF 'almucantarlaw28.HalfangleSides'. -/
def halfangleSidesUptoCard : Claim7 := { stood := { row := halfangleSidesUptoRow, standIns := [], harness := (true, "343022659981713b77e52cad816164f6225353e9e5470d620567608f44090f51"), looks := false }, kinds := [], alts := [], laidByText := true, laidKinds := [.data], laidTests := true, laidLooks := .later }
def HalfangleSidesUptoCardSaid : Prop := Claim7.holds Tryz.pinned (.plain (OpenSpec.upto halfangleSidesSpec)) halfangleSidesUptoCard

/-- THE SECOND FORM's CARD OF 'almucantarlaw28.HalfangleMeets'. -/
def halfangleMeetsUptoCard : Claim7 := { stood := { row := halfangleMeetsUptoRow, standIns := [], harness := (true, "343022659981713b77e52cad816164f6225353e9e5470d620567608f44090f51"), looks := false }, kinds := [], alts := [], laidByText := true, laidKinds := [.data], laidTests := true, laidLooks := .later }
def HalfangleMeetsUptoCardSaid : Prop := Claim7.holds Tryz.pinned (.plain (OpenSpec.upto halfangleMeetsSpec)) halfangleMeetsUptoCard
end Rows
end Go.Proofs.YtipjnfabodfkcaaGreatDoor

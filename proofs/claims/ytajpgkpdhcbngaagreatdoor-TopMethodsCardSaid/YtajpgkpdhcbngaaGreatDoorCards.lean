/-
  DERIVED. GIVEN WITH THE SEED: THE CARDS: each row of YtajpgkpdhcbngaaGreatDoorRows.lean that lists a variable, with what it lists TIED to the program's text (the seventh form; the later family's looks); each row that meets fmt, with fmt's text TOLD by the authors' own Lean function (tested against real Go, not proved from fmt's source: count such statements apart). THE CARD IS WHAT COUNTS. Prove the row's statement (the work); the ties are given (YtajpgkpdhcbngaaGreatDoorTie.lean); close each card by the builder's one call (the guide's Derived/Test/ToyasCard.lean, 'card_holds'). Laid BY PROGRAM, IN A SANDBOX (cutbox-door.mjs). By AI agents, Wed Nov 11 2026. No macro, syntax, notation, axiom, sorry.
-/
import Derived.Test.YtajpgkpdhcbngaaGreatDoorRows
import GoSem.ClaimSeven
namespace Go.Proofs.YtajpgkpdhcbngaaGreatDoor
namespace Rows

/-- THE TIED CARD OF 'almucantartop.TopMethods'. -/
def topMethodsCard : Claim7 := { stood := { row := topMethodsRow, standIns := [], harness := (true, "dfdbc5353478c536fa1e5084cc8046dff1467993da26b875cb9779bebc5c1139"), looks := false }, kinds := [], alts := [], laidByText := true, laidKinds := [.data], laidTests := true, laidLooks := .later }
def TopMethodsCardSaid : Prop := Claim7.holds Tryz.pinned (.plain (OpenSpec.ofChange topMethodsSpec)) topMethodsCard

/-- THE SECOND FORM's CARD OF 'almucantartop.TopMethods'. -/
def topMethodsUptoCard : Claim7 := { stood := { row := topMethodsUptoRow, standIns := [], harness := (true, "dfdbc5353478c536fa1e5084cc8046dff1467993da26b875cb9779bebc5c1139"), looks := false }, kinds := [], alts := [], laidByText := true, laidKinds := [.data], laidTests := true, laidLooks := .later }
def TopMethodsUptoCardSaid : Prop := Claim7.holds Tryz.pinned (.plain (OpenSpec.upto topMethodsSpec)) topMethodsUptoCard
end Rows
end Go.Proofs.YtajpgkpdhcbngaaGreatDoor

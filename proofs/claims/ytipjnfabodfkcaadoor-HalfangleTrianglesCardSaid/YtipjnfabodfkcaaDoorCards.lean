/-
  DERIVED. GIVEN WITH THE SEED: THE CARDS: each row of YtipjnfabodfkcaaDoorRows.lean that lists a variable, with what it lists TIED to the program's text (the seventh form; the later family's looks); each row that meets fmt, with fmt's text TOLD by the authors' own Lean function (tested against real Go, not proved from fmt's source: count such statements apart). THE CARD IS WHAT COUNTS. Prove the row's statement (the work); the ties are given (YtipjnfabodfkcaaDoorTie.lean); close each card by the builder's one call (the guide's Derived/Test/ToyasCard.lean, 'card_holds'). Laid BY PROGRAM, IN A SANDBOX (cutbox-door.mjs). By AI agents, Wed Nov 11 2026. No macro, syntax, notation, axiom, sorry.
-/
import Derived.Test.YtipjnfabodfkcaaDoorRows
import GoSem.ClaimSeven
namespace Go.Proofs.YtipjnfabodfkcaaDoor
namespace Rows

/-- THE TIED CARD OF 'almucantarlaw28.HalfangleParts'. -/
def halfanglePartsCard : Claim7 := { stood := { row := halfanglePartsRow, standIns := [], harness := (true, "6d9c1bdda10ec80b49e4f4e4164f73328bd5473e8919948f5148763d087d0ed1"), looks := false }, kinds := [], alts := [], laidByText := true, laidKinds := [.data], laidTests := true, laidLooks := .later }
def HalfanglePartsCardSaid : Prop := Claim7.holds Tryd.pinned (.plain (OpenSpec.ofChange halfanglePartsSpec)) halfanglePartsCard

/-- THE TIED CARD OF 'almucantarlaw28.HalfangleMirrors'. -/
def halfangleMirrorsCard : Claim7 := { stood := { row := halfangleMirrorsRow, standIns := [], harness := (true, "6d9c1bdda10ec80b49e4f4e4164f73328bd5473e8919948f5148763d087d0ed1"), looks := false }, kinds := [], alts := [], laidByText := true, laidKinds := [.data], laidTests := true, laidLooks := .later }
def HalfangleMirrorsCardSaid : Prop := Claim7.holds Tryd.pinned (.plain (OpenSpec.ofChange halfangleMirrorsSpec)) halfangleMirrorsCard

/-- THE TIED CARD OF 'almucantarlaw28.HalfangleTriangles'. -/
def halfangleTrianglesCard : Claim7 := { stood := { row := halfangleTrianglesRow, standIns := [], harness := (true, "6d9c1bdda10ec80b49e4f4e4164f73328bd5473e8919948f5148763d087d0ed1"), looks := false }, kinds := [], alts := [], laidByText := true, laidKinds := [.data], laidTests := true, laidLooks := .later }
def HalfangleTrianglesCardSaid : Prop := Claim7.holds Tryd.pinned (.plain (OpenSpec.ofChange halfangleTrianglesSpec)) halfangleTrianglesCard

/-- THE SECOND FORM's CARD OF 'almucantarlaw28.HalfangleParts'. -/
def halfanglePartsUptoCard : Claim7 := { stood := { row := halfanglePartsUptoRow, standIns := [], harness := (true, "6d9c1bdda10ec80b49e4f4e4164f73328bd5473e8919948f5148763d087d0ed1"), looks := false }, kinds := [], alts := [], laidByText := true, laidKinds := [.data], laidTests := true, laidLooks := .later }
def HalfanglePartsUptoCardSaid : Prop := Claim7.holds Tryd.pinned (.plain (OpenSpec.upto halfanglePartsSpec)) halfanglePartsUptoCard

/-- THE SECOND FORM's CARD OF 'almucantarlaw28.HalfangleMirrors'. -/
def halfangleMirrorsUptoCard : Claim7 := { stood := { row := halfangleMirrorsUptoRow, standIns := [], harness := (true, "6d9c1bdda10ec80b49e4f4e4164f73328bd5473e8919948f5148763d087d0ed1"), looks := false }, kinds := [], alts := [], laidByText := true, laidKinds := [.data], laidTests := true, laidLooks := .later }
def HalfangleMirrorsUptoCardSaid : Prop := Claim7.holds Tryd.pinned (.plain (OpenSpec.upto halfangleMirrorsSpec)) halfangleMirrorsUptoCard

/-- THE SECOND FORM's CARD OF 'almucantarlaw28.HalfangleTriangles'. -/
def halfangleTrianglesUptoCard : Claim7 := { stood := { row := halfangleTrianglesUptoRow, standIns := [], harness := (true, "6d9c1bdda10ec80b49e4f4e4164f73328bd5473e8919948f5148763d087d0ed1"), looks := false }, kinds := [], alts := [], laidByText := true, laidKinds := [.data], laidTests := true, laidLooks := .later }
def HalfangleTrianglesUptoCardSaid : Prop := Claim7.holds Tryd.pinned (.plain (OpenSpec.upto halfangleTrianglesSpec)) halfangleTrianglesUptoCard
end Rows
end Go.Proofs.YtipjnfabodfkcaaDoor

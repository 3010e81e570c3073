/-
  NARROWER THAN 'FOR EVERY INPUT', by the rows' own cells (each row's printed sentence says how): HalfangleSolves: laid · HalfangleSides: laid · HalfangleMeets: laid.
  DERIVED. THE GIVEN ROWS OF THIS SEAT. 3 by the template 'for every input the law returns true; each argument reads behind the call as it read before'; 0 by the template 'total and deterministic' (their statements: YtipjnfabodfkcaaGreatDoorTotals.lean).
  GIVEN WITH THE SEED: the statements are not yours to turn. If you find one false, say at which input.
  Laid BY PROGRAM, IN A SANDBOX (cutbox-rows.mjs): the forced cells as the released guide's own fill.sh prints them over the translation fe0513a0ef8fde4d… (all of the seat's roots in one cut). By AI agents, Wed Nov 11 2026. No macro, syntax, notation, axiom, sorry.
-/
import Derived.Test.YtipjnfabodfkcaaGreatDoorChecked
import GoSem.Claim
import GoSem.ClaimJoined
import GoSem.ClaimMapViews
import Derived.JoinedTies
import Derived.KernelRfl
namespace Go.Proofs.YtipjnfabodfkcaaGreatDoor
/- THE CELL 'sum', in the pinned program and in every row, IS THE sha256 OF THE DUMP (.gsa) THAT YtipjnfabodfkcaaGreatDoorProg.lean LOADS. Nothing in Lean hashes anything: it is a label: what it is worth is what the hold of that sum in a sandbox is worth. -/
noncomputable def Tryz.pinned : Pinned := { name := "ytipjnfabodfkcaagreatdoor", sum := "fe0513a0ef8fde4d2f3d1c4423b5173fa7887d1c61c578f2397c6bf9fa63927e", checked := Tryz.checked }
namespace Rows
def none {H : Type} : Left H := { results := [], args := [] }

/- WHAT THE LISTED PACKAGE-LEVEL VARIABLES READ AS WHEN THE CALL BEGINS. Each datum BY PROGRAM (the guide's laid-datum.mjs) off the statement by which the dump's own 'gosem.cut.vars' lays the variable. In a bare row this is a premise. The card (YtipjnfabodfkcaaGreatDoorCards.lean) ties it to the program's text. -/
def laid_almucantar_halfangle_quarter {H : Type} : DataW H := .agg [.lit (.int .i64 5400000), .lit (.int .i64 5400000)]

/-- 'almucantarlaw28.HalfangleSolves': WHATEVER THE INPUT: true; the input reads as it did. -/
def halfangleSolvesSpec : ChangeSpec := { name := "halfangleSolves", fn := fun _ => fun
  | [d] => { results := [.lit (.bool true)], args := [d] }
  | _ => none }
def halfangleSolvesRow : OpenClaim := { program := "ytipjnfabodfkcaagreatdoor", sum := "fe0513a0ef8fde4d2f3d1c4423b5173fa7887d1c61c578f2397c6bf9fa63927e", func := "almucantar/almucantarlaw28.HalfangleSolves", spec := "halfangleSolves", inPlace := ["math/bits.Add64", "math/bits.Sub64"], unfollowed := true, recurses := true, named := ["math/bits.divideError", "math/bits.overflowError", "almucantar/halfangle.quarter"], apart := false, laid := [("almucantar/halfangle.quarter", laid_almucantar_halfangle_quarter)] }
def HalfangleSolvesSaid : Prop := halfangleSolvesRow.holds Tryz.pinned (OpenSpec.ofChange halfangleSolvesSpec)

/-- ITS FALSE NEIGHBOUR: 'it returns false'. Refute it at one input. -/
def halfangleSolvesWrong : ChangeSpec := { name := "halfangleSolves", fn := fun _ => fun
  | [d] => { results := [.lit (.bool false)], args := [d] }
  | _ => none }
def HalfangleSolvesWrongFalsely : Prop := halfangleSolvesRow.holds Tryz.pinned (OpenSpec.ofChange halfangleSolvesWrong)

/-- 'almucantarlaw28.HalfangleSides': WHATEVER THE INPUT: true; the input reads as it did. -/
def halfangleSidesSpec : ChangeSpec := { name := "halfangleSides", fn := fun _ => fun
  | [d1, d2, d3, d4] => { results := [.lit (.bool true)], args := [d1, d2, d3, d4] }
  | _ => none }
def halfangleSidesRow : OpenClaim := { program := "ytipjnfabodfkcaagreatdoor", sum := "fe0513a0ef8fde4d2f3d1c4423b5173fa7887d1c61c578f2397c6bf9fa63927e", func := "almucantar/almucantarlaw28.HalfangleSides", spec := "halfangleSides", inPlace := ["math/bits.Add64", "math/bits.Sub64"], unfollowed := true, recurses := true, named := ["math/bits.divideError", "math/bits.overflowError", "almucantar/halfangle.quarter"], apart := false, laid := [("almucantar/halfangle.quarter", laid_almucantar_halfangle_quarter)] }
def HalfangleSidesSaid : Prop := halfangleSidesRow.holds Tryz.pinned (OpenSpec.ofChange halfangleSidesSpec)

/-- ITS FALSE NEIGHBOUR: 'it returns false'. Refute it at one input. -/
def halfangleSidesWrong : ChangeSpec := { name := "halfangleSides", fn := fun _ => fun
  | [d1, d2, d3, d4] => { results := [.lit (.bool false)], args := [d1, d2, d3, d4] }
  | _ => none }
def HalfangleSidesWrongFalsely : Prop := halfangleSidesRow.holds Tryz.pinned (OpenSpec.ofChange halfangleSidesWrong)

/-- 'almucantarlaw28.HalfangleMeets': WHATEVER THE INPUT: true; the input reads as it did. -/
def halfangleMeetsSpec : ChangeSpec := { name := "halfangleMeets", fn := fun _ => fun
  | [d] => { results := [.lit (.bool true)], args := [d] }
  | _ => none }
def halfangleMeetsRow : OpenClaim := { program := "ytipjnfabodfkcaagreatdoor", sum := "fe0513a0ef8fde4d2f3d1c4423b5173fa7887d1c61c578f2397c6bf9fa63927e", func := "almucantar/almucantarlaw28.HalfangleMeets", spec := "halfangleMeets", inPlace := ["math/bits.Add64", "math/bits.Sub64"], unfollowed := true, recurses := true, named := ["math/bits.divideError", "math/bits.overflowError", "almucantar/halfangle.quarter"], apart := false, laid := [("almucantar/halfangle.quarter", laid_almucantar_halfangle_quarter)] }
def HalfangleMeetsSaid : Prop := halfangleMeetsRow.holds Tryz.pinned (OpenSpec.ofChange halfangleMeetsSpec)

/-- ITS FALSE NEIGHBOUR: 'it returns false'. Refute it at one input. -/
def halfangleMeetsWrong : ChangeSpec := { name := "halfangleMeets", fn := fun _ => fun
  | [d] => { results := [.lit (.bool false)], args := [d] }
  | _ => none }
def HalfangleMeetsWrongFalsely : Prop := halfangleMeetsRow.holds Tryz.pinned (OpenSpec.ofChange halfangleMeetsWrong)

/- THE SECOND FORM. 'bulk': how many values and letters a reading holds, each counted each time it is reached (what is shared counts as often as it is met; a slice's spare places count too). A statement '..UptoSaid' is the law's where the arguments, and the package variables that the reading takes, are together of bulk at most 1048576: NARROWER than '..Said'. Prove '..Said' where nothing that the law and all that it calls make is longer than what came in: it says more and counts as full. Else prove '..UptoSaid'. A law counts once. -/
mutual
def uptoBulk {H : Type} : DataW H → Nat
  | .lit (.string bytes) => bytes.length + 1
  | .lit _ => 1
  | .nil => 1
  | .ptr d => uptoBulk d + 1
  | .slice elems spare => uptoBulkAll elems + uptoBulkAll spare + 1
  | .agg parts => uptoBulkAll parts + 1
  | .iface _ d => uptoBulk d + 1
  | .map entries => uptoBulkEntries entries + 1
  | .held _ => 1
def uptoBulkAll {H : Type} : List (DataW H) → Nat
  | [] => 0
  | d :: r => uptoBulk d + uptoBulkAll r
def uptoBulkEntries {H : Type} : List (Lit × DataW H) → Nat
  | [] => 0
  | x :: r => uptoBulkEntry x + uptoBulkEntries r
def uptoBulkEntry {H : Type} : Lit × DataW H → Nat
  | (.string bytes, d) => bytes.length + uptoBulk d + 1
  | (_, d) => uptoBulk d + 1
 end
def uptoSmall : (H : Type) → List (DataW H) → Bool := fun _ ds => decide (uptoBulkAll ds ≤ 1048576)
def OpenSpec.upto (s : _root_.Go.ChangeSpec) : _root_.Go.OpenSpec := { _root_.Go.OpenSpec.ofChange s with cond := some uptoSmall }

/-- 'almucantarlaw28.HalfangleSolves', WHERE WHAT IT READS IS OF BULK AT MOST 1048576: true; the input reads as it did. -/
def halfangleSolvesUptoRow : OpenClaim := { program := "ytipjnfabodfkcaagreatdoor", sum := "fe0513a0ef8fde4d2f3d1c4423b5173fa7887d1c61c578f2397c6bf9fa63927e", func := "almucantar/almucantarlaw28.HalfangleSolves", spec := "halfangleSolves", inPlace := ["math/bits.Add64", "math/bits.Sub64"], unfollowed := true, recurses := true, named := ["math/bits.divideError", "math/bits.overflowError", "almucantar/halfangle.quarter"], apart := false, laid := [("almucantar/halfangle.quarter", laid_almucantar_halfangle_quarter)], narrowed := true }
def HalfangleSolvesUptoSaid : Prop := halfangleSolvesUptoRow.holds Tryz.pinned (OpenSpec.upto halfangleSolvesSpec)

/-- 'almucantarlaw28.HalfangleSides', WHERE WHAT IT READS IS OF BULK AT MOST 1048576: true; the input reads as it did. -/
def halfangleSidesUptoRow : OpenClaim := { program := "ytipjnfabodfkcaagreatdoor", sum := "fe0513a0ef8fde4d2f3d1c4423b5173fa7887d1c61c578f2397c6bf9fa63927e", func := "almucantar/almucantarlaw28.HalfangleSides", spec := "halfangleSides", inPlace := ["math/bits.Add64", "math/bits.Sub64"], unfollowed := true, recurses := true, named := ["math/bits.divideError", "math/bits.overflowError", "almucantar/halfangle.quarter"], apart := false, laid := [("almucantar/halfangle.quarter", laid_almucantar_halfangle_quarter)], narrowed := true }
def HalfangleSidesUptoSaid : Prop := halfangleSidesUptoRow.holds Tryz.pinned (OpenSpec.upto halfangleSidesSpec)

/-- 'almucantarlaw28.HalfangleMeets', WHERE WHAT IT READS IS OF BULK AT MOST 1048576: true; the input reads as it did. -/
def halfangleMeetsUptoRow : OpenClaim := { program := "ytipjnfabodfkcaagreatdoor", sum := "fe0513a0ef8fde4d2f3d1c4423b5173fa7887d1c61c578f2397c6bf9fa63927e", func := "almucantar/almucantarlaw28.HalfangleMeets", spec := "halfangleMeets", inPlace := ["math/bits.Add64", "math/bits.Sub64"], unfollowed := true, recurses := true, named := ["math/bits.divideError", "math/bits.overflowError", "almucantar/halfangle.quarter"], apart := false, laid := [("almucantar/halfangle.quarter", laid_almucantar_halfangle_quarter)], narrowed := true }
def HalfangleMeetsUptoSaid : Prop := halfangleMeetsUptoRow.holds Tryz.pinned (OpenSpec.upto halfangleMeetsSpec)

end Rows
end Go.Proofs.YtipjnfabodfkcaaGreatDoor

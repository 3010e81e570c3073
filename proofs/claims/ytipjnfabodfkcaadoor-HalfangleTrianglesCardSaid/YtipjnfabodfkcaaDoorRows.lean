/-
  NARROWER THAN 'FOR EVERY INPUT', by the rows' own cells (each row's printed sentence says how): HalfangleParts: laid · HalfangleMirrors: laid · HalfangleTriangles: laid.
  DERIVED. THE GIVEN ROWS OF THIS SEAT. 3 by the template 'for every input the law returns true; each argument reads behind the call as it read before'; 0 by the template 'total and deterministic' (their statements: YtipjnfabodfkcaaDoorTotals.lean).
  GIVEN WITH THE SEED: the statements are not yours to turn. If you find one false, say at which input.
  Laid BY PROGRAM, IN A SANDBOX (cutbox-rows.mjs): the forced cells as the released guide's own fill.sh prints them over the translation cf60b3be9367b54f… (all of the seat's roots in one cut). By AI agents, Wed Nov 11 2026. No macro, syntax, notation, axiom, sorry.
-/
import Derived.Test.YtipjnfabodfkcaaDoorChecked
import GoSem.Claim
import GoSem.ClaimJoined
import GoSem.ClaimMapViews
import Derived.JoinedTies
import Derived.KernelRfl
namespace Go.Proofs.YtipjnfabodfkcaaDoor
/- THE CELL 'sum', in the pinned program and in every row, IS THE sha256 OF THE DUMP (.gsa) THAT YtipjnfabodfkcaaDoorProg.lean LOADS. Nothing in Lean hashes anything: it is a label: what it is worth is what the hold of that sum in a sandbox is worth. -/
noncomputable def Tryd.pinned : Pinned := { name := "ytipjnfabodfkcaadoor", sum := "cf60b3be9367b54f0e2ef11b4e137434517c01ff0bde105e48b74fbfe9ac051f", checked := Tryd.checked }
namespace Rows
def none {H : Type} : Left H := { results := [], args := [] }

/- WHAT THE LISTED PACKAGE-LEVEL VARIABLES READ AS WHEN THE CALL BEGINS. Each datum BY PROGRAM (the guide's laid-datum.mjs) off the statement by which the dump's own 'gosem.cut.vars' lays the variable. In a bare row this is a premise. The card (YtipjnfabodfkcaaDoorCards.lean) ties it to the program's text. -/
def laid_almucantar_halfangle_quarter {H : Type} : DataW H := .agg [.lit (.int .i64 5400000), .lit (.int .i64 5400000)]

/-- 'almucantarlaw28.HalfangleParts': WHATEVER THE INPUT: true; the input reads as it did. -/
def halfanglePartsSpec : ChangeSpec := { name := "halfangleParts", fn := fun _ => fun
  | [d1, d2, d3, d4] => { results := [.lit (.bool true)], args := [d1, d2, d3, d4] }
  | _ => none }
def halfanglePartsRow : OpenClaim := { program := "ytipjnfabodfkcaadoor", sum := "cf60b3be9367b54f0e2ef11b4e137434517c01ff0bde105e48b74fbfe9ac051f", func := "almucantar/almucantarlaw28.HalfangleParts", spec := "halfangleParts", inPlace := ["math/bits.Add64", "math/bits.Sub64"], unfollowed := true, recurses := true, named := ["math/bits.divideError", "math/bits.overflowError", "almucantar/halfangle.quarter"], apart := false, laid := [("almucantar/halfangle.quarter", laid_almucantar_halfangle_quarter)] }
def HalfanglePartsSaid : Prop := halfanglePartsRow.holds Tryd.pinned (OpenSpec.ofChange halfanglePartsSpec)

/-- ITS FALSE NEIGHBOUR: 'it returns false'. Refute it at one input. -/
def halfanglePartsWrong : ChangeSpec := { name := "halfangleParts", fn := fun _ => fun
  | [d1, d2, d3, d4] => { results := [.lit (.bool false)], args := [d1, d2, d3, d4] }
  | _ => none }
def HalfanglePartsWrongFalsely : Prop := halfanglePartsRow.holds Tryd.pinned (OpenSpec.ofChange halfanglePartsWrong)

/-- 'almucantarlaw28.HalfangleMirrors': WHATEVER THE INPUT: true; the input reads as it did. -/
def halfangleMirrorsSpec : ChangeSpec := { name := "halfangleMirrors", fn := fun _ => fun
  | [d1, d2, d3] => { results := [.lit (.bool true)], args := [d1, d2, d3] }
  | _ => none }
def halfangleMirrorsRow : OpenClaim := { program := "ytipjnfabodfkcaadoor", sum := "cf60b3be9367b54f0e2ef11b4e137434517c01ff0bde105e48b74fbfe9ac051f", func := "almucantar/almucantarlaw28.HalfangleMirrors", spec := "halfangleMirrors", inPlace := ["math/bits.Add64", "math/bits.Sub64"], unfollowed := true, recurses := true, named := ["math/bits.divideError", "math/bits.overflowError", "almucantar/halfangle.quarter"], apart := false, laid := [("almucantar/halfangle.quarter", laid_almucantar_halfangle_quarter)] }
def HalfangleMirrorsSaid : Prop := halfangleMirrorsRow.holds Tryd.pinned (OpenSpec.ofChange halfangleMirrorsSpec)

/-- ITS FALSE NEIGHBOUR: 'it returns false'. Refute it at one input. -/
def halfangleMirrorsWrong : ChangeSpec := { name := "halfangleMirrors", fn := fun _ => fun
  | [d1, d2, d3] => { results := [.lit (.bool false)], args := [d1, d2, d3] }
  | _ => none }
def HalfangleMirrorsWrongFalsely : Prop := halfangleMirrorsRow.holds Tryd.pinned (OpenSpec.ofChange halfangleMirrorsWrong)

/-- 'almucantarlaw28.HalfangleTriangles': WHATEVER THE INPUT: true; the input reads as it did. -/
def halfangleTrianglesSpec : ChangeSpec := { name := "halfangleTriangles", fn := fun _ => fun
  | [d1, d2, d3] => { results := [.lit (.bool true)], args := [d1, d2, d3] }
  | _ => none }
def halfangleTrianglesRow : OpenClaim := { program := "ytipjnfabodfkcaadoor", sum := "cf60b3be9367b54f0e2ef11b4e137434517c01ff0bde105e48b74fbfe9ac051f", func := "almucantar/almucantarlaw28.HalfangleTriangles", spec := "halfangleTriangles", inPlace := ["math/bits.Add64", "math/bits.Sub64"], unfollowed := true, recurses := true, named := ["math/bits.divideError", "math/bits.overflowError", "almucantar/halfangle.quarter"], apart := false, laid := [("almucantar/halfangle.quarter", laid_almucantar_halfangle_quarter)] }
def HalfangleTrianglesSaid : Prop := halfangleTrianglesRow.holds Tryd.pinned (OpenSpec.ofChange halfangleTrianglesSpec)

/-- ITS FALSE NEIGHBOUR: 'it returns false'. Refute it at one input. -/
def halfangleTrianglesWrong : ChangeSpec := { name := "halfangleTriangles", fn := fun _ => fun
  | [d1, d2, d3] => { results := [.lit (.bool false)], args := [d1, d2, d3] }
  | _ => none }
def HalfangleTrianglesWrongFalsely : Prop := halfangleTrianglesRow.holds Tryd.pinned (OpenSpec.ofChange halfangleTrianglesWrong)

/- THE SECOND FORM. 'bulk': how many values and letters a reading holds, each counted each time it is reached (what is shared counts as often as it is met; a slice's spare places count too). A statement '..UptoSaid' is the law's where the arguments, and the package variables that the reading takes, are together of bulk at most 1048576: NARROWER than '..Said'. Prove '..Said' where nothing that the law and all that it calls make is longer than what came in: it says more and counts as full. Else prove '..UptoSaid'. A law counts once. -/
mutual
def uptoBulk {H : Type} : DataW H → Nat
  | .lit (.string bytes) => bytes.length + 1
  | .lit _ => 1
  | .nil => 1
  | .ptr d => uptoBulk d + 1
  | .slice elems spare => uptoBulkAll elems + uptoBulkAll spare + 1
  | .agg parts => uptoBulkAll parts + 1
  | .iface _ d => uptoBulk d + 1
  | .map entries => uptoBulkEntries entries + 1
  | .held _ => 1
def uptoBulkAll {H : Type} : List (DataW H) → Nat
  | [] => 0
  | d :: r => uptoBulk d + uptoBulkAll r
def uptoBulkEntries {H : Type} : List (Lit × DataW H) → Nat
  | [] => 0
  | x :: r => uptoBulkEntry x + uptoBulkEntries r
def uptoBulkEntry {H : Type} : Lit × DataW H → Nat
  | (.string bytes, d) => bytes.length + uptoBulk d + 1
  | (_, d) => uptoBulk d + 1
 end
def uptoSmall : (H : Type) → List (DataW H) → Bool := fun _ ds => decide (uptoBulkAll ds ≤ 1048576)
def OpenSpec.upto (s : _root_.Go.ChangeSpec) : _root_.Go.OpenSpec := { _root_.Go.OpenSpec.ofChange s with cond := some uptoSmall }

/-- 'almucantarlaw28.HalfangleParts', WHERE WHAT IT READS IS OF BULK AT MOST 1048576: true; the input reads as it did. -/
def halfanglePartsUptoRow : OpenClaim := { program := "ytipjnfabodfkcaadoor", sum := "cf60b3be9367b54f0e2ef11b4e137434517c01ff0bde105e48b74fbfe9ac051f", func := "almucantar/almucantarlaw28.HalfangleParts", spec := "halfangleParts", inPlace := ["math/bits.Add64", "math/bits.Sub64"], unfollowed := true, recurses := true, named := ["math/bits.divideError", "math/bits.overflowError", "almucantar/halfangle.quarter"], apart := false, laid := [("almucantar/halfangle.quarter", laid_almucantar_halfangle_quarter)], narrowed := true }
def HalfanglePartsUptoSaid : Prop := halfanglePartsUptoRow.holds Tryd.pinned (OpenSpec.upto halfanglePartsSpec)

/-- 'almucantarlaw28.HalfangleMirrors', WHERE WHAT IT READS IS OF BULK AT MOST 1048576: true; the input reads as it did. -/
def halfangleMirrorsUptoRow : OpenClaim := { program := "ytipjnfabodfkcaadoor", sum := "cf60b3be9367b54f0e2ef11b4e137434517c01ff0bde105e48b74fbfe9ac051f", func := "almucantar/almucantarlaw28.HalfangleMirrors", spec := "halfangleMirrors", inPlace := ["math/bits.Add64", "math/bits.Sub64"], unfollowed := true, recurses := true, named := ["math/bits.divideError", "math/bits.overflowError", "almucantar/halfangle.quarter"], apart := false, laid := [("almucantar/halfangle.quarter", laid_almucantar_halfangle_quarter)], narrowed := true }
def HalfangleMirrorsUptoSaid : Prop := halfangleMirrorsUptoRow.holds Tryd.pinned (OpenSpec.upto halfangleMirrorsSpec)

/-- 'almucantarlaw28.HalfangleTriangles', WHERE WHAT IT READS IS OF BULK AT MOST 1048576: true; the input reads as it did. -/
def halfangleTrianglesUptoRow : OpenClaim := { program := "ytipjnfabodfkcaadoor", sum := "cf60b3be9367b54f0e2ef11b4e137434517c01ff0bde105e48b74fbfe9ac051f", func := "almucantar/almucantarlaw28.HalfangleTriangles", spec := "halfangleTriangles", inPlace := ["math/bits.Add64", "math/bits.Sub64"], unfollowed := true, recurses := true, named := ["math/bits.divideError", "math/bits.overflowError", "almucantar/halfangle.quarter"], apart := false, laid := [("almucantar/halfangle.quarter", laid_almucantar_halfangle_quarter)], narrowed := true }
def HalfangleTrianglesUptoSaid : Prop := halfangleTrianglesUptoRow.holds Tryd.pinned (OpenSpec.upto halfangleTrianglesSpec)

end Rows
end Go.Proofs.YtipjnfabodfkcaaDoor

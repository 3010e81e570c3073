/-
  No cell of these rows narrows 'for every input' (looked for: loops, veiled, ifaces, maps, wideKeys, modest, calm, conditions, laid).
  DERIVED. THE GIVEN ROWS OF THIS SEAT. 11 by the template 'for every input the law returns true; each argument reads behind the call as it read before'; 0 by the template 'total and deterministic' (their statements: YtcoopclgfimahaaTotals.lean).
  GIVEN WITH THE SEED: the statements are not yours to turn. If you find one false, say at which input.
  Laid BY PROGRAM, IN A SANDBOX (cutbox-rows.mjs): the forced cells as the released guide's own fill.sh prints them over the translation fe4191938038804d… (all of the seat's roots in one cut). By AI agents, Wed Nov 11 2026. No macro, syntax, notation, axiom, sorry.
-/
import Derived.Test.YtcoopclgfimahaaChecked
import GoSem.Claim
import GoSem.ClaimJoined
import GoSem.ClaimMapViews
import Derived.JoinedTies
import Derived.KernelRfl
namespace Go.Proofs.Ytcoopclgfimahaa
/- THE CELL 'sum', in the pinned program and in every row, IS THE sha256 OF THE DUMP (.gsa) THAT YtcoopclgfimahaaProg.lean LOADS. Nothing in Lean hashes anything: it is a label: what it is worth is what the hold of that sum in a sandbox is worth. -/
noncomputable def Try.pinned : Pinned := { name := "ytcoopclgfimahaa", sum := "fe4191938038804d06b48c97c9c79cc2c04e14f8eb2e0e69d3bed9605a97937f", checked := Try.checked }
namespace Rows
def none {H : Type} : Left H := { results := [], args := [] }

/-- 'almucantarlaw27.AgetonContains': WHATEVER THE INPUT: true; the input reads as it did. -/
def agetonContainsSpec : ChangeSpec := { name := "agetonContains", fn := fun _ => fun
  | [d1, d2, d3] => { results := [.lit (.bool true)], args := [d1, d2, d3] }
  | _ => none }
def agetonContainsRow : OpenClaim := { program := "ytcoopclgfimahaa", sum := "fe4191938038804d06b48c97c9c79cc2c04e14f8eb2e0e69d3bed9605a97937f", func := "almucantar/almucantarlaw27.AgetonContains", spec := "agetonContains", inPlace := ["math/bits.Add64", "math/bits.Sub64"], recurses := true, named := ["math/bits.divideError", "math/bits.overflowError"], apart := false }
def AgetonContainsSaid : Prop := agetonContainsRow.holds Try.pinned (OpenSpec.ofChange agetonContainsSpec)

/-- ITS FALSE NEIGHBOUR: 'it returns false'. Refute it at one input. -/
def agetonContainsWrong : ChangeSpec := { name := "agetonContains", fn := fun _ => fun
  | [d1, d2, d3] => { results := [.lit (.bool false)], args := [d1, d2, d3] }
  | _ => none }
def AgetonContainsWrongFalsely : Prop := agetonContainsRow.holds Try.pinned (OpenSpec.ofChange agetonContainsWrong)

/-- 'almucantarlaw27.AgetonBack': WHATEVER THE INPUT: true; the input reads as it did. -/
def agetonBackSpec : ChangeSpec := { name := "agetonBack", fn := fun _ => fun
  | [d] => { results := [.lit (.bool true)], args := [d] }
  | _ => none }
def agetonBackRow : OpenClaim := { program := "ytcoopclgfimahaa", sum := "fe4191938038804d06b48c97c9c79cc2c04e14f8eb2e0e69d3bed9605a97937f", func := "almucantar/almucantarlaw27.AgetonBack", spec := "agetonBack", inPlace := ["math/bits.Add64", "math/bits.Sub64"], recurses := true, named := ["math/bits.divideError", "math/bits.overflowError"], apart := false }
def AgetonBackSaid : Prop := agetonBackRow.holds Try.pinned (OpenSpec.ofChange agetonBackSpec)

/-- ITS FALSE NEIGHBOUR: 'it returns false'. Refute it at one input. -/
def agetonBackWrong : ChangeSpec := { name := "agetonBack", fn := fun _ => fun
  | [d] => { results := [.lit (.bool false)], args := [d] }
  | _ => none }
def AgetonBackWrongFalsely : Prop := agetonBackRow.holds Try.pinned (OpenSpec.ofChange agetonBackWrong)

/-- 'almucantarlaw27.AgetonMirrors': WHATEVER THE INPUT: true; the input reads as it did. -/
def agetonMirrorsSpec : ChangeSpec := { name := "agetonMirrors", fn := fun _ => fun
  | [d] => { results := [.lit (.bool true)], args := [d] }
  | _ => none }
def agetonMirrorsRow : OpenClaim := { program := "ytcoopclgfimahaa", sum := "fe4191938038804d06b48c97c9c79cc2c04e14f8eb2e0e69d3bed9605a97937f", func := "almucantar/almucantarlaw27.AgetonMirrors", spec := "agetonMirrors", inPlace := ["math/bits.Add64", "math/bits.Sub64"], recurses := true, named := ["math/bits.divideError", "math/bits.overflowError"], apart := false }
def AgetonMirrorsSaid : Prop := agetonMirrorsRow.holds Try.pinned (OpenSpec.ofChange agetonMirrorsSpec)

/-- ITS FALSE NEIGHBOUR: 'it returns false'. Refute it at one input. -/
def agetonMirrorsWrong : ChangeSpec := { name := "agetonMirrors", fn := fun _ => fun
  | [d] => { results := [.lit (.bool false)], args := [d] }
  | _ => none }
def AgetonMirrorsWrongFalsely : Prop := agetonMirrorsRow.holds Try.pinned (OpenSpec.ofChange agetonMirrorsWrong)

/-- 'almucantarlaw27.AgetonReflects': WHATEVER THE INPUT: true; the input reads as it did. -/
def agetonReflectsSpec : ChangeSpec := { name := "agetonReflects", fn := fun _ => fun
  | [d] => { results := [.lit (.bool true)], args := [d] }
  | _ => none }
def agetonReflectsRow : OpenClaim := { program := "ytcoopclgfimahaa", sum := "fe4191938038804d06b48c97c9c79cc2c04e14f8eb2e0e69d3bed9605a97937f", func := "almucantar/almucantarlaw27.AgetonReflects", spec := "agetonReflects", inPlace := ["math/bits.Add64", "math/bits.Sub64"], recurses := true, named := ["math/bits.divideError", "math/bits.overflowError"], apart := false }
def AgetonReflectsSaid : Prop := agetonReflectsRow.holds Try.pinned (OpenSpec.ofChange agetonReflectsSpec)

/-- ITS FALSE NEIGHBOUR: 'it returns false'. Refute it at one input. -/
def agetonReflectsWrong : ChangeSpec := { name := "agetonReflects", fn := fun _ => fun
  | [d] => { results := [.lit (.bool false)], args := [d] }
  | _ => none }
def AgetonReflectsWrongFalsely : Prop := agetonReflectsRow.holds Try.pinned (OpenSpec.ofChange agetonReflectsWrong)

/-- 'almucantarlaw29.MatrixParts': WHATEVER THE INPUT: true; the input reads as it did. -/
def matrixPartsSpec : ChangeSpec := { name := "matrixParts", fn := fun _ => fun
  | [d1, d2, d3, d4] => { results := [.lit (.bool true)], args := [d1, d2, d3, d4] }
  | _ => none }
def matrixPartsRow : OpenClaim := { program := "ytcoopclgfimahaa", sum := "fe4191938038804d06b48c97c9c79cc2c04e14f8eb2e0e69d3bed9605a97937f", func := "almucantar/almucantarlaw29.MatrixParts", spec := "matrixParts", inPlace := ["math/bits.Add64", "math/bits.Sub64"], unfollowed := true, recurses := true, named := ["math/bits.divideError", "math/bits.overflowError"], apart := false }
def MatrixPartsSaid : Prop := matrixPartsRow.holds Try.pinned (OpenSpec.ofChange matrixPartsSpec)

/-- ITS FALSE NEIGHBOUR: 'it returns false'. Refute it at one input. -/
def matrixPartsWrong : ChangeSpec := { name := "matrixParts", fn := fun _ => fun
  | [d1, d2, d3, d4] => { results := [.lit (.bool false)], args := [d1, d2, d3, d4] }
  | _ => none }
def MatrixPartsWrongFalsely : Prop := matrixPartsRow.holds Try.pinned (OpenSpec.ofChange matrixPartsWrong)

/-- 'almucantarlaw29.MatrixZenith': WHATEVER THE INPUT: true; the input reads as it did. -/
def matrixZenithSpec : ChangeSpec := { name := "matrixZenith", fn := fun _ => fun
  | [d1, d2, d3] => { results := [.lit (.bool true)], args := [d1, d2, d3] }
  | _ => none }
def matrixZenithRow : OpenClaim := { program := "ytcoopclgfimahaa", sum := "fe4191938038804d06b48c97c9c79cc2c04e14f8eb2e0e69d3bed9605a97937f", func := "almucantar/almucantarlaw29.MatrixZenith", spec := "matrixZenith", inPlace := ["math/bits.Add64", "math/bits.Sub64"], recurses := true, named := ["math/bits.divideError", "math/bits.overflowError"], apart := false }
def MatrixZenithSaid : Prop := matrixZenithRow.holds Try.pinned (OpenSpec.ofChange matrixZenithSpec)

/-- ITS FALSE NEIGHBOUR: 'it returns false'. Refute it at one input. -/
def matrixZenithWrong : ChangeSpec := { name := "matrixZenith", fn := fun _ => fun
  | [d1, d2, d3] => { results := [.lit (.bool false)], args := [d1, d2, d3] }
  | _ => none }
def MatrixZenithWrongFalsely : Prop := matrixZenithRow.holds Try.pinned (OpenSpec.ofChange matrixZenithWrong)

/-- 'almucantarlaw29.MatrixReturns': WHATEVER THE INPUT: true; the input reads as it did. -/
def matrixReturnsSpec : ChangeSpec := { name := "matrixReturns", fn := fun _ => fun
  | [d] => { results := [.lit (.bool true)], args := [d] }
  | _ => none }
def matrixReturnsRow : OpenClaim := { program := "ytcoopclgfimahaa", sum := "fe4191938038804d06b48c97c9c79cc2c04e14f8eb2e0e69d3bed9605a97937f", func := "almucantar/almucantarlaw29.MatrixReturns", spec := "matrixReturns", inPlace := ["math/bits.Add64", "math/bits.Sub64"], recurses := true, named := ["math/bits.divideError", "math/bits.overflowError"], apart := false }
def MatrixReturnsSaid : Prop := matrixReturnsRow.holds Try.pinned (OpenSpec.ofChange matrixReturnsSpec)

/-- ITS FALSE NEIGHBOUR: 'it returns false'. Refute it at one input. -/
def matrixReturnsWrong : ChangeSpec := { name := "matrixReturns", fn := fun _ => fun
  | [d] => { results := [.lit (.bool false)], args := [d] }
  | _ => none }
def MatrixReturnsWrongFalsely : Prop := matrixReturnsRow.holds Try.pinned (OpenSpec.ofChange matrixReturnsWrong)

/-- 'almucantarlaw27.AgetonMeets': WHATEVER THE INPUT: true; the input reads as it did. -/
def agetonMeetsSpec : ChangeSpec := { name := "agetonMeets", fn := fun _ => fun
  | [d] => { results := [.lit (.bool true)], args := [d] }
  | _ => none }
def agetonMeetsRow : OpenClaim := { program := "ytcoopclgfimahaa", sum := "fe4191938038804d06b48c97c9c79cc2c04e14f8eb2e0e69d3bed9605a97937f", func := "almucantar/almucantarlaw27.AgetonMeets", spec := "agetonMeets", inPlace := ["math/bits.Add64", "math/bits.Sub64"], recurses := true, named := ["math/bits.divideError", "math/bits.overflowError"], apart := false }
def AgetonMeetsSaid : Prop := agetonMeetsRow.holds Try.pinned (OpenSpec.ofChange agetonMeetsSpec)

/-- ITS FALSE NEIGHBOUR: 'it returns false'. Refute it at one input. -/
def agetonMeetsWrong : ChangeSpec := { name := "agetonMeets", fn := fun _ => fun
  | [d] => { results := [.lit (.bool false)], args := [d] }
  | _ => none }
def AgetonMeetsWrongFalsely : Prop := agetonMeetsRow.holds Try.pinned (OpenSpec.ofChange agetonMeetsWrong)

/-- 'almucantarlaw29.MatrixMeets': WHATEVER THE INPUT: true; the input reads as it did. -/
def matrixMeetsSpec : ChangeSpec := { name := "matrixMeets", fn := fun _ => fun
  | [d] => { results := [.lit (.bool true)], args := [d] }
  | _ => none }
def matrixMeetsRow : OpenClaim := { program := "ytcoopclgfimahaa", sum := "fe4191938038804d06b48c97c9c79cc2c04e14f8eb2e0e69d3bed9605a97937f", func := "almucantar/almucantarlaw29.MatrixMeets", spec := "matrixMeets", inPlace := ["math/bits.Add64", "math/bits.Sub64"], recurses := true, named := ["math/bits.divideError", "math/bits.overflowError"], apart := false }
def MatrixMeetsSaid : Prop := matrixMeetsRow.holds Try.pinned (OpenSpec.ofChange matrixMeetsSpec)

/-- ITS FALSE NEIGHBOUR: 'it returns false'. Refute it at one input. -/
def matrixMeetsWrong : ChangeSpec := { name := "matrixMeets", fn := fun _ => fun
  | [d] => { results := [.lit (.bool false)], args := [d] }
  | _ => none }
def MatrixMeetsWrongFalsely : Prop := matrixMeetsRow.holds Try.pinned (OpenSpec.ofChange matrixMeetsWrong)

/-- 'almucantarlaw26.HaversineMeets': WHATEVER THE INPUT: true; the input reads as it did. -/
def haversineMeetsSpec : ChangeSpec := { name := "haversineMeets", fn := fun _ => fun
  | [d] => { results := [.lit (.bool true)], args := [d] }
  | _ => none }
def haversineMeetsRow : OpenClaim := { program := "ytcoopclgfimahaa", sum := "fe4191938038804d06b48c97c9c79cc2c04e14f8eb2e0e69d3bed9605a97937f", func := "almucantar/almucantarlaw26.HaversineMeets", spec := "haversineMeets", inPlace := ["math/bits.Add64", "math/bits.Sub64"], recurses := true, named := ["math/bits.divideError", "math/bits.overflowError"], apart := false }
def HaversineMeetsSaid : Prop := haversineMeetsRow.holds Try.pinned (OpenSpec.ofChange haversineMeetsSpec)

/-- ITS FALSE NEIGHBOUR: 'it returns false'. Refute it at one input. -/
def haversineMeetsWrong : ChangeSpec := { name := "haversineMeets", fn := fun _ => fun
  | [d] => { results := [.lit (.bool false)], args := [d] }
  | _ => none }
def HaversineMeetsWrongFalsely : Prop := haversineMeetsRow.holds Try.pinned (OpenSpec.ofChange haversineMeetsWrong)

/-- 'almucantarlaw26.HaversineParts': WHATEVER THE INPUT: true; the input reads as it did. -/
def haversinePartsSpec : ChangeSpec := { name := "haversineParts", fn := fun _ => fun
  | [d1, d2, d3, d4] => { results := [.lit (.bool true)], args := [d1, d2, d3, d4] }
  | _ => none }
def haversinePartsRow : OpenClaim := { program := "ytcoopclgfimahaa", sum := "fe4191938038804d06b48c97c9c79cc2c04e14f8eb2e0e69d3bed9605a97937f", func := "almucantar/almucantarlaw26.HaversineParts", spec := "haversineParts", inPlace := ["math/bits.Add64", "math/bits.Sub64"], unfollowed := true, recurses := true, named := ["math/bits.divideError", "math/bits.overflowError"], apart := false }
def HaversinePartsSaid : Prop := haversinePartsRow.holds Try.pinned (OpenSpec.ofChange haversinePartsSpec)

/-- ITS FALSE NEIGHBOUR: 'it returns false'. Refute it at one input. -/
def haversinePartsWrong : ChangeSpec := { name := "haversineParts", fn := fun _ => fun
  | [d1, d2, d3, d4] => { results := [.lit (.bool false)], args := [d1, d2, d3, d4] }
  | _ => none }
def HaversinePartsWrongFalsely : Prop := haversinePartsRow.holds Try.pinned (OpenSpec.ofChange haversinePartsWrong)

/- THE SECOND FORM. 'bulk': how many values and letters a reading holds, each counted each time it is reached (what is shared counts as often as it is met; a slice's spare places count too). A statement '..UptoSaid' is the law's where the arguments, and the package variables that the reading takes, are together of bulk at most 1048576: NARROWER than '..Said'. Prove '..Said' where nothing that the law and all that it calls make is longer than what came in: it says more and counts as full. Else prove '..UptoSaid'. A law counts once. -/
mutual
def uptoBulk {H : Type} : DataW H → Nat
  | .lit (.string bytes) => bytes.length + 1
  | .lit _ => 1
  | .nil => 1
  | .ptr d => uptoBulk d + 1
  | .slice elems spare => uptoBulkAll elems + uptoBulkAll spare + 1
  | .agg parts => uptoBulkAll parts + 1
  | .iface _ d => uptoBulk d + 1
  | .map entries => uptoBulkEntries entries + 1
  | .held _ => 1
def uptoBulkAll {H : Type} : List (DataW H) → Nat
  | [] => 0
  | d :: r => uptoBulk d + uptoBulkAll r
def uptoBulkEntries {H : Type} : List (Lit × DataW H) → Nat
  | [] => 0
  | x :: r => uptoBulkEntry x + uptoBulkEntries r
def uptoBulkEntry {H : Type} : Lit × DataW H → Nat
  | (.string bytes, d) => bytes.length + uptoBulk d + 1
  | (_, d) => uptoBulk d + 1
 end
def uptoSmall : (H : Type) → List (DataW H) → Bool := fun _ ds => decide (uptoBulkAll ds ≤ 1048576)
def OpenSpec.upto (s : _root_.Go.ChangeSpec) : _root_.Go.OpenSpec := { _root_.Go.OpenSpec.ofChange s with cond := some uptoSmall }

/-- 'almucantarlaw27.AgetonContains', WHERE WHAT IT READS IS OF BULK AT MOST 1048576: true; the input reads as it did. -/
def agetonContainsUptoRow : OpenClaim := { program := "ytcoopclgfimahaa", sum := "fe4191938038804d06b48c97c9c79cc2c04e14f8eb2e0e69d3bed9605a97937f", func := "almucantar/almucantarlaw27.AgetonContains", spec := "agetonContains", inPlace := ["math/bits.Add64", "math/bits.Sub64"], recurses := true, named := ["math/bits.divideError", "math/bits.overflowError"], apart := false, narrowed := true }
def AgetonContainsUptoSaid : Prop := agetonContainsUptoRow.holds Try.pinned (OpenSpec.upto agetonContainsSpec)

/-- 'almucantarlaw27.AgetonBack', WHERE WHAT IT READS IS OF BULK AT MOST 1048576: true; the input reads as it did. -/
def agetonBackUptoRow : OpenClaim := { program := "ytcoopclgfimahaa", sum := "fe4191938038804d06b48c97c9c79cc2c04e14f8eb2e0e69d3bed9605a97937f", func := "almucantar/almucantarlaw27.AgetonBack", spec := "agetonBack", inPlace := ["math/bits.Add64", "math/bits.Sub64"], recurses := true, named := ["math/bits.divideError", "math/bits.overflowError"], apart := false, narrowed := true }
def AgetonBackUptoSaid : Prop := agetonBackUptoRow.holds Try.pinned (OpenSpec.upto agetonBackSpec)

/-- 'almucantarlaw27.AgetonMirrors', WHERE WHAT IT READS IS OF BULK AT MOST 1048576: true; the input reads as it did. -/
def agetonMirrorsUptoRow : OpenClaim := { program := "ytcoopclgfimahaa", sum := "fe4191938038804d06b48c97c9c79cc2c04e14f8eb2e0e69d3bed9605a97937f", func := "almucantar/almucantarlaw27.AgetonMirrors", spec := "agetonMirrors", inPlace := ["math/bits.Add64", "math/bits.Sub64"], recurses := true, named := ["math/bits.divideError", "math/bits.overflowError"], apart := false, narrowed := true }
def AgetonMirrorsUptoSaid : Prop := agetonMirrorsUptoRow.holds Try.pinned (OpenSpec.upto agetonMirrorsSpec)

/-- 'almucantarlaw27.AgetonReflects', WHERE WHAT IT READS IS OF BULK AT MOST 1048576: true; the input reads as it did. -/
def agetonReflectsUptoRow : OpenClaim := { program := "ytcoopclgfimahaa", sum := "fe4191938038804d06b48c97c9c79cc2c04e14f8eb2e0e69d3bed9605a97937f", func := "almucantar/almucantarlaw27.AgetonReflects", spec := "agetonReflects", inPlace := ["math/bits.Add64", "math/bits.Sub64"], recurses := true, named := ["math/bits.divideError", "math/bits.overflowError"], apart := false, narrowed := true }
def AgetonReflectsUptoSaid : Prop := agetonReflectsUptoRow.holds Try.pinned (OpenSpec.upto agetonReflectsSpec)

/-- 'almucantarlaw29.MatrixParts', WHERE WHAT IT READS IS OF BULK AT MOST 1048576: true; the input reads as it did. -/
def matrixPartsUptoRow : OpenClaim := { program := "ytcoopclgfimahaa", sum := "fe4191938038804d06b48c97c9c79cc2c04e14f8eb2e0e69d3bed9605a97937f", func := "almucantar/almucantarlaw29.MatrixParts", spec := "matrixParts", inPlace := ["math/bits.Add64", "math/bits.Sub64"], unfollowed := true, recurses := true, named := ["math/bits.divideError", "math/bits.overflowError"], apart := false, narrowed := true }
def MatrixPartsUptoSaid : Prop := matrixPartsUptoRow.holds Try.pinned (OpenSpec.upto matrixPartsSpec)

/-- 'almucantarlaw29.MatrixZenith', WHERE WHAT IT READS IS OF BULK AT MOST 1048576: true; the input reads as it did. -/
def matrixZenithUptoRow : OpenClaim := { program := "ytcoopclgfimahaa", sum := "fe4191938038804d06b48c97c9c79cc2c04e14f8eb2e0e69d3bed9605a97937f", func := "almucantar/almucantarlaw29.MatrixZenith", spec := "matrixZenith", inPlace := ["math/bits.Add64", "math/bits.Sub64"], recurses := true, named := ["math/bits.divideError", "math/bits.overflowError"], apart := false, narrowed := true }
def MatrixZenithUptoSaid : Prop := matrixZenithUptoRow.holds Try.pinned (OpenSpec.upto matrixZenithSpec)

/-- 'almucantarlaw29.MatrixReturns', WHERE WHAT IT READS IS OF BULK AT MOST 1048576: true; the input reads as it did. -/
def matrixReturnsUptoRow : OpenClaim := { program := "ytcoopclgfimahaa", sum := "fe4191938038804d06b48c97c9c79cc2c04e14f8eb2e0e69d3bed9605a97937f", func := "almucantar/almucantarlaw29.MatrixReturns", spec := "matrixReturns", inPlace := ["math/bits.Add64", "math/bits.Sub64"], recurses := true, named := ["math/bits.divideError", "math/bits.overflowError"], apart := false, narrowed := true }
def MatrixReturnsUptoSaid : Prop := matrixReturnsUptoRow.holds Try.pinned (OpenSpec.upto matrixReturnsSpec)

/-- 'almucantarlaw27.AgetonMeets', WHERE WHAT IT READS IS OF BULK AT MOST 1048576: true; the input reads as it did. -/
def agetonMeetsUptoRow : OpenClaim := { program := "ytcoopclgfimahaa", sum := "fe4191938038804d06b48c97c9c79cc2c04e14f8eb2e0e69d3bed9605a97937f", func := "almucantar/almucantarlaw27.AgetonMeets", spec := "agetonMeets", inPlace := ["math/bits.Add64", "math/bits.Sub64"], recurses := true, named := ["math/bits.divideError", "math/bits.overflowError"], apart := false, narrowed := true }
def AgetonMeetsUptoSaid : Prop := agetonMeetsUptoRow.holds Try.pinned (OpenSpec.upto agetonMeetsSpec)

/-- 'almucantarlaw29.MatrixMeets', WHERE WHAT IT READS IS OF BULK AT MOST 1048576: true; the input reads as it did. -/
def matrixMeetsUptoRow : OpenClaim := { program := "ytcoopclgfimahaa", sum := "fe4191938038804d06b48c97c9c79cc2c04e14f8eb2e0e69d3bed9605a97937f", func := "almucantar/almucantarlaw29.MatrixMeets", spec := "matrixMeets", inPlace := ["math/bits.Add64", "math/bits.Sub64"], recurses := true, named := ["math/bits.divideError", "math/bits.overflowError"], apart := false, narrowed := true }
def MatrixMeetsUptoSaid : Prop := matrixMeetsUptoRow.holds Try.pinned (OpenSpec.upto matrixMeetsSpec)

/-- 'almucantarlaw26.HaversineMeets', WHERE WHAT IT READS IS OF BULK AT MOST 1048576: true; the input reads as it did. -/
def haversineMeetsUptoRow : OpenClaim := { program := "ytcoopclgfimahaa", sum := "fe4191938038804d06b48c97c9c79cc2c04e14f8eb2e0e69d3bed9605a97937f", func := "almucantar/almucantarlaw26.HaversineMeets", spec := "haversineMeets", inPlace := ["math/bits.Add64", "math/bits.Sub64"], recurses := true, named := ["math/bits.divideError", "math/bits.overflowError"], apart := false, narrowed := true }
def HaversineMeetsUptoSaid : Prop := haversineMeetsUptoRow.holds Try.pinned (OpenSpec.upto haversineMeetsSpec)

/-- 'almucantarlaw26.HaversineParts', WHERE WHAT IT READS IS OF BULK AT MOST 1048576: true; the input reads as it did. -/
def haversinePartsUptoRow : OpenClaim := { program := "ytcoopclgfimahaa", sum := "fe4191938038804d06b48c97c9c79cc2c04e14f8eb2e0e69d3bed9605a97937f", func := "almucantar/almucantarlaw26.HaversineParts", spec := "haversineParts", inPlace := ["math/bits.Add64", "math/bits.Sub64"], unfollowed := true, recurses := true, named := ["math/bits.divideError", "math/bits.overflowError"], apart := false, narrowed := true }
def HaversinePartsUptoSaid : Prop := haversinePartsUptoRow.holds Try.pinned (OpenSpec.upto haversinePartsSpec)

end Rows
end Go.Proofs.Ytcoopclgfimahaa

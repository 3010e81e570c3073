/-
  No cell of these rows narrows 'for every input' (looked for: loops, veiled, ifaces, maps, wideKeys, modest, calm, conditions, laid).
  DERIVED. THE GIVEN ROWS OF THIS SEAT. 7 by the template 'for every input the law returns true; each argument reads behind the call as it read before'; 0 by the template 'total and deterministic' (their statements: YtkjnheahaimpoaaGreatTotals.lean).
  GIVEN WITH THE SEED: the statements are not yours to turn. If you find one false, say at which input.
  Laid BY PROGRAM, IN A SANDBOX (cutbox-rows.mjs): the forced cells as the released guide's own fill.sh prints them over the translation 3499d3e2a3a6044b… (all of the seat's roots in one cut). By AI agents, Wed Nov 11 2026. No macro, syntax, notation, axiom, sorry.
-/
import Derived.Test.YtkjnheahaimpoaaGreatChecked
import GoSem.Claim
import GoSem.ClaimJoined
import GoSem.ClaimMapViews
import Derived.JoinedTies
import Derived.KernelRfl
namespace Go.Proofs.YtkjnheahaimpoaaGreat
/- THE CELL 'sum', in the pinned program and in every row, IS THE sha256 OF THE DUMP (.gsa) THAT YtkjnheahaimpoaaGreatProg.lean LOADS. Nothing in Lean hashes anything: it is a label: what it is worth is what the hold of that sum in a sandbox is worth. -/
noncomputable def Tryz.pinned : Pinned := { name := "ytkjnheahaimpoaagreat", sum := "3499d3e2a3a6044b4af8a1677633854c87ab6697db82dd8a3c6424ed0436ba87", checked := Tryz.checked }
namespace Rows
def none {H : Type} : Left H := { results := [], args := [] }

/-- 'almucantarlaw35.CirclesParts': WHATEVER THE INPUT: true; the input reads as it did. -/
def circlesPartsSpec : ChangeSpec := { name := "circlesParts", fn := fun _ => fun
  | [d1, d2, d3, d4] => { results := [.lit (.bool true)], args := [d1, d2, d3, d4] }
  | _ => none }
def circlesPartsRow : OpenClaim := { program := "ytkjnheahaimpoaagreat", sum := "3499d3e2a3a6044b4af8a1677633854c87ab6697db82dd8a3c6424ed0436ba87", func := "almucantar/almucantarlaw35.CirclesParts", spec := "circlesParts", inPlace := ["math/bits.Add64", "math/bits.Sub64"], unfollowed := true, recurses := true, named := ["math/bits.divideError", "math/bits.overflowError"], apart := false }
def CirclesPartsSaid : Prop := circlesPartsRow.holds Tryz.pinned (OpenSpec.ofChange circlesPartsSpec)

/-- ITS FALSE NEIGHBOUR: 'it returns false'. Refute it at one input. -/
def circlesPartsWrong : ChangeSpec := { name := "circlesParts", fn := fun _ => fun
  | [d1, d2, d3, d4] => { results := [.lit (.bool false)], args := [d1, d2, d3, d4] }
  | _ => none }
def CirclesPartsWrongFalsely : Prop := circlesPartsRow.holds Tryz.pinned (OpenSpec.ofChange circlesPartsWrong)

/-- 'almucantarlaw35.CirclesAltitudes': WHATEVER THE INPUT: true; the input reads as it did. -/
def circlesAltitudesSpec : ChangeSpec := { name := "circlesAltitudes", fn := fun _ => fun
  | [d1, d2, d3] => { results := [.lit (.bool true)], args := [d1, d2, d3] }
  | _ => none }
def circlesAltitudesRow : OpenClaim := { program := "ytkjnheahaimpoaagreat", sum := "3499d3e2a3a6044b4af8a1677633854c87ab6697db82dd8a3c6424ed0436ba87", func := "almucantar/almucantarlaw35.CirclesAltitudes", spec := "circlesAltitudes", inPlace := ["math/bits.Add64", "math/bits.Sub64"], recurses := true, named := ["math/bits.divideError", "math/bits.overflowError"], apart := false }
def CirclesAltitudesSaid : Prop := circlesAltitudesRow.holds Tryz.pinned (OpenSpec.ofChange circlesAltitudesSpec)

/-- ITS FALSE NEIGHBOUR: 'it returns false'. Refute it at one input. -/
def circlesAltitudesWrong : ChangeSpec := { name := "circlesAltitudes", fn := fun _ => fun
  | [d1, d2, d3] => { results := [.lit (.bool false)], args := [d1, d2, d3] }
  | _ => none }
def CirclesAltitudesWrongFalsely : Prop := circlesAltitudesRow.holds Tryz.pinned (OpenSpec.ofChange circlesAltitudesWrong)

/-- 'almucantarlaw35.CirclesBounds': WHATEVER THE INPUT: true; the input reads as it did. -/
def circlesBoundsSpec : ChangeSpec := { name := "circlesBounds", fn := fun _ => fun
  | [d1, d2] => { results := [.lit (.bool true)], args := [d1, d2] }
  | _ => none }
def circlesBoundsRow : OpenClaim := { program := "ytkjnheahaimpoaagreat", sum := "3499d3e2a3a6044b4af8a1677633854c87ab6697db82dd8a3c6424ed0436ba87", func := "almucantar/almucantarlaw35.CirclesBounds", spec := "circlesBounds", inPlace := ["math/bits.Add64", "math/bits.Sub64"], recurses := true, named := ["math/bits.divideError", "math/bits.overflowError"], apart := false }
def CirclesBoundsSaid : Prop := circlesBoundsRow.holds Tryz.pinned (OpenSpec.ofChange circlesBoundsSpec)

/-- ITS FALSE NEIGHBOUR: 'it returns false'. Refute it at one input. -/
def circlesBoundsWrong : ChangeSpec := { name := "circlesBounds", fn := fun _ => fun
  | [d1, d2] => { results := [.lit (.bool false)], args := [d1, d2] }
  | _ => none }
def CirclesBoundsWrongFalsely : Prop := circlesBoundsRow.holds Tryz.pinned (OpenSpec.ofChange circlesBoundsWrong)

/-- 'almucantarlaw35.CirclesOn': WHATEVER THE INPUT: true; the input reads as it did. -/
def circlesOnSpec : ChangeSpec := { name := "circlesOn", fn := fun _ => fun
  | [d1, d2] => { results := [.lit (.bool true)], args := [d1, d2] }
  | _ => none }
def circlesOnRow : OpenClaim := { program := "ytkjnheahaimpoaagreat", sum := "3499d3e2a3a6044b4af8a1677633854c87ab6697db82dd8a3c6424ed0436ba87", func := "almucantar/almucantarlaw35.CirclesOn", spec := "circlesOn", inPlace := ["math/bits.Add64", "math/bits.Sub64"], recurses := true, named := ["math/bits.divideError", "math/bits.overflowError"], apart := false }
def CirclesOnSaid : Prop := circlesOnRow.holds Tryz.pinned (OpenSpec.ofChange circlesOnSpec)

/-- ITS FALSE NEIGHBOUR: 'it returns false'. Refute it at one input. -/
def circlesOnWrong : ChangeSpec := { name := "circlesOn", fn := fun _ => fun
  | [d1, d2] => { results := [.lit (.bool false)], args := [d1, d2] }
  | _ => none }
def CirclesOnWrongFalsely : Prop := circlesOnRow.holds Tryz.pinned (OpenSpec.ofChange circlesOnWrong)

/-- 'almucantarlaw36.CrossingHolds': WHATEVER THE INPUT: true; the input reads as it did. -/
def crossingHoldsSpec : ChangeSpec := { name := "crossingHolds", fn := fun _ => fun
  | [d1, d2, d3, d4] => { results := [.lit (.bool true)], args := [d1, d2, d3, d4] }
  | _ => none }
def crossingHoldsRow : OpenClaim := { program := "ytkjnheahaimpoaagreat", sum := "3499d3e2a3a6044b4af8a1677633854c87ab6697db82dd8a3c6424ed0436ba87", func := "almucantar/almucantarlaw36.CrossingHolds", spec := "crossingHolds", inPlace := ["math/bits.Add64", "math/bits.Sub64"], unfollowed := true, recurses := true, named := ["math/bits.divideError", "math/bits.overflowError"], apart := false }
def CrossingHoldsSaid : Prop := crossingHoldsRow.holds Tryz.pinned (OpenSpec.ofChange crossingHoldsSpec)

/-- ITS FALSE NEIGHBOUR: 'it returns false'. Refute it at one input. -/
def crossingHoldsWrong : ChangeSpec := { name := "crossingHolds", fn := fun _ => fun
  | [d1, d2, d3, d4] => { results := [.lit (.bool false)], args := [d1, d2, d3, d4] }
  | _ => none }
def CrossingHoldsWrongFalsely : Prop := crossingHoldsRow.holds Tryz.pinned (OpenSpec.ofChange crossingHoldsWrong)

/-- 'almucantarlaw36.CrossingOn': WHATEVER THE INPUT: true; the input reads as it did. -/
def crossingOnSpec : ChangeSpec := { name := "crossingOn", fn := fun _ => fun
  | [d1, d2] => { results := [.lit (.bool true)], args := [d1, d2] }
  | _ => none }
def crossingOnRow : OpenClaim := { program := "ytkjnheahaimpoaagreat", sum := "3499d3e2a3a6044b4af8a1677633854c87ab6697db82dd8a3c6424ed0436ba87", func := "almucantar/almucantarlaw36.CrossingOn", spec := "crossingOn", inPlace := ["math/bits.Add64", "math/bits.Sub64"], unfollowed := true, recurses := true, named := ["math/bits.divideError", "math/bits.overflowError"], apart := false }
def CrossingOnSaid : Prop := crossingOnRow.holds Tryz.pinned (OpenSpec.ofChange crossingOnSpec)

/-- ITS FALSE NEIGHBOUR: 'it returns false'. Refute it at one input. -/
def crossingOnWrong : ChangeSpec := { name := "crossingOn", fn := fun _ => fun
  | [d1, d2] => { results := [.lit (.bool false)], args := [d1, d2] }
  | _ => none }
def CrossingOnWrongFalsely : Prop := crossingOnRow.holds Tryz.pinned (OpenSpec.ofChange crossingOnWrong)

/-- 'almucantarlaw36.CrossingExchanged': WHATEVER THE INPUT: true; the input reads as it did. -/
def crossingExchangedSpec : ChangeSpec := { name := "crossingExchanged", fn := fun _ => fun
  | [d1, d2, d3, d4, d5] => { results := [.lit (.bool true)], args := [d1, d2, d3, d4, d5] }
  | _ => none }
def crossingExchangedRow : OpenClaim := { program := "ytkjnheahaimpoaagreat", sum := "3499d3e2a3a6044b4af8a1677633854c87ab6697db82dd8a3c6424ed0436ba87", func := "almucantar/almucantarlaw36.CrossingExchanged", spec := "crossingExchanged", inPlace := ["math/bits.Add64", "math/bits.Sub64"], unfollowed := true, recurses := true, named := ["math/bits.divideError", "math/bits.overflowError"], apart := false }
def CrossingExchangedSaid : Prop := crossingExchangedRow.holds Tryz.pinned (OpenSpec.ofChange crossingExchangedSpec)

/-- ITS FALSE NEIGHBOUR: 'it returns false'. Refute it at one input. -/
def crossingExchangedWrong : ChangeSpec := { name := "crossingExchanged", fn := fun _ => fun
  | [d1, d2, d3, d4, d5] => { results := [.lit (.bool false)], args := [d1, d2, d3, d4, d5] }
  | _ => none }
def CrossingExchangedWrongFalsely : Prop := crossingExchangedRow.holds Tryz.pinned (OpenSpec.ofChange crossingExchangedWrong)

/- THE SECOND FORM. 'bulk': how many values and letters a reading holds, each counted each time it is reached (what is shared counts as often as it is met; a slice's spare places count too). A statement '..UptoSaid' is the law's where the arguments, and the package variables that the reading takes, are together of bulk at most 1048576: NARROWER than '..Said'. Prove '..Said' where nothing that the law and all that it calls make is longer than what came in: it says more and counts as full. Else prove '..UptoSaid'. A law counts once. -/
mutual
def uptoBulk {H : Type} : DataW H → Nat
  | .lit (.string bytes) => bytes.length + 1
  | .lit _ => 1
  | .nil => 1
  | .ptr d => uptoBulk d + 1
  | .slice elems spare => uptoBulkAll elems + uptoBulkAll spare + 1
  | .agg parts => uptoBulkAll parts + 1
  | .iface _ d => uptoBulk d + 1
  | .map entries => uptoBulkEntries entries + 1
  | .held _ => 1
def uptoBulkAll {H : Type} : List (DataW H) → Nat
  | [] => 0
  | d :: r => uptoBulk d + uptoBulkAll r
def uptoBulkEntries {H : Type} : List (Lit × DataW H) → Nat
  | [] => 0
  | x :: r => uptoBulkEntry x + uptoBulkEntries r
def uptoBulkEntry {H : Type} : Lit × DataW H → Nat
  | (.string bytes, d) => bytes.length + uptoBulk d + 1
  | (_, d) => uptoBulk d + 1
 end
def uptoSmall : (H : Type) → List (DataW H) → Bool := fun _ ds => decide (uptoBulkAll ds ≤ 1048576)
def OpenSpec.upto (s : _root_.Go.ChangeSpec) : _root_.Go.OpenSpec := { _root_.Go.OpenSpec.ofChange s with cond := some uptoSmall }

/-- 'almucantarlaw35.CirclesParts', WHERE WHAT IT READS IS OF BULK AT MOST 1048576: true; the input reads as it did. -/
def circlesPartsUptoRow : OpenClaim := { program := "ytkjnheahaimpoaagreat", sum := "3499d3e2a3a6044b4af8a1677633854c87ab6697db82dd8a3c6424ed0436ba87", func := "almucantar/almucantarlaw35.CirclesParts", spec := "circlesParts", inPlace := ["math/bits.Add64", "math/bits.Sub64"], unfollowed := true, recurses := true, named := ["math/bits.divideError", "math/bits.overflowError"], apart := false, narrowed := true }
def CirclesPartsUptoSaid : Prop := circlesPartsUptoRow.holds Tryz.pinned (OpenSpec.upto circlesPartsSpec)

/-- 'almucantarlaw35.CirclesAltitudes', WHERE WHAT IT READS IS OF BULK AT MOST 1048576: true; the input reads as it did. -/
def circlesAltitudesUptoRow : OpenClaim := { program := "ytkjnheahaimpoaagreat", sum := "3499d3e2a3a6044b4af8a1677633854c87ab6697db82dd8a3c6424ed0436ba87", func := "almucantar/almucantarlaw35.CirclesAltitudes", spec := "circlesAltitudes", inPlace := ["math/bits.Add64", "math/bits.Sub64"], recurses := true, named := ["math/bits.divideError", "math/bits.overflowError"], apart := false, narrowed := true }
def CirclesAltitudesUptoSaid : Prop := circlesAltitudesUptoRow.holds Tryz.pinned (OpenSpec.upto circlesAltitudesSpec)

/-- 'almucantarlaw35.CirclesBounds', WHERE WHAT IT READS IS OF BULK AT MOST 1048576: true; the input reads as it did. -/
def circlesBoundsUptoRow : OpenClaim := { program := "ytkjnheahaimpoaagreat", sum := "3499d3e2a3a6044b4af8a1677633854c87ab6697db82dd8a3c6424ed0436ba87", func := "almucantar/almucantarlaw35.CirclesBounds", spec := "circlesBounds", inPlace := ["math/bits.Add64", "math/bits.Sub64"], recurses := true, named := ["math/bits.divideError", "math/bits.overflowError"], apart := false, narrowed := true }
def CirclesBoundsUptoSaid : Prop := circlesBoundsUptoRow.holds Tryz.pinned (OpenSpec.upto circlesBoundsSpec)

/-- 'almucantarlaw35.CirclesOn', WHERE WHAT IT READS IS OF BULK AT MOST 1048576: true; the input reads as it did. -/
def circlesOnUptoRow : OpenClaim := { program := "ytkjnheahaimpoaagreat", sum := "3499d3e2a3a6044b4af8a1677633854c87ab6697db82dd8a3c6424ed0436ba87", func := "almucantar/almucantarlaw35.CirclesOn", spec := "circlesOn", inPlace := ["math/bits.Add64", "math/bits.Sub64"], recurses := true, named := ["math/bits.divideError", "math/bits.overflowError"], apart := false, narrowed := true }
def CirclesOnUptoSaid : Prop := circlesOnUptoRow.holds Tryz.pinned (OpenSpec.upto circlesOnSpec)

/-- 'almucantarlaw36.CrossingHolds', WHERE WHAT IT READS IS OF BULK AT MOST 1048576: true; the input reads as it did. -/
def crossingHoldsUptoRow : OpenClaim := { program := "ytkjnheahaimpoaagreat", sum := "3499d3e2a3a6044b4af8a1677633854c87ab6697db82dd8a3c6424ed0436ba87", func := "almucantar/almucantarlaw36.CrossingHolds", spec := "crossingHolds", inPlace := ["math/bits.Add64", "math/bits.Sub64"], unfollowed := true, recurses := true, named := ["math/bits.divideError", "math/bits.overflowError"], apart := false, narrowed := true }
def CrossingHoldsUptoSaid : Prop := crossingHoldsUptoRow.holds Tryz.pinned (OpenSpec.upto crossingHoldsSpec)

/-- 'almucantarlaw36.CrossingOn', WHERE WHAT IT READS IS OF BULK AT MOST 1048576: true; the input reads as it did. -/
def crossingOnUptoRow : OpenClaim := { program := "ytkjnheahaimpoaagreat", sum := "3499d3e2a3a6044b4af8a1677633854c87ab6697db82dd8a3c6424ed0436ba87", func := "almucantar/almucantarlaw36.CrossingOn", spec := "crossingOn", inPlace := ["math/bits.Add64", "math/bits.Sub64"], unfollowed := true, recurses := true, named := ["math/bits.divideError", "math/bits.overflowError"], apart := false, narrowed := true }
def CrossingOnUptoSaid : Prop := crossingOnUptoRow.holds Tryz.pinned (OpenSpec.upto crossingOnSpec)

/-- 'almucantarlaw36.CrossingExchanged', WHERE WHAT IT READS IS OF BULK AT MOST 1048576: true; the input reads as it did. -/
def crossingExchangedUptoRow : OpenClaim := { program := "ytkjnheahaimpoaagreat", sum := "3499d3e2a3a6044b4af8a1677633854c87ab6697db82dd8a3c6424ed0436ba87", func := "almucantar/almucantarlaw36.CrossingExchanged", spec := "crossingExchanged", inPlace := ["math/bits.Add64", "math/bits.Sub64"], unfollowed := true, recurses := true, named := ["math/bits.divideError", "math/bits.overflowError"], apart := false, narrowed := true }
def CrossingExchangedUptoSaid : Prop := crossingExchangedUptoRow.holds Tryz.pinned (OpenSpec.upto crossingExchangedSpec)

end Rows
end Go.Proofs.YtkjnheahaimpoaaGreat

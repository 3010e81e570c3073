/-
  No cell of these rows narrows 'for every input' (looked for: loops, veiled, ifaces, maps, wideKeys, modest, calm, conditions, laid).
  DERIVED. THE GIVEN ROWS OF THIS SEAT. 5 by the template 'for every input the law returns true; each argument reads behind the call as it read before'; 0 by the template 'total and deterministic' (their statements: YtcjkfchjcealbaaTotals.lean).
  GIVEN WITH THE SEED: the statements are not yours to turn. If you find one false, say at which input.
  Laid BY PROGRAM, IN A SANDBOX (cutbox-rows.mjs): the forced cells as the released guide's own fill.sh prints them over the translation 5563f362f602dcb1… (all of the seat's roots in one cut). By AI agents, Wed Nov 11 2026. No macro, syntax, notation, axiom, sorry.
-/
import Derived.Test.YtcjkfchjcealbaaChecked
import GoSem.Claim
import GoSem.ClaimJoined
import GoSem.ClaimMapViews
import Derived.JoinedTies
import Derived.KernelRfl
namespace Go.Proofs.Ytcjkfchjcealbaa
/- THE CELL 'sum', in the pinned program and in every row, IS THE sha256 OF THE DUMP (.gsa) THAT YtcjkfchjcealbaaProg.lean LOADS. Nothing in Lean hashes anything: it is a label: what it is worth is what the hold of that sum in a sandbox is worth. -/
noncomputable def Try.pinned : Pinned := { name := "ytcjkfchjcealbaa", sum := "5563f362f602dcb1f8156173ea04592b2fbe9133374983906315a41417b33662", checked := Try.checked }
namespace Rows
def none {H : Type} : Left H := { results := [], args := [] }

/-- 'almucantarlaw26.HaversineMeridian': WHATEVER THE INPUT: true; the input reads as it did. -/
def haversineMeridianSpec : ChangeSpec := { name := "haversineMeridian", fn := fun _ => fun
  | [d1, d2, d3] => { results := [.lit (.bool true)], args := [d1, d2, d3] }
  | _ => none }
def haversineMeridianRow : OpenClaim := { program := "ytcjkfchjcealbaa", sum := "5563f362f602dcb1f8156173ea04592b2fbe9133374983906315a41417b33662", func := "almucantar/almucantarlaw26.HaversineMeridian", spec := "haversineMeridian", inPlace := ["math/bits.Add64", "math/bits.Sub64"], unfollowed := true, recurses := true, named := ["math/bits.divideError", "math/bits.overflowError"], apart := false }
def HaversineMeridianSaid : Prop := haversineMeridianRow.holds Try.pinned (OpenSpec.ofChange haversineMeridianSpec)

/-- ITS FALSE NEIGHBOUR: 'it returns false'. Refute it at one input. -/
def haversineMeridianWrong : ChangeSpec := { name := "haversineMeridian", fn := fun _ => fun
  | [d1, d2, d3] => { results := [.lit (.bool false)], args := [d1, d2, d3] }
  | _ => none }
def HaversineMeridianWrongFalsely : Prop := haversineMeridianRow.holds Try.pinned (OpenSpec.ofChange haversineMeridianWrong)

/-- 'almucantarlaw26.HaversineZenith': WHATEVER THE INPUT: true; the input reads as it did. -/
def haversineZenithSpec : ChangeSpec := { name := "haversineZenith", fn := fun _ => fun
  | [d1, d2, d3] => { results := [.lit (.bool true)], args := [d1, d2, d3] }
  | _ => none }
def haversineZenithRow : OpenClaim := { program := "ytcjkfchjcealbaa", sum := "5563f362f602dcb1f8156173ea04592b2fbe9133374983906315a41417b33662", func := "almucantar/almucantarlaw26.HaversineZenith", spec := "haversineZenith", inPlace := ["math/bits.Add64", "math/bits.Sub64"], named := ["math/bits.divideError", "math/bits.overflowError"], apart := false }
def HaversineZenithSaid : Prop := haversineZenithRow.holds Try.pinned (OpenSpec.ofChange haversineZenithSpec)

/-- ITS FALSE NEIGHBOUR: 'it returns false'. Refute it at one input. -/
def haversineZenithWrong : ChangeSpec := { name := "haversineZenith", fn := fun _ => fun
  | [d1, d2, d3] => { results := [.lit (.bool false)], args := [d1, d2, d3] }
  | _ => none }
def HaversineZenithWrongFalsely : Prop := haversineZenithRow.holds Try.pinned (OpenSpec.ofChange haversineZenithWrong)

/-- 'almucantarlaw26.HaversineMirrors': WHATEVER THE INPUT: true; the input reads as it did. -/
def haversineMirrorsSpec : ChangeSpec := { name := "haversineMirrors", fn := fun _ => fun
  | [d] => { results := [.lit (.bool true)], args := [d] }
  | _ => none }
def haversineMirrorsRow : OpenClaim := { program := "ytcjkfchjcealbaa", sum := "5563f362f602dcb1f8156173ea04592b2fbe9133374983906315a41417b33662", func := "almucantar/almucantarlaw26.HaversineMirrors", spec := "haversineMirrors", inPlace := ["math/bits.Add64", "math/bits.Sub64"], unfollowed := true, recurses := true, named := ["math/bits.divideError", "math/bits.overflowError"], apart := false }
def HaversineMirrorsSaid : Prop := haversineMirrorsRow.holds Try.pinned (OpenSpec.ofChange haversineMirrorsSpec)

/-- ITS FALSE NEIGHBOUR: 'it returns false'. Refute it at one input. -/
def haversineMirrorsWrong : ChangeSpec := { name := "haversineMirrors", fn := fun _ => fun
  | [d] => { results := [.lit (.bool false)], args := [d] }
  | _ => none }
def HaversineMirrorsWrongFalsely : Prop := haversineMirrorsRow.holds Try.pinned (OpenSpec.ofChange haversineMirrorsWrong)

/-- 'almucantarlaw26.HaversineMeets': WHATEVER THE INPUT: true; the input reads as it did. -/
def haversineMeetsSpec : ChangeSpec := { name := "haversineMeets", fn := fun _ => fun
  | [d] => { results := [.lit (.bool true)], args := [d] }
  | _ => none }
def haversineMeetsRow : OpenClaim := { program := "ytcjkfchjcealbaa", sum := "5563f362f602dcb1f8156173ea04592b2fbe9133374983906315a41417b33662", func := "almucantar/almucantarlaw26.HaversineMeets", spec := "haversineMeets", inPlace := ["math/bits.Add64", "math/bits.Sub64"], recurses := true, named := ["math/bits.divideError", "math/bits.overflowError"], apart := false }
def HaversineMeetsSaid : Prop := haversineMeetsRow.holds Try.pinned (OpenSpec.ofChange haversineMeetsSpec)

/-- ITS FALSE NEIGHBOUR: 'it returns false'. Refute it at one input. -/
def haversineMeetsWrong : ChangeSpec := { name := "haversineMeets", fn := fun _ => fun
  | [d] => { results := [.lit (.bool false)], args := [d] }
  | _ => none }
def HaversineMeetsWrongFalsely : Prop := haversineMeetsRow.holds Try.pinned (OpenSpec.ofChange haversineMeetsWrong)

/-- 'almucantarlaw26.HaversineParts': WHATEVER THE INPUT: true; the input reads as it did. -/
def haversinePartsSpec : ChangeSpec := { name := "haversineParts", fn := fun _ => fun
  | [d1, d2, d3, d4] => { results := [.lit (.bool true)], args := [d1, d2, d3, d4] }
  | _ => none }
def haversinePartsRow : OpenClaim := { program := "ytcjkfchjcealbaa", sum := "5563f362f602dcb1f8156173ea04592b2fbe9133374983906315a41417b33662", func := "almucantar/almucantarlaw26.HaversineParts", spec := "haversineParts", inPlace := ["math/bits.Add64", "math/bits.Sub64"], unfollowed := true, recurses := true, named := ["math/bits.divideError", "math/bits.overflowError"], apart := false }
def HaversinePartsSaid : Prop := haversinePartsRow.holds Try.pinned (OpenSpec.ofChange haversinePartsSpec)

/-- ITS FALSE NEIGHBOUR: 'it returns false'. Refute it at one input. -/
def haversinePartsWrong : ChangeSpec := { name := "haversineParts", fn := fun _ => fun
  | [d1, d2, d3, d4] => { results := [.lit (.bool false)], args := [d1, d2, d3, d4] }
  | _ => none }
def HaversinePartsWrongFalsely : Prop := haversinePartsRow.holds Try.pinned (OpenSpec.ofChange haversinePartsWrong)

/- THE SECOND FORM. 'bulk': how many values and letters a reading holds, each counted each time it is reached (what is shared counts as often as it is met; a slice's spare places count too). A statement '..UptoSaid' is the law's where the arguments, and the package variables that the reading takes, are together of bulk at most 1048576: NARROWER than '..Said'. Prove '..Said' where nothing that the law and all that it calls make is longer than what came in: it says more and counts as full. Else prove '..UptoSaid'. A law counts once. -/
mutual
def uptoBulk {H : Type} : DataW H → Nat
  | .lit (.string bytes) => bytes.length + 1
  | .lit _ => 1
  | .nil => 1
  | .ptr d => uptoBulk d + 1
  | .slice elems spare => uptoBulkAll elems + uptoBulkAll spare + 1
  | .agg parts => uptoBulkAll parts + 1
  | .iface _ d => uptoBulk d + 1
  | .map entries => uptoBulkEntries entries + 1
  | .held _ => 1
def uptoBulkAll {H : Type} : List (DataW H) → Nat
  | [] => 0
  | d :: r => uptoBulk d + uptoBulkAll r
def uptoBulkEntries {H : Type} : List (Lit × DataW H) → Nat
  | [] => 0
  | x :: r => uptoBulkEntry x + uptoBulkEntries r
def uptoBulkEntry {H : Type} : Lit × DataW H → Nat
  | (.string bytes, d) => bytes.length + uptoBulk d + 1
  | (_, d) => uptoBulk d + 1
 end
def uptoSmall : (H : Type) → List (DataW H) → Bool := fun _ ds => decide (uptoBulkAll ds ≤ 1048576)
def OpenSpec.upto (s : _root_.Go.ChangeSpec) : _root_.Go.OpenSpec := { _root_.Go.OpenSpec.ofChange s with cond := some uptoSmall }

/-- 'almucantarlaw26.HaversineMeridian', WHERE WHAT IT READS IS OF BULK AT MOST 1048576: true; the input reads as it did. -/
def haversineMeridianUptoRow : OpenClaim := { program := "ytcjkfchjcealbaa", sum := "5563f362f602dcb1f8156173ea04592b2fbe9133374983906315a41417b33662", func := "almucantar/almucantarlaw26.HaversineMeridian", spec := "haversineMeridian", inPlace := ["math/bits.Add64", "math/bits.Sub64"], unfollowed := true, recurses := true, named := ["math/bits.divideError", "math/bits.overflowError"], apart := false, narrowed := true }
def HaversineMeridianUptoSaid : Prop := haversineMeridianUptoRow.holds Try.pinned (OpenSpec.upto haversineMeridianSpec)

/-- 'almucantarlaw26.HaversineZenith', WHERE WHAT IT READS IS OF BULK AT MOST 1048576: true; the input reads as it did. -/
def haversineZenithUptoRow : OpenClaim := { program := "ytcjkfchjcealbaa", sum := "5563f362f602dcb1f8156173ea04592b2fbe9133374983906315a41417b33662", func := "almucantar/almucantarlaw26.HaversineZenith", spec := "haversineZenith", inPlace := ["math/bits.Add64", "math/bits.Sub64"], named := ["math/bits.divideError", "math/bits.overflowError"], apart := false, narrowed := true }
def HaversineZenithUptoSaid : Prop := haversineZenithUptoRow.holds Try.pinned (OpenSpec.upto haversineZenithSpec)

/-- 'almucantarlaw26.HaversineMirrors', WHERE WHAT IT READS IS OF BULK AT MOST 1048576: true; the input reads as it did. -/
def haversineMirrorsUptoRow : OpenClaim := { program := "ytcjkfchjcealbaa", sum := "5563f362f602dcb1f8156173ea04592b2fbe9133374983906315a41417b33662", func := "almucantar/almucantarlaw26.HaversineMirrors", spec := "haversineMirrors", inPlace := ["math/bits.Add64", "math/bits.Sub64"], unfollowed := true, recurses := true, named := ["math/bits.divideError", "math/bits.overflowError"], apart := false, narrowed := true }
def HaversineMirrorsUptoSaid : Prop := haversineMirrorsUptoRow.holds Try.pinned (OpenSpec.upto haversineMirrorsSpec)

/-- 'almucantarlaw26.HaversineMeets', WHERE WHAT IT READS IS OF BULK AT MOST 1048576: true; the input reads as it did. -/
def haversineMeetsUptoRow : OpenClaim := { program := "ytcjkfchjcealbaa", sum := "5563f362f602dcb1f8156173ea04592b2fbe9133374983906315a41417b33662", func := "almucantar/almucantarlaw26.HaversineMeets", spec := "haversineMeets", inPlace := ["math/bits.Add64", "math/bits.Sub64"], recurses := true, named := ["math/bits.divideError", "math/bits.overflowError"], apart := false, narrowed := true }
def HaversineMeetsUptoSaid : Prop := haversineMeetsUptoRow.holds Try.pinned (OpenSpec.upto haversineMeetsSpec)

/-- 'almucantarlaw26.HaversineParts', WHERE WHAT IT READS IS OF BULK AT MOST 1048576: true; the input reads as it did. -/
def haversinePartsUptoRow : OpenClaim := { program := "ytcjkfchjcealbaa", sum := "5563f362f602dcb1f8156173ea04592b2fbe9133374983906315a41417b33662", func := "almucantar/almucantarlaw26.HaversineParts", spec := "haversineParts", inPlace := ["math/bits.Add64", "math/bits.Sub64"], unfollowed := true, recurses := true, named := ["math/bits.divideError", "math/bits.overflowError"], apart := false, narrowed := true }
def HaversinePartsUptoSaid : Prop := haversinePartsUptoRow.holds Try.pinned (OpenSpec.upto haversinePartsSpec)

end Rows
end Go.Proofs.Ytcjkfchjcealbaa

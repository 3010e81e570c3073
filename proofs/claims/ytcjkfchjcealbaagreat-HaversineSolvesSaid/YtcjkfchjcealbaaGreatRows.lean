/-
  No cell of these rows narrows 'for every input' (looked for: loops, veiled, ifaces, maps, wideKeys, modest, calm, conditions, laid).
  DERIVED. THE GIVEN ROWS OF THIS SEAT. 3 by the template 'for every input the law returns true; each argument reads behind the call as it read before'; 0 by the template 'total and deterministic' (their statements: YtcjkfchjcealbaaGreatTotals.lean).
  GIVEN WITH THE SEED: the statements are not yours to turn. If you find one false, say at which input.
  Laid BY PROGRAM, IN A SANDBOX (cutbox-rows.mjs): the forced cells as the released guide's own fill.sh prints them over the translation a16e99ecb9036b3b… (all of the seat's roots in one cut). By AI agents, Wed Nov 11 2026. No macro, syntax, notation, axiom, sorry.
-/
import Derived.Test.YtcjkfchjcealbaaGreatChecked
import GoSem.Claim
import GoSem.ClaimJoined
import GoSem.ClaimMapViews
import Derived.JoinedTies
import Derived.KernelRfl
namespace Go.Proofs.YtcjkfchjcealbaaGreat
/- THE CELL 'sum', in the pinned program and in every row, IS THE sha256 OF THE DUMP (.gsa) THAT YtcjkfchjcealbaaGreatProg.lean LOADS. Nothing in Lean hashes anything: it is a label: what it is worth is what the hold of that sum in a sandbox is worth. -/
noncomputable def Tryz.pinned : Pinned := { name := "ytcjkfchjcealbaagreat", sum := "a16e99ecb9036b3bc41b0fc59552063bc4fa6552422436c638f50ce5446165fc", checked := Tryz.checked }
namespace Rows
def none {H : Type} : Left H := { results := [], args := [] }

/-- 'almucantarlaw26.HaversineZeniths': WHATEVER THE INPUT: true; the input reads as it did. -/
def haversineZenithsSpec : ChangeSpec := { name := "haversineZeniths", fn := fun _ => fun
  | [d] => { results := [.lit (.bool true)], args := [d] }
  | _ => none }
def haversineZenithsRow : OpenClaim := { program := "ytcjkfchjcealbaagreat", sum := "a16e99ecb9036b3bc41b0fc59552063bc4fa6552422436c638f50ce5446165fc", func := "almucantar/almucantarlaw26.HaversineZeniths", spec := "haversineZeniths", inPlace := ["math/bits.Add64", "math/bits.Sub64"], recurses := true, named := ["math/bits.divideError", "math/bits.overflowError"], apart := false }
def HaversineZenithsSaid : Prop := haversineZenithsRow.holds Tryz.pinned (OpenSpec.ofChange haversineZenithsSpec)

/-- ITS FALSE NEIGHBOUR: 'it returns false'. Refute it at one input. -/
def haversineZenithsWrong : ChangeSpec := { name := "haversineZeniths", fn := fun _ => fun
  | [d] => { results := [.lit (.bool false)], args := [d] }
  | _ => none }
def HaversineZenithsWrongFalsely : Prop := haversineZenithsRow.holds Tryz.pinned (OpenSpec.ofChange haversineZenithsWrong)

/-- 'almucantarlaw26.HaversineAzimuths': WHATEVER THE INPUT: true; the input reads as it did. -/
def haversineAzimuthsSpec : ChangeSpec := { name := "haversineAzimuths", fn := fun _ => fun
  | [d1, d2] => { results := [.lit (.bool true)], args := [d1, d2] }
  | _ => none }
def haversineAzimuthsRow : OpenClaim := { program := "ytcjkfchjcealbaagreat", sum := "a16e99ecb9036b3bc41b0fc59552063bc4fa6552422436c638f50ce5446165fc", func := "almucantar/almucantarlaw26.HaversineAzimuths", spec := "haversineAzimuths", inPlace := ["math/bits.Add64", "math/bits.Sub64"], recurses := true, named := ["math/bits.divideError", "math/bits.overflowError"], apart := false }
def HaversineAzimuthsSaid : Prop := haversineAzimuthsRow.holds Tryz.pinned (OpenSpec.ofChange haversineAzimuthsSpec)

/-- ITS FALSE NEIGHBOUR: 'it returns false'. Refute it at one input. -/
def haversineAzimuthsWrong : ChangeSpec := { name := "haversineAzimuths", fn := fun _ => fun
  | [d1, d2] => { results := [.lit (.bool false)], args := [d1, d2] }
  | _ => none }
def HaversineAzimuthsWrongFalsely : Prop := haversineAzimuthsRow.holds Tryz.pinned (OpenSpec.ofChange haversineAzimuthsWrong)

/-- 'almucantarlaw26.HaversineSolves': WHATEVER THE INPUT: true; the input reads as it did. -/
def haversineSolvesSpec : ChangeSpec := { name := "haversineSolves", fn := fun _ => fun
  | [d] => { results := [.lit (.bool true)], args := [d] }
  | _ => none }
def haversineSolvesRow : OpenClaim := { program := "ytcjkfchjcealbaagreat", sum := "a16e99ecb9036b3bc41b0fc59552063bc4fa6552422436c638f50ce5446165fc", func := "almucantar/almucantarlaw26.HaversineSolves", spec := "haversineSolves", inPlace := ["math/bits.Add64", "math/bits.Sub64"], recurses := true, named := ["math/bits.divideError", "math/bits.overflowError"], apart := false }
def HaversineSolvesSaid : Prop := haversineSolvesRow.holds Tryz.pinned (OpenSpec.ofChange haversineSolvesSpec)

/-- ITS FALSE NEIGHBOUR: 'it returns false'. Refute it at one input. -/
def haversineSolvesWrong : ChangeSpec := { name := "haversineSolves", fn := fun _ => fun
  | [d] => { results := [.lit (.bool false)], args := [d] }
  | _ => none }
def HaversineSolvesWrongFalsely : Prop := haversineSolvesRow.holds Tryz.pinned (OpenSpec.ofChange haversineSolvesWrong)

/- THE SECOND FORM. 'bulk': how many values and letters a reading holds, each counted each time it is reached (what is shared counts as often as it is met; a slice's spare places count too). A statement '..UptoSaid' is the law's where the arguments, and the package variables that the reading takes, are together of bulk at most 1048576: NARROWER than '..Said'. Prove '..Said' where nothing that the law and all that it calls make is longer than what came in: it says more and counts as full. Else prove '..UptoSaid'. A law counts once. -/
mutual
def uptoBulk {H : Type} : DataW H → Nat
  | .lit (.string bytes) => bytes.length + 1
  | .lit _ => 1
  | .nil => 1
  | .ptr d => uptoBulk d + 1
  | .slice elems spare => uptoBulkAll elems + uptoBulkAll spare + 1
  | .agg parts => uptoBulkAll parts + 1
  | .iface _ d => uptoBulk d + 1
  | .map entries => uptoBulkEntries entries + 1
  | .held _ => 1
def uptoBulkAll {H : Type} : List (DataW H) → Nat
  | [] => 0
  | d :: r => uptoBulk d + uptoBulkAll r
def uptoBulkEntries {H : Type} : List (Lit × DataW H) → Nat
  | [] => 0
  | x :: r => uptoBulkEntry x + uptoBulkEntries r
def uptoBulkEntry {H : Type} : Lit × DataW H → Nat
  | (.string bytes, d) => bytes.length + uptoBulk d + 1
  | (_, d) => uptoBulk d + 1
 end
def uptoSmall : (H : Type) → List (DataW H) → Bool := fun _ ds => decide (uptoBulkAll ds ≤ 1048576)
def OpenSpec.upto (s : _root_.Go.ChangeSpec) : _root_.Go.OpenSpec := { _root_.Go.OpenSpec.ofChange s with cond := some uptoSmall }

/-- 'almucantarlaw26.HaversineZeniths', WHERE WHAT IT READS IS OF BULK AT MOST 1048576: true; the input reads as it did. -/
def haversineZenithsUptoRow : OpenClaim := { program := "ytcjkfchjcealbaagreat", sum := "a16e99ecb9036b3bc41b0fc59552063bc4fa6552422436c638f50ce5446165fc", func := "almucantar/almucantarlaw26.HaversineZeniths", spec := "haversineZeniths", inPlace := ["math/bits.Add64", "math/bits.Sub64"], recurses := true, named := ["math/bits.divideError", "math/bits.overflowError"], apart := false, narrowed := true }
def HaversineZenithsUptoSaid : Prop := haversineZenithsUptoRow.holds Tryz.pinned (OpenSpec.upto haversineZenithsSpec)

/-- 'almucantarlaw26.HaversineAzimuths', WHERE WHAT IT READS IS OF BULK AT MOST 1048576: true; the input reads as it did. -/
def haversineAzimuthsUptoRow : OpenClaim := { program := "ytcjkfchjcealbaagreat", sum := "a16e99ecb9036b3bc41b0fc59552063bc4fa6552422436c638f50ce5446165fc", func := "almucantar/almucantarlaw26.HaversineAzimuths", spec := "haversineAzimuths", inPlace := ["math/bits.Add64", "math/bits.Sub64"], recurses := true, named := ["math/bits.divideError", "math/bits.overflowError"], apart := false, narrowed := true }
def HaversineAzimuthsUptoSaid : Prop := haversineAzimuthsUptoRow.holds Tryz.pinned (OpenSpec.upto haversineAzimuthsSpec)

/-- 'almucantarlaw26.HaversineSolves', WHERE WHAT IT READS IS OF BULK AT MOST 1048576: true; the input reads as it did. -/
def haversineSolvesUptoRow : OpenClaim := { program := "ytcjkfchjcealbaagreat", sum := "a16e99ecb9036b3bc41b0fc59552063bc4fa6552422436c638f50ce5446165fc", func := "almucantar/almucantarlaw26.HaversineSolves", spec := "haversineSolves", inPlace := ["math/bits.Add64", "math/bits.Sub64"], recurses := true, named := ["math/bits.divideError", "math/bits.overflowError"], apart := false, narrowed := true }
def HaversineSolvesUptoSaid : Prop := haversineSolvesUptoRow.holds Tryz.pinned (OpenSpec.upto haversineSolvesSpec)

end Rows
end Go.Proofs.YtcjkfchjcealbaaGreat

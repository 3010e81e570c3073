/-
  No cell of these rows narrows 'for every input' (looked for: loops, veiled, ifaces, maps, wideKeys, modest, calm, conditions, laid).
  DERIVED. THE GIVEN ROWS OF THIS SEAT. 8 by the template 'for every input the law returns true; each argument reads behind the call as it read before'; 0 by the template 'total and deterministic' (their statements: YtmlmohcghoelkaaTotals.lean).
  GIVEN WITH THE SEED: the statements are not yours to turn. If you find one false, say at which input.
  Laid BY PROGRAM, IN A SANDBOX (cutbox-rows.mjs): the forced cells as the released guide's own fill.sh prints them over the translation b5369da40d763f6e… (all of the seat's roots in one cut). By AI agents, Wed Nov 11 2026. No macro, syntax, notation, axiom, sorry.
-/
import Derived.Test.YtmlmohcghoelkaaChecked
import GoSem.Claim
import GoSem.ClaimJoined
import GoSem.ClaimMapViews
import Derived.JoinedTies
import Derived.KernelRfl
namespace Go.Proofs.Ytmlmohcghoelkaa
/- THE CELL 'sum', in the pinned program and in every row, IS THE sha256 OF THE DUMP (.gsa) THAT YtmlmohcghoelkaaProg.lean LOADS. Nothing in Lean hashes anything: it is a label: what it is worth is what the hold of that sum in a sandbox is worth. -/
noncomputable def Try.pinned : Pinned := { name := "ytmlmohcghoelkaa", sum := "b5369da40d763f6eefb430b326f34a2c5af82ceeb507608d28d5f7d80b1f6220", checked := Try.checked }
namespace Rows
def none {H : Type} : Left H := { results := [], args := [] }

/-- 'almucantarlaw07.ArctrigSines': WHATEVER THE INPUT: true; the input reads as it did. -/
def arctrigSinesSpec : ChangeSpec := { name := "arctrigSines", fn := fun _ => fun
  | [d] => { results := [.lit (.bool true)], args := [d] }
  | _ => none }
def arctrigSinesRow : OpenClaim := { program := "ytmlmohcghoelkaa", sum := "b5369da40d763f6eefb430b326f34a2c5af82ceeb507608d28d5f7d80b1f6220", func := "almucantar/almucantarlaw07.ArctrigSines", spec := "arctrigSines", inPlace := ["math/bits.Add64", "math/bits.Sub64"], recurses := true, named := ["math/bits.divideError", "math/bits.overflowError"], apart := false }
def ArctrigSinesSaid : Prop := arctrigSinesRow.holds Try.pinned (OpenSpec.ofChange arctrigSinesSpec)

/-- ITS FALSE NEIGHBOUR: 'it returns false'. Refute it at one input. -/
def arctrigSinesWrong : ChangeSpec := { name := "arctrigSines", fn := fun _ => fun
  | [d] => { results := [.lit (.bool false)], args := [d] }
  | _ => none }
def ArctrigSinesWrongFalsely : Prop := arctrigSinesRow.holds Try.pinned (OpenSpec.ofChange arctrigSinesWrong)

/-- 'almucantarlaw07.ArctrigBearings': WHATEVER THE INPUT: true; the input reads as it did. -/
def arctrigBearingsSpec : ChangeSpec := { name := "arctrigBearings", fn := fun _ => fun
  | [d1, d2] => { results := [.lit (.bool true)], args := [d1, d2] }
  | _ => none }
def arctrigBearingsRow : OpenClaim := { program := "ytmlmohcghoelkaa", sum := "b5369da40d763f6eefb430b326f34a2c5af82ceeb507608d28d5f7d80b1f6220", func := "almucantar/almucantarlaw07.ArctrigBearings", spec := "arctrigBearings", inPlace := ["math/bits.Add64", "math/bits.Sub64"], recurses := true, named := ["math/bits.divideError", "math/bits.overflowError"], apart := false }
def ArctrigBearingsSaid : Prop := arctrigBearingsRow.holds Try.pinned (OpenSpec.ofChange arctrigBearingsSpec)

/-- ITS FALSE NEIGHBOUR: 'it returns false'. Refute it at one input. -/
def arctrigBearingsWrong : ChangeSpec := { name := "arctrigBearings", fn := fun _ => fun
  | [d1, d2] => { results := [.lit (.bool false)], args := [d1, d2] }
  | _ => none }
def ArctrigBearingsWrongFalsely : Prop := arctrigBearingsRow.holds Try.pinned (OpenSpec.ofChange arctrigBearingsWrong)

/-- 'almucantarlaw07.ArctrigLeast': WHATEVER THE INPUT: true; the input reads as it did. -/
def arctrigLeastSpec : ChangeSpec := { name := "arctrigLeast", fn := fun _ => fun
  | [d] => { results := [.lit (.bool true)], args := [d] }
  | _ => none }
def arctrigLeastRow : OpenClaim := { program := "ytmlmohcghoelkaa", sum := "b5369da40d763f6eefb430b326f34a2c5af82ceeb507608d28d5f7d80b1f6220", func := "almucantar/almucantarlaw07.ArctrigLeast", spec := "arctrigLeast", inPlace := ["math/bits.Add64", "math/bits.Sub64"], recurses := true, named := ["math/bits.divideError", "math/bits.overflowError"], apart := false }
def ArctrigLeastSaid : Prop := arctrigLeastRow.holds Try.pinned (OpenSpec.ofChange arctrigLeastSpec)

/-- ITS FALSE NEIGHBOUR: 'it returns false'. Refute it at one input. -/
def arctrigLeastWrong : ChangeSpec := { name := "arctrigLeast", fn := fun _ => fun
  | [d] => { results := [.lit (.bool false)], args := [d] }
  | _ => none }
def ArctrigLeastWrongFalsely : Prop := arctrigLeastRow.holds Try.pinned (OpenSpec.ofChange arctrigLeastWrong)

/-- 'almucantarlaw07.ArctrigOpposite': WHATEVER THE INPUT: true; the input reads as it did. -/
def arctrigOppositeSpec : ChangeSpec := { name := "arctrigOpposite", fn := fun _ => fun
  | [d] => { results := [.lit (.bool true)], args := [d] }
  | _ => none }
def arctrigOppositeRow : OpenClaim := { program := "ytmlmohcghoelkaa", sum := "b5369da40d763f6eefb430b326f34a2c5af82ceeb507608d28d5f7d80b1f6220", func := "almucantar/almucantarlaw07.ArctrigOpposite", spec := "arctrigOpposite", inPlace := ["math/bits.Add64", "math/bits.Sub64"], recurses := true, named := ["math/bits.divideError", "math/bits.overflowError"], apart := false }
def ArctrigOppositeSaid : Prop := arctrigOppositeRow.holds Try.pinned (OpenSpec.ofChange arctrigOppositeSpec)

/-- ITS FALSE NEIGHBOUR: 'it returns false'. Refute it at one input. -/
def arctrigOppositeWrong : ChangeSpec := { name := "arctrigOpposite", fn := fun _ => fun
  | [d] => { results := [.lit (.bool false)], args := [d] }
  | _ => none }
def ArctrigOppositeWrongFalsely : Prop := arctrigOppositeRow.holds Try.pinned (OpenSpec.ofChange arctrigOppositeWrong)

/-- 'almucantarlaw07.ArctrigGrows': WHATEVER THE INPUT: true; the input reads as it did. -/
def arctrigGrowsSpec : ChangeSpec := { name := "arctrigGrows", fn := fun _ => fun
  | [d1, d2, d3, d4] => { results := [.lit (.bool true)], args := [d1, d2, d3, d4] }
  | _ => none }
def arctrigGrowsRow : OpenClaim := { program := "ytmlmohcghoelkaa", sum := "b5369da40d763f6eefb430b326f34a2c5af82ceeb507608d28d5f7d80b1f6220", func := "almucantar/almucantarlaw07.ArctrigGrows", spec := "arctrigGrows", inPlace := ["math/bits.Add64", "math/bits.Sub64"], unfollowed := true, recurses := true, named := ["math/bits.divideError", "math/bits.overflowError"], apart := false }
def ArctrigGrowsSaid : Prop := arctrigGrowsRow.holds Try.pinned (OpenSpec.ofChange arctrigGrowsSpec)

/-- ITS FALSE NEIGHBOUR: 'it returns false'. Refute it at one input. -/
def arctrigGrowsWrong : ChangeSpec := { name := "arctrigGrows", fn := fun _ => fun
  | [d1, d2, d3, d4] => { results := [.lit (.bool false)], args := [d1, d2, d3, d4] }
  | _ => none }
def ArctrigGrowsWrongFalsely : Prop := arctrigGrowsRow.holds Try.pinned (OpenSpec.ofChange arctrigGrowsWrong)

/-- 'almucantarlaw07.ArctrigTurns': WHATEVER THE INPUT: true; the input reads as it did. -/
def arctrigTurnsSpec : ChangeSpec := { name := "arctrigTurns", fn := fun _ => fun
  | [d1, d2, d3] => { results := [.lit (.bool true)], args := [d1, d2, d3] }
  | _ => none }
def arctrigTurnsRow : OpenClaim := { program := "ytmlmohcghoelkaa", sum := "b5369da40d763f6eefb430b326f34a2c5af82ceeb507608d28d5f7d80b1f6220", func := "almucantar/almucantarlaw07.ArctrigTurns", spec := "arctrigTurns", inPlace := ["math/bits.Add64", "math/bits.Sub64"], unfollowed := true, recurses := true, named := ["math/bits.divideError", "math/bits.overflowError"], apart := false }
def ArctrigTurnsSaid : Prop := arctrigTurnsRow.holds Try.pinned (OpenSpec.ofChange arctrigTurnsSpec)

/-- ITS FALSE NEIGHBOUR: 'it returns false'. Refute it at one input. -/
def arctrigTurnsWrong : ChangeSpec := { name := "arctrigTurns", fn := fun _ => fun
  | [d1, d2, d3] => { results := [.lit (.bool false)], args := [d1, d2, d3] }
  | _ => none }
def ArctrigTurnsWrongFalsely : Prop := arctrigTurnsRow.holds Try.pinned (OpenSpec.ofChange arctrigTurnsWrong)

/-- 'almucantarlaw07.ArctrigBack': WHATEVER THE INPUT: true; the input reads as it did. -/
def arctrigBackSpec : ChangeSpec := { name := "arctrigBack", fn := fun _ => fun
  | [d1, d2] => { results := [.lit (.bool true)], args := [d1, d2] }
  | _ => none }
def arctrigBackRow : OpenClaim := { program := "ytmlmohcghoelkaa", sum := "b5369da40d763f6eefb430b326f34a2c5af82ceeb507608d28d5f7d80b1f6220", func := "almucantar/almucantarlaw07.ArctrigBack", spec := "arctrigBack", inPlace := ["math/bits.Add64", "math/bits.Sub64"], recurses := true, named := ["math/bits.divideError", "math/bits.overflowError"], apart := false }
def ArctrigBackSaid : Prop := arctrigBackRow.holds Try.pinned (OpenSpec.ofChange arctrigBackSpec)

/-- ITS FALSE NEIGHBOUR: 'it returns false'. Refute it at one input. -/
def arctrigBackWrong : ChangeSpec := { name := "arctrigBack", fn := fun _ => fun
  | [d1, d2] => { results := [.lit (.bool false)], args := [d1, d2] }
  | _ => none }
def ArctrigBackWrongFalsely : Prop := arctrigBackRow.holds Try.pinned (OpenSpec.ofChange arctrigBackWrong)

/-- 'almucantarlaw07.ArctrigDirections': WHATEVER THE INPUT: true; the input reads as it did. -/
def arctrigDirectionsSpec : ChangeSpec := { name := "arctrigDirections", fn := fun _ => fun
  | [d] => { results := [.lit (.bool true)], args := [d] }
  | _ => none }
def arctrigDirectionsRow : OpenClaim := { program := "ytmlmohcghoelkaa", sum := "b5369da40d763f6eefb430b326f34a2c5af82ceeb507608d28d5f7d80b1f6220", func := "almucantar/almucantarlaw07.ArctrigDirections", spec := "arctrigDirections", inPlace := ["math/bits.Add64", "math/bits.Sub64"], recurses := true, named := ["math/bits.divideError", "math/bits.overflowError"], apart := false }
def ArctrigDirectionsSaid : Prop := arctrigDirectionsRow.holds Try.pinned (OpenSpec.ofChange arctrigDirectionsSpec)

/-- ITS FALSE NEIGHBOUR: 'it returns false'. Refute it at one input. -/
def arctrigDirectionsWrong : ChangeSpec := { name := "arctrigDirections", fn := fun _ => fun
  | [d] => { results := [.lit (.bool false)], args := [d] }
  | _ => none }
def ArctrigDirectionsWrongFalsely : Prop := arctrigDirectionsRow.holds Try.pinned (OpenSpec.ofChange arctrigDirectionsWrong)

/- THE SECOND FORM. 'bulk': how many values and letters a reading holds, each counted each time it is reached (what is shared counts as often as it is met; a slice's spare places count too). A statement '..UptoSaid' is the law's where the arguments, and the package variables that the reading takes, are together of bulk at most 1048576: NARROWER than '..Said'. Prove '..Said' where nothing that the law and all that it calls make is longer than what came in: it says more and counts as full. Else prove '..UptoSaid'. A law counts once. -/
mutual
def uptoBulk {H : Type} : DataW H → Nat
  | .lit (.string bytes) => bytes.length + 1
  | .lit _ => 1
  | .nil => 1
  | .ptr d => uptoBulk d + 1
  | .slice elems spare => uptoBulkAll elems + uptoBulkAll spare + 1
  | .agg parts => uptoBulkAll parts + 1
  | .iface _ d => uptoBulk d + 1
  | .map entries => uptoBulkEntries entries + 1
  | .held _ => 1
def uptoBulkAll {H : Type} : List (DataW H) → Nat
  | [] => 0
  | d :: r => uptoBulk d + uptoBulkAll r
def uptoBulkEntries {H : Type} : List (Lit × DataW H) → Nat
  | [] => 0
  | x :: r => uptoBulkEntry x + uptoBulkEntries r
def uptoBulkEntry {H : Type} : Lit × DataW H → Nat
  | (.string bytes, d) => bytes.length + uptoBulk d + 1
  | (_, d) => uptoBulk d + 1
 end
def uptoSmall : (H : Type) → List (DataW H) → Bool := fun _ ds => decide (uptoBulkAll ds ≤ 1048576)
def OpenSpec.upto (s : _root_.Go.ChangeSpec) : _root_.Go.OpenSpec := { _root_.Go.OpenSpec.ofChange s with cond := some uptoSmall }

/-- 'almucantarlaw07.ArctrigSines', WHERE WHAT IT READS IS OF BULK AT MOST 1048576: true; the input reads as it did. -/
def arctrigSinesUptoRow : OpenClaim := { program := "ytmlmohcghoelkaa", sum := "b5369da40d763f6eefb430b326f34a2c5af82ceeb507608d28d5f7d80b1f6220", func := "almucantar/almucantarlaw07.ArctrigSines", spec := "arctrigSines", inPlace := ["math/bits.Add64", "math/bits.Sub64"], recurses := true, named := ["math/bits.divideError", "math/bits.overflowError"], apart := false, narrowed := true }
def ArctrigSinesUptoSaid : Prop := arctrigSinesUptoRow.holds Try.pinned (OpenSpec.upto arctrigSinesSpec)

/-- 'almucantarlaw07.ArctrigBearings', WHERE WHAT IT READS IS OF BULK AT MOST 1048576: true; the input reads as it did. -/
def arctrigBearingsUptoRow : OpenClaim := { program := "ytmlmohcghoelkaa", sum := "b5369da40d763f6eefb430b326f34a2c5af82ceeb507608d28d5f7d80b1f6220", func := "almucantar/almucantarlaw07.ArctrigBearings", spec := "arctrigBearings", inPlace := ["math/bits.Add64", "math/bits.Sub64"], recurses := true, named := ["math/bits.divideError", "math/bits.overflowError"], apart := false, narrowed := true }
def ArctrigBearingsUptoSaid : Prop := arctrigBearingsUptoRow.holds Try.pinned (OpenSpec.upto arctrigBearingsSpec)

/-- 'almucantarlaw07.ArctrigLeast', WHERE WHAT IT READS IS OF BULK AT MOST 1048576: true; the input reads as it did. -/
def arctrigLeastUptoRow : OpenClaim := { program := "ytmlmohcghoelkaa", sum := "b5369da40d763f6eefb430b326f34a2c5af82ceeb507608d28d5f7d80b1f6220", func := "almucantar/almucantarlaw07.ArctrigLeast", spec := "arctrigLeast", inPlace := ["math/bits.Add64", "math/bits.Sub64"], recurses := true, named := ["math/bits.divideError", "math/bits.overflowError"], apart := false, narrowed := true }
def ArctrigLeastUptoSaid : Prop := arctrigLeastUptoRow.holds Try.pinned (OpenSpec.upto arctrigLeastSpec)

/-- 'almucantarlaw07.ArctrigOpposite', WHERE WHAT IT READS IS OF BULK AT MOST 1048576: true; the input reads as it did. -/
def arctrigOppositeUptoRow : OpenClaim := { program := "ytmlmohcghoelkaa", sum := "b5369da40d763f6eefb430b326f34a2c5af82ceeb507608d28d5f7d80b1f6220", func := "almucantar/almucantarlaw07.ArctrigOpposite", spec := "arctrigOpposite", inPlace := ["math/bits.Add64", "math/bits.Sub64"], recurses := true, named := ["math/bits.divideError", "math/bits.overflowError"], apart := false, narrowed := true }
def ArctrigOppositeUptoSaid : Prop := arctrigOppositeUptoRow.holds Try.pinned (OpenSpec.upto arctrigOppositeSpec)

/-- 'almucantarlaw07.ArctrigGrows', WHERE WHAT IT READS IS OF BULK AT MOST 1048576: true; the input reads as it did. -/
def arctrigGrowsUptoRow : OpenClaim := { program := "ytmlmohcghoelkaa", sum := "b5369da40d763f6eefb430b326f34a2c5af82ceeb507608d28d5f7d80b1f6220", func := "almucantar/almucantarlaw07.ArctrigGrows", spec := "arctrigGrows", inPlace := ["math/bits.Add64", "math/bits.Sub64"], unfollowed := true, recurses := true, named := ["math/bits.divideError", "math/bits.overflowError"], apart := false, narrowed := true }
def ArctrigGrowsUptoSaid : Prop := arctrigGrowsUptoRow.holds Try.pinned (OpenSpec.upto arctrigGrowsSpec)

/-- 'almucantarlaw07.ArctrigTurns', WHERE WHAT IT READS IS OF BULK AT MOST 1048576: true; the input reads as it did. -/
def arctrigTurnsUptoRow : OpenClaim := { program := "ytmlmohcghoelkaa", sum := "b5369da40d763f6eefb430b326f34a2c5af82ceeb507608d28d5f7d80b1f6220", func := "almucantar/almucantarlaw07.ArctrigTurns", spec := "arctrigTurns", inPlace := ["math/bits.Add64", "math/bits.Sub64"], unfollowed := true, recurses := true, named := ["math/bits.divideError", "math/bits.overflowError"], apart := false, narrowed := true }
def ArctrigTurnsUptoSaid : Prop := arctrigTurnsUptoRow.holds Try.pinned (OpenSpec.upto arctrigTurnsSpec)

/-- 'almucantarlaw07.ArctrigBack', WHERE WHAT IT READS IS OF BULK AT MOST 1048576: true; the input reads as it did. -/
def arctrigBackUptoRow : OpenClaim := { program := "ytmlmohcghoelkaa", sum := "b5369da40d763f6eefb430b326f34a2c5af82ceeb507608d28d5f7d80b1f6220", func := "almucantar/almucantarlaw07.ArctrigBack", spec := "arctrigBack", inPlace := ["math/bits.Add64", "math/bits.Sub64"], recurses := true, named := ["math/bits.divideError", "math/bits.overflowError"], apart := false, narrowed := true }
def ArctrigBackUptoSaid : Prop := arctrigBackUptoRow.holds Try.pinned (OpenSpec.upto arctrigBackSpec)

/-- 'almucantarlaw07.ArctrigDirections', WHERE WHAT IT READS IS OF BULK AT MOST 1048576: true; the input reads as it did. -/
def arctrigDirectionsUptoRow : OpenClaim := { program := "ytmlmohcghoelkaa", sum := "b5369da40d763f6eefb430b326f34a2c5af82ceeb507608d28d5f7d80b1f6220", func := "almucantar/almucantarlaw07.ArctrigDirections", spec := "arctrigDirections", inPlace := ["math/bits.Add64", "math/bits.Sub64"], recurses := true, named := ["math/bits.divideError", "math/bits.overflowError"], apart := false, narrowed := true }
def ArctrigDirectionsUptoSaid : Prop := arctrigDirectionsUptoRow.holds Try.pinned (OpenSpec.upto arctrigDirectionsSpec)

end Rows
end Go.Proofs.Ytmlmohcghoelkaa

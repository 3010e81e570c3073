/-
  NARROWER THAN 'FOR EVERY INPUT', by the rows' own cells (each row's printed sentence says how): ReduceMethods: laid · ReduceAlls: laid · ReduceCommon: laid · ReduceParts: laid · ReduceMeets: laid · ReduceIntercepts: laid · ReduceOrder: laid.
  DERIVED. THE GIVEN ROWS OF THIS SEAT. 7 by the template 'for every input the law returns true; each argument reads behind the call as it read before'; 0 by the template 'total and deterministic' (their statements: YtmididlfnajhiaaGreatDoorTotals.lean).
  GIVEN WITH THE SEED: the statements are not yours to turn. If you find one false, say at which input.
  Laid BY PROGRAM, IN A SANDBOX (cutbox-rows.mjs): the forced cells as the released guide's own fill.sh prints them over the translation 646927174b952263… (all of the seat's roots in one cut). By AI agents, Wed Nov 11 2026. No macro, syntax, notation, axiom, sorry.
-/
import Derived.Test.YtmididlfnajhiaaGreatDoorChecked
import GoSem.Claim
import GoSem.ClaimJoined
import GoSem.ClaimMapViews
import Derived.JoinedTies
import Derived.KernelRfl
namespace Go.Proofs.YtmididlfnajhiaaGreatDoor
/- THE CELL 'sum', in the pinned program and in every row, IS THE sha256 OF THE DUMP (.gsa) THAT YtmididlfnajhiaaGreatDoorProg.lean LOADS. Nothing in Lean hashes anything: it is a label: what it is worth is what the hold of that sum in a sandbox is worth. -/
noncomputable def Tryz.pinned : Pinned := { name := "ytmididlfnajhiaagreatdoor", sum := "646927174b952263c5b49a16f464a3431a4020914f95e3332db915e11458a7a5", checked := Tryz.checked }
namespace Rows
def none {H : Type} : Left H := { results := [], args := [] }

/- WHAT THE LISTED PACKAGE-LEVEL VARIABLES READ AS WHEN THE CALL BEGINS. Each datum BY PROGRAM (the guide's laid-datum.mjs) off the statement by which the dump's own 'gosem.cut.vars' lays the variable. In a bare row this is a premise. The card (YtmididlfnajhiaaGreatDoorCards.lean) ties it to the program's text. -/
def laid_almucantar_halfangle_quarter {H : Type} : DataW H := .agg [.lit (.int .i64 5400000), .lit (.int .i64 5400000)]

/-- 'almucantarlaw30.ReduceMethods': WHATEVER THE INPUT: true; the input reads as it did. -/
def reduceMethodsSpec : ChangeSpec := { name := "reduceMethods", fn := fun _ => fun
  | [d1, d2] => { results := [.lit (.bool true)], args := [d1, d2] }
  | _ => none }
def reduceMethodsRow : OpenClaim := { program := "ytmididlfnajhiaagreatdoor", sum := "646927174b952263c5b49a16f464a3431a4020914f95e3332db915e11458a7a5", func := "almucantar/almucantarlaw30.ReduceMethods", spec := "reduceMethods", inPlace := ["math/bits.Add64", "math/bits.Sub64"], unfollowed := true, recurses := true, named := ["math/bits.divideError", "math/bits.overflowError", "almucantar/halfangle.quarter"], apart := false, laid := [("almucantar/halfangle.quarter", laid_almucantar_halfangle_quarter)] }
def ReduceMethodsSaid : Prop := reduceMethodsRow.holds Tryz.pinned (OpenSpec.ofChange reduceMethodsSpec)

/-- ITS FALSE NEIGHBOUR: 'it returns false'. Refute it at one input. -/
def reduceMethodsWrong : ChangeSpec := { name := "reduceMethods", fn := fun _ => fun
  | [d1, d2] => { results := [.lit (.bool false)], args := [d1, d2] }
  | _ => none }
def ReduceMethodsWrongFalsely : Prop := reduceMethodsRow.holds Tryz.pinned (OpenSpec.ofChange reduceMethodsWrong)

/-- 'almucantarlaw30.ReduceAlls': WHATEVER THE INPUT: true; the input reads as it did. -/
def reduceAllsSpec : ChangeSpec := { name := "reduceAlls", fn := fun _ => fun
  | [d] => { results := [.lit (.bool true)], args := [d] }
  | _ => none }
def reduceAllsRow : OpenClaim := { program := "ytmididlfnajhiaagreatdoor", sum := "646927174b952263c5b49a16f464a3431a4020914f95e3332db915e11458a7a5", func := "almucantar/almucantarlaw30.ReduceAlls", spec := "reduceAlls", inPlace := ["math/bits.Add64", "math/bits.Sub64"], unfollowed := true, recurses := true, named := ["math/bits.divideError", "math/bits.overflowError", "almucantar/halfangle.quarter"], apart := false, laid := [("almucantar/halfangle.quarter", laid_almucantar_halfangle_quarter)] }
def ReduceAllsSaid : Prop := reduceAllsRow.holds Tryz.pinned (OpenSpec.ofChange reduceAllsSpec)

/-- ITS FALSE NEIGHBOUR: 'it returns false'. Refute it at one input. -/
def reduceAllsWrong : ChangeSpec := { name := "reduceAlls", fn := fun _ => fun
  | [d] => { results := [.lit (.bool false)], args := [d] }
  | _ => none }
def ReduceAllsWrongFalsely : Prop := reduceAllsRow.holds Tryz.pinned (OpenSpec.ofChange reduceAllsWrong)

/-- 'almucantarlaw30.ReduceCommon': WHATEVER THE INPUT: true; the input reads as it did. -/
def reduceCommonSpec : ChangeSpec := { name := "reduceCommon", fn := fun _ => fun
  | [d] => { results := [.lit (.bool true)], args := [d] }
  | _ => none }
def reduceCommonRow : OpenClaim := { program := "ytmididlfnajhiaagreatdoor", sum := "646927174b952263c5b49a16f464a3431a4020914f95e3332db915e11458a7a5", func := "almucantar/almucantarlaw30.ReduceCommon", spec := "reduceCommon", inPlace := ["math/bits.Add64", "math/bits.Sub64"], unfollowed := true, recurses := true, named := ["math/bits.divideError", "math/bits.overflowError", "almucantar/halfangle.quarter"], apart := false, laid := [("almucantar/halfangle.quarter", laid_almucantar_halfangle_quarter)] }
def ReduceCommonSaid : Prop := reduceCommonRow.holds Tryz.pinned (OpenSpec.ofChange reduceCommonSpec)

/-- ITS FALSE NEIGHBOUR: 'it returns false'. Refute it at one input. -/
def reduceCommonWrong : ChangeSpec := { name := "reduceCommon", fn := fun _ => fun
  | [d] => { results := [.lit (.bool false)], args := [d] }
  | _ => none }
def ReduceCommonWrongFalsely : Prop := reduceCommonRow.holds Tryz.pinned (OpenSpec.ofChange reduceCommonWrong)

/-- 'almucantarlaw30.ReduceParts': WHATEVER THE INPUT: true; the input reads as it did. -/
def reducePartsSpec : ChangeSpec := { name := "reduceParts", fn := fun _ => fun
  | [d1, d2, d3, d4] => { results := [.lit (.bool true)], args := [d1, d2, d3, d4] }
  | _ => none }
def reducePartsRow : OpenClaim := { program := "ytmididlfnajhiaagreatdoor", sum := "646927174b952263c5b49a16f464a3431a4020914f95e3332db915e11458a7a5", func := "almucantar/almucantarlaw30.ReduceParts", spec := "reduceParts", inPlace := ["math/bits.Add64", "math/bits.Sub64"], unfollowed := true, recurses := true, named := ["math/bits.divideError", "math/bits.overflowError", "almucantar/halfangle.quarter"], apart := false, laid := [("almucantar/halfangle.quarter", laid_almucantar_halfangle_quarter)] }
def ReducePartsSaid : Prop := reducePartsRow.holds Tryz.pinned (OpenSpec.ofChange reducePartsSpec)

/-- ITS FALSE NEIGHBOUR: 'it returns false'. Refute it at one input. -/
def reducePartsWrong : ChangeSpec := { name := "reduceParts", fn := fun _ => fun
  | [d1, d2, d3, d4] => { results := [.lit (.bool false)], args := [d1, d2, d3, d4] }
  | _ => none }
def ReducePartsWrongFalsely : Prop := reducePartsRow.holds Tryz.pinned (OpenSpec.ofChange reducePartsWrong)

/-- 'almucantarlaw30.ReduceMeets': WHATEVER THE INPUT: true; the input reads as it did. -/
def reduceMeetsSpec : ChangeSpec := { name := "reduceMeets", fn := fun _ => fun
  | [d] => { results := [.lit (.bool true)], args := [d] }
  | _ => none }
def reduceMeetsRow : OpenClaim := { program := "ytmididlfnajhiaagreatdoor", sum := "646927174b952263c5b49a16f464a3431a4020914f95e3332db915e11458a7a5", func := "almucantar/almucantarlaw30.ReduceMeets", spec := "reduceMeets", inPlace := ["math/bits.Add64", "math/bits.Sub64"], unfollowed := true, recurses := true, named := ["math/bits.divideError", "math/bits.overflowError", "almucantar/halfangle.quarter"], apart := false, laid := [("almucantar/halfangle.quarter", laid_almucantar_halfangle_quarter)] }
def ReduceMeetsSaid : Prop := reduceMeetsRow.holds Tryz.pinned (OpenSpec.ofChange reduceMeetsSpec)

/-- ITS FALSE NEIGHBOUR: 'it returns false'. Refute it at one input. -/
def reduceMeetsWrong : ChangeSpec := { name := "reduceMeets", fn := fun _ => fun
  | [d] => { results := [.lit (.bool false)], args := [d] }
  | _ => none }
def ReduceMeetsWrongFalsely : Prop := reduceMeetsRow.holds Tryz.pinned (OpenSpec.ofChange reduceMeetsWrong)

/-- 'almucantarlaw30.ReduceIntercepts': WHATEVER THE INPUT: true; the input reads as it did. -/
def reduceInterceptsSpec : ChangeSpec := { name := "reduceIntercepts", fn := fun _ => fun
  | [d1, d2] => { results := [.lit (.bool true)], args := [d1, d2] }
  | _ => none }
def reduceInterceptsRow : OpenClaim := { program := "ytmididlfnajhiaagreatdoor", sum := "646927174b952263c5b49a16f464a3431a4020914f95e3332db915e11458a7a5", func := "almucantar/almucantarlaw30.ReduceIntercepts", spec := "reduceIntercepts", inPlace := ["math/bits.Add64", "math/bits.Sub64"], unfollowed := true, recurses := true, named := ["math/bits.divideError", "math/bits.overflowError", "almucantar/halfangle.quarter"], apart := false, laid := [("almucantar/halfangle.quarter", laid_almucantar_halfangle_quarter)] }
def ReduceInterceptsSaid : Prop := reduceInterceptsRow.holds Tryz.pinned (OpenSpec.ofChange reduceInterceptsSpec)

/-- ITS FALSE NEIGHBOUR: 'it returns false'. Refute it at one input. -/
def reduceInterceptsWrong : ChangeSpec := { name := "reduceIntercepts", fn := fun _ => fun
  | [d1, d2] => { results := [.lit (.bool false)], args := [d1, d2] }
  | _ => none }
def ReduceInterceptsWrongFalsely : Prop := reduceInterceptsRow.holds Tryz.pinned (OpenSpec.ofChange reduceInterceptsWrong)

/-- 'almucantarlaw30.ReduceOrder': WHATEVER THE INPUT: true; the input reads as it did. -/
def reduceOrderSpec : ChangeSpec := { name := "reduceOrder", fn := fun _ => fun
  | [d] => { results := [.lit (.bool true)], args := [d] }
  | _ => none }
def reduceOrderRow : OpenClaim := { program := "ytmididlfnajhiaagreatdoor", sum := "646927174b952263c5b49a16f464a3431a4020914f95e3332db915e11458a7a5", func := "almucantar/almucantarlaw30.ReduceOrder", spec := "reduceOrder", inPlace := ["math/bits.Add64", "math/bits.Sub64"], unfollowed := true, recurses := true, named := ["math/bits.divideError", "math/bits.overflowError", "almucantar/halfangle.quarter"], apart := false, laid := [("almucantar/halfangle.quarter", laid_almucantar_halfangle_quarter)] }
def ReduceOrderSaid : Prop := reduceOrderRow.holds Tryz.pinned (OpenSpec.ofChange reduceOrderSpec)

/-- ITS FALSE NEIGHBOUR: 'it returns false'. Refute it at one input. -/
def reduceOrderWrong : ChangeSpec := { name := "reduceOrder", fn := fun _ => fun
  | [d] => { results := [.lit (.bool false)], args := [d] }
  | _ => none }
def ReduceOrderWrongFalsely : Prop := reduceOrderRow.holds Tryz.pinned (OpenSpec.ofChange reduceOrderWrong)

/- THE SECOND FORM. 'bulk': how many values and letters a reading holds, each counted each time it is reached (what is shared counts as often as it is met; a slice's spare places count too). A statement '..UptoSaid' is the law's where the arguments, and the package variables that the reading takes, are together of bulk at most 1048576: NARROWER than '..Said'. Prove '..Said' where nothing that the law and all that it calls make is longer than what came in: it says more and counts as full. Else prove '..UptoSaid'. A law counts once. -/
mutual
def uptoBulk {H : Type} : DataW H → Nat
  | .lit (.string bytes) => bytes.length + 1
  | .lit _ => 1
  | .nil => 1
  | .ptr d => uptoBulk d + 1
  | .slice elems spare => uptoBulkAll elems + uptoBulkAll spare + 1
  | .agg parts => uptoBulkAll parts + 1
  | .iface _ d => uptoBulk d + 1
  | .map entries => uptoBulkEntries entries + 1
  | .held _ => 1
def uptoBulkAll {H : Type} : List (DataW H) → Nat
  | [] => 0
  | d :: r => uptoBulk d + uptoBulkAll r
def uptoBulkEntries {H : Type} : List (Lit × DataW H) → Nat
  | [] => 0
  | x :: r => uptoBulkEntry x + uptoBulkEntries r
def uptoBulkEntry {H : Type} : Lit × DataW H → Nat
  | (.string bytes, d) => bytes.length + uptoBulk d + 1
  | (_, d) => uptoBulk d + 1
 end
def uptoSmall : (H : Type) → List (DataW H) → Bool := fun _ ds => decide (uptoBulkAll ds ≤ 1048576)
def OpenSpec.upto (s : _root_.Go.ChangeSpec) : _root_.Go.OpenSpec := { _root_.Go.OpenSpec.ofChange s with cond := some uptoSmall }

/-- 'almucantarlaw30.ReduceMethods', WHERE WHAT IT READS IS OF BULK AT MOST 1048576: true; the input reads as it did. -/
def reduceMethodsUptoRow : OpenClaim := { program := "ytmididlfnajhiaagreatdoor", sum := "646927174b952263c5b49a16f464a3431a4020914f95e3332db915e11458a7a5", func := "almucantar/almucantarlaw30.ReduceMethods", spec := "reduceMethods", inPlace := ["math/bits.Add64", "math/bits.Sub64"], unfollowed := true, recurses := true, named := ["math/bits.divideError", "math/bits.overflowError", "almucantar/halfangle.quarter"], apart := false, laid := [("almucantar/halfangle.quarter", laid_almucantar_halfangle_quarter)], narrowed := true }
def ReduceMethodsUptoSaid : Prop := reduceMethodsUptoRow.holds Tryz.pinned (OpenSpec.upto reduceMethodsSpec)

/-- 'almucantarlaw30.ReduceAlls', WHERE WHAT IT READS IS OF BULK AT MOST 1048576: true; the input reads as it did. -/
def reduceAllsUptoRow : OpenClaim := { program := "ytmididlfnajhiaagreatdoor", sum := "646927174b952263c5b49a16f464a3431a4020914f95e3332db915e11458a7a5", func := "almucantar/almucantarlaw30.ReduceAlls", spec := "reduceAlls", inPlace := ["math/bits.Add64", "math/bits.Sub64"], unfollowed := true, recurses := true, named := ["math/bits.divideError", "math/bits.overflowError", "almucantar/halfangle.quarter"], apart := false, laid := [("almucantar/halfangle.quarter", laid_almucantar_halfangle_quarter)], narrowed := true }
def ReduceAllsUptoSaid : Prop := reduceAllsUptoRow.holds Tryz.pinned (OpenSpec.upto reduceAllsSpec)

/-- 'almucantarlaw30.ReduceCommon', WHERE WHAT IT READS IS OF BULK AT MOST 1048576: true; the input reads as it did. -/
def reduceCommonUptoRow : OpenClaim := { program := "ytmididlfnajhiaagreatdoor", sum := "646927174b952263c5b49a16f464a3431a4020914f95e3332db915e11458a7a5", func := "almucantar/almucantarlaw30.ReduceCommon", spec := "reduceCommon", inPlace := ["math/bits.Add64", "math/bits.Sub64"], unfollowed := true, recurses := true, named := ["math/bits.divideError", "math/bits.overflowError", "almucantar/halfangle.quarter"], apart := false, laid := [("almucantar/halfangle.quarter", laid_almucantar_halfangle_quarter)], narrowed := true }
def ReduceCommonUptoSaid : Prop := reduceCommonUptoRow.holds Tryz.pinned (OpenSpec.upto reduceCommonSpec)

/-- 'almucantarlaw30.ReduceParts', WHERE WHAT IT READS IS OF BULK AT MOST 1048576: true; the input reads as it did. -/
def reducePartsUptoRow : OpenClaim := { program := "ytmididlfnajhiaagreatdoor", sum := "646927174b952263c5b49a16f464a3431a4020914f95e3332db915e11458a7a5", func := "almucantar/almucantarlaw30.ReduceParts", spec := "reduceParts", inPlace := ["math/bits.Add64", "math/bits.Sub64"], unfollowed := true, recurses := true, named := ["math/bits.divideError", "math/bits.overflowError", "almucantar/halfangle.quarter"], apart := false, laid := [("almucantar/halfangle.quarter", laid_almucantar_halfangle_quarter)], narrowed := true }
def ReducePartsUptoSaid : Prop := reducePartsUptoRow.holds Tryz.pinned (OpenSpec.upto reducePartsSpec)

/-- 'almucantarlaw30.ReduceMeets', WHERE WHAT IT READS IS OF BULK AT MOST 1048576: true; the input reads as it did. -/
def reduceMeetsUptoRow : OpenClaim := { program := "ytmididlfnajhiaagreatdoor", sum := "646927174b952263c5b49a16f464a3431a4020914f95e3332db915e11458a7a5", func := "almucantar/almucantarlaw30.ReduceMeets", spec := "reduceMeets", inPlace := ["math/bits.Add64", "math/bits.Sub64"], unfollowed := true, recurses := true, named := ["math/bits.divideError", "math/bits.overflowError", "almucantar/halfangle.quarter"], apart := false, laid := [("almucantar/halfangle.quarter", laid_almucantar_halfangle_quarter)], narrowed := true }
def ReduceMeetsUptoSaid : Prop := reduceMeetsUptoRow.holds Tryz.pinned (OpenSpec.upto reduceMeetsSpec)

/-- 'almucantarlaw30.ReduceIntercepts', WHERE WHAT IT READS IS OF BULK AT MOST 1048576: true; the input reads as it did. -/
def reduceInterceptsUptoRow : OpenClaim := { program := "ytmididlfnajhiaagreatdoor", sum := "646927174b952263c5b49a16f464a3431a4020914f95e3332db915e11458a7a5", func := "almucantar/almucantarlaw30.ReduceIntercepts", spec := "reduceIntercepts", inPlace := ["math/bits.Add64", "math/bits.Sub64"], unfollowed := true, recurses := true, named := ["math/bits.divideError", "math/bits.overflowError", "almucantar/halfangle.quarter"], apart := false, laid := [("almucantar/halfangle.quarter", laid_almucantar_halfangle_quarter)], narrowed := true }
def ReduceInterceptsUptoSaid : Prop := reduceInterceptsUptoRow.holds Tryz.pinned (OpenSpec.upto reduceInterceptsSpec)

/-- 'almucantarlaw30.ReduceOrder', WHERE WHAT IT READS IS OF BULK AT MOST 1048576: true; the input reads as it did. -/
def reduceOrderUptoRow : OpenClaim := { program := "ytmididlfnajhiaagreatdoor", sum := "646927174b952263c5b49a16f464a3431a4020914f95e3332db915e11458a7a5", func := "almucantar/almucantarlaw30.ReduceOrder", spec := "reduceOrder", inPlace := ["math/bits.Add64", "math/bits.Sub64"], unfollowed := true, recurses := true, named := ["math/bits.divideError", "math/bits.overflowError", "almucantar/halfangle.quarter"], apart := false, laid := [("almucantar/halfangle.quarter", laid_almucantar_halfangle_quarter)], narrowed := true }
def ReduceOrderUptoSaid : Prop := reduceOrderUptoRow.holds Tryz.pinned (OpenSpec.upto reduceOrderSpec)

end Rows
end Go.Proofs.YtmididlfnajhiaaGreatDoor

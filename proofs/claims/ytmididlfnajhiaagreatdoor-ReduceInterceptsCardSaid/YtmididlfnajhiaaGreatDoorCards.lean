/-
  DERIVED. GIVEN WITH THE SEED: THE CARDS: each row of YtmididlfnajhiaaGreatDoorRows.lean that lists a variable, with what it lists TIED to the program's text (the seventh form; the later family's looks); each row that meets fmt, with fmt's text TOLD by the authors' own Lean function (tested against real Go, not proved from fmt's source: count such statements apart). THE CARD IS WHAT COUNTS. Prove the row's statement (the work); the ties are given (YtmididlfnajhiaaGreatDoorTie.lean); close each card by the builder's one call (the guide's Derived/Test/ToyasCard.lean, 'card_holds'). Laid BY PROGRAM, IN A SANDBOX (cutbox-door.mjs). By AI agents, Wed Nov 11 2026. No macro, syntax, notation, axiom, sorry.
-/
import Derived.Test.YtmididlfnajhiaaGreatDoorRows
import GoSem.ClaimSeven
namespace Go.Proofs.YtmididlfnajhiaaGreatDoor
namespace Rows

/-- THE TIED CARD OF 'almucantarlaw30.ReduceMethods'. -/
def reduceMethodsCard : Claim7 := { stood := { row := reduceMethodsRow, standIns := [], harness := (true, "8cfefaddb83d23289332c3a6c0d85871fed7cb0636be8185e43260805103d721"), looks := false }, kinds := [], alts := [], laidByText := true, laidKinds := [.data], laidTests := true, laidLooks := .later }
def ReduceMethodsCardSaid : Prop := Claim7.holds Tryz.pinned (.plain (OpenSpec.ofChange reduceMethodsSpec)) reduceMethodsCard

/-- THE TIED CARD OF 'almucantarlaw30.ReduceAlls'. -/
def reduceAllsCard : Claim7 := { stood := { row := reduceAllsRow, standIns := [], harness := (true, "8cfefaddb83d23289332c3a6c0d85871fed7cb0636be8185e43260805103d721"), looks := false }, kinds := [], alts := [], laidByText := true, laidKinds := [.data], laidTests := true, laidLooks := .later }
def ReduceAllsCardSaid : Prop := Claim7.holds Tryz.pinned (.plain (OpenSpec.ofChange reduceAllsSpec)) reduceAllsCard

/-- THE TIED CARD OF 'almucantarlaw30.ReduceCommon'. -/
def reduceCommonCard : Claim7 := { stood := { row := reduceCommonRow, standIns := [], harness := (true, "8cfefaddb83d23289332c3a6c0d85871fed7cb0636be8185e43260805103d721"), looks := false }, kinds := [], alts := [], laidByText := true, laidKinds := [.data], laidTests := true, laidLooks := .later }
def ReduceCommonCardSaid : Prop := Claim7.holds Tryz.pinned (.plain (OpenSpec.ofChange reduceCommonSpec)) reduceCommonCard

/-- THE TIED CARD OF 'almucantarlaw30.ReduceParts'. -/
def reducePartsCard : Claim7 := { stood := { row := reducePartsRow, standIns := [], harness := (true, "8cfefaddb83d23289332c3a6c0d85871fed7cb0636be8185e43260805103d721"), looks := false }, kinds := [], alts := [], laidByText := true, laidKinds := [.data], laidTests := true, laidLooks := .later }
def ReducePartsCardSaid : Prop := Claim7.holds Tryz.pinned (.plain (OpenSpec.ofChange reducePartsSpec)) reducePartsCard

/-- THE TIED CARD OF 'almucantarlaw30.ReduceMeets'. -/
def reduceMeetsCard : Claim7 := { stood := { row := reduceMeetsRow, standIns := [], harness := (true, "8cfefaddb83d23289332c3a6c0d85871fed7cb0636be8185e43260805103d721"), looks := false }, kinds := [], alts := [], laidByText := true, laidKinds := [.data], laidTests := true, laidLooks := .later }
def ReduceMeetsCardSaid : Prop := Claim7.holds Tryz.pinned (.plain (OpenSpec.ofChange reduceMeetsSpec)) reduceMeetsCard

/-- THE TIED CARD OF 'almucantarlaw30.ReduceIntercepts'. -/
def reduceInterceptsCard : Claim7 := { stood := { row := reduceInterceptsRow, standIns := [], harness := (true, "8cfefaddb83d23289332c3a6c0d85871fed7cb0636be8185e43260805103d721"), looks := false }, kinds := [], alts := [], laidByText := true, laidKinds := [.data], laidTests := true, laidLooks := .later }
def ReduceInterceptsCardSaid : Prop := Claim7.holds Tryz.pinned (.plain (OpenSpec.ofChange reduceInterceptsSpec)) reduceInterceptsCard

/-- THE TIED CARD OF 'almucantarlaw30.ReduceOrder'. -/
def reduceOrderCard : Claim7 := { stood := { row := reduceOrderRow, standIns := [], harness := (true, "8cfefaddb83d23289332c3a6c0d85871fed7cb0636be8185e43260805103d721"), looks := false }, kinds := [], alts := [], laidByText := true, laidKinds := [.data], laidTests := true, laidLooks := .later }
def ReduceOrderCardSaid : Prop := Claim7.holds Tryz.pinned (.plain (OpenSpec.ofChange reduceOrderSpec)) reduceOrderCard

/-- THE SECOND FORM's CARD OF 'almucantarlaw30.ReduceMethods'. -/
def reduceMethodsUptoCard : Claim7 := { stood := { row := reduceMethodsUptoRow, standIns := [], harness := (true, "8cfefaddb83d23289332c3a6c0d85871fed7cb0636be8185e43260805103d721"), looks := false }, kinds := [], alts := [], laidByText := true, laidKinds := [.data], laidTests := true, laidLooks := .later }
def ReduceMethodsUptoCardSaid : Prop := Claim7.holds Tryz.pinned (.plain (OpenSpec.upto reduceMethodsSpec)) reduceMethodsUptoCard

/-- THE SECOND FORM's CARD OF 'almucantarlaw30.ReduceAlls'. -/
def reduceAllsUptoCard : Claim7 := { stood := { row := reduceAllsUptoRow, standIns := [], harness := (true, "8cfefaddb83d23289332c3a6c0d85871fed7cb0636be8185e43260805103d721"), looks := false }, kinds := [], alts := [], laidByText := true, laidKinds := [.data], laidTests := true, laidLooks := .later }
def ReduceAllsUptoCardSaid : Prop := Claim7.holds Tryz.pinned (.plain (OpenSpec.upto reduceAllsSpec)) reduceAllsUptoCard

/-- THE SECOND FORM's CARD OF 'almucantarlaw30.ReduceCommon'. -/
def reduceCommonUptoCard : Claim7 := { stood := { row := reduceCommonUptoRow, standIns := [], harness := (true, "8cfefaddb83d23289332c3a6c0d85871fed7cb0636be8185e43260805103d721"), looks := false }, kinds := [], alts := [], laidByText := true, laidKinds := [.data], laidTests := true, laidLooks := .later }
def ReduceCommonUptoCardSaid : Prop := Claim7.holds Tryz.pinned (.plain (OpenSpec.upto reduceCommonSpec)) reduceCommonUptoCard

/-- THE SECOND FORM's CARD OF 'almucantarlaw30.ReduceParts'. -/
def reducePartsUptoCard : Claim7 := { stood := { row := reducePartsUptoRow, standIns := [], harness := (true, "8cfefaddb83d23289332c3a6c0d85871fed7cb0636be8185e43260805103d721"), looks := false }, kinds := [], alts := [], laidByText := true, laidKinds := [.data], laidTests := true, laidLooks := .later }
def ReducePartsUptoCardSaid : Prop := Claim7.holds Tryz.pinned (.plain (OpenSpec.upto reducePartsSpec)) reducePartsUptoCard

/-- THE SECOND FORM's CARD OF 'almucantarlaw30.ReduceMeets'. -/
def reduceMeetsUptoCard : Claim7 := { stood := { row := reduceMeetsUptoRow, standIns := [], harness := (true, "8cfefaddb83d23289332c3a6c0d85871fed7cb0636be8185e43260805103d721"), looks := false }, kinds := [], alts := [], laidByText := true, laidKinds := [.data], laidTests := true, laidLooks := .later }
def ReduceMeetsUptoCardSaid : Prop := Claim7.holds Tryz.pinned (.plain (OpenSpec.upto reduceMeetsSpec)) reduceMeetsUptoCard

/-- THE SECOND FORM's CARD OF 'almucantarlaw30.ReduceIntercepts'. -/
def reduceInterceptsUptoCard : Claim7 := { stood := { row := reduceInterceptsUptoRow, standIns := [], harness := (true, "8cfefaddb83d23289332c3a6c0d85871fed7cb0636be8185e43260805103d721"), looks := false }, kinds := [], alts := [], laidByText := true, laidKinds := [.data], laidTests := true, laidLooks := .later }
def ReduceInterceptsUptoCardSaid : Prop := Claim7.holds Tryz.pinned (.plain (OpenSpec.upto reduceInterceptsSpec)) reduceInterceptsUptoCard

/-- THE SECOND FORM's CARD OF 'almucantarlaw30.ReduceOrder'. -/
def reduceOrderUptoCard : Claim7 := { stood := { row := reduceOrderUptoRow, standIns := [], harness := (true, "8cfefaddb83d23289332c3a6c0d85871fed7cb0636be8185e43260805103d721"), looks := false }, kinds := [], alts := [], laidByText := true, laidKinds := [.data], laidTests := true, laidLooks := .later }
def ReduceOrderUptoCardSaid : Prop := Claim7.holds Tryz.pinned (.plain (OpenSpec.upto reduceOrderSpec)) reduceOrderUptoCard
end Rows
end Go.Proofs.YtmididlfnajhiaaGreatDoor

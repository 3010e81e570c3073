/-
  Altitudes and azimuths that are seen, and what holds them. No program here.
-/
import Derived.Test.YtipjnfabodfkcaaGreatDoorOp
namespace Go.Proofs.YtipjnfabodfkcaaGreatDoor
open SM TB TA
open Ev (lt keepE)
def Sees (x y t h z : Rat) : Prop := -5400000 ≤ h ∧ h ≤ 5400000 ∧ -10800000 ≤ z ∧ z ≤ 16200000 ∧ Cl (5 * e0) (si h) (upT x y t) ∧ Cl eT (co h * co z) (noT x y t) ∧ Cl eT (co h * si z) (eaT y t)
theorem TB.Hs.at {a b x : Int} (h1 : a ≤ x) (h2 : x ≤ b) : Hs 0 a b (x : Rat) := Hs.int (by grind) h1 h2
theorem sin_at {a b : Int} {x : Rat} (hv : avalidB a b = true) (h : Hs 0 a b x) : Vl (sinR a b) (5 * e1) (si x) := (sin_v hv (by grind) (by grind) h).wide (by grind)
theorem sees (x y t : Rat) : ∃ h z, Sees x y t h z := truth x y t
end Go.Proofs.YtipjnfabodfkcaaGreatDoor

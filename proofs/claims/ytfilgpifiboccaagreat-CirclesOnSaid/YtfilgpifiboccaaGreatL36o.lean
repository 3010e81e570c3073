/-
  CrossingOn answers true.
-/
import Derived.Test.YtfilgpifiboccaaGreatL35
namespace Go.Proofs.YtfilgpifiboccaaGreat
open Ev

open SM TB TA
open Ev (lt keepE)
/-- A place at a bearing. -/
theorem on_fin {a b c d e f p q : Int} (la : latB a b = true) (kc : LonP c d) (e0 : 0 ≤ e) (ef : e ≤ f) (f1 : f ≤ 10800000) (vu : avalidB p q = true) :
    pvalM (catM a b c d e f p q).1 (catM a b c d e f p q).2.1 (catM a b c d e f p q).2.2.1 (catM a b c d e f p q).2.2.2.1 = true ∧ csidM a b c d e f (catM a b c d e f p q).1 (catM a b c d e f p q).2.1 (catM a b c d e f p q).2.2.1 (catM a b c d e f p q).2.2.2.1 = (0, 0) ∧ a - f ≤ (catM a b c d e f p q).2.1 ∧ (catM a b c d e f p q).1 ≤ b + f ∧ -5400000 ≤ (catM a b c d e f p q).2.1 ∧ (catM a b c d e f p q).1 ≤ 5400000 := by
  have lb := lat_bd la
  have bc := lonP_bd kc
  have vr : avalidB e f = true := avalid_mk (by omega) ef (by omega)
  have bp := aval_bd vu
  obtain ⟨A, B⟩ := at_one la vr vu
  have V := at_v lb.1 vr vu (Hs.at (Int.le_refl a) lb.2.2.1) (Hs.at (Int.le_refl e) ef) (Hs.at (Int.le_refl p) bp.2.1)
  obtain ⟨h, z, s⟩ := sees (a : Rat) (5400000 - (e : Rat)) (-(p : Rat))
  have kh := (up_v V.1 s).2
  have kz := (az_v V.2.1 V.2.2 s).2
  have eA : asinR (atU a b e f p q).1 (atU a b e f p q).2.1 = atA a b e f p q := rfl
  have eB : bearR (atE e f p q).1 (atE e f p q).2.1 (atN a b e f p q).1 (atN a b e f p q).2.1 = atB a b e f p q := rfl
  rw [eA] at kh
  rw [eB] at kz
  rw [cat_ok la kc e0 ef f1 vu]
  dsimp only
  generalize atA a b e f p q = A' at *
  generalize atB a b e f p q = B' at *
  obtain ⟨a1, a2, a3, a4⟩ := A
  obtain ⟨d1, d2, d3, d4, d5⟩ := B
  have lA : latB A'.1 A'.2.1 = true := lat_mk a1 a2 a3
  have kl : LonP (lonL (c + B'.1) (d + B'.2.1)) (lonH (c + B'.1) (d + B'.2.1)) := lon_P (by omega)
  have bl := lonP_bd kl
  have vt : avalidB (lonL (c + B'.1) (d + B'.2.1) - d) (lonH (c + B'.1) (d + B'.2.1) - c) = true := avalid_mk (by omega) (by omega) (by omega)
  have kt : 21600000 ≤ lonH (c + B'.1) (d + B'.2.1) - c - (lonL (c + B'.1) (d + B'.2.1) - d) ∨ ∃ m : Int, Hs dS (lonL (c + B'.1) (d + B'.2.1) - d) (lonH (c + B'.1) (d + B'.2.1) - c) (z + 21600000 * (m : Rat)) := by
    by_cases g : d + B'.2.1 - (c + B'.1) < 21600000
    · obtain ⟨k, g1, g2⟩ := lon_rep g
      obtain ⟨m, hm⟩ := kz
      right
      refine ⟨m + k, ?_⟩
      rw [g1, g2]
      have x1 := le_c (show c + B'.1 + 21600000 * k - d ≤ B'.1 + 21600000 * k by omega)
      have x2 := le_c (show B'.2.1 + 21600000 * k ≤ d + B'.2.1 + 21600000 * k - c by omega)
      rw [Rat.intCast_add (B'.1), Rat.intCast_mul, show ((21600000 : Int) : Rat) = 21600000 by rfl] at x1
      rw [Rat.intCast_add (B'.2.1) (21600000 * k), Rat.intCast_mul, show ((21600000 : Int) : Rat) = 21600000 by rfl] at x2
      unfold Hs at *
      rw [Rat.intCast_add]
      generalize ((c + B'.1 + 21600000 * k - d : Int) : Rat) = y1 at *
      generalize ((d + B'.2.1 + 21600000 * k - c : Int) : Rat) = y2 at *
      constructor <;> grind
    · left
      unfold lonL lonH
      rw [if_pos (by omega), if_pos (by omega)]
      omega
  have S := at_side lA la vr vt (Hs.at (Int.le_refl a) lb.2.2.1) (Hs.at (Int.le_refl e) ef) kh kt s
  have Lt := at_lat la e0 f1 (Hs.at (Int.le_refl a) lb.2.2.1) (Hs.at (Int.le_refl e) ef) kh s
  refine ⟨pval_mk lA kl, ?_, Lt.1, Lt.2, by omega, by omega⟩
  rw [csid_ok la kc e0 ef f1 lA kl, S]
end Go.Proofs.YtfilgpifiboccaaGreat

/-
  Altitudes and azimuths that are seen, and what holds them. No program here.
-/
import Derived.Test.YtkfkddbglnbjgaaGreatOp
namespace Go.Proofs.YtkfkddbglnbjgaaGreat
open SM TB TA
open Ev (lt keepE)
/-- An altitude and an azimuth are those of a latitude, a declination, and an hour angle. -/
def Sees (x y t h z : Rat) : Prop := -5400000 ≤ h ∧ h ≤ 5400000 ∧ -10800000 ≤ z ∧ z ≤ 16200000 ∧ Cl (5 * e0) (si h) (upT x y t) ∧ Cl eT (co h * co z) (noT x y t) ∧ Cl eT (co h * si z) (eaT y t)
/-- How near results are to the truth. -/
def dS : Rat := pw 230
theorem lv : 0 < e1 ∧ 0 < eT ∧ 0 < dS ∧ 1000 * e1 + 1073741824 * (100 * eT) ≤ 1 / 2 ^ 91 ∧ 100000 * (1000 * e1 + 1073741824 * (100 * eT) + 4 * e1) ≤ pw 275 * pw 275 ∧ 0 ≤ pw 275 ∧ pw 275 ≤ dS ∧ 2 ^ 64 * (1000 * e1 + 1073741824 * (100 * eT) + 2 * e1) ≤ dS ∧ 1000 * e1 + 1073741824 * (100 * eT) ≤ 1 / 4 ∧ 5 * e0 ≤ eT ∧ 1000 * e1 ≤ 1 / 4 := by decide +kernel
theorem TB.Hs.at {a b x : Int} (h1 : a ≤ x) (h2 : x ≤ b) : Hs 0 a b (x : Rat) := Hs.int (by grind) h1 h2
/-- Sines and cosines at angles of arcs. -/
theorem sin_at {a b : Int} {x : Rat} (hv : avalidB a b = true) (h : Hs 0 a b x) : Vl (sinR a b) (5 * e1) (si x) := (sin_v hv (by grind) (by grind) h).wide (by grind)
theorem cos_at {a b : Int} {x : Rat} (hv : avalidB a b = true) (h : Hs 0 a b x) : Vl (cosR a b) (5 * e1) (co x) := (cos_v hv (by grind) (by grind) h).wide (by grind)
/-- What a solution holds. -/
structure Hold (a b c d e f : Int) (H Z : Int × Int × Int) : Prop where
  lat : LatR H
  dir : DirR Z
  form : (Z.1 = 0 ∧ Z.2.1 = 21600000) ∨ Z.2.1 < Z.1 + 21600000
  up : ∀ x y t : Rat, Hs 0 a b x → Hs 0 c d y → Hs 0 e f t → ∀ h z : Rat, Sees x y t h z → Hs dS H.1 H.2.1 h
  az : ∀ x y t : Rat, Hs 0 a b x → Hs 0 c d y → Hs 0 e f t → ∀ h z : Rat, Sees x y t h z → Dr dS Z.1 Z.2.1 z
theorem sees (x y t : Rat) : ∃ h z, Sees x y t h z := truth x y t
theorem co_lat {h : Rat} (h0 : -5400000 ≤ h) (h1 : h ≤ 5400000) : -e0 ≤ co h ∧ co h ≤ 2 := by
  have c := co_ge (q := h) (d := 0) h0 h1 (by grind) (by grind) (by grind)
  rw [show tb * 0 / 2 - e0 = -e0 by grind] at c
  exact ⟨c, (bdq2 h).1.2⟩
/-- A direction's vector of a length that may be a hair below 0. -/
theorem len_pos {ρ z N E : Rat} (h0 : -e0 ≤ ρ) (h1 : ρ ≤ 2) (hn : Cl eT (ρ * co z) N) (he : Cl eT (ρ * si z) E) : ∃ r : Rat, 0 ≤ r ∧ r ≤ 2 ∧ Cl (2 * eT) (r * co z) N ∧ Cl (2 * eT) (r * si z) E := by
  have b := bdq2 z
  have w := lv.2.2.2.2.2.2.2.2.2.1
  have eb := e0_bd
  rcases (Rat.le_total : 0 ≤ ρ ∨ ρ ≤ 0) with c | c
  · exact ⟨ρ, c, h1, hn.wide (by grind), he.wide (by grind)⟩
  · refine ⟨0, by grind, by grind, ?_, ?_⟩
    · have m := mul_abs (a := ρ) (b := co z) (A := e0) (B := 2) h0 (by grind) b.1.1 b.1.2
      unfold Cl at *
      constructor <;> grind
    · have m := mul_abs (a := ρ) (b := si z) (A := e0) (B := 2) h0 (by grind) b.2.1 b.2.2
      unfold Cl at *
      constructor <;> grind
theorem up_v {r : Int × Int × Int} {x y t h z : Rat} (v : Vl r (1000 * e1) (upT x y t)) (s : Sees x y t h z) : LatR (asinR r.1 r.2.1) ∧ Hs dS (asinR r.1 r.2.1).1 (asinR r.1 r.2.1).2.1 h := by
  obtain ⟨w1, w2, w3, w4, w5, w6, w7, w8, w9, w10, w11⟩ := lv
  obtain ⟨h0, h1, z0, z1, k1, k2, k3⟩ := s
  have eb := e0_bd
  have k := asin_v v (k1.wide (f := 100 * eT) (by grind)) h0 h1 (by grind) (by grind) w6 w9 w5
  exact ⟨k.1, k.2.wide w7 (Int.le_refl _) (Int.le_refl _)⟩
theorem az_v {r s : Int × Int × Int} {x y t h z : Rat} (v : Vl r (1000 * e1) (eaT y t)) (w : Vl s (1000 * e1) (noT x y t)) (se : Sees x y t h z) : DirR (bearR r.1 r.2.1 s.1 s.2.1) ∧ Dr dS (bearR r.1 r.2.1 s.1 s.2.1).1 (bearR r.1 r.2.1 s.1 s.2.1).2.1 z := by
  obtain ⟨w1, w2, w3, w4, w5, w6, w7, w8, w9, w10, w11⟩ := lv
  obtain ⟨h0, h1, z0, z1, k1, k2, k3⟩ := se
  have cl := co_lat h0 h1
  obtain ⟨r', r0, r1, rn, re⟩ := len_pos cl.1 cl.2 k2 k3
  have k := bear_v v w (re.wide (f := 100 * eT) (by grind)) (rn.wide (f := 100 * eT) (by grind)) r0 (by grind) (by grind) (by grind) w4
  exact ⟨k.1, k.2.wide w8⟩
end Go.Proofs.YtkfkddbglnbjgaaGreat

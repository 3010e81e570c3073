/-
  The cosine formula holds the true altitude and azimuth. No program here.
-/
import Derived.Test.YtcoopclgfimahaaOp
namespace Go.Proofs.Ytcoopclgfimahaa
open SM TB TA
open Ev (lt keepE)
/-- An altitude and an azimuth are those of a latitude, a declination, and an hour angle. -/
def Sees (x y t h z : Rat) : Prop := -5400000 ≤ h ∧ h ≤ 5400000 ∧ -10800000 ≤ z ∧ z ≤ 16200000 ∧ Cl (5 * e0) (si h) (upT x y t) ∧ Cl eT (co h * co z) (noT x y t) ∧ Cl eT (co h * si z) (eaT y t)
/-- How near results are to the truth. -/
def dS : Rat := 1 / 2 ^ 20
theorem lv : 0 < e1 ∧ 0 < eT ∧ 0 < dS ∧ 1000 * e1 + 1073741824 * (100 * eT) ≤ 1 / 2 ^ 91 ∧ 100000 * (1000 * e1 + 1073741824 * (100 * eT) + 4 * e1) ≤ pw 100 * pw 100 ∧ 0 ≤ pw 100 ∧ pw 100 ≤ dS ∧ 2 ^ 64 * (1000 * e1 + 1073741824 * (100 * eT) + 2 * e1) ≤ dS ∧ 1000 * e1 + 1073741824 * (100 * eT) ≤ 1 / 4 ∧ 5 * e0 ≤ eT ∧ 1000 * e1 ≤ 1 / 4 := by decide +kernel
/-- The altitude's sine, and the azimuth's vector, by the cosine formula. -/
def cupE (a b c d e f : Int) : Int × Int × Int :=
  let m := mulR (sinR a b).1 (sinR a b).2.1 (sinR c d).1 (sinR c d).2.1
  let k := mulR (cosR a b).1 (cosR a b).2.1 (cosR c d).1 (cosR c d).2.1
  let n := mulR k.1 k.2.1 (cosR e f).1 (cosR e f).2.1
  addR m.1 m.2.1 n.1 n.2.1
def cnoE (a b c d e f : Int) : Int × Int × Int :=
  let m := mulR (sinR c d).1 (sinR c d).2.1 (cosR a b).1 (cosR a b).2.1
  let k := mulR (cosR c d).1 (cosR c d).2.1 (cosR e f).1 (cosR e f).2.1
  let n := mulR k.1 k.2.1 (sinR a b).1 (sinR a b).2.1
  subR m.1 m.2.1 n.1 n.2.1
def ceaE (c d e f : Int) : Int × Int × Int :=
  let m := mulR (cosR c d).1 (cosR c d).2.1 (sinR e f).1 (sinR e f).2.1
  negR m.1 m.2.1
theorem TB.Hs.at {a b x : Int} (h1 : a ≤ x) (h2 : x ≤ b) : Hs 0 a b (x : Rat) := Hs.int (by grind) h1 h2
/-- Sines and cosines at angles of arcs. -/
theorem sin_at {a b x : Int} (hv : avalidB a b = true) (h1 : a ≤ x) (h2 : x ≤ b) : Vl (sinR a b) (5 * e1) (si (x : Rat)) := (sin_v hv (by grind) (by grind) (Hs.at h1 h2)).wide (by grind)
theorem cos_at {a b x : Int} (hv : avalidB a b = true) (h1 : a ≤ x) (h2 : x ≤ b) : Vl (cosR a b) (5 * e1) (co (x : Rat)) := (cos_v hv (by grind) (by grind) (Hs.at h1 h2)).wide (by grind)
theorem cup_v {a b c d e f x y t : Int} (h : triB a b c d e f = true) (hx : a ≤ x ∧ x ≤ b) (hy : c ≤ y ∧ y ≤ d) (ht : e ≤ t ∧ t ≤ f) :
    Vl (cupE a b c d e f) (1000 * e1) (upT x y t) ∧ Vl (cnoE a b c d e f) (1000 * e1) (noT x y t) ∧ Vl (ceaE c d e f) (1000 * e1) (eaT y t) := by
  obtain ⟨h1, h2, h3⟩ := tri_bd h
  have l1 := (lat_bd h1).1
  have l2 := (lat_bd h2).1
  obtain ⟨w1, w2, w3, w4, w5, w6, w7, w8, w9, w10, w11⟩ := lv
  have s1 := sin_one l1
  have c1 := cos_one l1
  have s2 := sin_one l2
  have c2 := cos_one l2
  have s3 := sin_one h3
  have c3 := cos_one h3
  have S1 := sin_at l1 hx.1 hx.2
  have C1 := cos_at l1 hx.1 hx.2
  have S2 := sin_at l2 hy.1 hy.2
  have C2 := cos_at l2 hy.1 hy.2
  have S3 := sin_at h3 ht.1 ht.2
  have C3 := cos_at h3 ht.1 ht.2
  have m1 := mul_v s1 s2 (by grind) (by grind) S1 S2
  have k1 := mul_v c1 c2 (by grind) (by grind) C1 C2
  have n1 := mul_v (mul_ones c1 c2) c3 (e := 3 * (5 * e1)) (by grind) (by grind) k1 (C3.wide (by grind))
  have m2 := mul_v s2 c1 (by grind) (by grind) S2 C1
  have k2 := mul_v c2 c3 (by grind) (by grind) C2 C3
  have n2 := mul_v (mul_ones c2 c3) s1 (e := 3 * (5 * e1)) (by grind) (by grind) k2 (S1.wide (by grind))
  have m3 := mul_v c2 s3 (by grind) (by grind) C2 S3
  refine ⟨?_, ?_, ?_⟩
  · exact (add_v (mul_ones s1 s2) (mul_ones (mul_ones c1 c2) c3) m1 n1).wide (by grind)
  · exact (sub_v (mul_ones s2 c1) (mul_ones (mul_ones c2 c3) s1) m2 n2).wide (by grind)
  · exact (neg_v (mul_ones c2 s3) m3).wide (by grind)
theorem cosine_ok {a b c d e f : Int} (h : triB a b c d e f = true) :
    caltM a b c d e f = asinR (cupE a b c d e f).1 (cupE a b c d e f).2.1 ∧ caziM a b c d e f = bearR (ceaE c d e f).1 (ceaE c d e f).2.1 (cnoE a b c d e f).1 (cnoE a b c d e f).2.1 := by
  obtain ⟨h1, h2, h3⟩ := tri_bd h
  have l1 := (lat_bd h1).1
  have l2 := (lat_bd h2).1
  have s1 := sin_one l1
  have c1 := cos_one l1
  have s2 := sin_one l2
  have c2 := cos_one l2
  have s3 := sin_one h3
  have c3 := cos_one h3
  have z : ((0 : Int) != 0) = false := rfl
  constructor
  · unfold caltM cupE
    simp only [lt, csinV, csinC, ccosV, ccosC, cmulV, cmulC, caddV, caddC]
    generalize sinR a b = S1 at *
    generalize cosR a b = C1 at *
    generalize sinR c d = S2 at *
    generalize cosR c d = C2 at *
    generalize sinR e f = S3 at *
    generalize cosR e f = C3 at *
    rw [s1.2.2.2, c1.2.2.2, s2.2.2.2, c2.2.2.2, s3.2.2.2, c3.2.2.2]
    have m1 := mul_ones s1 s2
    have k1 := mul_ones c1 c2
    generalize mulR S1.1 S1.2.1 S2.1 S2.2.1 = M at *
    generalize mulR C1.1 C1.2.1 C2.1 C2.2.1 = K at *
    have n1 := mul_ones k1 c3
    generalize mulR K.1 K.2.1 C3.1 C3.2.1 = N at *
    have a1 := add_ones m1 n1
    rw [m1.2.2.2, k1.2.2.2, n1.2.2.2, a1.1]
    simp only [keep0, z, cond_false]
  · unfold caziM cnoE ceaE
    simp only [lt, csinV, csinC, ccosV, ccosC, cmulV, cmulC, cnegV, cnegC, csubV, csubC]
    generalize sinR a b = S1 at *
    generalize cosR a b = C1 at *
    generalize sinR c d = S2 at *
    generalize cosR c d = C2 at *
    generalize sinR e f = S3 at *
    generalize cosR e f = C3 at *
    rw [s1.2.2.2, c1.2.2.2, s2.2.2.2, c2.2.2.2, s3.2.2.2, c3.2.2.2]
    have m1 := mul_ones c2 s3
    have k1 := mul_ones s2 c1
    have p1 := mul_ones c2 c3
    generalize mulR C2.1 C2.2.1 S3.1 S3.2.1 = M at *
    generalize mulR S2.1 S2.2.1 C1.1 C1.2.1 = K at *
    generalize mulR C2.1 C2.2.1 C3.1 C3.2.1 = P at *
    have n1 := mul_ones p1 s1
    generalize mulR P.1 P.2.1 S1.1 S1.2.1 = N at *
    have a1 := sub_ones k1 n1
    have g1 := neg_one m1
    rw [m1.2.2.2, k1.2.2.2, p1.2.2.2, n1.2.2.2, a1.1, g1.1]
    simp only [keep0, z, cond_false]
/-- What a solution holds. -/
structure Hold (a b c d e f : Int) (H Z : Int × Int × Int) : Prop where
  lat : LatR H
  dir : DirR Z
  up : ∀ x y t : Int, a ≤ x → x ≤ b → c ≤ y → y ≤ d → e ≤ t → t ≤ f → ∀ h z : Rat, Sees x y t h z → Hs dS H.1 H.2.1 h
  az : ∀ x y t : Int, a ≤ x → x ≤ b → c ≤ y → y ≤ d → e ≤ t → t ≤ f → ∀ h z : Rat, Sees x y t h z → Dr dS Z.1 Z.2.1 z
theorem sees (x y t : Rat) : ∃ h z, Sees x y t h z := truth x y t
theorem co_lat {h : Rat} (h0 : -5400000 ≤ h) (h1 : h ≤ 5400000) : -e0 ≤ co h ∧ co h ≤ 2 := by
  have c := co_ge (q := h) (d := 0) h0 h1 (by grind) (by grind) (by grind)
  rw [show tb * 0 / 2 - e0 = -e0 by grind] at c
  exact ⟨c, (bdq2 h).1.2⟩
/-- A direction's vector of a length that may be a hair below 0. -/
theorem len_pos {ρ z N E : Rat} (h0 : -e0 ≤ ρ) (h1 : ρ ≤ 2) (hn : Cl eT (ρ * co z) N) (he : Cl eT (ρ * si z) E) : ∃ r : Rat, 0 ≤ r ∧ r ≤ 2 ∧ Cl (2 * eT) (r * co z) N ∧ Cl (2 * eT) (r * si z) E := by
  have b := bdq2 z
  have w := lv.2.2.2.2.2.2.2.2.2.1
  have eb := e0_bd
  rcases (Rat.le_total : 0 ≤ ρ ∨ ρ ≤ 0) with c | c
  · exact ⟨ρ, c, h1, hn.wide (by grind), he.wide (by grind)⟩
  · refine ⟨0, by grind, by grind, ?_, ?_⟩
    · have m := mul_abs (a := ρ) (b := co z) (A := e0) (B := 2) h0 (by grind) b.1.1 b.1.2
      unfold Cl at *
      constructor <;> grind
    · have m := mul_abs (a := ρ) (b := si z) (A := e0) (B := 2) h0 (by grind) b.2.1 b.2.2
      unfold Cl at *
      constructor <;> grind
theorem up_v {r : Int × Int × Int} {x y t h z : Rat} (v : Vl r (1000 * e1) (upT x y t)) (s : Sees x y t h z) : LatR (asinR r.1 r.2.1) ∧ Hs dS (asinR r.1 r.2.1).1 (asinR r.1 r.2.1).2.1 h := by
  obtain ⟨w1, w2, w3, w4, w5, w6, w7, w8, w9, w10, w11⟩ := lv
  obtain ⟨h0, h1, z0, z1, k1, k2, k3⟩ := s
  have eb := e0_bd
  have k := asin_v v (k1.wide (f := 100 * eT) (by grind)) h0 h1 (by grind) (by grind) w6 w9 w5
  exact ⟨k.1, k.2.wide w7 (Int.le_refl _) (Int.le_refl _)⟩
theorem az_v {r s : Int × Int × Int} {x y t h z : Rat} (v : Vl r (1000 * e1) (eaT y t)) (w : Vl s (1000 * e1) (noT x y t)) (se : Sees x y t h z) : DirR (bearR r.1 r.2.1 s.1 s.2.1) ∧ Dr dS (bearR r.1 r.2.1 s.1 s.2.1).1 (bearR r.1 r.2.1 s.1 s.2.1).2.1 z := by
  obtain ⟨w1, w2, w3, w4, w5, w6, w7, w8, w9, w10, w11⟩ := lv
  obtain ⟨h0, h1, z0, z1, k1, k2, k3⟩ := se
  have cl := co_lat h0 h1
  obtain ⟨r', r0, r1, rn, re⟩ := len_pos cl.1 cl.2 k2 k3
  have k := bear_v v w (re.wide (f := 100 * eT) (by grind)) (rn.wide (f := 100 * eT) (by grind)) r0 (by grind) (by grind) (by grind) w4
  exact ⟨k.1, k.2.wide w8⟩
theorem cosine_hold {a b c d e f : Int} (h : triB a b c d e f = true) : ∃ H Z : Int × Int × Int, csolM a b c d e f = (H.1, H.2.1, Z.1, Z.2.1, 0) ∧ cAltM a b c d e f = H ∧ Hold a b c d e f H Z := by
  obtain ⟨h1, h2, h3⟩ := tri_bd h
  have l1 := lat_bd h1
  have l2 := lat_bd h2
  have l3 := aval_bd h3
  obtain ⟨e1, e2⟩ := cosine_ok h
  have v0 := cup_v (x := a) (y := c) (t := e) h ⟨Int.le_refl _, by omega⟩ ⟨Int.le_refl _, by omega⟩ ⟨Int.le_refl _, by omega⟩
  obtain ⟨h', z', s'⟩ := sees a c e
  have L := (up_v v0.1 s').1
  have D := (az_v v0.2.2 v0.2.1 s').1
  have a1 : cAltM a b c d e f = caltM a b c d e f := by
    unfold cAltM
    rw [h]
    rfl
  have a2 : cAziM a b c d e f = caziM a b c d e f := by
    unfold cAziM
    rw [h]
    rfl
  refine ⟨asinR (cupE a b c d e f).1 (cupE a b c d e f).2.1, bearR (ceaE c d e f).1 (ceaE c d e f).2.1 (cnoE a b c d e f).1 (cnoE a b c d e f).2.1, ?_, ?_, L, D, ?_, ?_⟩
  · unfold csolM
    rw [a1, a2, e1, e2]
    have z : ((0 : Int) != 0) = false := rfl
    simp only [lt]
    rw [L.2.2.2, D.2.2.2.2, z]
    rfl
  · rw [a1, e1]
  · intro x y t x0 x1 y0 y1 t0 t1 h' z' s'
    exact (up_v (cup_v h ⟨x0, x1⟩ ⟨y0, y1⟩ ⟨t0, t1⟩).1 s').2
  · intro x y t x0 x1 y0 y1 t0 t1 h' z' s'
    have v := cup_v h ⟨x0, x1⟩ ⟨y0, y1⟩ ⟨t0, t1⟩
    exact (az_v v.2.2 v.2.1 s').2
end Go.Proofs.Ytcoopclgfimahaa

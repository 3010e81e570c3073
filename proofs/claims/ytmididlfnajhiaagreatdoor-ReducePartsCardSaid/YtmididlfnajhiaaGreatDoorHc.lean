/-
  The cosine formula holds the true altitude and azimuth. No program here.
-/
import Derived.Test.YtmididlfnajhiaaGreatDoorHd
namespace Go.Proofs.YtmididlfnajhiaaGreatDoor
open SM TB TA
open Ev (lt keepE)
def cupE (a b c d e f : Int) : Int × Int × Int :=
  let m := mulR (sinR a b).1 (sinR a b).2.1 (sinR c d).1 (sinR c d).2.1
  let k := mulR (cosR a b).1 (cosR a b).2.1 (cosR c d).1 (cosR c d).2.1
  let n := mulR k.1 k.2.1 (cosR e f).1 (cosR e f).2.1
  addR m.1 m.2.1 n.1 n.2.1
def cnoE (a b c d e f : Int) : Int × Int × Int :=
  let m := mulR (sinR c d).1 (sinR c d).2.1 (cosR a b).1 (cosR a b).2.1
  let k := mulR (cosR c d).1 (cosR c d).2.1 (cosR e f).1 (cosR e f).2.1
  let n := mulR k.1 k.2.1 (sinR a b).1 (sinR a b).2.1
  subR m.1 m.2.1 n.1 n.2.1
def ceaE (c d e f : Int) : Int × Int × Int :=
  let m := mulR (cosR c d).1 (cosR c d).2.1 (sinR e f).1 (sinR e f).2.1
  negR m.1 m.2.1
theorem cup_v {a b c d e f : Int} {x y t : Rat} (h : triB a b c d e f = true) (hx : Hs 0 a b x) (hy : Hs 0 c d y) (ht : Hs 0 e f t) :
    Vl (cupE a b c d e f) (1000 * e1) (upT x y t) ∧ Vl (cnoE a b c d e f) (1000 * e1) (noT x y t) ∧ Vl (ceaE c d e f) (1000 * e1) (eaT y t) := by
  obtain ⟨h1, h2, h3⟩ := tri_bd h
  have l1 := (lat_bd h1).1
  have l2 := (lat_bd h2).1
  obtain ⟨w1, w2, w3, w4, w5, w6, w7, w8, w9, w10, w11⟩ := lv
  have s1 := sin_one l1
  have c1 := cos_one l1
  have s2 := sin_one l2
  have c2 := cos_one l2
  have s3 := sin_one h3
  have c3 := cos_one h3
  have S1 := sin_at l1 hx
  have C1 := cos_at l1 hx
  have S2 := sin_at l2 hy
  have C2 := cos_at l2 hy
  have S3 := sin_at h3 ht
  have C3 := cos_at h3 ht
  have m1 := mul_v s1 s2 (by grind) (by grind) S1 S2
  have k1 := mul_v c1 c2 (by grind) (by grind) C1 C2
  have n1 := mul_v (mul_ones c1 c2) c3 (e := 3 * (5 * e1)) (by grind) (by grind) k1 (C3.wide (by grind))
  have m2 := mul_v s2 c1 (by grind) (by grind) S2 C1
  have k2 := mul_v c2 c3 (by grind) (by grind) C2 C3
  have n2 := mul_v (mul_ones c2 c3) s1 (e := 3 * (5 * e1)) (by grind) (by grind) k2 (S1.wide (by grind))
  have m3 := mul_v c2 s3 (by grind) (by grind) C2 S3
  refine ⟨?_, ?_, ?_⟩
  · exact (add_v (mul_ones s1 s2) (mul_ones (mul_ones c1 c2) c3) m1 n1).wide (by grind)
  · exact (sub_v (mul_ones s2 c1) (mul_ones (mul_ones c2 c3) s1) m2 n2).wide (by grind)
  · exact (neg_v (mul_ones c2 s3) m3).wide (by grind)
theorem cosine_ok {a b c d e f : Int} (h : triB a b c d e f = true) :
    caltM a b c d e f = asinR (cupE a b c d e f).1 (cupE a b c d e f).2.1 ∧ caziM a b c d e f = bearR (ceaE c d e f).1 (ceaE c d e f).2.1 (cnoE a b c d e f).1 (cnoE a b c d e f).2.1 := by
  obtain ⟨h1, h2, h3⟩ := tri_bd h
  have l1 := (lat_bd h1).1
  have l2 := (lat_bd h2).1
  have s1 := sin_one l1
  have c1 := cos_one l1
  have s2 := sin_one l2
  have c2 := cos_one l2
  have s3 := sin_one h3
  have c3 := cos_one h3
  have z : ((0 : Int) != 0) = false := rfl
  constructor
  · unfold caltM cupE
    simp only [lt, csinV, csinC, ccosV, ccosC, cmulV, cmulC, caddV, caddC]
    generalize sinR a b = S1 at *
    generalize cosR a b = C1 at *
    generalize sinR c d = S2 at *
    generalize cosR c d = C2 at *
    generalize sinR e f = S3 at *
    generalize cosR e f = C3 at *
    rw [s1.2.2.2, c1.2.2.2, s2.2.2.2, c2.2.2.2, s3.2.2.2, c3.2.2.2]
    have m1 := mul_ones s1 s2
    have k1 := mul_ones c1 c2
    generalize mulR S1.1 S1.2.1 S2.1 S2.2.1 = M at *
    generalize mulR C1.1 C1.2.1 C2.1 C2.2.1 = K at *
    have n1 := mul_ones k1 c3
    generalize mulR K.1 K.2.1 C3.1 C3.2.1 = N at *
    have a1 := add_ones m1 n1
    rw [m1.2.2.2, k1.2.2.2, n1.2.2.2, a1.1]
    simp only [keep0, z, cond_false]
  · unfold caziM cnoE ceaE
    simp only [lt, csinV, csinC, ccosV, ccosC, cmulV, cmulC, cnegV, cnegC, csubV, csubC]
    generalize sinR a b = S1 at *
    generalize cosR a b = C1 at *
    generalize sinR c d = S2 at *
    generalize cosR c d = C2 at *
    generalize sinR e f = S3 at *
    generalize cosR e f = C3 at *
    rw [s1.2.2.2, c1.2.2.2, s2.2.2.2, c2.2.2.2, s3.2.2.2, c3.2.2.2]
    have m1 := mul_ones c2 s3
    have k1 := mul_ones s2 c1
    have p1 := mul_ones c2 c3
    generalize mulR C2.1 C2.2.1 S3.1 S3.2.1 = M at *
    generalize mulR S2.1 S2.2.1 C1.1 C1.2.1 = K at *
    generalize mulR C2.1 C2.2.1 C3.1 C3.2.1 = P at *
    have n1 := mul_ones p1 s1
    generalize mulR P.1 P.2.1 S1.1 S1.2.1 = N at *
    have a1 := sub_ones k1 n1
    have g1 := neg_one m1
    rw [m1.2.2.2, k1.2.2.2, p1.2.2.2, n1.2.2.2, a1.1, g1.1]
    simp only [keep0, z, cond_false]
theorem cosine_hold {a b c d e f : Int} (h : triB a b c d e f = true) : ∃ H Z : Int × Int × Int, csolM a b c d e f = (H.1, H.2.1, Z.1, Z.2.1, 0) ∧ cAltM a b c d e f = H ∧ Hold a b c d e f H Z := by
  obtain ⟨h1, h2, h3⟩ := tri_bd h
  have l1 := lat_bd h1
  have l2 := lat_bd h2
  have l3 := aval_bd h3
  obtain ⟨e1, e2⟩ := cosine_ok h
  have v0 := cup_v h (Hs.at (Int.le_refl a) (by omega)) (Hs.at (Int.le_refl c) (by omega)) (Hs.at (Int.le_refl e) (by omega))
  obtain ⟨h', z', s'⟩ := sees a c e
  have L := (up_v v0.1 s').1
  have D := (az_v v0.2.2 v0.2.1 s').1
  have a1 : cAltM a b c d e f = caltM a b c d e f := by
    unfold cAltM
    rw [h]
    rfl
  have a2 : cAziM a b c d e f = caziM a b c d e f := by
    unfold cAziM
    rw [h]
    rfl
  refine ⟨asinR (cupE a b c d e f).1 (cupE a b c d e f).2.1, bearR (ceaE c d e f).1 (ceaE c d e f).2.1 (cnoE a b c d e f).1 (cnoE a b c d e f).2.1, ?_, ?_, L, D, bear_form v0.2.2.2.1 v0.2.1.2.1, ?_, ?_⟩
  · unfold csolM
    rw [a1, a2, e1, e2]
    have z : ((0 : Int) != 0) = false := rfl
    simp only [lt]
    rw [L.2.2.2, D.2.2.2.2, z]
    rfl
  · rw [a1, e1]
  · intro x y t x0 y0 t0 h' z' s'
    exact (up_v (cup_v h x0 y0 t0).1 s').2
  · intro x y t x0 y0 t0 h' z' s'
    have v := cup_v h x0 y0 t0
    exact (az_v v.2.2 v.2.1 s').2
end Go.Proofs.YtmididlfnajhiaaGreatDoor

/-
  The cosine formula holds the true altitude and azimuth. No program here. Haversines and quotients: what they hold; the signs of sines. No program here. Circles of position: sines of arcs a turn away, sides of parts, altitudes beside the circle. No program here. Circles of position: how far a point within a circle is from its centre, in latitude and in longitude. No program here. Circles of position: the point at a bearing holds the true one, and is neither surely inside nor outside. No program here. Circles of position: the bounds contain what is inside, and meet the points of the circle. No program here.
-/
import Derived.Test.YtfilgpifiboccaaGreatHd
namespace Go.Proofs.YtfilgpifiboccaaGreat
open SM TB TA
open Ev (lt keepE)
/-- The altitude's sine, and the azimuth's vector, by the cosine formula. -/
def cupE (a b c d e f : Int) : Int × Int × Int :=
  let m := mulR (sinR a b).1 (sinR a b).2.1 (sinR c d).1 (sinR c d).2.1
  let k := mulR (cosR a b).1 (cosR a b).2.1 (cosR c d).1 (cosR c d).2.1
  let n := mulR k.1 k.2.1 (cosR e f).1 (cosR e f).2.1
  addR m.1 m.2.1 n.1 n.2.1
def cnoE (a b c d e f : Int) : Int × Int × Int :=
  let m := mulR (sinR c d).1 (sinR c d).2.1 (cosR a b).1 (cosR a b).2.1
  let k := mulR (cosR c d).1 (cosR c d).2.1 (cosR e f).1 (cosR e f).2.1
  let n := mulR k.1 k.2.1 (sinR a b).1 (sinR a b).2.1
  subR m.1 m.2.1 n.1 n.2.1
def ceaE (c d e f : Int) : Int × Int × Int :=
  let m := mulR (cosR c d).1 (cosR c d).2.1 (sinR e f).1 (sinR e f).2.1
  negR m.1 m.2.1
theorem cup_v {a b c d e f : Int} {x y t : Rat} (h : triB a b c d e f = true) (hx : Hs 0 a b x) (hy : Hs 0 c d y) (ht : Hs 0 e f t) :
    Vl (cupE a b c d e f) (1000 * e1) (upT x y t) ∧ Vl (cnoE a b c d e f) (1000 * e1) (noT x y t) ∧ Vl (ceaE c d e f) (1000 * e1) (eaT y t) := by
  obtain ⟨h1, h2, h3⟩ := tri_bd h
  have l1 := (lat_bd h1).1
  have l2 := (lat_bd h2).1
  obtain ⟨w1, w2, w3, w4, w5, w6, w7, w8, w9, w10, w11⟩ := lv
  have s1 := sin_one l1
  have c1 := cos_one l1
  have s2 := sin_one l2
  have c2 := cos_one l2
  have s3 := sin_one h3
  have c3 := cos_one h3
  have S1 := sin_at l1 hx
  have C1 := cos_at l1 hx
  have S2 := sin_at l2 hy
  have C2 := cos_at l2 hy
  have S3 := sin_at h3 ht
  have C3 := cos_at h3 ht
  have m1 := mul_v s1 s2 (by grind) (by grind) S1 S2
  have k1 := mul_v c1 c2 (by grind) (by grind) C1 C2
  have n1 := mul_v (mul_ones c1 c2) c3 (e := 3 * (5 * e1)) (by grind) (by grind) k1 (C3.wide (by grind))
  have m2 := mul_v s2 c1 (by grind) (by grind) S2 C1
  have k2 := mul_v c2 c3 (by grind) (by grind) C2 C3
  have n2 := mul_v (mul_ones c2 c3) s1 (e := 3 * (5 * e1)) (by grind) (by grind) k2 (S1.wide (by grind))
  have m3 := mul_v c2 s3 (by grind) (by grind) C2 S3
  refine ⟨?_, ?_, ?_⟩
  · exact (add_v (mul_ones s1 s2) (mul_ones (mul_ones c1 c2) c3) m1 n1).wide (by grind)
  · exact (sub_v (mul_ones s2 c1) (mul_ones (mul_ones c2 c3) s1) m2 n2).wide (by grind)
  · exact (neg_v (mul_ones c2 s3) m3).wide (by grind)
theorem cosine_ok {a b c d e f : Int} (h : triB a b c d e f = true) :
    caltM a b c d e f = asinR (cupE a b c d e f).1 (cupE a b c d e f).2.1 ∧ caziM a b c d e f = bearR (ceaE c d e f).1 (ceaE c d e f).2.1 (cnoE a b c d e f).1 (cnoE a b c d e f).2.1 := by
  obtain ⟨h1, h2, h3⟩ := tri_bd h
  have l1 := (lat_bd h1).1
  have l2 := (lat_bd h2).1
  have s1 := sin_one l1
  have c1 := cos_one l1
  have s2 := sin_one l2
  have c2 := cos_one l2
  have s3 := sin_one h3
  have c3 := cos_one h3
  have z : ((0 : Int) != 0) = false := rfl
  constructor
  · unfold caltM caltMK cupE
    simp only [lt, csinV, csinC, ccosV, ccosC, cmulV, cmulC, caddV, caddC]
    generalize sinR a b = S1 at *
    generalize cosR a b = C1 at *
    generalize sinR c d = S2 at *
    generalize cosR c d = C2 at *
    generalize sinR e f = S3 at *
    generalize cosR e f = C3 at *
    rw [s1.2.2.2, c1.2.2.2, s2.2.2.2, c2.2.2.2, s3.2.2.2, c3.2.2.2]
    have m1 := mul_ones s1 s2
    have k1 := mul_ones c1 c2
    generalize mulR S1.1 S1.2.1 S2.1 S2.2.1 = M at *
    generalize mulR C1.1 C1.2.1 C2.1 C2.2.1 = K at *
    have n1 := mul_ones k1 c3
    generalize mulR K.1 K.2.1 C3.1 C3.2.1 = N at *
    have a1 := add_ones m1 n1
    rw [m1.2.2.2, k1.2.2.2, n1.2.2.2, a1.1]
    simp only [keep0, z, cond_false]
  · unfold caziM caziMK cnoE ceaE
    simp only [lt, csinV, csinC, ccosV, ccosC, cmulV, cmulC, cnegV, cnegC, csubV, csubC]
    generalize sinR a b = S1 at *
    generalize cosR a b = C1 at *
    generalize sinR c d = S2 at *
    generalize cosR c d = C2 at *
    generalize sinR e f = S3 at *
    generalize cosR e f = C3 at *
    rw [s1.2.2.2, c1.2.2.2, s2.2.2.2, c2.2.2.2, s3.2.2.2, c3.2.2.2]
    have m1 := mul_ones c2 s3
    have k1 := mul_ones s2 c1
    have p1 := mul_ones c2 c3
    generalize mulR C2.1 C2.2.1 S3.1 S3.2.1 = M at *
    generalize mulR S2.1 S2.2.1 C1.1 C1.2.1 = K at *
    generalize mulR C2.1 C2.2.1 C3.1 C3.2.1 = P at *
    have n1 := mul_ones p1 s1
    generalize mulR P.1 P.2.1 S1.1 S1.2.1 = N at *
    have a1 := sub_ones k1 n1
    have g1 := neg_one m1
    rw [m1.2.2.2, k1.2.2.2, p1.2.2.2, n1.2.2.2, a1.1, g1.1]
    simp only [keep0, z, cond_false]
end Go.Proofs.YtfilgpifiboccaaGreat
namespace Go.Proofs.YtfilgpifiboccaaGreat
open SM TB TA
open Ev (lt keepE)
theorem div_err {a b c d : Int} (h1 : validB a b = true) (h2 : validB c d = true) (hz : ¬ (c ≤ 0 ∧ 0 ≤ d)) : (divR a b c d).2.2 = 0 ∨ (divR a b c d).2.2 = 5 := by
  unfold divR
  rw [if_pos (both_mk h1 h2), if_neg (by simp [zeroB]; omega)]
  unfold fitR
  split <;> simp
theorem asn_low : asn (-1073741824) = -5400000 := asn_eq (by omega) ⟨by omega, by omega, by decide +kernel, .inr (by decide +kernel)⟩
end Go.Proofs.YtfilgpifiboccaaGreat
namespace Go.Proofs.YtfilgpifiboccaaGreat
open SM TB TA
open Ev (lt keepE)
/-! ### Whole turns -/
/-! ### Longitudes -/
def sgnd (n : Int) : Int := if 10800000 ≤ n % 21600000 then n % 21600000 - 21600000 else n % 21600000
def lonL (a b : Int) : Int := if 21600000 ≤ b - a then -10800000 else sgnd a
def lonH (a b : Int) : Int := if 21600000 ≤ b - a then 10800000 else sgnd a + (b - a)
theorem sgnd_bd (n : Int) : -10800000 ≤ sgnd n ∧ sgnd n < 10800000 ∧ ∃ k : Int, sgnd n = n + 21600000 * k := by
  have m0 := Int.emod_nonneg n (show (21600000 : Int) ≠ 0 by omega)
  have m1 := Int.emod_lt_of_pos n (show (0 : Int) < 21600000 by omega)
  unfold sgnd
  split
  · exact ⟨by omega, by omega, -(n / 21600000) - 1, by omega⟩
  · exact ⟨by omega, by omega, -(n / 21600000), by omega⟩
theorem lon_bd {a b : Int} (h : a ≤ b) : -10800000 ≤ lonL a b ∧ lonL a b ≤ lonH a b ∧ ((lonL a b = -10800000 ∧ lonH a b = 10800000) ∨ (lonL a b < 10800000 ∧ lonH a b - lonL a b < 21600000)) := by
  have s := sgnd_bd a
  unfold lonL lonH
  split
  · exact ⟨by omega, by omega, .inl ⟨rfl, rfl⟩⟩
  · exact ⟨s.1, by omega, .inr ⟨by omega, by omega⟩⟩
/-! ### Sides -/
/-! ### Altitudes -/
end Go.Proofs.YtfilgpifiboccaaGreat
namespace Go.Proofs.YtfilgpifiboccaaGreat
open SM TB TA
end Go.Proofs.YtfilgpifiboccaaGreat
namespace Go.Proofs.YtfilgpifiboccaaGreat
open SM TB TA
def mulW (r s : Int × Int × Int) : Int × Int × Int := mulR r.1 r.2.1 s.1 s.2.1
/-- The sine of the latitude, and the vector of the difference of longitude, of the point at a bearing. -/
def atU (a b p q u v : Int) : Int × Int × Int := addR (mulW (sinR a b) (cosR p q)).1 (mulW (sinR a b) (cosR p q)).2.1 (mulW (mulW (cosR a b) (sinR p q)) (cosR u v)).1 (mulW (mulW (cosR a b) (sinR p q)) (cosR u v)).2.1
def atE (p q u v : Int) : Int × Int × Int := mulW (sinR p q) (sinR u v)
def atN (a b p q u v : Int) : Int × Int × Int := subR (mulW (cosR p q) (cosR a b)).1 (mulW (cosR p q) (cosR a b)).2.1 (mulW (mulW (sinR p q) (sinR a b)) (cosR u v)).1 (mulW (mulW (sinR p q) (sinR a b)) (cosR u v)).2.1
theorem lvAt : 5 * e1 ≤ 1 / 4 ∧ 1073741824 * (10 * e0) ≤ e1 ∧ 0 < e1 ∧ 0 < dS ∧ 2000 * dS + 5 * e1 ≤ pw 215 ∧ 0 < pw 215 ∧ 12 * pw 215 + 1073741824 * (40 * eT) ≤ 1 / 8 ∧ 100000000000000 * (40 * eT + 60 * e0) ≤ pw 270 * pw 270 ∧ 0 < pw 270 ∧ pw 270 ≤ 1 / 8 ∧ dS ≤ 1 / 8 ∧ 5 * e0 ≤ eT ∧ 100 * e0 ≤ eT ∧ 0 < eT ∧ 40 * eT ≤ 1 / 2 ^ 60 ∧ pw 215 ≤ 1 / 100 := by decide +kernel
/-- The point at a bearing, as a body seen: what the vector holds. -/
theorem at_v {a b p q u v : Int} {γ R β : Rat} (ha : avalidB a b = true) (hp : avalidB p q = true) (hu : avalidB u v = true) (kγ : Hs 0 a b γ) (kR : Hs 0 p q R) (kβ : Hs 0 u v β) :
    Vl (atU a b p q u v) (1000 * e1) (upT γ (5400000 - R) (-β)) ∧ Vl (atE p q u v) (1000 * e1) (eaT (5400000 - R) (-β)) ∧ Vl (atN a b p q u v) (1000 * e1) (noT γ (5400000 - R) (-β)) := by
  obtain ⟨w1, w2, w3, _⟩ := lvAt
  have s1 := sin_at ha kγ
  have c1 := cos_at ha kγ
  have s2 := sin_at hp kR
  have c2 := cos_at hp kR
  have s3 := sin_at hu kβ
  have c3 := cos_at hu kβ
  have os1 := sin_one ha
  have oc1 := cos_one ha
  have os2 := sin_one hp
  have oc2 := cos_one hp
  have os3 := sin_one hu
  have oc3 := cos_one hu
  have q1 := coq R
  have q2 := negq β
  have ub := u0_bd
  have ee : e0 = 1048576 * u0 := rfl
  have eb := e0_bd
  have bγ := bdq2 γ
  have bR := bdq2 R
  have bβ := bdq2 β
  have bR' := bdq2 (5400000 - R)
  have bβ' := bdq2 (-β)
  refine ⟨?_, ?_, ?_⟩
  · have m1 := mul_v os1 oc2 (by grind) w1 s1 c2
    have m2 := mul_v oc1 os2 (by grind) w1 c1 s2
    have m3 := mul_v (mul_ones oc1 os2) oc3 (e := 3 * (5 * e1)) (by grind) (by have := e1_bd; grind) m2 (c3.wide (by grind))
    have ad := add_v (mul_ones os1 oc2) (mul_ones (mul_ones oc1 os2) oc3) m1 m3
    have n1 := Cl.mul 2 2 (Cl.refl (si γ) (e := 0) (by grind)) q1.1 bR'.2 bγ.2
    have n2 := Cl.mul 2 2 (Cl.refl (co γ) (e := 0) (by grind)) q1.2 bR'.1 bγ.1
    have n4 := mul_abs (a := co γ) (b := si R) (A := 2) (B := 2) bγ.1.1 bγ.1.2 bR.2.1 bR.2.2
    have n3 := Cl.mul 2 4 n2 q2.1 bβ'.1 (by grind)
    have key : Cl e0 (upT γ (5400000 - R) (-β)) (si γ * co R + co γ * si R * co β) := by
      unfold upT
      generalize si γ * si (5400000 - R) = x1 at *
      generalize co γ * co (5400000 - R) * co (-β) = x2 at *
      generalize si γ * co R = x3 at *
      generalize co γ * si R * co β = x4 at *
      clear n2 q1 q2
      unfold Cl at *
      constructor <;> grind
    exact (ad.near key).wide (by grind)
  · have m1 := mul_v os2 os3 (by grind) w1 s2 s3
    have n1 := Cl.mul 2 2 q1.2 q2.2 bβ'.2 bR.2
    have key : Cl e0 (eaT (5400000 - R) (-β)) (si R * si β) := by
      unfold eaT
      rw [show si R * -si β = -(si R * si β) by grind] at n1
      generalize co (5400000 - R) * si (-β) = x1 at *
      generalize si R * si β = x2 at *
      unfold Cl at n1 ⊢
      constructor <;> grind
    exact (m1.near key).wide (by grind)
  · have m1 := mul_v oc2 oc1 (by grind) w1 c2 c1
    have m2 := mul_v os2 os1 (by grind) w1 s2 s1
    have m3 := mul_v (mul_ones os2 os1) oc3 (e := 3 * (5 * e1)) (by grind) (by have := e1_bd; grind) m2 (c3.wide (by grind))
    have ad := sub_v (mul_ones oc2 oc1) (mul_ones (mul_ones os2 os1) oc3) m1 m3
    have n1 := Cl.mul 2 2 q1.1 (Cl.refl (co γ) (e := 0) (by grind)) bγ.1 bR.1
    have n2 := Cl.mul 2 2 q1.2 q2.1 bβ'.1 bR.2
    have n4 := mul_abs (a := si R) (b := co β) (A := 2) (B := 2) bR.2.1 bR.2.2 bβ.1.1 bβ.1.2
    have n3 := Cl.mul 2 4 n2 (Cl.refl (si γ) (e := 0) (by grind)) bγ.2 (by grind)
    have key : Cl e0 (noT γ (5400000 - R) (-β)) (co R * co γ - si R * si γ * co β) := by
      unfold noT
      rw [show si R * co β * si γ = si R * si γ * co β by grind] at n3
      generalize si (5400000 - R) * co γ = x1 at *
      generalize co (5400000 - R) * co (-β) * si γ = x2 at *
      generalize co R * co γ = x3 at *
      generalize si R * si γ * co β = x4 at *
      clear n2 q1 q2
      unfold Cl at *
      constructor <;> grind
    exact (ad.near key).wide (by grind)
end Go.Proofs.YtfilgpifiboccaaGreat
namespace Go.Proofs.YtfilgpifiboccaaGreat
open SM TB TA
end Go.Proofs.YtfilgpifiboccaaGreat

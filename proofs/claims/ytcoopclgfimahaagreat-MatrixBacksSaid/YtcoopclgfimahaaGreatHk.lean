/-
  Back by rotated vectors: no error comes; declination and hour angle are found again. No program here.
-/
import Derived.Test.YtcoopclgfimahaaGreatHm
namespace Go.Proofs.YtcoopclgfimahaaGreat
open SM TB TA
open Ev (lt keepE)
theorem mlat_eq (a b : Int) : mlatM a b = latB a b := by
  unfold mlatM latB
  cases avalidB a b
  · rfl
  · by_cases h : a ≥ -5400000
    · rw [decide_eq_true h]; rfl
    · rw [decide_eq_false h]; rfl
/-- The vector to the pole, and to the meridian. -/
def bnE (c d e f : Int) : Int × Int × Int := mulR (cosR c d).1 (cosR c d).2.1 (cosR e f).1 (cosR e f).2.1
def beE (c d e f : Int) : Int × Int × Int := mulR (cosR c d).1 (cosR c d).2.1 (sinR e f).1 (sinR e f).2.1
def bupE (a b c d e f : Int) : Int × Int × Int :=
  let m := mulR (sinR c d).1 (sinR c d).2.1 (sinR a b).1 (sinR a b).2.1
  let n := mulR (bnE c d e f).1 (bnE c d e f).2.1 (cosR a b).1 (cosR a b).2.1
  addR m.1 m.2.1 n.1 n.2.1
def bnoE (a b c d e f : Int) : Int × Int × Int :=
  let m := mulR (sinR c d).1 (sinR c d).2.1 (cosR a b).1 (cosR a b).2.1
  let n := mulR (bnE c d e f).1 (bnE c d e f).2.1 (sinR a b).1 (sinR a b).2.1
  subR m.1 m.2.1 n.1 n.2.1
def beaE (c d e f : Int) : Int × Int × Int := negR (beE c d e f).1 (beE c d e f).2.1
noncomputable def bdeE (a b c d e f : Int) : Int × Int × Int := asinR (bupE a b c d e f).1 (bupE a b c d e f).2.1
def blhE (a b c d e f : Int) : Int × Int × Int := bearR (beaE c d e f).1 (beaE c d e f).2.1 (bnoE a b c d e f).1 (bnoE a b c d e f).2.1
def eB : Rat := pw 216
def dB : Rat := pw 95
theorem lvB : 0 < eB ∧ 2000 * dS + 5 * e1 ≤ eB ∧ dS ≤ 1 ∧ 5 * e1 ≤ eB ∧ 100 * eB ≤ 1 / 4 ∧ 100000 * (100 * eB + 1073741824 * (100 * eT) + 4 * e1) ≤ dB * dB ∧ 0 ≤ dB ∧ 100 * eB + 1073741824 * (100 * eT) ≤ 1 / 2 ^ 91 ∧ 2 ^ 64 * (100 * eB + 1073741824 * (100 * eT) + 2 * e1) ≤ dB ∧ dB ≤ 1 / 8 ∧ 5 * e0 ≤ eT ∧ 16384 * u0 ≤ eT ∧ 0 < dS := by decide +kernel
theorem bup_v {a b c d e f : Int} {x h z : Rat} (h1 : latB a b = true) (h2 : latB c d = true) (h3 : avalidB e f = true) (hx : Hs 0 a b x) (hh : Hs dS c d h) (hz : Dr dS e f z) :
    Vl (bupE a b c d e f) (100 * eB) (si h * si x + co h * co z * co x) ∧ Vl (bnoE a b c d e f) (100 * eB) (si h * co x - co h * co z * si x) ∧ Vl (beaE c d e f) (100 * eB) (-(co h * si z)) := by
  obtain ⟨w1, w2, w3, w4, w5, w6, w7, w8, w9, w10, w11, w12, w13⟩ := lvB
  have l1 := (lat_bd h1).1
  have l2 := (lat_bd h2).1
  have s1 := sin_one l1
  have c1 := cos_one l1
  have s2 := sin_one l2
  have c2 := cos_one l2
  have s3 := sin_one h3
  have c3 := cos_one h3
  have S1 := (sin_at l1 hx).wide w4
  have C1 := (cos_at l1 hx).wide w4
  have S2 := (sin_v l2 (by grind) w3 hh).wide w2
  have C2 := (cos_v l2 (by grind) w3 hh).wide w2
  obtain ⟨m, hz⟩ := hz
  have S3 := (sin_v h3 (by grind) w3 hz).wide w2
  have C3 := (cos_v h3 (by grind) w3 hz).wide w2
  have tq := turn_eq z m
  rw [tq.2] at S3
  rw [tq.1] at C3
  have n1 := mul_v c2 c3 (by grind) (by grind) C2 C3
  have n2 := mul_v c2 s3 (by grind) (by grind) C2 S3
  have m1 := mul_v s2 s1 (by grind) (by grind) S2 S1
  have m2 := mul_v (mul_ones c2 c3) c1 (e := 3 * eB) (by grind) (by grind) n1 (C1.wide (by grind))
  have m3 := mul_v s2 c1 (by grind) (by grind) S2 C1
  have m4 := mul_v (mul_ones c2 c3) s1 (e := 3 * eB) (by grind) (by grind) n1 (S1.wide (by grind))
  refine ⟨?_, ?_, ?_⟩
  · exact (add_v (mul_ones s2 s1) (mul_ones (mul_ones c2 c3) c1) m1 m2).wide (by grind)
  · exact (sub_v (mul_ones s2 c1) (mul_ones (mul_ones c2 c3) s1) m3 m4).wide (by grind)
  · exact (neg_v (mul_ones c2 s3) n2).wide (by grind)
/-- No error comes. -/
theorem bak_ok {a b c d e f : Int} (h1 : latB a b = true) (h2 : latB c d = true) (h3 : avalidB e f = true) :
    bakM a b c d e f = ((bdeE a b c d e f).1, (bdeE a b c d e f).2.1, (blhE a b c d e f).1, (blhE a b c d e f).2.1, 0) ∧ LatR (bdeE a b c d e f) ∧ DirR (blhE a b c d e f) := by
  have l1 := lat_bd h1
  have l2 := lat_bd h2
  have l3 := aval_bd h3
  have hx := Hs.at (Int.le_refl a) (show a ≤ b by omega)
  have hy := Hs.at (Int.le_refl c) (show c ≤ d by omega)
  have ht := Hs.at (Int.le_refl e) (show e ≤ f by omega)
  obtain ⟨w1, w2, w3, w4, w5, w6, w7, w8, w9, w10, w11, w12, w13⟩ := lvB
  have t0 := lv.2.1
  have eb := e0_bd
  -- a declination of this latitude, altitude and azimuth
  obtain ⟨y', t', y0, y1, _, _, q1, q2, q3⟩ := sees (a : Rat) (c : Rat) (e : Rat)
  have hz : Dr dS e f (e : Rat) := ⟨0, by rw [show ((0 : Int) : Rat) = 0 by rfl, show (e : Rat) + 21600000 * 0 = (e : Rat) by grind]; exact ht.wide (by grind) (Int.le_refl _) (Int.le_refl _)⟩
  obtain ⟨v1, v2, v3⟩ := bup_v h1 h2 h3 hx (hy.wide (by grind) (Int.le_refl _) (Int.le_refl _)) hz
  have cq : Cl (100 * eT) (si y') (si (c : Rat) * si (a : Rat) + co (c : Rat) * co (e : Rat) * co (a : Rat)) := by
    have : upT (a : Rat) (c : Rat) (e : Rat) = si (c : Rat) * si (a : Rat) + co (c : Rat) * co (e : Rat) * co (a : Rat) := by unfold upT; grind
    rw [this] at q1
    exact q1.wide (by grind)
  have L : LatR (bdeE a b c d e f) := (asin_v v1 cq y0 y1 (by grind) (by grind) w7 (by grind) w6).1
  have D : DirR (blhE a b c d e f) := bea_dir v3.2.1 v2.2.1
  refine ⟨?_, L, D⟩
  have z : ((0 : Int) != 0) = false := rfl
  unfold bakM
  rw [mlat_eq, mlat_eq, h1, h2, h3]
  simp only [lt, xsinV, xsinC, xcosV, xcosC, xmulV, xmulC, xaddV, xaddC, xsubV, xsubC, xnegV, xnegC, Bool.not_true, cond_false]
  have s1 := sin_one l1.1
  have c1 := cos_one l1.1
  have s2 := sin_one l2.1
  have c2 := cos_one l2.1
  have s3 := sin_one h3
  have c3 := cos_one h3
  have L2 := L.2.2.2
  have D2 := D.2.2.2.2
  have ed : bdeE a b c d e f = asinR (bupE a b c d e f).1 (bupE a b c d e f).2.1 := rfl
  have el : blhE a b c d e f = bearR (beaE c d e f).1 (beaE c d e f).2.1 (bnoE a b c d e f).1 (bnoE a b c d e f).2.1 := rfl
  rw [ed] at L2 ⊢
  rw [el] at D2 ⊢
  clear L D ed el v1 v2 v3 cq q1 q2 q3 hz hx hy ht
  have exE : mulR (cosR c d).1 (cosR c d).2.1 (cosR e f).1 (cosR e f).2.1 = bnE c d e f := rfl
  have ewE : mulR (cosR c d).1 (cosR c d).2.1 (sinR e f).1 (sinR e f).2.1 = beE c d e f := rfl
  have xo : OneR (bnE c d e f) := mul_ones c2 c3
  have wo : OneR (beE c d e f) := mul_ones c2 s3
  rw [exE, ewE]
  have m1 := mul_ones s2 s1
  have m2 := mul_ones xo c1
  have m3 := mul_ones s2 c1
  have m4 := mul_ones xo s1
  have a1 := add_ones m1 m2
  have a2 := sub_ones m3 m4
  have a3 := neg_one wo
  have eu : addR (mulR (sinR c d).1 (sinR c d).2.1 (sinR a b).1 (sinR a b).2.1).1 (mulR (sinR c d).1 (sinR c d).2.1 (sinR a b).1 (sinR a b).2.1).2.1 (mulR (bnE c d e f).1 (bnE c d e f).2.1 (cosR a b).1 (cosR a b).2.1).1 (mulR (bnE c d e f).1 (bnE c d e f).2.1 (cosR a b).1 (cosR a b).2.1).2.1 = bupE a b c d e f := rfl
  have en : subR (mulR (sinR c d).1 (sinR c d).2.1 (cosR a b).1 (cosR a b).2.1).1 (mulR (sinR c d).1 (sinR c d).2.1 (cosR a b).1 (cosR a b).2.1).2.1 (mulR (bnE c d e f).1 (bnE c d e f).2.1 (sinR a b).1 (sinR a b).2.1).1 (mulR (bnE c d e f).1 (bnE c d e f).2.1 (sinR a b).1 (sinR a b).2.1).2.1 = bnoE a b c d e f := rfl
  have eg : negR (beE c d e f).1 (beE c d e f).2.1 = beaE c d e f := rfl
  rw [eu, en, eg]
  have u0' : (bupE a b c d e f).2.2 = 0 := by rw [← eu, a1.1]
  have n0' : (bnoE a b c d e f).2.2 = 0 := by rw [← en, a2.1]
  have g0' : (beaE c d e f).2.2 = 0 := by rw [← eg, a3.1]
  rw [s1.2.2.2, c1.2.2.2, s2.2.2.2, c2.2.2.2, s3.2.2.2, c3.2.2.2, xo.2.2.2, wo.2.2.2, m1.2.2.2, m2.2.2.2, m3.2.2.2, m4.2.2.2, u0', n0', g0']
  simp only [keep0, z, cond_false]
  rw [L2, D2, z]
  rfl
end Go.Proofs.YtcoopclgfimahaaGreat

/-
  Circles and places: what the program's functions answer, as closed forms. No program here.
-/
import Derived.Test.YtfilgpifiboccaaGreatFk
import Derived.Test.YtfilgpifiboccaaGreatCd
namespace Go.Proofs.YtfilgpifiboccaaGreat
open SM TB TA
open Ev (lt keepE)
theorem sign_ok {n : Int} (_h : -10000000000000 ≤ n ∧ n ≤ 10000000000000) : signM n = sgnd n := by
  unfold signM sgnd wrapN
  have m0 := Int.emod_nonneg n (show (21600000 : Int) ≠ 0 by omega)
  have m1 := Int.emod_lt_of_pos n (show (0 : Int) < 21600000 by omega)
  by_cases c : n % 21600000 ≥ 10800000
  · rw [decide_eq_true c, cond_true, if_pos c, i64w (by omega)]
  · rw [decide_eq_false c, cond_false, if_neg (by omega)]
theorem clon_ok {a b : Int} (h1 : -10000000000000 ≤ a) (h2 : a ≤ b) (h3 : b ≤ 10000000000000) : clonM a b = (lonL a b, lonH a b) := by
  have s := sgnd_bd a
  unfold clonM clonMK lonL lonH
  rw [i64w (x := b - a) (by omega), sign_ok (by omega)]
  by_cases c : b - a ≥ 21600000
  · rw [decide_eq_true c, cond_true, if_pos c, if_pos c]
  · rw [decide_eq_false c, cond_false, if_neg (by omega), if_neg (by omega), i64w (x := sgnd a + b) (by omega), i64w (by omega), show sgnd a + b - a = sgnd a + (b - a) by omega]
/-- Longitudes. -/
def LonP (c d : Int) : Prop := (c = -10800000 ∧ d = 10800000) ∨ (-10800000 ≤ c ∧ c < 10800000 ∧ c ≤ d ∧ d - c < 21600000)
theorem pall_eq (a b : Int) : pallM a b = decide (a = -10800000 ∧ b = 10800000) := by
  unfold pallM evwM
  simp only [lt]
  by_cases h1 : a = -10800000 <;> by_cases h2 : b = 10800000 <;> simp [h1, h2]
theorem vlat_eq (a b : Int) : vlatM a b = latB a b := by
  unfold vlatM latB avalidB
  by_cases h1 : a ≤ b
  · by_cases h2 : a ≥ -5400000
    · by_cases h3 : b ≤ 5400000
      · rw [decide_eq_true h1, decide_eq_true h2, decide_eq_true h3, decide_eq_true (show -1099511627776 ≤ a ∧ a ≤ b ∧ b ≤ 1099511627776 by omega)]; rfl
      · rw [decide_eq_true h1, decide_eq_true h2, decide_eq_false h3]; simp
    · rw [decide_eq_true h1, decide_eq_false h2]; simp
  · rw [decide_eq_false h1, decide_eq_false (show ¬ (-1099511627776 ≤ a ∧ a ≤ b ∧ b ≤ 1099511627776) by omega)]; rfl
theorem pval_mk {a b c d : Int} (h : latB a b = true) (k : LonP c d) : pvalM a b c d = true := by
  unfold pvalM vlonM
  rw [vlat_eq, h, cond_true, pall_eq]
  rcases k with k | ⟨k1, k2, k3, k4⟩
  · rw [decide_eq_true k]; rfl
  · by_cases g : c = -10800000 ∧ d = 10800000
    · rw [decide_eq_true g]; rfl
    · rw [decide_eq_false g, cond_false, decide_eq_true (show c ≥ -10800000 from k1), decide_eq_true k2, decide_eq_true k3, i64w (x := d - c) (by omega), decide_eq_true k4]; rfl
theorem lonP_bd {c d : Int} (h : LonP c d) : -10800000 ≤ c ∧ c ≤ d ∧ d < 32400000 ∧ d - c ≤ 21600000 := by
  rcases h with ⟨rfl, rfl⟩ | ⟨h1, h2, h3, h4⟩ <;> omega
theorem lon_P {a b : Int} (h : a ≤ b) : LonP (lonL a b) (lonH a b) := by
  have k := lon_bd h
  rcases k.2.2 with g | g
  · exact .inl g
  · exact .inr ⟨k.1, g.1, k.2.1, g.2⟩
theorem cval_mk {a b c d e f : Int} (h : latB a b = true) (k : LonP c d) (e0 : 0 ≤ e) (ef : e ≤ f) (f1 : f ≤ 10800000) : cvalM a b c d e f = true := by
  unfold cvalM
  rw [pval_mk h k, avalid_mk (by omega) ef (by omega), decide_eq_true (show e ≥ 0 from e0), decide_eq_true f1]; rfl
theorem ctri_ok {a b c d e f u v w x : Int} (h1 : -1000000000 ≤ c ∧ c ≤ 1000000000 ∧ -1000000000 ≤ d ∧ d ≤ 1000000000) (h2 : -1000000000 ≤ w ∧ w ≤ 1000000000 ∧ -1000000000 ≤ x ∧ x ≤ 1000000000) : ctriM a b c d e f u v w x = (u, v, a, b, w - d, x - c) := by
  unfold ctriM
  rw [i64w (x := w - d) (by omega), i64w (x := x - c) (by omega)]
theorem z0' : ((0 : Int) != 0) = false := rfl
theorem sid_form (S C : Int × Int × Int) : cond (decide (S.1 > C.2.1)) ((1, 0) : Int × Int) (cond (decide (S.2.1 < C.1)) (-1, 0) (0, 0)) = (sidS S C, 0) := by
  unfold sidS
  by_cases g1 : S.1 > C.2.1
  · rw [decide_eq_true g1, if_pos (by omega)]; rfl
  · rw [decide_eq_false g1, if_neg (by omega), cond_false]
    by_cases g2 : S.2.1 < C.1
    · rw [decide_eq_true g2, if_pos g2]; rfl
    · rw [decide_eq_false g2, if_neg g2]; rfl
theorem csid_ok {a b c d e f u v w x : Int} (la : latB a b = true) (kc : LonP c d) (e0 : 0 ≤ e) (ef : e ≤ f) (f1 : f ≤ 10800000) (lu : latB u v = true) (kw : LonP w x) : csidM a b c d e f u v w x = (sidS (cupE u v a b (w - d) (x - c)) (cosR e f), 0) := by
  have b1 := lonP_bd kc
  have b2 := lonP_bd kw
  have vt : avalidB (w - d) (x - c) = true := avalid_mk (by omega) (by omega) (by omega)
  have vr : avalidB e f = true := avalid_mk (by omega) ef (by omega)
  unfold csidM csidMK
  rw [cval_mk la kc e0 ef f1, pval_mk lu kw, Bool.not_true, cond_false, cond_false, ctri_ok ⟨by omega, by omega, by omega, by omega⟩ ⟨by omega, by omega, by omega, by omega⟩]
  simp only [lt, ksinV, ksinC, kcosV, kcosC, kmulV, kmulC, kplusV, kplusC]
  have s1 := sin_one (lat_bd lu).1
  have c1 := cos_one (lat_bd lu).1
  have s2 := sin_one (lat_bd la).1
  have c2 := cos_one (lat_bd la).1
  have c3 := cos_one vt
  have c4 := cos_one vr
  have m1 := mul_ones s1 s2
  have k1 := mul_ones c1 c2
  have n1 := mul_ones k1 c3
  have a1 := congrArg (fun r : Int × Int × Int => r.2.2) (add_ones m1 n1).1
  dsimp only at a1
  rw [s1.2.2.2, c1.2.2.2, s2.2.2.2, c2.2.2.2, c3.2.2.2, c4.2.2.2, m1.2.2.2, k1.2.2.2, n1.2.2.2, a1]
  simp only [keep0, z0', cond_false]
  exact sid_form (cupE u v a b (w - d) (x - c)) (cosR e f)
/-- The point at a bearing. -/
noncomputable def atA (a b e f u v : Int) : Int × Int × Int := asinR (atU a b e f u v).1 (atU a b e f u v).2.1
def atB (a b e f u v : Int) : Int × Int × Int := bearR (atE e f u v).1 (atE e f u v).2.1 (atN a b e f u v).1 (atN a b e f u v).2.1
theorem at_one {a b e f u v : Int} (la : latB a b = true) (vr : avalidB e f = true) (vu : avalidB u v = true) : LatR (atA a b e f u v) ∧ DirR (atB a b e f u v) := by
  have lb := lat_bd la
  have r := aval_bd vr
  have w := aval_bd vu
  have V := at_v lb.1 vr vu (Hs.at (Int.le_refl a) lb.2.2.1) (Hs.at (Int.le_refl e) r.2.1) (Hs.at (Int.le_refl u) w.2.1)
  obtain ⟨h, z, s⟩ := sees (a : Rat) (5400000 - (e : Rat)) (-(u : Rat))
  exact ⟨(up_v V.1 s).1, (az_v V.2.1 V.2.2 s).1⟩
theorem cat_ok {a b c d e f u v : Int} (la : latB a b = true) (kc : LonP c d) (e0 : 0 ≤ e) (ef : e ≤ f) (f1 : f ≤ 10800000) (vu : avalidB u v = true) : catM a b c d e f u v = ((atA a b e f u v).1, (atA a b e f u v).2.1, lonL (c + (atB a b e f u v).1) (d + (atB a b e f u v).2.1), lonH (c + (atB a b e f u v).1) (d + (atB a b e f u v).2.1), 0) := by
  have b1 := lonP_bd kc
  have vr : avalidB e f = true := avalid_mk (by omega) ef (by omega)
  obtain ⟨A, B⟩ := at_one la vr vu
  unfold catM catMK
  rw [cval_mk la kc e0 ef f1, vu, Bool.not_true, cond_false, cond_false]
  unfold atA at A ⊢
  unfold atB at B ⊢
  unfold atU atE atN mulW at *
  simp only [lt, ksinV, ksinC, kcosV, kcosC, kmulV, kmulC, kplusV, kplusC, kminusV, kminusC, arcW, arcC, ksumV, ksumC]
  have s1 := sin_one (lat_bd la).1
  have c1 := cos_one (lat_bd la).1
  have s2 := sin_one vr
  have c2 := cos_one vr
  have s3 := sin_one vu
  have c3 := cos_one vu
  generalize sinR a b = S1 at *
  generalize cosR a b = C1 at *
  generalize sinR e f = S2 at *
  generalize cosR e f = C2 at *
  generalize sinR u v = S3 at *
  generalize cosR u v = C3 at *
  rw [s1.2.2.2, c1.2.2.2, s2.2.2.2, c2.2.2.2, s3.2.2.2, c3.2.2.2]
  have m1 := mul_ones s1 c2
  have m2 := mul_ones c1 s2
  have m3 := mul_ones s2 s3
  have m4 := mul_ones c2 c1
  have m5 := mul_ones s2 s1
  generalize mulR S1.1 S1.2.1 C2.1 C2.2.1 = M1 at *
  generalize mulR C1.1 C1.2.1 S2.1 S2.2.1 = M2 at *
  generalize mulR S2.1 S2.2.1 S3.1 S3.2.1 = M3 at *
  generalize mulR C2.1 C2.2.1 C1.1 C1.2.1 = M4 at *
  generalize mulR S2.1 S2.2.1 S1.1 S1.2.1 = M5 at *
  have n2 := mul_ones m2 c3
  have n5 := mul_ones m5 c3
  generalize mulR M2.1 M2.2.1 C3.1 C3.2.1 = N2 at *
  generalize mulR M5.1 M5.2.1 C3.1 C3.2.1 = N5 at *
  have a1 := add_ones m1 n2
  have a2 := sub_ones m4 n5
  rw [a1.1] at A ⊢
  rw [a2.1] at B ⊢
  dsimp only at A B ⊢
  rw [m1.2.2.2, m2.2.2.2, m3.2.2.2, m4.2.2.2, m5.2.2.2, n2.2.2.2, n5.2.2.2]
  generalize asinR (M1.1 + N2.1) (M1.2.1 + N2.2.1) = A' at *
  generalize bearR M3.1 M3.2.1 (M4.1 - N5.2.1) (M4.2.1 - N5.1) = B' at *
  obtain ⟨d1, d2, d3, d4, d5⟩ := B
  have sm : aaddR c d B'.1 B'.2.1 = (c + B'.1, d + B'.2.1, 0) := by
    unfold aaddR
    rw [if_pos ⟨avalid_mk (by omega) b1.2.1 (by omega), avalid_mk (by omega) d2 (by omega)⟩]
    unfold resR fitsB
    rw [if_pos ⟨decide_eq_true (by omega), decide_eq_true (by omega)⟩]
  rw [sm, A.2.2.2, d5]
  simp only [keep0, z0', cond_false]
  rw [clon_ok (by omega) (by omega) (by omega)]
end Go.Proofs.YtfilgpifiboccaaGreat

/-
  The reference's operations are the program's, where all is valid.
-/
import Derived.Test.YtkfkddbglnbjgaaGreatR1
import Derived.Test.YtkfkddbglnbjgaaGreatHc
namespace Go.Proofs.YtkfkddbglnbjgaaGreat
open Ev

open SM TB TA
open Ev (lt keepE)
theorem decT {p : Prop} [Decidable p] (h : p) : decide p = true := decide_eq_true h
theorem decF {p : Prop} [Decidable p] (h : ¬ p) : decide p = false := decide_eq_false h
theorem hib_of (n : Int) : hib n = if exa (red n) = true then lob n else lob n + 1 := by
  unfold hib lob upf
  split <;> split <;> omega
theorem exa_at {k : Nat} (h : exa k = true) : k = 0 ∨ k = 1800000 ∨ k = 5400000 := by
  unfold exa at h
  simp only [Bool.or_eq_true, beq_iff_eq] at h
  omega
theorem lob_even {n : Int} (h : exa (red n) = true) : lob n % 2 = 0 := by
  have f0 : flo 0 = 0 := rfl
  have f1 : flo 1800000 = 536870912 := rfl
  have f2 : flo 5400000 = 1073741824 := rfl
  unfold lob upf
  rw [if_pos h]
  rcases exa_at h with e | e | e <;> rw [e] <;> first | rw [f0] | rw [f1] | rw [f2]
  all_goals split <;> rfl
theorem tmod_emod (x : Int) : x % 21600000 = (if x.tmod 21600000 < 0 then x.tmod 21600000 + 21600000 else x.tmod 21600000) := by
  have h1 := Int.mul_tdiv_add_tmod x 21600000
  have h2 := tm_sign x 21600000
  have h3 := Int.tmod_lt_of_pos x (show (0 : Int) < 21600000 by omega)
  have h4 := Int.tmod_lt_of_pos (-x) (show (0 : Int) < 21600000 by omega)
  rw [Int.neg_tmod] at h4
  split <;> omega
theorem rends_eq (a : Int) : rendsM a = (lob a, hib a) := by
  have b := lob_hib a
  unfold rendsM
  simp only [lt, rflR]
  rw [hib_of]
  cases h : exa (red a)
  · rw [cond_false, i64w (by omega)]; rfl
  · rfl
theorem rhas_eq {a b c : Int} (h1 : -2000000000000 ≤ a ∧ a ≤ 2000000000000) (_h2 : -2000000000000 ≤ b ∧ b ≤ 2000000000000) (h3 : -20000000 ≤ c ∧ c ≤ 20000000) : rhasM a b c = meetB a b c := by
  have t := tmod_emod (c - a)
  have p := Int.tmod_lt_of_pos (c - a) (show (0 : Int) < 21600000 by omega)
  have q := Int.tmod_lt_of_pos (-(c - a)) (show (0 : Int) < 21600000 by omega)
  rw [Int.neg_tmod] at q
  unfold rhasM meetB
  rw [i64w (x := c - a) (by omega)]
  by_cases h : (c - a).tmod 21600000 < 0
  · rw [if_pos h] at t
    rw [decT h, cond_true, i64w (x := (c - a).tmod 21600000 + 21600000) (by omega), i64w (by omega)]
    exact decide_eq_decide.2 (by omega)
  · rw [if_neg h] at t
    rw [decF h, cond_false, i64w (by omega)]
    exact decide_eq_decide.2 (by omega)
theorem meet_turn (a b : Int) : meetB a b (-5400000) = meetB a b 16200000 := by
  unfold meetB
  rw [show (-5400000 - a) % 21600000 = (16200000 - a) % 21600000 by omega]
theorem rsine_eq {a b : Int} (h1 : -2000000000000 ≤ a ∧ a ≤ 2000000000000) (h2 : -2000000000000 ≤ b ∧ b ≤ 2000000000000) : rsineM a b = (encL a b, encH a b) := by
  unfold rsineM encL encH
  simp only [lt]
  rw [rends_eq, rends_eq, rhas_eq h1 h2 (by omega), rhas_eq h1 h2 (by omega), meet_turn]
  have m1 : mn (lob a) (lob b) = min (lob a) (lob b) := by unfold mn; split <;> omega
  have m2 : mx (hib a) (hib b) = max (hib a) (hib b) := by unfold mx; split <;> omega
  cases meetB a b 5400000 <;> cases meetB a b 16200000 <;> simp only [cond_true, cond_false, m1, m2] <;> simp
theorem rcos_eq {a b : Int} (h : avalidB a b = true) : rcosM a b = ((cosR a b).1, (cosR a b).2.1) := by
  have := aval_bd h
  unfold rcosM cosR
  simp only [lt]
  rw [i64w (x := a + 5400000) (by omega), i64w (x := b + 5400000) (by omega), rsine_eq (by omega) (by omega), h]
  rfl
theorem rfit_eq {a b : Int} (h : a ≤ b) : rfitM a b = fitR a b := by
  unfold rfitM fitR
  by_cases h1 : a < -2147483648
  · rw [decT h1, cond_true, if_neg (by simp [validB]; omega)]
  · rw [decF h1, cond_false]
    by_cases h2 : b > 2147483648
    · rw [decT h2, cond_true, if_neg (by simp [validB]; omega)]
    · rw [decF h2, cond_false, if_pos (by simp [validB]; omega)]
theorem rlst_eq (a b : Int) : rlstM a b = min a b := by
  unfold rlstM
  by_cases h : b < a
  · rw [decT h]; simp; omega
  · rw [decF h]; simp; omega
theorem rmst_eq (a b : Int) : rmstM a b = max a b := by
  unfold rmstM
  by_cases h : a < b
  · rw [decT h]; simp; omega
  · rw [decF h]; simp; omega
theorem radd_eq {a b c d : Int} (h1 : validB a b = true) (h2 : validB c d = true) : raddM a b c d = addR a b c d := by
  have p := val_bd h1
  have q := val_bd h2
  unfold raddM addR
  simp only [lt]
  rw [i64w (x := a + c) (by omega), i64w (x := b + d) (by omega), rfit_eq (by omega), if_pos (both_mk h1 h2)]
theorem rsub_eq {a b c d : Int} (h1 : validB a b = true) (h2 : validB c d = true) : rsubM a b c d = subR a b c d := by
  have p := val_bd h1
  have q := val_bd h2
  unfold rsubM subR
  simp only [lt]
  rw [i64w (x := a - d) (by omega), i64w (x := b - c) (by omega), rfit_eq (by omega), if_pos (both_mk h1 h2)]
theorem fl_one (x : Int) : x / 1073741824 = (if x.tmod 1073741824 < 0 then x.tdiv 1073741824 - 1 else x.tdiv 1073741824) := by
  have t := fl_pos x 1073741824 (by omega)
  have s := tm_sign x 1073741824
  split at t
  · rw [if_pos (by omega)]; exact t
  · rw [if_neg (by omega)]; exact t
theorem rmul_eq {a b c d : Int} (h1 : validB a b = true) (h2 : validB c d = true) : rmulM a b c d = mulR a b c d := by
  have p := val_bd h1
  have q := val_bd h2
  have p1 := pmul_bd (x := a) (y := c) (by omega) (by omega) (by omega) (by omega)
  have p2 := pmul_bd (x := a) (y := d) (by omega) (by omega) (by omega) (by omega)
  have p3 := pmul_bd (x := b) (y := c) (by omega) (by omega) (by omega) (by omega)
  have p4 := pmul_bd (x := b) (y := d) (by omega) (by omega) (by omega) (by omega)
  have mo := mul_order p.2.1 q.2.1
  unfold rmulM mulR
  rw [i64w (x := a * c) (by omega), i64w (x := a * d) (by omega), i64w (x := b * c) (by omega), i64w (x := b * d) (by omega), if_pos (both_mk h1 h2)]
  have eL : rlstM (rlstM (a * c) (a * d)) (rlstM (b * c) (b * d)) = mulL a b c d := by
    rw [rlst_eq, rlst_eq, rlst_eq]
    unfold mulL mn
    repeat' split
    all_goals omega
  have eH : rmstM (rmstM (a * c) (a * d)) (rmstM (b * c) (b * d)) = mulH a b c d := by
    rw [rmst_eq, rmst_eq, rmst_eq]
    unfold mulH mx
    repeat' split
    all_goals omega
  have bL : -4611686018427387904 ≤ mulL a b c d ∧ mulL a b c d ≤ 4611686018427387904 := by
    have := (mn4 (a * c) (a * d) (b * c) (b * d)).2
    unfold mulL
    omega
  have bH : -4611686018427387904 ≤ mulH a b c d ∧ mulH a b c d ≤ 4611686018427387904 := by
    have := (mx4 (a * c) (a * d) (b * c) (b * d)).2
    unfold mulH
    omega
  rw [eL, eH]
  generalize mulL a b c d = L at *
  generalize mulH a b c d = H at *
  rw [i64w (x := 0 - H) (by omega), Int.zero_sub]
  have f1 := fl_one L
  have f2 := fl_one (-H)
  have t1 := tdiv_bd L 1073741824 4611686018427387904 bL.1 bL.2
  have t2 := tdiv_bd (-H) 1073741824 4611686018427387904 (by omega) (by omega)
  rw [i64w (x := L.tdiv 1073741824) (by omega), i64w (x := (-H).tdiv 1073741824) (by omega), i64w (x := L.tdiv 1073741824 - 1) (by omega), i64w (x := (-H).tdiv 1073741824 - 1) (by omega)]
  rw [i64w (x := 0 - (-H).tdiv 1073741824) (by omega), i64w (x := 0 - ((-H).tdiv 1073741824 - 1)) (by omega), Int.zero_sub, Int.zero_sub]
  have mono : L / 1073741824 ≤ -(-H / 1073741824) := by omega
  simp only [lt]
  by_cases c1 : L.tmod 1073741824 < 0 <;> by_cases c2 : (-H).tmod 1073741824 < 0
  · rw [if_pos c1] at f1; rw [if_pos c2] at f2
    rw [decT c1, decT c2, ← f1, ← f2]; exact rfit_eq mono
  · rw [if_pos c1] at f1; rw [if_neg c2] at f2
    rw [decT c1, decF c2, ← f1, ← f2]; exact rfit_eq mono
  · rw [if_neg c1] at f1; rw [if_pos c2] at f2
    rw [decF c1, decT c2, ← f1, ← f2]; exact rfit_eq mono
  · rw [if_neg c1] at f1; rw [if_neg c2] at f2
    rw [decF c1, decF c2, ← f1, ← f2]; exact rfit_eq mono
theorem rsin_eq {a b : Int} (h : avalidB a b = true) : rsinM a b = ((sinR a b).1, (sinR a b).2.1) := by
  have := aval_bd h
  unfold rsinM sinR
  simp only [lt]
  rw [rsine_eq (by omega) (by omega), h]
  rfl
theorem times_eq {a b c d : Int} (h : validB a b = true) (k : validB c d = true) : timesM a b c d = ((mulR a b c d).1, (mulR a b c d).2.1) := by
  unfold timesM
  simp only [lt]
  rw [rmul_eq h k]
theorem plus_eq {a b c d : Int} (h : validB a b = true) (k : validB c d = true) : plusM a b c d = ((addR a b c d).1, (addR a b c d).2.1) := by
  unfold plusM
  simp only [lt]
  rw [radd_eq h k]
theorem minus_eq {a b c d : Int} (h : validB a b = true) (k : validB c d = true) : minusM a b c d = ((subR a b c d).1, (subR a b c d).2.1) := by
  unfold minusM
  simp only [lt]
  rw [rsub_eq h k]
theorem rneg_eq {r : Int × Int × Int} (h : OneR r) : rnegM r.1 r.2.1 = ((negR r.1 r.2.1).1, (negR r.1 r.2.1).2.1) := by
  obtain ⟨h1, h2, h3, h4⟩ := h
  rw [(neg_one ⟨h1, h2, h3, h4⟩).1]
  unfold rnegM
  rw [i64w (x := 0 - r.2.1) (by omega), i64w (x := 0 - r.1) (by omega), Int.zero_sub, Int.zero_sub]
/-- The reference's sine of the altitude, and its azimuth's arguments. -/
theorem rsne_eq {a b c d e f : Int} (h : triB a b c d e f = true) : rsneM a b c d e f = ((cupE a b c d e f).1, (cupE a b c d e f).2.1) := by
  obtain ⟨h1, h2, h3⟩ := tri_bd h
  have l1 := (lat_bd h1).1
  have l2 := (lat_bd h2).1
  have s1 := sin_one l1
  have c1 := cos_one l1
  have s2 := sin_one l2
  have c2 := cos_one l2
  have c3 := cos_one h3
  have m1 := mul_ones s1 s2
  have k1 := mul_ones c1 c2
  have n1 := mul_ones k1 c3
  unfold rsneM
  simp only [lt]
  rw [rsin_eq l1, rsin_eq l2, rcos_eq l1, rcos_eq l2, rcos_eq h3]
  dsimp only
  rw [times_eq s1.val s2.val, times_eq c1.val c2.val]
  dsimp only
  rw [times_eq k1.val c3.val]
  dsimp only
  rw [plus_eq m1.val n1.val]
  rfl
theorem ralt_eq {a b c d e f : Int} (h : triB a b c d e f = true) : raltM a b c d e f = ((asinR (cupE a b c d e f).1 (cupE a b c d e f).2.1).1, (asinR (cupE a b c d e f).1 (cupE a b c d e f).2.1).2.1) := by
  unfold raltM
  simp only [lt]
  rw [rsne_eq h]
theorem razi_eq {a b c d e f : Int} (h : triB a b c d e f = true) : raziM a b c d e f = ((bearR (ceaE c d e f).1 (ceaE c d e f).2.1 (cnoE a b c d e f).1 (cnoE a b c d e f).2.1).1, (bearR (ceaE c d e f).1 (ceaE c d e f).2.1 (cnoE a b c d e f).1 (cnoE a b c d e f).2.1).2.1) := by
  obtain ⟨h1, h2, h3⟩ := tri_bd h
  have l1 := (lat_bd h1).1
  have l2 := (lat_bd h2).1
  have s1 := sin_one l1
  have c1 := cos_one l1
  have s2 := sin_one l2
  have c2 := cos_one l2
  have s3 := sin_one h3
  have c3 := cos_one h3
  have y1 := mul_ones c2 s3
  have m1 := mul_ones s2 c1
  have k1 := mul_ones c2 c3
  have n1 := mul_ones k1 s1
  unfold raziM
  simp only [lt]
  rw [rsin_eq l1, rsin_eq l2, rsin_eq h3, rcos_eq l1, rcos_eq l2, rcos_eq h3]
  dsimp only
  rw [times_eq c2.val s3.val, times_eq s2.val c1.val, times_eq c2.val c3.val]
  dsimp only
  rw [times_eq k1.val s1.val, rneg_eq y1]
  dsimp only
  rw [minus_eq m1.val n1.val]
  rfl
/-- **The reference's line of position.** -/
theorem rtan_eq {a b c d e f u v : Int} (h : triB u u a b (v - d) (v - c) = true) (h1 : -1000000000 ≤ c ∧ c ≤ 1000000000 ∧ -1000000000 ≤ d ∧ d ≤ 1000000000) (h2 : -1000000000 ≤ v ∧ v ≤ 1000000000) (h3 : 0 ≤ e ∧ e ≤ f ∧ f ≤ 10800000) (hL : LatR (asinR (cupE u u a b (v - d) (v - c)).1 (cupE u u a b (v - d) (v - c)).2.1)) :
    rtanM a b c d e f u v = (u, v, (bearR (ceaE a b (v - d) (v - c)).1 (ceaE a b (v - d) (v - c)).2.1 (cnoE u u a b (v - d) (v - c)).1 (cnoE u u a b (v - d) (v - c)).2.1).1, (bearR (ceaE a b (v - d) (v - c)).1 (ceaE a b (v - d) (v - c)).2.1 (cnoE u u a b (v - d) (v - c)).1 (cnoE u u a b (v - d) (v - c)).2.1).2.1, 5400000 - (asinR (cupE u u a b (v - d) (v - c)).1 (cupE u u a b (v - d) (v - c)).2.1).2.1 - f, 5400000 - (asinR (cupE u u a b (v - d) (v - c)).1 (cupE u u a b (v - d) (v - c)).2.1).1 - e) := by
  have ep : rplM u v = (u, u, v, v) := rfl
  have et : rtrM a b c d e f u u v v = (u, u, a, b, v - d, v - c) := by
    unfold rtrM ra5M
    simp only [lt]
    rw [i64w (x := v - d) (by omega), i64w (x := v - c) (by omega)]
  obtain ⟨l1, l2, l3, _⟩ := hL
  unfold rtanM
  simp only [lt]
  rw [ep]
  dsimp only
  rw [et]
  dsimp only
  rw [ralt_eq h, razi_eq h]
  dsimp only
  unfold ra5M
  generalize asinR (cupE u u a b (v - d) (v - c)).1 (cupE u u a b (v - d) (v - c)).2.1 = H at *
  rw [i64w (x := 5400000 - H.2.1) (by omega), i64w (x := 5400000 - H.1) (by omega), i64w (x := 5400000 - H.2.1 - f) (by omega), i64w (x := 5400000 - H.1 - e) (by omega)]
end Go.Proofs.YtkfkddbglnbjgaaGreat

/-
  The reference's enclosures and fixed-point operations are the program's, where all is valid; the divided triangle without the errors that cannot come. No program here.
-/
import Derived.Test.YtadefgjpkhhffaaGreatR1
import Derived.Test.YtadefgjpkhhffaaGreatMo
namespace Go.Proofs.YtadefgjpkhhffaaGreat
open SM Ev
theorem keep0 (e : Int) : keepE 0 e = e := rfl
theorem lat_bd {a b : Int} (h : latB a b = true) : avalidB a b = true ∧ -5400000 ≤ a ∧ a ≤ b ∧ b ≤ 5400000 := by
  unfold latB at h
  simp only [Bool.and_eq_true, decide_eq_true_eq] at h
  have := aval_bd h.1
  exact ⟨h.1, by omega, by omega, by omega⟩
theorem tri_bd {a b c d e f : Int} (h : triB a b c d e f = true) : latB a b = true ∧ latB c d = true ∧ avalidB e f = true := by
  unfold triB at h
  simp only [Bool.and_eq_true] at h
  exact ⟨h.1, h.2.1, h.2.2⟩
theorem asub_ok {a b c d : Int} (h1 : -100000000 ≤ a) (h2 : a ≤ b) (h3 : b ≤ 100000000) (h4 : -100000000 ≤ c) (h5 : c ≤ d) (h6 : d ≤ 100000000) :
    asubR a b c d = (a - d, b - c, 0) := by
  unfold asubR
  rw [if_pos ⟨avalid_mk (by omega) h2 (by omega), avalid_mk (by omega) h5 (by omega)⟩]
  unfold resR fitsB
  simp
  omega
theorem decT {p : Prop} [Decidable p] (h : p) : decide p = true := decide_eq_true h
theorem decF {p : Prop} [Decidable p] (h : ¬ p) : decide p = false := decide_eq_false h
theorem hib_of (n : Int) : hib n = if exa (red n) = true then lob n else lob n + 1 := by
  unfold hib lob upf
  split <;> split <;> omega
theorem exa_at {k : Nat} (h : exa k = true) : k = 0 ∨ k = 1800000 ∨ k = 5400000 := by
  unfold exa at h
  simp only [Bool.or_eq_true, beq_iff_eq] at h
  omega
theorem lob_even {n : Int} (h : exa (red n) = true) : lob n % 2 = 0 := by
  have f0 : flo 0 = 0 := rfl
  have f1 : flo 1800000 = 536870912 := rfl
  have f2 : flo 5400000 = 1073741824 := rfl
  unfold lob upf
  rw [if_pos h]
  rcases exa_at h with e | e | e <;> rw [e] <;> first | rw [f0] | rw [f1] | rw [f2]
  all_goals split <;> rfl
theorem tmod_emod (x : Int) : x % 21600000 = (if x.tmod 21600000 < 0 then x.tmod 21600000 + 21600000 else x.tmod 21600000) := by
  have h1 := Int.mul_tdiv_add_tmod x 21600000
  have h2 := tm_sign x 21600000
  have h3 := Int.tmod_lt_of_pos x (show (0 : Int) < 21600000 by omega)
  have h4 := Int.tmod_lt_of_pos (-x) (show (0 : Int) < 21600000 by omega)
  rw [Int.neg_tmod] at h4
  split <;> omega
theorem rends_eq (a : Int) : rendsM a = (lob a, hib a) := by
  have b := lob_hib a
  unfold rendsM
  simp only [lt, rflR]
  rw [hib_of]
  cases h : exa (red a)
  · rw [cond_false, i64w (by omega)]; rfl
  · rfl
theorem rhas_eq {a b c : Int} (h1 : -2000000000000 ≤ a ∧ a ≤ 2000000000000) (_h2 : -2000000000000 ≤ b ∧ b ≤ 2000000000000) (h3 : -20000000 ≤ c ∧ c ≤ 20000000) : rhasM a b c = meetB a b c := by
  have t := tmod_emod (c - a)
  have p := Int.tmod_lt_of_pos (c - a) (show (0 : Int) < 21600000 by omega)
  have q := Int.tmod_lt_of_pos (-(c - a)) (show (0 : Int) < 21600000 by omega)
  rw [Int.neg_tmod] at q
  unfold rhasM meetB
  rw [i64w (x := c - a) (by omega)]
  by_cases h : (c - a).tmod 21600000 < 0
  · rw [if_pos h] at t
    rw [decT h, cond_true, i64w (x := (c - a).tmod 21600000 + 21600000) (by omega), i64w (by omega)]
    exact decide_eq_decide.2 (by omega)
  · rw [if_neg h] at t
    rw [decF h, cond_false, i64w (by omega)]
    exact decide_eq_decide.2 (by omega)
theorem meet_turn (a b : Int) : meetB a b (-5400000) = meetB a b 16200000 := by
  unfold meetB
  rw [show (-5400000 - a) % 21600000 = (16200000 - a) % 21600000 by omega]
theorem rsine_eq {a b : Int} (h1 : -2000000000000 ≤ a ∧ a ≤ 2000000000000) (h2 : -2000000000000 ≤ b ∧ b ≤ 2000000000000) : rsineM a b = (encL a b, encH a b) := by
  unfold rsineM encL encH
  simp only [lt]
  rw [rends_eq, rends_eq, rhas_eq h1 h2 (by omega), rhas_eq h1 h2 (by omega), meet_turn]
  have m1 : mn (lob a) (lob b) = min (lob a) (lob b) := by unfold mn; split <;> omega
  have m2 : mx (hib a) (hib b) = max (hib a) (hib b) := by unfold mx; split <;> omega
  cases meetB a b 5400000 <;> cases meetB a b 16200000 <;> simp only [cond_true, cond_false, m1, m2] <;> simp
theorem rcos_eq {a b : Int} (h : avalidB a b = true) : rcosM a b = ((cosR a b).1, (cosR a b).2.1) := by
  have := aval_bd h
  unfold rcosM cosR
  simp only [lt]
  rw [i64w (x := a + 5400000) (by omega), i64w (x := b + 5400000) (by omega), rsine_eq (by omega) (by omega), h]
  rfl
theorem rfit_eq {a b : Int} (h : a ≤ b) : rfitM a b = fitR a b := by
  unfold rfitM fitR
  by_cases h1 : a < -2147483648
  · rw [decT h1, cond_true, if_neg (by simp [validB]; omega)]
  · rw [decF h1, cond_false]
    by_cases h2 : b > 2147483648
    · rw [decT h2, cond_true, if_neg (by simp [validB]; omega)]
    · rw [decF h2, cond_false, if_pos (by simp [validB]; omega)]
theorem rlst_eq (a b : Int) : rlstM a b = min a b := by
  unfold rlstM
  by_cases h : b < a
  · rw [decT h]; simp; omega
  · rw [decF h]; simp; omega
theorem rmst_eq (a b : Int) : rmstM a b = max a b := by
  unfold rmstM
  by_cases h : a < b
  · rw [decT h]; simp; omega
  · rw [decF h]; simp; omega
theorem fl_one (x : Int) : x / 1073741824 = (if x.tmod 1073741824 < 0 then x.tdiv 1073741824 - 1 else x.tdiv 1073741824) := by
  have t := fl_pos x 1073741824 (by omega)
  have s := tm_sign x 1073741824
  split at t
  · rw [if_pos (by omega)]; exact t
  · rw [if_neg (by omega)]; exact t
theorem rmul_eq {a b c d : Int} (h1 : validB a b = true) (h2 : validB c d = true) : rmulM a b c d = mulR a b c d := by
  have p := val_bd h1
  have q := val_bd h2
  have p1 := pmul_bd (x := a) (y := c) (by omega) (by omega) (by omega) (by omega)
  have p2 := pmul_bd (x := a) (y := d) (by omega) (by omega) (by omega) (by omega)
  have p3 := pmul_bd (x := b) (y := c) (by omega) (by omega) (by omega) (by omega)
  have p4 := pmul_bd (x := b) (y := d) (by omega) (by omega) (by omega) (by omega)
  have mo := mul_order p.2.1 q.2.1
  unfold rmulM mulR
  rw [i64w (x := a * c) (by omega), i64w (x := a * d) (by omega), i64w (x := b * c) (by omega), i64w (x := b * d) (by omega), if_pos (both_mk h1 h2)]
  have eL : rlstM (rlstM (a * c) (a * d)) (rlstM (b * c) (b * d)) = mulL a b c d := by
    rw [rlst_eq, rlst_eq, rlst_eq]
    unfold mulL mn
    repeat' split
    all_goals omega
  have eH : rmstM (rmstM (a * c) (a * d)) (rmstM (b * c) (b * d)) = mulH a b c d := by
    rw [rmst_eq, rmst_eq, rmst_eq]
    unfold mulH mx
    repeat' split
    all_goals omega
  have bL : -4611686018427387904 ≤ mulL a b c d ∧ mulL a b c d ≤ 4611686018427387904 := by
    have := (mn4 (a * c) (a * d) (b * c) (b * d)).2
    unfold mulL
    omega
  have bH : -4611686018427387904 ≤ mulH a b c d ∧ mulH a b c d ≤ 4611686018427387904 := by
    have := (mx4 (a * c) (a * d) (b * c) (b * d)).2
    unfold mulH
    omega
  rw [eL, eH]
  generalize mulL a b c d = L at *
  generalize mulH a b c d = H at *
  rw [i64w (x := 0 - H) (by omega), Int.zero_sub]
  have f1 := fl_one L
  have f2 := fl_one (-H)
  have t1 := tdiv_bd L 1073741824 4611686018427387904 bL.1 bL.2
  have t2 := tdiv_bd (-H) 1073741824 4611686018427387904 (by omega) (by omega)
  rw [i64w (x := L.tdiv 1073741824) (by omega), i64w (x := (-H).tdiv 1073741824) (by omega), i64w (x := L.tdiv 1073741824 - 1) (by omega), i64w (x := (-H).tdiv 1073741824 - 1) (by omega)]
  rw [i64w (x := 0 - (-H).tdiv 1073741824) (by omega), i64w (x := 0 - ((-H).tdiv 1073741824 - 1)) (by omega), Int.zero_sub, Int.zero_sub]
  have mono : L / 1073741824 ≤ -(-H / 1073741824) := by omega
  simp only [lt]
  by_cases c1 : L.tmod 1073741824 < 0 <;> by_cases c2 : (-H).tmod 1073741824 < 0
  · rw [if_pos c1] at f1; rw [if_pos c2] at f2
    rw [decT c1, decT c2, ← f1, ← f2]; exact rfit_eq mono
  · rw [if_pos c1] at f1; rw [if_neg c2] at f2
    rw [decT c1, decF c2, ← f1, ← f2]; exact rfit_eq mono
  · rw [if_neg c1] at f1; rw [if_pos c2] at f2
    rw [decF c1, decT c2, ← f1, ← f2]; exact rfit_eq mono
  · rw [if_neg c1] at f1; rw [if_neg c2] at f2
    rw [decF c1, decF c2, ← f1, ← f2]; exact rfit_eq mono
theorem rval_eq (a b : Int) : rvalM a b = avalidB a b := by
  unfold rvalM avalidB
  by_cases h1 : a ≤ b
  · by_cases h2 : a ≥ -1099511627776
    · rw [decT h1, decT h2, cond_true, cond_true]
      exact decide_eq_decide.2 (by omega)
    · rw [decT h1, decF h2, cond_true, cond_false, decF (by omega)]
  · rw [decF h1, cond_false, decF (by omega)]
theorem rlat_eq (a b : Int) : rlatM a b = latB a b := by
  unfold rlatM latB avalidB
  by_cases h1 : a ≤ b
  · by_cases h2 : a ≥ -5400000
    · rw [decT h1, decT h2, cond_true, cond_true]
      by_cases h3 : b ≤ 5400000
      · rw [decT h3, decT (by omega)]; rfl
      · rw [decF h3]; simp
    · rw [decT h1, decF h2, cond_true, cond_false]; simp
  · rw [decF h1, cond_false, decF (by omega)]; rfl
theorem rtri_eq (a b c d e f : Int) : rtriM a b c d e f = triB a b c d e f := by
  unfold rtriM triB
  rw [rlat_eq, rlat_eq, rval_eq]
  cases latB a b <;> cases latB c d <;> rfl
theorem rasub_eq {a b c d : Int} (h1 : -100000000 ≤ a) (h2 : a ≤ b) (h3 : b ≤ 100000000) (h4 : -100000000 ≤ c) (h5 : c ≤ d) (h6 : d ≤ 100000000) : rasubM a b c d = (a - d, b - c) := by
  unfold rasubM
  rw [i64w (by omega), i64w (by omega)]
theorem rsin_eq {a b : Int} (h : avalidB a b = true) : rsinM a b = ((sinR a b).1, (sinR a b).2.1) := by
  have := aval_bd h
  unfold rsinM sinR
  simp only [lt]
  rw [rsine_eq (by omega) (by omega), h]
  rfl
/-- An enclosure of numbers from -1 to 1, without error. -/
def OneR (r : Int × Int × Int) : Prop := -1073741824 ≤ r.1 ∧ r.1 ≤ r.2.1 ∧ r.2.1 ≤ 1073741824 ∧ r.2.2 = 0
theorem OneR.val {r : Int × Int × Int} (h : OneR r) : validB r.1 r.2.1 = true := val_mk (by have := h.1; omega) h.2.1 (by have := h.2.2.1; omega)
theorem sin_one {a b : Int} (h : avalidB a b = true) : OneR (sinR a b) := (one_bd h).1
theorem cos_one {a b : Int} (h : avalidB a b = true) : OneR (cosR a b) := (one_bd h).2.1
theorem mul_ones {r s : Int × Int × Int} (h : OneR r) (k : OneR s) : OneR (mulR r.1 r.2.1 s.1 s.2.1) := by
  have m := mul_one h.1 h.2.1 h.2.2.1 k.1 k.2.1 k.2.2.1
  exact ⟨m.2.1, m.2.2.1, m.2.2.2, m.1⟩
theorem neg_one {r : Int × Int × Int} (h : OneR r) : negR r.1 r.2.1 = (-r.2.1, -r.1, 0) ∧ OneR (negR r.1 r.2.1) := by
  have e : negR r.1 r.2.1 = (-r.2.1, -r.1, 0) := by unfold negR; rw [if_pos h.val]
  refine ⟨e, ?_⟩
  rw [e]
  obtain ⟨h1, h2, h3, h4⟩ := h
  exact ⟨by dsimp only; omega, by dsimp only; omega, by dsimp only; omega, rfl⟩
theorem times_eq {r s : Int × Int × Int} (h : OneR r) (k : OneR s) : timesM r.1 r.2.1 s.1 s.2.1 = ((mulR r.1 r.2.1 s.1 s.2.1).1, (mulR r.1 r.2.1 s.1 s.2.1).2.1) := by
  unfold timesM
  simp only [lt]
  rw [rmul_eq h.val k.val]
theorem rneg_eq {r : Int × Int × Int} (h : OneR r) : rnegM r.1 r.2.1 = ((negR r.1 r.2.1).1, (negR r.1 r.2.1).2.1) := by
  obtain ⟨h1, h2, h3, h4⟩ := h
  rw [(neg_one ⟨h1, h2, h3, h4⟩).1]
  unfold rnegM
  rw [i64w (x := 0 - r.2.1) (by omega), i64w (x := 0 - r.1) (by omega), Int.zero_sub, Int.zero_sub]
/-- An arc of altitudes, without error. -/
def LatR (r : Int × Int × Int) : Prop := -5400000 ≤ r.1 ∧ r.1 ≤ r.2.1 ∧ r.2.1 ≤ 5400000 ∧ r.2.2 = 0
theorem asin_one {r : Int × Int × Int} (h : OneR r) : LatR (asinR r.1 r.2.1) := by
  obtain ⟨h1, h2, h3, h4⟩ := h
  have e : (asinR r.1 r.2.1).2.2 = 0 := by
    unfold asinR
    rw [val_mk (by omega) h2 (by omega)]
    simp only [Bool.true_eq_false, if_false]
    rw [if_pos (by omega)]
  have b := asinR_bd r.1 r.2.1
  obtain ⟨_, _, w1, w2, w3⟩ := asin_grow (c := r.1) (d := r.2.1) (val_mk (by omega) h2 (by omega)) e (Int.le_refl _) (Int.le_refl _)
  exact ⟨by omega, w2, by omega, e⟩
/-- An arc of directions, without error. -/
def DirR (r : Int × Int × Int) : Prop := 0 ≤ r.1 ∧ r.1 ≤ r.2.1 ∧ r.2.1 ≤ 43200001 ∧ r.2.2 = 0
theorem bea_one {r s : Int × Int × Int} (h : OneR r) (k : OneR s) : DirR (bearR r.1 r.2.1 s.1 s.2.1) := by
  have hv := h.val
  have kv := k.val
  unfold bearR
  rw [hv, kv, if_neg (by simp)]
  split
  · exact ⟨by dsimp only; omega, by dsimp only; omega, by dsimp only; omega, rfl⟩
  · generalize fstP r.1 r.2.1 s.1 s.2.1 4 = p
    generalize lstP r.1 r.2.1 s.1 s.2.1 4 = q
    have b1 := angF_bd p.1 p.2
    have b2 := angF_bd q.1 q.2
    unfold upE
    refine ⟨b1.1, ?_, ?_, rfl⟩ <;> dsimp only <;> split <;> split <;> omega
theorem self_eq (x y : Int) : ((x == x) && ((y == y) && true)) = true := by simp
theorem LatR.val {r : Int × Int × Int} (h : LatR r) : avalidB r.1 r.2.1 = true := avalid_mk (by have := h.1; omega) h.2.1 (by have := h.2.2.1; omega)
noncomputable section
/-- The perpendicular, and the foot, of a valid triangle. -/
def wesE (c d e f : Int) : Int × Int × Int := mulR (cosR c d).1 (cosR c d).2.1 (sinR e f).1 (sinR e f).2.1
def norE (c d e f : Int) : Int × Int × Int := mulR (cosR c d).1 (cosR c d).2.1 (cosR e f).1 (cosR e f).2.1
def perE (c d e f : Int) : Int × Int × Int := asinR (wesE c d e f).1 (wesE c d e f).2.1
def fooE (c d e f : Int) : Int × Int × Int := bearR (sinR c d).1 (sinR c d).2.1 (norE c d e f).1 (norE c d e f).2.1
end
theorem div_one {a b c d e f : Int} (h : triB a b c d e f = true) : OneR (wesE c d e f) ∧ OneR (norE c d e f) ∧ LatR (perE c d e f) ∧ DirR (fooE c d e f) := by
  obtain ⟨h1, h2, h3⟩ := tri_bd h
  have l2 := (lat_bd h2).1
  have w : OneR (wesE c d e f) := mul_ones (cos_one l2) (sin_one h3)
  have n : OneR (norE c d e f) := mul_ones (cos_one l2) (cos_one h3)
  exact ⟨w, n, asin_one w, bea_one (sin_one l2) n⟩
theorem dvd_no {a b c d e f : Int} (h : triB a b c d e f = false) : dvdM a b c d e f = (0, 0, 0, 0, 1) ∧ solM a b c d e f = (0, 0, 0, 0, 1) := by
  unfold dvdM solM
  rw [h]
  exact ⟨rfl, rfl⟩
theorem dvd_ok {a b c d e f : Int} (h : triB a b c d e f = true) : dvdM a b c d e f = ((perE c d e f).1, (perE c d e f).2.1, (fooE c d e f).1, (fooE c d e f).2.1, 0) := by
  obtain ⟨h1, h2, h3⟩ := tri_bd h
  have l2 := (lat_bd h2).1
  obtain ⟨w, n, p, q⟩ := div_one h
  unfold dvdM
  rw [h]
  simp only [lt, Bool.not_true, cond_false]
  have c1 : gcosC 0 c d = 0 := by unfold gcosC; rw [(cos_one l2).2.2.2]; rfl
  have c2 : gsinC 0 e f = 0 := by unfold gsinC; rw [(sin_one h3).2.2.2]; rfl
  have m1 : gmulC 0 (gcosV c d).1 (gcosV c d).2 (gsinV e f).1 (gsinV e f).2 = 0 := by
    show keepE 0 (wesE c d e f).2.2 = 0
    rw [w.2.2.2]; rfl
  have v1 : gmulV (gcosV c d).1 (gcosV c d).2 (gsinV e f).1 (gsinV e f).2 = ((wesE c d e f).1, (wesE c d e f).2.1) := rfl
  have a1 : gasinC 0 (wesE c d e f).1 (wesE c d e f).2.1 = 0 := by
    show keepE 0 (perE c d e f).2.2 = 0
    rw [p.2.2.2]; rfl
  have c3 : gsinC 0 c d = 0 := by unfold gsinC; rw [(sin_one l2).2.2.2]; rfl
  have c4 : gcosC 0 e f = 0 := by unfold gcosC; rw [(cos_one h3).2.2.2]; rfl
  have m2 : gmulC 0 (gcosV c d).1 (gcosV c d).2 (gcosV e f).1 (gcosV e f).2 = 0 := by
    show keepE 0 (norE c d e f).2.2 = 0
    rw [n.2.2.2]; rfl
  have v2 : gmulV (gcosV c d).1 (gcosV c d).2 (gcosV e f).1 (gcosV e f).2 = ((norE c d e f).1, (norE c d e f).2.1) := rfl
  have b1 : gbeaC 0 (gsinV c d).1 (gsinV c d).2 (norE c d e f).1 (norE c d e f).2.1 = 0 := by
    show keepE 0 (fooE c d e f).2.2 = 0
    rw [q.2.2.2]; rfl
  rw [c1, c2, m1, v1]
  dsimp only
  rw [a1, c3, c4, m2, v2]
  dsimp only
  rw [b1]
  rfl
theorem rdvd_ok {a b c d e f : Int} (h : triB a b c d e f = true) : westM a b c d e f = ((wesE c d e f).1, (wesE c d e f).2.1) ∧ rdvdM a b c d e f = ((perE c d e f).1, (perE c d e f).2.1, (fooE c d e f).1, (fooE c d e f).2.1) := by
  obtain ⟨h1, h2, h3⟩ := tri_bd h
  have l2 := (lat_bd h2).1
  have w : westM a b c d e f = ((wesE c d e f).1, (wesE c d e f).2.1) := by
    unfold westM
    simp only [lt]
    rw [rcos_eq l2, rsin_eq h3]
    dsimp only
    rw [times_eq (cos_one l2) (sin_one h3)]
    rfl
  refine ⟨w, ?_⟩
  unfold rdvdM
  simp only [lt]
  rw [w, rcos_eq l2, rsin_eq l2, rcos_eq h3]
  dsimp only
  rw [times_eq (cos_one l2) (cos_one h3)]
  rfl
noncomputable section
def awaA (a b c d e f : Int) : Int × Int := ((fooE c d e f).1 - b, (fooE c d e f).2.1 - a)
def crE (c d e f : Int) : Int × Int × Int := cosR (perE c d e f).1 (perE c d e f).2.1
def caE (a b c d e f : Int) : Int × Int × Int := cosR (awaA a b c d e f).1 (awaA a b c d e f).2
def saE (a b c d e f : Int) : Int × Int × Int := sinR (awaA a b c d e f).1 (awaA a b c d e f).2
def upM (a b c d e f : Int) : Int × Int × Int := mulR (crE c d e f).1 (crE c d e f).2.1 (caE a b c d e f).1 (caE a b c d e f).2.1
def noM (a b c d e f : Int) : Int × Int × Int := mulR (crE c d e f).1 (crE c d e f).2.1 (saE a b c d e f).1 (saE a b c d e f).2.1
def altE (a b c d e f : Int) : Int × Int × Int := asinR (upM a b c d e f).1 (upM a b c d e f).2.1
def eaM (c d e f : Int) : Int × Int × Int := negR (wesE c d e f).1 (wesE c d e f).2.1
def azE (a b c d e f : Int) : Int × Int × Int := bearR (eaM c d e f).1 (eaM c d e f).2.1 (noM a b c d e f).1 (noM a b c d e f).2.1
end
theorem sol_one {a b c d e f : Int} (h : triB a b c d e f = true) : avalidB (awaA a b c d e f).1 (awaA a b c d e f).2 = true ∧ asubR (fooE c d e f).1 (fooE c d e f).2.1 a b = ((awaA a b c d e f).1, (awaA a b c d e f).2, 0) ∧ OneR (crE c d e f) ∧ OneR (caE a b c d e f) ∧ OneR (saE a b c d e f) ∧ OneR (upM a b c d e f) ∧ OneR (noM a b c d e f) ∧ LatR (altE a b c d e f) ∧ OneR (eaM c d e f) ∧ DirR (azE a b c d e f) := by
  obtain ⟨h1, h2, h3⟩ := tri_bd h
  have l1 := lat_bd h1
  obtain ⟨w, n, p, q⟩ := div_one h
  have hv : avalidB (awaA a b c d e f).1 (awaA a b c d e f).2 = true := by
    obtain ⟨q1, q2, q3, _⟩ := q
    unfold awaA
    exact avalid_mk (by dsimp only; omega) (by dsimp only; omega) (by dsimp only; omega)
  have hs : asubR (fooE c d e f).1 (fooE c d e f).2.1 a b = ((awaA a b c d e f).1, (awaA a b c d e f).2, 0) := by
    obtain ⟨q1, q2, q3, _⟩ := q
    rw [asub_ok (by omega) q2 (by omega) (by omega) (by omega) (by omega)]
    rfl
  have k1 : OneR (crE c d e f) := cos_one p.val
  have k2 : OneR (caE a b c d e f) := cos_one hv
  have k3 : OneR (saE a b c d e f) := sin_one hv
  have k4 : OneR (upM a b c d e f) := mul_ones k1 k2
  have k5 : OneR (noM a b c d e f) := mul_ones k1 k3
  have k6 : OneR (eaM c d e f) := (neg_one w).2
  exact ⟨hv, hs, k1, k2, k3, k4, k5, asin_one k4, k6, bea_one k6 k5⟩
theorem rsol_ok {a b c d e f : Int} (h : triB a b c d e f = true) : rsolM a b c d e f = ((altE a b c d e f).1, (altE a b c d e f).2.1, (azE a b c d e f).1, (azE a b c d e f).2.1) := by
  obtain ⟨h1, h2, h3⟩ := tri_bd h
  have l1 := lat_bd h1
  obtain ⟨w, n, p, q⟩ := div_one h
  obtain ⟨hv, hs, k1, k2, k3, k4, k5, k6, k7, k8⟩ := sol_one h
  obtain ⟨ew, ed⟩ := rdvd_ok h
  unfold rsolM
  simp only [lt]
  rw [ed, ew]
  dsimp only
  have es : rasubM (fooE c d e f).1 (fooE c d e f).2.1 a b = awaA a b c d e f := by
    obtain ⟨q1, q2, q3, _⟩ := q
    rw [rasub_eq (by omega) q2 (by omega) (by omega) (by omega) (by omega)]
    rfl
  rw [es, rcos_eq p.val, rcos_eq hv, rsin_eq hv]
  dsimp only
  have t1 : timesM (cosR (perE c d e f).1 (perE c d e f).2.1).1 (cosR (perE c d e f).1 (perE c d e f).2.1).2.1 (cosR (awaA a b c d e f).1 (awaA a b c d e f).2).1 (cosR (awaA a b c d e f).1 (awaA a b c d e f).2).2.1 = ((upM a b c d e f).1, (upM a b c d e f).2.1) := times_eq k1 k2
  have t2 : timesM (cosR (perE c d e f).1 (perE c d e f).2.1).1 (cosR (perE c d e f).1 (perE c d e f).2.1).2.1 (sinR (awaA a b c d e f).1 (awaA a b c d e f).2).1 (sinR (awaA a b c d e f).1 (awaA a b c d e f).2).2.1 = ((noM a b c d e f).1, (noM a b c d e f).2.1) := times_eq k1 k3
  rw [t1, t2, rneg_eq w]
  rfl
theorem sol_ok {a b c d e f : Int} (h : triB a b c d e f = true) : solM a b c d e f = ((altE a b c d e f).1, (altE a b c d e f).2.1, (azE a b c d e f).1, (azE a b c d e f).2.1, 0) := by
  obtain ⟨h1, h2, h3⟩ := tri_bd h
  have l2 := (lat_bd h2).1
  obtain ⟨w, n, p, q⟩ := div_one h
  obtain ⟨hv, hs, k1, k2, k3, k4, k5, k6, k7, k8⟩ := sol_one h
  unfold solM
  rw [h]
  simp only [lt, Bool.not_true, cond_false]
  have c1 : gcosC 0 c d = 0 := by unfold gcosC; rw [(cos_one l2).2.2.2]; rfl
  have c2 : gsinC 0 e f = 0 := by unfold gsinC; rw [(sin_one h3).2.2.2]; rfl
  have m1 : gmulC 0 (gcosV c d).1 (gcosV c d).2 (gsinV e f).1 (gsinV e f).2 = 0 := by
    show keepE 0 (wesE c d e f).2.2 = 0
    rw [w.2.2.2]; rfl
  have v1 : gmulV (gcosV c d).1 (gcosV c d).2 (gsinV e f).1 (gsinV e f).2 = ((wesE c d e f).1, (wesE c d e f).2.1) := rfl
  have a1 : gasinC 0 (wesE c d e f).1 (wesE c d e f).2.1 = 0 := by
    show keepE 0 (perE c d e f).2.2 = 0
    rw [p.2.2.2]; rfl
  have u1 : gasinV (wesE c d e f).1 (wesE c d e f).2.1 = ((perE c d e f).1, (perE c d e f).2.1) := rfl
  have c3 : gsinC 0 c d = 0 := by unfold gsinC; rw [(sin_one l2).2.2.2]; rfl
  have c4 : gcosC 0 e f = 0 := by unfold gcosC; rw [(cos_one h3).2.2.2]; rfl
  have m2 : gmulC 0 (gcosV c d).1 (gcosV c d).2 (gcosV e f).1 (gcosV e f).2 = 0 := by
    show keepE 0 (norE c d e f).2.2 = 0
    rw [n.2.2.2]; rfl
  have v2 : gmulV (gcosV c d).1 (gcosV c d).2 (gcosV e f).1 (gcosV e f).2 = ((norE c d e f).1, (norE c d e f).2.1) := rfl
  have b1 : gbeaC 0 (gsinV c d).1 (gsinV c d).2 (norE c d e f).1 (norE c d e f).2.1 = 0 := by
    show keepE 0 (fooE c d e f).2.2 = 0
    rw [q.2.2.2]; rfl
  have u2 : gbeaV (gsinV c d).1 (gsinV c d).2 (norE c d e f).1 (norE c d e f).2.1 = ((fooE c d e f).1, (fooE c d e f).2.1) := rfl
  rw [c1, c2, m1, v1]
  dsimp only
  rw [a1, u1, c3, c4, m2, v2]
  dsimp only
  rw [b1, u2]
  dsimp only
  rw [hs]
  dsimp only
  have d0 : arcC 0 (awaA a b c d e f).1 (awaA a b c d e f).2 0 = 0 := rfl
  have d1 : arcW (awaA a b c d e f).1 (awaA a b c d e f).2 0 = ((awaA a b c d e f).1, (awaA a b c d e f).2) := rfl
  have d2 : gcosC 0 (perE c d e f).1 (perE c d e f).2.1 = 0 := by unfold gcosC; rw [(cos_one p.val).2.2.2]; rfl
  have d3 : gcosC 0 (awaA a b c d e f).1 (awaA a b c d e f).2 = 0 := by unfold gcosC; rw [(cos_one hv).2.2.2]; rfl
  have d4 : gsinC 0 (awaA a b c d e f).1 (awaA a b c d e f).2 = 0 := by unfold gsinC; rw [(sin_one hv).2.2.2]; rfl
  have y1 : gcosV (perE c d e f).1 (perE c d e f).2.1 = ((crE c d e f).1, (crE c d e f).2.1) := rfl
  have y2 : gcosV (awaA a b c d e f).1 (awaA a b c d e f).2 = ((caE a b c d e f).1, (caE a b c d e f).2.1) := rfl
  have y3 : gsinV (awaA a b c d e f).1 (awaA a b c d e f).2 = ((saE a b c d e f).1, (saE a b c d e f).2.1) := rfl
  rw [d0, d1]
  dsimp only
  rw [d2, d3, y1, y2, y3]
  dsimp only
  have g1 : gmulC 0 (crE c d e f).1 (crE c d e f).2.1 (caE a b c d e f).1 (caE a b c d e f).2.1 = 0 := by
    show keepE 0 (upM a b c d e f).2.2 = 0
    rw [k4.2.2.2]; rfl
  have g2 : gmulV (crE c d e f).1 (crE c d e f).2.1 (caE a b c d e f).1 (caE a b c d e f).2.1 = ((upM a b c d e f).1, (upM a b c d e f).2.1) := rfl
  have g3 : gmulC 0 (crE c d e f).1 (crE c d e f).2.1 (saE a b c d e f).1 (saE a b c d e f).2.1 = 0 := by
    show keepE 0 (noM a b c d e f).2.2 = 0
    rw [k5.2.2.2]; rfl
  have g4 : gmulV (crE c d e f).1 (crE c d e f).2.1 (saE a b c d e f).1 (saE a b c d e f).2.1 = ((noM a b c d e f).1, (noM a b c d e f).2.1) := rfl
  rw [g1, g2]
  dsimp only
  have g5 : gasinC 0 (upM a b c d e f).1 (upM a b c d e f).2.1 = 0 := by
    show keepE 0 (altE a b c d e f).2.2 = 0
    rw [k6.2.2.2]; rfl
  have g6 : gasinV (upM a b c d e f).1 (upM a b c d e f).2.1 = ((altE a b c d e f).1, (altE a b c d e f).2.1) := rfl
  have g7 : gnegC 0 (wesE c d e f).1 (wesE c d e f).2.1 = 0 := by
    show keepE 0 (eaM c d e f).2.2 = 0
    rw [k7.2.2.2]; rfl
  have g8 : gnegV (wesE c d e f).1 (wesE c d e f).2.1 = ((eaM c d e f).1, (eaM c d e f).2.1) := rfl
  rw [g5, g6, c1, c2, m1, g7, g8, d4, g3, g4]
  dsimp only
  have g9 : gbeaC 0 (eaM c d e f).1 (eaM c d e f).2.1 (noM a b c d e f).1 (noM a b c d e f).2.1 = 0 := by
    show keepE 0 (azE a b c d e f).2.2 = 0
    rw [k8.2.2.2]; rfl
  rw [g9]
  rfl
end Go.Proofs.YtadefgjpkhhffaaGreat

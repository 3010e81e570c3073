/-
  The reference's enclosures and fixed-point operations are the program's, where all is valid. No program here.
-/
import Derived.Test.YtcjkfchjcealbaaGreatR1
import Derived.Test.YtcjkfchjcealbaaGreatZ1
namespace Go.Proofs.YtcjkfchjcealbaaGreat
open SM Ev
theorem decT {p : Prop} [Decidable p] (h : p) : decide p = true := decide_eq_true h
theorem decF {p : Prop} [Decidable p] (h : ¬ p) : decide p = false := decide_eq_false h
theorem hib_of (n : Int) : hib n = if exa (red n) = true then lob n else lob n + 1 := by
  unfold hib lob upf
  split <;> split <;> omega
theorem exa_at {k : Nat} (h : exa k = true) : k = 0 ∨ k = 1800000 ∨ k = 5400000 := by
  unfold exa at h
  simp only [Bool.or_eq_true, beq_iff_eq] at h
  omega
theorem lob_even {n : Int} (h : exa (red n) = true) : lob n % 2 = 0 := by
  have f0 : flo 0 = 0 := rfl
  have f1 : flo 1800000 = 536870912 := rfl
  have f2 : flo 5400000 = 1073741824 := rfl
  unfold lob upf
  rw [if_pos h]
  rcases exa_at h with e | e | e <;> rw [e] <;> first | rw [f0] | rw [f1] | rw [f2]
  all_goals split <;> rfl
theorem tmod_emod (x : Int) : x % 21600000 = (if x.tmod 21600000 < 0 then x.tmod 21600000 + 21600000 else x.tmod 21600000) := by
  have h1 := Int.mul_tdiv_add_tmod x 21600000
  have h2 := tm_sign x 21600000
  have h3 := Int.tmod_lt_of_pos x (show (0 : Int) < 21600000 by omega)
  have h4 := Int.tmod_lt_of_pos (-x) (show (0 : Int) < 21600000 by omega)
  rw [Int.neg_tmod] at h4
  split <;> omega
theorem rends_eq (a : Int) : rendsM a = (lob a, hib a) := by
  have b := lob_hib a
  unfold rendsM
  simp only [lt, rflR]
  rw [hib_of]
  cases h : exa (red a)
  · rw [cond_false, i64w (by omega)]; rfl
  · rfl
theorem rhas_eq {a b c : Int} (h1 : -2000000000000 ≤ a ∧ a ≤ 2000000000000) (h2 : -2000000000000 ≤ b ∧ b ≤ 2000000000000) (h3 : -20000000 ≤ c ∧ c ≤ 20000000) : rhasM a b c = meetB a b c := by
  have t := tmod_emod (c - a)
  have p := Int.tmod_lt_of_pos (c - a) (show (0 : Int) < 21600000 by omega)
  have q := Int.tmod_lt_of_pos (-(c - a)) (show (0 : Int) < 21600000 by omega)
  rw [Int.neg_tmod] at q
  unfold rhasM meetB
  rw [i64w (x := c - a) (by omega)]
  by_cases h : (c - a).tmod 21600000 < 0
  · rw [if_pos h] at t
    rw [decT h, cond_true, i64w (x := (c - a).tmod 21600000 + 21600000) (by omega), i64w (by omega)]
    exact decide_eq_decide.2 (by omega)
  · rw [if_neg h] at t
    rw [decF h, cond_false, i64w (by omega)]
    exact decide_eq_decide.2 (by omega)
theorem meet_turn (a b : Int) : meetB a b (-5400000) = meetB a b 16200000 := by
  unfold meetB
  rw [show (-5400000 - a) % 21600000 = (16200000 - a) % 21600000 by omega]
theorem rsine_eq {a b : Int} (h1 : -2000000000000 ≤ a ∧ a ≤ 2000000000000) (h2 : -2000000000000 ≤ b ∧ b ≤ 2000000000000) : rsineM a b = (encL a b, encH a b) := by
  unfold rsineM encL encH
  simp only [lt]
  rw [rends_eq, rends_eq, rhas_eq h1 h2 (by omega), rhas_eq h1 h2 (by omega), meet_turn]
  have m1 : mn (lob a) (lob b) = min (lob a) (lob b) := by unfold mn; split <;> omega
  have m2 : mx (hib a) (hib b) = max (hib a) (hib b) := by unfold mx; split <;> omega
  cases meetB a b 5400000 <;> cases meetB a b 16200000 <;> simp only [cond_true, cond_false, m1, m2] <;> simp
theorem rcos_eq {a b : Int} (h : avalidB a b = true) : rcosM a b = ((cosR a b).1, (cosR a b).2.1) := by
  have := aval_bd h
  unfold rcosM cosR
  simp only [lt]
  rw [i64w (x := a + 5400000) (by omega), i64w (x := b + 5400000) (by omega), rsine_eq (by omega) (by omega), h]
  rfl
theorem rhv_eq {n : Int} (h : -2000000000000 ≤ n ∧ n ≤ 2000000000000) : rhvM n = ((1073741824 - hib (n + 5400000)) / 2, (1073741824 - lob (n + 5400000) + 1) / 2) := by
  have b := lob_hib (n + 5400000)
  unfold rhvM
  simp only [lt, rflR]
  rw [i64w (x := n + 5400000) (by omega), hib_of]
  generalize hf : lob (n + 5400000) = f at *
  rw [i64w (x := 1073741824 - f) (by omega)]
  have t : ∀ x : Int, 0 ≤ x → x.tdiv 2 = x / 2 := fun x hx => Int.tdiv_eq_ediv_of_nonneg hx
  cases e : exa (red (n + 5400000))
  · have c : f + 1 ≤ 1073741824 := by
      have := hib_of (n + 5400000)
      rw [e, hf] at this
      simp at this
      omega
    rw [cond_false, i64w (x := 1073741824 - f - 1) (by omega), t _ (by omega), i64w (x := (1073741824 - f - 1) / 2) (by omega), i64w (by omega)]
    simp
    omega
  · have := lob_even e
    rw [hf] at this
    rw [cond_true, t _ (by omega), i64w (x := (1073741824 - f) / 2) (by omega)]
    simp
    omega
theorem rhav_eq {a b : Int} (h : avalidB a b = true) : rhavM a b = ((havR a b).1, (havR a b).2.1) := by
  have := aval_bd h
  unfold rhavM havR encL encH
  simp only [lt]
  rw [rhv_eq (by omega), rhv_eq (by omega), rhas_eq (by omega) (by omega) (by omega), rhas_eq (by omega) (by omega) (by omega), h]
  have e1 : meetB (a + 5400000) (b + 5400000) 16200000 = meetB a b 10800000 := by
    unfold meetB
    rw [show (16200000 - (a + 5400000)) % 21600000 = (10800000 - a) % 21600000 by omega]
    exact decide_eq_decide.2 (by omega)
  have e2 : meetB (a + 5400000) (b + 5400000) 5400000 = meetB a b 0 := by
    unfold meetB
    rw [show (5400000 - (a + 5400000)) % 21600000 = (0 - a) % 21600000 by omega]
    exact decide_eq_decide.2 (by omega)
  rw [e1, e2]
  have p := lob_hib (a + 5400000)
  have q := lob_hib (b + 5400000)
  generalize lob (a + 5400000) = x at *
  generalize lob (b + 5400000) = y at *
  generalize hib (a + 5400000) = u at *
  generalize hib (b + 5400000) = v at *
  have m1 : mn ((1073741824 - u) / 2) ((1073741824 - v) / 2) = (1073741824 - max u v) / 2 := by unfold mn; split <;> omega
  have m2 : mx ((1073741824 - x + 1) / 2) ((1073741824 - y + 1) / 2) = (1073741824 - min x y + 1) / 2 := by unfold mx; split <;> omega
  cases meetB a b 10800000 <;> cases meetB a b 0 <;> simp only [cond_true, cond_false, m1, m2] <;> simp
theorem rfit_eq {a b : Int} (h : a ≤ b) : rfitM a b = fitR a b := by
  unfold rfitM fitR
  by_cases h1 : a < -2147483648
  · rw [decT h1, cond_true, if_neg (by simp [validB]; omega)]
  · rw [decF h1, cond_false]
    by_cases h2 : b > 2147483648
    · rw [decT h2, cond_true, if_neg (by simp [validB]; omega)]
    · rw [decF h2, cond_false, if_pos (by simp [validB]; omega)]
theorem rlst_eq (a b : Int) : rlstM a b = min a b := by
  unfold rlstM
  by_cases h : b < a
  · rw [decT h]; simp; omega
  · rw [decF h]; simp; omega
theorem rmst_eq (a b : Int) : rmstM a b = max a b := by
  unfold rmstM
  by_cases h : a < b
  · rw [decT h]; simp; omega
  · rw [decF h]; simp; omega
theorem radd_eq {a b c d : Int} (h1 : validB a b = true) (h2 : validB c d = true) : raddM a b c d = addR a b c d := by
  have p := val_bd h1
  have q := val_bd h2
  unfold raddM addR
  simp only [lt]
  rw [i64w (x := a + c) (by omega), i64w (x := b + d) (by omega), rfit_eq (by omega), if_pos (both_mk h1 h2)]
theorem rsub_eq {a b c d : Int} (h1 : validB a b = true) (h2 : validB c d = true) : rsubM a b c d = subR a b c d := by
  have p := val_bd h1
  have q := val_bd h2
  unfold rsubM subR
  simp only [lt]
  rw [i64w (x := a - d) (by omega), i64w (x := b - c) (by omega), rfit_eq (by omega), if_pos (both_mk h1 h2)]
theorem fl_one (x : Int) : x / 1073741824 = (if x.tmod 1073741824 < 0 then x.tdiv 1073741824 - 1 else x.tdiv 1073741824) := by
  have t := fl_pos x 1073741824 (by omega)
  have s := tm_sign x 1073741824
  split at t
  · rw [if_pos (by omega)]; exact t
  · rw [if_neg (by omega)]; exact t
theorem rmul_eq {a b c d : Int} (h1 : validB a b = true) (h2 : validB c d = true) : rmulM a b c d = mulR a b c d := by
  have p := val_bd h1
  have q := val_bd h2
  have p1 := pmul_bd (x := a) (y := c) (by omega) (by omega) (by omega) (by omega)
  have p2 := pmul_bd (x := a) (y := d) (by omega) (by omega) (by omega) (by omega)
  have p3 := pmul_bd (x := b) (y := c) (by omega) (by omega) (by omega) (by omega)
  have p4 := pmul_bd (x := b) (y := d) (by omega) (by omega) (by omega) (by omega)
  have mo := mul_order p.2.1 q.2.1
  unfold rmulM mulR
  rw [i64w (x := a * c) (by omega), i64w (x := a * d) (by omega), i64w (x := b * c) (by omega), i64w (x := b * d) (by omega), if_pos (both_mk h1 h2)]
  have eL : rlstM (rlstM (a * c) (a * d)) (rlstM (b * c) (b * d)) = mulL a b c d := by
    rw [rlst_eq, rlst_eq, rlst_eq]
    unfold mulL mn
    repeat' split
    all_goals omega
  have eH : rmstM (rmstM (a * c) (a * d)) (rmstM (b * c) (b * d)) = mulH a b c d := by
    rw [rmst_eq, rmst_eq, rmst_eq]
    unfold mulH mx
    repeat' split
    all_goals omega
  have bL : -4611686018427387904 ≤ mulL a b c d ∧ mulL a b c d ≤ 4611686018427387904 := by
    have := (mn4 (a * c) (a * d) (b * c) (b * d)).2
    unfold mulL
    omega
  have bH : -4611686018427387904 ≤ mulH a b c d ∧ mulH a b c d ≤ 4611686018427387904 := by
    have := (mx4 (a * c) (a * d) (b * c) (b * d)).2
    unfold mulH
    omega
  rw [eL, eH]
  generalize mulL a b c d = L at *
  generalize mulH a b c d = H at *
  rw [i64w (x := 0 - H) (by omega), Int.zero_sub]
  have f1 := fl_one L
  have f2 := fl_one (-H)
  have t1 := tdiv_bd L 1073741824 4611686018427387904 bL.1 bL.2
  have t2 := tdiv_bd (-H) 1073741824 4611686018427387904 (by omega) (by omega)
  rw [i64w (x := L.tdiv 1073741824) (by omega), i64w (x := (-H).tdiv 1073741824) (by omega), i64w (x := L.tdiv 1073741824 - 1) (by omega), i64w (x := (-H).tdiv 1073741824 - 1) (by omega)]
  rw [i64w (x := 0 - (-H).tdiv 1073741824) (by omega), i64w (x := 0 - ((-H).tdiv 1073741824 - 1)) (by omega), Int.zero_sub, Int.zero_sub]
  have mono : L / 1073741824 ≤ -(-H / 1073741824) := by omega
  simp only [lt]
  by_cases c1 : L.tmod 1073741824 < 0 <;> by_cases c2 : (-H).tmod 1073741824 < 0
  · rw [if_pos c1] at f1; rw [if_pos c2] at f2
    rw [decT c1, decT c2, ← f1, ← f2]; exact rfit_eq mono
  · rw [if_pos c1] at f1; rw [if_neg c2] at f2
    rw [decT c1, decF c2, ← f1, ← f2]; exact rfit_eq mono
  · rw [if_neg c1] at f1; rw [if_pos c2] at f2
    rw [decF c1, decT c2, ← f1, ← f2]; exact rfit_eq mono
  · rw [if_neg c1] at f1; rw [if_neg c2] at f2
    rw [decF c1, decF c2, ← f1, ← f2]; exact rfit_eq mono
theorem rval_eq (a b : Int) : rvalM a b = avalidB a b := by
  unfold rvalM avalidB
  by_cases h1 : a ≤ b
  · by_cases h2 : a ≥ -1099511627776
    · rw [decT h1, decT h2, cond_true, cond_true]
      exact decide_eq_decide.2 (by omega)
    · rw [decT h1, decF h2, cond_true, cond_false, decF (by omega)]
  · rw [decF h1, cond_false, decF (by omega)]
theorem rlat_eq (a b : Int) : rlatM a b = latB a b := by
  unfold rlatM latB avalidB
  by_cases h1 : a ≤ b
  · by_cases h2 : a ≥ -5400000
    · rw [decT h1, decT h2, cond_true, cond_true]
      by_cases h3 : b ≤ 5400000
      · rw [decT h3, decT (by omega)]; rfl
      · rw [decF h3]; simp
    · rw [decT h1, decF h2, cond_true, cond_false]; simp
  · rw [decF h1, cond_false, decF (by omega)]; rfl
theorem rtri_eq (a b c d e f : Int) : rtriM a b c d e f = triB a b c d e f := by
  unfold rtriM triB
  rw [rlat_eq, rlat_eq, rval_eq]
  cases latB a b <;> cases latB c d <;> rfl
theorem rasub_eq {a b c d : Int} (h1 : -100000000 ≤ a) (h2 : a ≤ b) (h3 : b ≤ 100000000) (h4 : -100000000 ≤ c) (h5 : c ≤ d) (h6 : d ≤ 100000000) : rasubM a b c d = (a - d, b - c) := by
  unfold rasubM
  rw [i64w (by omega), i64w (by omega)]
theorem qtr_eq {a b : Int} (h1 : -100000000 ≤ a) (h2 : a ≤ b) (h3 : b ≤ 100000000) : qtrM a b = (5400000 - b, 5400000 - a) := by
  unfold qtrM
  rw [i64w (by omega), i64w (by omega)]
theorem rwrap_eq (x : Int) : rwrapM x = x % 21600000 := by
  have t := tmod_emod x
  have q := Int.tmod_lt_of_pos (-x) (show (0 : Int) < 21600000 by omega)
  rw [Int.neg_tmod] at q
  unfold rwrapM
  by_cases c : x.tmod 21600000 < 0
  · rw [if_pos c] at t
    rw [decT c, cond_true, i64w (by omega)]; omega
  · rw [if_neg c] at t
    rw [decF c, cond_false]; omega
theorem rturn_eq {e f : Int} (h : avalidB e f = true) : rturnM e f = (turnL e f, turnH e f) := by
  have := aval_bd h
  unfold rturnM turnL turnH
  rw [i64w (x := f - e) (by omega), rwrap_eq]
  by_cases c : f - e ≥ 21600000
  · rw [decT c, if_pos c, if_pos c]; rfl
  · rw [decF c, if_neg c, if_neg c, cond_false, i64w (by omega)]
theorem dist_eq (u v : Int) : distM u v = true ↔ 0 ≤ u ∧ u ≤ v ∧ v ≤ 10800000 := by
  unfold distM
  rw [rval_eq]
  unfold avalidB
  by_cases h1 : -1099511627776 ≤ u ∧ u ≤ v ∧ v ≤ 1099511627776
  · rw [decT h1, cond_true]
    by_cases h2 : u ≥ 0
    · rw [decT h2, cond_true, decide_eq_true_eq]; omega
    · rw [decF h2, cond_false]; constructor
      · intro h; cases h
      · omega
  · rw [decF h1, cond_false]; constructor
    · intro h; cases h
    · omega
end Go.Proofs.YtcjkfchjcealbaaGreat

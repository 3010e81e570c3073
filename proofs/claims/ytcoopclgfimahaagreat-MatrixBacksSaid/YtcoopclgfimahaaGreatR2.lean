/-
  The reference's operations are the program's, where all is valid; capped lengths.
-/
import Derived.Test.YtcoopclgfimahaaGreatR1
import Derived.Test.YtcoopclgfimahaaGreatHk
import Derived.Test.YtcoopclgfimahaaGreatHz
namespace Go.Proofs.YtcoopclgfimahaaGreat
open Ev

open SM TB TA
open Ev (lt keepE)
namespace Hy
-- plain: two ways to cap lengths; r is the root's law
theorem one_le {n r : Int} (h0 : 0 ≤ r) (h2 : n < (r + 1) * (r + 1)) (h : 1073741824 * 1073741824 ≤ n) : 1073741824 ≤ r := by
  rcases Int.lt_or_le r 1073741824 with q | q
  · exfalso
    have := Int.mul_le_mul (show r + 1 ≤ 1073741824 by omega) (show r + 1 ≤ 1073741824 by omega) (by omega) (by omega)
    omega
  · exact q
/-- Capped before or after: the root's least part. -/
theorem cap_lo (f : Int → Int) (hf : ∀ n, 0 ≤ n → n < 9223372036854775808 → 0 ≤ f n ∧ f n * f n ≤ n ∧ n < (f n + 1) * (f n + 1)) {x y : Int} (hx : 0 ≤ x ∧ x ≤ 2147483648) (hy : 0 ≤ y ∧ y ≤ 2147483648) (hb : x * x + y * y < 9223372036854775808) :
    min (f (min x 1073741824 * min x 1073741824 + min y 1073741824 * min y 1073741824)) 1073741824 = min (f (x * x + y * y)) 1073741824 := by
  have sq : ∀ z : Int, 0 ≤ z * z := fun z => by
    rcases Int.le_total 0 z with h | h
    · exact Int.mul_nonneg h h
    · exact Int.mul_nonneg_of_nonpos_of_nonpos h h
  have big : ∀ z : Int, 1073741824 ≤ z → 1073741824 * 1073741824 ≤ z * z := fun z h => Int.mul_le_mul h h (by omega) (by omega)
  have cap : ∀ z : Int, 0 ≤ z → min z 1073741824 * min z 1073741824 ≤ 1152921504606846976 := fun z h => by
    have := Int.mul_le_mul (show min z 1073741824 ≤ 1073741824 by omega) (show min z 1073741824 ≤ 1073741824 by omega) (by omega) (by omega)
    omega
  have a1 := sq x
  have a2 := sq y
  have a3 := sq (min x 1073741824)
  have a4 := sq (min y 1073741824)
  have c1 := cap x hx.1
  have c2 := cap y hy.1
  have s1 := hf (x * x + y * y) (by omega) hb
  have s2 := hf (min x 1073741824 * min x 1073741824 + min y 1073741824 * min y 1073741824) (by omega) (by omega)
  by_cases hbig : 1073741824 ≤ x ∨ 1073741824 ≤ y
  · have g1 : 1073741824 * 1073741824 ≤ x * x + y * y := by
      rcases hbig with h | h
      · have := big x h; omega
      · have := big y h; omega
    have g2 : 1073741824 * 1073741824 ≤ min x 1073741824 * min x 1073741824 + min y 1073741824 * min y 1073741824 := by
      rcases hbig with h | h
      · have := big (min x 1073741824) (by omega); omega
      · have := big (min y 1073741824) (by omega); omega
    have r1 := one_le s1.1 s1.2.2 g1
    have r2 := one_le s2.1 s2.2.2 g2
    omega
  · have e1 : min x 1073741824 = x := by omega
    have e2 : min y 1073741824 = y := by omega
    rw [e1, e2]
/-- The root rounded up. -/
def upr (f : Int → Int) (n : Int) : Int := if f n * f n < n then f n + 1 else f n
theorem upr_ge (f : Int → Int) (n : Int) : f n ≤ upr f n := by unfold upr; split <;> omega
/-- Capped before or after: the root's greatest part. -/
theorem cap_hi (f : Int → Int) (hf : ∀ n, 0 ≤ n → n < 9223372036854775808 → 0 ≤ f n ∧ f n * f n ≤ n ∧ n < (f n + 1) * (f n + 1)) {x y : Int} (hx : 0 ≤ x ∧ x ≤ 2147483648) (hy : 0 ≤ y ∧ y ≤ 2147483648) (hb : x * x + y * y < 9223372036854775808) :
    min (upr f (min x 1073741824 * min x 1073741824 + min y 1073741824 * min y 1073741824)) 1073741824 = min (upr f (x * x + y * y)) 1073741824 := by
  have sq : ∀ z : Int, 0 ≤ z * z := fun z => by
    rcases Int.le_total 0 z with h | h
    · exact Int.mul_nonneg h h
    · exact Int.mul_nonneg_of_nonpos_of_nonpos h h
  have big : ∀ z : Int, 1073741824 ≤ z → 1073741824 * 1073741824 ≤ z * z := fun z h => Int.mul_le_mul h h (by omega) (by omega)
  have cap : ∀ z : Int, 0 ≤ z → min z 1073741824 * min z 1073741824 ≤ 1152921504606846976 := fun z h => by
    have := Int.mul_le_mul (show min z 1073741824 ≤ 1073741824 by omega) (show min z 1073741824 ≤ 1073741824 by omega) (by omega) (by omega)
    omega
  have a1 := sq x
  have a2 := sq y
  have a3 := sq (min x 1073741824)
  have a4 := sq (min y 1073741824)
  have c1 := cap x hx.1
  have c2 := cap y hy.1
  have s1 := hf (x * x + y * y) (by omega) hb
  have s2 := hf (min x 1073741824 * min x 1073741824 + min y 1073741824 * min y 1073741824) (by omega) (by omega)
  by_cases hbig : 1073741824 ≤ x ∨ 1073741824 ≤ y
  · have g1 : 1073741824 * 1073741824 ≤ x * x + y * y := by
      rcases hbig with h | h
      · have := big x h; omega
      · have := big y h; omega
    have g2 : 1073741824 * 1073741824 ≤ min x 1073741824 * min x 1073741824 + min y 1073741824 * min y 1073741824 := by
      rcases hbig with h | h
      · have := big (min x 1073741824) (by omega); omega
      · have := big (min y 1073741824) (by omega); omega
    have r1 := one_le s1.1 s1.2.2 g1
    have r2 := one_le s2.1 s2.2.2 g2
    have u1 := upr_ge f (x * x + y * y)
    have u2 := upr_ge f (min x 1073741824 * min x 1073741824 + min y 1073741824 * min y 1073741824)
    omega
  · have e1 : min x 1073741824 = x := by omega
    have e2 : min y 1073741824 = y := by omega
    rw [e1, e2]
end Hy
theorem decT {p : Prop} [Decidable p] (h : p) : decide p = true := decide_eq_true h
theorem decF {p : Prop} [Decidable p] (h : ¬ p) : decide p = false := decide_eq_false h
theorem hib_of (n : Int) : hib n = if exa (red n) = true then lob n else lob n + 1 := by
  unfold hib lob upf
  split <;> split <;> omega
theorem tmod_emod (x : Int) : x % 21600000 = (if x.tmod 21600000 < 0 then x.tmod 21600000 + 21600000 else x.tmod 21600000) := by
  have h1 := Int.mul_tdiv_add_tmod x 21600000
  have h2 := tm_sign x 21600000
  have h3 := Int.tmod_lt_of_pos x (show (0 : Int) < 21600000 by omega)
  have h4 := Int.tmod_lt_of_pos (-x) (show (0 : Int) < 21600000 by omega)
  rw [Int.neg_tmod] at h4
  split <;> omega
theorem rends_eq (a : Int) : rendsM a = (lob a, hib a) := by
  have b := lob_hib a
  unfold rendsM
  simp only [lt, rflR]
  rw [hib_of]
  cases h : exa (red a)
  · rw [cond_false, i64w (by omega)]; rfl
  · rfl
theorem rhas_eq {a b c : Int} (h1 : -2000000000000 ≤ a ∧ a ≤ 2000000000000) (_h2 : -2000000000000 ≤ b ∧ b ≤ 2000000000000) (h3 : -20000000 ≤ c ∧ c ≤ 20000000) : rhasM a b c = meetB a b c := by
  have t := tmod_emod (c - a)
  have p := Int.tmod_lt_of_pos (c - a) (show (0 : Int) < 21600000 by omega)
  have q := Int.tmod_lt_of_pos (-(c - a)) (show (0 : Int) < 21600000 by omega)
  rw [Int.neg_tmod] at q
  unfold rhasM meetB
  rw [i64w (x := c - a) (by omega)]
  by_cases h : (c - a).tmod 21600000 < 0
  · rw [if_pos h] at t
    rw [decT h, cond_true, i64w (x := (c - a).tmod 21600000 + 21600000) (by omega), i64w (by omega)]
    exact decide_eq_decide.2 (by omega)
  · rw [if_neg h] at t
    rw [decF h, cond_false, i64w (by omega)]
    exact decide_eq_decide.2 (by omega)
theorem meet_turn (a b : Int) : meetB a b (-5400000) = meetB a b 16200000 := by
  unfold meetB
  rw [show (-5400000 - a) % 21600000 = (16200000 - a) % 21600000 by omega]
theorem rsine_eq {a b : Int} (h1 : -2000000000000 ≤ a ∧ a ≤ 2000000000000) (h2 : -2000000000000 ≤ b ∧ b ≤ 2000000000000) : rsineM a b = (encL a b, encH a b) := by
  unfold rsineM encL encH
  simp only [lt]
  rw [rends_eq, rends_eq, rhas_eq h1 h2 (by omega), rhas_eq h1 h2 (by omega), meet_turn]
  have m1 : mn (lob a) (lob b) = min (lob a) (lob b) := by unfold mn; split <;> omega
  have m2 : mx (hib a) (hib b) = max (hib a) (hib b) := by unfold mx; split <;> omega
  cases meetB a b 5400000 <;> cases meetB a b 16200000 <;> simp only [cond_true, cond_false, m1, m2] <;> simp
theorem rcos_eq {a b : Int} (h : avalidB a b = true) : rcosM a b = ((cosR a b).1, (cosR a b).2.1) := by
  have := aval_bd h
  unfold rcosM cosR
  simp only [lt]
  rw [i64w (x := a + 5400000) (by omega), i64w (x := b + 5400000) (by omega), rsine_eq (by omega) (by omega), h]
  rfl
theorem rfit_eq {a b : Int} (h : a ≤ b) : rfitM a b = fitR a b := by
  unfold rfitM fitR
  by_cases h1 : a < -2147483648
  · rw [decT h1, cond_true, if_neg (by simp [validB]; omega)]
  · rw [decF h1, cond_false]
    by_cases h2 : b > 2147483648
    · rw [decT h2, cond_true, if_neg (by simp [validB]; omega)]
    · rw [decF h2, cond_false, if_pos (by simp [validB]; omega)]
theorem rlst_eq (a b : Int) : rlstM a b = min a b := by
  unfold rlstM
  by_cases h : b < a
  · rw [decT h]; simp; omega
  · rw [decF h]; simp; omega
theorem rmst_eq (a b : Int) : rmstM a b = max a b := by
  unfold rmstM
  by_cases h : a < b
  · rw [decT h]; simp; omega
  · rw [decF h]; simp; omega
theorem radd_eq {a b c d : Int} (h1 : validB a b = true) (h2 : validB c d = true) : raddM a b c d = addR a b c d := by
  have p := val_bd h1
  have q := val_bd h2
  unfold raddM addR
  simp only [lt]
  rw [i64w (x := a + c) (by omega), i64w (x := b + d) (by omega), rfit_eq (by omega), if_pos (both_mk h1 h2)]
theorem rsub_eq {a b c d : Int} (h1 : validB a b = true) (h2 : validB c d = true) : rsubM a b c d = subR a b c d := by
  have p := val_bd h1
  have q := val_bd h2
  unfold rsubM subR
  simp only [lt]
  rw [i64w (x := a - d) (by omega), i64w (x := b - c) (by omega), rfit_eq (by omega), if_pos (both_mk h1 h2)]
theorem fl_one (x : Int) : x / 1073741824 = (if x.tmod 1073741824 < 0 then x.tdiv 1073741824 - 1 else x.tdiv 1073741824) := by
  have t := fl_pos x 1073741824 (by omega)
  have s := tm_sign x 1073741824
  split at t
  · rw [if_pos (by omega)]; exact t
  · rw [if_neg (by omega)]; exact t
theorem rmul_eq {a b c d : Int} (h1 : validB a b = true) (h2 : validB c d = true) : rmulM a b c d = mulR a b c d := by
  have p := val_bd h1
  have q := val_bd h2
  have p1 := pmul_bd (x := a) (y := c) (by omega) (by omega) (by omega) (by omega)
  have p2 := pmul_bd (x := a) (y := d) (by omega) (by omega) (by omega) (by omega)
  have p3 := pmul_bd (x := b) (y := c) (by omega) (by omega) (by omega) (by omega)
  have p4 := pmul_bd (x := b) (y := d) (by omega) (by omega) (by omega) (by omega)
  have mo := mul_order p.2.1 q.2.1
  unfold rmulM mulR
  rw [i64w (x := a * c) (by omega), i64w (x := a * d) (by omega), i64w (x := b * c) (by omega), i64w (x := b * d) (by omega), if_pos (both_mk h1 h2)]
  have eL : rlstM (rlstM (a * c) (a * d)) (rlstM (b * c) (b * d)) = mulL a b c d := by
    rw [rlst_eq, rlst_eq, rlst_eq]
    unfold mulL mn
    repeat' split
    all_goals omega
  have eH : rmstM (rmstM (a * c) (a * d)) (rmstM (b * c) (b * d)) = mulH a b c d := by
    rw [rmst_eq, rmst_eq, rmst_eq]
    unfold mulH mx
    repeat' split
    all_goals omega
  have bL : -4611686018427387904 ≤ mulL a b c d ∧ mulL a b c d ≤ 4611686018427387904 := by
    have := (mn4 (a * c) (a * d) (b * c) (b * d)).2
    unfold mulL
    omega
  have bH : -4611686018427387904 ≤ mulH a b c d ∧ mulH a b c d ≤ 4611686018427387904 := by
    have := (mx4 (a * c) (a * d) (b * c) (b * d)).2
    unfold mulH
    omega
  rw [eL, eH]
  generalize mulL a b c d = L at *
  generalize mulH a b c d = H at *
  rw [i64w (x := 0 - H) (by omega), Int.zero_sub]
  have f1 := fl_one L
  have f2 := fl_one (-H)
  have t1 := tdiv_bd L 1073741824 4611686018427387904 bL.1 bL.2
  have t2 := tdiv_bd (-H) 1073741824 4611686018427387904 (by omega) (by omega)
  rw [i64w (x := L.tdiv 1073741824) (by omega), i64w (x := (-H).tdiv 1073741824) (by omega), i64w (x := L.tdiv 1073741824 - 1) (by omega), i64w (x := (-H).tdiv 1073741824 - 1) (by omega)]
  rw [i64w (x := 0 - (-H).tdiv 1073741824) (by omega), i64w (x := 0 - ((-H).tdiv 1073741824 - 1)) (by omega), Int.zero_sub, Int.zero_sub]
  have mono : L / 1073741824 ≤ -(-H / 1073741824) := by omega
  simp only [lt]
  by_cases c1 : L.tmod 1073741824 < 0 <;> by_cases c2 : (-H).tmod 1073741824 < 0
  · rw [if_pos c1] at f1; rw [if_pos c2] at f2
    rw [decT c1, decT c2, ← f1, ← f2]; exact rfit_eq mono
  · rw [if_pos c1] at f1; rw [if_neg c2] at f2
    rw [decT c1, decF c2, ← f1, ← f2]; exact rfit_eq mono
  · rw [if_neg c1] at f1; rw [if_pos c2] at f2
    rw [decF c1, decT c2, ← f1, ← f2]; exact rfit_eq mono
  · rw [if_neg c1] at f1; rw [if_neg c2] at f2
    rw [decF c1, decF c2, ← f1, ← f2]; exact rfit_eq mono
theorem rval_eq (a b : Int) : rvalM a b = avalidB a b := by
  unfold rvalM avalidB
  by_cases h1 : a ≤ b
  · by_cases h2 : a ≥ -1099511627776
    · rw [decT h1, decT h2, cond_true, cond_true]
      exact decide_eq_decide.2 (by omega)
    · rw [decT h1, decF h2, cond_true, cond_false, decF (by omega)]
  · rw [decF h1, cond_false, decF (by omega)]
theorem rlat_eq (a b : Int) : rlatM a b = latB a b := by
  unfold rlatM latB avalidB
  by_cases h1 : a ≤ b
  · by_cases h2 : a ≥ -5400000
    · rw [decT h1, decT h2, cond_true, cond_true]
      by_cases h3 : b ≤ 5400000
      · rw [decT h3, decT (by omega)]; rfl
      · rw [decF h3]; simp
    · rw [decT h1, decF h2, cond_true, cond_false]; simp
  · rw [decF h1, cond_false, decF (by omega)]; rfl
theorem rtri_eq (a b c d e f : Int) : rtriM a b c d e f = triB a b c d e f := by
  unfold rtriM triB
  rw [rlat_eq, rlat_eq, rval_eq]
  cases latB a b <;> cases latB c d <;> rfl
theorem rsin_eq {a b : Int} (h : avalidB a b = true) : rsinM a b = ((sinR a b).1, (sinR a b).2.1) := by
  have := aval_bd h
  unfold rsinM sinR
  simp only [lt]
  rw [rsine_eq (by omega) (by omega), h]
  rfl
theorem times_eq {a b c d : Int} (h : validB a b = true) (k : validB c d = true) : timesM a b c d = ((mulR a b c d).1, (mulR a b c d).2.1) := by
  unfold timesM
  simp only [lt]
  rw [rmul_eq h k]
theorem plus_eq {a b c d : Int} (h : validB a b = true) (k : validB c d = true) : plusM a b c d = ((addR a b c d).1, (addR a b c d).2.1) := by
  unfold plusM
  simp only [lt]
  rw [radd_eq h k]
theorem minus_eq {a b c d : Int} (h : validB a b = true) (k : validB c d = true) : minusM a b c d = ((subR a b c d).1, (subR a b c d).2.1) := by
  unfold minusM
  simp only [lt]
  rw [rsub_eq h k]
theorem rneg_eq {r : Int × Int × Int} (h : OneR r) : rnegM r.1 r.2.1 = ((negR r.1 r.2.1).1, (negR r.1 r.2.1).2.1) := by
  obtain ⟨h1, h2, h3, h4⟩ := h
  rw [(neg_one ⟨h1, h2, h3, h4⟩).1]
  unfold rnegM
  rw [i64w (x := 0 - r.2.1) (by omega), i64w (x := 0 - r.1) (by omega), Int.zero_sub, Int.zero_sub]
theorem rmeet_eq (a b c d : Int) : rmeetM a b c d = (mx c a, mn d b) := by
  unfold rmeetM mx mn
  by_cases c1 : c > a
  · rw [decT c1, cond_true]
    by_cases c2 : d < b
    · rw [decT c2, cond_true]; split <;> split <;> simp <;> omega
    · rw [decF c2, cond_false]; split <;> split <;> simp <;> omega
  · rw [decF c1, cond_false]
    by_cases c2 : d < b
    · rw [decT c2, cond_true]; split <;> split <;> simp <;> omega
    · rw [decF c2, cond_false]; split <;> split <;> simp <;> omega
theorem rnear_eq {a b : Int} (h1 : -2147483648 ≤ a) (h2 : a ≤ b) (_h3 : b ≤ 2147483648) : rnearM a b = nrA a b := by
  unfold rnearM nrA
  by_cases c1 : a > 0
  · rw [decT c1, cond_true, if_pos (by omega)]
  · rw [decF c1, cond_false, if_neg (by omega)]
    by_cases c2 : b < 0
    · rw [decT c2, cond_true, if_pos c2, i64w (by omega)]; omega
    · rw [decF c2, cond_false, if_neg c2]
theorem rfar_eq {a b : Int} (h1 : -2147483648 ≤ a) (h2 : a ≤ b) (h3 : b ≤ 2147483648) : rfarM a b = frA a b := by
  unfold rfarM frA
  rw [i64w (x := 0 - a) (by omega)]
  by_cases c : b < -a
  · rw [decT (show 0 - a > b by omega), cond_true, if_pos c]; omega
  · rw [decF (show ¬ 0 - a > b by omega), cond_false, if_neg c]
theorem rcap_eq (n : Int) : rcapM n = min n 1073741824 := by
  unfold rcapM
  by_cases c : n > 1073741824
  · rw [decT c, cond_true]; omega
  · rw [decF c, cond_false]; omega
def rhypP (a b c d : Int) : Bool := decide (-2147483648 ≤ a ∧ a ≤ b ∧ b ≤ 2147483648 ∧ -1073741824 ≤ c ∧ c ≤ d ∧ d ≤ 1073741824)
def raltP (a b c d e f : Int) : Bool := validB a b && rhypP c d e f
noncomputable def raltQ (a b c d e f : Int) : Int × Int := ((alT a b (hypM c d e f).1 (hypM c d e f).2).1, (alT a b (hypM c d e f).1 (hypM c d e f).2).2.1)
noncomputable def rsolQ (a b c d e f : Int) : Int × Int × Int × Int := ((maltE a b c d e f).1, (maltE a b c d e f).2.1, (maziE a b c d e f).1, (maziE a b c d e f).2.1)
noncomputable def book_rhyp_gives : Book := [(77, eI (fun a => .int .i64 (rcapM a))), (78, eP (fun a b => .int .i64 (rnearM a b))), (79, eP (fun a b => .int .i64 (rfarM a b))), (80, eIif rootP (fun a => .int .i64 (rootR a)))]
theorem book_rhyp_gives_ok : BookOk Tryz.prog book_rhyp_gives := (bookOk_cons (eI_ok rcapM_gives) (bookOk_cons (eP_ok rnearM_gives) (bookOk_cons (eP_ok rfarM_gives) (bookOk_cons (eIif_ok rroot_gives) bookOk_nil))))
theorem rhyp_gives_tree (a b c d : Int) : evF Tryz.prog Es Cs book_rhyp_gives 20 6 53 ([.agg ⟨[.int .i64 a, .int .i64 b]⟩, .agg ⟨[.int .i64 c, .int .i64 d]⟩].map AV.v) [] [] last =
  cond (rootP (IntKind.i64.wrap ((IntKind.i64.wrap ((rcapM (rnearM a b)) * (rcapM (rnearM a b)))) + (IntKind.i64.wrap ((rcapM (rnearM c d)) * (rcapM (rnearM c d)))))))
  (cond (rootP (IntKind.i64.wrap ((IntKind.i64.wrap ((rcapM (rfarM a b)) * (rcapM (rfarM a b)))) + (IntKind.i64.wrap ((rcapM (rfarM c d)) * (rcapM (rfarM c d)))))))
   (cond (decide (IntKind.i64.wrap ((rootR (IntKind.i64.wrap ((IntKind.i64.wrap ((rcapM (rfarM a b)) * (rcapM (rfarM a b)))) + (IntKind.i64.wrap ((rcapM (rfarM c d)) * (rcapM (rfarM c d))))))) * (rootR (IntKind.i64.wrap ((IntKind.i64.wrap ((rcapM (rfarM a b)) * (rcapM (rfarM a b)))) + (IntKind.i64.wrap ((rcapM (rfarM c d)) * (rcapM (rfarM c d)))))))) < IntKind.i64.wrap ((IntKind.i64.wrap ((rcapM (rfarM a b)) * (rcapM (rfarM a b)))) + (IntKind.i64.wrap ((rcapM (rfarM c d)) * (rcapM (rfarM c d)))))))
    (some (.v (.agg ⟨[.int .i64 (rcapM (rootR (IntKind.i64.wrap ((IntKind.i64.wrap ((rcapM (rnearM a b)) * (rcapM (rnearM a b)))) + (IntKind.i64.wrap ((rcapM (rnearM c d)) * (rcapM (rnearM c d)))))))), .int .i64 (rcapM (IntKind.i64.wrap ((rootR (IntKind.i64.wrap ((IntKind.i64.wrap ((rcapM (rfarM a b)) * (rcapM (rfarM a b)))) + (IntKind.i64.wrap ((rcapM (rfarM c d)) * (rcapM (rfarM c d))))))) + 1)))]⟩)))
    (some (.v (.agg ⟨[.int .i64 (rcapM (rootR (IntKind.i64.wrap ((IntKind.i64.wrap ((rcapM (rnearM a b)) * (rcapM (rnearM a b)))) + (IntKind.i64.wrap ((rcapM (rnearM c d)) * (rcapM (rnearM c d)))))))), .int .i64 (rcapM (rootR (IntKind.i64.wrap ((IntKind.i64.wrap ((rcapM (rfarM a b)) * (rcapM (rfarM a b)))) + (IntKind.i64.wrap ((rcapM (rfarM c d)) * (rcapM (rfarM c d))))))))]⟩))))
   (none))
  (none) := by kernel_rfl
theorem rhyp_gives (a b c d : Int) (hp : rhypP a b c d = true) : Gives Tryz.prog 53 [.agg ⟨[.int .i64 a, .int .i64 b]⟩, .agg ⟨[.int .i64 c, .int .i64 d]⟩] (pairV (hypM a b c d).1 (hypM a b c d).2) := by
  refine evF_gives (E := Es) mixed Es_ok Cs_ok book_rhyp_gives_ok (lim := 20) (d := 6) (nm := []) ?_
  rw [rhyp_gives_tree a b c d]
  obtain ⟨h1, h2, h3, h4, h5, h6⟩ := of_decide_eq_true hp
  have n1 := nr_bd h2
  have n2 := nr_bd h5
  have eX : rcapM (rnearM a b) = min (nrA a b) 1073741824 := by rw [rnear_eq h1 h2 h3, rcap_eq]
  have eY : rcapM (rnearM c d) = min (nrA c d) 1073741824 := by rw [rnear_eq (by omega) h5 (by omega), rcap_eq]
  have eU : rcapM (rfarM a b) = min (frA a b) 1073741824 := by rw [rfar_eq h1 h2 h3, rcap_eq]
  have eV : rcapM (rfarM c d) = min (frA c d) 1073741824 := by rw [rfar_eq (by omega) h5 (by omega), rcap_eq]
  have hf : ∀ n, 0 ≤ n → n < 9223372036854775808 → 0 ≤ rootR n ∧ rootR n * rootR n ≤ n ∧ n < (rootR n + 1) * (rootR n + 1) := fun n p q => rt_ok p (by omega)
  have s1 := sq_int (x := nrA a b) (m := 2147483648) n1.1 (by omega)
  have s2 := sq_int (x := nrA c d) (m := 1073741824) n2.1 (by omega)
  have s3 := sq_int (x := frA a b) (m := 2147483648) (by omega) (by omega)
  have s4 := sq_int (x := frA c d) (m := 1073741824) (by omega) (by omega)
  have c1 := Hy.cap_lo rootR hf (x := nrA a b) (y := nrA c d) ⟨n1.1, by omega⟩ ⟨n2.1, by omega⟩ (by omega)
  have c2 := Hy.cap_hi rootR hf (x := frA a b) (y := frA c d) ⟨by omega, by omega⟩ ⟨by omega, by omega⟩ (by omega)
  have eH : hypM a b c d = (min (rootR (min (nrA a b) 1073741824 * min (nrA a b) 1073741824 + min (nrA c d) 1073741824 * min (nrA c d) 1073741824)) 1073741824, min (Hy.upr rootR (min (frA a b) 1073741824 * min (frA a b) 1073741824 + min (frA c d) 1073741824 * min (frA c d) 1073741824)) 1073741824) := by
    rw [hyp_eq h1 h2 h3 h4 h5 h6, c1, c2]
    rfl
  rw [eX, eY, eU, eV, eH]
  have bx : 0 ≤ min (nrA a b) 1073741824 ∧ min (nrA a b) 1073741824 ≤ 1073741824 := by omega
  have by' : 0 ≤ min (nrA c d) 1073741824 ∧ min (nrA c d) 1073741824 ≤ 1073741824 := by omega
  have bu : 0 ≤ min (frA a b) 1073741824 ∧ min (frA a b) 1073741824 ≤ 1073741824 := by omega
  have bv : 0 ≤ min (frA c d) 1073741824 ∧ min (frA c d) 1073741824 ≤ 1073741824 := by omega
  clear eX eY eU eV eH c1 c2 s1 s2 s3 s4 n1 n2 hf
  generalize min (nrA a b) 1073741824 = x at *
  generalize min (nrA c d) 1073741824 = y at *
  generalize min (frA a b) 1073741824 = u at *
  generalize min (frA c d) 1073741824 = v at *
  have s1 := sq_int (x := x) (m := 1073741824) bx.1 bx.2
  have s2 := sq_int (x := y) (m := 1073741824) by'.1 by'.2
  have s3 := sq_int (x := u) (m := 1073741824) bu.1 bu.2
  have s4 := sq_int (x := v) (m := 1073741824) bv.1 bv.2
  rw [i64w (x := x * x) (by omega), i64w (x := y * y) (by omega), i64w (x := u * u) (by omega), i64w (x := v * v) (by omega), i64w (x := x * x + y * y) (by omega), i64w (x := u * u + v * v) (by omega)]
  have p1 : rootP (x * x + y * y) = true := decide_eq_true ⟨by omega, by omega⟩
  have p2 : rootP (u * u + v * v) = true := decide_eq_true ⟨by omega, by omega⟩
  rw [p1, p2, cond_true, cond_true]
  have r := rt_ok (n := u * u + v * v) (by omega) (by omega)
  have z0 := Int.mul_nonneg r.1 r.1
  have hm : u * u + v * v ≤ 2305843009213693952 := by omega
  generalize u * u + v * v = m at *
  generalize x * x + y * y = n at *
  have k : rootR m < 4294967296 := by
    rcases Int.lt_or_le (rootR m) 4294967296 with h | h
    · exact h
    · have := sq_int (x := 4294967296) (m := rootR m) (by omega) h
      omega
  rw [i64w (x := rootR m * rootR m) (by omega), i64w (x := rootR m + 1) (by omega), rcap_eq, rcap_eq, rcap_eq]
  unfold Hy.upr
  by_cases c : rootR m * rootR m < m
  · rw [decT c, if_pos c]; rfl
  · rw [decF c, if_neg c]; rfl
noncomputable def book_ralt_gives : Book := [(25, ePP (fun a b c d => arcV (bearR a b c d))), (36, eP (fun a b => arcV (asinR a b))), (53, ePPif rhypP (fun a b c d => pairV (hypM a b c d).1 (hypM a b c d).2)), (54, ePP (fun a b c d => pairV (rmeetM a b c d).1 (rmeetM a b c d).2))]
theorem book_ralt_gives_ok : BookOk Tryz.prog book_ralt_gives := (bookOk_cons (ePP_ok rbear) (bookOk_cons (eP_ok rasin_r) (bookOk_cons (ePPif_ok rhyp_gives) (bookOk_cons (ePP_ok rmeetM_gives) bookOk_nil))))
theorem ralt_gives_tree (a b c d e f : Int) : evF Tryz.prog Es Cs book_ralt_gives 20 6 27 ([.agg ⟨[.int .i64 a, .int .i64 b]⟩, .agg ⟨[.int .i64 c, .int .i64 d]⟩, .agg ⟨[.int .i64 e, .int .i64 f]⟩].map AV.v) [] [] last =
  lt (asinR a b) fun x1 =>
  lt (hypM c d e f) fun x2 =>
  cond (rhypP c d e f)
  (lt (bearR a b x2.1 x2.2) fun x3 =>
   cond (decide (IntKind.i64.wrap (x3.2.1 - x3.1) ≥ 21600000))
   (some (.v (.agg ⟨[.int .i64 x1.1, .int .i64 x1.2.1]⟩)))
   (cond (decide (x3.1 ≥ 10800000))
    (lt (rmeetM x1.1 x1.2.1 (IntKind.i64.wrap (x3.1 - 21600000)) (IntKind.i64.wrap (x3.2.1 - 21600000))) fun x4 =>
     some (.v (.agg ⟨[.int .i64 x4.1, .int .i64 x4.2]⟩)))
    (lt (rmeetM x1.1 x1.2.1 x3.1 x3.2.1) fun x5 =>
     some (.v (.agg ⟨[.int .i64 x5.1, .int .i64 x5.2]⟩)))))
  (none) := by kernel_rfl
theorem ralt_gives (a b c d e f : Int) (hp : raltP a b c d e f = true) : Gives Tryz.prog 27 [.agg ⟨[.int .i64 a, .int .i64 b]⟩, .agg ⟨[.int .i64 c, .int .i64 d]⟩, .agg ⟨[.int .i64 e, .int .i64 f]⟩] (pairV (raltQ a b c d e f).1 (raltQ a b c d e f).2) := by
  refine evF_gives (E := Es) mixed Es_ok Cs_ok book_ralt_gives_ok (lim := 20) (d := 6) (nm := []) ?_
  rw [ralt_gives_tree a b c d e f]
  obtain ⟨hv, hq⟩ := (Bool.and_eq_true _ _).mp hp
  obtain ⟨h1, h2, h3, h4, h5, h6⟩ := of_decide_eq_true hq
  have K := hyp_bd h1 h2 h3 h4 h5 h6
  simp only [lt]
  rw [hq, cond_true]
  unfold raltQ
  generalize hypM c d e f = k at *
  obtain ⟨k1, k2⟩ := k
  dsimp only at *
  have kv : validB k1 k2 = true := val_mk (by omega) (by omega) (by omega)
  have D := bea_dir hv kv
  unfold alT
  cases ho : originB a b k1 k2 with
  | true =>
    have e : bearR a b k1 k2 = (0, 21600000, 0) := by
      unfold bearR
      rw [hv, kv, ho]
      rfl
    rw [e]
    rfl
  | false =>
    have B := bear_right hv kv K.1 ho
    obtain ⟨d1, d2, d3, d4, d5⟩ := D
    generalize bearR a b k1 k2 = r at *
    rw [i64w (x := r.2.1 - r.1) (by omega), decF (show ¬ r.2.1 - r.1 ≥ 21600000 by omega), cond_false, if_neg (by simp)]
    unfold nbR
    by_cases c : r.1 ≥ 10800000
    · rw [decT c, cond_true, if_pos (show 10800000 ≤ r.1 from c), i64w (x := r.1 - 21600000) (by omega), i64w (x := r.2.1 - 21600000) (by omega), rmeet_eq]
      rfl
    · rw [decF c, cond_false, if_neg (show ¬ 10800000 ≤ r.1 from c), rmeet_eq]
      rfl
noncomputable def book_rsol_gives : Book := [(20, eP (fun a b => pairV (rcosM a b).1 (rcosM a b).2)), (21, eP (fun a b => pairV (rsinM a b).1 (rsinM a b).2)), (22, ePP (fun a b c d => pairV (timesM a b c d).1 (timesM a b c d).2)), (23, ePP (fun a b c d => pairV (plusM a b c d).1 (plusM a b c d).2)), (24, ePP (fun a b c d => pairV (minusM a b c d).1 (minusM a b c d).2)), (25, ePP (fun a b c d => arcV (bearR a b c d))), (26, eP (fun a b => pairV (rnegM a b).1 (rnegM a b).2)), (27, ePPPif raltP (fun a b c d e f => pairV (raltQ a b c d e f).1 (raltQ a b c d e f).2))]
theorem book_rsol_gives_ok : BookOk Tryz.prog book_rsol_gives := (bookOk_cons (eP_ok rcosM_gives) (bookOk_cons (eP_ok rsinM_gives) (bookOk_cons (ePP_ok timesM_gives) (bookOk_cons (ePP_ok plusM_gives) (bookOk_cons (ePP_ok minusM_gives) (bookOk_cons (ePP_ok rbear) (bookOk_cons (eP_ok rnegM_gives) (bookOk_cons (ePPPif_ok ralt_gives) bookOk_nil))))))))
theorem rsol_gives_tree (a b c d e f : Int) : evF Tryz.prog Es Cs book_rsol_gives 20 6 8 ([.agg ⟨[.int .i64 a, .int .i64 b, .int .i64 c, .int .i64 d, .int .i64 e, .int .i64 f]⟩].map AV.v) [] [] last =
  lt (rcosM a b) fun x1 =>
  lt (rsinM a b) fun x2 =>
  lt (rcosM c d) fun x3 =>
  lt (rcosM e f) fun x4 =>
  lt (timesM x3.1 x3.2 x4.1 x4.2) fun x5 =>
  lt (rsinM e f) fun x6 =>
  lt (timesM x3.1 x3.2 x6.1 x6.2) fun x7 =>
  lt (rsinM c d) fun x8 =>
  lt (timesM x5.1 x5.2 x1.1 x1.2) fun x9 =>
  lt (timesM x8.1 x8.2 x2.1 x2.2) fun x10 =>
  lt (plusM x9.1 x9.2 x10.1 x10.2) fun x11 =>
  lt (timesM x8.1 x8.2 x1.1 x1.2) fun x12 =>
  lt (timesM x5.1 x5.2 x2.1 x2.2) fun x13 =>
  lt (minusM x12.1 x12.2 x13.1 x13.2) fun x14 =>
  lt (rnegM x7.1 x7.2) fun x15 =>
  lt (bearR x15.1 x15.2 x14.1 x14.2) fun x16 =>
  lt (raltQ x11.1 x11.2 x14.1 x14.2 x7.1 x7.2) fun x17 =>
  cond (raltP x11.1 x11.2 x14.1 x14.2 x7.1 x7.2)
  (some (.v (.agg ⟨[.int .i64 x17.1, .int .i64 x17.2, .int .i64 x16.1, .int .i64 x16.2.1]⟩)))
  (none) := by kernel_rfl
theorem rsol_gives (a b c d e f : Int) (hp : triB a b c d e f = true) : Gives Tryz.prog 8 [.agg ⟨[.int .i64 a, .int .i64 b, .int .i64 c, .int .i64 d, .int .i64 e, .int .i64 f]⟩] (solP (rsolQ a b c d e f)) := by
  refine evF_gives (E := Es) mixed Es_ok Cs_ok book_rsol_gives_ok (lim := 20) (d := 6) (nm := []) ?_
  rw [rsol_gives_tree a b c d e f]
  obtain ⟨h1, h2, h3⟩ := tri_bd hp
  have l1 := (lat_bd h1).1
  have l2 := (lat_bd h2).1
  have s1 := sin_one l1
  have c1 := cos_one l1
  have s2 := sin_one l2
  have c2 := cos_one l2
  have s3 := sin_one h3
  have c3 := cos_one h3
  simp only [lt]
  rw [rsin_eq l1, rcos_eq l1, rsin_eq l2, rcos_eq l2, rsin_eq h3, rcos_eq h3]
  dsimp only
  rw [times_eq c2.val c3.val, times_eq c2.val s3.val]
  have exE : mulR (cosR c d).1 (cosR c d).2.1 (cosR e f).1 (cosR e f).2.1 = xE c d e f := rfl
  have ewE : mulR (cosR c d).1 (cosR c d).2.1 (sinR e f).1 (sinR e f).2.1 = wE c d e f := rfl
  have xo : OneR (xE c d e f) := mul_ones c2 c3
  have wo : OneR (wE c d e f) := mul_ones c2 s3
  rw [exE, ewE]
  dsimp only
  rw [times_eq xo.val c1.val, times_eq s2.val s1.val, times_eq s2.val c1.val, times_eq xo.val s1.val]
  dsimp only
  have m1 := mul_ones xo c1
  have m2 := mul_ones s2 s1
  have m3 := mul_ones s2 c1
  have m4 := mul_ones xo s1
  have a1 := add_ones m1 m2
  have a2 := sub_ones m3 m4
  rw [plus_eq m1.val m2.val, minus_eq m3.val m4.val, rneg_eq wo]
  dsimp only
  have eu : addR (mulR (xE c d e f).1 (xE c d e f).2.1 (cosR a b).1 (cosR a b).2.1).1 (mulR (xE c d e f).1 (xE c d e f).2.1 (cosR a b).1 (cosR a b).2.1).2.1 (mulR (sinR c d).1 (sinR c d).2.1 (sinR a b).1 (sinR a b).2.1).1 (mulR (sinR c d).1 (sinR c d).2.1 (sinR a b).1 (sinR a b).2.1).2.1 = mupE a b c d e f := rfl
  have en : subR (mulR (sinR c d).1 (sinR c d).2.1 (cosR a b).1 (cosR a b).2.1).1 (mulR (sinR c d).1 (sinR c d).2.1 (cosR a b).1 (cosR a b).2.1).2.1 (mulR (xE c d e f).1 (xE c d e f).2.1 (sinR a b).1 (sinR a b).2.1).1 (mulR (xE c d e f).1 (xE c d e f).2.1 (sinR a b).1 (sinR a b).2.1).2.1 = mnoE a b c d e f := rfl
  have eg : negR (wE c d e f).1 (wE c d e f).2.1 = meaE c d e f := rfl
  have vu : validB (mupE a b c d e f).1 (mupE a b c d e f).2.1 = true := by
    rw [← eu, a1.1]
    exact a1.2
  have vn : validB (mnoE a b c d e f).1 (mnoE a b c d e f).2.1 = true := by
    rw [← en, a2.1]
    exact a2.2
  rw [eu, en, eg]
  have pv : raltP (mupE a b c d e f).1 (mupE a b c d e f).2.1 (mnoE a b c d e f).1 (mnoE a b c d e f).2.1 (wE c d e f).1 (wE c d e f).2.1 = true := by
    have q := val_bd vn
    unfold raltP rhypP
    rw [vu, decT ⟨q.1, q.2.1, q.2.2, wo.1, wo.2.1, wo.2.2.1⟩]
    rfl
  rw [pv, cond_true]
  rfl
/-- The reference's way back is the program's. -/
theorem rbak_eq (a b c d u v : Int) : rbakM a b c d u v = bakM a b c d u v := by
  unfold rbakM
  rw [rlat_eq, rlat_eq, rval_eq]
  cases h1 : latB a b with
  | false =>
    unfold bakM
    rw [mlat_eq, h1]
    rfl
  | true =>
    cases h2 : latB c d with
    | false =>
      unfold bakM
      rw [mlat_eq, mlat_eq, h1, h2]
      rfl
    | true =>
      cases h3 : avalidB u v with
      | false =>
        unfold bakM
        rw [mlat_eq, mlat_eq, h1, h2, h3]
        rfl
      | true =>
        rw [(bak_ok h1 h2 h3).1]
        have l1 := (lat_bd h1).1
        have l2 := (lat_bd h2).1
        have s1 := sin_one l1
        have c1 := cos_one l1
        have s2 := sin_one l2
        have c2 := cos_one l2
        have s3 := sin_one h3
        have c3 := cos_one h3
        simp only [lt, Bool.not_true, cond_false]
        rw [rsin_eq l1, rcos_eq l1, rsin_eq l2, rcos_eq l2, rsin_eq h3, rcos_eq h3]
        dsimp only
        rw [times_eq c2.val c3.val, times_eq c2.val s3.val]
        have exE : mulR (cosR c d).1 (cosR c d).2.1 (cosR u v).1 (cosR u v).2.1 = bnE c d u v := rfl
        have ewE : mulR (cosR c d).1 (cosR c d).2.1 (sinR u v).1 (sinR u v).2.1 = beE c d u v := rfl
        have xo : OneR (bnE c d u v) := mul_ones c2 c3
        have wo : OneR (beE c d u v) := mul_ones c2 s3
        rw [exE, ewE]
        dsimp only
        rw [times_eq s2.val s1.val, times_eq xo.val c1.val, times_eq s2.val c1.val, times_eq xo.val s1.val]
        dsimp only
        have m1 := mul_ones s2 s1
        have m2 := mul_ones xo c1
        have m3 := mul_ones s2 c1
        have m4 := mul_ones xo s1
        rw [plus_eq m1.val m2.val, minus_eq m3.val m4.val, rneg_eq wo]
        rfl
theorem same (x y : Int) : ((x == x) && ((y == y) && true)) = true := by simp
theorem asin_z : asinR 0 0 = (0, 0, 0) := by
  have e1 : asn 0 = 0 := asn_eq (by omega) ⟨by omega, by omega, by decide +kernel, .inr (by decide +kernel)⟩
  unfold asinR
  rw [val_mk (a := 0) (b := 0) (by omega) (by omega) (by omega)]
  simp only [Bool.true_eq_false, if_false]
  have m1 : max (0 : Int) (-1073741824) = 0 := by omega
  have m2 : -min (0 : Int) 1073741824 = 0 := by omega
  rw [m1, m2, if_pos (by omega), e1]
  rfl
theorem bak_x : bakM 0 0 1800000 1800000 5400000 5400000 = (0, 0, 17999999, 18000001, 0) := by
  have b := (bak_ok (a := 0) (b := 0) (c := 1800000) (d := 1800000) (e := 5400000) (f := 5400000) (by decide +kernel) (by decide +kernel) (by decide +kernel)).1
  have u : bupE 0 0 1800000 1800000 5400000 5400000 = (0, 0, 0) := by decide +kernel
  have l : blhE 0 0 1800000 1800000 5400000 5400000 = (17999999, 18000001, 0) := by decide +kernel
  rw [b, l]
  unfold bdeE
  rw [u]
  dsimp only
  rw [asin_z]
theorem msol_no {a b c d e f : Int} (h : triB a b c d e f = false) : msolM a b c d e f = (0, 0, 0, 0, 1) := by
  unfold msolM
  rw [h]
  rfl
def allT (_a _b _c _d _e _f : Int) : Bool := true
def allPS (_a _b _c _d _e _f : Int) : Bool := true
end Go.Proofs.YtcoopclgfimahaaGreat

/-
  The reference's operations are the program's, where all is valid.
-/
import Derived.Test.YtfilgpifiboccaaGreatR1
import Derived.Test.YtfilgpifiboccaaGreatCd
import Derived.Test.YtfilgpifiboccaaGreatXa
namespace Go.Proofs.YtfilgpifiboccaaGreat
open Ev

open SM TB TA
open Ev (lt keepE)
theorem decT {p : Prop} [Decidable p] (h : p) : decide p = true := decide_eq_true h
theorem decF {p : Prop} [Decidable p] (h : ¬ p) : decide p = false := decide_eq_false h
theorem hib_of (n : Int) : hib n = if exa (red n) = true then lob n else lob n + 1 := by
  unfold hib lob upf
  split <;> split <;> omega
theorem tmod_emod (x : Int) : x % 21600000 = (if x.tmod 21600000 < 0 then x.tmod 21600000 + 21600000 else x.tmod 21600000) := by
  have h1 := Int.mul_tdiv_add_tmod x 21600000
  have h2 := tm_sign x 21600000
  have h3 := Int.tmod_lt_of_pos x (show (0 : Int) < 21600000 by omega)
  have h4 := Int.tmod_lt_of_pos (-x) (show (0 : Int) < 21600000 by omega)
  rw [Int.neg_tmod] at h4
  split <;> omega
theorem rends_eq (a : Int) : rendsM a = (lob a, hib a) := by
  have b := lob_hib a
  unfold rendsM rendsMK
  simp only [lt, rflR]
  rw [hib_of]
  cases h : exa (red a)
  · rw [cond_false, i64w (by omega)]; rfl
  · rfl
theorem rhas_eq {a b c : Int} (h1 : -2000000000000 ≤ a ∧ a ≤ 2000000000000) (_h2 : -2000000000000 ≤ b ∧ b ≤ 2000000000000) (h3 : -20000000 ≤ c ∧ c ≤ 20000000) : rhasM a b c = meetB a b c := by
  have t := tmod_emod (c - a)
  have p := Int.tmod_lt_of_pos (c - a) (show (0 : Int) < 21600000 by omega)
  have q := Int.tmod_lt_of_pos (-(c - a)) (show (0 : Int) < 21600000 by omega)
  rw [Int.neg_tmod] at q
  unfold rhasM meetB
  rw [i64w (x := c - a) (by omega)]
  by_cases h : (c - a).tmod 21600000 < 0
  · rw [if_pos h] at t
    rw [decT h, cond_true, i64w (x := (c - a).tmod 21600000 + 21600000) (by omega), i64w (by omega)]
    exact decide_eq_decide.2 (by omega)
  · rw [if_neg h] at t
    rw [decF h, cond_false, i64w (by omega)]
    exact decide_eq_decide.2 (by omega)
theorem meet_turn (a b : Int) : meetB a b (-5400000) = meetB a b 16200000 := by
  unfold meetB
  rw [show (-5400000 - a) % 21600000 = (16200000 - a) % 21600000 by omega]
theorem rsine_eq {a b : Int} (h1 : -2000000000000 ≤ a ∧ a ≤ 2000000000000) (h2 : -2000000000000 ≤ b ∧ b ≤ 2000000000000) : rsineM a b = (encL a b, encH a b) := by
  unfold rsineM rsineMK encL encH
  simp only [lt]
  rw [rends_eq, rends_eq, rhas_eq h1 h2 (by omega), rhas_eq h1 h2 (by omega), meet_turn]
  have m1 : mn (lob a) (lob b) = min (lob a) (lob b) := by unfold mn; split <;> omega
  have m2 : mx (hib a) (hib b) = max (hib a) (hib b) := by unfold mx; split <;> omega
  cases meetB a b 5400000 <;> cases meetB a b 16200000 <;> simp only [cond_true, cond_false, m1, m2] <;> simp
theorem rcos_eq {a b : Int} (h : avalidB a b = true) : rcosM a b = ((cosR a b).1, (cosR a b).2.1) := by
  have := aval_bd h
  unfold rcosM cosR
  simp only [lt]
  rw [i64w (x := a + 5400000) (by omega), i64w (x := b + 5400000) (by omega), rsine_eq (by omega) (by omega), h]
  rfl
theorem rfit_eq {a b : Int} (h : a ≤ b) : rfitM a b = fitR a b := by
  unfold rfitM rfitMK fitR
  by_cases h1 : a < -2147483648
  · rw [decT h1, cond_true, if_neg (by simp [validB]; omega)]
  · rw [decF h1, cond_false]
    by_cases h2 : b > 2147483648
    · rw [decT h2, cond_true, if_neg (by simp [validB]; omega)]
    · rw [decF h2, cond_false, if_pos (by simp [validB]; omega)]
theorem rlst_eq (a b : Int) : rlstM a b = min a b := by
  unfold rlstM
  by_cases h : b < a
  · rw [decT h]; simp; omega
  · rw [decF h]; simp; omega
theorem rmst_eq (a b : Int) : rmstM a b = max a b := by
  unfold rmstM
  by_cases h : a < b
  · rw [decT h]; simp; omega
  · rw [decF h]; simp; omega
theorem radd_eq {a b c d : Int} (h1 : validB a b = true) (h2 : validB c d = true) : raddM a b c d = addR a b c d := by
  have p := val_bd h1
  have q := val_bd h2
  unfold raddM addR
  simp only [lt]
  rw [i64w (x := a + c) (by omega), i64w (x := b + d) (by omega), rfit_eq (by omega), if_pos (both_mk h1 h2)]
theorem rsub_eq {a b c d : Int} (h1 : validB a b = true) (h2 : validB c d = true) : rsubM a b c d = subR a b c d := by
  have p := val_bd h1
  have q := val_bd h2
  unfold rsubM subR
  simp only [lt]
  rw [i64w (x := a - d) (by omega), i64w (x := b - c) (by omega), rfit_eq (by omega), if_pos (both_mk h1 h2)]
theorem fl_one (x : Int) : x / 1073741824 = (if x.tmod 1073741824 < 0 then x.tdiv 1073741824 - 1 else x.tdiv 1073741824) := by
  have t := fl_pos x 1073741824 (by omega)
  have s := tm_sign x 1073741824
  split at t
  · rw [if_pos (by omega)]; exact t
  · rw [if_neg (by omega)]; exact t
theorem rmul_eq {a b c d : Int} (h1 : validB a b = true) (h2 : validB c d = true) : rmulM a b c d = mulR a b c d := by
  have p := val_bd h1
  have q := val_bd h2
  have p1 := pmul_bd (x := a) (y := c) (by omega) (by omega) (by omega) (by omega)
  have p2 := pmul_bd (x := a) (y := d) (by omega) (by omega) (by omega) (by omega)
  have p3 := pmul_bd (x := b) (y := c) (by omega) (by omega) (by omega) (by omega)
  have p4 := pmul_bd (x := b) (y := d) (by omega) (by omega) (by omega) (by omega)
  have mo := mul_order p.2.1 q.2.1
  unfold rmulM rmulMK mulR
  rw [i64w (x := a * c) (by omega), i64w (x := a * d) (by omega), i64w (x := b * c) (by omega), i64w (x := b * d) (by omega), if_pos (both_mk h1 h2)]
  have eL : rlstM (rlstM (a * c) (a * d)) (rlstM (b * c) (b * d)) = mulL a b c d := by
    rw [rlst_eq, rlst_eq, rlst_eq]
    unfold mulL mn
    repeat' split
    all_goals omega
  have eH : rmstM (rmstM (a * c) (a * d)) (rmstM (b * c) (b * d)) = mulH a b c d := by
    rw [rmst_eq, rmst_eq, rmst_eq]
    unfold mulH mx
    repeat' split
    all_goals omega
  have bL : -4611686018427387904 ≤ mulL a b c d ∧ mulL a b c d ≤ 4611686018427387904 := by
    have := (mn4 (a * c) (a * d) (b * c) (b * d)).2
    unfold mulL
    omega
  have bH : -4611686018427387904 ≤ mulH a b c d ∧ mulH a b c d ≤ 4611686018427387904 := by
    have := (mx4 (a * c) (a * d) (b * c) (b * d)).2
    unfold mulH
    omega
  rw [eL, eH]
  generalize mulL a b c d = L at *
  generalize mulH a b c d = H at *
  rw [i64w (x := 0 - H) (by omega), Int.zero_sub]
  have f1 := fl_one L
  have f2 := fl_one (-H)
  have t1 := tdiv_bd L 1073741824 4611686018427387904 bL.1 bL.2
  have t2 := tdiv_bd (-H) 1073741824 4611686018427387904 (by omega) (by omega)
  rw [i64w (x := L.tdiv 1073741824) (by omega), i64w (x := (-H).tdiv 1073741824) (by omega), i64w (x := L.tdiv 1073741824 - 1) (by omega), i64w (x := (-H).tdiv 1073741824 - 1) (by omega)]
  rw [i64w (x := 0 - (-H).tdiv 1073741824) (by omega), i64w (x := 0 - ((-H).tdiv 1073741824 - 1)) (by omega), Int.zero_sub, Int.zero_sub]
  have mono : L / 1073741824 ≤ -(-H / 1073741824) := by omega
  simp only [lt]
  by_cases c1 : L.tmod 1073741824 < 0 <;> by_cases c2 : (-H).tmod 1073741824 < 0
  · rw [if_pos c1] at f1; rw [if_pos c2] at f2
    rw [decT c1, decT c2, ← f1, ← f2]; exact rfit_eq mono
  · rw [if_pos c1] at f1; rw [if_neg c2] at f2
    rw [decT c1, decF c2, ← f1, ← f2]; exact rfit_eq mono
  · rw [if_neg c1] at f1; rw [if_pos c2] at f2
    rw [decF c1, decT c2, ← f1, ← f2]; exact rfit_eq mono
  · rw [if_neg c1] at f1; rw [if_neg c2] at f2
    rw [decF c1, decF c2, ← f1, ← f2]; exact rfit_eq mono
theorem rasub_eq {a b c d : Int} (h1 : -100000000 ≤ a) (h2 : a ≤ b) (h3 : b ≤ 100000000) (h4 : -100000000 ≤ c) (h5 : c ≤ d) (h6 : d ≤ 100000000) : rasubM a b c d = (a - d, b - c) := by
  unfold rasubM
  rw [i64w (by omega), i64w (by omega)]
theorem fl_neg2 (x y : Int) (hy : y ≠ 0) : flD (-x) (-y) = flD x y := by
  unfold flD
  by_cases h : 0 < y
  · rw [if_pos h, if_neg (by omega), Int.neg_neg, Int.neg_neg]
  · rw [if_neg h, if_pos (by omega)]
theorem ce_neg2 (x y : Int) (hy : y ≠ 0) : ceD (-x) (-y) = ceD x y := by
  unfold ceD
  rw [fl_neg2 _ _ hy]
theorem div_neg2 {a b c d : Int} (hc : c ≠ 0) (hd : d ≠ 0) : divL (-b) (-a) (-d) (-c) = divL a b c d ∧ divH (-b) (-a) (-d) (-c) = divH a b c d := by
  have n : ∀ x : Int, -x * 1073741824 = -(x * 1073741824) := fun x => by omega
  unfold divL divH
  rw [n, n, fl_neg2 _ _ hd, fl_neg2 _ _ hc, fl_neg2 _ _ hd, fl_neg2 _ _ hc, ce_neg2 _ _ hd, ce_neg2 _ _ hc, ce_neg2 _ _ hd, ce_neg2 _ _ hc]
  generalize flD (a * 1073741824) c = p
  generalize flD (a * 1073741824) d = q
  generalize flD (b * 1073741824) c = r
  generalize flD (b * 1073741824) d = s
  generalize ceD (a * 1073741824) c = p'
  generalize ceD (a * 1073741824) d = q'
  generalize ceD (b * 1073741824) c = r'
  generalize ceD (b * 1073741824) d = s'
  constructor
  · have h1 := mn5 s s r q p rfl
    have h2 := mn5 p p q r s rfl
    omega
  · have h1 := mx5 s' s' r' q' p' rfl
    have h2 := mx5 p' p' q' r' s' rfl
    omega
theorem div_pos {a b c d : Int} (hc : 0 < c) (hd : 0 < d) (ab : a ≤ b) : divL a b c d = min (flD (a * 1073741824) c) (flD (a * 1073741824) d) ∧ divH a b c d = max (ceD (b * 1073741824) c) (ceD (b * 1073741824) d) := by
  have m : a * 1073741824 ≤ b * 1073741824 := by omega
  have f : ∀ y : Int, 0 < y → flD (a * 1073741824) y ≤ flD (b * 1073741824) y ∧ ceD (a * 1073741824) y ≤ ceD (b * 1073741824) y := fun y hy => by
    have p := Int.ediv_le_ediv hy m
    have q := Int.ediv_le_ediv hy (show -(b * 1073741824) ≤ -(a * 1073741824) by omega)
    unfold ceD flD
    rw [if_pos hy, if_pos hy]
    exact ⟨p, by rw [if_pos hy, if_pos hy]; omega⟩
  have f1 := f c hc
  have f2 := f d hd
  unfold divL divH
  have h2 := mn5 (flD (a * 1073741824) c) (flD (a * 1073741824) c) (flD (a * 1073741824) d) (flD (b * 1073741824) c) (flD (b * 1073741824) d) rfl
  have h3 := mx5 (ceD (a * 1073741824) c) (ceD (a * 1073741824) c) (ceD (a * 1073741824) d) (ceD (b * 1073741824) c) (ceD (b * 1073741824) d) rfl
  omega
theorem div_order {a b c d : Int} (hz : 0 < c ∨ d < 0) (ab : a ≤ b) (cd : c ≤ d) : divL a b c d ≤ divH a b c d := by
  have h := div_has (x := a) (y := c) hz (Int.le_refl _) ab (Int.le_refl _) cd
  have := fl_ce (a * 1073741824) c (by omega)
  omega
theorem rsin_eq {a b : Int} (h : avalidB a b = true) : rsinM a b = ((sinR a b).1, (sinR a b).2.1) := by
  have := aval_bd h
  unfold rsinM sinR
  simp only [lt]
  rw [rsine_eq (by omega) (by omega), h]
  rfl
theorem times_eq {a b c d : Int} (h : validB a b = true) (k : validB c d = true) : timesM a b c d = ((mulR a b c d).1, (mulR a b c d).2.1) := by
  unfold timesM
  simp only [lt]
  rw [rmul_eq h k]
theorem plus_eq {a b c d : Int} (h : validB a b = true) (k : validB c d = true) : plusM a b c d = ((addR a b c d).1, (addR a b c d).2.1) := by
  unfold plusM
  simp only [lt]
  rw [radd_eq h k]
theorem minus_eq {a b c d : Int} (h : validB a b = true) (k : validB c d = true) : minusM a b c d = ((subR a b c d).1, (subR a b c d).2.1) := by
  unfold minusM
  simp only [lt]
  rw [rsub_eq h k]
theorem rneg_eq {r : Int × Int × Int} (h : OneR r) : rnegM r.1 r.2.1 = ((negR r.1 r.2.1).1, (negR r.1 r.2.1).2.1) := by
  obtain ⟨h1, h2, h3, h4⟩ := h
  rw [(neg_one ⟨h1, h2, h3, h4⟩).1]
  unfold rnegM
  rw [i64w (x := 0 - r.2.1) (by omega), i64w (x := 0 - r.1) (by omega), Int.zero_sub, Int.zero_sub]
theorem co_eq {α : Type} {b : Bool} {x y r : α} (h : b = true) (k : x = r) : cond b x y = r := by
  rw [h]
  exact k
theorem both_inv {a b c d : Int} (h : bothB a b c d = true) : validB a b = true ∧ validB c d = true := (Bool.and_eq_true _ _).mp h
theorem raad_eq {a b c d : Int} (h1 : -100000000 ≤ a) (h2 : a ≤ b) (h3 : b ≤ 100000000) (h4 : -100000000 ≤ c) (h5 : c ≤ d) (h6 : d ≤ 100000000) : raadM a b c d = (a + c, b + d) := by
  unfold raadM
  rw [i64w (by omega), i64w (by omega)]
def rkV (a b e : Int) : Int × Int := if e = 0 then (a, b) else (0, 0)
def rkC (k _a _b e : Int) : Int := keepE k e
theorem rk_ok {a b e : Int} (h : e = 0) : rkV a b e = (a, b) := if_pos h
theorem rk_c {a b e : Int} (h : e = 0) : rkC 0 a b e = 0 := k0 h
theorem rmul_gives (a b c d : Int) (hp : bothB a b c d = true) : Gives Tryz.prog 127 [.agg ⟨[.int .i64 a, .int .i64 b]⟩, .agg ⟨[.int .i64 c, .int .i64 d]⟩] (arcV (mulR a b c d)) := by
  have h := rmulM_gives a b c d
  rwa [rmul_eq (both_inv hp).1 (both_inv hp).2] at h
/-- The reference's sine of the altitude, and its azimuth's arguments. -/
theorem rsne_eq {a b c d e f : Int} (h : triB a b c d e f = true) : rsneM a b c d e f = ((cupE a b c d e f).1, (cupE a b c d e f).2.1) := by
  obtain ⟨h1, h2, h3⟩ := tri_bd h
  have l1 := (lat_bd h1).1
  have l2 := (lat_bd h2).1
  have s1 := sin_one l1
  have c1 := cos_one l1
  have s2 := sin_one l2
  have c2 := cos_one l2
  have c3 := cos_one h3
  have m1 := mul_ones s1 s2
  have k1 := mul_ones c1 c2
  have n1 := mul_ones k1 c3
  unfold rsneM
  simp only [lt]
  rw [rsin_eq l1, rsin_eq l2, rcos_eq l1, rcos_eq l2, rcos_eq h3]
  dsimp only
  rw [times_eq s1.val s2.val, times_eq c1.val c2.val]
  dsimp only
  rw [times_eq k1.val c3.val]
  dsimp only
  rw [plus_eq m1.val n1.val]
  rfl
theorem ralt_eq {a b c d e f : Int} (h : triB a b c d e f = true) : raltM a b c d e f = ((asinR (cupE a b c d e f).1 (cupE a b c d e f).2.1).1, (asinR (cupE a b c d e f).1 (cupE a b c d e f).2.1).2.1) := by
  unfold raltM
  simp only [lt]
  rw [rsne_eq h]
theorem razi_eq {a b c d e f : Int} (h : triB a b c d e f = true) : raziM a b c d e f = ((bearR (ceaE c d e f).1 (ceaE c d e f).2.1 (cnoE a b c d e f).1 (cnoE a b c d e f).2.1).1, (bearR (ceaE c d e f).1 (ceaE c d e f).2.1 (cnoE a b c d e f).1 (cnoE a b c d e f).2.1).2.1) := by
  obtain ⟨h1, h2, h3⟩ := tri_bd h
  have l1 := (lat_bd h1).1
  have l2 := (lat_bd h2).1
  have s1 := sin_one l1
  have c1 := cos_one l1
  have s2 := sin_one l2
  have c2 := cos_one l2
  have s3 := sin_one h3
  have c3 := cos_one h3
  have y1 := mul_ones c2 s3
  have m1 := mul_ones s2 c1
  have k1 := mul_ones c2 c3
  have n1 := mul_ones k1 s1
  unfold raziM
  simp only [lt]
  rw [rsin_eq l1, rsin_eq l2, rsin_eq h3, rcos_eq l1, rcos_eq l2, rcos_eq h3]
  dsimp only
  rw [times_eq c2.val s3.val, times_eq s2.val c1.val, times_eq c2.val c3.val]
  dsimp only
  rw [times_eq k1.val s1.val, rneg_eq y1]
  dsimp only
  rw [minus_eq m1.val n1.val]
  rfl
def rflP (a b : Int) : Bool := decide (0 < b ∧ -4611686018427387904 ≤ a ∧ a ≤ 4611686018427387904)
def rflD (a b : Int) : Int := a / b
noncomputable def kR20 : Book := (131, eP (fun a b => .bool (rzeroM a b))) :: (132, ePP (fun a b c d => pairsV (rtrnM a b c d))) :: (133, eII (fun a b => .int .i64 (rlstM a b))) :: (135, eII (fun a b => .int .i64 (rmstM a b))) :: (137, eII (fun a b => arcV (rfitM a b))) :: []
theorem kR20_ok : BookOk Tryz.prog kR20 := (bookOk_cons (eP_ok rzeroM_gives) (bookOk_cons (ePP_ok rtrnM_gives) (bookOk_cons (eII_ok rlstM_gives) (bookOk_cons (eII_ok rmstM_gives) (bookOk_cons (eII_ok rfitM_gives) bookOk_nil)))))
theorem rflD_gives (a b : Int) (hp : rflP a b = true) : Gives Tryz.prog 134 [.int .i64 a, .int .i64 b] (.int .i64 (rflD a b)) := by
  refine ev6_gives Es_ok kR20_ok (t := cond (b == 0) (none) (cond (b == 0) (none) (cond (decide ((Int.tmod a b) < 0)) (some (.v (.int .i64 (IntKind.i64.wrap ((IntKind.i64.wrap (Int.tdiv a b)) - 1))))) (some (.v (.int .i64 (IntKind.i64.wrap (Int.tdiv a b)))))))) (by kernel_rfl) ?_
  obtain ⟨hb, ha1, ha2⟩ := of_decide_eq_true hp
  have t := tdiv_bd a b 4611686018427387904 ha1 ha2
  have s := tm_sign a b
  have f := fl_pos a b hb
  have e0 : (b == 0) = false := beq_eq_false_iff_ne.2 (by omega)
  unfold rflD
  rw [e0, i64w (x := Int.tdiv a b) (by omega), i64w (x := Int.tdiv a b - 1) (by omega)]
  simp only [cond_false]
  by_cases c : a.tmod b < 0
  · rw [if_pos (by omega)] at f
    rw [decT c, f]; rfl
  · rw [if_neg (by omega)] at f
    rw [decF c, f]; rfl
def rceD (a b : Int) : Int := -(-a / b)
noncomputable def kR21 : Book := (134, eIIif rflP (fun a b => .int .i64 (rflD a b))) :: kR20
theorem kR21_ok : BookOk Tryz.prog kR21 := (bookOk_cons (eIIif_ok rflD_gives) kR20_ok)
theorem rceD_gives (a b : Int) (hp : rflP a b = true) : Gives Tryz.prog 136 [.int .i64 a, .int .i64 b] (.int .i64 (rceD a b)) := by
  refine ev6_gives Es_ok kR21_ok (t := cond (rflP (IntKind.i64.wrap (0 - a)) b) (some (.v (.int .i64 (IntKind.i64.wrap (0 - (rflD (IntKind.i64.wrap (0 - a)) b)))))) (none)) (by kernel_rfl) ?_
  obtain ⟨hb, ha1, ha2⟩ := of_decide_eq_true hp
  have e2 : rflP (-a) b = true := decide_eq_true ⟨hb, by omega, by omega⟩
  have e1 : IntKind.i64.wrap (0 - a) = -a := by rw [i64w (by omega)]; omega
  have f := flD_bd (-a) b (by omega) 4611686018427387904 (by omega) (by omega)
  unfold flD at f
  rw [if_pos hb] at f
  simp only [e1, e2, cond_true, rflD]
  rw [i64w (by omega)]
  unfold rceD
  rw [Int.zero_sub]
theorem rdiv_pos {a b c d : Int} (ha : -2147483648 ≤ a) (ab : a ≤ b) (hb : b ≤ 2147483648) (hc : 0 < c) (hd : 0 < d) (hL : divL a b c d ≤ divH a b c d) (X : Int × Int × Int → Option AV) :
    (cond (rflP (IntKind.i64.wrap (a * 1073741824)) c) (cond (rflP (IntKind.i64.wrap (a * 1073741824)) d) (cond (rflP (IntKind.i64.wrap (b * 1073741824)) c) (cond (rflP (IntKind.i64.wrap (b * 1073741824)) d)
      (X (rfitM (rlstM (rflD (IntKind.i64.wrap (a * 1073741824)) c) (rflD (IntKind.i64.wrap (a * 1073741824)) d)) (rmstM (rceD (IntKind.i64.wrap (b * 1073741824)) c) (rceD (IntKind.i64.wrap (b * 1073741824)) d)))) none) none) none) none) = X (fitR (divL a b c d) (divH a b c d)) := by
  rw [i64w (x := a * 1073741824) (by omega), i64w (x := b * 1073741824) (by omega)]
  have f1 : rflP (a * 1073741824) c = true := decide_eq_true ⟨hc, by omega, by omega⟩
  have f2 : rflP (a * 1073741824) d = true := decide_eq_true ⟨hd, by omega, by omega⟩
  have f3 : rflP (b * 1073741824) c = true := decide_eq_true ⟨hc, by omega, by omega⟩
  have f4 : rflP (b * 1073741824) d = true := decide_eq_true ⟨hd, by omega, by omega⟩
  rw [f1, f2, f3, f4]
  simp only [cond_true]
  have g : ∀ x y : Int, 0 < y → rflD x y = flD x y ∧ rceD x y = ceD x y := fun x y hy => by
    unfold rflD rceD ceD flD
    rw [if_pos hy, if_pos hy]; exact ⟨rfl, rfl⟩
  rw [(g _ _ hc).1, (g _ _ hd).1, (g _ _ hc).2, (g _ _ hd).2, rlst_eq, rmst_eq]
  obtain ⟨e1, e2⟩ := div_pos (a := a) (b := b) hc hd ab
  rw [e1, e2] at hL ⊢
  rw [rfit_eq hL]
noncomputable def kR22 : Book := (136, eIIif rflP (fun a b => .int .i64 (rceD a b))) :: kR21
theorem kR22_ok : BookOk Tryz.prog kR22 := (bookOk_cons (eIIif_ok rceD_gives) kR21_ok)
theorem rdiv_gives (a b c d : Int) (hp : bothB a b c d = true) : Gives Tryz.prog 101 [.agg ⟨[.int .i64 a, .int .i64 b]⟩, .agg ⟨[.int .i64 c, .int .i64 d]⟩] (arcV (divR a b c d)) := by
  refine ev6_gives Es_ok kR22_ok (t := cond (rzeroM c d) (some (.v (.tuple ⟨[.agg ⟨[.int .i64 0, .int .i64 0]⟩, .int .i64 16]⟩))) (lt (rtrnM a b c d) fun x1 => cond (rflP (IntKind.i64.wrap (x1.1 * 1073741824)) x1.2.2.1) (cond (rflP (IntKind.i64.wrap (x1.1 * 1073741824)) x1.2.2.2) (cond (rflP (IntKind.i64.wrap (x1.2.1 * 1073741824)) x1.2.2.1) (cond (rflP (IntKind.i64.wrap (x1.2.1 * 1073741824)) x1.2.2.2) (lt (rfitM (rlstM (rflD (IntKind.i64.wrap (x1.1 * 1073741824)) x1.2.2.1) (rflD (IntKind.i64.wrap (x1.1 * 1073741824)) x1.2.2.2)) (rmstM (rceD (IntKind.i64.wrap (x1.2.1 * 1073741824)) x1.2.2.1) (rceD (IntKind.i64.wrap (x1.2.1 * 1073741824)) x1.2.2.2))) fun x2 => some (.v (.tuple ⟨[.agg ⟨[.int .i64 x2.1, .int .i64 x2.2.1]⟩, .int .i64 x2.2.2]⟩))) (none)) (none)) (none)) (none))) (by kernel_rfl) ?_
  obtain ⟨a1, a2, a3, c1, c2, c3⟩ := both_bd hp
  have zz : rzeroM c d = zeroB c d := by
    unfold rzeroM zeroB
    by_cases h1 : c ≤ 0
    · rw [decT h1, cond_true]; exact decide_eq_decide.2 (by omega)
    · rw [decF h1, cond_false, decF (by omega)]
  unfold divR
  simp only [lt]
  rw [if_pos hp, zz]
  cases hz : zeroB c d
  · have hz' := of_decide_eq_false hz
    rw [cond_false, if_neg (by simp)]
    have hL := div_order (a := a) (b := b) (c := c) (d := d) (by omega) a2 c2
    by_cases s : c < 0
    · have e : rtrnM a b c d = (-b, -a, -d, -c) := by
        unfold rtrnM rtrnMK rnegM
        simp only [lt]
        rw [decT s, i64w (x := 0 - b) (by omega), i64w (x := 0 - a) (by omega), i64w (x := 0 - d) (by omega), i64w (x := 0 - c) (by omega)]
        simp
      rw [e]
      dsimp only
      obtain ⟨n1, n2⟩ := div_neg2 (a := a) (b := b) (c := c) (d := d) (by omega) (by omega)
      refine (rdiv_pos (a := -b) (b := -a) (c := -d) (d := -c) (by omega) (by omega) (by omega) (by omega) (by omega) (by omega) (fun x => some (.v (.tuple ⟨[.agg ⟨[.int .i64 x.1, .int .i64 x.2.1]⟩, .int .i64 x.2.2]⟩)))).trans ?_
      rw [n1, n2]
      rfl
    · have e : rtrnM a b c d = (a, b, c, d) := by
        unfold rtrnM rtrnMK
        rw [decF s]; rfl
      rw [e]
      dsimp only
      exact rdiv_pos (a := a) (b := b) (c := c) (d := d) (by omega) (by omega) (by omega) (by omega) (by omega) hL (fun x => some (.v (.tuple ⟨[.agg ⟨[.int .i64 x.1, .int .i64 x.2.1]⟩, .int .i64 x.2.2]⟩)))
  · rfl
def rfl5 (a b : Int) : Int := a / b
theorem rfl5_gives (a b : Int) (hp : aflP a b = true) : Gives Tryz.prog 162 [.int .i64 a, .int .i64 b] (.int .i64 (rfl5 a b)) := by
  refine ev6_gives Es_ok kR22_ok (t := cond (b == 0) (none) (cond (b == 0) (none) (cond (decide ((Int.tmod a b) < 0)) (some (.v (.int .i64 (IntKind.i64.wrap ((IntKind.i64.wrap (Int.tdiv a b)) - 1))))) (some (.v (.int .i64 (IntKind.i64.wrap (Int.tdiv a b)))))))) (by kernel_rfl) ?_
  obtain ⟨hb, ha1, ha2⟩ := of_decide_eq_true hp
  have t := tdiv_bd a b 4611686018427387904 ha1 ha2
  have s := tm_sign a b
  have e0 : (b == 0) = false := beq_eq_false_iff_ne.2 (by omega)
  rw [e0, i64w (x := Int.tdiv a b) (by omega), i64w (x := Int.tdiv a b - 1) (by omega)]
  simp only [cond_false]
  unfold rfl5
  rw [fl_pos a b hb]
  by_cases h1 : a.tmod b < 0
  · rw [decT h1, if_pos (by omega)]; rfl
  · rw [decF h1, if_neg (by omega)]; rfl
def rce5 (a b : Int) : Int := -(-a / b)
theorem rce5_gives (a b : Int) (hp : aflP a b = true) : Gives Tryz.prog 163 [.int .i64 a, .int .i64 b] (.int .i64 (rce5 a b)) := by
  refine ev6_gives Es_ok kR22_ok (t := cond (b == 0) (none) (cond (b == 0) (none) (cond (decide ((Int.tmod a b) > 0)) (some (.v (.int .i64 (IntKind.i64.wrap ((IntKind.i64.wrap (Int.tdiv a b)) + 1))))) (some (.v (.int .i64 (IntKind.i64.wrap (Int.tdiv a b)))))))) (by kernel_rfl) ?_
  obtain ⟨hb, ha1, ha2⟩ := of_decide_eq_true hp
  have t := tdiv_bd a b 4611686018427387904 ha1 ha2
  have s := tm_sign a b
  have n1 : (-a).tmod b = -(a.tmod b) := Int.neg_tmod a b
  have n2 : (-a).tdiv b = -(a.tdiv b) := Int.neg_tdiv a b
  have e0 : (b == 0) = false := beq_eq_false_iff_ne.2 (by omega)
  rw [e0, i64w (x := Int.tdiv a b) (by omega), i64w (x := Int.tdiv a b + 1) (by omega)]
  simp only [cond_false]
  unfold rce5
  rw [fl_pos (-a) b hb, n1, n2]
  by_cases h1 : a.tmod b > 0
  · rw [decT h1, if_pos (by omega), show -(-a.tdiv b - 1) = a.tdiv b + 1 by omega]; rfl
  · rw [decF h1, if_neg (by omega), Int.neg_neg]; rfl
def rtimP (a b n d : Int) : Bool := decide (-100000000 ≤ a ∧ a ≤ b ∧ b ≤ 100000000 ∧ ((n = 1 ∧ (d = 2 ∨ d = 4)) ∨ (d = 1 ∧ (n = 2 ∨ n = 4))))
def rtimR (a b n d : Int) : Int × Int := ((a * n) / d, -(-(b * n) / d))
noncomputable def book_rtimR_gives : Book := [(162, eIIif aflP (fun a b => .int .i64 (rfl5 a b))), (163, eIIif aflP (fun a b => .int .i64 (rce5 a b)))]
theorem book_rtimR_gives_ok : BookOk Tryz.prog book_rtimR_gives := (bookOk_cons (eIIif_ok rfl5_gives) (bookOk_cons (eIIif_ok rce5_gives) bookOk_nil))
theorem rtimR_gives_tree (a b c d : Int) : evF Tryz.prog Es Cs book_rtimR_gives 20 2 130 ([.agg ⟨[.int .i64 a, .int .i64 b]⟩, .int .i64 c, .int .i64 d].map AV.v) [] [] last =
  cond (decide (c < 0))
  (cond (decide (IntKind.i64.wrap (0 - c) < 0))
   (none)
   (none))
  (cond (aflP (IntKind.i64.wrap (a * c)) d)
   (cond (aflP (IntKind.i64.wrap (b * c)) d)
    (some (.v (.agg ⟨[.int .i64 (rfl5 (IntKind.i64.wrap (a * c)) d), .int .i64 (rce5 (IntKind.i64.wrap (b * c)) d)]⟩)))
    (none))
   (none)) := by kernel_rfl
theorem rtimR_gives (a b c d : Int) (hp : rtimP a b c d = true) : Gives Tryz.prog 130 [.agg ⟨[.int .i64 a, .int .i64 b]⟩, .int .i64 c, .int .i64 d] (pairV (rtimR a b c d).1 (rtimR a b c d).2) := by
  refine evF_gives (E := Es) mixed Es_ok Cs_ok book_rtimR_gives_ok (lim := 20) (d := 2) (nm := []) ?_
  rw [rtimR_gives_tree a b c d]
  obtain ⟨h1, h2, h3, h⟩ := of_decide_eq_true hp
  rw [decF (show ¬ c < 0 by omega), cond_false]
  have q : -1000000000 ≤ a * c ∧ a * c ≤ 1000000000 ∧ -1000000000 ≤ b * c ∧ b * c ≤ 1000000000 := by
    rcases h with ⟨rfl, _⟩ | ⟨_, rfl | rfl⟩ <;> omega
  have q1 : aflP (a * c) d = true := decT ⟨by omega, by omega, by omega⟩
  have q2 : aflP (b * c) d = true := decT ⟨by omega, by omega, by omega⟩
  rw [i64w (x := a * c) (by omega), i64w (x := b * c) (by omega), q1, q2]
  rfl
theorem rkV_mods (k a b c : Int) : Mods Tryz.prog 128 130 k [.agg ⟨[.int .i64 a, .int .i64 b]⟩, .int .i64 c] (pairV (rkV a b c).1 (rkV a b c).2) (rkC k a b c) := by
  refine evm_mods Es_ok kR22_ok (t := cond (k == 0) (cond (c != 0) (some (.v (.agg ⟨[.int .i64 0, .int .i64 0]⟩), ⟨[.v (.int .i64 c)], 130⟩)) (some (.v (.agg ⟨[.int .i64 a, .int .i64 b]⟩), ⟨[.v (.int .i64 c)], 130⟩))) (cond (c != 0) (some (.v (.agg ⟨[.int .i64 0, .int .i64 0]⟩), ⟨[.v (.int .i64 k)], 130⟩)) (some (.v (.agg ⟨[.int .i64 a, .int .i64 b]⟩), ⟨[.v (.int .i64 k)], 130⟩)))) (by kernel_rfl) ?_
  unfold rkV rkC keepE
  by_cases h : k = 0
  · subst h
    by_cases h2 : c = 0
    · subst h2
      rfl
    · rw [bne_iff_ne.2 h2, if_neg h2, if_pos rfl]
      rfl
  · rw [beq_eq_false_iff_ne.2 h, if_neg h]
    by_cases h2 : c = 0
    · subst h2
      rfl
    · rw [bne_iff_ne.2 h2, if_neg h2]
      rfl
end Go.Proofs.YtfilgpifiboccaaGreat

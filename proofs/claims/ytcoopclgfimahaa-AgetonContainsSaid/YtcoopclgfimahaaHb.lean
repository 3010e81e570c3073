/-
  A divided triangle: parts have parts, mirrored triangles are mirrored. No program here.
-/
import Derived.Test.YtcoopclgfimahaaHa
namespace Go.Proofs.Ytcoopclgfimahaa
open SM TB TA
theorem lob_neg (n : Int) : lob (-n) = -hib n ∧ hib (-n) = -lob n := by
  have m0 := Int.emod_nonneg n (show (21600000 : Int) ≠ 0 by omega)
  have m1 := Int.emod_lt_of_pos n (show (0 : Int) < 21600000 by omega)
  have k0 := Int.emod_nonneg (-n) (show (21600000 : Int) ≠ 0 by omega)
  have k1 := Int.emod_lt_of_pos (-n) (show (0 : Int) < 21600000 by omega)
  have hs : (n % 21600000 = 0 ∧ (-n) % 21600000 = 0) ∨ (n % 21600000 + (-n) % 21600000 = 21600000) := by omega
  have hr : red (-n) = red n := by
    unfold red
    generalize n % 21600000 = p at *
    generalize (-n) % 21600000 = q at *
    simp only
    repeat' split
    all_goals omega
  by_cases h : n % 21600000 = 0 ∨ n % 21600000 = 10800000
  · have r0 : red n = 0 := by
      unfold red
      generalize n % 21600000 = p at *
      simp only
      repeat' split
      all_goals omega
    have s0 : south n = false := decide_eq_false (by omega)
    have s1 : south (-n) = false := decide_eq_false (by omega)
    unfold lob hib
    rw [hr, r0, s0, s1]
    decide +kernel
  · have s : south (-n) = !south n := by
      unfold south
      by_cases c : 10800000 < n % 21600000
      · rw [decide_eq_true c, decide_eq_false (by omega)]; rfl
      · rw [decide_eq_false c, decide_eq_true (by omega)]; rfl
    unfold lob hib
    rw [hr, s]
    cases south n
    · simp only [Bool.not_false, if_true, Bool.false_eq_true, if_false]
      exact ⟨trivial, trivial⟩
    · simp only [Bool.not_true, if_true, Bool.false_eq_true, if_false]
      omega
theorem enc_neg (a b : Int) : encL (-b) (-a) = -encH a b ∧ encH (-b) (-a) = -encL a b := by
  have e1 : meetB (-b) (-a) 16200000 = meetB a b 5400000 := by
    unfold meetB
    rw [decide_eq_decide]
    omega
  have e2 : meetB (-b) (-a) 5400000 = meetB a b 16200000 := by
    unfold meetB
    rw [decide_eq_decide]
    omega
  have la := lob_neg a
  have lb := lob_neg b
  unfold encL encH
  rw [e1, e2, la.1, la.2, lb.1, lb.2]
  constructor
  · split <;> omega
  · split <;> omega
theorem aval_neg (a b : Int) : avalidB (-b) (-a) = avalidB a b := decide_eq_decide.2 (by omega)
theorem cos_enc {a b : Int} (h : avalidB a b = true) : cosR a b = (encL (a + 5400000) (b + 5400000), encH (a + 5400000) (b + 5400000), 0) := by simp [cosR, h]
theorem sin_enc {a b : Int} (h : avalidB a b = true) : sinR a b = (encL a b, encH a b, 0) := by simp [sinR, h]
theorem sin_neg {a b : Int} (h : avalidB a b = true) : sinR (-b) (-a) = (-(sinR a b).2.1, -(sinR a b).1, 0) := by
  have e := enc_neg a b
  rw [sin_enc h, sin_enc (by rw [aval_neg]; exact h), e.1, e.2]
theorem enc_shift (a b k : Int) : encL (a + 21600000 * k) (b + 21600000 * k) = encL a b ∧ encH (a + 21600000 * k) (b + 21600000 * k) = encH a b := by
  have e1 : meetB (a + 21600000 * k) (b + 21600000 * k) 16200000 = meetB a b 16200000 := by
    unfold meetB
    rw [decide_eq_decide]
    omega
  have e2 : meetB (a + 21600000 * k) (b + 21600000 * k) 5400000 = meetB a b 5400000 := by
    unfold meetB
    rw [decide_eq_decide]
    omega
  have la := lob_cong (m := a + 21600000 * k) (n := a) (by omega)
  have lb := lob_cong (m := b + 21600000 * k) (n := b) (by omega)
  unfold encL encH
  rw [e1, e2, la.1, la.2, lb.1, lb.2]
  exact ⟨rfl, rfl⟩
theorem enc_full {a b : Int} (h : 21600000 ≤ b - a) : encL a b = -1073741824 ∧ encH a b = 1073741824 := by
  have e1 : meetB a b 16200000 = true := decide_eq_true (by omega)
  have e2 : meetB a b 5400000 = true := decide_eq_true (by omega)
  unfold encL encH
  rw [e1, e2]
  exact ⟨rfl, rfl⟩
theorem cos_even {a b : Int} (h : avalidB a b = true) : cosR (-b) (-a) = cosR a b := by
  rw [cos_enc h, cos_enc (by rw [aval_neg]; exact h)]
  have e : encL (-b + 5400000) (-a + 5400000) = encL (a + 5400000) (b + 5400000) ∧ encH (-b + 5400000) (-a + 5400000) = encH (a + 5400000) (b + 5400000) := by
    have e1 : meetB (-b + 5400000) (-a + 5400000) 16200000 = meetB (a + 5400000) (b + 5400000) 16200000 := by
      unfold meetB
      rw [decide_eq_decide]
      omega
    have e2 : meetB (-b + 5400000) (-a + 5400000) 5400000 = meetB (a + 5400000) (b + 5400000) 5400000 := by
      unfold meetB
      rw [decide_eq_decide]
      omega
    have la := lob_sym a
    have lb := lob_sym b
    unfold encL encH
    rw [e1, e2, show -b + 5400000 = 5400000 - b by omega, show -a + 5400000 = 5400000 - a by omega, la.1, la.2, lb.1, lb.2]
    constructor
    · split <;> omega
    · split <;> omega
  rw [e.1, e.2]
theorem mulL_neg (a b c d : Int) : mulL a b (-d) (-c) = -mulH a b c d ∧ mulH a b (-d) (-c) = -mulL a b c d := by
  have l := mn4 (a * -d) (a * -c) (b * -d) (b * -c)
  have u := mx4 (a * c) (a * d) (b * c) (b * d)
  have l' := mn4 (a * c) (a * d) (b * c) (b * d)
  have u' := mx4 (a * -d) (a * -c) (b * -d) (b * -c)
  unfold mulL mulH
  simp only [Int.mul_neg] at *
  generalize a * c = p at *
  generalize a * d = q at *
  generalize b * c = r at *
  generalize b * d = s at *
  generalize mn (mn (mn (-q) (-p)) (-s)) (-r) = x1 at *
  generalize mx (mx (mx p q) r) s = x2 at *
  generalize mn (mn (mn p q) r) s = x3 at *
  generalize mx (mx (mx (-q) (-p)) (-s)) (-r) = x4 at *
  constructor <;> omega
theorem mul_val {r s : Int × Int × Int} (h : OneR r) (k : OneR s) : mulR r.1 r.2.1 s.1 s.2.1 = (mulL r.1 r.2.1 s.1 s.2.1 / 1073741824, -(-mulH r.1 r.2.1 s.1 s.2.1 / 1073741824), 0) := by
  have m := (mul_ones h k).2.2.2
  unfold mulR at m ⊢
  obtain ⟨hb, hf⟩ := both_ok m
  rw [if_pos hb]
  exact (fit_ok hf).2
/-- An interval of opposite numbers. -/
def opR (r : Int × Int × Int) : Int × Int × Int := (-r.2.1, -r.1, 0)
theorem op_one {r : Int × Int × Int} (h : OneR r) : OneR (opR r) := by
  obtain ⟨h1, h2, h3, h4⟩ := h
  exact ⟨by unfold opR; dsimp only; omega, by unfold opR; dsimp only; omega, by unfold opR; dsimp only; omega, rfl⟩
theorem mul_op {r s : Int × Int × Int} (h : OneR r) (k : OneR s) : mulR r.1 r.2.1 (opR s).1 (opR s).2.1 = opR (mulR r.1 r.2.1 s.1 s.2.1) := by
  rw [mul_val h k, mul_val h (op_one k)]
  have e := mulL_neg r.1 r.2.1 s.1 s.2.1
  unfold opR
  dsimp only
  rw [e.1, e.2]
  simp only [Int.neg_neg]
theorem neg_op {r : Int × Int × Int} (h : OneR r) : negR r.1 r.2.1 = opR r := (neg_one h).1
theorem op_op {r : Int × Int × Int} (h : r.2.2 = 0) : opR (opR r) = r := by
  unfold opR
  obtain ⟨x, y, z⟩ := r
  dsimp only at *
  rw [h, Int.neg_neg, Int.neg_neg]
theorem asin_op {r : Int × Int × Int} (h : OneR r) : asinR (opR r).1 (opR r).2.1 = opR (asinR r.1 r.2.1) := by
  have a := (asin_ok (asin_one h).2.2.2).2.2
  have b := (asin_ok (asin_one (op_one h)).2.2.2).2.2
  obtain ⟨h1, h2, h3, h4⟩ := h
  rw [a, b]
  unfold opR
  dsimp only
  rw [show max (-r.2.1) (-1073741824) = -min r.2.1 1073741824 by omega, show -min (-r.1) 1073741824 = max r.1 (-1073741824) by omega, Int.neg_neg]
theorem sin_op {a b : Int} (h : avalidB a b = true) : sinR (-b) (-a) = opR (sinR a b) := sin_neg h
/-! ### directions -/
theorem turn_turn {p q c : Int} (h : p ≤ q) : turnL (turnL p q + c) (turnH p q + c) = turnL (p + c) (q + c) ∧ turnH (turnL p q + c) (turnH p q + c) = turnH (p + c) (q + c) := by
  unfold turnL turnH
  by_cases h1 : 21600000 ≤ q - p
  · rw [if_pos h1, if_pos h1, if_pos (by omega), if_pos (by omega), if_pos (by omega), if_pos (by omega)]
    exact ⟨rfl, rfl⟩
  · rw [if_neg h1, if_neg h1, if_neg (by omega), if_neg (by omega), if_neg (by omega), if_neg (by omega)]
    constructor <;> omega
theorem bear_mir {yl yh xl xh : Int} (hy : validB yl yh = true) (hx : validB xl xh = true) : bearR (-yh) (-yl) xl xh = (turnL (-(bearR yl yh xl xh).2.1) (-(bearR yl yh xl xh).1), turnH (-(bearR yl yh xl xh).2.1) (-(bearR yl yh xl xh).1), 0) := by
  obtain ⟨p, q, e, _, _, _, _, _, m⟩ := turns_plain hy hx
  rw [m, e]
theorem bear_rot {yl yh xl xh : Int} (hy : validB yl yh = true) (hx : validB xl xh = true) : bearR xl xh (-yh) (-yl) = (turnL ((bearR yl yh xl xh).1 + 5400000) ((bearR yl yh xl xh).2.1 + 5400000), turnH ((bearR yl yh xl xh).1 + 5400000) ((bearR yl yh xl xh).2.1 + 5400000), 0) := by
  obtain ⟨p, q, e, _, _, _, _, m, _⟩ := turns_plain hy hx
  rw [m, e]
theorem bear_refl {yl yh xl xh : Int} (hy : validB yl yh = true) (hx : validB xl xh = true) : bearR yl yh (-xh) (-xl) = (turnL (10800000 - (bearR yl yh xl xh).2.1) (10800000 - (bearR yl yh xl xh).1), turnH (10800000 - (bearR yl yh xl xh).2.1) (10800000 - (bearR yl yh xl xh).1), 0) := by
  have hyn : validB (-yh) (-yl) = true := by rw [valid_neg]; exact hy
  have d := (bea_dir hy hx).2.1
  have m := bear_mir hy hx
  have r1 := bear_rot hyn hx
  rw [m, Int.neg_neg, Int.neg_neg] at r1
  dsimp only at r1
  have t := turn_turn (p := -(bearR yl yh xl xh).2.1) (q := -(bearR yl yh xl xh).1) (c := 5400000) (by omega)
  rw [t.1, t.2] at r1
  have r2 := bear_rot hx hy
  rw [r1] at r2
  dsimp only at r2
  have t2 := turn_turn (p := -(bearR yl yh xl xh).2.1 + 5400000) (q := -(bearR yl yh xl xh).1 + 5400000) (c := 5400000) (by omega)
  rw [t2.1, t2.2] at r2
  rw [r2, show -(bearR yl yh xl xh).2.1 + 5400000 + 5400000 = 10800000 - (bearR yl yh xl xh).2.1 by omega, show -(bearR yl yh xl xh).1 + 5400000 + 5400000 = 10800000 - (bearR yl yh xl xh).1 by omega]
/-! ### Mirrored triangles -/
theorem tri_mir {a b c d e f : Int} (h : triB a b c d e f = true) : triB a b c d (-f) (-e) = true := by
  obtain ⟨h1, h2, h3⟩ := tri_bd h
  exact tri_mk h1 h2 (by rw [aval_neg]; exact h3)
theorem lat_neg {a b : Int} (h : latB a b = true) : latB (-b) (-a) = true := by
  have := lat_bd h
  exact lat_mk (by omega) (by omega) (by omega)
theorem mir_ok {a b c d e f : Int} (h : triB a b c d e f = true) :
    perE c d (-f) (-e) = opR (perE c d e f) ∧ fooE c d (-f) (-e) = fooE c d e f ∧ altE a b c d (-f) (-e) = altE a b c d e f ∧
      azE a b c d (-f) (-e) = (turnL (-(azE a b c d e f).2.1) (-(azE a b c d e f).1), turnH (-(azE a b c d e f).2.1) (-(azE a b c d e f).1), 0) := by
  obtain ⟨h1, h2, h3⟩ := tri_bd h
  have l2 := (lat_bd h2).1
  obtain ⟨W, N, P, Q⟩ := div_one h
  obtain ⟨hv, hs, o1, o2, o3, o4, o5, o6, o7, o8⟩ := sol_one h
  have ew : wesE c d (-f) (-e) = opR (wesE c d e f) := by
    unfold wesE
    rw [sin_op h3]
    exact mul_op (cos_one l2) (sin_one h3)
  have en : norE c d (-f) (-e) = norE c d e f := by
    unfold norE
    rw [cos_even h3]
  have ep : perE c d (-f) (-e) = opR (perE c d e f) := by
    unfold perE
    rw [ew]
    exact asin_op W
  have ef : fooE c d (-f) (-e) = fooE c d e f := by
    unfold fooE
    rw [en]
  have ec : crE c d (-f) (-e) = crE c d e f := by
    unfold crE
    rw [ep]
    exact cos_even P.val
  have ea : awaA a b c d (-f) (-e) = awaA a b c d e f := by unfold awaA; rw [ef]
  have eu : upM a b c d (-f) (-e) = upM a b c d e f := by unfold upM caE; rw [ec, ea]
  have eo : noM a b c d (-f) (-e) = noM a b c d e f := by unfold noM saE; rw [ec, ea]
  have ee : eaM c d (-f) (-e) = opR (eaM c d e f) := by
    unfold eaM
    rw [ew, neg_op (op_one W), neg_op W]
  refine ⟨ep, ef, ?_, ?_⟩
  · unfold altE
    rw [eu]
  · unfold azE
    rw [ee, eo]
    exact bear_mir o7.val o5.val
theorem refl_ok {a b c d e f : Int} (h : triB a b c d e f = true) :
    triB (-b) (-a) (-d) (-c) e f = true ∧ perE (-d) (-c) e f = perE c d e f ∧ fooE (-d) (-c) e f = (turnL (-(fooE c d e f).2.1) (-(fooE c d e f).1), turnH (-(fooE c d e f).2.1) (-(fooE c d e f).1), 0) ∧ altE (-b) (-a) (-d) (-c) e f = altE a b c d e f ∧
      azE (-b) (-a) (-d) (-c) e f = (turnL (10800000 - (azE a b c d e f).2.1) (10800000 - (azE a b c d e f).1), turnH (10800000 - (azE a b c d e f).2.1) (10800000 - (azE a b c d e f).1), 0) := by
  obtain ⟨h1, h2, h3⟩ := tri_bd h
  have l1 := lat_bd h1
  have l2 := (lat_bd h2).1
  obtain ⟨W, N, P, Q⟩ := div_one h
  obtain ⟨hv, hs, o1, o2, o3, o4, o5, o6, o7, o8⟩ := sol_one h
  have ew : wesE (-d) (-c) e f = wesE c d e f := by
    unfold wesE
    rw [cos_even l2]
  have en : norE (-d) (-c) e f = norE c d e f := by
    unfold norE
    rw [cos_even l2]
  have ep : perE (-d) (-c) e f = perE c d e f := by unfold perE; rw [ew]
  have ef : fooE (-d) (-c) e f = (turnL (-(fooE c d e f).2.1) (-(fooE c d e f).1), turnH (-(fooE c d e f).2.1) (-(fooE c d e f).1), 0) := by
    unfold fooE
    rw [en, sin_op l2]
    exact bear_mir (sin_one l2).val N.val
  have ec : crE (-d) (-c) e f = crE c d e f := by unfold crE; rw [ep]
  have both : caE (-b) (-a) (-d) (-c) e f = caE a b c d e f ∧ saE (-b) (-a) (-d) (-c) e f = opR (saE a b c d e f) := by
    obtain ⟨q1, q2, q3, q4, q5⟩ := Q
    unfold caE saE
    have e1 : awaA (-b) (-a) (-d) (-c) e f = (turnL (-(fooE c d e f).2.1) (-(fooE c d e f).1) + a, turnH (-(fooE c d e f).2.1) (-(fooE c d e f).1) + b) := by
      unfold awaA
      rw [ef]
      dsimp only
      rw [Int.sub_neg, Int.sub_neg]
    rw [e1]
    unfold awaA at hv ⊢
    dsimp only at hv ⊢
    generalize (fooE c d e f).1 = p at *
    generalize (fooE c d e f).2.1 = q at *
    by_cases c1 : 21600000 ≤ q - p
    · unfold turnL turnH
      rw [if_pos (by omega), if_pos (by omega)]
      have v1 : avalidB (0 + a) (21600000 + b) = true := avalid_mk (by omega) (by omega) (by omega)
      rw [cos_enc v1, cos_enc hv, sin_enc v1, sin_enc hv]
      have f1 := enc_full (a := 0 + a + 5400000) (b := 21600000 + b + 5400000) (by omega)
      have f2 := enc_full (a := p - b + 5400000) (b := q - a + 5400000) (by omega)
      have f3 := enc_full (a := 0 + a) (b := 21600000 + b) (by omega)
      have f4 := enc_full (a := p - b) (b := q - a) (by omega)
      rw [f1.1, f1.2, f2.1, f2.2, f3.1, f3.2, f4.1, f4.2]
      exact ⟨rfl, rfl⟩
    · obtain ⟨k, hk⟩ : ∃ k : Int, (-q) % 21600000 = -q + 21600000 * k := ⟨-((-q) / 21600000), by omega⟩
      have tn := turn_narrow (lo := -q) (hi := -p) (by omega)
      rw [tn.1, tn.2, hk, show -q + 21600000 * k + a = -(q - a) + 21600000 * k by omega, show -q + 21600000 * k + (-p - -q) + b = -(p - b) + 21600000 * k by omega]
      have k0 : 0 ≤ -q + 21600000 * k := by omega
      have k1 : -q + 21600000 * k < 21600000 := by omega
      have v1 : avalidB (-(q - a) + 21600000 * k) (-(p - b) + 21600000 * k) = true := avalid_mk (by omega) (by omega) (by omega)
      have v2 : avalidB (-(q - a)) (-(p - b)) = true := by rw [aval_neg]; exact hv
      have g1 : cosR (-(q - a) + 21600000 * k) (-(p - b) + 21600000 * k) = cosR (-(q - a)) (-(p - b)) := by
        rw [cos_enc v1, cos_enc v2]
        have s := enc_shift (-(q - a) + 5400000) (-(p - b) + 5400000) k
        rw [show -(q - a) + 21600000 * k + 5400000 = -(q - a) + 5400000 + 21600000 * k by omega, show -(p - b) + 21600000 * k + 5400000 = -(p - b) + 5400000 + 21600000 * k by omega, s.1, s.2]
      have g2 : sinR (-(q - a) + 21600000 * k) (-(p - b) + 21600000 * k) = sinR (-(q - a)) (-(p - b)) := by
        rw [sin_enc v1, sin_enc v2]
        have s := enc_shift (-(q - a)) (-(p - b)) k
        rw [s.1, s.2]
      rw [g1, g2]
      exact ⟨cos_even hv, sin_op hv⟩
  have eu : upM (-b) (-a) (-d) (-c) e f = upM a b c d e f := by unfold upM; rw [ec, both.1]
  have eo : noM (-b) (-a) (-d) (-c) e f = opR (noM a b c d e f) := by
    unfold noM
    rw [ec, both.2]
    exact mul_op o1 o3
  have ee : eaM (-d) (-c) e f = eaM c d e f := by unfold eaM; rw [ew]
  refine ⟨tri_mk (lat_neg h1) (lat_neg h2) h3, ep, ef, ?_, ?_⟩
  · unfold altE
    rw [eu]
  · unfold azE
    rw [ee, eo]
    exact bear_refl o7.val o5.val
/-! ### Parts -/
theorem enc_in {a b c d : Int} (h : (21600000 ≤ d - c) ∨ ∃ k : Int, c ≤ a + 21600000 * k ∧ b + 21600000 * k ≤ d) (hab : a ≤ b) : encL c d ≤ encL a b ∧ encH a b ≤ encH c d := by
  rcases h with h | ⟨k, h1, h2⟩
  · have f := enc_full h
    obtain ⟨n, n1, n2, n3⟩ := encL_at hab
    obtain ⟨m, m1, m2, m3⟩ := encH_at hab
    have := lob_hib n
    have := lob_hib m
    omega
  · have s := enc_shift a b k
    have g := enc_grow (a := a + 21600000 * k) (b := b + 21600000 * k) (lo := c) (hi := d) (by omega) h1 h2
    omega
theorem part_ok {a b c d e f a' b' c' d' e' f' : Int} (h : triB a b c d e f = true) (ha : a ≤ a' ∧ a' ≤ b' ∧ b' ≤ b) (hc : c ≤ c' ∧ c' ≤ d' ∧ d' ≤ d) (he : e ≤ e' ∧ e' ≤ f' ∧ f' ≤ f) :
    triB a' b' c' d' e' f' = true ∧ (altE a b c d e f).1 ≤ (altE a' b' c' d' e' f').1 ∧ (altE a' b' c' d' e' f').2.1 ≤ (altE a b c d e f).2.1 ∧
      (((azE a b c d e f).1 = 0 ∧ (azE a b c d e f).2.1 = 21600000) ∨ ((azE a b c d e f).1 ≤ (azE a' b' c' d' e' f').1 + 21600000 ∧ (azE a' b' c' d' e' f').2.1 + 21600000 ≤ (azE a b c d e f).2.1) ∨ ((azE a b c d e f).1 ≤ (azE a' b' c' d' e' f').1 ∧ (azE a' b' c' d' e' f').2.1 ≤ (azE a b c d e f).2.1)) := by
  obtain ⟨h1, h2, h3⟩ := tri_bd h
  have l1 := lat_bd h1
  have l2 := lat_bd h2
  have l3 := aval_bd h3
  have h' : triB a' b' c' d' e' f' = true := tri_mk (lat_mk (by omega) (by omega) (by omega)) (lat_mk (by omega) (by omega) (by omega)) (avalid_mk (by omega) (by omega) (by omega))
  obtain ⟨W, N, P, Q⟩ := div_one h
  obtain ⟨hv, hs, o1, o2, o3, o4, o5, o6, o7, o8⟩ := sol_one h
  obtain ⟨W', N', P', Q'⟩ := div_one h'
  obtain ⟨hv', hs', o1', o2', o3', o4', o5', o6', o7', o8'⟩ := sol_one h'
  have gc2 := cos_grow l2.1 hc.1 hc.2.1 hc.2.2
  have gs2 := sin_grow l2.1 hc.1 hc.2.1 hc.2.2
  have gs3 := sin_grow h3 he.1 he.2.1 he.2.2
  have gc3 := cos_grow h3 he.1 he.2.1 he.2.2
  have gw : Within (wesE c' d' e' f') (wesE c d e f) := mul_grow W.2.2.2 gc2.2.2.1 gc2.2.2.2.1 gc2.2.2.2.2 gs3.2.2.1 gs3.2.2.2.1 gs3.2.2.2.2
  have gn : Within (norE c' d' e' f') (norE c d e f) := mul_grow N.2.2.2 gc2.2.2.1 gc2.2.2.2.1 gc2.2.2.2.2 gc3.2.2.1 gc3.2.2.2.1 gc3.2.2.2.2
  have gp : Within (perE c' d' e' f') (perE c d e f) := asin_grow W.val P'.2.2.2 gw.2.2.1 gw.2.2.2.2
  have gk := grow_plain (sin_one l2.1).val N.val gs2.2.2.1 gs2.2.2.2.2 gn.2.2.1 gn.2.2.2.2 gs2.2.2.2.1 gn.2.2.2.1
  have gr : Within (crE c' d' e' f') (crE c d e f) := cos_grow P.val gp.2.2.1 gp.2.2.2.1 gp.2.2.2.2
  have ga : Within (caE a' b' c' d' e' f') (caE a b c d e f) ∧ Within (saE a' b' c' d' e' f') (saE a b c d e f) := by
    obtain ⟨p, q, r, s, e1, e2, b1, b2, b3, b4, b5, b6, b7, b8, hin⟩ := gk
    have f1 : fooE c d e f = (p, q, 0) := e1
    have f2 : fooE c' d' e' f' = (r, s, 0) := e2
    unfold Within caE saE
    unfold awaA at hv hv' ⊢
    rw [f1] at hv ⊢
    rw [f2] at hv' ⊢
    dsimp only at hv hv' ⊢
    rw [cos_enc hv, cos_enc hv', sin_enc hv, sin_enc hv']
    have cs : (21600000 ≤ (q - a) - (p - b)) ∨ ∃ k : Int, p - b ≤ r - b' + 21600000 * k ∧ s - a' + 21600000 * k ≤ q - a := by
      rcases hin with ⟨i1, i2⟩ | ⟨i1, i2, i3⟩ | ⟨i1, i2⟩
      · left; omega
      · right; exact ⟨1, by omega, by omega⟩
      · right; exact ⟨0, by omega, by omega⟩
    have c1 := enc_in (a := r - b') (b := s - a') (c := p - b) (d := q - a) cs (by omega)
    have c2 := enc_in (a := r - b' + 5400000) (b := s - a' + 5400000) (c := p - b + 5400000) (d := q - a + 5400000) (by
      rcases cs with cs | ⟨k, cs1, cs2⟩
      · left; omega
      · right; exact ⟨k, by omega, by omega⟩) (by omega)
    have u1 := enc_order (a := r - b') (b := s - a') (by omega)
    have u2 := enc_order (a := r - b' + 5400000) (b := s - a' + 5400000) (by omega)
    exact ⟨⟨rfl, rfl, c2.1, u2, c2.2⟩, ⟨rfl, rfl, c1.1, u1, c1.2⟩⟩
  have gu : Within (upM a' b' c' d' e' f') (upM a b c d e f) := mul_grow o4.2.2.2 gr.2.2.1 gr.2.2.2.1 gr.2.2.2.2 ga.1.2.2.1 ga.1.2.2.2.1 ga.1.2.2.2.2
  have go' : Within (noM a' b' c' d' e' f') (noM a b c d e f) := mul_grow o5.2.2.2 gr.2.2.1 gr.2.2.2.1 gr.2.2.2.2 ga.2.2.2.1 ga.2.2.2.2.1 ga.2.2.2.2.2
  have gl : Within (altE a' b' c' d' e' f') (altE a b c d e f) := asin_grow o4.val o6'.2.2.2 gu.2.2.1 gu.2.2.2.2
  have ge : (eaM c d e f).1 ≤ (eaM c' d' e' f').1 ∧ (eaM c' d' e' f').2.1 ≤ (eaM c d e f).2.1 ∧ (eaM c' d' e' f').1 ≤ (eaM c' d' e' f').2.1 := by
    have w1 := (neg_one W).1
    have w2 := (neg_one W').1
    unfold eaM
    rw [w1, w2]
    dsimp only
    have g1 := gw.2.2.1
    have g2 := gw.2.2.2.1
    have g3 := gw.2.2.2.2
    omega
  have gz := grow_plain o7.val o5.val ge.1 ge.2.1 go'.2.2.1 go'.2.2.2.2 ge.2.2 go'.2.2.2.1
  obtain ⟨p, q, r, s, e1, e2, b1, b2, b3, b4, b5, b6, b7, b8, hin⟩ := gz
  have f1 : azE a b c d e f = (p, q, 0) := e1
  have f2 : azE a' b' c' d' e' f' = (r, s, 0) := e2
  refine ⟨h', gl.2.2.1, gl.2.2.2.2, ?_⟩
  rw [f1, f2]
  dsimp only
  rcases hin with i | ⟨i1, i2, i3⟩ | i
  · exact .inl i
  · exact .inr (.inl ⟨i2, i3⟩)
  · exact .inr (.inr i)
end Go.Proofs.Ytcoopclgfimahaa

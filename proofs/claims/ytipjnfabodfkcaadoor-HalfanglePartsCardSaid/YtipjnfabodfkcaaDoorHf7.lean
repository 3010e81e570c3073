/-
  Half-angles of single numbers: always solved; mirrored; on the meridian. No program here.
-/
import Derived.Test.YtipjnfabodfkcaaDoorHf6
namespace Go.Proofs.YtipjnfabodfkcaaDoor
open SM TB TA
/-! ### Widths -/
theorem mulT_width {r s : Int × Int × Int} {w v : Int} (h : OneR r) (k : OneR s) (hw : r.2.1 - r.1 ≤ w) (hv : s.2.1 - s.1 ≤ v) : (mulT r s).2.1 - (mulT r s).1 ≤ w + v + 1 := by
  have pl : ∀ {p q P Q : Int}, -P ≤ p → p ≤ P → -Q ≤ q → q ≤ Q → p * q ≤ P * Q := fun {p q P Q} h1 h2 h3 h4 => by
    have a := Int.mul_nonneg (show 0 ≤ P - p by omega) (show 0 ≤ Q + q by omega)
    have b := Int.mul_nonneg (show 0 ≤ P + p by omega) (show 0 ≤ Q - q by omega)
    have e : (P - p) * (Q + q) + (P + p) * (Q - q) = 2 * (P * Q) - 2 * (p * q) := by grind
    omega
  have m := (mul_ones h k).2.2.2
  have ev : mulR r.1 r.2.1 s.1 s.2.1 = (mulL r.1 r.2.1 s.1 s.2.1 / 1073741824, -(-mulH r.1 r.2.1 s.1 s.2.1 / 1073741824), 0) := by
    unfold mulR at m ⊢
    obtain ⟨hb, hf⟩ := both_ok m
    rw [if_pos hb]
    exact (fit_ok hf).2
  obtain ⟨h1, h2, h3, h4⟩ := h
  obtain ⟨k1, k2, k3, k4⟩ := k
  obtain ⟨x, y, hx, hy, e1⟩ := mulL_at r.1 r.2.1 s.1 s.2.1
  obtain ⟨x', y', hx', hy', e2⟩ := mulH_at r.1 r.2.1 s.1 s.2.1
  have a := pl (p := x') (q := y' - y) (P := 1073741824) (Q := v) (by omega) (by omega) (by omega) (by omega)
  have b := pl (p := x' - x) (q := y) (P := w) (Q := 1073741824) (by omega) (by omega) (by omega) (by omega)
  have d : mulH r.1 r.2.1 s.1 s.2.1 - mulL r.1 r.2.1 s.1 s.2.1 ≤ 1073741824 * v + w * 1073741824 := by
    rw [e1, e2]
    have : x' * y' - x * y = x' * (y' - y) + (x' - x) * y := by grind
    omega
  unfold mulT
  rw [ev]
  dsimp only
  omega
theorem step_width {m n : Int} (h : m ≤ n + 1) (h' : n ≤ m + 1) : hib m - lob n ≤ 1100 := by
  have lm := lob_B m
  have ln := lob_B n
  have bm := lob_hib m
  have bn := lob_hib n
  have eb := e0_bd
  have e1b := e1_bd
  have s : Cl (1 / 1000000 + e0) (si (m : Rat)) (si (n : Rat)) := by
    have one : ∀ a b : Int, a ≤ b → b ≤ a + 1 → Cl (1 / 1000000 + e0) (si (b : Rat)) (si (a : Rat)) := fun a b h1 h2 => by
      have c1 := le_c h1
      have c2 := le_c h2
      rw [Rat.intCast_add, show ((1 : Int) : Rat) = 1 by rfl] at c2
      exact (lip c1 (by grind)).1.wide (by grind)
    rcases Int.le_total m n with c | c
    · exact (one m n c (by omega)).symm
    · exact one n m c (by omega)
  have k : ((hib m : Int) : Rat) ≤ ((lob n + 1100 : Int) : Rat) + 1 / 2 := by
    have c1 : ((hib m : Int) : Rat) ≤ ((lob m + 1 : Int) : Rat) := le_c (by omega)
    have c2 : ((hib n : Int) : Rat) ≤ ((lob n + 1 : Int) : Rat) := le_c (by omega)
    rw [Rat.intCast_add, show ((1 : Int) : Rat) = 1 by rfl] at c1 c2
    rw [Rat.intCast_add, show ((1100 : Int) : Rat) = 1100 by rfl]
    unfold Sq at lm ln
    unfold Cl at s
    grind
  have := of_c k (by grind)
  omega
theorem enc_width {a b : Int} (h : a ≤ b) (h' : b ≤ a + 1) : encH a b - encL a b ≤ 1100 := by
  obtain ⟨n, n1, n2, e1⟩ := encL_at h
  obtain ⟨m, m1, m2, e2⟩ := encH_at h
  rw [e1, e2]
  exact step_width (by omega) (by omega)
theorem trig_width {a b : Int} (h : avalidB a b = true) (h' : b ≤ a + 1) : (sinR a b).2.1 - (sinR a b).1 ≤ 1100 ∧ (cosR a b).2.1 - (cosR a b).1 ≤ 1100 := by
  have v := aval_bd h
  unfold sinR cosR
  rw [h, if_neg (by simp), if_neg (by simp)]
  exact ⟨enc_width v.2.1 h', enc_width (by omega) (by omega)⟩
/-- A square that may be nothing is of a small number. -/
theorem sqr_zero {r : Int × Int × Int} {X : Rat} (h : OneR r) (hw : r.2.1 - r.1 ≤ 3000) (hv : Vl r (15 * e1) X) (z : (sqrR r.1 r.2.1).1 ≤ 0) : -1 / 2 ^ 10 ≤ X ∧ X ≤ 1 / 2 ^ 10 := by
  have q := sqr_ones h
  have i := sqr_int h.val
  have e1b := e1_bd
  rw [q.1] at z
  dsimp only at z
  have b : -40000 ≤ r.1 ∧ r.2.1 ≤ 40000 := by
    have o := h.2.1
    unfold sqrL at z
    split at z
    · omega
    · have lt : ∀ x : Int, x * x < 1073741824 → -32768 < x ∧ x < 32768 := fun x hx => by
        rcases Int.le_total 0 x with k | k
        · have := lt_sq (x := x) (y := 32768) k (by omega) (by omega)
          omega
        · have := lt_sq (x := -x) (y := 32768) (by omega) (by rw [Int.neg_mul_neg]; omega) (by omega)
          omega
      rcases (show r.1 * r.1 < 1073741824 ∨ r.2.1 * r.2.1 < 1073741824 by omega) with k | k
      · have := lt _ k
        omega
      · have := lt _ k
        omega
  obtain ⟨_, _, v1, v2⟩ := hv
  have c1 : (-40000 : Rat) ≤ (r.1 : Rat) := le_c (a := -40000) b.1
  have c2 : (r.2.1 : Rat) ≤ 40000 := le_c (b := 40000) b.2
  constructor <;> grind
theorem small_sq {X : Rat} (h : -1 / 2 ^ 10 ≤ X ∧ X ≤ 1 / 2 ^ 10) : X * X ≤ 1 / 100 := by
  have := Rat.mul_nonneg (show 0 ≤ 1 / 2 ^ 10 - X by grind) (show 0 ≤ 1 / 2 ^ 10 + X by grind)
  grind
theorem len_zero {r s : Int × Int × Int} {X Y : Rat} (h : OneR r) (k : OneR s) (hw : r.2.1 - r.1 ≤ 3000) (kw : s.2.1 - s.1 ≤ 3000) (hv : Vl r (15 * e1) X) (kv : Vl s (15 * e1) Y) (z : (lenT r s).1 ≤ 0) : X * X + Y * Y ≤ 1 / 50 := by
  have l := len_ok h k
  have b := val_bd l.2.2.1
  have q := sqt_ok l.2.1 b.2.1 b.2.2
  have e2 : lenT r s = (irt ((sumT r s).1 * 1073741824), iru ((sumT r s).2.1 * 1073741824), 0) := q.1
  rw [e2] at z
  dsimp only at z
  have s0 := l.2.1
  have i := irt_ok (n := (sumT r s).1 * 1073741824) (by omega) (by omega)
  have iz : irt ((sumT r s).1 * 1073741824) = 0 := by omega
  rw [iz] at i
  have sz : (sumT r s).1 = 0 := by omega
  have c1 := (sqr_ones h).2.2
  have c2 := (sqr_ones k).2.2
  have e : (sumT r s).1 = (sqrR r.1 r.2.1).1 + (sqrR s.1 s.2.1).1 := by rw [l.1]
  have x := small_sq (sqr_zero h hw hv (by omega))
  have y := small_sq (sqr_zero k kw kv (by omega))
  grind
/-- Single numbers are always solved. -/
theorem single_ok {x y t : Int} (h : triB x x y y t t = true) : originB (hfY x x y y t t).1 (hfY x x y y t t).2.1 (hfX x x y y t t).1 (hfX x x y y t t).2.1 = false := by
  cases ho : originB (hfY x x y y t t).1 (hfY x x y y t t).2.1 (hfX x x y y t t).1 (hfX x x y y t t).2.1 with
  | false => rfl
  | true =>
    exfalso
    simp only [originB, decide_eq_true_eq] at ho
    obtain ⟨px, py, pt⟩ := tri_point h
    obtain ⟨u, v, w, gu, gv, gw, guv, hu, hv, hw⟩ := ang_v h px py pt
    obtain ⟨h', z', s⟩ := sees (x : Rat) (y : Rat) (t : Rat)
    obtain ⟨G1, G2, _, _, _⟩ := gauss (κ := (5400000 - h') / 2) gu gv gw guv (by grind) s.2.2.2.2.1
    obtain ⟨p, q, r, s⟩ := one4 h
    obtain ⟨P, Q, R, S⟩ := four_v h hu hv hw
    obtain ⟨vu, vv, vw⟩ := ang_bd h
    have wu := trig_width vu (by unfold fU; dsimp only; omega)
    have wv := trig_width vv (by unfold fV; dsimp only; omega)
    have ww := trig_width vw (by unfold fW turnL turnH; rw [if_neg (show ¬ 21600000 ≤ t - t by omega), if_neg (show ¬ 21600000 ≤ t - t by omega)]; dsimp only; omega)
    have kP := mulT_width (cos_one vu) (sin_one vw) wu.2 ww.1
    have kQ := mulT_width (cos_one vv) (cos_one vw) wv.2 ww.2
    have kR := mulT_width (sin_one vu) (sin_one vw) wu.1 ww.1
    have kS := mulT_width (sin_one vv) (cos_one vw) wv.1 ww.2
    have zY := len_zero r s (Int.le_trans kR (by omega)) (Int.le_trans kS (by omega)) R S ho.2.2.1
    have zX := len_zero p q (Int.le_trans kP (by omega)) (Int.le_trans kQ (by omega)) P Q ho.1
    have un := unit ((5400000 - h') / 2)
    have eb := e0_bd
    have ub := u0_bd
    unfold Cl at G1 G2 un
    grind
/-! ### Mirrored -/
theorem lob_ng (n : Int) : lob (-n) = -hib n ∧ hib (-n) = -lob n := by
  have m0 := Int.emod_nonneg n (show (21600000 : Int) ≠ 0 by omega)
  have m1 := Int.emod_lt_of_pos n (show (0 : Int) < 21600000 by omega)
  have k0 := Int.emod_nonneg (-n) (show (21600000 : Int) ≠ 0 by omega)
  have k1 := Int.emod_lt_of_pos (-n) (show (0 : Int) < 21600000 by omega)
  have hs : (n % 21600000 = 0 ∧ (-n) % 21600000 = 0) ∨ (n % 21600000 + (-n) % 21600000 = 21600000) := by omega
  have hr : red (-n) = red n := by
    unfold red
    generalize n % 21600000 = p at *
    generalize (-n) % 21600000 = q at *
    simp only
    repeat' split
    all_goals omega
  by_cases h : n % 21600000 = 0 ∨ n % 21600000 = 10800000
  · have r0 : red n = 0 := by
      unfold red
      generalize n % 21600000 = p at *
      simp only
      repeat' split
      all_goals omega
    have s0 : south n = false := decide_eq_false (by omega)
    have s1 : south (-n) = false := decide_eq_false (by omega)
    unfold lob hib
    rw [hr, r0, s0, s1]
    decide +kernel
  · have s : south (-n) = !south n := by
      unfold south
      by_cases c : 10800000 < n % 21600000
      · rw [decide_eq_true c, decide_eq_false (by omega)]; rfl
      · rw [decide_eq_false c, decide_eq_true (by omega)]; rfl
    unfold lob hib
    rw [hr, s]
    cases south n
    · simp only [Bool.not_false, if_true, Bool.false_eq_true, if_false]
      exact ⟨trivial, trivial⟩
    · simp only [Bool.not_true, if_true, Bool.false_eq_true, if_false]
      omega
theorem enc_ng (a b : Int) : encL (-b) (-a) = -encH a b ∧ encH (-b) (-a) = -encL a b := by
  have e1 : meetB (-b) (-a) 16200000 = meetB a b 5400000 := by
    unfold meetB
    rw [decide_eq_decide]
    omega
  have e2 : meetB (-b) (-a) 5400000 = meetB a b 16200000 := by
    unfold meetB
    rw [decide_eq_decide]
    omega
  have la := lob_ng a
  have lb := lob_ng b
  unfold encL encH
  rw [e1, e2, la.1, la.2, lb.1, lb.2]
  constructor
  · split <;> omega
  · split <;> omega
theorem trig_mir {a b : Int} (h : avalidB a b = true) (h' : avalidB (10800000 - b) (10800000 - a) = true) : sinR (10800000 - b) (10800000 - a) = sinR a b ∧ cosR (10800000 - b) (10800000 - a) = negT (cosR a b) := by
  have e := enc_half (-b) (-a)
  have g := enc_ng a b
  have e2 := enc_half (-(b + 5400000) + 10800000) (-(a + 5400000) + 10800000)
  have e3 := enc_half (-(b + 5400000)) (-(a + 5400000))
  have g2 := enc_ng (a + 5400000) (b + 5400000)
  unfold sinR cosR negT
  rw [h, h', if_neg (by simp), if_neg (by simp), if_neg (by simp), if_neg (by simp)]
  dsimp only
  constructor
  · rw [show 10800000 - b = -b + 10800000 by omega, show 10800000 - a = -a + 10800000 by omega, e.1, e.2, g.1, g.2, Int.neg_neg, Int.neg_neg]
  · rw [show 10800000 - b + 5400000 = -(b + 5400000) + 10800000 + 10800000 by omega, show 10800000 - a + 5400000 = -(a + 5400000) + 10800000 + 10800000 by omega, e2.1, e2.2, e3.1, e3.2, g2.1, g2.2, Int.neg_neg, Int.neg_neg]
theorem len_neg2 (r s : Int × Int × Int) : lenT r (negT s) = lenT r s := by
  unfold lenT sumT
  rw [sqr_neg]
theorem bea_mir {r s : Int × Int × Int} (h : OneR r) (k : OneR s) :
    ∃ p q : Int, beaT r s = (p, q, 0) ∧ 0 ≤ p ∧ p < 21600000 ∧ p ≤ q ∧ q ≤ p + 21600000 ∧ beaT (negT r) s = (turnL (-q) (-p), turnH (-q) (-p), 0) := by
  obtain ⟨p, q, e1, p0, p1, pq, q1, _, e2⟩ := turns_plain h.val k.val
  exact ⟨p, q, e1, p0, p1, pq, q1, e2⟩
/-- The opposite of the mirrored azimuth begins where the azimuth does. -/
theorem oppS_mir {r s u v : Int × Int × Int} (h : OneR r) (k : OneR s) (hu : OneR u) (hv : OneR v) :
    (-(oppS (beaT (negT r) s) (beaT (negT u) v)).2.1 - (oppS (beaT r s) (beaT u v)).1) % 21600000 ≤ (oppS (beaT r s) (beaT u v)).2.1 - (oppS (beaT r s) (beaT u v)).1 := by
  obtain ⟨p, q, e1, p0, p1, pq, q1, e2⟩ := bea_mir h k
  obtain ⟨p', q', e3, p0', p1', pq', q1', e4⟩ := bea_mir hu hv
  rw [e1, e2, e3, e4]
  unfold oppS fullB turnL turnH
  dsimp only
  by_cases c1 : 21600000 ≤ q - p
  · rw [if_pos (show 21600000 ≤ -p - -q by omega), if_pos (show 21600000 ≤ -p - -q by omega), decide_eq_true (show (21600000 : Int) ≤ 21600000 - 0 by omega), decide_eq_true c1]
    simp
  · rw [if_neg (show ¬ 21600000 ≤ -p - -q by omega), if_neg (show ¬ 21600000 ≤ -p - -q by omega), decide_eq_false (show ¬ 21600000 ≤ -q % 21600000 + (-p - -q) - -q % 21600000 by omega), decide_eq_false c1]
    by_cases c2 : 21600000 ≤ q' - p'
    · rw [if_pos (show 21600000 ≤ -p' - -q' by omega), if_pos (show 21600000 ≤ -p' - -q' by omega), decide_eq_true (show (21600000 : Int) ≤ 21600000 - 0 by omega), decide_eq_true c2]
      simp
    · rw [if_neg (show ¬ 21600000 ≤ -p' - -q' by omega), if_neg (show ¬ 21600000 ≤ -p' - -q' by omega), decide_eq_false (show ¬ 21600000 ≤ -q' % 21600000 + (-p' - -q') - -q' % 21600000 by omega), decide_eq_false c2]
      simp only [Bool.or_self, Bool.false_eq_true, if_false]
      have w : -(-q % 21600000 + -q' % 21600000) - -(-q % 21600000 + (-p - -q) + (-q' % 21600000 + (-p' - -q'))) = -(p + p') - -(q + q') := by omega
      rw [w]
      by_cases c3 : 21600000 ≤ -(p + p') - -(q + q')
      · rw [if_pos c3, if_pos c3, if_pos c3]
        omega
      · rw [if_neg c3, if_neg c3, if_neg c3]
        omega
theorem s_mir {u v w : Int × Int} (hu : Ok2 u) (hv : Ok2 v) (hw : Ok2 w) (hw' : Ok2 (10800000 - w.2, 10800000 - w.1)) :
    sY u v (10800000 - w.2, 10800000 - w.1) = sY u v w ∧ sX u v (10800000 - w.2, 10800000 - w.1) = sX u v w ∧
      (-(sZ u v (10800000 - w.2, 10800000 - w.1)).2.1 - (sZ u v w).1) % 21600000 ≤ (sZ u v w).2.1 - (sZ u v w).1 := by
  have t := trig_mir hw hw'
  obtain ⟨p, q, r, s⟩ := s_one hu hv hw
  have eP : sP u (10800000 - w.2, 10800000 - w.1) = sP u w := by
    unfold sP
    dsimp only
    rw [t.1]
  have eQ : sQ v (10800000 - w.2, 10800000 - w.1) = negT (sQ v w) := by
    unfold sQ
    dsimp only
    rw [t.2]
    exact mul_neg (cos_one hv) (cos_one hw)
  have eR : sR u (10800000 - w.2, 10800000 - w.1) = sR u w := by
    unfold sR
    dsimp only
    rw [t.1]
  have eS : sS v (10800000 - w.2, 10800000 - w.1) = negT (sS v w) := by
    unfold sS
    dsimp only
    rw [t.2]
    exact mul_neg (sin_one hv) (cos_one hw)
  unfold sY sX sZ
  rw [eP, eQ, eR, eS]
  exact ⟨len_neg2 _ _, len_neg2 _ _, oppS_mir q p s r⟩
/-- The opposite hour angle. -/
theorem hmir_ok {x y t : Int} (h : triB x x y y t t = true) : triB x x y y (-t) (-t) = true ∧ hfH x x y y (-t) (-t) = hfH x x y y t t ∧
    (-(hfZ x x y y (-t) (-t)).2.1 - (hfZ x x y y t t).1) % 21600000 ≤ (hfZ x x y y t t).2.1 - (hfZ x x y y t t).1 := by
  obtain ⟨h1, h2, h3⟩ := tri_bd h
  have l3 := aval_bd h3
  have h' : triB x x y y (-t) (-t) = true := tri_mk h1 h2 (avalid_mk (by omega) (by omega) (by omega))
  obtain ⟨ku, kv, kw⟩ := ang_bd h
  obtain ⟨ku', kv', kw'⟩ := ang_bd h'
  have m0 := Int.emod_nonneg t (show (21600000 : Int) ≠ 0 by omega)
  have m1 := Int.emod_lt_of_pos t (show (0 : Int) < 21600000 by omega)
  have eW : fW t t = (t % 21600000 / 2, -(-(t % 21600000) / 2)) := by
    unfold fW turnL turnH
    rw [if_neg (show ¬ 21600000 ≤ t - t by omega), if_neg (show ¬ 21600000 ≤ t - t by omega), show t % 21600000 + (t - t) = t % 21600000 by omega]
  have eW' : fW (-t) (-t) = (-t % 21600000 / 2, -(-(-t % 21600000) / 2)) := by
    unfold fW turnL turnH
    rw [if_neg (show ¬ 21600000 ≤ -t - -t by omega), if_neg (show ¬ 21600000 ≤ -t - -t by omega), show -t % 21600000 + (-t - -t) = -t % 21600000 by omega]
  have om : Ok2 (10800000 - (fW t t).2, 10800000 - (fW t t).1) := by
    rw [eW]
    exact avalid_mk (by dsimp only; omega) (by dsimp only; omega) (by dsimp only; omega)
  have M := s_mir (u := fU x x y y) (v := fV x x y y) (w := fW t t) ku kv kw om
  have K : sY (fU x x y y) (fV x x y y) (fW (-t) (-t)) = sY (fU x x y y) (fV x x y y) (10800000 - (fW t t).2, 10800000 - (fW t t).1) ∧ sX (fU x x y y) (fV x x y y) (fW (-t) (-t)) = sX (fU x x y y) (fV x x y y) (10800000 - (fW t t).2, 10800000 - (fW t t).1) ∧ sZ (fU x x y y) (fV x x y y) (fW (-t) (-t)) = sZ (fU x x y y) (fV x x y y) (10800000 - (fW t t).2, 10800000 - (fW t t).1) := by
    by_cases c : t % 21600000 = 0
    · -- nothing: half a turn more
      have e0' : (10800000 - (fW t t).2, 10800000 - (fW t t).1) = ((fW (-t) (-t)).1 + 10800000, (fW (-t) (-t)).2 + 10800000) := by
        rw [eW, eW', show -t % 21600000 = 0 by omega, c]
        rfl
      rw [e0'] at om ⊢
      have s := s_half (u := fU x x y y) (v := fV x x y y) (w := fW (-t) (-t)) ku kv kw' om
      exact ⟨s.1.symm, s.2.1.symm, s.2.2.symm⟩
    · have e0' : fW (-t) (-t) = (10800000 - (fW t t).2, 10800000 - (fW t t).1) := by
        rw [eW, eW', show -t % 21600000 = 21600000 - t % 21600000 by omega]
        dsimp only
        exact congr (congrArg Prod.mk (by omega)) (by omega)
      rw [e0']
      exact ⟨rfl, rfl, rfl⟩
  have yY : hfY x x y y (-t) (-t) = hfY x x y y t t := K.1.trans M.1
  have xX : hfX x x y y (-t) (-t) = hfX x x y y t t := K.2.1.trans M.2.1
  refine ⟨h', ?_, ?_⟩
  · unfold hfH hfB
    rw [yY, xX]
  · have z1 : hfZ x x y y (-t) (-t) = sZ (fU x x y y) (fV x x y y) (10800000 - (fW t t).2, 10800000 - (fW t t).1) := K.2.2
    have z2 : hfZ x x y y t t = sZ (fU x x y y) (fV x x y y) (fW t t) := rfl
    rw [z1, z2]
    exact M.2.2
/-! ### On the meridian -/
theorem halfq : Cl (20000 * u0) (co 10800000) (-1) ∧ Cl (20000 * u0) (si 10800000) 0 := by
  have o := oppq 0
  rw [show (0 : Rat) + 10800000 = 10800000 by grind, co_0, si_0] at o
  exact ⟨o.1, by have := o.2; rwa [show -(0 : Rat) = 0 by grind] at this⟩
theorem sees_mer {x y h : Rat} (hx : -5400000 ≤ x ∧ x ≤ 5400000) (hy : -5400000 ≤ y ∧ y ≤ 5400000) (hh : (x ≤ y ∧ h = 5400000 - (y - x)) ∨ (y ≤ x ∧ h = 5400000 - (x - y))) : ∃ z : Rat, Sees x y 0 h z := by
  have eb := e0_bd
  have ub := u0_bd
  have ee := ee0
  have et : 5 * e0 ≤ eT := lvF.2.2.2.2.2.2.2.2.2.1
  have s := subq x y
  have s' := subq y x
  have c := coq (x - y)
  have c' := coq (y - x)
  have h0 := co_0
  have h1 := si_0
  have hf := halfq
  unfold Sees upT noT eaT
  rw [h0, h1]
  rcases hh with ⟨k, rfl⟩ | ⟨k, rfl⟩
  · refine ⟨0, by grind, by grind, by grind, by grind, ?_, ?_, ?_⟩
    · unfold Cl at *
      constructor <;> grind
    · rw [h0]
      unfold Cl at *
      constructor <;> grind
    · rw [h1]
      unfold Cl
      constructor <;> grind
  · refine ⟨10800000, by grind, by grind, by grind, by grind, ?_, ?_, ?_⟩
    · unfold Cl at *
      constructor <;> grind
    · have m := mul_abs (a := co (5400000 - (x - y))) (b := co 10800000 + 1) (A := 2) (B := 20000 * u0) (bdq2 _).1.1 (bdq2 _).1.2 (by unfold Cl at hf; grind) (by unfold Cl at hf; grind)
      rw [show co (5400000 - (x - y)) * (co 10800000 + 1) = co (5400000 - (x - y)) * co 10800000 + co (5400000 - (x - y)) by grind] at m
      generalize co (5400000 - (x - y)) * co 10800000 = L at *
      unfold Cl at *
      constructor <;> grind
    · have m := mul_abs (a := co (5400000 - (x - y))) (b := si 10800000) (A := 2) (B := 20000 * u0) (bdq2 _).1.1 (bdq2 _).1.2 (by unfold Cl at hf; grind) (by unfold Cl at hf; grind)
      generalize co (5400000 - (x - y)) * si 10800000 = L at *
      unfold Cl at *
      constructor <;> grind
end Go.Proofs.YtipjnfabodfkcaaDoor

/-
  Half-angles: half a turn more changes nothing; a part has its solution inside. No program here.
-/
import Derived.Test.YtipjnfabodfkcaaDoorHf4
namespace Go.Proofs.YtipjnfabodfkcaaDoor
open SM TB TA
/-! ### Half a turn more -/
theorem lob_half (n : Int) : lob (n + 10800000) = -hib n ∧ hib (n + 10800000) = -lob n := by
  have m0 := Int.emod_nonneg n (show (21600000 : Int) ≠ 0 by omega)
  have m1 := Int.emod_lt_of_pos n (show (0 : Int) < 21600000 by omega)
  have r : red (n + 10800000) = red n := by
    unfold red
    dsimp only
    repeat' split
    all_goals omega
  have z : flo 0 = 0 ∧ upf 0 = 0 := by decide +kernel
  unfold lob hib
  rw [r]
  by_cases c : n % 21600000 = 0 ∨ n % 21600000 = 10800000
  · have q : red n = 0 := by
      unfold red
      dsimp only
      repeat' split
      all_goals omega
    rw [q, z.1, z.2]
    constructor <;> (split <;> split <;> rfl)
  · by_cases d : 10800000 < n % 21600000
    · have s1 : south n = true := decide_eq_true d
      have s2 : south (n + 10800000) = false := decide_eq_false (by omega)
      rw [s1, s2]
      simp
    · have s1 : south n = false := decide_eq_false d
      have s2 : south (n + 10800000) = true := decide_eq_true (by omega)
      rw [s1, s2]
      simp
theorem enc_half (a b : Int) : encL (a + 10800000) (b + 10800000) = -encH a b ∧ encH (a + 10800000) (b + 10800000) = -encL a b := by
  have e1 : meetB (a + 10800000) (b + 10800000) 16200000 = meetB a b 5400000 := by
    unfold meetB
    exact decide_eq_decide.2 (by omega)
  have e2 : meetB (a + 10800000) (b + 10800000) 5400000 = meetB a b 16200000 := by
    unfold meetB
    exact decide_eq_decide.2 (by omega)
  have p := lob_half a
  have q := lob_half b
  unfold encL encH
  rw [e1, e2, p.1, p.2, q.1, q.2]
  constructor
  · split
    · rfl
    · omega
  · split
    · rfl
    · omega
def negT (r : Int × Int × Int) : Int × Int × Int := (-r.2.1, -r.1, 0)
theorem trig_half {a b : Int} (h : avalidB a b = true) (h' : avalidB (a + 10800000) (b + 10800000) = true) : sinR (a + 10800000) (b + 10800000) = negT (sinR a b) ∧ cosR (a + 10800000) (b + 10800000) = negT (cosR a b) := by
  have e := enc_half a b
  have e2 := enc_half (a + 5400000) (b + 5400000)
  unfold sinR cosR negT
  rw [h, h', if_neg (by simp), if_neg (by simp), if_neg (by simp), if_neg (by simp)]
  dsimp only
  rw [show a + 10800000 + 5400000 = a + 5400000 + 10800000 by omega, show b + 10800000 + 5400000 = b + 5400000 + 10800000 by omega]
  exact ⟨by rw [e.1, e.2], by rw [e2.1, e2.2]⟩
theorem negT_one {r : Int × Int × Int} (h : OneR r) : OneR (negT r) := by
  obtain ⟨h1, h2, h3, h4⟩ := h
  unfold negT
  exact ⟨by dsimp only; omega, by dsimp only; omega, by dsimp only; omega, rfl⟩
theorem mul_neg {r s : Int × Int × Int} (h : OneR r) (k : OneR s) : mulT r (negT s) = negT (mulT r s) := by
  have m := mul_ones h k
  obtain ⟨h1, h2, h3, h4⟩ := h
  obtain ⟨k1, k2, k3, k4⟩ := k
  have v : bothB r.1 r.2.1 s.1 s.2.1 = true := both_mk (val_mk (by omega) h2 (by omega)) (val_mk (by omega) k2 (by omega))
  have v' : bothB r.1 r.2.1 (-s.2.1) (-s.1) = true := both_mk (val_mk (by omega) h2 (by omega)) (val_mk (by omega) (by omega) (by omega))
  have L : mulL r.1 r.2.1 (-s.2.1) (-s.1) = -mulH r.1 r.2.1 s.1 s.2.1 ∧ mulH r.1 r.2.1 (-s.2.1) (-s.1) = -mulL r.1 r.2.1 s.1 s.2.1 := by
    unfold mulL mulH
    rw [Int.mul_neg, Int.mul_neg, Int.mul_neg, Int.mul_neg]
    generalize r.1 * s.1 = p
    generalize r.1 * s.2.1 = q
    generalize r.2.1 * s.1 = u
    generalize r.2.1 * s.2.1 = w
    have a1 := mn4 (-q) (-p) (-w) (-u)
    have a2 := mx4 (-q) (-p) (-w) (-u)
    have b1 := mn4 p q u w
    have b2 := mx4 p q u w
    generalize mn (mn (mn (-q) (-p)) (-w)) (-u) = x1 at *
    generalize mx (mx (mx (-q) (-p)) (-w)) (-u) = x2 at *
    generalize mn (mn (mn p q) u) w = x3 at *
    generalize mx (mx (mx p q) u) w = x4 at *
    omega
  unfold mulT at *
  unfold negT
  dsimp only
  unfold mulR at m ⊢
  rw [if_pos v] at m
  rw [if_pos v, if_pos v', L.1, L.2, Int.neg_neg]
  have f := fit_ok m.2.2.2
  have b := val_bd f.1
  rw [f.2]
  dsimp only
  rw [fit_mk (val_mk (by omega) (by omega) (by omega)), Int.neg_neg]
theorem sqr_neg (r : Int × Int × Int) : sqrR (negT r).1 (negT r).2.1 = sqrR r.1 r.2.1 := by
  unfold negT
  dsimp only
  have v : validB (-r.2.1) (-r.1) = validB r.1 r.2.1 := valid_neg
  unfold sqrR
  rw [v]
  have e1 : sqrL (-r.2.1) (-r.1) = sqrL r.1 r.2.1 := by
    unfold sqrL
    rw [Int.neg_mul_neg, Int.neg_mul_neg]
    by_cases c : r.1 ≤ 0 ∧ 0 ≤ r.2.1
    · rw [if_pos c, if_pos (by omega)]
    · rw [if_neg c, if_neg (by omega)]
      omega
  have e2 : sqrH (-r.2.1) (-r.1) = sqrH r.1 r.2.1 := by
    unfold sqrH
    rw [Int.neg_mul_neg, Int.neg_mul_neg]
    omega
  rw [e1, e2]
theorem len_neg (r s : Int × Int × Int) : lenT (negT r) (negT s) = lenT r s := by
  unfold lenT sumT
  rw [sqr_neg, sqr_neg]
/-- The opposite direction. -/
theorem bea_neg {r s : Int × Int × Int} (h : OneR r) (k : OneR s) :
    ∃ p q : Int, beaT r s = (p, q, 0) ∧ 0 ≤ p ∧ p < 21600000 ∧ p ≤ q ∧ q ≤ p + 21600000 ∧ ((p = 0 ∧ q = 21600000) ∨ q < p + 21600000) ∧ beaT (negT r) (negT s) = (turnL (p + 10800000) (q + 10800000), turnH (p + 10800000) (q + 10800000), 0) := by
  have hv := h.val
  have kv := k.val
  have nv : validB (-s.2.1) (-s.1) = true := by rw [valid_neg]; exact kv
  have mv : validB (-r.2.1) (-r.1) = true := by rw [valid_neg]; exact hv
  obtain ⟨p, q, e1, p0, p1, pq, q1, e2, _⟩ := turns_plain hv kv
  obtain ⟨p', q', e3, _, _, _, _, e4, _⟩ := turns_plain kv mv
  have f := bear_form hv kv
  rw [e1] at f
  refine ⟨p, q, e1, p0, p1, pq, q1, f, ?_⟩
  unfold beaT negT
  dsimp only
  rw [e4]
  have e5 : (p', q', (0 : Int)) = (turnL (p + 5400000) (q + 5400000), turnH (p + 5400000) (q + 5400000), 0) := e3.symm.trans e2
  have g1 : p' = turnL (p + 5400000) (q + 5400000) := congrArg (fun z => z.1) e5
  have g2 : q' = turnH (p + 5400000) (q + 5400000) := congrArg (fun z => z.2.1) e5
  rw [g1, g2]
  unfold turnL turnH
  by_cases c : 21600000 ≤ q - p
  · rw [if_pos (show 21600000 ≤ q + 5400000 - (p + 5400000) by omega), if_pos (show 21600000 ≤ q + 5400000 - (p + 5400000) by omega), if_pos (by omega), if_pos (by omega), if_pos (by omega), if_pos (by omega)]
  · rw [if_neg (show ¬ 21600000 ≤ q + 5400000 - (p + 5400000) by omega), if_neg (show ¬ 21600000 ≤ q + 5400000 - (p + 5400000) by omega), if_neg (by omega), if_neg (by omega), if_neg (by omega), if_neg (by omega)]
    rw [show ((p + 5400000) % 21600000 + 5400000) % 21600000 = (p + 10800000) % 21600000 by omega, show (p + 5400000) % 21600000 + (q + 5400000 - (p + 5400000)) + 5400000 - ((p + 5400000) % 21600000 + 5400000) = q + 10800000 - (p + 10800000) by omega]
theorem oppS_neg {r s u v : Int × Int × Int} (h : OneR r) (k : OneR s) (hu : OneR u) (hv : OneR v) : oppS (beaT (negT r) (negT s)) (beaT (negT u) (negT v)) = oppS (beaT r s) (beaT u v) := by
  obtain ⟨p, q, e1, p0, p1, pq, q1, f1, e2⟩ := bea_neg h k
  obtain ⟨p', q', e3, p0', p1', pq', q1', f2, e4⟩ := bea_neg hu hv
  rw [e1, e2, e3, e4]
  unfold oppS fullB turnL turnH
  dsimp only
  by_cases c1 : 21600000 ≤ q - p
  · rw [if_pos (show 21600000 ≤ q + 10800000 - (p + 10800000) by omega), if_pos (show 21600000 ≤ q + 10800000 - (p + 10800000) by omega), decide_eq_true (show (21600000 : Int) ≤ 21600000 - 0 by omega), decide_eq_true c1]
    rfl
  · rw [if_neg (show ¬ 21600000 ≤ q + 10800000 - (p + 10800000) by omega), if_neg (show ¬ 21600000 ≤ q + 10800000 - (p + 10800000) by omega), decide_eq_false (show ¬ 21600000 ≤ (p + 10800000) % 21600000 + (q + 10800000 - (p + 10800000)) - (p + 10800000) % 21600000 by omega), decide_eq_false c1]
    by_cases c2 : 21600000 ≤ q' - p'
    · rw [if_pos (show 21600000 ≤ q' + 10800000 - (p' + 10800000) by omega), if_pos (show 21600000 ≤ q' + 10800000 - (p' + 10800000) by omega), decide_eq_true (show (21600000 : Int) ≤ 21600000 - 0 by omega), decide_eq_true c2]
      rfl
    · rw [if_neg (show ¬ 21600000 ≤ q' + 10800000 - (p' + 10800000) by omega), if_neg (show ¬ 21600000 ≤ q' + 10800000 - (p' + 10800000) by omega), decide_eq_false (show ¬ 21600000 ≤ (p' + 10800000) % 21600000 + (q' + 10800000 - (p' + 10800000)) - (p' + 10800000) % 21600000 by omega), decide_eq_false c2]
      simp only [Bool.or_self, Bool.false_eq_true, if_false]
      have w : ∀ x y : Int, -((p + 10800000) % 21600000 + (p' + 10800000) % 21600000) - -((p + 10800000) % 21600000 + (q + 10800000 - (p + 10800000)) + ((p' + 10800000) % 21600000 + (q' + 10800000 - (p' + 10800000)))) = -(p + p') - -(q + q') := fun _ _ => by omega
      rw [w 0 0]
      have z : -((p + 10800000) % 21600000 + (q + 10800000 - (p + 10800000)) + ((p' + 10800000) % 21600000 + (q' + 10800000 - (p' + 10800000)))) % 21600000 = -(q + q') % 21600000 := by omega
      rw [z]
end Go.Proofs.YtipjnfabodfkcaaDoor

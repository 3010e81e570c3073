import Derived.Test.YtkjnheahaimpoaaGreatT61
import Derived.Test.YtkjnheahaimpoaaGreatT54
namespace Go.Proofs.YtkjnheahaimpoaaGreat
open SM
theorem rbox_part {yl yh xl xh a b c d : Int} (h1 : yl ≤ a) (h2 : b ≤ yh) (h3 : xl ≤ c) (h4 : d ≤ xh) (hab : a ≤ b) (hcd : c ≤ d) (j : Nat) :
    (rbox yl yh xl xh j).1 ≤ (rbox a b c d j).1 ∧ (rbox a b c d j).1 ≤ (rbox a b c d j).2.1 ∧ (rbox a b c d j).2.1 ≤ (rbox yl yh xl xh j).2.1 ∧ (rbox yl yh xl xh j).2.2.1 ≤ (rbox a b c d j).2.2.1 ∧ (rbox a b c d j).2.2.1 ≤ (rbox a b c d j).2.2.2 ∧ (rbox a b c d j).2.2.2 ≤ (rbox yl yh xl xh j).2.2.2 := by
  unfold rbox
  split <;> simp only <;> omega
theorem rbox_bd {yl yh xl xh : Int} (h1 : -2147483648 ≤ yl) (h2 : yl ≤ yh) (h3 : yh ≤ 2147483648) (h4 : -2147483648 ≤ xl) (h5 : xl ≤ xh) (h6 : xh ≤ 2147483648) (j : Nat) :
    (rbox yl yh xl xh j).1 ≤ (rbox yl yh xl xh j).2.1 ∧ (rbox yl yh xl xh j).2.2.1 ≤ (rbox yl yh xl xh j).2.2.2 ∧ -2147483648 ≤ (rbox yl yh xl xh j).1 ∧ (rbox yl yh xl xh j).2.1 ≤ 2147483648 ∧ (rbox yl yh xl xh j).2.2.2 ≤ 2147483648 := by
  unfold rbox
  split <;> simp only <;> omega
/-- A box without the origin: its arc. -/
theorem bear_one {yl yh xl xh : Int} (hvx : validB xl xh = true) (hvy : validB yl yh = true) (ho : originB yl yh xl xh = false) {j : Nat} (hj : j ≤ 3) (hx0 : 0 < (rbox yl yh xl xh j).2.2.1) :
    ∃ A B : Int, A = loA (rbox yl yh xl xh j).1 (rbox yl yh xl xh j).2.2.1 (rbox yl yh xl xh j).2.2.2 ∧ B = hiA (rbox yl yh xl xh j).2.1 (rbox yl yh xl xh j).2.2.1 (rbox yl yh xl xh j).2.2.2 ∧
      bearR yl yh xl xh = ((A + 5400000 * j) % 21600000, (A + 5400000 * j) % 21600000 + (B - A), 0) ∧ -5400000 ≤ A ∧ A ≤ B ∧ B ≤ 5400000 := by
  have hx := hvx
  have hy := hvy
  simp only [validB, decide_eq_true_eq] at hx hy
  have hb := rbox_bd hy.1 hy.2.1 hy.2.2 hx.1 hx.2.1 hx.2.2 j
  refine ⟨_, _, rfl, rfl, bear_str hvx hvy ho hj rfl hx0, ?_⟩
  exact box_one hx0 hb.2.1 hb.1 hb.2.2.2.2 hb.2.2.1 hb.2.2.2.1
theorem bear_yes {yl yh xl xh : Int} (hvx : validB xl xh = true) (hvy : validB yl yh = true) (ho : originB yl yh xl xh = true) : bearR yl yh xl xh = (0, 21600000, 0) := by
  unfold bearR
  rw [if_neg (by rw [hvx, hvy]; simp), if_pos ho]
theorem grow_plain {yl yh xl xh a b c d : Int} (hvy : validB yl yh = true) (hvx : validB xl xh = true) (h1 : yl ≤ a) (h2 : b ≤ yh) (h3 : xl ≤ c) (h4 : d ≤ xh) (hab : a ≤ b) (hcd : c ≤ d) :
    ∃ p q r s : Int, bearR yl yh xl xh = (p, q, 0) ∧ bearR a b c d = (r, s, 0) ∧ 0 ≤ p ∧ p < 21600000 ∧ 0 ≤ r ∧ r < 21600000 ∧ p ≤ q ∧ q ≤ p + 21600000 ∧ r ≤ s ∧ s ≤ r + 21600000 ∧
      ((p = 0 ∧ q = 21600000) ∨ (r < p ∧ p ≤ r + 21600000 ∧ s + 21600000 ≤ q) ∨ (p ≤ r ∧ s ≤ q)) := by
  have hx := hvx
  have hy := hvy
  simp only [validB, decide_eq_true_eq] at hx hy
  have hvc : validB c d = true := by unfold validB; rw [decide_eq_true]; omega
  have hva : validB a b = true := by unfold validB; rw [decide_eq_true]; omega
  have part_any : ∃ r s : Int, bearR a b c d = (r, s, 0) ∧ 0 ≤ r ∧ r < 21600000 ∧ r ≤ s ∧ s ≤ r + 21600000 := by
    cases ho : originB a b c d
    · obtain ⟨j, hj, hx0⟩ := half_ex ho
      obtain ⟨A, B, _, _, e, b1, b2, b3⟩ := bear_one hvc hva ho hj hx0
      refine ⟨_, _, e, ?_, ?_, ?_, ?_⟩ <;> omega
    · exact ⟨0, 21600000, bear_yes hvc hva ho, by omega, by omega, by omega, by omega⟩
  cases ho : originB yl yh xl xh
  · obtain ⟨j, hj, hx0⟩ := half_ex ho
    obtain ⟨A, B, eA, eB, e, b1, b2, b3⟩ := bear_one hvx hvy ho hj hx0
    have hp := rbox_part h1 h2 h3 h4 hab hcd j
    have hob : originB a b c d = false := by
      simp only [originB, decide_eq_false_iff_not] at ho ⊢
      omega
    obtain ⟨A', B', eA', eB', e', c1, c2, c3⟩ := bear_one hvc hva hob hj (by omega)
    have hb := rbox_bd hy.1 hy.2.1 hy.2.2 hx.1 hx.2.1 hx.2.2 j
    have hle : A ≤ A' ∧ B' ≤ B := by
      rw [eA, eB, eA', eB']
      generalize rbox yl yh xl xh j = R at *
      generalize rbox a b c d j = P at *
      obtain ⟨Y0, Y1, X0, X1⟩ := R
      obtain ⟨y0, y1, x0, x1⟩ := P
      simp only at *
      constructor
      · have g : ∀ x y, x0 ≤ x → x ≤ x1 → y0 ≤ y → y ≤ y1 → loA Y0 X0 X1 ≤ fl x y := fun x y a1 a2 a3 a4 =>
          (box_lo (y1 := Y1) hx0 (by omega) (by omega) hb.2.2.2.2 hb.2.2.1 hb.2.2.2.1).1
        unfold loA at g ⊢
        by_cases h : 0 ≤ y0
        · rw [if_pos h]; exact g _ _ (by omega) (by omega) (by omega) (by omega)
        · rw [if_neg h]; exact g _ _ (by omega) (by omega) (by omega) (by omega)
      · have g : ∀ x y, x0 ≤ x → x ≤ x1 → y0 ≤ y → y ≤ y1 → ce x y ≤ hiA Y1 X0 X1 := fun x y a1 a2 a3 a4 =>
          (box_lo (y0 := Y0) hx0 (by omega) (by omega) hb.2.2.2.2 hb.2.2.1 hb.2.2.2.1).2
        unfold hiA at g ⊢
        by_cases h : 0 ≤ y1
        · rw [if_pos h]; exact g _ _ (by omega) (by omega) (by omega) (by omega)
        · rw [if_neg h]; exact g _ _ (by omega) (by omega) (by omega) (by omega)
    refine ⟨_, _, _, _, e, e', by omega, by omega, by omega, by omega, by omega, by omega, by omega, by omega, ?_⟩
    right
    omega
  · obtain ⟨r, s, e, r1, r2, r3, r4⟩ := part_any
    exact ⟨0, 21600000, r, s, bear_yes hvx hvy ho, e, by omega, by omega, r1, r2, by omega, by omega, r3, r4, .inl ⟨rfl, rfl⟩⟩
end Go.Proofs.YtkjnheahaimpoaaGreat

import Derived.Test.YtfilgpifiboccaaGreatT61
import Derived.Test.YtfilgpifiboccaaGreatT54
namespace Go.Proofs.YtfilgpifiboccaaGreat
open SM
theorem rbox_bd {yl yh xl xh : Int} (h1 : -2147483648 ≤ yl) (h2 : yl ≤ yh) (h3 : yh ≤ 2147483648) (h4 : -2147483648 ≤ xl) (h5 : xl ≤ xh) (h6 : xh ≤ 2147483648) (j : Nat) :
    (rbox yl yh xl xh j).1 ≤ (rbox yl yh xl xh j).2.1 ∧ (rbox yl yh xl xh j).2.2.1 ≤ (rbox yl yh xl xh j).2.2.2 ∧ -2147483648 ≤ (rbox yl yh xl xh j).1 ∧ (rbox yl yh xl xh j).2.1 ≤ 2147483648 ∧ (rbox yl yh xl xh j).2.2.2 ≤ 2147483648 := by
  unfold rbox
  split <;> simp only <;> omega
/-- A box without the origin: its arc. -/
theorem bear_one {yl yh xl xh : Int} (hvx : validB xl xh = true) (hvy : validB yl yh = true) (ho : originB yl yh xl xh = false) {j : Nat} (hj : j ≤ 3) (hx0 : 0 < (rbox yl yh xl xh j).2.2.1) :
    ∃ A B : Int, A = loA (rbox yl yh xl xh j).1 (rbox yl yh xl xh j).2.2.1 (rbox yl yh xl xh j).2.2.2 ∧ B = hiA (rbox yl yh xl xh j).2.1 (rbox yl yh xl xh j).2.2.1 (rbox yl yh xl xh j).2.2.2 ∧
      bearR yl yh xl xh = ((A + 5400000 * j) % 21600000, (A + 5400000 * j) % 21600000 + (B - A), 0) ∧ -5400000 ≤ A ∧ A ≤ B ∧ B ≤ 5400000 := by
  have hx := hvx
  have hy := hvy
  simp only [validB, decide_eq_true_eq] at hx hy
  have hb := rbox_bd hy.1 hy.2.1 hy.2.2 hx.1 hx.2.1 hx.2.2 j
  refine ⟨_, _, rfl, rfl, bear_str hvx hvy ho hj rfl hx0, ?_⟩
  exact box_one hx0 hb.2.1 hb.1 hb.2.2.2.2 hb.2.2.1 hb.2.2.2.1
theorem bear_yes {yl yh xl xh : Int} (hvx : validB xl xh = true) (hvy : validB yl yh = true) (ho : originB yl yh xl xh = true) : bearR yl yh xl xh = (0, 21600000, 0) := by
  unfold bearR
  rw [if_neg (by rw [hvx, hvy]; simp), if_pos ho]
end Go.Proofs.YtfilgpifiboccaaGreat

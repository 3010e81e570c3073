import Derived.Test.YtcjkfchjcealbaaGreatT44
import Derived.Test.YtcjkfchjcealbaaGreatT20
namespace Go.Proofs.YtcjkfchjcealbaaGreat
open Go.RowKit SM
theorem qfl (k : Nat) (hk : k ≤ 5400000) (hx : exa k = false) : (k ≤ 2700000 → (flo k : Int) * 4294967296 + 512 ≤ quickN k false ∧ quickN k false ≤ ((flo k : Int) + 1) * 4294967296 - 512) ∧
    (2700000 ≤ k → (flo k : Int) * 4294967296 + 512 ≤ quickN ((5400000 - k : Nat) : Int) true ∧ quickN ((5400000 - k : Nat) : Int) true ≤ ((flo k : Int) + 1) * 4294967296 - 512) := by
  obtain ⟨g1, g2⟩ := gap k hk hx
  refine ⟨fun h => ?_, fun h => ?_⟩
  · have hT : T k = tS k := by unfold T; rw [if_pos h]
    rw [hT] at g1 g2
    exact quick_floor (quick_err k h).1 g1 g2
  · rcases Nat.eq_or_lt_of_le h with h2 | h2
    · subst h2; decide +kernel
    · have hT : T k = tC (5400000 - k) := by unfold T; rw [if_neg (by omega)]
      rw [hT] at g1 g2
      exact quick_floor (quick_err (5400000 - k) (by omega)).2 g1 g2
theorem quickV_floor (n : Int) (hx : exa (red n) = false) : lob n * 4294967296 + 512 ≤ quickV n ∧ quickV n ≤ (lob n + 1) * 4294967296 - 512 ∧ hib n = lob n + 1 := by
  have hk := red_le n
  have hq := qfl (red n) hk hx
  have hl : hib n = lob n + 1 := by unfold lob hib upf; rw [hx]; simp only [Bool.false_eq_true, reduceIte]; split <;> omega
  have m0 := Int.emod_nonneg n (show (21600000 : Int) ≠ 0 by omega)
  have m1 := Int.emod_lt_of_pos n (show (0 : Int) < 21600000 by omega)
  refine ⟨?_, ?_, hl⟩ <;> {
    clear hl
    have hx' : red n ≠ 0 ∧ red n ≠ 5400000 := by
      simp only [exa, Bool.or_eq_false_iff, beq_eq_false_iff_ne] at hx
      omega
    unfold quickV lob upf
    rw [hx]
    unfold south quickM
    simp only [Bool.false_eq_true, reduceIte, decide_eq_true_eq]
    have hr : (red n : Int) = if n % 21600000 ≤ 5400000 then n % 21600000 else if n % 21600000 ≤ 10800000 then 10800000 - n % 21600000 else if n % 21600000 ≤ 16200000 then n % 21600000 - 10800000 else 21600000 - n % 21600000 := by
      unfold red; simp only; split
      · omega
      · split
        · omega
        · split <;> omega
    have hc : ((5400000 - red n : Nat) : Int) = 5400000 - (red n : Int) := by omega
    rw [hc] at hq
    have l1 : (red n : Int) ≤ 2700000 → red n ≤ 2700000 := by omega
    have l2 : 2700000 ≤ (red n : Int) → 2700000 ≤ red n := by omega
    have l3 : (red n : Int) ≠ 0 ∧ (red n : Int) ≠ 5400000 := by omega
    clear hx hk hx' hc
    generalize n % 21600000 = m at *
    generalize flo (red n) = f at *
    obtain ⟨q1, q2⟩ := hq
    replace q1 := fun h => q1 (l1 h)
    replace q2 := fun h => q2 (l2 h)
    clear l1 l2
    generalize (red n : Int) = k at *
    clear n
    (repeat' split) <;> (repeat' split at hr) <;> first
      | omega
      | (have q1 := q1 (by omega); rw [hr] at q1; omega)
      | (have q2 := q2 (by omega); rw [hr] at q2; first
          | omega
          | (rw [show 5400000 - (10800000 - m) = m - 5400000 by omega] at q2; omega)
          | (rw [show 5400000 - (m - 10800000) = 16200000 - m by omega] at q2; omega)
          | (rw [show 5400000 - (21600000 - m) = m - 16200000 by omega] at q2; omega)) }
end Go.Proofs.YtcjkfchjcealbaaGreat

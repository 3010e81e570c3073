import Derived.Test.YtmlmohcghoelkaaT53
namespace Go.Proofs.Ytmlmohcghoelkaa
open Go.RowKit SM
theorem asn_mono {u v : Int} (hu : -1073741824 ≤ u) (h : u ≤ v) : asn u ≤ asn v := by
  obtain ⟨a0, a1, a2, a3⟩ := asn_is u hu
  obtain ⟨b0, b1, b2, b3⟩ := asn_is v (by omega)
  rcases Int.lt_or_le (asn v) (asn u) with h2 | h2
  · have := hib_mono (m := asn v + 1) (n := asn u) (by omega) (by omega) a1
    omega
  · exact h2
theorem asn_lob (n : Int) (h0 : -5400000 ≤ n) (h1 : n ≤ 5400000) : asn (lob n) ≤ n ∧ n ≤ - asn (- hib n) := by
  have hl := lob_hib n
  have key : ∀ m : Int, -5400000 ≤ m → m ≤ 5400000 → asn (lob m) ≤ m := fun m m0 m1 => by
    have hl := lob_hib m
    obtain ⟨a0, a1, a2, a3⟩ := asn_is (lob m) hl.2.1
    rcases Int.lt_or_le m (asn (lob m)) with h2 | h2
    · have := strict (m := m) (n := asn (lob m)) m0 h2 a1
      omega
    · exact h2
  refine ⟨key n h0 h1, ?_⟩
  have := key (-n) (by omega) (by omega)
  rw [(lob_opp n h0 h1).1] at this
  omega
/-- At one angle the enclosure is that of the angle. -/
theorem enc_one (n : Int) : encL n n = lob n ∧ encH n n = hib n := by
  have m0 := Int.emod_nonneg n (show (21600000 : Int) ≠ 0 by omega)
  have m1 := Int.emod_lt_of_pos n (show (0 : Int) < 21600000 by omega)
  unfold encL encH meetB
  simp only [Int.sub_self, Int.min_self, Int.max_self, decide_eq_true_eq]
  constructor
  · split
    · have h : n % 21600000 = 16200000 := by omega
      unfold lob south red upf; rw [h]; decide +kernel
    · rfl
  · split
    · have h : n % 21600000 = 5400000 := by omega
      unfold hib south red upf; rw [h]; decide +kernel
    · rfl
/-- The sine is the same on both sides of the right angle. -/
theorem lob_sym (n : Int) : lob (n + 5400000) = lob (5400000 - n) ∧ hib (n + 5400000) = hib (5400000 - n) := by
  have e : red (n + 5400000) = red (5400000 - n) ∧ (south (n + 5400000) = south (5400000 - n) ∨ exa (red (5400000 - n)) = true ∧ flo (red (5400000 - n)) = 0) := by
    have a0 := Int.emod_nonneg (n + 5400000) (show (21600000 : Int) ≠ 0 by omega)
    have a1 := Int.emod_lt_of_pos (n + 5400000) (show (0 : Int) < 21600000 by omega)
    have b0 := Int.emod_nonneg (5400000 - n) (show (21600000 : Int) ≠ 0 by omega)
    have b1 := Int.emod_lt_of_pos (5400000 - n) (show (0 : Int) < 21600000 by omega)
    have hs : ((n + 5400000) % 21600000 + (5400000 - n) % 21600000 = 10800000) ∨ ((n + 5400000) % 21600000 + (5400000 - n) % 21600000 = 32400000) := by omega
    have hr : red (n + 5400000) = red (5400000 - n) := by
      unfold red
      generalize (n + 5400000) % 21600000 = p at *
      generalize (5400000 - n) % 21600000 = q at *
      simp only
      repeat' split
      all_goals omega
    refine ⟨hr, ?_⟩
    by_cases h : (n + 5400000) % 21600000 = 10800000 ∨ (5400000 - n) % 21600000 = 10800000
    · right
      rw [← hr]
      have : red (n + 5400000) = 0 := by
        unfold red
        generalize (n + 5400000) % 21600000 = p at *
        generalize (5400000 - n) % 21600000 = q at *
        simp only
        repeat' split
        all_goals omega
      rw [this]
      decide
    · left
      unfold south
      generalize (n + 5400000) % 21600000 = p at *
      generalize (5400000 - n) % 21600000 = q at *
      simp only [decide_eq_decide]
      omega
  unfold lob hib upf
  rw [e.1]
  rcases e.2 with h | ⟨h, h2⟩
  · rw [h]; exact ⟨rfl, rfl⟩
  · rw [h, h2]
    simp only [reduceIte]
    constructor <;> (repeat' split) <;> rfl
theorem sinR_one (n : Int) (h0 : -1099511627776 ≤ n) (h1 : n ≤ 1099511627776) : sinR n n = (lob n, hib n, 0) := by
  unfold sinR
  rw [if_neg (by simp [avalidB]; omega), (enc_one n).1, (enc_one n).2]
theorem cosR_one (n : Int) (h0 : -1099511627776 ≤ n) (h1 : n ≤ 1099511627776) : cosR n n = (lob (5400000 - n), hib (5400000 - n), 0) := by
  unfold cosR
  rw [if_neg (by simp [avalidB]; omega), (enc_one (n + 5400000)).1, (enc_one (n + 5400000)).2, (lob_sym n).1, (lob_sym n).2]
theorem havR_one (n : Int) (h0 : -1099511627776 ≤ n) (h1 : n ≤ 1099511627776) : havR n n = ((1073741824 - hib (5400000 - n)) / 2, (1073741824 - lob (5400000 - n) + 1) / 2, 0) := by
  unfold havR
  rw [if_neg (by simp [avalidB]; omega), (enc_one (n + 5400000)).1, (enc_one (n + 5400000)).2, (lob_sym n).1, (lob_sym n).2]
/-- What the first part of the law compares. -/
theorem back1 (n : Int) (h0 : -5400000 ≤ n) (h1 : n ≤ 5400000) : ∃ s t x y : Int, sinR n n = (s, t, 0) ∧ asinR s t = (x, y, 0) ∧ x ≤ n ∧ n ≤ y := by
  obtain ⟨c, l1, l2⟩ := lob_hib n
  refine ⟨lob n, hib n, _, _, sinR_one n (by omega) (by omega), asinR_in _ _ (by omega) l1 l2, (asn_lob n h0 h1).1, (asn_lob n h0 h1).2⟩
theorem back2 (n : Int) (h0 : 0 ≤ n) (h1 : n ≤ 10800000) : ∃ s t u v x y z r : Int, cosR n n = (s, t, 0) ∧ havR n n = (u, v, 0) ∧ acosR s t = (x, y, 0) ∧ ahavR u v = (z, r, 0) ∧ x ≤ n ∧ n ≤ y ∧ z ≤ n ∧ n ≤ r := by
  obtain ⟨c, l1, l2⟩ := lob_hib (5400000 - n)
  obtain ⟨g1, g2⟩ := asn_lob (5400000 - n) (by omega) (by omega)
  have hc := cosR_one n (by omega) (by omega)
  have hh := havR_one n (by omega) (by omega)
  generalize lob (5400000 - n) = a at *
  generalize hib (5400000 - n) = b at *
  have m1 := asn_mono (u := 1073741824 - 2 * ((1073741824 - a + 1) / 2)) (v := a) (by omega) (by omega)
  have m2 := asn_mono (u := - (1073741824 - 2 * ((1073741824 - b) / 2))) (v := -b) (by omega) (by omega)
  have hv := (ahavR_in ((1073741824 - b) / 2) ((1073741824 - a + 1) / 2) (by omega) (by omega) (by omega)).trans (acosR_in _ _ (by omega) (by omega) (by omega))
  exact ⟨a, b, _, _, _, _, _, _, hc, hh, acosR_in a b (by omega) l1 l2, hv, by omega, by omega, by omega, by omega⟩
theorem back3 (lo hi : Int) (h1 : lo ≤ hi) (h2 : -1073741824 ≤ lo) (h3 : hi ≤ 1073741824) : ∃ x y s t : Int, asinR lo hi = (x, y, 0) ∧ sinR x y = (s, t, 0) ∧ s ≤ lo ∧ hi ≤ t := by
  obtain ⟨a0, a1, a2, a3⟩ := asn_is lo h2
  obtain ⟨b0, b1, b2, b3⟩ := asn_is (-hi) (by omega)
  have o1 := lob_opp (asn (-hi)) b0 b1
  have hl := lob_hib (asn lo)
  have hr := lob_hib (- asn (-hi))
  have hle : asn lo ≤ - asn (-hi) := by
    rcases Int.lt_or_le (- asn (-hi)) (asn lo) with h | h
    · have := strict (m := - asn (-hi)) (n := asn lo) (by omega) h a1
      omega
    · exact h
  have hs : sinR (asn lo) (- asn (-hi)) = (encL (asn lo) (- asn (-hi)), encH (asn lo) (- asn (-hi)), 0) := by
    unfold sinR
    rw [if_neg (by simp [avalidB]; omega)]
  refine ⟨_, _, _, _, asinR_in lo hi h1 h2 h3, hs, ?_, ?_⟩
  · unfold encL; split <;> omega
  · unfold encH; split <;> omega
end Go.Proofs.Ytmlmohcghoelkaa

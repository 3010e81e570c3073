import Derived.Test.YtmlmohcghoelkaaT18
namespace Go.Proofs.Ytmlmohcghoelkaa
open Go.RowKit SM
theorem lob_hib (n : Int) : (lob n = hib n ∨ hib n = lob n + 1) ∧ -1073741824 ≤ lob n ∧ hib n ≤ 1073741824 := by
  have hf := flo_le (red n) (red_le n)
  have hs : exa (red n) = false → flo (red n) < 1073741824 := by
    intro h
    have h1 : red n ≠ 5400000 := by
      intro h2; rw [h2] at h; cases h
    have := flo_mono (m := red n + 1) (n := 5400000) (by have := red_le n; omega) (Nat.le_refl _)
    have h3 := up (red n) (by have := red_le n; omega)
    have h4 := gap (red n) (red_le n) h
    rcases Nat.lt_or_ge (flo (red n)) 1073741824 with h5 | h5
    · exact h5
    · exfalso
      have h6 : flo (red n) = 1073741824 := by omega
      rw [h6] at h4
      have c : ((1073741824 : Nat) : Rat) = 1073741824 := rfl
      rw [c] at h4
      have hT : ∀ k, red n ≤ k → k ≤ 5400000 → G86 * T (red n) ≤ G86 * T k := by
        intro k hk
        induction k with
        | zero => intro _; have : red n = 0 := by omega
                  rw [this]; exact Rat.le_refl
        | succ k ih =>
          intro hk2
          rcases Nat.eq_or_lt_of_le hk with h7 | h7
          · rw [h7]; exact Rat.le_refl
          · have := ih (by omega) (by omega)
            have := up k (by omega)
            grind
      have h8 := hT 5400000 (red_le n) (Nat.le_refl _)
      have h9 := at_exact 5400000 (Nat.le_refl _) rfl
      have f : flo 5400000 = 1073741824 := rfl
      rw [f, c] at h9
      unfold Wit at h9
      grind
  unfold lob hib upf
  cases h : exa (red n)
  · have := hs h
    cases south n
    · simp only [Bool.false_eq_true, reduceIte]; exact ⟨by first | exact .inr trivial | exact .inl rfl | exact .inl trivial | omega, by omega, by omega⟩
    · simp only [Bool.false_eq_true, reduceIte]; exact ⟨by first | exact .inr trivial | exact .inl rfl | exact .inl trivial | omega, by omega, by omega⟩
  · cases south n
    · simp only [Bool.false_eq_true, reduceIte]; exact ⟨by first | exact .inr trivial | exact .inl rfl | exact .inl trivial | omega, by omega, by omega⟩
    · simp only [reduceIte]; exact ⟨by first | exact .inr trivial | exact .inl rfl | exact .inl trivial | omega, by omega, by omega⟩
/-- The comparison of a sine with a number. -/
def cmp (n v : Int) : Int := if lob n = hib n ∧ v = lob n then 0 else if v ≤ lob n then 1 else -1
set_option maxHeartbeats 1000000 in
theorem below_any (n v : Int) (w : World) : Calls Try.prog 21 #[.int .i64 n, .int .i64 v] w (GPost (.int .i64 (cmp n v)) w) := by
  obtain ⟨V, hV⟩ : ∃ V, V = Value.int .i64 (cmp n v) := ⟨_, rfl⟩
  have HP : ∀ w', Below w.heap.size w w' → GPost V w (.returned (.int .i64 (cmp n v))) w' := fun w' h => ⟨by rw [hV], h⟩
  rw [← hV]
  clear hV
  have HB := Lib.hid (bounds_any n w)
  obtain ⟨h, h1, h2⟩ := lob_hib n
  unfold cmp at HP
  generalize lob n = lo at *
  generalize hib n = hi at *
  rcases h with rfl | rfl
  · rcases Int.lt_trichotomy v lo with c | c | c
    · rw [if_neg (by omega), if_pos (by omega)] at HP
      have HP := Lib.hid HP
      go_enter Try.func21, Try.ntmps21
      go_wp2_with fail
      refine HB.out.mono ?_
      rintro e w1 ⟨rfl, hb1⟩
      have HB := Lib.hid hb1
      clear hb1
      go_wp2
      go_ret
      exact HP.out _ HB.out
    · subst c
      rw [if_pos (by omega)] at HP
      have HP := Lib.hid HP
      go_enter Try.func21, Try.ntmps21
      go_wp2_with fail
      refine HB.out.mono ?_
      rintro e w1 ⟨rfl, hb1⟩
      have HB := Lib.hid hb1
      clear hb1
      go_wp2
      go_ret
      exact HP.out _ HB.out
    · rw [if_neg (by omega), if_neg (by omega)] at HP
      have HP := Lib.hid HP
      go_enter Try.func21, Try.ntmps21
      go_wp2_with fail
      refine HB.out.mono ?_
      rintro e w1 ⟨rfl, hb1⟩
      have HB := Lib.hid hb1
      clear hb1
      go_wp2
      go_ret
      exact HP.out _ HB.out
  · by_cases c : v ≤ lo
    · rw [if_neg (by omega), if_pos (by omega)] at HP
      have HP := Lib.hid HP
      go_enter Try.func21, Try.ntmps21
      go_wp2_with fail
      refine HB.out.mono ?_
      rintro e w1 ⟨rfl, hb1⟩
      have HB := Lib.hid hb1
      clear hb1
      go_wp2
      go_ret
      exact HP.out _ HB.out
    · rw [if_neg (by omega), if_neg (by omega)] at HP
      have HP := Lib.hid HP
      go_enter Try.func21, Try.ntmps21
      go_wp2_with fail
      refine HB.out.mono ?_
      rintro e w1 ⟨rfl, hb1⟩
      have HB := Lib.hid hb1
      clear hb1
      go_wp2
      go_ret
      exact HP.out _ HB.out
end Go.Proofs.Ytmlmohcghoelkaa

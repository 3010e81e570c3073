import Derived.Test.YtcjkfchjcealbaaGreatT45
import Derived.Test.YtcjkfchjcealbaaGreatT46
namespace Go.Proofs.YtcjkfchjcealbaaGreat
open Go.RowKit SM
set_option maxHeartbeats 1000000 in
theorem rfloor_any (n : Int) (w : World) : Calls Tryz.prog 72 #[.int .i64 n] w (ExPost (lob n) (exa (red n)) w) := by
  have HE := exact_any n
  cases hx : exa (red n)
  · obtain ⟨q1, q2, _⟩ := quickV_floor n hx
    have HQ := Lib.hid (quickV_any n)
    rw [hx] at HE
    have HE := Lib.hid HE
    have hl := lob_hib n
    generalize quickV n = v at *
    generalize lob n = l at *
    generalize hib n = u at *
    have e1 : (v - 256) / 4294967296 = l := by omega
    have e2 : (v + 256) / 4294967296 = l := by omega
    have e3 : v / 4294967296 = l := by omega
    clear hx
    go_enter Tryz.func72, Tryz.ntmps72
    go_wp2_with fail
    refine (HE.out _).mono ?_
    rintro e w1 ⟨rfl, hb⟩
    have HB := Lib.hid hb
    clear hb
    go_wp2_with fail
    refine (HQ.out _).mono ?_
    rintro e w2 ⟨rfl, rfl⟩
    go_wp2
    go_ret2
    exact ⟨rfl, HB.out⟩
  · rw [hx] at HE
    simp only [reduceIte] at HE
    have HE := Lib.hid HE
    clear hx
    generalize lob n = l at *
    go_enter Tryz.func72, Tryz.ntmps72
    go_wp2_with fail
    refine (HE.out _).mono ?_
    rintro e w1 ⟨rfl, hb⟩
    have HB := Lib.hid hb
    clear hb
    go_wp2
    go_ret2
    exact ⟨rfl, HB.out⟩
theorem cmp_cases (n v : Int) : cmp n v = if exa (red n) = true ∧ lob n = v then 0 else if lob n ≥ v then 1 else -1 := by
  have h : (lob n = hib n) ↔ exa (red n) = true := by
    unfold lob hib upf
    cases exa (red n)
    · simp only [Bool.false_eq_true, reduceIte, iff_false]; split <;> omega
    · simp only [reduceIte]
  unfold cmp
  by_cases h1 : exa (red n) = true
  · by_cases h2 : lob n = v
    · rw [if_pos ⟨h.2 h1, h2.symm⟩, if_pos ⟨h1, h2⟩]
    · rw [if_neg (show ¬ (lob n = hib n ∧ v = lob n) from fun q => h2 q.2.symm), if_neg (show ¬ (exa (red n) = true ∧ lob n = v) from fun q => h2 q.2)]
  · rw [if_neg (show ¬ (lob n = hib n ∧ v = lob n) from fun q => h1 (h.1 q.1)), if_neg (show ¬ (exa (red n) = true ∧ lob n = v) from fun q => h1 q.1)]
set_option maxHeartbeats 1000000 in
theorem rbelow_any (n v : Int) (w : World) : Calls Tryz.prog 117 #[.int .i64 n, .int .i64 v] w (GPost (.int .i64 (cmp n v)) w) := by
  have hf := rfloor_any n
  rw [cmp_cases]
  generalize lob n = l at *
  generalize exa (red n) = x at *
  have HF := Lib.hid hf
  clear hf
  cases x
  · simp only [Bool.false_eq_true, false_and, reduceIte]
    by_cases h : l ≥ v
    · rw [if_pos h]
      go_enter Tryz.func117, Tryz.ntmps117
      go_wp2_with fail
      refine (HF.out _).mono ?_
      rintro e w1 ⟨rfl, hb⟩
      have HB := Lib.hid hb
      clear hb
      go_wp2
      go_ret
      exact ⟨rfl, HB.out⟩
    · rw [if_neg h]
      go_enter Tryz.func117, Tryz.ntmps117
      go_wp2_with fail
      refine (HF.out _).mono ?_
      rintro e w1 ⟨rfl, hb⟩
      have HB := Lib.hid hb
      clear hb
      go_wp2
      go_ret
      exact ⟨rfl, HB.out⟩
  · simp only [true_and]
    rcases Int.lt_trichotomy l v with h | h | h
    · rw [if_neg (by omega), if_neg (by omega)]
      go_enter Tryz.func117, Tryz.ntmps117
      go_wp2_with fail
      refine (HF.out _).mono ?_
      rintro e w1 ⟨rfl, hb⟩
      have HB := Lib.hid hb
      clear hb
      go_wp2
      go_ret
      exact ⟨rfl, HB.out⟩
    · rw [if_pos h]
      subst h
      go_enter Tryz.func117, Tryz.ntmps117
      go_wp2_with fail
      refine (HF.out _).mono ?_
      rintro e w1 ⟨rfl, hb⟩
      have HB := Lib.hid hb
      clear hb
      go_wp2
      go_ret
      exact ⟨rfl, HB.out⟩
    · rw [if_neg (by omega), if_pos (by omega)]
      go_enter Tryz.func117, Tryz.ntmps117
      go_wp2_with fail
      refine (HF.out _).mono ?_
      rintro e w1 ⟨rfl, hb⟩
      have HB := Lib.hid hb
      clear hb
      go_wp2
      go_ret
      exact ⟨rfl, HB.out⟩
end Go.Proofs.YtcjkfchjcealbaaGreat

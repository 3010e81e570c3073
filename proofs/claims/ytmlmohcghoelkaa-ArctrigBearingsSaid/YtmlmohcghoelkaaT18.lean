import Derived.Test.YtmlmohcghoelkaaT17
namespace Go.Proofs.Ytmlmohcghoelkaa
open Go.RowKit SM
theorem flo_mono {m n : Nat} (h : m ≤ n) (hn : n ≤ 5400000) : flo m ≤ flo n := by
  induction n with
  | zero => have : m = 0 := by omega
            rw [this]; exact Nat.le_refl _
  | succ n ih =>
    rcases Nat.eq_or_lt_of_le h with h1 | h1
    · rw [h1]; exact Nat.le_refl _
    · exact Nat.le_trans (ih (by omega) (by omega)) (flo_up n (by omega)).1
theorem flo_le (n : Nat) (hn : n ≤ 5400000) : flo n ≤ 1073741824 := flo_mono (n := 5400000) hn (Nat.le_refl _)
/-- An angle of the first quadrant with the same sine, but for its sign; whether the sign is other. -/
def red (n : Int) : Nat := let m := n % 21600000; if m ≤ 5400000 then m.toNat else if m ≤ 10800000 then (10800000 - m).toNat else if m ≤ 16200000 then (m - 10800000).toNat else (21600000 - m).toNat
def south (n : Int) : Bool := decide (10800000 < n % 21600000)
theorem red_le (n : Int) : red n ≤ 5400000 := by
  unfold red
  have := Int.emod_lt_of_pos n (show (0 : Int) < 21600000 by omega)
  have := Int.emod_nonneg n (show (21600000 : Int) ≠ 0 by omega)
  generalize n % 21600000 = m at *
  simp only
  split
  · omega
  · split
    · omega
    · split <;> omega
def upf (k : Nat) : Int := if exa k then (flo k : Int) else flo k + 1
def lob (n : Int) : Int := if south n then - upf (red n) else flo (red n)
def hib (n : Int) : Int := if south n then - (flo (red n) : Int) else upf (red n)
/-- What a call returns, with a world that has only grown. -/
def GPost (v : Value) (w : World) (e : Ending) (w' : World) : Prop := e = .returned v ∧ Below w.heap.size w w'
set_option maxHeartbeats 1000000 in
theorem bounds_any (n : Int) (w : World) : Calls Try.prog 43 #[.int .i64 n] w (GPost (.tuple #[.int .i64 (lob n), .int .i64 (hib n)]) w) := by
  obtain ⟨V, hV⟩ : ∃ V, V = Value.tuple #[.int .i64 (lob n), .int .i64 (hib n)] := ⟨_, rfl⟩
  have HP : ∀ w', Below w.heap.size w w' → GPost V w (.returned (.tuple #[.int .i64 (lob n), .int .i64 (hib n)])) w' := fun w' h => ⟨by rw [hV], h⟩
  rw [← hV]
  clear hV
  have H53 := Lib.hid (turned_any n)
  have hk := red_le n
  have H54 := sine_any (red n) hk
  have hf := flo_le (red n) hk
  have hu := Int.emod_lt_of_pos n (show (0 : Int) < 21600000 by omega)
  have hl := Int.emod_nonneg n (show (21600000 : Int) ≠ 0 by omega)
  unfold lob hib upf south red at HP
  unfold red at H54 hf
  generalize n % 21600000 = m at *
  simp only at HP H54 hf
  by_cases c1 : m ≤ 5400000
  · simp only [if_pos c1] at H54 hf
    simp only [if_pos c1, show ¬ 10800000 < m by omega, decide_false, Bool.false_eq_true, if_false] at HP
    have hK : (((m).toNat : Nat) : Int) = m := Int.toNat_of_nonneg (by omega)
    rw [hK] at H54
    generalize flo (m).toNat = f at *
    have H54 := Lib.hid H54
    cases he : exa (m).toNat
    · rw [he] at HP H54
      simp only [Bool.false_eq_true, if_false] at HP
      have HP := Lib.hid HP
      clear he hK
      go_enter Try.func43, Try.ntmps43
      go_wp2_with fail
      refine (H53.out _).mono ?_
      rintro e w1 ⟨rfl, rfl⟩
      go_wp2_with fail
      refine (H54.out _).mono ?_
      rintro e w1 ⟨rfl, hb1⟩
      have HB := Lib.hid hb1
      clear hb1
      go_wp2
      go_ret2
      exact HP.out _ HB.out
    · rw [he] at HP H54
      simp only [if_true] at HP
      have HP := Lib.hid HP
      clear he hK
      go_enter Try.func43, Try.ntmps43
      go_wp2_with fail
      refine (H53.out _).mono ?_
      rintro e w1 ⟨rfl, rfl⟩
      go_wp2_with fail
      refine (H54.out _).mono ?_
      rintro e w1 ⟨rfl, hb1⟩
      have HB := Lib.hid hb1
      clear hb1
      go_wp2
      go_ret2
      exact HP.out _ HB.out
  by_cases c2 : m ≤ 10800000
  · simp only [if_neg c1, if_pos c2] at H54 hf
    simp only [if_neg c1, if_pos c2, show ¬ 10800000 < m by omega, decide_false, Bool.false_eq_true, if_false] at HP
    have hK : (((10800000 - m).toNat : Nat) : Int) = 10800000 - m := Int.toNat_of_nonneg (by omega)
    rw [hK] at H54
    generalize flo (10800000 - m).toNat = f at *
    have H54 := Lib.hid H54
    cases he : exa (10800000 - m).toNat
    · rw [he] at HP H54
      simp only [Bool.false_eq_true, if_false] at HP
      have HP := Lib.hid HP
      clear he hK
      go_enter Try.func43, Try.ntmps43
      go_wp2_with fail
      refine (H53.out _).mono ?_
      rintro e w1 ⟨rfl, rfl⟩
      go_wp2_with fail
      refine (H54.out _).mono ?_
      rintro e w1 ⟨rfl, hb1⟩
      have HB := Lib.hid hb1
      clear hb1
      go_wp2
      go_ret2
      exact HP.out _ HB.out
    · rw [he] at HP H54
      simp only [if_true] at HP
      have HP := Lib.hid HP
      clear he hK
      go_enter Try.func43, Try.ntmps43
      go_wp2_with fail
      refine (H53.out _).mono ?_
      rintro e w1 ⟨rfl, rfl⟩
      go_wp2_with fail
      refine (H54.out _).mono ?_
      rintro e w1 ⟨rfl, hb1⟩
      have HB := Lib.hid hb1
      clear hb1
      go_wp2
      go_ret2
      exact HP.out _ HB.out
  by_cases c3 : m ≤ 16200000
  · simp only [if_neg c1, if_neg c2, if_pos c3] at H54 hf
    simp only [if_neg c1, if_neg c2, if_pos c3, show 10800000 < m by omega, decide_true, if_true] at HP
    have hK : (((m - 10800000).toNat : Nat) : Int) = m - 10800000 := Int.toNat_of_nonneg (by omega)
    rw [hK] at H54
    generalize flo (m - 10800000).toNat = f at *
    have H54 := Lib.hid H54
    cases he : exa (m - 10800000).toNat
    · rw [he] at HP H54
      simp only [Bool.false_eq_true, if_false] at HP
      have HP := Lib.hid HP
      clear he hK
      go_enter Try.func43, Try.ntmps43
      go_wp2_with fail
      refine (H53.out _).mono ?_
      rintro e w1 ⟨rfl, rfl⟩
      go_wp2_with fail
      refine (H54.out _).mono ?_
      rintro e w1 ⟨rfl, hb1⟩
      have HB := Lib.hid hb1
      clear hb1
      go_wp2
      go_ret2
      exact HP.out _ HB.out
    · rw [he] at HP H54
      simp only [if_true] at HP
      have HP := Lib.hid HP
      clear he hK
      go_enter Try.func43, Try.ntmps43
      go_wp2_with fail
      refine (H53.out _).mono ?_
      rintro e w1 ⟨rfl, rfl⟩
      go_wp2_with fail
      refine (H54.out _).mono ?_
      rintro e w1 ⟨rfl, hb1⟩
      have HB := Lib.hid hb1
      clear hb1
      go_wp2
      go_ret2
      exact HP.out _ HB.out
  · simp only [if_neg c1, if_neg c2, if_neg c3] at H54 hf
    simp only [if_neg c1, if_neg c2, if_neg c3, show 10800000 < m by omega, decide_true, if_true] at HP
    have hK : (((21600000 - m).toNat : Nat) : Int) = 10800000 - (m - 10800000) := by omega
    rw [hK] at H54
    generalize flo (21600000 - m).toNat = f at *
    have H54 := Lib.hid H54
    cases he : exa (21600000 - m).toNat
    · rw [he] at HP H54
      simp only [Bool.false_eq_true, if_false] at HP
      have HP := Lib.hid HP
      clear he hK
      go_enter Try.func43, Try.ntmps43
      go_wp2_with fail
      refine (H53.out _).mono ?_
      rintro e w1 ⟨rfl, rfl⟩
      go_wp2_with fail
      refine (H54.out _).mono ?_
      rintro e w1 ⟨rfl, hb1⟩
      have HB := Lib.hid hb1
      clear hb1
      go_wp2
      go_ret2
      exact HP.out _ HB.out
    · rw [he] at HP H54
      simp only [if_true] at HP
      have HP := Lib.hid HP
      clear he hK
      go_enter Try.func43, Try.ntmps43
      go_wp2_with fail
      refine (H53.out _).mono ?_
      rintro e w1 ⟨rfl, rfl⟩
      go_wp2_with fail
      refine (H54.out _).mono ?_
      rintro e w1 ⟨rfl, hb1⟩
      have HB := Lib.hid hb1
      clear hb1
      go_wp2
      go_ret2
      exact HP.out _ HB.out
end Go.Proofs.Ytmlmohcghoelkaa

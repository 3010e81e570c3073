import Derived.Test.YtcjkfchjcealbaaT15
namespace Go.Proofs.Ytcjkfchjcealbaa
open SM
/-- One times the sine, rounded down; whether it is exact; and the sine. -/
def flo (n : Nat) : Nat := if n = 0 then 0 else if n = 1800000 then 536870912 else if n = 5400000 then 1073741824 else if n ≤ 2700000 then aS n / 72057594037927936 else aC (5400000 - n) / 72057594037927936
def exa (n : Nat) : Bool := n == 0 || n == 1800000 || n == 5400000
def T (n : Nat) : Rat := if n ≤ 2700000 then tS n else tC (5400000 - n)
theorem floor_at {A : Nat} {x : Rat} (hA : Wit (G86 * x - (A : Rat)) 2) (hF : Far x) : ((A / 72057594037927936 : Nat) : Rat) * 72057594037927936 + 17000000000 ≤ G86 * x ∧ G86 * x ≤ (((A / 72057594037927936 : Nat) : Rat) + 1) * 72057594037927936 - 17000000000 := by
  obtain ⟨f, h1, h2⟩ := hF
  have e : A / 72057594037927936 = f := by
    have a1 : ((f * 72057594037927936 : Nat) : Rat) ≤ ((A : Nat) : Rat) := by
      rw [Rat.natCast_mul]
      have : ((72057594037927936 : Nat) : Rat) = 72057594037927936 := rfl
      unfold Wit at hA
      rw [this]
      grind
    have a2 : ((A : Nat) : Rat) ≤ (((f + 1) * 72057594037927936 - 1000000000: Nat) : Rat) := by
      have : (((f + 1) * 72057594037927936 - 1000000000 : Nat) : Rat) = ((f : Rat) + 1) * 72057594037927936 - 1000000000 := by
        rw [show (f + 1) * 72057594037927936 - 1000000000 = f * 72057594037927936 + 72057593037927936 by omega, Rat.natCast_add, Rat.natCast_mul]
        have : ((72057594037927936 : Nat) : Rat) = 72057594037927936 := rfl
        rw [this]
        have : ((72057593037927936 : Nat) : Rat) = 72057593037927936 := rfl
        rw [this]
        grind
      unfold Wit at hA
      rw [this]
      grind
    have b1 := Rat.natCast_le_natCast.1 a1
    have b2 := Rat.natCast_le_natCast.1 a2
    omega
  rw [e]
  exact ⟨h1, h2⟩
theorem far_num {x : Rat} {A f : Nat} (hA : Wit (G86 * x - (A : Rat)) 2) (h1 : f * 2 ^ 56 + WW ≤ A) (h2 : A + WW ≤ (f + 1) * 2 ^ 56) : Far x := by
  have e1 := Rat.natCast_le_natCast.2 h1
  have e2 := Rat.natCast_le_natCast.2 h2
  rw [Rat.natCast_add] at e2
  have cB : (BB : Rat) = 2147483648 := rfl
  unfold Wit at hA
  refine far_of ⟨f, ?_, ?_⟩
  · rw [cB]
    grind
  · rw [cB]
    grind
theorem far_mid : Far (tS 2700000) := far_num (f := 759250124) (aS_bd 2700000 (by omega)) (by decide +kernel) (by decide +kernel)
theorem gap (n : Nat) (hn : n ≤ 5400000) (hx : exa n = false) : (flo n : Rat) * 72057594037927936 + 17000000000 ≤ G86 * T n ∧ G86 * T n ≤ ((flo n : Rat) + 1) * 72057594037927936 - 17000000000 := by
  simp only [exa, Bool.or_eq_false_iff, beq_eq_false_iff_ne] at hx
  obtain ⟨⟨h0, h1⟩, h2⟩ := hx
  unfold flo T
  rw [if_neg h0, if_neg h1, if_neg h2]
  by_cases h : n ≤ 2700000
  · rw [if_pos h, if_pos h]
    refine floor_at (aS_bd n (by omega)) ?_
    rcases Nat.lt_or_ge n 2700000 with h3 | h3
    · exact farS n h3 h0 h1
    · have : n = 2700000 := by omega
      rw [this]
      exact far_mid
  · rw [if_neg h, if_neg h]
    exact floor_at (aC_bd _ (by omega)) (farC _ (by omega) (by omega))
theorem at_exact (n : Nat) (hn : n ≤ 5400000) (hx : exa n = true) : Wit (G86 * T n - (flo n : Rat) * 72057594037927936) 1000000000 := by
  simp only [exa, Bool.or_eq_true, beq_iff_eq] at hx
  rcases hx with (rfl | rfl) | rfl
  · have h := aS_bd 0 (by omega)
    have e : aS 0 ≤ 100000000 := by decide +kernel
    have e' : ((aS 0 : Nat) : Rat) ≤ ((100000000 : Nat) : Rat) := Rat.natCast_le_natCast.2 e
    have c : ((100000000 : Nat) : Rat) = 100000000 := rfl
    have z : (0 : Rat) ≤ ((aS 0 : Nat) : Rat) := by exact_mod_cast Nat.zero_le _
    have f : flo 0 = 0 := rfl
    have f' : ((0 : Nat) : Rat) = 0 := rfl
    rw [f, f']
    unfold T
    rw [if_pos (by omega)]
    unfold Wit at *
    rw [c] at e'
    constructor <;> grind
  · have h := aS_bd 1800000 (by omega)
    have e1 : 536870912 * 72057594037927936 ≤ aS 1800000 + 100000000 := by decide +kernel
    have e2 : aS 1800000 ≤ 536870912 * 72057594037927936 + 100000000 := by decide +kernel
    have g1 : ((536870912 * 72057594037927936 : Nat) : Rat) ≤ ((aS 1800000 + 100000000 : Nat) : Rat) := Rat.natCast_le_natCast.2 e1
    have g2 : ((aS 1800000 : Nat) : Rat) ≤ ((536870912 * 72057594037927936 + 100000000 : Nat) : Rat) := Rat.natCast_le_natCast.2 e2
    rw [Rat.natCast_add] at g1
    have c : ((100000000 : Nat) : Rat) = 100000000 := rfl
    have c2 : ((536870912 * 72057594037927936 : Nat) : Rat) = 536870912 * 72057594037927936 := by decide +kernel
    have c3 : ((536870912 * 72057594037927936 + 100000000 : Nat) : Rat) = 536870912 * 72057594037927936 + 100000000 := by decide +kernel
    rw [c, c2] at g1
    rw [c3] at g2
    have f : flo 1800000 = 536870912 := rfl
    have f' : ((536870912 : Nat) : Rat) = 536870912 := rfl
    rw [f, f']
    unfold T
    rw [if_pos (by omega)]
    unfold Wit at *
    constructor <;> grind
  · have h := aC_bd 0 (by omega)
    have e1 : 1073741824 * 72057594037927936 ≤ aC 0 + 100000000 := by decide +kernel
    have e2 : aC 0 ≤ 1073741824 * 72057594037927936 + 100000000 := by decide +kernel
    have g1 : ((1073741824 * 72057594037927936 : Nat) : Rat) ≤ ((aC 0 + 100000000 : Nat) : Rat) := Rat.natCast_le_natCast.2 e1
    have g2 : ((aC 0 : Nat) : Rat) ≤ ((1073741824 * 72057594037927936 + 100000000 : Nat) : Rat) := Rat.natCast_le_natCast.2 e2
    rw [Rat.natCast_add] at g1
    have c : ((100000000 : Nat) : Rat) = 100000000 := rfl
    have c2 : ((1073741824 * 72057594037927936 : Nat) : Rat) = 1073741824 * 72057594037927936 := by decide +kernel
    have c3 : ((1073741824 * 72057594037927936 + 100000000 : Nat) : Rat) = 1073741824 * 72057594037927936 + 100000000 := by decide +kernel
    rw [c, c2] at g1
    rw [c3] at g2
    have f : flo 5400000 = 1073741824 := rfl
    have f' : ((1073741824 : Nat) : Rat) = 1073741824 := rfl
    rw [f, f']
    unfold T
    rw [if_neg (by omega)]
    unfold Wit at *
    constructor <;> grind
theorem up (n : Nat) (hn : n < 5400000) : 1000000000000 ≤ G86 * (T (n + 1) - T n) := by
  unfold T
  rcases Nat.lt_or_ge n 2700000 with h | h
  · rw [if_pos (by omega), if_pos (by omega)]
    exact upS n h
  · rcases Nat.eq_or_lt_of_le h with h1 | h1
    · rw [← h1, if_neg (by omega), if_pos (by omega)]
      have a := aS_bd 2700000 (by omega)
      have b := aC_bd (5400000 - (2700000 + 1)) (by omega)
      have e : aS 2700000 + 1000000000004 ≤ aC (5400000 - (2700000 + 1)) := by decide +kernel
      have e' : ((aS 2700000 + 1000000000004 : Nat) : Rat) ≤ ((aC (5400000 - (2700000 + 1)) : Nat) : Rat) := Rat.natCast_le_natCast.2 e
      rw [Rat.natCast_add] at e'
      have c : ((1000000000004 : Nat) : Rat) = 1000000000004 := rfl
      rw [c] at e'
      unfold Wit at *
      grind
    · rw [if_neg (by omega), if_neg (by omega)]
      have := downC (5400000 - (n + 1)) (by omega)
      rw [show 5400000 - (n + 1) + 1 = 5400000 - n by omega] at this
      exact this
/-- The sine's floor grows; strictly up to an exact one. -/
theorem flo_up (n : Nat) (hn : n < 5400000) : flo n ≤ flo (n + 1) ∧ (exa (n + 1) = true → flo n < flo (n + 1)) := by
  have hu := up n hn
  have lo : (flo n : Rat) * 72057594037927936 - 1000000000 ≤ G86 * T n := by
    cases hx : exa n
    · have := gap n (by omega) hx; grind
    · have := at_exact n (by omega) hx; unfold Wit at this; grind
  cases hx : exa (n + 1)
  · have := gap (n + 1) (by omega) hx
    have h : ((flo n : Nat) : Rat) < ((flo (n + 1) + 1 : Nat) : Rat) := by
      rw [Rat.natCast_add]
      have c : ((1 : Nat) : Rat) = 1 := rfl
      rw [c]
      grind
    have := Rat.natCast_lt_natCast.1 h
    exact ⟨by omega, by intro h; cases h⟩
  · have := at_exact (n + 1) (by omega) hx
    have h : ((flo n : Nat) : Rat) < ((flo (n + 1) : Nat) : Rat) := by
      unfold Wit at this
      grind
    have := Rat.natCast_lt_natCast.1 h
    exact ⟨by omega, fun _ => this⟩
end Go.Proofs.Ytcjkfchjcealbaa

/-
  Where fixed.root's loop stands. No program here.
-/
import Derived.Test.YtipjnfabodfkcaaGreatDoorSq
namespace Go.Proofs.YtipjnfabodfkcaaGreatDoor
def FS (n k b : Nat) : Prop := (b = 0 ∧ k * k ≤ n ∧ n < (k + 1) * (k + 1)) ∨ ∃ j, j ≤ 31 ∧ b = 2 ^ j ∧ k + 2 ^ (j + 1) ≤ 4294967296 ∧ k * k ≤ n ∧ n < (k + 2 ^ (j + 1)) * (k + 2 ^ (j + 1))
theorem fs_start {n : Nat} (hn : n ≤ 2305843009213693952) : FS n 0 2147483648 := .inr ⟨31, by omega, by decide, by decide, by omega, by omega⟩
theorem fs_step {n k b : Nat} (hn : n ≤ 2305843009213693952) (h : FS n k b) (hb : 0 < b) :
    b ≤ 2147483648 ∧ k < 2147483648 ∧ k + b < 3037000499 ∧ ((k + b) * (k + b) ≤ n → FS n (k + b) (b / 2)) ∧ (¬ (k + b) * (k + b) ≤ n → FS n k (b / 2)) := by
  rcases h with ⟨h, _⟩ | ⟨j, hj, rfl, hk, h1, h2⟩
  · omega
  have hp : 2 ^ j ≤ 2 ^ 31 := Nat.pow_le_pow_right (by omega) hj
  have kb : k ≤ 1518500250 := by
    rcases Nat.lt_or_ge 1518500250 k with q | q
    · have := Nat.mul_le_mul (show 1518500251 ≤ k from q) (show 1518500251 ≤ k from q)
      omega
    · exact q
  have e : 2 ^ (j + 1) = 2 ^ j * 2 := Nat.pow_succ 2 j
  have s : k + 2 ^ j < 3037000499 := by
    rcases Nat.lt_or_ge j 31 with q | q
    · have : 2 ^ j ≤ 2 ^ 30 := Nat.pow_le_pow_right (by omega) (by omega)
      omega
    · have : j = 31 := by omega
      subst this
      omega
  refine ⟨hp, by omega, s, fun hx => ?_, fun hx => ?_⟩
  · cases j with
    | zero =>
      refine .inl ⟨rfl, hx, ?_⟩
      have : k + 2 ^ 0 + 1 = k + 2 ^ (0 + 1) := by omega
      rw [this]
      exact h2
    | succ i =>
      refine .inr ⟨i, by omega, by rw [Nat.pow_succ]; omega, by omega, hx, ?_⟩
      have : k + 2 ^ (i + 1) + 2 ^ (i + 1) = k + 2 ^ (i + 1 + 1) := by omega
      rw [this]
      exact h2
  · cases j with
    | zero =>
      refine .inl ⟨rfl, h1, ?_⟩
      simpa using hx
    | succ i =>
      refine .inr ⟨i, by omega, by rw [Nat.pow_succ]; omega, by omega, h1, by omega⟩
theorem fs_end {n k : Nat} (hn : n ≤ 2305843009213693952) (h : FS n k 0) : (k : Int) = irt (n : Int) := by
  have g : k * k ≤ n ∧ n < (k + 1) * (k + 1) := by
    rcases h with ⟨_, h1, h2⟩ | ⟨j, _, h, _⟩
    · exact ⟨h1, h2⟩
    · have := Nat.two_pow_pos j
      omega
  have o := sbs_ok n 32 0 4294967296 (by omega) (by decide) (by omega) (by omega)
  unfold irt
  rw [Int.toNat_natCast]
  generalize sbs n 32 0 4294967296 = r at *
  rcases Nat.lt_trichotomy k r with q | q | q
  · have := Nat.mul_le_mul (show k + 1 ≤ r from q) (show k + 1 ≤ r from q)
    omega
  · rw [q]
  · have := Nat.mul_le_mul (show r + 1 ≤ k from q) (show r + 1 ≤ k from q)
    omega
end Go.Proofs.YtipjnfabodfkcaaGreatDoor

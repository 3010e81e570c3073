/-
  The reference's quick sine: how far it is from the sine's polynomial. No program here.
-/
import Derived.Test.YtmididlfnajhiaaGreatDoorMb
namespace Go.Proofs.YtmididlfnajhiaaGreatDoor
namespace SM
def tl (o : Nat) (Y : Rat) : Nat → Nat → Rat
  | _, 0 => 1
  | k, n + 1 => 1 - 1 / (((2 * k + 1 + o) * (2 * k + 2 + o) : Nat) : Rat) * (Y * tl o Y (k + 1) n)
theorem hR_tl (o : Nat) (Y : Rat) : ∀ k n, 1 - hR o Y k (1 - tl o Y k n) = tl o Y 0 (k + n)
  | 0, n => by unfold hR; rw [Nat.zero_add]; grind
  | k + 1, n => by
    have ih := hR_tl o Y k (n + 1)
    unfold hR
    have e : (1 : Rat) - (1 - tl o Y (k + 1) n) = tl o Y (k + 1) n := by grind
    rw [e]
    have e2 : 1 / (((2 * k + 1 + o) * (2 * k + 2 + o) : Nat) : Rat) * (Y * tl o Y (k + 1) n) = 1 - tl o Y k (n + 1) := by rw [tl]; grind
    rw [e2, ih, show k + 1 + n = k + (n + 1) by omega]
theorem tl_bd (o : Nat) (Y : Rat) (hY : 0 ≤ Y ∧ Y ≤ 1) : ∀ n k, 0 ≤ tl o Y k n ∧ tl o Y k n ≤ 1
  | 0, k => by unfold tl; constructor <;> grind
  | n + 1, k => by
    have ih := tl_bd o Y hY n (k + 1)
    have hd : 2 ≤ (2 * k + 1 + o) * (2 * k + 2 + o) := by
      have : 1 * 2 ≤ (2 * k + 1 + o) * (2 * k + 2 + o) := Nat.mul_le_mul (by omega) (by omega)
      omega
    have i1 := inv_le_half hd
    have i0 := inv_nonneg' (((2 * k + 1 + o) * (2 * k + 2 + o) : Nat) : Rat) (by exact_mod_cast Nat.zero_le _)
    have y0 := Rat.mul_nonneg hY.1 ih.1
    have y1 : Y * tl o Y (k + 1) n ≤ 1 := by
      have := Rat.mul_le_mul_of_nonneg_left ih.2 hY.1
      grind
    have s0 := Rat.mul_nonneg i0 y0
    have s1 := Rat.mul_le_mul_of_nonneg_left y1 i0
    unfold tl
    constructor <;> grind
def high (a b : Int) : Int := a / 2147483648 * (b / 2147483648) + a / 2147483648 * (b % 2147483648) / 2147483648 + a % 2147483648 * (b / 2147483648) / 2147483648
def taub (o : Nat) : Nat → Rat
  | 0 => 1
  | k + 1 => 7 / 10 * (1 / (((2 * k + 1 + o) * (2 * k + 2 + o) : Nat) : Rat)) * taub o k
theorem taub0 : 4611686018427387904 * taub 0 10 ≤ 1 := by decide +kernel
theorem taub1 : 4611686018427387904 * taub 1 10 ≤ 1 := by decide +kernel
theorem dk_ge (o k : Nat) : 2 ≤ (2 * k + 1 + o) * (2 * k + 2 + o) := by
  have : 1 * 2 ≤ (2 * k + 1 + o) * (2 * k + 2 + o) := Nat.mul_le_mul (by omega) (by omega)
  omega
theorem tau_step {o k : Nat} {Y τ : Rat} (hY : 0 ≤ Y ∧ Y ≤ 7 / 10) (hτ : 0 ≤ τ) (h : τ ≤ taub o k) : 1 / (((2 * k + 1 + o) * (2 * k + 2 + o) : Nat) : Rat) * (Y * τ) ≤ taub o (k + 1) := by
  have i0 := inv_nonneg' (((2 * k + 1 + o) * (2 * k + 2 + o) : Nat) : Rat) (by exact_mod_cast Nat.zero_le _)
  have a1 := Rat.mul_le_mul_of_nonneg_left h hY.1
  have a2 := Rat.mul_le_mul_of_nonneg_right hY.2 (show 0 ≤ taub o k by grind)
  have a3 := Rat.mul_le_mul_of_nonneg_left (show Y * τ ≤ 7 / 10 * taub o k by grind) i0
  unfold taub
  generalize 1 / (((2 * k + 1 + o) * (2 * k + 2 + o) : Nat) : Rat) = i at *
  grind
end SM
end Go.Proofs.YtmididlfnajhiaaGreatDoor

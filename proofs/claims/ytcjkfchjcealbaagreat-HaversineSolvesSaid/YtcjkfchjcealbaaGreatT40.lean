import Derived.Test.YtcjkfchjcealbaaGreatT5
import Derived.Test.YtcjkfchjcealbaaGreatMc
namespace Go.Proofs.YtcjkfchjcealbaaGreat
open Go.RowKit SM
theorem prod31 {a b : Int} (ha : 0 ≤ a) (ha2 : a ≤ 2147483648) (hb : 0 ≤ b) (hb2 : b ≤ 2147483648) : 0 ≤ a * b ∧ a * b ≤ 4611686018427387904 :=
  ⟨Int.mul_nonneg ha hb, by have := Int.mul_le_mul ha2 hb2 hb (by decide); omega⟩
theorem mask31 (a : Int) (h0 : 0 ≤ a) (h1 : a < 9223372036854775808) : bits .and .i64 a 2147483647 = a % 2147483648 := by
  obtain ⟨n, rfl⟩ := Int.eq_ofNat_of_zero_le h0
  have hx : n &&& 2147483647 < 2 ^ 64 := Nat.and_lt_two_pow _ (by omega)
  have h1 : (BitVec.ofInt 64 (n : Int)).toNat = n := by
    rw [BitVec.ofInt_natCast, BitVec.toNat_ofNat]; exact Nat.mod_eq_of_lt (by omega)
  have h2 : (BitVec.ofInt 64 (2147483647 : Int)).toNat = 2147483647 := by decide
  show IntKind.i64.wrap ((BitVec.ofInt 64 (n : Int) &&& BitVec.ofInt 64 (2147483647 : Int)).toNat : Int) = _
  have e : n &&& 2147483647 = n % 2147483648 := Nat.and_two_pow_sub_one_eq_mod n 31
  rw [BitVec.toNat_and, h1, h2, e, IntKind.wrap_i64]
  omega
theorem high_any (a b : Int) (ha : 0 ≤ a) (ha2 : a ≤ 4611686018427387904) (hb : 0 ≤ b) (hb2 : b ≤ 4611686018427387904) (w : World) : Calls Tryz.prog 122 #[.int .i64 a, .int .i64 b] w (IntPost (high a b) w) := by
  have HP : ∀ z, z = high a b → IntPost (high a b) w (.returned (.int .i64 z)) w := fun z h => ⟨by rw [h], rfl⟩
  have HP := Lib.hid HP
  have e1 := mask31 a ha (by omega)
  have e2 := mask31 b hb (by omega)
  have p1 := prod31 (a := a / 2147483648) (b := b / 2147483648) (by omega) (by omega) (by omega) (by omega)
  have p2 := prod31 (a := a / 2147483648) (b := b % 2147483648) (by omega) (by omega) (by omega) (by omega)
  have p3 := prod31 (a := a % 2147483648) (b := b / 2147483648) (by omega) (by omega) (by omega) (by omega)
  have hb3 := high_bd a b ha hb
  have hh : high a b ≤ 4611686018427387904 := by
    have := Int.mul_le_mul ha2 hb2 hb (by decide)
    omega
  have w1 : IntKind.i64.wrap (a / 2147483648 * (b / 2147483648)) = a / 2147483648 * (b / 2147483648) := IntWalk.i64_in _ (by omega)
  have w2 : IntKind.i64.wrap (a / 2147483648 * (b % 2147483648)) = a / 2147483648 * (b % 2147483648) := IntWalk.i64_in _ (by omega)
  have w3 : IntKind.i64.wrap (a % 2147483648 * (b / 2147483648)) = a % 2147483648 * (b / 2147483648) := IntWalk.i64_in _ (by omega)
  have w4 : IntKind.i64.wrap (a / 2147483648 * (b / 2147483648) + a / 2147483648 * (b % 2147483648) / 2147483648) = a / 2147483648 * (b / 2147483648) + a / 2147483648 * (b % 2147483648) / 2147483648 := IntWalk.i64_in _ (by omega)
  have w5 : IntKind.i64.wrap (a / 2147483648 * (b / 2147483648) + a / 2147483648 * (b % 2147483648) / 2147483648 + a % 2147483648 * (b / 2147483648) / 2147483648) = a / 2147483648 * (b / 2147483648) + a / 2147483648 * (b % 2147483648) / 2147483648 + a % 2147483648 * (b / 2147483648) / 2147483648 := IntWalk.i64_in _ (by unfold high at hh hb3; omega)
  clear hb3 hh p1 p2 p3
  go_enter Tryz.func122, Tryz.ntmps122
  go_wp2
  go_ret
  exact HP.out _ rfl
end Go.Proofs.YtcjkfchjcealbaaGreat

import Derived.Test.YtcjkfchjcealbaaGreatT2
namespace Go.Proofs.YtcjkfchjcealbaaGreat
open Go.RowKit
/-- A call that answers some integer of moderate size. -/
def RoughPost (w : World) (e : Ending) (w' : World) : Prop := ∃ r : Int, -4294967296 ≤ r ∧ r ≤ 4294967296 ∧ e = .returned (.int .i64 r) ∧ w = w'
theorem prod_bd {a b A B : Int} (ha : 0 ≤ a) (ha2 : a ≤ A) (hb : 0 ≤ b) (hb2 : b ≤ B) : 0 ≤ a * b ∧ a * b ≤ A * B :=
  ⟨Int.mul_nonneg ha hb, Int.mul_le_mul ha2 hb2 hb (by omega)⟩
def kInt : Value → Int | .int _ x => x | _ => 0
set_option maxHeartbeats 1000000 in
theorem rough_pos (n : Int) (h0 : 0 ≤ n) (h1 : n ≤ 5400000) (w : World) : Calls Tryz.prog 128 #[.int .i64 n] w (RoughPost w) := by
  obtain ⟨x, hx, x0, x1⟩ : ∃ x, n * 3373259426 / 10800000 = x ∧ 0 ≤ x ∧ x ≤ 1686629713 := ⟨_, rfl, by omega, by omega⟩
  obtain ⟨p, hp, p0, p1⟩ : ∃ p, x * x = p ∧ 0 ≤ p ∧ p ≤ 2844719788774462369 := ⟨_, rfl, (prod_bd x0 x1 x0 x1).1, by have := (prod_bd x0 x1 x0 x1).2; omega⟩
  have HP : ∀ r : Int, -4294967296 ≤ r → r ≤ 4294967296 → RoughPost w (.returned (.int .i64 r)) w := fun r a b => ⟨r, a, b, rfl, rfl⟩
  have HP := Lib.hid HP
  go_enter Tryz.func128, Tryz.ntmps128
  go_wp2_with fail
  clear hp
  generalize hy : p / 1073741824 = y
  have y0 : 0 ≤ y := by omega
  have y1 : y ≤ 2649351757 := by omega
  clear hy p0 p1
  go_loop [5, 6] (fun t k => ∃ T K : Int, t = .int .i64 T ∧ k = .int .i64 K ∧ 0 ≤ T ∧ T ≤ 1073741824 ∧ 1 ≤ K ∧ K ≤ 13 ∧ K % 2 = 1) (fun _ k => (kInt k).toNat)
  case atStart => exact ⟨_, _, rfl, rfl, by omega, by omega, by omega, by omega, by omega⟩
  case round =>
    obtain ⟨T, K, rfl, rfl, t0, t1, k0, k1, k2⟩ := hrel
    by_cases hk : 1 < K
    · obtain ⟨q, hq, q0, q1⟩ : ∃ q, y * T = q ∧ 0 ≤ q ∧ q ≤ 2844719787978784768 := ⟨_, rfl, (prod_bd y0 y1 t0 t1).1, by have := (prod_bd y0 y1 t0 t1).2; omega⟩
      obtain ⟨d, hd, d0, d1⟩ : ∃ d, K * (K - 1) = d ∧ 6 ≤ d ∧ d ≤ 156 := ⟨_, rfl, by have := (prod_bd (a := 3) (A := K) (b := 2) (B := K - 1) (by omega) (by omega) (by omega) (by omega)).2; omega, by have := (prod_bd (a := K) (A := 13) (b := K - 1) (B := 12) (by omega) (by omega) (by omega) (by omega)).2; omega⟩
      obtain ⟨u, hu, u0, u1⟩ : ∃ u, (q / 1073741824).tdiv d = u ∧ 0 ≤ u ∧ u ≤ 1073741824 := by
        refine ⟨_, rfl, ?_, ?_⟩
        · rw [Int.tdiv_eq_ediv_of_nonneg (by omega)]; exact Int.ediv_nonneg (by omega) (by omega)
        · rw [Int.tdiv_eq_ediv_of_nonneg (by omega)]
          have a := Int.ediv_mul_le (q / 1073741824) (show d ≠ 0 by omega)
          have b := Int.ediv_nonneg (a := q / 1073741824) (b := d) (by omega) (by omega)
          have c := Int.mul_le_mul_of_nonneg_left d0 b
          generalize q / 1073741824 / d = e at *
          omega
      go_wp2
      go_round
      case rel => exact ⟨1073741824 - u, K - 2, rfl, rfl, by omega, by omega, by omega, by omega, by omega⟩
      case measure => simp [kInt]; omega
    · obtain ⟨z, hz, z0, z1⟩ : ∃ z, x * T = z ∧ 0 ≤ z ∧ z ≤ 1811004954867040256 := ⟨_, rfl, (prod_bd x0 x1 t0 t1).1, by have := (prod_bd x0 x1 t0 t1).2; omega⟩
      go_wp2
      go_ret
      exact HP.out _ (by omega) (by omega)
theorem rough_any (n : Int) (h0 : -5400000 ≤ n) (h1 : n ≤ 5400000) (w : World) : Calls Tryz.prog 128 #[.int .i64 n] w (RoughPost w) := by
  by_cases h : 0 ≤ n
  · exact rough_pos n h h1 w
  · have H := Lib.hid (rough_pos (-n) (by omega) (by omega) w)
    have HP : ∀ r : Int, -4294967296 ≤ r → r ≤ 4294967296 → RoughPost w (.returned (.int .i64 r)) w := fun r a b => ⟨r, a, b, rfl, rfl⟩
    have HP := Lib.hid HP
    go_enter Tryz.func128, Tryz.ntmps128
    go_wp2_with fail
    first
      | rw [show (0 - n) = -n by omega]
      | skip
    refine H.out.mono ?_
    rintro e w1 ⟨r, r0, r1, rfl, rfl⟩
    go_wp2
    go_ret
    exact HP.out _ (by omega) (by omega)
end Go.Proofs.YtcjkfchjcealbaaGreat

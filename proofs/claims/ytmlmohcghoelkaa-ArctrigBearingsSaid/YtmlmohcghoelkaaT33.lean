import Derived.Test.YtmlmohcghoelkaaT32
namespace Go.Proofs.Ytmlmohcghoelkaa
open Go.RowKit
/-- A point, turned back by right angles. -/
def rot (x y : Int) : Nat → Int × Int
  | 0 => (x, y)
  | j + 1 => ((rot x y j).2, - (rot x y j).1)
/-- The quadrant of a point. -/
def qr (x y : Int) : Nat := if 0 < x ∧ 0 ≤ y then 0 else if 0 < y ∧ x ≤ 0 then 1 else if x < 0 ∧ y ≤ 0 then 2 else 3
theorem rot_bd (x y : Int) (hx : -2147483648 ≤ x ∧ x ≤ 2147483648) (hy : -2147483648 ≤ y ∧ y ≤ 2147483648) : ∀ j, (-2147483648 ≤ (rot x y j).1 ∧ (rot x y j).1 ≤ 2147483648) ∧ (-2147483648 ≤ (rot x y j).2 ∧ (rot x y j).2 ≤ 2147483648)
  | 0 => ⟨hx, hy⟩
  | j + 1 => by
    have := rot_bd x y hx hy j
    simp only [rot]
    omega
theorem qr_le (x y : Int) : qr x y ≤ 3 := by
  unfold qr
  split
  · omega
  · split
    · omega
    · split <;> omega
theorem qr_not (x y : Int) (j : Nat) (h : j < qr x y) : ¬ (0 < (rot x y j).1 ∧ 0 ≤ (rot x y j).2) := by
  unfold qr at h
  split at h
  · omega
  · split at h
    · obtain rfl : j = 0 := by omega
      simp only [rot]; omega
    · split at h
      · rcases (show j = 0 ∨ j = 1 by omega) with rfl | rfl <;> simp only [rot] <;> omega
      · rcases (show j = 0 ∨ j = 1 ∨ j = 2 by omega) with rfl | rfl | rfl <;> simp only [rot] <;> omega
theorem qr_at (x y : Int) (h : ¬ (x = 0 ∧ y = 0)) : 0 < (rot x y (qr x y)).1 ∧ 0 ≤ (rot x y (qr x y)).2 := by
  unfold qr
  split
  · simp only [rot]; omega
  · split
    · simp only [rot]; omega
    · split
      · simp only [rot]; omega
      · simp only [rot]; omega
/-- A search by halves. -/
def srch (f : Nat → Bool) : Nat → Nat → Nat → Nat
  | 0, low, _ => low
  | n + 1, low, high => if high - low ≤ 1 then low else if f ((low + high) / 2) then srch f n ((low + high) / 2) high else srch f n low ((low + high) / 2)
def low1 (x y : Int) : Nat := srch (reaB (rot x y (qr x y)).1.toNat (rot x y (qr x y)).2.toNat) 23 0 5400000
def angF (x y : Int) : Int := 5400000 * (qr x y : Int) + (low1 x y : Int)
def excF (x y : Int) : Bool := (low1 x y == 0 && (rot x y (qr x y)).2 == 0) || (low1 x y == 2700000 && (rot x y (qr x y)).1 == (rot x y (qr x y)).2)
theorem mul_bd {x v : Int} (hx : -2147483648 ≤ x ∧ x ≤ 2147483648) (hv : -2147483648 ≤ v ∧ v ≤ 2147483648) : -4611686018427387904 ≤ x * v ∧ x * v ≤ 4611686018427387904 := by
  have h1 := Int.mul_nonneg (show 0 ≤ 2147483648 - x by omega) (show 0 ≤ 2147483648 - v by omega)
  have h2 := Int.mul_nonneg (show 0 ≤ 2147483648 + x by omega) (show 0 ≤ 2147483648 + v by omega)
  have h3 := Int.mul_nonneg (show 0 ≤ 2147483648 - x by omega) (show 0 ≤ 2147483648 + v by omega)
  have h4 := Int.mul_nonneg (show 0 ≤ 2147483648 + x by omega) (show 0 ≤ 2147483648 - v by omega)
  rw [Int.sub_mul, Int.mul_sub, Int.mul_sub] at h1
  rw [Int.add_mul, Int.mul_add, Int.mul_add] at h2
  rw [Int.sub_mul, Int.mul_add, Int.mul_add] at h3
  rw [Int.add_mul, Int.mul_sub, Int.mul_sub] at h4
  generalize x * v = P at *
  omega
theorem before_any (x y u v : Int) (hx : -2147483648 ≤ x ∧ x ≤ 2147483648) (hy : -2147483648 ≤ y ∧ y ≤ 2147483648) (hu : -2147483648 ≤ u ∧ u ≤ 2147483648) (hv : -2147483648 ≤ v ∧ v ≤ 2147483648) (w : World) :
    Calls Try.prog 38 #[pairV x y, pairV u v] w (GPost (.bool (decide (y * u ≤ x * v))) w) := by
  have HB := Lib.hid (((Below.refl w.heap.size w).alloc (Nat.le_refl _) (.cells #[.int .i64 x, .int .i64 y] 53)).alloc (by simp) (.cells #[.int .i64 u, .int .i64 v] 53))
  have b1 := mul_bd hx hv
  have b2 := mul_bd hy hu
  have w1 : IntKind.i64.wrap (x * v) = x * v := IntWalk.i64_in _ (by omega)
  have w2 : IntKind.i64.wrap (y * u) = y * u := IntWalk.i64_in _ (by omega)
  unfold pairV
  go_enter Try.func38, Try.ntmps38
  go_wp2
  go_ret
  exact ⟨rfl, HB.out⟩
end Go.Proofs.Ytmlmohcghoelkaa

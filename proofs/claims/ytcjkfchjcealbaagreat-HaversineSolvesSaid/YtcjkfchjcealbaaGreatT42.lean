import Derived.Test.YtcjkfchjcealbaaGreatT41
namespace Go.Proofs.YtcjkfchjcealbaaGreat
open Go.RowKit
def GuessPost (w : World) (e : Ending) (w' : World) : Prop := ∃ r : Int, -5400000 ≤ r ∧ r ≤ 5400000 ∧ e = .returned (.int .i64 r) ∧ w = w'
set_option maxHeartbeats 1000000 in
theorem guess_any (v : Int) (w : World) : Calls Tryz.prog 116 #[.int .i64 v] w (GuessPost w) := by
  have HP : ∀ r : Int, -5400000 ≤ r → r ≤ 5400000 → GuessPost w (.returned (.int .i64 r)) w := fun r a b => ⟨r, a, b, rfl, rfl⟩
  have HP := Lib.hid HP
  have HR := Lib.hid rough_any
  go_enter Tryz.func116, Tryz.ntmps116
  go_wp2_with fail
  go_loop [3, 4] (fun l h => ∃ L H : Int, l = .int .i64 L ∧ h = .int .i64 H ∧ -5400000 ≤ L ∧ L ≤ H ∧ H ≤ 5400000) (fun l h => (kInt h - kInt l).toNat)
  case atStart => exact ⟨_, _, rfl, rfl, by omega, by omega, by omega⟩
  case round =>
    obtain ⟨L, H, rfl, rfl, t0, t1, k0⟩ := hrel
    by_cases hk : L < H
    · obtain ⟨m, hm, m0, m1⟩ : ∃ m, L + (H - L + 1) / 2 = m ∧ L < m ∧ m ≤ H := ⟨_, rfl, by omega, by omega⟩
      have HR := Lib.hid (HR.out m (by omega) (by omega) w)
      go_wp2_with fail
      refine HR.out.mono ?_
      rintro e w1 ⟨r, r0, r1, rfl, rfl⟩
      clear HR
      by_cases hc : r ≤ v
      · go_wp2
        go_round
        case rel => exact ⟨m, H, rfl, rfl, by omega, by omega, by omega⟩
        case measure => simp [kInt]; omega
      · go_wp2
        go_round
        case rel => exact ⟨L, m - 1, rfl, rfl, by omega, by omega, by omega⟩
        case measure => simp [kInt]; omega
    · go_wp2
      go_ret
      exact HP.out _ (by omega) (by omega)
end Go.Proofs.YtcjkfchjcealbaaGreat

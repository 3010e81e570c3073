import Derived.Test.YtmlmohcghoelkaaChecked
import Derived.Test.YtmlmohcghoelkaaMa
import Derived.WalkKit
import Derived.Lib.Hide
import Derived.Below
import Derived.IntWalk
import Derived.Outline
import Derived.Shelf.Spec.BitsCarry
import Derived.Deep.RegionWith
import Derived.RegionTactic
namespace Go.Proofs.Ytmlmohcghoelkaa
open Go.RowKit

def IntPost (x : Int) (w : World) (e : Ending) (w' : World) : Prop := e = .returned (.int .i64 x) ∧ w = w'
def Int2Post (x y : Int) (w : World) (e : Ending) (w' : World) : Prop := e = .returned (.tuple #[.int .i64 x, .int .i64 y]) ∧ w = w'

theorem tmod_turn (n : Int) : (0 ≤ n.tmod 21600000 → n.tmod 21600000 = n % 21600000) ∧ (n.tmod 21600000 < 0 → n.tmod 21600000 + 21600000 = n % 21600000) ∧ -21600000 < n.tmod 21600000 ∧ n.tmod 21600000 < 21600000 := by
  have h1 := Int.tmod_lt_of_pos n (show (0 : Int) < 21600000 by omega)
  have h2 := Int.lt_tmod_of_pos n (show (0 : Int) < 21600000 by omega)
  have h3 := Int.mul_tdiv_add_tmod n 21600000
  refine ⟨fun h => ?_, fun h => ?_, h2, h1⟩
  · omega
  · omega

set_option maxHeartbeats 400000 in
theorem turned_any (n : Int) (w : World) : Calls Try.prog 53 #[.int .i64 n] w (IntPost (n % 21600000) w) := by
  obtain ⟨k1, k2, k3, k4⟩ := tmod_turn n
  generalize hm : n.tmod 21600000 = m at *
  by_cases hneg : m < 0
  · have HF := Lib.hid (show IntPost (n % 21600000) w (.returned (.int .i64 (m + 21600000))) w from ⟨by rw [k2 hneg], rfl⟩)
    clear k1 k2
    go_enter Try.func53, Try.ntmps53
    go_wp2
    go_ret
    exact HF.out
  · have HF := Lib.hid (show IntPost (n % 21600000) w (.returned (.int .i64 m)) w from ⟨by rw [k1 (by omega)], rfl⟩)
    clear k1 k2
    go_enter Try.func53, Try.ntmps53
    go_wp2
    go_ret
    exact HF.out
end Go.Proofs.Ytmlmohcghoelkaa
namespace Go.Proofs.Ytmlmohcghoelkaa
open Go.RowKit

def m64 : Int := 18446744073709551616
def subV (x y b : Int) : Int := (x + 18446744073709551616 - y - b) % 18446744073709551616
def subB (x y b : Int) : Int := if x < y + b then 1 else 0
theorem sub64_run (x y b : Int) (hx : 0 ≤ x) (hy : 0 ≤ y ∧ y ≤ 18446744073709551616) (hb : 0 ≤ b ∧ b ≤ 1) (hyb : y + b ≤ x + 18446744073709551616) (w : World) :
    (callFunc 89 #[.int .u64 x, .int .u64 y, .int .u64 b]).run Try.prog w = .ok (.value (.tuple #[.int .u64 (subV x y b), .int .u64 (subB x y b)])) w := by
  obtain ⟨X, rfl⟩ := Int.eq_ofNat_of_zero_le hx
  obtain ⟨Y, rfl⟩ := Int.eq_ofNat_of_zero_le hy.1
  obtain ⟨B, rfl⟩ := Int.eq_ofNat_of_zero_le hb.1
  rw [run_callFunc_extern Try.func89 (by kernel_rfl) (by kernel_rfl) (by kernel_rfl) (e := sub64Entry) (by kernel_rfl), run_sub64 X Y B (by omega)]
  simp only [Result.andThen, subV, subB]
  have e1 : (((X + 18446744073709551616 - Y - B) % 18446744073709551616 : Nat) : Int) = ((X : Int) + 18446744073709551616 - (Y : Int) - (B : Int)) % 18446744073709551616 := by omega
  have e2 : ((if X < Y + B then 1 else 0 : Nat) : Int) = if (X : Int) < (Y : Int) + (B : Int) then 1 else 0 := by
    by_cases h : X < Y + B
    · rw [if_pos h, if_pos (by omega)]; rfl
    · rw [if_neg h, if_neg (by omega)]; rfl
  rw [e1, e2]
theorem add64_run (x y c : Int) (hx : 0 ≤ x) (hy : 0 ≤ y) (hc : 0 ≤ c ∧ c ≤ 1) (w : World) :
    (callFunc 84 #[.int .u64 x, .int .u64 y, .int .u64 c]).run Try.prog w = .ok (.value (.tuple #[.int .u64 ((x + y + c) % 18446744073709551616), .int .u64 ((x + y + c) / 18446744073709551616)])) w := by
  rw [run_callFunc_extern Try.func84 (by kernel_rfl) (by kernel_rfl) (by kernel_rfl) (e := add64Entry) (by kernel_rfl), run_add64 x y c hx hy hc.1 hc.2]
  rfl
end Go.Proofs.Ytmlmohcghoelkaa

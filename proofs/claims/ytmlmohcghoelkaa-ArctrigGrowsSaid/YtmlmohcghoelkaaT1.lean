import Derived.Test.YtmlmohcghoelkaaChecked
import Derived.Test.YtmlmohcghoelkaaMa
import Derived.WalkKit
import Derived.Lib.Hide
import Derived.Below
import Derived.IntWalk
import Derived.Outline
namespace Go.Proofs.Ytmlmohcghoelkaa
open Go.RowKit

def IntPost (x : Int) (w : World) (e : Ending) (w' : World) : Prop := e = .returned (.int .i64 x) ∧ w = w'
def Int2Post (x y : Int) (w : World) (e : Ending) (w' : World) : Prop := e = .returned (.tuple #[.int .i64 x, .int .i64 y]) ∧ w = w'

theorem tmod_turn (n : Int) : (0 ≤ n.tmod 21600000 → n.tmod 21600000 = n % 21600000) ∧ (n.tmod 21600000 < 0 → n.tmod 21600000 + 21600000 = n % 21600000) ∧ -21600000 < n.tmod 21600000 ∧ n.tmod 21600000 < 21600000 := by
  have h1 := Int.tmod_lt_of_pos n (show (0 : Int) < 21600000 by omega)
  have h2 := Int.lt_tmod_of_pos n (show (0 : Int) < 21600000 by omega)
  have h3 := Int.mul_tdiv_add_tmod n 21600000
  refine ⟨fun h => ?_, fun h => ?_, h2, h1⟩
  · omega
  · omega

set_option maxHeartbeats 400000 in
theorem turned_any (n : Int) (w : World) : Calls Try.prog 53 #[.int .i64 n] w (IntPost (n % 21600000) w) := by
  obtain ⟨k1, k2, k3, k4⟩ := tmod_turn n
  generalize hm : n.tmod 21600000 = m at *
  by_cases hneg : m < 0
  · have HF := Lib.hid (show IntPost (n % 21600000) w (.returned (.int .i64 (m + 21600000))) w from ⟨by rw [k2 hneg], rfl⟩)
    clear k1 k2
    go_enter Try.func53, Try.ntmps53
    go_wp2
    go_ret
    exact HF.out
  · have HF := Lib.hid (show IntPost (n % 21600000) w (.returned (.int .i64 m)) w from ⟨by rw [k1 (by omega)], rfl⟩)
    clear k1 k2
    go_enter Try.func53, Try.ntmps53
    go_wp2
    go_ret
    exact HF.out
end Go.Proofs.Ytmlmohcghoelkaa

import Derived.Test.YtcjkfchjcealbaaT20
namespace Go.Proofs.Ytcjkfchjcealbaa
open Go.RowKit
/-- An interval (or an arc) as a value. -/
def pairV (lo hi : Int) : Value := .agg #[.int .i64 lo, .int .i64 hi]
def validB (lo hi : Int) : Bool := decide (-2147483648 ≤ lo ∧ lo ≤ hi ∧ hi ≤ 2147483648)
set_option maxHeartbeats 400000 in
theorem valid_any (lo hi : Int) (w : World) : Calls Try.prog 48 #[pairV lo hi] w (GPost (.bool (validB lo hi)) w) := by
  obtain ⟨V, hV⟩ : ∃ V, V = Value.bool (validB lo hi) := ⟨_, rfl⟩
  have HP : ∀ b w', validB lo hi = b → Below w.heap.size w w' → GPost V w (.returned (.bool b)) w' := fun b w' h hb => ⟨by rw [hV, h], hb⟩
  have HP := Lib.hid HP
  have HB := Lib.hid ((Below.refl w.heap.size w).alloc (Nat.le_refl _) (.cells #[.int .i64 lo, .int .i64 hi] 54))
  rw [← hV]
  clear hV
  unfold pairV
  by_cases h1 : -2147483648 ≤ lo
  · by_cases h2 : lo ≤ hi
    · by_cases h3 : hi ≤ 2147483648
      · have HF := Lib.hid (HP.out true _ (by unfold validB; rw [decide_eq_true]; omega) HB.out)
        go_enter Try.func48, Try.ntmps48
        go_wp2
        go_ret
        exact HF.out
      · have HF := Lib.hid (HP.out false _ (by unfold validB; rw [decide_eq_false]; omega) HB.out)
        go_enter Try.func48, Try.ntmps48
        go_wp2
        go_ret
        exact HF.out
    · have HF := Lib.hid (HP.out false _ (by unfold validB; rw [decide_eq_false]; omega) HB.out)
      go_enter Try.func48, Try.ntmps48
      go_wp2
      go_ret
      exact HF.out
  · have HF := Lib.hid (HP.out false _ (by unfold validB; rw [decide_eq_false]; omega) HB.out)
    go_enter Try.func48, Try.ntmps48
    go_wp2
    go_ret
    exact HF.out
def withinB (lo hi : Int) : Bool := decide (lo ≤ hi ∧ -1073741824 ≤ lo ∧ hi ≤ 1073741824)
end Go.Proofs.Ytcjkfchjcealbaa

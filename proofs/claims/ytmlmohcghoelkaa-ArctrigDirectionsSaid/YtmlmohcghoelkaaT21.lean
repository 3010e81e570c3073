import Derived.Test.YtmlmohcghoelkaaT20
namespace Go.Proofs.Ytmlmohcghoelkaa
open Go.RowKit
/-- An interval (or an arc) as a value. -/
def pairV (lo hi : Int) : Value := .agg #[.int .i64 lo, .int .i64 hi]
def validB (lo hi : Int) : Bool := decide (-2147483648 ≤ lo ∧ lo ≤ hi ∧ hi ≤ 2147483648)
set_option maxHeartbeats 400000 in
theorem valid_any (lo hi : Int) (w : World) : Calls Try.prog 33 #[pairV lo hi] w (GPost (.bool (validB lo hi)) w) := by
  obtain ⟨V, hV⟩ : ∃ V, V = Value.bool (validB lo hi) := ⟨_, rfl⟩
  have HP : ∀ b w', validB lo hi = b → Below w.heap.size w w' → GPost V w (.returned (.bool b)) w' := fun b w' h hb => ⟨by rw [hV, h], hb⟩
  have HP := Lib.hid HP
  have HB := Lib.hid ((Below.refl w.heap.size w).alloc (Nat.le_refl _) (.cells #[.int .i64 lo, .int .i64 hi] 23))
  rw [← hV]
  clear hV
  unfold pairV
  by_cases h1 : -2147483648 ≤ lo
  · by_cases h2 : lo ≤ hi
    · by_cases h3 : hi ≤ 2147483648
      · have HF := Lib.hid (HP.out true _ (by unfold validB; rw [decide_eq_true]; omega) HB.out)
        go_enter Try.func33, Try.ntmps33
        go_wp2
        go_ret
        exact HF.out
      · have HF := Lib.hid (HP.out false _ (by unfold validB; rw [decide_eq_false]; omega) HB.out)
        go_enter Try.func33, Try.ntmps33
        go_wp2
        go_ret
        exact HF.out
    · have HF := Lib.hid (HP.out false _ (by unfold validB; rw [decide_eq_false]; omega) HB.out)
      go_enter Try.func33, Try.ntmps33
      go_wp2
      go_ret
      exact HF.out
  · have HF := Lib.hid (HP.out false _ (by unfold validB; rw [decide_eq_false]; omega) HB.out)
    go_enter Try.func33, Try.ntmps33
    go_wp2
    go_ret
    exact HF.out
def withinB (lo hi : Int) : Bool := decide (lo ≤ hi ∧ -1073741824 ≤ lo ∧ hi ≤ 1073741824)
set_option maxHeartbeats 400000 in
theorem within_any (lo hi : Int) (w : World) : Calls Try.prog 20 #[pairV lo hi] w (GPost (.bool (withinB lo hi)) w) := by
  obtain ⟨V, hV⟩ : ∃ V, V = Value.bool (withinB lo hi) := ⟨_, rfl⟩
  have HP : ∀ b w', withinB lo hi = b → Below w.heap.size w w' → GPost V w (.returned (.bool b)) w' := fun b w' h hb => ⟨by rw [hV, h], hb⟩
  have HP := Lib.hid HP
  have HB := Lib.hid ((Below.refl w.heap.size w).alloc (Nat.le_refl _) (.cells #[.int .i64 lo, .int .i64 hi] 23))
  rw [← hV]
  clear hV
  unfold pairV
  by_cases h1 : lo ≤ hi
  · by_cases h2 : -1073741824 ≤ lo
    · by_cases h3 : hi ≤ 1073741824
      · have HF := Lib.hid (HP.out true _ (by unfold withinB; rw [decide_eq_true]; omega) HB.out)
        go_enter Try.func20, Try.ntmps20
        go_wp2
        go_ret
        exact HF.out
      · have HF := Lib.hid (HP.out false _ (by unfold withinB; rw [decide_eq_false]; omega) HB.out)
        go_enter Try.func20, Try.ntmps20
        go_wp2
        go_ret
        exact HF.out
    · have HF := Lib.hid (HP.out false _ (by unfold withinB; rw [decide_eq_false]; omega) HB.out)
      go_enter Try.func20, Try.ntmps20
      go_wp2
      go_ret
      exact HF.out
  · have HF := Lib.hid (HP.out false _ (by unfold withinB; rw [decide_eq_false]; omega) HB.out)
    go_enter Try.func20, Try.ntmps20
    go_wp2
    go_ret
    exact HF.out
theorem point_any (n : Int) (w : World) : Calls Try.prog 32 #[.int .i64 n] w (GPost (pairV n n) w) := by
  have HB := Lib.hid ((Below.refl w.heap.size w).alloc (Nat.le_refl _) (.cells #[.int .i64 n, .int .i64 n] 23))
  go_enter Try.func32, Try.ntmps32
  go_wp2
  refine bodyPost_ret (v := pairV n n) (by simp [results, Try.results32, go_sem, pairV]) rfl ⟨rfl, HB.out⟩
end Go.Proofs.Ytmlmohcghoelkaa

import Derived.Test.YtcjkfchjcealbaaGreatT44
import Derived.Test.YtcjkfchjcealbaaGreatT20
namespace Go.Proofs.YtcjkfchjcealbaaGreat
open Go.RowKit SM
def ExPost (x : Int) (b : Bool) (w : World) (e : Ending) (w' : World) : Prop := e = .returned (.tuple #[.int .i64 x, .bool b]) ∧ Below w.heap.size w w'
set_option maxHeartbeats 1000000 in
theorem exact_no (n m : Int) (hm : n.tmod 21600000 = m ∨ n.tmod 21600000 + 21600000 = m ∧ n.tmod 21600000 < 0) (m0 : 0 ≤ m) (m1 : m < 21600000) (h : m % 1800000 ≠ 0) (w : World) : Calls Tryz.prog 89 #[.int .i64 n] w (ExPost 0 false w) := by
  have HB := Lib.hid (Below.refl w.heap.size w)
  rcases hm with hs | ⟨hs, hs2⟩
  all_goals (
    go_enter Tryz.func89, Tryz.ntmps89
    go_wp2
    go_ret2
    exact ⟨rfl, HB.out⟩)
set_option maxHeartbeats 1000000 in
theorem exact_0 (n : Int) (hm : n.tmod 21600000 = 0 ∨ n.tmod 21600000 + 21600000 = 0 ∧ n.tmod 21600000 < 0) (w : World) : Calls Tryz.prog 89 #[.int .i64 n] w (ExPost 0 true w) := by
  rcases hm with hs | ⟨hs, hs2⟩
  all_goals (
    go_enter Tryz.func89, Tryz.ntmps89
    go_wp2
    go_ret2
    first
      | exact ⟨rfl, (Below.refl _ _).alloc (Nat.le_refl _) _⟩
      | exact ⟨rfl, ((Below.refl _ _).alloc (Nat.le_refl _) _).alloc (by simp) _⟩)
set_option maxHeartbeats 1000000 in
theorem exact_1 (n : Int) (hm : n.tmod 21600000 = 1800000 ∨ n.tmod 21600000 + 21600000 = 1800000 ∧ n.tmod 21600000 < 0) (w : World) : Calls Tryz.prog 89 #[.int .i64 n] w (ExPost 536870912 true w) := by
  rcases hm with hs | ⟨hs, hs2⟩
  all_goals (
    go_enter Tryz.func89, Tryz.ntmps89
    go_wp2
    go_ret2
    first
      | exact ⟨rfl, (Below.refl _ _).alloc (Nat.le_refl _) _⟩
      | exact ⟨rfl, ((Below.refl _ _).alloc (Nat.le_refl _) _).alloc (by simp) _⟩)
set_option maxHeartbeats 1000000 in
theorem exact_2 (n : Int) (hm : n.tmod 21600000 = 3600000 ∨ n.tmod 21600000 + 21600000 = 3600000 ∧ n.tmod 21600000 < 0) (w : World) : Calls Tryz.prog 89 #[.int .i64 n] w (ExPost 0 false w) := by
  rcases hm with hs | ⟨hs, hs2⟩
  all_goals (
    go_enter Tryz.func89, Tryz.ntmps89
    go_wp2
    go_ret2
    first
      | exact ⟨rfl, (Below.refl _ _).alloc (Nat.le_refl _) _⟩
      | exact ⟨rfl, ((Below.refl _ _).alloc (Nat.le_refl _) _).alloc (by simp) _⟩)
set_option maxHeartbeats 1000000 in
theorem exact_3 (n : Int) (hm : n.tmod 21600000 = 5400000 ∨ n.tmod 21600000 + 21600000 = 5400000 ∧ n.tmod 21600000 < 0) (w : World) : Calls Tryz.prog 89 #[.int .i64 n] w (ExPost 1073741824 true w) := by
  rcases hm with hs | ⟨hs, hs2⟩
  all_goals (
    go_enter Tryz.func89, Tryz.ntmps89
    go_wp2
    go_ret2
    first
      | exact ⟨rfl, (Below.refl _ _).alloc (Nat.le_refl _) _⟩
      | exact ⟨rfl, ((Below.refl _ _).alloc (Nat.le_refl _) _).alloc (by simp) _⟩)
set_option maxHeartbeats 1000000 in
theorem exact_4 (n : Int) (hm : n.tmod 21600000 = 7200000 ∨ n.tmod 21600000 + 21600000 = 7200000 ∧ n.tmod 21600000 < 0) (w : World) : Calls Tryz.prog 89 #[.int .i64 n] w (ExPost 0 false w) := by
  rcases hm with hs | ⟨hs, hs2⟩
  all_goals (
    go_enter Tryz.func89, Tryz.ntmps89
    go_wp2
    go_ret2
    first
      | exact ⟨rfl, (Below.refl _ _).alloc (Nat.le_refl _) _⟩
      | exact ⟨rfl, ((Below.refl _ _).alloc (Nat.le_refl _) _).alloc (by simp) _⟩)
set_option maxHeartbeats 1000000 in
theorem exact_5 (n : Int) (hm : n.tmod 21600000 = 9000000 ∨ n.tmod 21600000 + 21600000 = 9000000 ∧ n.tmod 21600000 < 0) (w : World) : Calls Tryz.prog 89 #[.int .i64 n] w (ExPost 536870912 true w) := by
  rcases hm with hs | ⟨hs, hs2⟩
  all_goals (
    go_enter Tryz.func89, Tryz.ntmps89
    go_wp2
    go_ret2
    first
      | exact ⟨rfl, (Below.refl _ _).alloc (Nat.le_refl _) _⟩
      | exact ⟨rfl, ((Below.refl _ _).alloc (Nat.le_refl _) _).alloc (by simp) _⟩)
set_option maxHeartbeats 1000000 in
theorem exact_6 (n : Int) (hm : n.tmod 21600000 = 10800000 ∨ n.tmod 21600000 + 21600000 = 10800000 ∧ n.tmod 21600000 < 0) (w : World) : Calls Tryz.prog 89 #[.int .i64 n] w (ExPost 0 true w) := by
  rcases hm with hs | ⟨hs, hs2⟩
  all_goals (
    go_enter Tryz.func89, Tryz.ntmps89
    go_wp2
    go_ret2
    first
      | exact ⟨rfl, (Below.refl _ _).alloc (Nat.le_refl _) _⟩
      | exact ⟨rfl, ((Below.refl _ _).alloc (Nat.le_refl _) _).alloc (by simp) _⟩)
set_option maxHeartbeats 1000000 in
theorem exact_7 (n : Int) (hm : n.tmod 21600000 = 12600000 ∨ n.tmod 21600000 + 21600000 = 12600000 ∧ n.tmod 21600000 < 0) (w : World) : Calls Tryz.prog 89 #[.int .i64 n] w (ExPost (-536870912) true w) := by
  rcases hm with hs | ⟨hs, hs2⟩
  all_goals (
    go_enter Tryz.func89, Tryz.ntmps89
    go_wp2
    go_ret2
    first
      | exact ⟨rfl, (Below.refl _ _).alloc (Nat.le_refl _) _⟩
      | exact ⟨rfl, ((Below.refl _ _).alloc (Nat.le_refl _) _).alloc (by simp) _⟩)
set_option maxHeartbeats 1000000 in
theorem exact_8 (n : Int) (hm : n.tmod 21600000 = 14400000 ∨ n.tmod 21600000 + 21600000 = 14400000 ∧ n.tmod 21600000 < 0) (w : World) : Calls Tryz.prog 89 #[.int .i64 n] w (ExPost 0 false w) := by
  rcases hm with hs | ⟨hs, hs2⟩
  all_goals (
    go_enter Tryz.func89, Tryz.ntmps89
    go_wp2
    go_ret2
    first
      | exact ⟨rfl, (Below.refl _ _).alloc (Nat.le_refl _) _⟩
      | exact ⟨rfl, ((Below.refl _ _).alloc (Nat.le_refl _) _).alloc (by simp) _⟩)
set_option maxHeartbeats 1000000 in
theorem exact_9 (n : Int) (hm : n.tmod 21600000 = 16200000 ∨ n.tmod 21600000 + 21600000 = 16200000 ∧ n.tmod 21600000 < 0) (w : World) : Calls Tryz.prog 89 #[.int .i64 n] w (ExPost (-1073741824) true w) := by
  rcases hm with hs | ⟨hs, hs2⟩
  all_goals (
    go_enter Tryz.func89, Tryz.ntmps89
    go_wp2
    go_ret2
    first
      | exact ⟨rfl, (Below.refl _ _).alloc (Nat.le_refl _) _⟩
      | exact ⟨rfl, ((Below.refl _ _).alloc (Nat.le_refl _) _).alloc (by simp) _⟩)
set_option maxHeartbeats 1000000 in
theorem exact_10 (n : Int) (hm : n.tmod 21600000 = 18000000 ∨ n.tmod 21600000 + 21600000 = 18000000 ∧ n.tmod 21600000 < 0) (w : World) : Calls Tryz.prog 89 #[.int .i64 n] w (ExPost 0 false w) := by
  rcases hm with hs | ⟨hs, hs2⟩
  all_goals (
    go_enter Tryz.func89, Tryz.ntmps89
    go_wp2
    go_ret2
    first
      | exact ⟨rfl, (Below.refl _ _).alloc (Nat.le_refl _) _⟩
      | exact ⟨rfl, ((Below.refl _ _).alloc (Nat.le_refl _) _).alloc (by simp) _⟩)
set_option maxHeartbeats 1000000 in
theorem exact_11 (n : Int) (hm : n.tmod 21600000 = 19800000 ∨ n.tmod 21600000 + 21600000 = 19800000 ∧ n.tmod 21600000 < 0) (w : World) : Calls Tryz.prog 89 #[.int .i64 n] w (ExPost (-536870912) true w) := by
  rcases hm with hs | ⟨hs, hs2⟩
  all_goals (
    go_enter Tryz.func89, Tryz.ntmps89
    go_wp2
    go_ret2
    first
      | exact ⟨rfl, (Below.refl _ _).alloc (Nat.le_refl _) _⟩
      | exact ⟨rfl, ((Below.refl _ _).alloc (Nat.le_refl _) _).alloc (by simp) _⟩)
theorem red_mod (n : Int) : n % 21600000 % 1800000 ≠ 0 → red n % 1800000 ≠ 0 := by
  have m0 := Int.emod_nonneg n (show (21600000 : Int) ≠ 0 by omega)
  have m1 := Int.emod_lt_of_pos n (show (0 : Int) < 21600000 by omega)
  unfold red
  generalize n % 21600000 = m at *
  simp only
  split
  · omega
  · split
    · omega
    · split <;> omega
theorem exact_any (n : Int) (w : World) : Calls Tryz.prog 89 #[.int .i64 n] w (ExPost (if exa (red n) then lob n else 0) (exa (red n)) w) := by
  have hm := turned_hm n
  have m0 := Int.emod_nonneg n (show (21600000 : Int) ≠ 0 by omega)
  have m1 := Int.emod_lt_of_pos n (show (0 : Int) < 21600000 by omega)
  by_cases h : n % 21600000 % 1800000 = 0
  · rcases (show n % 21600000 = 0 ∨ n % 21600000 = 1800000 ∨ n % 21600000 = 3600000 ∨ n % 21600000 = 5400000 ∨ n % 21600000 = 7200000 ∨ n % 21600000 = 9000000 ∨ n % 21600000 = 10800000 ∨ n % 21600000 = 12600000 ∨ n % 21600000 = 14400000 ∨ n % 21600000 = 16200000 ∨ n % 21600000 = 18000000 ∨ n % 21600000 = 19800000 by omega) with h2 | h2 | h2 | h2 | h2 | h2 | h2 | h2 | h2 | h2 | h2 | h2
    · have e1 : exa (red n) = true := by unfold red; rw [h2]; decide
      have e2 : (if exa (red n) = true then lob n else 0) = 0 := by rw [e1]; unfold lob south red upf; rw [h2]; decide +kernel
      rw [e2, e1]
      exact exact_0 n (h2 ▸ hm) w
    · have e1 : exa (red n) = true := by unfold red; rw [h2]; decide
      have e2 : (if exa (red n) = true then lob n else 0) = 536870912 := by rw [e1]; unfold lob south red upf; rw [h2]; decide +kernel
      rw [e2, e1]
      exact exact_1 n (h2 ▸ hm) w
    · have e1 : exa (red n) = false := by unfold red; rw [h2]; decide
      have e2 : (if exa (red n) = true then lob n else 0) = 0 := by rw [e1]; unfold lob south red upf; rw [h2]; decide +kernel
      rw [e2, e1]
      exact exact_2 n (h2 ▸ hm) w
    · have e1 : exa (red n) = true := by unfold red; rw [h2]; decide
      have e2 : (if exa (red n) = true then lob n else 0) = 1073741824 := by rw [e1]; unfold lob south red upf; rw [h2]; decide +kernel
      rw [e2, e1]
      exact exact_3 n (h2 ▸ hm) w
    · have e1 : exa (red n) = false := by unfold red; rw [h2]; decide
      have e2 : (if exa (red n) = true then lob n else 0) = 0 := by rw [e1]; unfold lob south red upf; rw [h2]; decide +kernel
      rw [e2, e1]
      exact exact_4 n (h2 ▸ hm) w
    · have e1 : exa (red n) = true := by unfold red; rw [h2]; decide
      have e2 : (if exa (red n) = true then lob n else 0) = 536870912 := by rw [e1]; unfold lob south red upf; rw [h2]; decide +kernel
      rw [e2, e1]
      exact exact_5 n (h2 ▸ hm) w
    · have e1 : exa (red n) = true := by unfold red; rw [h2]; decide
      have e2 : (if exa (red n) = true then lob n else 0) = 0 := by rw [e1]; unfold lob south red upf; rw [h2]; decide +kernel
      rw [e2, e1]
      exact exact_6 n (h2 ▸ hm) w
    · have e1 : exa (red n) = true := by unfold red; rw [h2]; decide
      have e2 : (if exa (red n) = true then lob n else 0) = -536870912 := by rw [e1]; unfold lob south red upf; rw [h2]; decide +kernel
      rw [e2, e1]
      exact exact_7 n (h2 ▸ hm) w
    · have e1 : exa (red n) = false := by unfold red; rw [h2]; decide
      have e2 : (if exa (red n) = true then lob n else 0) = 0 := by rw [e1]; unfold lob south red upf; rw [h2]; decide +kernel
      rw [e2, e1]
      exact exact_8 n (h2 ▸ hm) w
    · have e1 : exa (red n) = true := by unfold red; rw [h2]; decide
      have e2 : (if exa (red n) = true then lob n else 0) = -1073741824 := by rw [e1]; unfold lob south red upf; rw [h2]; decide +kernel
      rw [e2, e1]
      exact exact_9 n (h2 ▸ hm) w
    · have e1 : exa (red n) = false := by unfold red; rw [h2]; decide
      have e2 : (if exa (red n) = true then lob n else 0) = 0 := by rw [e1]; unfold lob south red upf; rw [h2]; decide +kernel
      rw [e2, e1]
      exact exact_10 n (h2 ▸ hm) w
    · have e1 : exa (red n) = true := by unfold red; rw [h2]; decide
      have e2 : (if exa (red n) = true then lob n else 0) = -536870912 := by rw [e1]; unfold lob south red upf; rw [h2]; decide +kernel
      rw [e2, e1]
      exact exact_11 n (h2 ▸ hm) w
  · have e1 : exa (red n) = false := by
      simp only [exa, Bool.or_eq_false_iff, beq_eq_false_iff_ne]
      have := red_mod n
      omega
    rw [e1]
    exact exact_no n _ hm m0 m1 h w
end Go.Proofs.YtcjkfchjcealbaaGreat

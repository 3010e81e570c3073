import Derived.Test.YtfilgpifiboccaaGreatT44
import Derived.Test.YtfilgpifiboccaaGreatT22
import Derived.Test.YtfilgpifiboccaaGreatT37
namespace Go.Proofs.YtfilgpifiboccaaGreat
open Go.RowKit SM
theorem qfl (k : Nat) (hk : k ≤ 5400000) (hx : exa k = false) : (k ≤ 2700000 → (flo k : Int) * 4294967296 + 512 ≤ quickN k false ∧ quickN k false ≤ ((flo k : Int) + 1) * 4294967296 - 512) ∧
    (2700000 ≤ k → (flo k : Int) * 4294967296 + 512 ≤ quickN ((5400000 - k : Nat) : Int) true ∧ quickN ((5400000 - k : Nat) : Int) true ≤ ((flo k : Int) + 1) * 4294967296 - 512) := by
  obtain ⟨g1, g2⟩ := gap k hk hx
  refine ⟨fun h => ?_, fun h => ?_⟩
  · have hT : T k = tS k := by unfold T; rw [if_pos h]
    rw [hT] at g1 g2
    exact quick_floor (quick_err k h).1 g1 g2
  · rcases Nat.eq_or_lt_of_le h with h2 | h2
    · subst h2; decide +kernel
    · have hT : T k = tC (5400000 - k) := by unfold T; rw [if_neg (by omega)]
      rw [hT] at g1 g2
      exact quick_floor (quick_err (5400000 - k) (by omega)).2 g1 g2
theorem quickV_floor (n : Int) (hx : exa (red n) = false) : lob n * 4294967296 + 512 ≤ quickV n ∧ quickV n ≤ (lob n + 1) * 4294967296 - 512 ∧ hib n = lob n + 1 := by
  have hk := red_le n
  have hq := qfl (red n) hk hx
  have hl : hib n = lob n + 1 := by unfold lob hib upf; rw [hx]; simp only [Bool.false_eq_true, reduceIte]; split <;> omega
  have m0 := Int.emod_nonneg n (show (21600000 : Int) ≠ 0 by omega)
  have m1 := Int.emod_lt_of_pos n (show (0 : Int) < 21600000 by omega)
  refine ⟨?_, ?_, hl⟩ <;> {
    clear hl
    have hx' : red n ≠ 0 ∧ red n ≠ 5400000 := by
      simp only [exa, Bool.or_eq_false_iff, beq_eq_false_iff_ne] at hx
      omega
    unfold quickV lob upf
    rw [hx]
    unfold south quickM
    simp only [Bool.false_eq_true, reduceIte, decide_eq_true_eq]
    have hr : (red n : Int) = if n % 21600000 ≤ 5400000 then n % 21600000 else if n % 21600000 ≤ 10800000 then 10800000 - n % 21600000 else if n % 21600000 ≤ 16200000 then n % 21600000 - 10800000 else 21600000 - n % 21600000 := by
      unfold red; simp only; split
      · omega
      · split
        · omega
        · split <;> omega
    have hc : ((5400000 - red n : Nat) : Int) = 5400000 - (red n : Int) := by omega
    rw [hc] at hq
    have l1 : (red n : Int) ≤ 2700000 → red n ≤ 2700000 := by omega
    have l2 : 2700000 ≤ (red n : Int) → 2700000 ≤ red n := by omega
    have l3 : (red n : Int) ≠ 0 ∧ (red n : Int) ≠ 5400000 := by omega
    clear hx hk hx' hc
    generalize n % 21600000 = m at *
    generalize flo (red n) = f at *
    obtain ⟨q1, q2⟩ := hq
    replace q1 := fun h => q1 (l1 h)
    replace q2 := fun h => q2 (l2 h)
    clear l1 l2
    generalize (red n : Int) = k at *
    clear n
    (repeat' split) <;> (repeat' split at hr) <;> first
      | omega
      | (have q1 := q1 (by omega); rw [hr] at q1; omega)
      | (have q2 := q2 (by omega); rw [hr] at q2; first
          | omega
          | (rw [show 5400000 - (10800000 - m) = m - 5400000 by omega] at q2; omega)
          | (rw [show 5400000 - (m - 10800000) = 16200000 - m by omega] at q2; omega)
          | (rw [show 5400000 - (21600000 - m) = m - 16200000 by omega] at q2; omega)) }
end Go.Proofs.YtfilgpifiboccaaGreat
namespace Go.Proofs.YtfilgpifiboccaaGreat
open Go.RowKit SM
def ExPost (x : Int) (b : Bool) (w : World) (e : Ending) (w' : World) : Prop := e = .returned (.tuple #[.int .i64 x, .bool b]) ∧ Below w.heap.size w w'
set_option maxHeartbeats 1000000 in
theorem exact_no (n m : Int) (hm : n.tmod 21600000 = m ∨ n.tmod 21600000 + 21600000 = m ∧ n.tmod 21600000 < 0) (m0 : 0 ≤ m) (m1 : m < 21600000) (h : m % 1800000 ≠ 0) (w : World) : Calls Tryz.prog 188 #[.int .i64 n] w (ExPost 0 false w) := by
  have HB := Lib.hid (Below.refl w.heap.size w)
  rcases hm with hs | ⟨hs, hs2⟩
  all_goals (
    go_enter Tryz.func188, Tryz.ntmps188
    go_wp2
    go_ret2
    exact ⟨rfl, HB.out⟩)
set_option maxHeartbeats 1000000 in
theorem exact_0 (n : Int) (hm : n.tmod 21600000 = 0 ∨ n.tmod 21600000 + 21600000 = 0 ∧ n.tmod 21600000 < 0) (w : World) : Calls Tryz.prog 188 #[.int .i64 n] w (ExPost 0 true w) := by
  rcases hm with hs | ⟨hs, hs2⟩
  all_goals (
    go_enter Tryz.func188, Tryz.ntmps188
    go_wp2
    go_ret2
    first
      | exact ⟨rfl, (Below.refl _ _).alloc (Nat.le_refl _) _⟩
      | exact ⟨rfl, ((Below.refl _ _).alloc (Nat.le_refl _) _).alloc (by simp) _⟩)
set_option maxHeartbeats 1000000 in
theorem exact_1 (n : Int) (hm : n.tmod 21600000 = 1800000 ∨ n.tmod 21600000 + 21600000 = 1800000 ∧ n.tmod 21600000 < 0) (w : World) : Calls Tryz.prog 188 #[.int .i64 n] w (ExPost 536870912 true w) := by
  rcases hm with hs | ⟨hs, hs2⟩
  all_goals (
    go_enter Tryz.func188, Tryz.ntmps188
    go_wp2
    go_ret2
    first
      | exact ⟨rfl, (Below.refl _ _).alloc (Nat.le_refl _) _⟩
      | exact ⟨rfl, ((Below.refl _ _).alloc (Nat.le_refl _) _).alloc (by simp) _⟩)
set_option maxHeartbeats 1000000 in
theorem exact_2 (n : Int) (hm : n.tmod 21600000 = 3600000 ∨ n.tmod 21600000 + 21600000 = 3600000 ∧ n.tmod 21600000 < 0) (w : World) : Calls Tryz.prog 188 #[.int .i64 n] w (ExPost 0 false w) := by
  rcases hm with hs | ⟨hs, hs2⟩
  all_goals (
    go_enter Tryz.func188, Tryz.ntmps188
    go_wp2
    go_ret2
    first
      | exact ⟨rfl, (Below.refl _ _).alloc (Nat.le_refl _) _⟩
      | exact ⟨rfl, ((Below.refl _ _).alloc (Nat.le_refl _) _).alloc (by simp) _⟩)
set_option maxHeartbeats 1000000 in
theorem exact_3 (n : Int) (hm : n.tmod 21600000 = 5400000 ∨ n.tmod 21600000 + 21600000 = 5400000 ∧ n.tmod 21600000 < 0) (w : World) : Calls Tryz.prog 188 #[.int .i64 n] w (ExPost 1073741824 true w) := by
  rcases hm with hs | ⟨hs, hs2⟩
  all_goals (
    go_enter Tryz.func188, Tryz.ntmps188
    go_wp2
    go_ret2
    first
      | exact ⟨rfl, (Below.refl _ _).alloc (Nat.le_refl _) _⟩
      | exact ⟨rfl, ((Below.refl _ _).alloc (Nat.le_refl _) _).alloc (by simp) _⟩)
set_option maxHeartbeats 1000000 in
theorem exact_4 (n : Int) (hm : n.tmod 21600000 = 7200000 ∨ n.tmod 21600000 + 21600000 = 7200000 ∧ n.tmod 21600000 < 0) (w : World) : Calls Tryz.prog 188 #[.int .i64 n] w (ExPost 0 false w) := by
  rcases hm with hs | ⟨hs, hs2⟩
  all_goals (
    go_enter Tryz.func188, Tryz.ntmps188
    go_wp2
    go_ret2
    first
      | exact ⟨rfl, (Below.refl _ _).alloc (Nat.le_refl _) _⟩
      | exact ⟨rfl, ((Below.refl _ _).alloc (Nat.le_refl _) _).alloc (by simp) _⟩)
set_option maxHeartbeats 1000000 in
theorem exact_5 (n : Int) (hm : n.tmod 21600000 = 9000000 ∨ n.tmod 21600000 + 21600000 = 9000000 ∧ n.tmod 21600000 < 0) (w : World) : Calls Tryz.prog 188 #[.int .i64 n] w (ExPost 536870912 true w) := by
  rcases hm with hs | ⟨hs, hs2⟩
  all_goals (
    go_enter Tryz.func188, Tryz.ntmps188
    go_wp2
    go_ret2
    first
      | exact ⟨rfl, (Below.refl _ _).alloc (Nat.le_refl _) _⟩
      | exact ⟨rfl, ((Below.refl _ _).alloc (Nat.le_refl _) _).alloc (by simp) _⟩)
set_option maxHeartbeats 1000000 in
theorem exact_6 (n : Int) (hm : n.tmod 21600000 = 10800000 ∨ n.tmod 21600000 + 21600000 = 10800000 ∧ n.tmod 21600000 < 0) (w : World) : Calls Tryz.prog 188 #[.int .i64 n] w (ExPost 0 true w) := by
  rcases hm with hs | ⟨hs, hs2⟩
  all_goals (
    go_enter Tryz.func188, Tryz.ntmps188
    go_wp2
    go_ret2
    first
      | exact ⟨rfl, (Below.refl _ _).alloc (Nat.le_refl _) _⟩
      | exact ⟨rfl, ((Below.refl _ _).alloc (Nat.le_refl _) _).alloc (by simp) _⟩)
set_option maxHeartbeats 1000000 in
theorem exact_7 (n : Int) (hm : n.tmod 21600000 = 12600000 ∨ n.tmod 21600000 + 21600000 = 12600000 ∧ n.tmod 21600000 < 0) (w : World) : Calls Tryz.prog 188 #[.int .i64 n] w (ExPost (-536870912) true w) := by
  rcases hm with hs | ⟨hs, hs2⟩
  all_goals (
    go_enter Tryz.func188, Tryz.ntmps188
    go_wp2
    go_ret2
    first
      | exact ⟨rfl, (Below.refl _ _).alloc (Nat.le_refl _) _⟩
      | exact ⟨rfl, ((Below.refl _ _).alloc (Nat.le_refl _) _).alloc (by simp) _⟩)
set_option maxHeartbeats 1000000 in
theorem exact_8 (n : Int) (hm : n.tmod 21600000 = 14400000 ∨ n.tmod 21600000 + 21600000 = 14400000 ∧ n.tmod 21600000 < 0) (w : World) : Calls Tryz.prog 188 #[.int .i64 n] w (ExPost 0 false w) := by
  rcases hm with hs | ⟨hs, hs2⟩
  all_goals (
    go_enter Tryz.func188, Tryz.ntmps188
    go_wp2
    go_ret2
    first
      | exact ⟨rfl, (Below.refl _ _).alloc (Nat.le_refl _) _⟩
      | exact ⟨rfl, ((Below.refl _ _).alloc (Nat.le_refl _) _).alloc (by simp) _⟩)
set_option maxHeartbeats 1000000 in
theorem exact_9 (n : Int) (hm : n.tmod 21600000 = 16200000 ∨ n.tmod 21600000 + 21600000 = 16200000 ∧ n.tmod 21600000 < 0) (w : World) : Calls Tryz.prog 188 #[.int .i64 n] w (ExPost (-1073741824) true w) := by
  rcases hm with hs | ⟨hs, hs2⟩
  all_goals (
    go_enter Tryz.func188, Tryz.ntmps188
    go_wp2
    go_ret2
    first
      | exact ⟨rfl, (Below.refl _ _).alloc (Nat.le_refl _) _⟩
      | exact ⟨rfl, ((Below.refl _ _).alloc (Nat.le_refl _) _).alloc (by simp) _⟩)
set_option maxHeartbeats 1000000 in
theorem exact_10 (n : Int) (hm : n.tmod 21600000 = 18000000 ∨ n.tmod 21600000 + 21600000 = 18000000 ∧ n.tmod 21600000 < 0) (w : World) : Calls Tryz.prog 188 #[.int .i64 n] w (ExPost 0 false w) := by
  rcases hm with hs | ⟨hs, hs2⟩
  all_goals (
    go_enter Tryz.func188, Tryz.ntmps188
    go_wp2
    go_ret2
    first
      | exact ⟨rfl, (Below.refl _ _).alloc (Nat.le_refl _) _⟩
      | exact ⟨rfl, ((Below.refl _ _).alloc (Nat.le_refl _) _).alloc (by simp) _⟩)
set_option maxHeartbeats 1000000 in
theorem exact_11 (n : Int) (hm : n.tmod 21600000 = 19800000 ∨ n.tmod 21600000 + 21600000 = 19800000 ∧ n.tmod 21600000 < 0) (w : World) : Calls Tryz.prog 188 #[.int .i64 n] w (ExPost (-536870912) true w) := by
  rcases hm with hs | ⟨hs, hs2⟩
  all_goals (
    go_enter Tryz.func188, Tryz.ntmps188
    go_wp2
    go_ret2
    first
      | exact ⟨rfl, (Below.refl _ _).alloc (Nat.le_refl _) _⟩
      | exact ⟨rfl, ((Below.refl _ _).alloc (Nat.le_refl _) _).alloc (by simp) _⟩)
theorem red_mod (n : Int) : n % 21600000 % 1800000 ≠ 0 → red n % 1800000 ≠ 0 := by
  have m0 := Int.emod_nonneg n (show (21600000 : Int) ≠ 0 by omega)
  have m1 := Int.emod_lt_of_pos n (show (0 : Int) < 21600000 by omega)
  unfold red
  generalize n % 21600000 = m at *
  simp only
  split
  · omega
  · split
    · omega
    · split <;> omega
theorem exact_any (n : Int) (w : World) : Calls Tryz.prog 188 #[.int .i64 n] w (ExPost (if exa (red n) then lob n else 0) (exa (red n)) w) := by
  have hm := turned_hm n
  have m0 := Int.emod_nonneg n (show (21600000 : Int) ≠ 0 by omega)
  have m1 := Int.emod_lt_of_pos n (show (0 : Int) < 21600000 by omega)
  by_cases h : n % 21600000 % 1800000 = 0
  · rcases (show n % 21600000 = 0 ∨ n % 21600000 = 1800000 ∨ n % 21600000 = 3600000 ∨ n % 21600000 = 5400000 ∨ n % 21600000 = 7200000 ∨ n % 21600000 = 9000000 ∨ n % 21600000 = 10800000 ∨ n % 21600000 = 12600000 ∨ n % 21600000 = 14400000 ∨ n % 21600000 = 16200000 ∨ n % 21600000 = 18000000 ∨ n % 21600000 = 19800000 by omega) with h2 | h2 | h2 | h2 | h2 | h2 | h2 | h2 | h2 | h2 | h2 | h2
    · have e1 : exa (red n) = true := by unfold red; rw [h2]; decide
      have e2 : (if exa (red n) = true then lob n else 0) = 0 := by rw [e1]; unfold lob south red upf; rw [h2]; decide +kernel
      rw [e2, e1]
      exact exact_0 n (h2 ▸ hm) w
    · have e1 : exa (red n) = true := by unfold red; rw [h2]; decide
      have e2 : (if exa (red n) = true then lob n else 0) = 536870912 := by rw [e1]; unfold lob south red upf; rw [h2]; decide +kernel
      rw [e2, e1]
      exact exact_1 n (h2 ▸ hm) w
    · have e1 : exa (red n) = false := by unfold red; rw [h2]; decide
      have e2 : (if exa (red n) = true then lob n else 0) = 0 := by rw [e1]; unfold lob south red upf; rw [h2]; decide +kernel
      rw [e2, e1]
      exact exact_2 n (h2 ▸ hm) w
    · have e1 : exa (red n) = true := by unfold red; rw [h2]; decide
      have e2 : (if exa (red n) = true then lob n else 0) = 1073741824 := by rw [e1]; unfold lob south red upf; rw [h2]; decide +kernel
      rw [e2, e1]
      exact exact_3 n (h2 ▸ hm) w
    · have e1 : exa (red n) = false := by unfold red; rw [h2]; decide
      have e2 : (if exa (red n) = true then lob n else 0) = 0 := by rw [e1]; unfold lob south red upf; rw [h2]; decide +kernel
      rw [e2, e1]
      exact exact_4 n (h2 ▸ hm) w
    · have e1 : exa (red n) = true := by unfold red; rw [h2]; decide
      have e2 : (if exa (red n) = true then lob n else 0) = 536870912 := by rw [e1]; unfold lob south red upf; rw [h2]; decide +kernel
      rw [e2, e1]
      exact exact_5 n (h2 ▸ hm) w
    · have e1 : exa (red n) = true := by unfold red; rw [h2]; decide
      have e2 : (if exa (red n) = true then lob n else 0) = 0 := by rw [e1]; unfold lob south red upf; rw [h2]; decide +kernel
      rw [e2, e1]
      exact exact_6 n (h2 ▸ hm) w
    · have e1 : exa (red n) = true := by unfold red; rw [h2]; decide
      have e2 : (if exa (red n) = true then lob n else 0) = -536870912 := by rw [e1]; unfold lob south red upf; rw [h2]; decide +kernel
      rw [e2, e1]
      exact exact_7 n (h2 ▸ hm) w
    · have e1 : exa (red n) = false := by unfold red; rw [h2]; decide
      have e2 : (if exa (red n) = true then lob n else 0) = 0 := by rw [e1]; unfold lob south red upf; rw [h2]; decide +kernel
      rw [e2, e1]
      exact exact_8 n (h2 ▸ hm) w
    · have e1 : exa (red n) = true := by unfold red; rw [h2]; decide
      have e2 : (if exa (red n) = true then lob n else 0) = -1073741824 := by rw [e1]; unfold lob south red upf; rw [h2]; decide +kernel
      rw [e2, e1]
      exact exact_9 n (h2 ▸ hm) w
    · have e1 : exa (red n) = false := by unfold red; rw [h2]; decide
      have e2 : (if exa (red n) = true then lob n else 0) = 0 := by rw [e1]; unfold lob south red upf; rw [h2]; decide +kernel
      rw [e2, e1]
      exact exact_10 n (h2 ▸ hm) w
    · have e1 : exa (red n) = true := by unfold red; rw [h2]; decide
      have e2 : (if exa (red n) = true then lob n else 0) = -536870912 := by rw [e1]; unfold lob south red upf; rw [h2]; decide +kernel
      rw [e2, e1]
      exact exact_11 n (h2 ▸ hm) w
  · have e1 : exa (red n) = false := by
      simp only [exa, Bool.or_eq_false_iff, beq_eq_false_iff_ne]
      have := red_mod n
      omega
    rw [e1]
    exact exact_no n _ hm m0 m1 h w
end Go.Proofs.YtfilgpifiboccaaGreat
namespace Go.Proofs.YtfilgpifiboccaaGreat
open Go.RowKit SM
set_option maxHeartbeats 1000000 in
theorem rfloor_any (n : Int) (w : World) : Calls Tryz.prog 177 #[.int .i64 n] w (ExPost (lob n) (exa (red n)) w) := by
  have HE := exact_any n
  cases hx : exa (red n)
  · obtain ⟨q1, q2, _⟩ := quickV_floor n hx
    have HQ := Lib.hid (quickV_any n)
    rw [hx] at HE
    have HE := Lib.hid HE
    have hl := lob_hib n
    generalize quickV n = v at *
    generalize lob n = l at *
    generalize hib n = u at *
    have e1 : (v - 256) / 4294967296 = l := by omega
    have e2 : (v + 256) / 4294967296 = l := by omega
    have e3 : v / 4294967296 = l := by omega
    clear hx
    go_enter Tryz.func177, Tryz.ntmps177
    go_wp2_with fail
    refine (HE.out _).mono ?_
    rintro e w1 ⟨rfl, hb⟩
    have HB := Lib.hid hb
    clear hb
    go_wp2_with fail
    refine (HQ.out _).mono ?_
    rintro e w2 ⟨rfl, rfl⟩
    go_wp2
    go_ret2
    exact ⟨rfl, HB.out⟩
  · rw [hx] at HE
    simp only [reduceIte] at HE
    have HE := Lib.hid HE
    clear hx
    generalize lob n = l at *
    go_enter Tryz.func177, Tryz.ntmps177
    go_wp2_with fail
    refine (HE.out _).mono ?_
    rintro e w1 ⟨rfl, hb⟩
    have HB := Lib.hid hb
    clear hb
    go_wp2
    go_ret2
    exact ⟨rfl, HB.out⟩
theorem cmp_cases (n v : Int) : cmp n v = if exa (red n) = true ∧ lob n = v then 0 else if lob n ≥ v then 1 else -1 := by
  have h : (lob n = hib n) ↔ exa (red n) = true := by
    unfold lob hib upf
    cases exa (red n)
    · simp only [Bool.false_eq_true, reduceIte, iff_false]; split <;> omega
    · simp only [reduceIte]
  unfold cmp
  by_cases h1 : exa (red n) = true
  · by_cases h2 : lob n = v
    · rw [if_pos ⟨h.2 h1, h2.symm⟩, if_pos ⟨h1, h2⟩]
    · rw [if_neg (show ¬ (lob n = hib n ∧ v = lob n) from fun q => h2 q.2.symm), if_neg (show ¬ (exa (red n) = true ∧ lob n = v) from fun q => h2 q.2)]
  · rw [if_neg (show ¬ (lob n = hib n ∧ v = lob n) from fun q => h1 (h.1 q.1)), if_neg (show ¬ (exa (red n) = true ∧ lob n = v) from fun q => h1 q.1)]
set_option maxHeartbeats 1000000 in
theorem rbelow_any (n v : Int) (w : World) : Calls Tryz.prog 165 #[.int .i64 n, .int .i64 v] w (GPost (.int .i64 (cmp n v)) w) := by
  have hf := rfloor_any n
  rw [cmp_cases]
  generalize lob n = l at *
  generalize exa (red n) = x at *
  have HF := Lib.hid hf
  clear hf
  cases x
  · simp only [Bool.false_eq_true, false_and, reduceIte]
    by_cases h : l ≥ v
    · rw [if_pos h]
      go_enter Tryz.func165, Tryz.ntmps165
      go_wp2_with fail
      refine (HF.out _).mono ?_
      rintro e w1 ⟨rfl, hb⟩
      have HB := Lib.hid hb
      clear hb
      go_wp2
      go_ret
      exact ⟨rfl, HB.out⟩
    · rw [if_neg h]
      go_enter Tryz.func165, Tryz.ntmps165
      go_wp2_with fail
      refine (HF.out _).mono ?_
      rintro e w1 ⟨rfl, hb⟩
      have HB := Lib.hid hb
      clear hb
      go_wp2
      go_ret
      exact ⟨rfl, HB.out⟩
  · simp only [true_and]
    rcases Int.lt_trichotomy l v with h | h | h
    · rw [if_neg (by omega), if_neg (by omega)]
      go_enter Tryz.func165, Tryz.ntmps165
      go_wp2_with fail
      refine (HF.out _).mono ?_
      rintro e w1 ⟨rfl, hb⟩
      have HB := Lib.hid hb
      clear hb
      go_wp2
      go_ret
      exact ⟨rfl, HB.out⟩
    · rw [if_pos h]
      subst h
      go_enter Tryz.func165, Tryz.ntmps165
      go_wp2_with fail
      refine (HF.out _).mono ?_
      rintro e w1 ⟨rfl, hb⟩
      have HB := Lib.hid hb
      clear hb
      go_wp2
      go_ret
      exact ⟨rfl, HB.out⟩
    · rw [if_neg (by omega), if_pos (by omega)]
      go_enter Tryz.func165, Tryz.ntmps165
      go_wp2_with fail
      refine (HF.out _).mono ?_
      rintro e w1 ⟨rfl, hb⟩
      have HB := Lib.hid hb
      clear hb
      go_wp2
      go_ret
      exact ⟨rfl, HB.out⟩
end Go.Proofs.YtfilgpifiboccaaGreat
namespace Go.Proofs.YtfilgpifiboccaaGreat
open Go.RowKit SM
set_option maxHeartbeats 4000000 in
theorem rasin_any (v : Int) (hv : -1073741824 ≤ v) (w : World) : Calls Tryz.prog 142 #[.int .i64 v] w (GPost (.int .i64 (asn v)) w) := by
  obtain ⟨V, hV⟩ : ∃ V, V = Value.int .i64 (asn v) := ⟨_, rfl⟩
  have HP : ∀ a w', IsAsin v a → Below w.heap.size w w' → GPost V w (.returned (.int .i64 a)) w' := fun a w' h hb => ⟨by rw [hV, asn_eq hv h], hb⟩
  rw [← hV]
  clear hV
  have HP := Lib.hid HP
  have HB := Lib.hid (fun n w => rbelow_any n v w)
  have HG := Lib.hid (guess_any v w)
  have HZ := Lib.hid (show hib (-5400000) ≤ v by rw [hib_low]; exact hv)
  have HB0 := Lib.hid (Below.refl w.heap.size w)
  clear hv
  go_enter Tryz.func142, Tryz.ntmps142
  go_wp2_with fail
  refine HG.out.mono ?_
  rintro e w1 ⟨g, g0, g1, rfl, rfl⟩
  go_wp2_with fail
  clear HG
  go_loopw [3, 4] (fun l s wr => ∃ L S : Int, l = .int .i64 L ∧ s = .int .i64 S ∧ -5400000 ≤ L ∧ L ≤ 5400000 ∧ 1 ≤ S ∧ S ≤ 30000000 ∧ (L ≤ -5400000 ∨ S + L ≤ 5400001) ∧ Below w.heap.size w wr) (fun l _ _ => (kInt l + 5400000).toNat)
  case atStart => exact ⟨_, _, rfl, rfl, by omega, by omega, by omega, by omega, by omega, HB0.out⟩
  case round =>
    clear HB0
    obtain ⟨L, S, rfl, rfl, h1, h2, h3, h4, h5, h6⟩ := hrel
    have H6 := Lib.hid h6
    clear h6
    have HM := Lib.hid (HB.out L wr)
    have HL := Lib.hid (cmp_le L v)
    by_cases hlo : L = -5400000 ∧ 0 < cmp L v
    · exfalso
      obtain ⟨e1, e2⟩ := hlo
      subst e1
      have := HL.out
      have := HZ.out
      omega
    have bd := cmp_bd L v
    generalize cmp L v = c at *
    go_wp2_with fail
    refine HM.out.mono ?_
    rintro e w1 ⟨rfl, hb1⟩
    have H7 := Lib.hid (H6.out.trans (hb1.mono H6.out.size))
    clear hb1
    by_cases hc : 0 < c
    · by_cases hs : L - S < -5400000
      · go_wp2
        go_roundw
        case rel => exact ⟨-5400000, S * 2, rfl, by first | rfl | go_num, by omega, by omega, by omega, by omega, by omega, H7.out⟩
        case measure => simp [kInt]; omega
      · go_wp2
        go_roundw
        case rel => exact ⟨L - S, S * 2, rfl, by first | rfl | go_num, by omega, by omega, by omega, by omega, by omega, H7.out⟩
        case measure => simp [kInt]; omega
    · have HL2 := Lib.hid (HL.out.1 (by omega))
      clear bd hlo HL HM H6 h5 h4 h3
      go_wp2_with fail
      clear hc
      go_loopw [3, 5, 6] (fun l h s wr => ∃ L H S : Int, l = .int .i64 L ∧ h = .int .i64 H ∧ s = .int .i64 S ∧ -5400000 ≤ L ∧ L ≤ 5400000 ∧ L < H ∧ (L = 5400000 ∨ H ≤ 5400000) ∧ H ≤ 50000000 ∧ 1 ≤ S ∧ S ≤ 100000000 ∧ (5400000 ≤ H ∨ S ≤ H + 5400000) ∧ (5400000 < H ∨ S ≤ 21600000) ∧ RowKit.Hid (hib L ≤ v) ∧ RowKit.Hid (Below w.heap.size w wr)) (fun l _ _ _ => (5400001 - kInt l).toNat)
      case atStart => exact ⟨_, _, _, rfl, rfl, rfl, by omega, by omega, by omega, by omega, by omega, by omega, by omega, by omega, by omega, HL2, H7⟩
      case round =>
        clear HL2 H7 h1 h2
        obtain ⟨L, H, S, rfl, rfl, rfl, h1, h2, h3, h4, h5, h6, h7, h8, h9, H10, H11⟩ := hrel
        by_cases hH : H ≤ 5400000
        · have HM := Lib.hid (HB.out H wr)
          have HL := Lib.hid (cmp_le H v)
          have bd := cmp_bd H v
          generalize cmp H v = c at *
          go_wp2_with fail
          refine HM.out.mono ?_
          rintro e w2 ⟨rfl, hb1⟩
          have H12 := Lib.hid (H11.out.trans (hb1.mono H11.out.size))
          clear hb1 HM
          by_cases hc : c ≤ 0
          · have HL2 := Lib.hid (HL.out.1 hc)
            clear HL
            by_cases hq : H = 5400000
            · subst hq
              go_wp2
              go_roundw
              case rel => exact ⟨5400000, 5400000 + S, S * 2, rfl, by first | rfl | go_num, by first | rfl | go_num, by omega, by omega, by omega, by omega, by omega, by omega, by omega, by omega, by omega, HL2, H12⟩
              case measure => simp [kInt]; omega
            · by_cases hs : 5400000 < H + S
              · go_wp2
                go_roundw
                case rel => exact ⟨H, 5400000, S * 2, rfl, by first | rfl | go_num, by first | rfl | go_num, by omega, by omega, by omega, by omega, by omega, by omega, by omega, by omega, by omega, HL2, H12⟩
                case measure => simp [kInt]; omega
              · go_wp2
                go_roundw
                case rel => exact ⟨H, H + S, S * 2, rfl, by first | rfl | go_num, by first | rfl | go_num, by omega, by omega, by omega, by omega, by omega, by omega, by omega, by omega, by omega, HL2, H12⟩
                case measure => simp [kInt]; omega
          · have HV := Lib.hid (show v < hib H from by have := HL.out; omega)
            clear HL h5 h6 h7 h8 h9 bd H11
            have hne : (L == 5400000) = false := by rw [beq_eq_false_iff_ne]; omega
            go_wp2_with fail
            try rw [hne]
            clear hc hne
            go_loopw [3, 5] (fun l h wr => ∃ L H : Int, l = .int .i64 L ∧ h = .int .i64 H ∧ -5400000 ≤ L ∧ L < H ∧ H ≤ 5400000 ∧ RowKit.Hid (hib L ≤ v) ∧ RowKit.Hid (v < hib H) ∧ RowKit.Hid (Below w.heap.size w wr)) (fun l h _ => (kInt h - kInt l).toNat)
            case atStart => exact ⟨_, _, rfl, rfl, h1, h3, hH, H10, HV, H12⟩
            case round =>
              clear H10 HV H12 h1 h2 h3 h4 hH
              obtain ⟨L, H, rfl, rfl, h1, h2, h3, H4, H5, H6⟩ := hrel
              by_cases hlt : L + 1 < H
              · obtain ⟨m, hm, hm1, hm2⟩ : ∃ m, L + (H - L) / 2 = m ∧ L < m ∧ m < H := ⟨_, rfl, by omega, by omega⟩
                have HM := fun wr => Lib.hid (HB.out m wr)
                have HM := Lib.hid HM
                have HL := Lib.hid (cmp_le m v)
                have bd := cmp_bd m v
                generalize cmp m v = c at *
                go_wp2_with fail
                refine ((HM.out _).out).mono ?_
                rintro e w3 ⟨rfl, hb1⟩
                have H7 := Lib.hid (H6.out.trans (hb1.mono H6.out.size))
                clear hb1 HM hm
                by_cases hc : c ≤ 0
                · have HL2 := Lib.hid (HL.out.1 hc)
                  clear HL
                  go_wp2
                  go_roundw
                  case rel => exact ⟨m, H, rfl, rfl, by omega, by omega, by omega, HL2, H5, H7⟩
                  case measure => simp [kInt]; omega
                · have HV := Lib.hid (show v < hib m from by have := HL.out; omega)
                  clear HL
                  go_wp2
                  go_roundw
                  case rel => exact ⟨L, m, rfl, rfl, by omega, by omega, by omega, H4, HV, H7⟩
                  case measure => simp [kInt]; omega
              · have HF := Lib.hid (HP.out L wr ⟨h1, by omega, H4.out, .inr (by rw [show L + 1 = H by omega]; exact H5.out)⟩ H6.out)
                go_wp2
                go_ret
                exact HF.out
        · have HF := Lib.hid (HP.out L wr ⟨h1, h2, H10.out, .inl (by omega)⟩ H11.out)
          go_wp2
          go_ret
          exact HF.out
end Go.Proofs.YtfilgpifiboccaaGreat
namespace Go.Proofs.YtfilgpifiboccaaGreat
open Go.RowKit
set_option maxHeartbeats 400000 in
theorem rvalid_any (lo hi : Int) (w : World) : Calls Tryz.prog 138 #[pairV lo hi] w (GPost (.bool (validB lo hi)) w) := by
  obtain ⟨V, hV⟩ : ∃ V, V = Value.bool (validB lo hi) := ⟨_, rfl⟩
  have HP : ∀ b w', validB lo hi = b → Below w.heap.size w w' → GPost V w (.returned (.bool b)) w' := fun b w' h hb => ⟨by rw [hV, h], hb⟩
  have HP := Lib.hid HP
  have HB := Lib.hid ((Below.refl w.heap.size w).alloc (Nat.le_refl _) (.cells #[.int .i64 lo, .int .i64 hi] 60))
  rw [← hV]
  clear hV
  unfold pairV
  by_cases h2 : lo ≤ hi
  · by_cases h1 : -2147483648 ≤ lo
    · by_cases h3 : hi ≤ 2147483648
      · have HF := Lib.hid (HP.out true _ (by unfold validB; rw [decide_eq_true]; omega) HB.out)
        go_enter Tryz.func138, Tryz.ntmps138
        go_wp2
        go_ret
        exact HF.out
      · have HF := Lib.hid (HP.out false _ (by unfold validB; rw [decide_eq_false]; omega) HB.out)
        go_enter Tryz.func138, Tryz.ntmps138
        go_wp2
        go_ret
        exact HF.out
    · have HF := Lib.hid (HP.out false _ (by unfold validB; rw [decide_eq_false]; omega) HB.out)
      go_enter Tryz.func138, Tryz.ntmps138
      go_wp2
      go_ret
      exact HF.out
  · have HF := Lib.hid (HP.out false _ (by unfold validB; rw [decide_eq_false]; omega) HB.out)
    go_enter Tryz.func138, Tryz.ntmps138
    go_wp2
    go_ret
    exact HF.out
theorem rceil_any (v : Int) (hv : v ≤ 1073741824) (hv2 : -1073741824 ≤ v) (w : World) : Calls Tryz.prog 143 #[.int .i64 v] w (GPost (.int .i64 (- asn (-v))) w) := by
  have HA := Lib.hid (rasin_any (-v) (by omega))
  obtain ⟨g0, g1, _, _⟩ := asn_is (-v) (by omega)
  generalize asn (-v) = a at *
  have e : (0 - v) = -v := by omega
  go_enter Tryz.func143, Tryz.ntmps143
  go_wp2_with fail
  try rw [e]
  refine (HA.out _).mono ?_
  rintro e w1 ⟨rfl, hb⟩
  have HB := Lib.hid hb
  clear hb
  go_wp2
  go_ret
  refine ⟨?_, HB.out⟩
  first
    | rfl
    | rw [show (0 - a) = -a by omega]
set_option maxRecDepth 100000 in
set_option maxHeartbeats 1000000 in
theorem rasin_r (x y : Int) (w : World) : Calls Tryz.prog 107 #[pairV x y] w (GPost (arcV (asinR x y)) w) := by
  have HV := Lib.hid (rvalid_any x y)
  have B0 : Below w.heap.size w ((w.alloc (.cells #[.int .i64 x, .int .i64 y] 60)).alloc (.cells #[.int .i64 0, .int .i64 0] 23)) := ((Below.refl w.heap.size w).alloc (Nat.le_refl _) _).alloc (by simp) _
  obtain ⟨V, hV⟩ : ∃ V, V = arcV (asinR x y) := ⟨_, rfl⟩
  rw [← hV]
  unfold asinR at hV
  unfold pairV at HV ⊢
  have n1 : Pair 60 ((w.alloc (.cells #[.int .i64 x, .int .i64 y] 60)).alloc (.cells #[.int .i64 0, .int .i64 0] 23)) w.heap.size x y := blk2_first _ _ _
  have n2 : Pair 23 ((w.alloc (.cells #[.int .i64 x, .int .i64 y] 60)).alloc (.cells #[.int .i64 0, .int .i64 0] 23)) (w.heap.size + 1) 0 0 := blk2_second _ _ _
  have N1 := Lib.hid n1
  have N2 := Lib.hid n2
  have HB := Lib.hid B0
  clear n1 n2 B0
  by_cases hv : validB x y = false
  · rw [if_pos hv] at hV
    rw [hv] at HV
    have hV := Lib.hid hV
    clear hv
    go_enter Tryz.func107, Tryz.ntmps107
    go_wp2_with fail
    refine (HV.out _).mono ?_
    rintro e w1 ⟨rfl, hb⟩
    have n1 := pair_below hb N1.out
    have n2 := pair_below hb N2.out
    have l1 := n1.lt
    have l2 := n2.lt
    obtain ⟨⟨a0, a1⟩, a2, a3⟩ := keep2 n1
    obtain ⟨⟨b0, b1⟩, b2, b3⟩ := keep2 n2
    have HB := Lib.hid ((HB.out.trans (hb.mono HB.out.size)).setCell (p := ⟨w.heap.size + 1, 0, none⟩) (by simp) (.int .i64 0) |>.setCell (p := ⟨w.heap.size + 1, 1, none⟩) (by simp) (.int .i64 0))
    clear hb n1 n2
    go_wp2
    refine bodyPost_ret (v := V) (by rw [hV.out]; simp [results, Tryz.results107, go_sem, arcV, pairV, b0, b1]) rfl ⟨rfl, HB.out⟩
  · rw [if_neg hv] at hV
    have hv' : validB x y = true := by cases h : validB x y <;> simp_all
    rw [hv'] at HV
    obtain ⟨u, hu⟩ : ∃ u, max x (-1073741824) = u := ⟨_, rfl⟩
    obtain ⟨v, hv⟩ : ∃ v, min y 1073741824 = v := ⟨_, rfl⟩
    rw [hu, hv] at hV
    have hb1 : -1073741824 ≤ u ∧ u ≤ 2147483648 ∧ v ≤ 1073741824 ∧ -2147483648 ≤ v := by simp [validB] at hv'; omega
    have hux : x < -1073741824 ∧ u = -1073741824 ∨ -1073741824 ≤ x ∧ u = x := by omega
    have hvy : 1073741824 < y ∧ v = 1073741824 ∨ y ≤ 1073741824 ∧ v = y := by omega
    clear hv' hu hv
    obtain ⟨g0, g1, g2, g3⟩ := hb1
    by_cases hc : u ≤ v
    · rw [if_pos hc] at hV
      have HF := Lib.hid (rasin_any u g0)
      have HC := Lib.hid (rceil_any v g2 (by omega))
      generalize asn u = p at *
      generalize -asn (-v) = q at *
      have hV := Lib.hid hV
      go_enter Tryz.func107, Tryz.ntmps107
      go_wp2_with fail
      refine (HV.out _).mono ?_
      rintro e w1 ⟨rfl, hb⟩
      have n1 := pair_below hb N1.out
      have n2 := pair_below hb N2.out
      have l1 := n1.lt
      have l2 := n2.lt
      obtain ⟨⟨a0, a1⟩, a2, a3⟩ := keep2 n1
      obtain ⟨⟨b0, b1⟩, b2, b3⟩ := keep2 n2
      have HB := Lib.hid (HB.out.trans (hb.mono HB.out.size))
      have N1 := Lib.hid n1
      have N2 := Lib.hid n2
      clear hb n1 n2
      rcases hux with ⟨c1, e1⟩ | ⟨c1, e1⟩ <;> rcases hvy with ⟨c2, e2⟩ | ⟨c2, e2⟩
      all_goals (
        rw [e1] at HF hc
        rw [e2] at HC hc
        clear e1 e2
        go_wp2_with fail
        refine (HF.out _).mono ?_
        rintro e w2 ⟨rfl, hb⟩
        have n1 := pair_below hb N1.out
        have n2 := pair_below hb N2.out
        have l1 := n1.lt
        have l2 := n2.lt
        obtain ⟨⟨a0, a1⟩, a2, a3⟩ := keep2 n1
        obtain ⟨⟨b0, b1⟩, b2, b3⟩ := keep2 n2
        have HB := Lib.hid (HB.out.trans (hb.mono HB.out.size))
        have N1 := Lib.hid n1
        have N2 := Lib.hid n2
        clear hb n1 n2
        go_wp2_with fail
        refine (HC.out _).mono ?_
        rintro e w3 ⟨rfl, hb⟩
        have n1 := pair_below hb N1.out
        have n2 := pair_below hb N2.out
        have l1 := n1.lt
        have l2 := n2.lt
        obtain ⟨⟨a0, a1⟩, a2, a3⟩ := keep2 n1
        obtain ⟨⟨b0, b1⟩, b2, b3⟩ := keep2 n2
        have HB := Lib.hid ((HB.out.trans (hb.mono HB.out.size)).setCell (p := ⟨w.heap.size + 1, 0, none⟩) (by simp) (.int .i64 p) |>.setCell (p := ⟨w.heap.size + 1, 1, none⟩) (by simp) (.int .i64 q))
        have n3 := n2.write p q
        obtain ⟨⟨r0, r1⟩, r2, r3⟩ := keep2 n3
        clear hb n1 n2 n3
        go_wp2
        refine bodyPost_ret (v := V) (by rw [hV.out]; simp [results, Tryz.results107, go_sem, arcV, pairV, r0, r1]) rfl ⟨rfl, HB.out⟩)
    · rw [if_neg hc] at hV
      have hV := Lib.hid hV
      go_enter Tryz.func107, Tryz.ntmps107
      go_wp2_with fail
      refine (HV.out _).mono ?_
      rintro e w1 ⟨rfl, hb⟩
      have n1 := pair_below hb N1.out
      have n2 := pair_below hb N2.out
      have l1 := n1.lt
      have l2 := n2.lt
      obtain ⟨⟨a0, a1⟩, a2, a3⟩ := keep2 n1
      obtain ⟨⟨b0, b1⟩, b2, b3⟩ := keep2 n2
      have HB := Lib.hid ((HB.out.trans (hb.mono HB.out.size)).setCell (p := ⟨w.heap.size + 1, 0, none⟩) (by simp) (.int .i64 0) |>.setCell (p := ⟨w.heap.size + 1, 1, none⟩) (by simp) (.int .i64 0))
      have n3 := n2.write 0 0
      obtain ⟨⟨r0, r1⟩, r2, r3⟩ := keep2 n3
      clear hb n1 n2 n3
      rcases hux with ⟨c1, e1⟩ | ⟨c1, e1⟩ <;> rcases hvy with ⟨c2, e2⟩ | ⟨c2, e2⟩
      all_goals first
        | (exfalso; omega)
        | (rw [e1, e2] at hc
           clear e1 e2
           go_wp2
           refine bodyPost_ret (v := V) (by rw [hV.out]; simp [results, Tryz.results107, go_sem, arcV, pairV, r0, r1]) rfl ⟨rfl, HB.out⟩)
end Go.Proofs.YtfilgpifiboccaaGreat
namespace Go.Proofs.YtfilgpifiboccaaGreat
open Go.RowKit
set_option maxRecDepth 100000 in
set_option maxHeartbeats 1000000 in
theorem racos_r (x y : Int) (w : World) : Calls Tryz.prog 139 #[pairV x y] w (GPost (arcV (acosR x y)) w) := by
  have HA := Lib.hid (rasin_r x y)
  obtain ⟨⟨g1, g2⟩, ⟨g3, g4⟩, g5, g6⟩ := asinR_bd x y
  obtain ⟨V, hV⟩ : ∃ V, V = arcV (acosR x y) := ⟨_, rfl⟩
  rw [← hV]
  unfold acosR at hV
  unfold arcV at HA
  generalize (asinR x y).1 = u at *
  generalize (asinR x y).2.1 = v at *
  generalize (asinR x y).2.2 = e at *
  have B0 : Below w.heap.size w ((w.alloc (.cells #[.int .i64 x, .int .i64 y] 60)).alloc (.cells #[.int .i64 0, .int .i64 0] 23)) := ((Below.refl w.heap.size w).alloc (Nat.le_refl _) _).alloc (by simp) _
  unfold pairV at HA ⊢
  have n2 : Pair 23 ((w.alloc (.cells #[.int .i64 x, .int .i64 y] 60)).alloc (.cells #[.int .i64 0, .int .i64 0] 23)) (w.heap.size + 1) 0 0 := blk2_second _ _ _
  have N2 := Lib.hid n2
  have HB := Lib.hid B0
  clear n2 B0
  by_cases he : e = 0
  · subst he
    rw [if_pos rfl] at hV
    have hV := Lib.hid hV
    go_enter Tryz.func139, Tryz.ntmps139
    go_wp2_with fail
    refine (HA.out _).mono ?_
    rintro e w1 ⟨rfl, hb⟩
    have n2 := pair_below hb N2.out
    have l2 := n2.lt
    have hz : w.heap.size + 2 ≤ w1.heap.size := by have := hb.size; simp at this; omega
    obtain ⟨⟨b0, b1⟩, b2, b3⟩ := keep2 n2
    have N3 := (n2.write (5400000 - v) (5400000 - u)).alloc (.cells #[.int .i64 u, .int .i64 v] 23)
    obtain ⟨⟨r0, r1⟩, r2, r3⟩ := keep2 N3
    have HB := Lib.hid (((HB.out.trans (hb.mono HB.out.size)).setCell (p := ⟨w.heap.size + 1, 0, none⟩) (by simp) (.int .i64 (5400000 - v)) |>.setCell (p := ⟨w.heap.size + 1, 1, none⟩) (by simp) (.int .i64 (5400000 - u))).alloc (by simp; omega) (.cells #[.int .i64 u, .int .i64 v] 23))
    clear hb n2 N3
    go_wp2
    refine bodyPost_ret (v := V) (by rw [hV.out]; simp [results, Tryz.results139, go_sem, arcV, pairV, r0, r1]) rfl ⟨rfl, HB.out⟩
  · rw [if_neg he] at hV
    have hV := Lib.hid hV
    go_enter Tryz.func139, Tryz.ntmps139
    go_wp2_with fail
    refine (HA.out _).mono ?_
    rintro e w1 ⟨rfl, hb⟩
    have n2 := pair_below hb N2.out
    have l2 := n2.lt
    have hz : w.heap.size + 2 ≤ w1.heap.size := by have := hb.size; simp at this; omega
    obtain ⟨⟨b0, b1⟩, b2, b3⟩ := keep2 n2
    have N3 := (n2.write 0 0).alloc (.cells #[.int .i64 u, .int .i64 v] 23)
    obtain ⟨⟨r0, r1⟩, r2, r3⟩ := keep2 N3
    have HB := Lib.hid (((HB.out.trans (hb.mono HB.out.size)).setCell (p := ⟨w.heap.size + 1, 0, none⟩) (by simp) (.int .i64 0) |>.setCell (p := ⟨w.heap.size + 1, 1, none⟩) (by simp) (.int .i64 0)).alloc (by simp; omega) (.cells #[.int .i64 u, .int .i64 v] 23))
    clear hb n2 N3
    go_wp2
    refine bodyPost_ret (v := V) (by rw [hV.out]; simp [results, Tryz.results139, go_sem, arcV, pairV, r0, r1]) rfl ⟨rfl, HB.out⟩
set_option maxRecDepth 100000 in
set_option maxHeartbeats 1000000 in
theorem rahav_r (x y : Int) (w : World) : Calls Tryz.prog 102 #[pairV x y] w (GPost (arcV (ahavR x y)) w) := by
  have HV := Lib.hid (rvalid_any x y)
  have B0 : Below w.heap.size w ((w.alloc (.cells #[.int .i64 x, .int .i64 y] 60)).alloc (.cells #[.int .i64 0, .int .i64 0] 23)) := ((Below.refl w.heap.size w).alloc (Nat.le_refl _) _).alloc (by simp) _
  obtain ⟨V, hV⟩ : ∃ V, V = arcV (ahavR x y) := ⟨_, rfl⟩
  rw [← hV]
  unfold ahavR at hV
  unfold pairV at HV ⊢
  have n1 : Pair 60 ((w.alloc (.cells #[.int .i64 x, .int .i64 y] 60)).alloc (.cells #[.int .i64 0, .int .i64 0] 23)) w.heap.size x y := blk2_first _ _ _
  have n2 : Pair 23 ((w.alloc (.cells #[.int .i64 x, .int .i64 y] 60)).alloc (.cells #[.int .i64 0, .int .i64 0] 23)) (w.heap.size + 1) 0 0 := blk2_second _ _ _
  have N1 := Lib.hid n1
  have N2 := Lib.hid n2
  have HB := Lib.hid B0
  clear n1 n2 B0
  by_cases hv : validB x y = false
  · rw [if_pos hv] at hV
    rw [hv] at HV
    have hV := Lib.hid hV
    clear hv
    go_enter Tryz.func102, Tryz.ntmps102
    go_wp2_with fail
    refine (HV.out _).mono ?_
    rintro e w1 ⟨rfl, hb⟩
    have n1 := pair_below hb N1.out
    have n2 := pair_below hb N2.out
    have l1 := n1.lt
    have l2 := n2.lt
    obtain ⟨⟨a0, a1⟩, a2, a3⟩ := keep2 n1
    obtain ⟨⟨b0, b1⟩, b2, b3⟩ := keep2 n2
    have HB := Lib.hid ((HB.out.trans (hb.mono HB.out.size)).setCell (p := ⟨w.heap.size + 1, 0, none⟩) (by simp) (.int .i64 0) |>.setCell (p := ⟨w.heap.size + 1, 1, none⟩) (by simp) (.int .i64 0))
    clear hb n1 n2
    go_wp2
    refine bodyPost_ret (v := V) (by rw [hV.out]; simp [results, Tryz.results102, go_sem, arcV, pairV, b0, b1]) rfl ⟨rfl, HB.out⟩
  · rw [if_neg hv] at hV
    have hv' : validB x y = true := by cases h : validB x y <;> simp_all
    rw [hv'] at HV
    obtain ⟨u, hu⟩ : ∃ u, max x 0 = u := ⟨_, rfl⟩
    obtain ⟨v, hv⟩ : ∃ v, min y 1073741824 = v := ⟨_, rfl⟩
    rw [hu, hv] at hV
    have hb1 : 0 ≤ u ∧ u ≤ 2147483648 ∧ v ≤ 1073741824 ∧ -2147483648 ≤ v := by simp [validB] at hv'; omega
    have hux : x < 0 ∧ u = 0 ∨ 0 ≤ x ∧ u = x := by omega
    have hvy : 1073741824 < y ∧ v = 1073741824 ∨ y ≤ 1073741824 ∧ v = y := by omega
    clear hv' hu hv
    obtain ⟨g0, g1, g2, g3⟩ := hb1
    by_cases hc : u ≤ v
    · rw [if_pos hc] at hV
      have HC := Lib.hid (racos_r (1073741824 - 2 * v) (1073741824 - 2 * u))
      unfold arcV pairV at HC
      unfold arcV at hV
      generalize (acosR (1073741824 - 2 * v) (1073741824 - 2 * u)).1 = p at *
      generalize (acosR (1073741824 - 2 * v) (1073741824 - 2 * u)).2.1 = q at *
      generalize (acosR (1073741824 - 2 * v) (1073741824 - 2 * u)).2.2 = r at *
      have hV := Lib.hid hV
      go_enter Tryz.func102, Tryz.ntmps102
      go_wp2_with fail
      refine (HV.out _).mono ?_
      rintro e w1 ⟨rfl, hb⟩
      have n1 := pair_below hb N1.out
      have n2 := pair_below hb N2.out
      have l1 := n1.lt
      have l2 := n2.lt
      obtain ⟨⟨a0, a1⟩, a2, a3⟩ := keep2 n1
      obtain ⟨⟨b0, b1⟩, b2, b3⟩ := keep2 n2
      have HB := Lib.hid (HB.out.trans (hb.mono HB.out.size))
      have N1 := Lib.hid n1
      have N2 := Lib.hid n2
      clear hb n1 n2
      rcases hux with ⟨c1, e1⟩ | ⟨c1, e1⟩ <;> rcases hvy with ⟨c2, e2⟩ | ⟨c2, e2⟩
      all_goals (
        rw [e1, e2] at HC hc
        clear e1 e2
        go_wp2_with fail
        refine (HC.out _).mono ?_
        rintro e w3 ⟨rfl, hb⟩
        have n1 := pair_below hb N1.out
        have n2 := pair_below hb N2.out
        have l1 := n1.lt
        have l2 := n2.lt
        obtain ⟨⟨a0, a1⟩, a2, a3⟩ := keep2 n1
        obtain ⟨⟨b0, b1⟩, b2, b3⟩ := keep2 n2
        have HB := Lib.hid ((HB.out.trans (hb.mono HB.out.size)).setCell (p := ⟨w.heap.size + 1, 0, none⟩) (by simp) (.int .i64 p) |>.setCell (p := ⟨w.heap.size + 1, 1, none⟩) (by simp) (.int .i64 q))
        have n3 := n2.write p q
        obtain ⟨⟨r0, r1⟩, r2, r3⟩ := keep2 n3
        clear hb n1 n2 n3
        go_wp2
        refine bodyPost_ret (v := V) (by rw [hV.out]; simp [results, Tryz.results102, go_sem, pairV, r0, r1]) rfl ⟨rfl, HB.out⟩)
    · rw [if_neg hc] at hV
      have hV := Lib.hid hV
      go_enter Tryz.func102, Tryz.ntmps102
      go_wp2_with fail
      refine (HV.out _).mono ?_
      rintro e w1 ⟨rfl, hb⟩
      have n1 := pair_below hb N1.out
      have n2 := pair_below hb N2.out
      have l1 := n1.lt
      have l2 := n2.lt
      obtain ⟨⟨a0, a1⟩, a2, a3⟩ := keep2 n1
      obtain ⟨⟨b0, b1⟩, b2, b3⟩ := keep2 n2
      have HB := Lib.hid ((HB.out.trans (hb.mono HB.out.size)).setCell (p := ⟨w.heap.size + 1, 0, none⟩) (by simp) (.int .i64 0) |>.setCell (p := ⟨w.heap.size + 1, 1, none⟩) (by simp) (.int .i64 0))
      have n3 := n2.write 0 0
      obtain ⟨⟨r0, r1⟩, r2, r3⟩ := keep2 n3
      clear hb n1 n2 n3
      rcases hux with ⟨c1, e1⟩ | ⟨c1, e1⟩ <;> rcases hvy with ⟨c2, e2⟩ | ⟨c2, e2⟩
      all_goals first
        | (exfalso; omega)
        | (rw [e1, e2] at hc
           clear e1 e2
           go_wp2
           refine bodyPost_ret (v := V) (by rw [hV.out]; simp [results, Tryz.results102, go_sem, arcV, pairV, r0, r1]) rfl ⟨rfl, HB.out⟩)
end Go.Proofs.YtfilgpifiboccaaGreat

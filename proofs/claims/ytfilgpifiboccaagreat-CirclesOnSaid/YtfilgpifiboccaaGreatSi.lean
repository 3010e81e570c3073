/-
  The reference's numbers as lists of digits: plain laws, and what a slice of digits reads as; append of a source that reads as a list onto a row of the call's own. No walk here.
-/
import Derived.Test.YtfilgpifiboccaaGreatChecked
import Derived.WalkKit
import Derived.Lib.Hide
import Derived.BigQuiet
import Derived.Below
import Derived.Laws.OwnMore
import Derived.Deep.AppendLies
import Derived.Deep.Draws
import Derived.Maps.AppendAt
import Derived.RegionTactic
import Derived.OwnWalk
import Derived.IntWalk
import Derived.WalkSpells
import Derived.Deep.RegionHeld3
import Derived.Deep.OwnRows
import Derived.Test.YtfilgpifiboccaaGreatNd
import Derived.Test.YtfilgpifiboccaaGreatNe
import Derived.Test.YtfilgpifiboccaaGreatT44
import Derived.Test.YtfilgpifiboccaaGreatT34
import Derived.Test.YtfilgpifiboccaaGreatT61
namespace Go.Proofs.YtfilgpifiboccaaGreat
open Go.RowKit
namespace DG
def digit (N j : Nat) : Nat := N / 268435456 ^ j % 268435456
/-- A number's first n digits, the least one first. -/
def dn (N n : Nat) : List Int := (List.range n).map fun j => (digit N j : Int)
/-- How many digits a number has. -/
def nd (N : Nat) : Nat := if h : N = 0 then 0 else nd (N / 268435456) + 1
termination_by N
decreasing_by exact Nat.div_lt_self (by omega) (by omega)
theorem nd_zero : nd 0 = 0 := by rw [nd]; simp
theorem nd_pos {N : Nat} (h : N ≠ 0) : nd N = nd (N / 268435456) + 1 := by rw [nd]; simp [h]
theorem B_pos (k : Nat) : 0 < 268435456 ^ k := Nat.pow_pos (by omega)
theorem nd_le (N k : Nat) : nd N ≤ k ↔ N < 268435456 ^ k := by
  induction k generalizing N with
  | zero =>
    by_cases h : N = 0
    · subst h; rw [nd_zero]; simp
    · rw [nd_pos h]; simp; omega
  | succ k ih =>
    by_cases h : N = 0
    · subst h; rw [nd_zero]; simp [B_pos]
    · rw [nd_pos h, Nat.pow_succ, Nat.add_le_add_iff_right, ih, Nat.div_lt_iff_lt_mul (by omega)]
theorem lt_nd (N k : Nat) : k < nd N ↔ 268435456 ^ k ≤ N := by
  have := nd_le N k
  omega
theorem nd_self (N : Nat) : N < 268435456 ^ nd N := (nd_le N _).1 (Nat.le_refl _)
theorem nd_eq {N n : Nat} (h : N < 268435456 ^ n) (h2 : n = 0 ∨ 268435456 ^ (n - 1) ≤ N) : nd N = n := by
  have a := (nd_le N n).2 h
  rcases h2 with rfl | h2
  · omega
  · have := (lt_nd N (n - 1)).2 h2
    omega
theorem nd_mono {a b : Nat} (h : a ≤ b) : nd a ≤ nd b := (nd_le a _).2 (Nat.lt_of_le_of_lt h (nd_self b))
theorem digit_lt (N j : Nat) : digit N j < 268435456 := Nat.mod_lt _ (by omega)
theorem digit_step (N j : Nat) : N / 268435456 ^ j = N / 268435456 ^ (j + 1) * 268435456 + digit N j := by
  unfold digit
  have := Nat.div_add_mod (N / 268435456 ^ j) 268435456
  rw [Nat.pow_succ, ← Nat.div_div_eq_div_mul]
  omega
theorem mod_step (N j : Nat) : N % 268435456 ^ (j + 1) = N % 268435456 ^ j + digit N j * 268435456 ^ j := by
  unfold digit
  rw [Nat.pow_succ, Nat.mod_mul, Nat.mul_comm]
theorem dn_len (N n : Nat) : (dn N n).length = n := by simp [dn]
theorem dn_getD {N n j : Nat} (h : j < n) : (dn N n).getD j 0 = (digit N j : Int) := by
  simp [dn, List.getD_eq_getElem?_getD, h]
theorem dn_snoc (N n : Nat) : dn N (n + 1) = dn N n ++ [(digit N n : Int)] := by
  unfold dn
  rw [List.range_succ, List.map_append]
  rfl
theorem nd_div (N k : Nat) : nd (N / 268435456 ^ k) = nd N - k := by
  rcases Nat.lt_or_ge (nd N) (k + 1) with h | h
  · have : N < 268435456 ^ k := (nd_le N k).1 (by omega)
    rw [Nat.div_eq_of_lt this, nd_zero]
    omega
  · have h1 := nd_self N
    have h2 := (lt_nd N (nd N - 1)).1 (by omega)
    refine nd_eq ?_ (.inr ?_)
    · rw [Nat.div_lt_iff_lt_mul (B_pos k), ← Nat.pow_add, show nd N - k + k = nd N by omega]
      exact h1
    · rw [Nat.le_div_iff_mul_le (B_pos k), ← Nat.pow_add, show nd N - k - 1 + k = nd N - 1 by omega]
      exact h2
/-- A zero at the end says nothing. -/
theorem trim_zero {N n : Nat} (h : N < 268435456 ^ (n + 1)) (hz : digit N n = 0) : N < 268435456 ^ n := by
  unfold digit at hz
  rw [Nat.pow_succ] at h
  have h1 : N / 268435456 ^ n < 268435456 := by
    rw [Nat.div_lt_iff_lt_mul (B_pos n), Nat.mul_comm]
    exact h
  rw [Nat.mod_eq_of_lt h1] at hz
  rcases Nat.lt_or_ge N (268435456 ^ n) with q | q
  · exact q
  · have := Nat.div_pos q (B_pos n)
    omega
theorem trim_done {N n : Nat} (h : N < 268435456 ^ (n + 1)) (hz : digit N n ≠ 0) : nd N = n + 1 := by
  refine nd_eq h (.inr ?_)
  rcases Nat.lt_or_ge N (268435456 ^ n) with q | q
  · exfalso
    apply hz
    unfold digit
    rw [Nat.div_eq_of_lt q]
  · exact q
/-! ### sums -/
def carry (a b i : Nat) : Nat := (a % 268435456 ^ i + b % 268435456 ^ i) / 268435456 ^ i
theorem carry_le (a b i : Nat) : carry a b i ≤ 1 := by
  unfold carry
  have h1 := Nat.mod_lt a (B_pos i)
  have h2 := Nat.mod_lt b (B_pos i)
  generalize 268435456 ^ i = P at *
  have : (a % P + b % P) / P < 2 := by rw [Nat.div_lt_iff_lt_mul (by omega)]; omega
  omega
theorem sum_dm (a b i : Nat) : (a + b) / 268435456 ^ i = a / 268435456 ^ i + b / 268435456 ^ i + carry a b i := by
  unfold carry
  have h1 := Nat.div_add_mod a (268435456 ^ i)
  have h2 := Nat.div_add_mod b (268435456 ^ i)
  have hp := B_pos i
  generalize 268435456 ^ i = P at *
  have e : a + b = P * (a / P + b / P) + (a % P + b % P) := by rw [Nat.mul_add]; omega
  conv => lhs; rw [e]
  rw [Nat.mul_add_div hp]
theorem sum_step (a b i : Nat) : digit (a + b) i = (carry a b i + digit a i + digit b i) % 268435456 ∧ carry a b (i + 1) = (carry a b i + digit a i + digit b i) / 268435456 := by
  have h0 := sum_dm a b i
  have h1 := sum_dm a b (i + 1)
  have a1 := digit_step a i
  have b1 := digit_step b i
  have c1 := digit_step (a + b) i
  have l1 := digit_lt (a + b) i
  generalize digit (a + b) i = x at *
  generalize digit a i = y at *
  generalize digit b i = z at *
  generalize carry a b i = c at *
  generalize carry a b (i + 1) = c' at *
  omega
theorem carry_zero (a b : Nat) : carry a b 0 = 0 := by unfold carry; simp [Nat.mod_one]
theorem sum_more {a b i : Nat} (h : i < nd a ∨ i < nd b ∨ 0 < carry a b i) : i < nd (a + b) := by
  rw [lt_nd]
  rcases h with h | h | h
  · rw [lt_nd] at h; omega
  · rw [lt_nd] at h; omega
  · have := sum_dm a b i
    rcases Nat.lt_or_ge (a + b) (268435456 ^ i) with q | q
    · rw [Nat.div_eq_of_lt q] at this
      generalize a / 268435456 ^ i = u at *
      generalize b / 268435456 ^ i = v at *
      omega
    · exact q
theorem sum_end {a b i : Nat} (h1 : nd a ≤ i) (h2 : nd b ≤ i) (h3 : carry a b i = 0) : nd (a + b) ≤ i := by
  rw [nd_le] at *
  have := sum_dm a b i
  rw [Nat.div_eq_of_lt h1, Nat.div_eq_of_lt h2, h3] at this
  rcases Nat.lt_or_ge (a + b) (268435456 ^ i) with q | q
  · exact q
  · have := Nat.div_pos q (B_pos i)
    omega
theorem digit_out {N i : Nat} (h : nd N ≤ i) : digit N i = 0 := by
  unfold digit
  rw [Nat.div_eq_of_lt ((nd_le N i).1 h)]
/-! ### differences -/
def borrow (a b i : Nat) : Nat := if a % 268435456 ^ i < b % 268435456 ^ i then 1 else 0
theorem borrow_le (a b i : Nat) : borrow a b i ≤ 1 := by unfold borrow; split <;> omega
theorem sub_dm {a b : Nat} (hab : b ≤ a) (i : Nat) : (a - b) / 268435456 ^ i + b / 268435456 ^ i + borrow a b i = a / 268435456 ^ i := by
  unfold borrow
  have h1 := Nat.div_add_mod a (268435456 ^ i)
  have h2 := Nat.div_add_mod b (268435456 ^ i)
  have m1 := Nat.mod_lt a (B_pos i)
  have m2 := Nat.mod_lt b (B_pos i)
  have hp := B_pos i
  generalize 268435456 ^ i = P at *
  have hd : b / P ≤ a / P := Nat.div_le_div_right hab
  split
  · rename_i h
    have hd2 : b / P + 1 ≤ a / P := by
      rcases Nat.lt_or_ge (b / P) (a / P) with q | q
      · exact q
      · have : a / P = b / P := by omega
        rw [this] at h1
        omega
    have e : a - b = P * (a / P - b / P - 1) + (P + a % P - b % P) := by
      have h3 : P * (a / P - b / P - 1) = P * (a / P) - P * (b / P) - P := by rw [Nat.mul_sub, Nat.mul_sub, Nat.mul_one]
      have h4 : P * (b / P + 1) ≤ P * (a / P) := Nat.mul_le_mul_left _ hd2
      rw [Nat.mul_add, Nat.mul_one] at h4
      rw [h3]
      generalize P * (a / P) = u at *
      generalize P * (b / P) = v at *
      generalize a % P = r at *
      generalize b % P = t at *
      omega
    rw [e, Nat.mul_add_div hp, Nat.div_eq_of_lt (show P + a % P - b % P < P by omega)]
    generalize a / P = u at *
    generalize b / P = v at *
    omega
  · have e : a - b = P * (a / P - b / P) + (a % P - b % P) := by
      have h3 : P * (a / P - b / P) = P * (a / P) - P * (b / P) := by rw [Nat.mul_sub]
      have h4 : P * (b / P) ≤ P * (a / P) := Nat.mul_le_mul_left _ hd
      rw [h3]
      generalize P * (a / P) = u at *
      generalize P * (b / P) = v at *
      generalize a % P = r at *
      generalize b % P = t at *
      omega
    rw [e, Nat.mul_add_div hp, Nat.div_eq_of_lt (show a % P - b % P < P by omega)]
    generalize a / P = u at *
    generalize b / P = v at *
    omega
theorem sub_step {a b : Nat} (hab : b ≤ a) (i : Nat) :
    (digit a i < borrow a b i + digit b i → digit (a - b) i + borrow a b i + digit b i = digit a i + 268435456 ∧ borrow a b (i + 1) = 1) ∧
    (borrow a b i + digit b i ≤ digit a i → digit (a - b) i + borrow a b i + digit b i = digit a i ∧ borrow a b (i + 1) = 0) := by
  have h0 := sub_dm hab i
  have h1 := sub_dm hab (i + 1)
  have a1 := digit_step a i
  have b1 := digit_step b i
  have c1 := digit_step (a - b) i
  have l1 := digit_lt (a - b) i
  have l2 := digit_lt a i
  have l3 := digit_lt b i
  have b1 := borrow_le a b i
  have b2 := borrow_le a b (i + 1)
  generalize digit (a - b) i = x at *
  generalize digit a i = y at *
  generalize digit b i = z at *
  generalize borrow a b i = c at *
  generalize borrow a b (i + 1) = c' at *
  omega
theorem borrow_zero (a b : Nat) : borrow a b 0 = 0 := by unfold borrow; simp [Nat.mod_one]
/-! ### order -/
theorem order_step {a b i : Nat} (h : a / 268435456 ^ (i + 1) = b / 268435456 ^ (i + 1)) :
    (digit a i < digit b i → a < b) ∧ (digit b i < digit a i → b < a) ∧ (digit a i = digit b i → a / 268435456 ^ i = b / 268435456 ^ i) := by
  have a1 := digit_step a i
  have b1 := digit_step b i
  refine ⟨fun q => ?_, fun q => ?_, fun q => by omega⟩
  · rcases Nat.lt_or_ge a b with r | r
    · exact r
    · have := Nat.div_le_div_right (c := 268435456 ^ i) r
      omega
  · rcases Nat.lt_or_ge b a with r | r
    · exact r
    · have := Nat.div_le_div_right (c := 268435456 ^ i) r
      omega
theorem nd_lt_lt {a b : Nat} (h : nd a < nd b) : a < b := by
  rcases Nat.lt_or_ge a b with r | r
  · exact r
  · have := nd_mono r; omega
/-! ### parts -/
theorem part_step (a d i : Nat) (hd : 0 < d) : (a / 268435456 ^ (i + 1) % d * 268435456 + digit a i) / d = digit (a / d) i ∧ (a / 268435456 ^ (i + 1) % d * 268435456 + digit a i) % d = a / 268435456 ^ i % d := by
  have a1 := digit_step a i
  have l := digit_lt a i
  have q := Nat.div_add_mod (a / 268435456 ^ (i + 1)) d
  have r := Nat.mod_lt (a / 268435456 ^ (i + 1)) hd
  have e : digit (a / d) i = a / 268435456 ^ i / d % 268435456 := by
    unfold digit
    rw [Nat.div_div_eq_div_mul, Nat.mul_comm, ← Nat.div_div_eq_div_mul]
  rw [e, a1]
  generalize a / 268435456 ^ (i + 1) = A at *
  generalize digit a i = x at *
  have e2 : A * 268435456 + x = d * (A / d * 268435456) + (A % d * 268435456 + x) := by
    have : A * 268435456 = (d * (A / d) + A % d) * 268435456 := by rw [q]
    rw [this, Nat.add_mul, Nat.mul_assoc]
    omega
  have lt : (A % d * 268435456 + x) / d < 268435456 := by
    rw [Nat.div_lt_iff_lt_mul hd]
    have : (A % d + 1) * 268435456 ≤ d * 268435456 := Nat.mul_le_mul_right _ r
    rw [Nat.mul_comm 268435456]
    omega
  rw [e2, Nat.mul_add_div hd, Nat.mul_add_mod]
  refine ⟨?_, rfl⟩
  rw [Nat.mul_comm (A / d), Nat.mul_add_mod, Nat.mod_eq_of_lt lt]
/-! ### products -/
/-- What stands in the product's places in the round (i, k). -/
def tw (a b i k : Nat) : Nat := (a % 268435456 ^ i * b) % 268435456 ^ (i + k) + digit a i * (b % 268435456 ^ k) * 268435456 ^ i
def tf (a b i k j : Nat) : Nat := if j < i + k then digit (tw a b i k) j else digit (a % 268435456 ^ i * b) j
theorem tw_succ (a b i k : Nat) : tw a b i (k + 1) = tw a b i k + (digit (a % 268435456 ^ i * b) (i + k) + digit a i * digit b k) * 268435456 ^ (i + k) := by
  unfold tw
  rw [show i + (k + 1) = i + k + 1 by omega, mod_step, mod_step b k]
  have e : digit a i * (digit b k * 268435456 ^ k) * 268435456 ^ i = digit a i * digit b k * 268435456 ^ (i + k) := by
    rw [Nat.add_comm i k, Nat.pow_add]
    generalize 268435456 ^ k = x
    generalize 268435456 ^ i = y
    grind
  rw [Nat.mul_add, Nat.add_mul, e, Nat.add_mul]
  omega
theorem tw_step (a b i k : Nat) : tw a b i (k + 1) / 268435456 ^ (i + k) = digit (a % 268435456 ^ i * b) (i + k) + digit a i * digit b k + tw a b i k / 268435456 ^ (i + k) := by
  rw [tw_succ, Nat.add_mul_div_right _ _ (B_pos _)]
  omega
theorem tw_low (a b i k j : Nat) (h : j < i + k) : digit (tw a b i (k + 1)) j = digit (tw a b i k) j := by
  rw [tw_succ]
  have e : 268435456 ^ (i + k) = 268435456 ^ j * (268435456 * 268435456 ^ (i + k - j - 1)) := by
    rw [← Nat.pow_succ', ← Nat.pow_add]
    congr 1
    omega
  have hp := B_pos j
  generalize digit (a % 268435456 ^ i * b) (i + k) + digit a i * digit b k = X
  unfold digit
  rw [e]
  generalize 268435456 ^ j = P at *
  generalize 268435456 ^ (i + k - j - 1) = R
  have e2 : tw a b i k + X * (P * (268435456 * R)) = P * (268435456 * (X * R)) + tw a b i k := by grind
  rw [e2, Nat.mul_add_div hp, Nat.mul_add_mod]
theorem tf_step (a b i k j : Nat) : tf a b i (k + 1) j = if j = i + k then (digit (a % 268435456 ^ i * b) (i + k) + digit a i * digit b k + tw a b i k / 268435456 ^ (i + k)) % 268435456 else tf a b i k j := by
  unfold tf
  by_cases h : j = i + k
  · rw [if_pos h, if_pos (by omega), h]
    conv => lhs; unfold digit
    rw [tw_step]
  · rw [if_neg h]
    by_cases h2 : j < i + k
    · rw [if_pos h2, if_pos (by omega), tw_low _ _ _ _ _ h2]
    · rw [if_neg h2, if_neg (by omega)]
theorem tw_carry (a b i k : Nat) : tw a b i (k + 1) / 268435456 ^ (i + (k + 1)) = (digit (a % 268435456 ^ i * b) (i + k) + digit a i * digit b k + tw a b i k / 268435456 ^ (i + k)) / 268435456 := by
  rw [show i + (k + 1) = i + k + 1 by omega, Nat.pow_succ, ← Nat.div_div_eq_div_mul, tw_step]
theorem tw_lt (a b i k : Nat) : tw a b i k / 268435456 ^ (i + k) < 268435456 := by
  rw [Nat.div_lt_iff_lt_mul (B_pos _)]
  unfold tw
  have h1 := Nat.mod_lt (a % 268435456 ^ i * b) (B_pos (i + k))
  have h2 := digit_lt a i
  have h3 := Nat.mod_lt b (B_pos k)
  have h4 : digit a i * (b % 268435456 ^ k) * 268435456 ^ i ≤ 268435455 * 268435456 ^ (i + k) := by
    rw [Nat.add_comm i k, Nat.pow_add, ← Nat.mul_assoc]
    exact Nat.mul_le_mul_right _ (Nat.mul_le_mul (by omega) (by omega))
  generalize 268435456 ^ (i + k) = P at *
  omega
theorem tw_zero (a b i : Nat) : tw a b i 0 / 268435456 ^ (i + 0) = 0 := by
  unfold tw
  rw [Nat.pow_zero, Nat.mod_one, Nat.mul_zero, Nat.zero_mul, Nat.add_zero, Nat.div_eq_of_lt (Nat.mod_lt _ (B_pos _))]
theorem tf_zero (a b i j : Nat) : tf a b i 0 j = digit (a % 268435456 ^ i * b) j := by
  unfold tf
  split
  · rename_i h
    unfold tw
    rw [Nat.pow_zero, Nat.mod_one, Nat.mul_zero, Nat.zero_mul, Nat.add_zero]
    unfold digit
    rw [Nat.add_zero] at *
    have e : 268435456 ^ i = 268435456 ^ j * 268435456 ^ (i - j) := by rw [← Nat.pow_add]; congr 1; omega
    have e3 : 268435456 ^ (i - j) = 268435456 * 268435456 ^ (i - j - 1) := by rw [← Nat.pow_succ']; congr 1; omega
    rw [e]
    generalize a % (268435456 ^ j * 268435456 ^ (i - j)) * b = X
    rw [e3, Nat.mod_mul_right_div_self, Nat.mod_mod_of_dvd _ ⟨_, rfl⟩]
  · rfl
/-- At a row's end. -/
theorem tf_end (a b i j : Nat) : (if j = i + nd b then tw a b i (nd b) / 268435456 ^ (i + nd b) else tf a b i (nd b) j) = digit (a % 268435456 ^ (i + 1) * b) j := by
  have hb := nd_self b
  have hs := mod_step a i
  have hm : a % 268435456 ^ i * b < 268435456 ^ (i + nd b) := by
    rw [Nat.pow_add]
    rcases Nat.eq_zero_or_pos b with z | z
    · subst z; simp; exact Nat.mul_pos (B_pos _) (B_pos _)
    · exact Nat.lt_of_lt_of_le (Nat.mul_lt_mul_of_pos_right (Nat.mod_lt a (B_pos i)) z) (Nat.mul_le_mul_left _ (Nat.le_of_lt hb))
  have ew : tw a b i (nd b) = a % 268435456 ^ (i + 1) * b := by
    unfold tw
    rw [Nat.mod_eq_of_lt hm, Nat.mod_eq_of_lt hb, hs, Nat.add_mul]
    generalize 268435456 ^ i = x
    grind
  have hl := tw_lt a b i (nd b)
  rw [ew] at hl ⊢
  by_cases h : j = i + nd b
  · rw [if_pos h, h]
    unfold digit
    rw [Nat.mod_eq_of_lt hl]
  · rw [if_neg h]
    unfold tf
    rw [ew]
    by_cases h2 : j < i + nd b
    · rw [if_pos h2]
    · rw [if_neg h2]
      have hu : a % 268435456 ^ (i + 1) * b < 268435456 ^ j := by
        have : 268435456 ^ (i + nd b + 1) ≤ 268435456 ^ j := Nat.pow_le_pow_right (by omega) (by omega)
        rw [Nat.div_lt_iff_lt_mul (B_pos _), ← Nat.pow_succ'] at hl
        exact Nat.lt_of_lt_of_le hl this
      have hu2 : a % 268435456 ^ i * b < 268435456 ^ j := Nat.lt_of_lt_of_le hm (Nat.pow_le_pow_right (by omega) (by omega))
      unfold digit
      rw [Nat.div_eq_of_lt hu, Nat.div_eq_of_lt hu2]
theorem times_lt (a b : Nat) : a * b < 268435456 ^ (nd a + nd b) := by
  rw [Nat.pow_add]
  have ha := nd_self a
  have hb := nd_self b
  rcases Nat.eq_zero_or_pos b with z | z
  · subst z; simp; exact Nat.mul_pos (B_pos _) (B_pos _)
  · exact Nat.lt_of_lt_of_le (Nat.mul_lt_mul_of_pos_right ha z) (Nat.mul_le_mul_left _ (Nat.le_of_lt hb))
end DG
theorem block_of_add (a : Addr) (n : Nat) : (a.add n).block = a.block := by unfold Addr.add; split <;> rfl
theorem add_of_add (a : Addr) (i j : Nat) : (a.add i).add j = a.add (i + j) := by
  unfold Addr.add
  by_cases hi : i = 0 <;> by_cases hj : j = 0 <;> simp [hi, hj, Nat.add_assoc]

def Reads (w : World) (B size : Nat) (A : Option Addr) (n : Nat) (xs : List Value) : Prop :=
  xs.length = n * size ∧ (0 < n → ∃ ad, A = some ad ∧ ad.block < B ∧ ∀ j u, xs[j]? = some u → w.cell? (ad.add j) = some u)

section
variable {w w' : World} {B B' size n : Nat} {A : Option Addr} {xs : List Value}
theorem Reads.keep (h : Reads w B size A n xs) (hk : ∀ p : Addr, p.block < B → w'.cell? p = w.cell? p) : Reads w' B size A n xs :=
  ⟨h.1, fun hn => by
    obtain ⟨ad, e, hb, hc⟩ := h.2 hn
    exact ⟨ad, e, hb, fun j u hu => (hk _ (by rw [block_of_add]; exact hb)).trans (hc j u hu)⟩⟩
theorem Reads.below (h : Reads w B size A n xs) (hb : Below B w w') : Reads w' B size A n xs := h.keep fun _ hp => hb.cell hp
theorem Reads.drew (h : Reads w B size A n xs) : Reads w.drew B size A n xs := h
theorem Reads.drewN (h : Reads w B size A n xs) (k : Nat) : Reads (w.drewN k) B size A n xs := h
theorem Reads.alloc (h : Reads w B size A n xs) (hB : B ≤ w.heap.size) (o : Obj) : Reads (w.alloc o) B size A n xs := h.keep fun p hp => World.cell?_alloc_lt w o p (by omega)
theorem Reads.setCell (h : Reads w B size A n xs) {p : Addr} (hB : B ≤ p.block) (u : Value) : Reads (w.setCell p u) B size A n xs :=
  h.keep fun q hq => World.cell?_setCell_other w p q u (fun e => by subst e; omega)
theorem Reads.grown (h : Reads w B size A n xs) {row : Option Nat} (hg : w.grownBy w' row) (hB : B ≤ w.heap.size) (hr : ∀ g, row = some g → B ≤ g) : Reads w' B size A n xs :=
  h.keep fun p hp => World.cell?_of_block (hg.block p.block (by omega) (fun e => by have := hr _ e.symm; omega))
theorem Reads.cut (h : Reads w B size A n xs) {k cap : Nat} (hk : k ≤ n) (hc : n ≤ cap) :
    Reads w B size (if cap = k then A else A.map (·.add (k * size))) (n - k) (xs.drop (k * size)) := by
  refine ⟨by rw [List.length_drop, h.1, Nat.sub_mul], fun hn => ?_⟩
  obtain ⟨ad, rfl, hb, hcell⟩ := h.2 (by omega)
  rw [if_neg (by omega)]
  refine ⟨ad.add (k * size), rfl, by rw [block_of_add]; exact hb, fun j u hu => ?_⟩
  rw [add_of_add]
  exact hcell _ u (by rw [← hu, List.getElem?_drop])
end
section
variable {P : Program} (w : World)

theorem run_append_of_nil (base : Nat) (t ty e : TypeId) (i : TypeInfo) (size : Nat) (ht : P.underlying t = some (.slice e)) (hi : P.info? e = some i)
    (v : Value) (n : Nat) (xs : List Value) (hown : w.ownsRow base e size v n xs) (c : Nat) : (Builtin.append_ #[t, t] ty #[v, .slice none 0 c]).run P w = .ok v w := by
  rcases hown.2 with ⟨rfl, rfl⟩ | ⟨g, cap, cur, rfl, _, _, hnc, _⟩
  · simp [Builtin.append_, run_underlying ht, sizeOf, typeInfo, hi, Builtin.lenOf, Builtin.firstCells]
  · simp [Builtin.append_, run_underlying ht, sizeOf, typeInfo, hi, Builtin.lenOf, Builtin.firstCells, hnc, storeCells]

theorem run_append_any (base : Nat) (t ty e : TypeId) (i : TypeInfo) (z : Value) (size bytes : Nat) (ht : P.underlying t = some (.slice e)) (hi : P.info? e = some i) (hz : i.zero = some z)
    (hsize : i.size = size) (hby : i.bytes = bytes) (hzs : z.cells.size = size) (hsz : 0 < size)
    (v : Value) (n : Nat) (xs : List Value) (hown : w.ownsRow base e size v n xs)
    (B : Nat) (A : Option Addr) (m c : Nat) (news : List Value) (hr : Reads w B size A m news) (h1 : ∀ u ∈ news, u.oneCell' = true)
    (h63 : n + m ≤ maxLen) (hbytes : (n + m) * bytes ≤ 140737488355328) (hbase : base ≤ w.heap.size) :
    ∃ v' w', (Builtin.append_ #[t, t] ty #[v, .slice A m c]).run P w = .ok v' w' ∧ w'.ownsRow base e size v' (n + m) (xs ++ news) ∧ w.grownBy w' v.ownBlock ∧
      (v'.ownBlock = v.ownBlock ∨ v'.ownBlock = some w.heap.size) := by
  rcases A with _ | ad
  · have hm : m = 0 := by
      rcases Nat.eq_zero_or_pos m with h0 | h0
      · exact h0
      · obtain ⟨ad, h, _⟩ := hr.2 h0
        cases h
    subst hm
    have hn : news = [] := List.eq_nil_of_length_eq_zero (by simpa using hr.1)
    subst hn
    exact ⟨v, w, run_append_of_nil w base t ty e i size ht hi v n xs hown c, by simpa using hown, World.grownBy.refl w _, .inl rfl⟩
  · have hcells : ∀ j u, news[j]? = some u → w.cell? (ad.add j) = some u := by
      intro j u hu
      rcases Nat.eq_zero_or_pos m with h0 | h0
      · subst h0
        have hn : news = [] := List.eq_nil_of_length_eq_zero (by simpa using hr.1)
        subst hn
        simp at hu
      · obtain ⟨ad', h, _, hc⟩ := hr.2 h0
        injection h with h
        subst h
        exact hc j u hu
    obtain ⟨v', w', hrun, h2, h3, _, h5⟩ := run_append_own_at (P := P) w base t ty e i z size bytes ht hi hz hsize hby hzs hsz v n xs hown ad m c news hr.1 hcells h1 h63 hbytes hbase
    exact ⟨v', w', hrun, h2, h3, h5⟩

theorem wp_append_any {o : Oper} {a : Act} {K : Act → World → Prop} {Q : Exit → Act → World → Prop} (s x : Operand) (t : TypeId)
    (ho : o.op = .call { callee := .builtin .append, args := #[s, x], argTypes := #[t, t] })
    (base : Nat) (e : TypeId) (i : TypeInfo) (z : Value) (size bytes : Nat) (ht : P.underlying t = some (.slice e)) (hi : P.info? e = some i) (hz : i.zero = some z)
    (hsize : i.size = size) (hby : i.bytes = bytes) (hzs : z.cells.size = size) (hsz : 0 < size)
    (v : Value) (n : Nat) (xs : List Value) (hs : a.eval s = v) (hown : w.ownsRow base e size v n xs)
    (B : Nat) (A : Option Addr) (m c : Nat) (news : List Value) (hx : a.eval x = .slice A m c) (hr : Reads w B size A m news) (h1 : ∀ u ∈ news, u.oneCell' = true)
    (h63 : n + m ≤ maxLen) (hbytes : (n + m) * bytes ≤ 140737488355328) (hbase : base ≤ w.heap.size)
    (h : ∀ v' w', w'.ownsRow base e size v' (n + m) (xs ++ news) → w.grownBy w' v.ownBlock → (v'.ownBlock = v.ownBlock ∨ v'.ownBlock = some w.heap.size) → K (a.put o.dst v') w') : o.wp P a w K Q := by
  obtain ⟨v', w', hrun, h2, h3, h4⟩ := run_append_any (P := P) w base t o.type e i z size bytes ht hi hz hsize hby hzs hsz v n xs hown B A m c news hr h1 h63 hbytes hbase
  unfold Oper.wp execOp
  simp only [ho, resolve, invoke, builtin, Sem.run_bind, Sem.run_pure, Result.andThen_ok, List.map_toArray, List.map_cons, List.map_nil, hs, hx, hrun]
  exact h v' w' h2 h3 h4

theorem wpList_append_any {ops : Array Oper} {rest : List Oper} {o : Oper} {a : Act} {Q : Exit → Act → World → Prop} (hgd : o.guard = none) (s x : Operand) (t : TypeId)
    (ho : o.op = .call { callee := .builtin .append, args := #[s, x], argTypes := #[t, t] })
    (base : Nat) (e : TypeId) (i : TypeInfo) (z : Value) (size bytes : Nat) (ht : P.underlying t = some (.slice e)) (hi : P.info? e = some i) (hz : i.zero = some z)
    (hsize : i.size = size) (hby : i.bytes = bytes) (hzs : z.cells.size = size) (hsz : 0 < size)
    (v : Value) (n : Nat) (xs : List Value) (hs : a.eval s = v) (hown : w.ownsRow base e size v n xs)
    (B : Nat) (A : Option Addr) (m c : Nat) (news : List Value) (hx : a.eval x = .slice A m c) (hr : Reads w B size A m news) (h1 : ∀ u ∈ news, u.oneCell' = true)
    (h63 : n + m ≤ maxLen) (hbytes : (n + m) * bytes ≤ 140737488355328) (hbase : base ≤ w.heap.size)
    (h : ∀ v' w', w'.ownsRow base e size v' (n + m) (xs ++ news) → w.grownBy w' v.ownBlock → (v'.ownBlock = v.ownBlock ∨ v'.ownBlock = some w.heap.size) → wpList P ops Q rest (a.put o.dst v') w') : wpList P ops Q (o :: rest) a w :=
  wpList_plain hgd fun _ hK => wp_append_any w s x t ho base e i z size bytes ht hi hz hsize hby hzs hsz v n xs hs hown B A m c news hx hr h1 h63 hbytes hbase fun v' w' h2 h3 h4 => hK _ _ (h v' w' h2 h3 h4)

end


theorem map_getD (f : Int → Value) (l : List Int) (i : Nat) (h : i < l.length) : (l.map f)[i]? = some (f (l.getD i 0)) := by
  simp [List.getD_eq_getElem?_getD, h]
theorem addr_add (b off j : Nat) : (⟨b, off, none⟩ : Addr).add j = ⟨b, off + j, none⟩ := by
  unfold Addr.add; by_cases h : j = 0 <;> simp [h]
theorem map_one (k : IntKind) (l : List Int) : ∀ u ∈ l.map (Value.int k), u.oneCell' = true := by
  intro u hu; obtain ⟨x, _, rfl⟩ := List.mem_map.1 hu; rfl
theorem i64_info : (Tryz.prog.info? 3).map (fun i => (i.zero, i.size, i.bytes)) = some (some (.int .i64 0), 1, 8) := by kernel_rfl
theorem one_new (w : World) (x : Value) (t : TypeId) : ∀ j u, ([x] : List Value)[j]? = some u → (w.alloc (.cells #[x] t)).cell? ((⟨w.heap.size, 0, none⟩ : Addr).add j) = some u := by
  intro j u h
  cases j with
  | zero =>
    simp at h; subst h
    rw [show (⟨w.heap.size, 0, none⟩ : Addr).add 0 = ⟨w.heap.size, 0, none⟩ from rfl, World.cell?_alloc_at _ _ _ _ rfl]; rfl
  | succ j => simp at h
theorem one_int (k : IntKind) (x : Int) : ∀ u ∈ ([.int k x] : List Value), u.oneCell' = true := by intro u hu; simp at hu; subst hu; rfl
theorem below_drewN {B : Nat} {a w : World} (h : Below B a w) (n : Nat) : Below B a (w.drewN n) := ⟨h.os, h.tape, h.output, h.size, h.block⟩
open DG
/-- The slice value '.slice A n c' reads as the first n digits of N. -/
structure Dn (w : World) (A : Option Addr) (n c N : Nat) : Prop where
  le : n ≤ c
  cap : c ≤ 9223372036854775807
  small : n ≤ 100000
  cells : 0 < n → ∃ b off, A = some ⟨b, off, none⟩ ∧ b < w.heap.size ∧ ∀ i, i < n → w.cell? ⟨b, off + i, none⟩ = some (.int .i64 (digit N i : Int))
  null : A = none → c = 0
section
variable {w w' : World} {A : Option Addr} {n c N : Nat}
theorem Dn.below {B : Nat} (h : Dn w A n c N) (hb : Below B w w') (hB : w.heap.size ≤ B) : Dn w' A n c N :=
  ⟨h.le, h.cap, h.small, fun hn => by
    obtain ⟨b, off, e, hlt, hc⟩ := h.cells hn
    exact ⟨b, off, e, Nat.lt_of_lt_of_le hlt hb.size, fun i hi => (hb.cell (p := ⟨b, off + i, none⟩) (Nat.lt_of_lt_of_le hlt hB)).trans (hc i hi)⟩, h.null⟩
theorem Dn.drewN (h : Dn w A n c N) (k : Nat) : Dn (w.drewN k) A n c N := ⟨h.le, h.cap, h.small, h.cells, h.null⟩
theorem Dn.drew (h : Dn w A n c N) : Dn w.drew A n c N := ⟨h.le, h.cap, h.small, h.cells, h.null⟩
theorem Dn.alloc (h : Dn w A n c N) (o : Obj) : Dn (w.alloc o) A n c N := h.below ((Below.refl _ _).alloc (Nat.le_refl _) o) (Nat.le_refl _)
theorem Dn.upto (h : Dn w A n c N) {m : Nat} (hm : m ≤ n) : Dn w A m c N := by
  refine ⟨by have := h.le; omega, h.cap, by have := h.small; omega, fun h0 => ?_, h.null⟩
  obtain ⟨b, off, e, hlt, hc⟩ := h.cells (by omega)
  exact ⟨b, off, e, hlt, fun i hi => hc i (by omega)⟩
theorem Dn.cut (h : Dn w A n c N) {k : Nat} (hk : k ≤ n) : Dn w (if c = k then A else A.map (·.add k)) (n - k) (c - k) (N / 268435456 ^ k) := by
  have hle := h.le
  refine ⟨by omega, by have := h.cap; omega, by have := h.small; omega, fun hn => ?_, fun hA => ?_⟩
  · obtain ⟨b, off, rfl, hlt, hc⟩ := h.cells (by omega)
    rw [if_neg (by omega)]
    refine ⟨b, off + k, by simp only [Option.map]; rw [addr_add], hlt, fun i hi => ?_⟩
    rw [Nat.add_assoc, hc _ (by omega)]
    have e : digit (N / 268435456 ^ k) i = digit N (k + i) := by unfold digit; rw [Nat.div_div_eq_div_mul, Nat.pow_add]
    rw [e]
  · by_cases e : c = k
    · omega
    · rw [if_neg e] at hA
      cases A with
      | none => have := h.null rfl; omega
      | some a => simp at hA
theorem Dn.reads (h : Dn w A n c N) : Reads w w.heap.size 1 A n ((dn N n).map (Value.int .i64)) := by
  refine ⟨by simp [dn_len], fun hn => ?_⟩
  obtain ⟨b, off, rfl, hlt, hc⟩ := h.cells hn
  refine ⟨_, rfl, hlt, fun j u hu => ?_⟩
  have hj : j < (dn N n).length := by
    rcases Nat.lt_or_ge j (dn N n).length with hj | hj
    · exact hj
    · rw [List.getElem?_eq_none (by simpa using hj)] at hu; cases hu
  rw [map_getD _ _ _ hj] at hu
  injection hu with hu
  rw [dn_len] at hj
  rw [addr_add, hc j hj, ← hu, dn_getD hj]
theorem own_dn {B : Nat} {v : Value} (hs : n ≤ 100000) (h : w.ownsRow B 3 1 v n ((dn N n).map (Value.int .i64))) : ∃ A c, v = .slice A n c ∧ Dn w A n c N := by
  rcases h.2 with ⟨rfl, h0⟩ | ⟨g, cap, cur, rfl, _, hg, hnc, hm, _⟩
  · subst h0
    exact ⟨none, 0, rfl, by omega, by omega, by omega, fun h => absurd h (by omega), fun _ => rfl⟩
  · refine ⟨_, _, rfl, by omega, by unfold maxLen at hm; omega, hs, fun hn => ⟨g, 0, rfl, ?_, fun i hi => ?_⟩, fun h => by cases h⟩
    · rcases Nat.lt_or_ge g w.heap.size with hlt | hge
      · exact hlt
      · rw [Array.getElem?_eq_none hge] at hg; cases hg
    · rw [Nat.zero_add, h.cellAt i (by omega), map_getD _ _ _ (by rw [dn_len]; exact hi), dn_getD hi]
theorem dn_of_own {B : Nat} {A : Option Addr} {c : Nat} (hs : n ≤ 100000) (h : w.ownsRow B 3 1 (.slice A n c) n ((dn N n).map (Value.int .i64))) : Dn w A n c N := by
  obtain ⟨A', c', e, hd⟩ := own_dn hs h
  injection e with e1 _ e2
  rw [e1, e2]
  exact hd
end
/-- What a function that hands back a number's digits does. -/
def NPost (w : World) (N : Nat) (e : Ending) (w' : World) : Prop := ∃ A c, e = .returned (.slice A (nd N) c) ∧ Dn w' A (nd N) c N ∧ Below w.heap.size w w'
end Go.Proofs.YtfilgpifiboccaaGreat
namespace Go.Proofs.YtfilgpifiboccaaGreat
open Go.RowKit DG
theorem own_empty (w : World) {B : Nat} (hB : B ≤ w.heap.size) : (w.alloc (.cells #[] 3)).ownsRow B 3 1 (.slice (some ⟨w.heap.size, 0, none⟩) 0 0) 0 [] :=
  ⟨rfl, .inr ⟨w.heap.size, 0, #[], rfl, hB, heap_alloc_new w _, Nat.le_refl _, by decide, rfl, rfl⟩⟩
/-- A fresh list of the first k digits. -/
theorem npost_of {w w1 : World} {N k : Nat} {v : Value} (hk : nd N = k) (hs : k ≤ 100000) (hown : w1.ownsRow w.heap.size 3 1 v k ((dn N k).map (Value.int .i64))) (hb : Below w.heap.size w w1) : NPost w N (.returned v) w1 := by
  obtain ⟨A, c, rfl, hd⟩ := own_dn hs hown
  subst hk
  exact ⟨A, c, rfl, hd, hb⟩
set_option maxRecDepth 100000 in
set_option maxHeartbeats 400000 in
theorem trim_any (A : Option Addr) (n c N : Nat) (w : World) (h : Dn w A n c N) (hN : N < 268435456 ^ n) : Calls Tryz.prog 214 #[.slice A n c] w (NPost w N) := by
  obtain ⟨i0, hi, hz0, hz1, hz2⟩ := info_parts i64_info
  have hle := h.le
  have hcap := h.cap
  have hs := h.small
  have hcell := h.cells
  have H := Lib.hid h
  have HN := Lib.hid hN
  have HO := Lib.hid (own_empty w (Nat.le_refl w.heap.size))
  clear h hN
  go_enter Tryz.func214, Tryz.ntmps214
  go_wp2
  go_loop [3] (fun i => ∃ k : Nat, k ≤ n ∧ i = .int .i64 k ∧ Hid (nd N ≤ k)) (fun i => (intOf i).toNat)
  case atStart => exact ⟨n, Nat.le_refl _, rfl, Lib.hid ((nd_le N n).2 HN.out)⟩
  case round =>
    obtain ⟨k, hk, rfl, hno⟩ := hrel
    by_cases hd : nd N = k
    · have HR := Lib.hid (((H.out.upto hk).reads.below ((Below.refl w.heap.size w).alloc (Nat.le_refl _) (.cells #[] 3))))
      have HD := Lib.hid hd
      have FIN : ∀ v' w1, w1.ownsRow w.heap.size 3 1 v' (0 + k) ([] ++ (dn N k).map (Value.int .i64)) → (w.alloc (.cells #[] 3)).grownBy w1 (some w.heap.size) → NPost w N (.returned v') w1 := fun v' w1 h1 h2 =>
        npost_of HD.out (by omega) (by rw [Nat.zero_add, List.nil_append] at h1; exact h1) ((((Below.refl w.heap.size w).alloc (Nat.le_refl _) (.cells #[] 3))).grown h2 (by simp) (fun g hg => by cases hg; exact Nat.le_refl _))
      have HF := Lib.hid FIN
      clear FIN
      have key : k = 0 ∨ (0 < k ∧ digit N (k - 1) ≠ 0) := by
        rcases Nat.eq_zero_or_pos k with z | z
        · exact .inl z
        · refine .inr ⟨z, fun hz => ?_⟩
          obtain ⟨m, rfl⟩ : ∃ m, k = m + 1 := ⟨k - 1, by omega⟩
          have := (nd_le N m).2 (trim_zero ((nd_le N _).1 hno.out) hz)
          omega
      clear hd
      rcases key with rfl | ⟨k0, hz⟩
      · clear hcell
        go_wp2_with (first | (at_builtin; refine wpList_append_any _ rfl (.tmp 18) (.tmp 21) 115 rfl w.heap.size 3 i0 (.int .i64 0) 1 8 Tryz.underlying115 hi hz0 hz1 hz2 rfl (by decide) _ 0 [] rfl HO.out w.heap.size _ 0 _ ((dn N 0).map (Value.int .i64)) rfl HR.out (map_one _ _) ?c1 ?c2 ?c3 ?_))
        intro v' w1 h1 h2 _
        have HX := Lib.hid (HF.out v' w1 (by simpa using h1) (by simpa [Value.ownBlock] using h2))
        clear h1 h2
        go_wp2
        go_ret
        exact HX.out
      · obtain ⟨b, off, rfl, hlt, hcc⟩ := hcell (by omega)
        have hc0 := hcc (k - 1) (by omega)
        clear hcc hcell
        have e1 : ((k - 1 : Nat) : Int) = (k : Int) - 1 := by omega
        have hne : ((digit N (k - 1) : Int) == 0) = false := beq_eq_false_iff_ne.2 (by omega)
        generalize (digit N (k - 1) : Int) = y at *
        clear hz
        go_wp2_with (first | (at_builtin; refine wpList_append_any _ rfl (.tmp 18) (.tmp 21) 115 rfl w.heap.size 3 i0 (.int .i64 0) 1 8 Tryz.underlying115 hi hz0 hz1 hz2 rfl (by decide) _ 0 [] rfl HO.out w.heap.size _ k _ ((dn N k).map (Value.int .i64)) rfl HR.out (map_one _ _) ?d1 ?d2 ?d3 ?_))
        case d1 => unfold maxLen; omega
        case d2 => omega
        intro v' w1 h1 h2 _
        have HX := Lib.hid (HF.out v' w1 (by simpa using h1) (by simpa [Value.ownBlock] using h2))
        clear h1 h2
        go_wp2
        go_ret
        exact HX.out
    · have hpos : 0 < k := by
        rcases Nat.eq_zero_or_pos k with z | z
        · have := hno.out; omega
        · exact z
      obtain ⟨b, off, rfl, hlt, hcc⟩ := hcell (by omega)
      have hc0 := hcc (k - 1) (by omega)
      clear hcc hcell
      have e1 : ((k - 1 : Nat) : Int) = (k : Int) - 1 := by omega
      have hz : digit N (k - 1) = 0 := by
        rcases Nat.eq_zero_or_pos (digit N (k - 1)) with z | z
        · exact z
        · exfalso
          have q := trim_done (N := N) (n := k - 1) (by rw [show k - 1 + 1 = k by omega]; exact (nd_le N _).1 hno.out) (by omega)
          omega
      rw [hz] at hc0
      have HK := Lib.hid (show nd N ≤ k - 1 from by have := hno.out; omega)
      clear hz hd
      go_wp2
      go_round
      case rel => exact ⟨k - 1, by omega, by rw [e1], HK⟩
      case measure => simp [intOf]; omega
end Go.Proofs.YtfilgpifiboccaaGreat
namespace Go.Proofs.YtfilgpifiboccaaGreat
open Go.RowKit DG
def IPost (w : World) (x : Int) (e : Ending) (w' : World) : Prop := e = .returned (.int .i64 x) ∧ Below w.heap.size w w'
def ordR (a b : Nat) : Int := if a < b then -1 else if b < a then 1 else 0
set_option maxRecDepth 100000 in
set_option maxHeartbeats 400000 in
theorem order_any (A A' : Option Addr) (c c' a b : Nat) (w : World) (h : Dn w A (nd a) c a) (h' : Dn w A' (nd b) c' b) : Calls Tryz.prog 201 #[.slice A (nd a) c, .slice A' (nd b) c'] w (IPost w (ordR a b)) := by
  have hs := h.small
  have hs' := h'.small
  have H := Lib.hid h
  have H' := Lib.hid h'
  clear h h'
  have HB := Lib.hid (Below.refl w.heap.size w)
  rcases Nat.lt_trichotomy (nd a) (nd b) with q | q | q
  · have HF := Lib.hid (show IPost w (ordR a b) (.returned (.int .i64 (-1))) w from ⟨by unfold ordR; rw [if_pos (nd_lt_lt q)], HB.out⟩)
    go_enter Tryz.func201, Tryz.ntmps201
    go_wp2
    go_ret
    exact HF.out
  · have HQ := Lib.hid q
    rw [← q] at hs' ⊢
    generalize hn : nd a = n at *
    have HA := Lib.hid (show a < 268435456 ^ n from by rw [← hn]; exact nd_self a)
    have HA' := Lib.hid (show b < 268435456 ^ n from by have := nd_self b; rw [← HQ.out] at this; exact this)
    have H2 := Lib.hid (show Dn w A' n c' b from by rw [HQ.out]; exact H'.out)
    clear q H' hn HQ
    go_enter Tryz.func201, Tryz.ntmps201
    go_wp2
    go_loopw [5] (fun i wr => ∃ k : Nat, k ≤ n ∧ i = .int .i64 ((k : Int) - 1) ∧ Hid (a / 268435456 ^ k = b / 268435456 ^ k) ∧ Hid (Below w.heap.size w wr)) (fun i _ => (intOf i + 1).toNat)
    case atStart => exact ⟨n, Nat.le_refl _, rfl, Lib.hid (by rw [Nat.div_eq_of_lt HA.out, Nat.div_eq_of_lt HA'.out]), HB⟩
    case round =>
      obtain ⟨k, hk, rfl, he, hb⟩ := hrel
      by_cases k0 : k = 0
      · subst k0
        have HF := Lib.hid (show IPost w (ordR a b) (.returned (.int .i64 0)) wr from ⟨by
          have : a = b := by have := he.out; simpa using this
          subst this
          unfold ordR; simp, hb.out⟩)
        go_wp2
        go_ret
        exact HF.out
      · obtain ⟨b1, o1, rfl, l1, cc1⟩ := (H.out.below hb.out (Nat.le_refl _)).cells (by omega)
        obtain ⟨b2, o2, rfl, l2, cc2⟩ := (H2.out.below hb.out (Nat.le_refl _)).cells (by omega)
        have hc1 := cc1 (k - 1) (by omega)
        have hc2 := cc2 (k - 1) (by omega)
        clear cc1 cc2
        have e1 : ((k - 1 : Nat) : Int) = (k : Int) - 1 := by omega
        have st := order_step (a := a) (b := b) (i := k - 1) (by rw [show k - 1 + 1 = k by omega]; exact he.out)
        rcases Nat.lt_trichotomy (digit a (k - 1)) (digit b (k - 1)) with q | q | q
        · have HF := Lib.hid (show ∀ m, IPost w (ordR a b) (.returned (.int .i64 (-1))) (wr.drewN m) from fun m => ⟨by unfold ordR; rw [if_pos (st.1 q)], below_drewN hb.out m⟩)
          have d1 : ((digit a (k - 1) : Int) < (digit b (k - 1) : Int)) := by omega
          clear st q
          generalize (digit a (k - 1) : Int) = x at *
          generalize (digit b (k - 1) : Int) = y at *
          go_wp2
          go_quiet (fail)
          go_wp2
          go_ret
          exact HF.out _
        · have HE := Lib.hid (st.2.2 q)
          rw [q] at hc1
          clear st q
          generalize (digit b (k - 1) : Int) = y at *
          go_wp2
          go_quiet (fail)
          go_wp2
          go_quiet (fail)
          go_wp2
          go_roundw
          case rel => exact ⟨k - 1, by omega, by rw [e1], HE, Lib.hid (below_drewN hb.out _)⟩
          case measure => simp [intOf]; omega
        · have HF := Lib.hid (show ∀ m m', IPost w (ordR a b) (.returned (.int .i64 1)) ((wr.drewN m).drewN m') from fun m m' => ⟨by
            have := st.2.1 q
            unfold ordR; rw [if_neg (by omega), if_pos this], below_drewN (below_drewN hb.out m) m'⟩)
          have d1 : ((digit b (k - 1) : Int) < (digit a (k - 1) : Int)) := by omega
          clear st q
          generalize (digit a (k - 1) : Int) = x at *
          generalize (digit b (k - 1) : Int) = y at *
          go_wp2
          go_quiet (fail)
          go_wp2
          go_quiet (fail)
          go_wp2
          go_ret
          exact HF.out _ _
  · have HF := Lib.hid (show IPost w (ordR a b) (.returned (.int .i64 1)) w from ⟨by have := nd_lt_lt q; unfold ordR; rw [if_neg (by omega), if_pos this], HB.out⟩)
    go_enter Tryz.func201, Tryz.ntmps201
    go_wp2
    go_ret
    exact HF.out
end Go.Proofs.YtfilgpifiboccaaGreat
namespace Go.Proofs.YtfilgpifiboccaaGreat
open Go.RowKit DG
/-- A list being gathered: the first k digits of N. -/
structure Gth (w : World) (N k : Nat) (v : Value) (wr : World) : Prop where
  own : wr.ownsRow w.heap.size 3 1 v k ((dn N k).map (Value.int .i64))
  below : Below w.heap.size w wr
theorem Gth.start (w : World) (N : Nat) : Gth w N 0 (.slice none 0 0) w := ⟨World.ownsRow_nil _ _ _ _, Below.refl _ _⟩
theorem Gth.next {w wr w1 : World} {N k : Nat} {v v' : Value} {d : Int} (h : Gth w N k v wr) (hd : d = (digit N k : Int)) (ho : w1.ownsRow w.heap.size 3 1 v' (k + 1) ((dn N k).map (Value.int .i64) ++ [.int .i64 d])) (hg : (wr.alloc (.cells #[.int .i64 d] 3)).grownBy w1 v.ownBlock) : Gth w N (k + 1) v' w1 := by
  refine ⟨?_, (h.below.alloc h.below.size _).grown hg (by have := h.below.size; simp; omega) (fun g hg => (h.own.lt g hg).1)⟩
  rw [dn_snoc, List.map_append, ← hd]
  exact ho
theorem Gth.post {w wr : World} {N k : Nat} {v : Value} (h : Gth w N k v wr) (hk : nd N = k) (hs : k ≤ 100000) : NPost w N (.returned v) wr := npost_of hk hs h.own h.below
set_option maxRecDepth 100000 in
set_option maxHeartbeats 1000000 in
theorem sum_any (A A' : Option Addr) (c c' a b : Nat) (w : World) (h : Dn w A (nd a) c a) (h' : Dn w A' (nd b) c' b) (hs : nd (a + b) ≤ 90000) : Calls Tryz.prog 210 #[.slice A (nd a) c, .slice A' (nd b) c'] w (NPost w (a + b)) := by
  obtain ⟨i0, hi, hz0, hz1, hz2⟩ := info_parts i64_info
  have H := Lib.hid h
  have H' := Lib.hid h'
  have hsa := h.small
  have hsb := h'.small
  clear h h'
  generalize hna : nd a = n at *
  generalize hnb : nd b = m at *
  have HA := Lib.hid hna
  have HB := Lib.hid hnb
  clear hna hnb
  go_enter Tryz.func210, Tryz.ntmps210
  go_wp2
  go_loopw [5, 6, 7] (fun v cr i wr => ∃ k : Nat, k ≤ nd (a + b) ∧ i = .int .i64 (k : Int) ∧ cr = .int .i64 (carry a b k : Int) ∧ Hid (Gth w (a + b) k v wr)) (fun _ _ i _ => nd (a + b) - (intOf i).toNat)
  case atStart => exact ⟨0, Nat.zero_le _, rfl, by rw [carry_zero]; rfl, Lib.hid (Gth.start w (a + b))⟩
  case round =>
    obtain ⟨k, hk, rfl, rfl, hg⟩ := hrel
    have hcl := carry_le a b k
    have hst := Lib.hid (sum_step a b k)
    have hown1 := fun d : Int => (World.ownsRow.alloc (w := wr) hg.out.own (.cells #[.int .i64 d] 3))
    have HO := Lib.hid hown1
    clear hown1
    have hx := digit_lt a k
    have hy := digit_lt b k
    by_cases ha : k < n
    · by_cases hb : k < m
      · obtain ⟨b1, o1, rfl, l1, cc1⟩ := (H.out.below hg.out.below (Nat.le_refl _)).cells (by omega)
        have hc1 := cc1 k ha
        clear cc1
        obtain ⟨b2, o2, rfl, l2, cc2⟩ := (H'.out.below hg.out.below (Nat.le_refl _)).cells (by omega)
        have hc2 := cc2 k hb
        clear cc2
        have HM := Lib.hid (sum_more (a := a) (b := b) (i := k) (.inl (by rw [HA.out]; exact ha)))
        have HD := Lib.hid (show ((carry a b k : Int) + (digit a k : Int) + (digit b k : Int)) % 268435456 = (digit (a + b) k : Int) by rw [hst.out.1]; omega)
        have HC := Lib.hid (show ((carry a b k : Int) + (digit a k : Int) + (digit b k : Int)) / 268435456 = (carry a b (k + 1) : Int) by rw [hst.out.2]; omega)
        clear hst
        generalize digit a k = x at *
        generalize digit b k = y at *
        generalize carry a b k = cr at *
        go_wp2_with (at_builtin; refine wpList_append_own _ rfl (.tmp 46) (.tmp 49) 115 rfl w.heap.size 3 i0 (.int .i64 0) 1 8 Tryz.underlying115 hi hz0 hz1 hz2 rfl (by decide) u5 k _ rfl (HO.out (((cr : Int) + (x : Int) + (y : Int)) % 268435456)) ⟨wr.heap.size, 0, none⟩ 1 1 [.int .i64 (((cr : Int) + (x : Int) + (y : Int)) % 268435456)] rfl rfl ?p1 ?p2 ?p3 ?p4 ?p5 ?_)
        case p1 => exact one_new wr _ 3
        case p2 => exact one_int _ _
        case p3 => unfold maxLen; omega
        case p4 => omega
        case p5 => have := hg.out.below.size; simp; omega
        intro v' w1 hown2 hgr _
        have HS := Lib.hid (hg.out.next HD.out hown2 hgr)
        clear hown2 hgr HO
        go_wp2
        go_roundw
        case rel => exact ⟨k + 1, HM.out, by go_num, by rw [HC.out], HS⟩
        case measure => have := HM.out; simp [intOf]; omega

      · obtain ⟨b1, o1, rfl, l1, cc1⟩ := (H.out.below hg.out.below (Nat.le_refl _)).cells (by omega)
        have hc1 := cc1 k ha
        clear cc1
        have HM := Lib.hid (sum_more (a := a) (b := b) (i := k) (.inl (by rw [HA.out]; exact ha)))
        have hy0 : digit b k = 0 := digit_out (by rw [HB.out]; omega)
        have HD := Lib.hid (show ((carry a b k : Int) + (digit a k : Int)) % 268435456 = (digit (a + b) k : Int) by rw [hst.out.1]; omega)
        have HC := Lib.hid (show ((carry a b k : Int) + (digit a k : Int)) / 268435456 = (carry a b (k + 1) : Int) by rw [hst.out.2]; omega)
        clear hy0
        clear hst
        generalize digit a k = x at *
        generalize digit b k = y at *
        generalize carry a b k = cr at *
        go_wp2_with (at_builtin; refine wpList_append_own _ rfl (.tmp 46) (.tmp 49) 115 rfl w.heap.size 3 i0 (.int .i64 0) 1 8 Tryz.underlying115 hi hz0 hz1 hz2 rfl (by decide) u5 k _ rfl (HO.out (((cr : Int) + (x : Int)) % 268435456)) ⟨wr.heap.size, 0, none⟩ 1 1 [.int .i64 (((cr : Int) + (x : Int)) % 268435456)] rfl rfl ?q1 ?q2 ?q3 ?q4 ?q5 ?_)
        case q1 => exact one_new wr _ 3
        case q2 => exact one_int _ _
        case q3 => unfold maxLen; omega
        case q4 => omega
        case q5 => have := hg.out.below.size; simp; omega
        intro v' w1 hown2 hgr _
        have HS := Lib.hid (hg.out.next HD.out hown2 hgr)
        clear hown2 hgr HO
        go_wp2
        go_roundw
        case rel => exact ⟨k + 1, HM.out, by go_num, by rw [HC.out], HS⟩
        case measure => have := HM.out; simp [intOf]; omega

    · by_cases hb : k < m
      · obtain ⟨b2, o2, rfl, l2, cc2⟩ := (H'.out.below hg.out.below (Nat.le_refl _)).cells (by omega)
        have hc2 := cc2 k hb
        clear cc2
        have HM := Lib.hid (sum_more (a := a) (b := b) (i := k) (.inr (.inl (by rw [HB.out]; exact hb))))
        have hx0 : digit a k = 0 := digit_out (by rw [HA.out]; omega)
        have HD := Lib.hid (show ((carry a b k : Int) + (digit b k : Int)) % 268435456 = (digit (a + b) k : Int) by rw [hst.out.1]; omega)
        have HC := Lib.hid (show ((carry a b k : Int) + (digit b k : Int)) / 268435456 = (carry a b (k + 1) : Int) by rw [hst.out.2]; omega)
        clear hx0
        clear hst
        generalize digit a k = x at *
        generalize digit b k = y at *
        generalize carry a b k = cr at *
        go_wp2_with (at_builtin; refine wpList_append_own _ rfl (.tmp 46) (.tmp 49) 115 rfl w.heap.size 3 i0 (.int .i64 0) 1 8 Tryz.underlying115 hi hz0 hz1 hz2 rfl (by decide) u5 k _ rfl (HO.out (((cr : Int) + (y : Int)) % 268435456)) ⟨wr.heap.size, 0, none⟩ 1 1 [.int .i64 (((cr : Int) + (y : Int)) % 268435456)] rfl rfl ?r1 ?r2 ?r3 ?r4 ?r5 ?_)
        case r1 => exact one_new wr _ 3
        case r2 => exact one_int _ _
        case r3 => unfold maxLen; omega
        case r4 => omega
        case r5 => have := hg.out.below.size; simp; omega
        intro v' w1 hown2 hgr _
        have HS := Lib.hid (hg.out.next HD.out hown2 hgr)
        clear hown2 hgr HO
        go_wp2
        go_roundw
        case rel => exact ⟨k + 1, HM.out, by go_num, by rw [HC.out], HS⟩
        case measure => have := HM.out; simp [intOf]; omega

      · by_cases hcp : 0 < carry a b k
        · have HM := Lib.hid (sum_more (a := a) (b := b) (i := k) (.inr (.inr hcp)))
          have hx0 : digit a k = 0 := digit_out (by rw [HA.out]; omega)
          have hy0 : digit b k = 0 := digit_out (by rw [HB.out]; omega)
          have HD := Lib.hid (show ((carry a b k : Int)) % 268435456 = (digit (a + b) k : Int) by rw [hst.out.1]; omega)
          have HC := Lib.hid (show ((carry a b k : Int)) / 268435456 = (carry a b (k + 1) : Int) by rw [hst.out.2]; omega)
          clear hx0
          clear hy0
          clear hst
          generalize digit a k = x at *
          generalize digit b k = y at *
          generalize carry a b k = cr at *
          go_wp2_with (at_builtin; refine wpList_append_own _ rfl (.tmp 46) (.tmp 49) 115 rfl w.heap.size 3 i0 (.int .i64 0) 1 8 Tryz.underlying115 hi hz0 hz1 hz2 rfl (by decide) u5 k _ rfl (HO.out (((cr : Int)) % 268435456)) ⟨wr.heap.size, 0, none⟩ 1 1 [.int .i64 (((cr : Int)) % 268435456)] rfl rfl ?s1 ?s2 ?s3 ?s4 ?s5 ?_)
          case s1 => exact one_new wr _ 3
          case s2 => exact one_int _ _
          case s3 => unfold maxLen; omega
          case s4 => omega
          case s5 => have := hg.out.below.size; simp; omega
          intro v' w1 hown2 hgr _
          have HS := Lib.hid (hg.out.next HD.out hown2 hgr)
          clear hown2 hgr HO
          go_wp2
          go_roundw
          case rel => exact ⟨k + 1, HM.out, by go_num, by rw [HC.out], HS⟩
          case measure => have := HM.out; simp [intOf]; omega

        · have hc0 : carry a b k = 0 := by omega
          have HF := Lib.hid (hg.out.post (by
            have := sum_end (a := a) (b := b) (i := k) (by rw [HA.out]; omega) (by rw [HB.out]; omega) hc0
            omega) (by omega))
          clear hst HO
          rw [hc0]
          clear hc0 hcl hcp
          go_wp2
          go_ret
          exact HF.out
end Go.Proofs.YtfilgpifiboccaaGreat
namespace Go.Proofs.YtfilgpifiboccaaGreat
open Go.RowKit DG
set_option maxRecDepth 100000 in
set_option maxHeartbeats 1000000 in
theorem less_any (A A' : Option Addr) (c c' a b : Nat) (w : World) (h : Dn w A (nd a) c a) (h' : Dn w A' (nd b) c' b) (hab : b ≤ a) : Calls Tryz.prog 211 #[.slice A (nd a) c, .slice A' (nd b) c'] w (NPost w (a - b)) := by
  obtain ⟨i0, hi, hz0, hz1, hz2⟩ := info_parts i64_info
  have H := Lib.hid h
  have H' := Lib.hid h'
  have hsa := h.small
  have hsb := h'.small
  have HAB := Lib.hid hab
  clear h h' hab
  generalize hna : nd a = n at *
  generalize hnb : nd b = m at *
  have HA := Lib.hid hna
  have HB := Lib.hid hnb
  clear hna hnb
  go_enter Tryz.func211, Tryz.ntmps211
  go_wp2
  go_loopw [5, 6, 7] (fun v cr i wr => ∃ k : Nat, k ≤ n ∧ i = .int .i64 (k : Int) ∧ cr = .int .i64 (borrow a b k : Int) ∧ Hid (Gth w (a - b) k v wr)) (fun _ _ i _ => n - (intOf i).toNat)
  case atStart => exact ⟨0, Nat.zero_le _, rfl, by rw [borrow_zero]; rfl, Lib.hid (Gth.start w (a - b))⟩
  case round =>
    obtain ⟨k, hk, rfl, rfl, hg⟩ := hrel
    have hcl := borrow_le a b k
    have hst := Lib.hid (sub_step HAB.out k)
    have hown1 := fun d : Int => (World.ownsRow.alloc (w := wr) hg.out.own (.cells #[.int .i64 d] 3))
    have HO := Lib.hid hown1
    clear hown1
    have hx := digit_lt a k
    have hy := digit_lt b k
    by_cases hlt : k < n
    · obtain ⟨b1, o1, rfl, l1, cc1⟩ := (H.out.below hg.out.below (Nat.le_refl _)).cells (by omega)
      have hc1 := cc1 k hlt
      clear cc1
      by_cases hb : k < m
      · by_cases hq : digit a k < borrow a b k + digit b k
        · obtain ⟨b2, o2, rfl, l2, cc2⟩ := (H'.out.below hg.out.below (Nat.le_refl _)).cells (by omega)
          have hc2 := cc2 k hb
          clear cc2
          have hn : (digit a k : Int) - (borrow a b k : Int) - (digit b k : Int) < 0 := by omega
          have ST := hst.out.1 (by omega)
          have HD := Lib.hid (show (digit a k : Int) - (borrow a b k : Int) - (digit b k : Int) + 268435456 = (digit (a - b) k : Int) by have := ST.1; omega)
          have HC := Lib.hid ST.2
          clear ST
          clear hst hq
          generalize digit a k = x at *
          generalize digit b k = y at *
          generalize borrow a b k = cr at *
          go_wp2_with (at_builtin; refine wpList_append_own _ rfl (.tmp 35) (.tmp 37) 115 rfl w.heap.size 3 i0 (.int .i64 0) 1 8 Tryz.underlying115 hi hz0 hz1 hz2 rfl (by decide) u5 k _ rfl (HO.out ((x : Int) - (cr : Int) - (y : Int) + 268435456)) ⟨wr.heap.size, 0, none⟩ 1 1 [.int .i64 ((x : Int) - (cr : Int) - (y : Int) + 268435456)] rfl rfl ?p1 ?p2 ?p3 ?p4 ?p5 ?_)
          case p1 => exact one_new wr _ 3
          case p2 => exact one_int _ _
          case p3 => unfold maxLen; omega
          case p4 => omega
          case p5 => have := hg.out.below.size; simp; omega
          intro v' w1 hown2 hgr _
          have HS := Lib.hid (hg.out.next HD.out hown2 hgr)
          clear hown2 hgr HO
          go_wp2
          go_roundw
          case rel => exact ⟨k + 1, by omega, by go_num, by rw [HC.out]; rfl, HS⟩
          case measure => simp [intOf]; omega
        · obtain ⟨b2, o2, rfl, l2, cc2⟩ := (H'.out.below hg.out.below (Nat.le_refl _)).cells (by omega)
          have hc2 := cc2 k hb
          clear cc2
          have hn : ¬ (digit a k : Int) - (borrow a b k : Int) - (digit b k : Int) < 0 := by omega
          have ST := hst.out.2 (by omega)
          have HD := Lib.hid (show (digit a k : Int) - (borrow a b k : Int) - (digit b k : Int) = (digit (a - b) k : Int) by have := ST.1; omega)
          have HC := Lib.hid ST.2
          clear ST
          clear hst hq
          generalize digit a k = x at *
          generalize digit b k = y at *
          generalize borrow a b k = cr at *
          go_wp2_with (at_builtin; refine wpList_append_own _ rfl (.tmp 35) (.tmp 37) 115 rfl w.heap.size 3 i0 (.int .i64 0) 1 8 Tryz.underlying115 hi hz0 hz1 hz2 rfl (by decide) u5 k _ rfl (HO.out ((x : Int) - (cr : Int) - (y : Int))) ⟨wr.heap.size, 0, none⟩ 1 1 [.int .i64 ((x : Int) - (cr : Int) - (y : Int))] rfl rfl ?q1 ?q2 ?q3 ?q4 ?q5 ?_)
          case q2 => rfl
          case q3 => unfold maxLen; omega
          case q4 => omega
          case q5 => have := hg.out.below.size; simp; omega
          intro v' w1 hown2 hgr _
          have HS := Lib.hid (hg.out.next HD.out hown2 hgr)
          clear hown2 hgr HO
          go_wp2
          go_roundw
          case rel => exact ⟨k + 1, by omega, by go_num, by rw [HC.out]; rfl, HS⟩
          case measure => simp [intOf]; omega
      · by_cases hq : digit a k < borrow a b k + digit b k
        · have hy0 : digit b k = 0 := digit_out (by rw [HB.out]; omega)
          have hn : (digit a k : Int) - (borrow a b k : Int) < 0 := by omega
          have ST := hst.out.1 (by omega)
          have HD := Lib.hid (show (digit a k : Int) - (borrow a b k : Int) + 268435456 = (digit (a - b) k : Int) by have := ST.1; omega)
          have HC := Lib.hid ST.2
          clear ST
          clear hy0
          clear hst hq
          generalize digit a k = x at *
          generalize digit b k = y at *
          generalize borrow a b k = cr at *
          go_wp2_with (at_builtin; refine wpList_append_own _ rfl (.tmp 35) (.tmp 37) 115 rfl w.heap.size 3 i0 (.int .i64 0) 1 8 Tryz.underlying115 hi hz0 hz1 hz2 rfl (by decide) u5 k _ rfl (HO.out ((x : Int) - (cr : Int) + 268435456)) ⟨wr.heap.size, 0, none⟩ 1 1 [.int .i64 ((x : Int) - (cr : Int) + 268435456)] rfl rfl ?r1 ?r2 ?r3 ?r4 ?r5 ?_)
          case r1 => exact one_new wr _ 3
          case r2 => exact one_int _ _
          case r3 => unfold maxLen; omega
          case r4 => omega
          case r5 => have := hg.out.below.size; simp; omega
          intro v' w1 hown2 hgr _
          have HS := Lib.hid (hg.out.next HD.out hown2 hgr)
          clear hown2 hgr HO
          go_wp2
          go_roundw
          case rel => exact ⟨k + 1, by omega, by go_num, by rw [HC.out]; rfl, HS⟩
          case measure => simp [intOf]; omega
        · have hy0 : digit b k = 0 := digit_out (by rw [HB.out]; omega)
          have hn : ¬ (digit a k : Int) - (borrow a b k : Int) < 0 := by omega
          have ST := hst.out.2 (by omega)
          have HD := Lib.hid (show (digit a k : Int) - (borrow a b k : Int) = (digit (a - b) k : Int) by have := ST.1; omega)
          have HC := Lib.hid ST.2
          clear ST
          clear hy0
          clear hst hq
          generalize digit a k = x at *
          generalize digit b k = y at *
          generalize borrow a b k = cr at *
          go_wp2_with (at_builtin; refine wpList_append_own _ rfl (.tmp 35) (.tmp 37) 115 rfl w.heap.size 3 i0 (.int .i64 0) 1 8 Tryz.underlying115 hi hz0 hz1 hz2 rfl (by decide) u5 k _ rfl (HO.out ((x : Int) - (cr : Int))) ⟨wr.heap.size, 0, none⟩ 1 1 [.int .i64 ((x : Int) - (cr : Int))] rfl rfl ?s1 ?s2 ?s3 ?s4 ?s5 ?_)
          case s2 => rfl
          case s3 => unfold maxLen; omega
          case s4 => omega
          case s5 => have := hg.out.below.size; simp; omega
          intro v' w1 hown2 hgr _
          have HS := Lib.hid (hg.out.next HD.out hown2 hgr)
          clear hown2 hgr HO
          go_wp2
          go_roundw
          case rel => exact ⟨k + 1, by omega, by go_num, by rw [HC.out]; rfl, HS⟩
          case measure => simp [intOf]; omega
    · obtain rfl : k = n := by omega
      obtain ⟨A1, c1, rfl, hd⟩ := own_dn (by omega) hg.out.own
      have HT := Lib.hid (trim_any A1 k c1 (a - b) wr hd (by have := HAB.out; have := (nd_le a k).1 (by rw [HA.out]; exact Nat.le_refl _); omega))
      have HG := Lib.hid hg.out.below
      clear hd hst HO hx hy hcl hg
      go_wp2_with fail
      refine HT.out.mono ?_
      rintro e w2 ⟨A2, c2, rfl, hd2, hb2⟩
      have HF := Lib.hid (show NPost w (a - b) (.returned (.slice A2 (nd (a - b)) c2)) w2 from ⟨A2, c2, rfl, hd2, HG.out.trans (hb2.mono HG.out.size)⟩)
      clear hd2 hb2 HT HG
      generalize nd (a - b) = N at *
      go_wp2
      go_ret
      exact HF.out
end Go.Proofs.YtfilgpifiboccaaGreat
namespace Go.Proofs.YtfilgpifiboccaaGreat
open Go.RowKit DG
/-- A row of integers, made by the call. -/
structure Rw (w : World) (n : Nat) (f : Nat → Nat) (wr : World) : Prop where
  row : wr.rowIs w.heap.size 3 n (fun j => .int .i64 (f j : Int))
  below : Below w.heap.size w wr
theorem Rw.made (w : World) (n : Nat) : Rw w n (fun _ => 0) (w.alloc (.cells (madeCells #[.int .i64 0] n) 3)) := ⟨World.rowIs_made w _ n 3, (Below.refl _ _).alloc (Nat.le_refl _) _⟩
theorem Rw.set {w wr : World} {n : Nat} {f g : Nat → Nat} (h : Rw w n f wr) (i : Nat) (v : Int) (x : Nat) (hv : v = (x : Int)) (hg : ∀ j, j < n → (if j = i then x else f j) = g j) : Rw w n g (wr.setCell ⟨w.heap.size, i, none⟩ (.int .i64 v)) := by
  refine ⟨(h.row.set i (.int .i64 v)).congr fun j hj => ?_, h.below.setCell (Nat.le_refl _) _⟩
  rw [← hg j hj, hv]
  split <;> rfl
theorem Rw.drewN {w wr : World} {n : Nat} {f : Nat → Nat} (h : Rw w n f wr) (k : Nat) : Rw w n f (wr.drewN k) := ⟨h.row.of_block rfl, below_drewN h.below k⟩
theorem Rw.dn {w wr : World} {n : Nat} {f : Nat → Nat} {N : Nat} (h : Rw w n f wr) (hs : n ≤ 100000) (hf : ∀ j, j < n → f j = digit N j) : Dn wr (some ⟨w.heap.size, 0, none⟩) n n N :=
  ⟨Nat.le_refl _, by omega, hs, fun _ => ⟨_, _, rfl, h.row.lt, fun i hi => by rw [Nat.zero_add, h.row.cell hi, hf i hi]⟩, fun h => by cases h⟩
/-- A part's row. -/
def pf (q k j : Nat) : Nat := if j < k then 0 else digit q j
set_option maxRecDepth 100000 in
set_option maxHeartbeats 1000000 in
theorem npart_any (A : Option Addr) (c a d : Nat) (w : World) (h : Dn w A (nd a) c a) (hd0 : 0 < d) (hd : d ≤ 268435456) : Calls Tryz.prog 215 #[.slice A (nd a) c, .int .i64 (d : Int)] w (NPost w (a / d)) := by
  obtain ⟨i0, hi, hz0, hz1, hz2⟩ := info_parts i64_info
  have H := Lib.hid h
  have hsa := h.small
  clear h
  generalize hna : nd a = n at *
  have HA := Lib.hid hna
  clear hna
  have HM := Lib.hid (Rw.made w n)
  go_enter Tryz.func215, Tryz.ntmps215
  go_wp2_with (at_make; refine wpList_make_row _ rfl _ _ 115 rfl 3 i0 (.int .i64 0) Tryz.underlying115 hi hz0 hz1 rfl .i64 .i64 n rfl rfl (by rw [hz2]; omega) (by omega) ?_)
  generalize w.alloc (.cells (madeCells #[.int .i64 0] n) 3) = w0 at *
  go_wp2
  go_loopw [6, 7] (fun r i wr => ∃ k : Nat, k ≤ n ∧ i = .int .i64 ((k : Int) - 1) ∧ r = .int .i64 ((a / 268435456 ^ k % d : Nat) : Int) ∧ Hid (Rw w n (pf (a / d) k) wr)) (fun _ i _ => (intOf i + 1).toNat)
  case atStart =>
    refine ⟨n, Nat.le_refl _, rfl, ?_, Lib.hid ⟨HM.out.row.congr fun j hj => by unfold pf; rw [if_pos hj], HM.out.below⟩⟩
    rw [Nat.div_eq_of_lt ((nd_le a n).1 (by rw [HA.out]; exact Nat.le_refl _)), Nat.zero_mod]
    rfl
  case round =>
    obtain ⟨k, hk, rfl, rfl, hg⟩ := hrel
    by_cases k0 : k = 0
    · subst k0
      have hdn := hg.out.dn (N := a / d) (by omega) (fun j _ => by unfold pf; rw [if_neg (by omega)])
      have HT := Lib.hid (trim_any _ n n (a / d) wr hdn (Nat.lt_of_le_of_lt (Nat.div_le_self a d) ((nd_le a n).1 (by rw [HA.out]; exact Nat.le_refl _))))
      have HG := Lib.hid hg.out.below
      clear hdn hg HM
      generalize ((a / 268435456 ^ 0 % d : Nat) : Int) = r at *
      go_wp2_with fail
      refine HT.out.mono ?_
      rintro e w2 ⟨A2, c2, rfl, hd2, hb2⟩
      have HF := Lib.hid (show NPost w (a / d) (.returned (.slice A2 (nd (a / d)) c2)) w2 from ⟨A2, c2, rfl, hd2, HG.out.trans (hb2.mono HG.out.size)⟩)
      clear hd2 hb2 HT HG
      generalize nd (a / d) = N at *
      go_wp2
      go_ret
      exact HF.out
    · obtain ⟨b1, o1, rfl, l1, cc1⟩ := (H.out.below hg.out.below (Nat.le_refl _)).cells (by omega)
      have hc1 := cc1 (k - 1) (by omega)
      clear cc1
      have e1 : ((k - 1 : Nat) : Int) = (k : Int) - 1 := by omega
      have hrow := hg.out.row.cell (i := k - 1) (by omega)
      have hfro := hg.out.row.frozen (k - 1)
      have st := part_step a d (k - 1) hd0
      rw [show k - 1 + 1 = k by omega] at st
      have hx := digit_lt a (k - 1)
      have hr : a / 268435456 ^ k % d < d := Nat.mod_lt _ hd0
      generalize digit a (k - 1) = x at *
      generalize a / 268435456 ^ k % d = r at *
      generalize hr1 : a / 268435456 ^ (k - 1) % d = r1 at *
      have HR1 := Lib.hid hr1
      clear hr1
      have HS := Lib.hid (hg.out.set (k - 1) (((r : Int) * 268435456 + (x : Int)) / (d : Int)) (digit (a / d) (k - 1)) (by rw [← st.1, Int.natCast_ediv, Int.natCast_add, Int.natCast_mul]; rfl) (g := pf (a / d) (k - 1)) (fun j _ => by
        unfold pf
        by_cases e : j = k - 1
        · rw [if_pos e, if_neg (by omega), e]
        · rw [if_neg e]
          by_cases e2 : j < k - 1
          · rw [if_pos e2, if_pos (by omega)]
          · rw [if_neg e2, if_neg (by omega)]))
      have HR := Lib.hid (show (((r : Int) * 268435456 + (x : Int)) % (d : Int)) = (r1 : Int) by rw [← st.2, Int.natCast_emod, Int.natCast_add, Int.natCast_mul]; rfl)
      clear st HM
      generalize (pf (a / d) k (k - 1) : Int) = old at *
      have a1 : 0 ≤ (r : Int) := by omega
      have a2 : (r : Int) < (d : Int) := by omega
      have a3 : 0 ≤ (x : Int) := by omega
      have a4 : (x : Int) < 268435456 := by omega
      have a5 : (d : Int) ≤ 268435456 := by omega
      clear hr hx hd hd0
      generalize (r : Int) = R at *
      generalize (x : Int) = X at *
      generalize (d : Int) = D at *
      go_wp2
      go_roundw
      case rel => exact ⟨k - 1, by omega, by rw [e1], by rw [HR.out, HR1.out], HS⟩
      case measure => simp [intOf]; omega
end Go.Proofs.YtfilgpifiboccaaGreat
namespace Go.Proofs.YtfilgpifiboccaaGreat
open Go.RowKit DG
theorem digit_zero (j : Nat) : digit 0 j = 0 := by unfold digit; rw [Nat.zero_div, Nat.zero_mod]
theorem xy_bd {X Y : Int} (h1 : 0 ≤ X) (h2 : X ≤ 268435455) (h3 : 0 ≤ Y) (h4 : Y ≤ 268435455) : 0 ≤ X * Y ∧ X * Y ≤ 72057593501057025 :=
  ⟨Int.mul_nonneg h1 h3, Int.mul_le_mul h2 h4 h3 (by omega)⟩
set_option maxRecDepth 100000 in
set_option maxHeartbeats 1000000 in
theorem times_any (A A' : Option Addr) (c c' a b : Nat) (w : World) (h : Dn w A (nd a) c a) (h' : Dn w A' (nd b) c' b) (hs : nd a + nd b ≤ 90000) : Calls Tryz.prog 207 #[.slice A (nd a) c, .slice A' (nd b) c'] w (NPost w (a * b)) := by
  obtain ⟨i0, hi, hz0, hz1, hz2⟩ := info_parts i64_info
  have H := Lib.hid h
  have H' := Lib.hid h'
  clear h h'
  have HL := Lib.hid (times_lt a b)
  have HE := Lib.hid (tf_end a b)
  generalize hna : nd a = n at *
  generalize hnb : nd b = m at *
  have HA := Lib.hid hna
  clear hna hnb
  have HM := Lib.hid (Rw.made w (n + m))
  have ecast : ((n + m : Nat) : Int) = (n : Int) + (m : Int) := by omega
  go_enter Tryz.func207, Tryz.ntmps207
  go_wp2_with (at_make; refine wpList_make_row _ rfl _ _ 115 rfl 3 i0 (.int .i64 0) Tryz.underlying115 hi hz0 hz1 rfl .i64 .i64 (n + m) (by rw [ecast]; rfl) (by rw [ecast]; rfl) (by rw [hz2]; omega) (by omega) ?_)
  generalize w.alloc (.cells (madeCells #[.int .i64 0] (n + m)) 3) = w0 at *
  go_wp2
  go_loopw [6] (fun i wr => ∃ k : Nat, k ≤ n ∧ i = .int .i64 (k : Int) ∧ Hid (Rw w (n + m) (digit (a % 268435456 ^ k * b)) wr)) (fun i _ => n - (intOf i).toNat)
  case atStart =>
    refine ⟨0, Nat.zero_le _, rfl, Lib.hid ⟨HM.out.row.congr fun j hj => ?_, HM.out.below⟩⟩
    rw [Nat.pow_zero, Nat.mod_one, Nat.zero_mul, digit_zero]
  case round =>
    obtain ⟨i, hi, rfl, hg⟩ := hrel
    clear HM
    by_cases hin : i < n
    · go_wp2
      go_loopw [7, 8] (fun cr k wr => ∃ q : Nat, q ≤ m ∧ k = .int .i64 (q : Int) ∧ cr = .int .i64 ((tw a b i q / 268435456 ^ (i + q) : Nat) : Int) ∧ Hid (Rw w (n + m) (tf a b i q) wr)) (fun _ k _ => m - (intOf k).toNat)
      case atStart =>
        exact ⟨0, Nat.zero_le _, rfl, by rw [tw_zero]; rfl, Lib.hid ⟨hg.out.row.congr fun j hj => by rw [tf_zero], hg.out.below⟩⟩
      case round =>
        obtain ⟨q, hq, rfl, rfl, hg2⟩ := hrel
        clear hg
        have hcr := tw_lt a b i q
        by_cases hqm : q < m
        · obtain ⟨b1, o1, rfl, l1, cc1⟩ := (H.out.below hg2.out.below (Nat.le_refl _)).cells (by omega)
          obtain ⟨b2, o2, rfl, l2, cc2⟩ := (H'.out.below hg2.out.below (Nat.le_refl _)).cells (by omega)
          have hc1 := cc1 i hin
          have hc2 := cc2 q hqm
          clear cc1 cc2
          have hrow := hg2.out.row.cell (i := i + q) (by omega)
          have hfro := hg2.out.row.frozen (i + q)
          have ei : ((i + q : Nat) : Int) = (i : Int) + (q : Int) := by omega
          have hold : tf a b i q (i + q) = digit (a % 268435456 ^ i * b) (i + q) := by unfold tf; rw [if_neg (by omega)]
          rw [hold] at hrow
          have hx := digit_lt a i
          have hy := digit_lt b q
          have ho := digit_lt (a % 268435456 ^ i * b) (i + q)
          have st := tf_step a b i q
          have sc := tw_carry a b i q
          have TF := Lib.hid (show ∀ v : Int, v = (((digit (a % 268435456 ^ i * b) (i + q) + digit a i * digit b q + tw a b i q / 268435456 ^ (i + q)) % 268435456 : Nat) : Int) → ∀ m', Rw w (n + m) (tf a b i (q + 1)) ((wr.drewN m').setCell ⟨w.heap.size, i + q, none⟩ (.int .i64 v)) from fun v hv m' =>
            (hg2.out.drewN m').set (i + q) v _ hv (fun j _ => (st j).symm))
          clear st hold hg2
          generalize hdx : digit a i = x at *
          generalize hdy : digit b q = y at *
          generalize hdo : digit (a % 268435456 ^ i * b) (i + q) = o at *
          generalize hdc : tw a b i q / 268435456 ^ (i + q) = cr at *
          clear hdx hdy hdo hdc
          have HC := Lib.hid (show (((o : Int) + (x : Int) * (y : Int) + (cr : Int)) / 268435456) = ((tw a b i (q + 1) / 268435456 ^ (i + (q + 1)) : Nat) : Int) by rw [sc, Int.natCast_ediv, Int.natCast_add, Int.natCast_add, Int.natCast_mul]; rfl)
          have HV := Lib.hid (TF.out (((o : Int) + (x : Int) * (y : Int) + (cr : Int)) % 268435456) (by rw [Int.natCast_emod, Int.natCast_add, Int.natCast_add, Int.natCast_mul]; rfl))
          clear sc TF
          have bxy := xy_bd (X := (x : Int)) (Y := (y : Int)) (by omega) (by omega) (by omega) (by omega)
          have a1 : 0 ≤ (o : Int) := by omega
          have a2 : (o : Int) < 268435456 := by omega
          have a3 : 0 ≤ (cr : Int) := by omega
          have a4 : (cr : Int) < 268435456 := by omega
          have a5 : 0 ≤ (x : Int) := by omega
          have a6 : (x : Int) < 268435456 := by omega
          have a7 : 0 ≤ (y : Int) := by omega
          have a8 : (y : Int) < 268435456 := by omega
          clear hx hy ho hcr
          generalize (x : Int) = X at *
          generalize (y : Int) = Y at *
          generalize (o : Int) = O at *
          generalize (cr : Int) = CR at *
          clear ecast
          go_wp2
          go_quiet (fail)
          go_wp2
          go_roundw
          case rel => exact ⟨q + 1, by omega, by go_num, by rw [HC.out], Lib.hid (HV.out _)⟩
          case measure => simp [intOf]; omega
        · obtain rfl : q = m := by omega
          have hrow := hg2.out.row.cell (i := i + q) (by omega)
          have hfro := hg2.out.row.frozen (i + q)
          have ei : ((i + q : Nat) : Int) = (i : Int) + (q : Int) := by omega
          have TF := Lib.hid (show Rw w (n + q) (digit (a % 268435456 ^ (i + 1) * b)) (wr.setCell ⟨w.heap.size, i + q, none⟩ (.int .i64 ((tw a b i q / 268435456 ^ (i + q) : Nat) : Int))) from hg2.out.set (i + q) _ _ rfl (fun j _ => HE.out i j))
          clear hg2
          generalize hdc : tw a b i q / 268435456 ^ (i + q) = cr at *
          generalize (cr : Int) = CR at *
          generalize (tf a b i q (i + q) : Int) = O at *
          clear hdc hcr ecast
          go_wp2
          go_roundw
          case rel => exact ⟨i + 1, by omega, by go_num, TF⟩
          case measure => simp [intOf]; omega
    · obtain rfl : i = n := by omega
      have hdn := hg.out.dn (N := a * b) (by omega) (fun j _ => by rw [Nat.mod_eq_of_lt ((nd_le a i).1 (by rw [HA.out]; exact Nat.le_refl _))])
      have HT := Lib.hid (trim_any _ (i + m) (i + m) (a * b) wr hdn HL.out)
      have HG := Lib.hid hg.out.below
      clear hdn hg
      go_wp2_with fail
      refine HT.out.mono ?_
      rintro e w2 ⟨A2, c2, rfl, hd2, hb2⟩
      have HF := Lib.hid (show NPost w (a * b) (.returned (.slice A2 (nd (a * b)) c2)) w2 from ⟨A2, c2, rfl, hd2, HG.out.trans (hb2.mono HG.out.size)⟩)
      clear hd2 hb2 HT HG
      generalize nd (a * b) = N at *
      go_wp2
      go_ret
      exact HF.out
end Go.Proofs.YtfilgpifiboccaaGreat
namespace Go.Proofs.YtfilgpifiboccaaGreat
open Go.RowKit DG
theorem nd_unit (k : Nat) : nd (268435456 ^ k) = k + 1 := nd_eq (by rw [Nat.pow_succ]; have := B_pos k; omega) (.inr (Nat.le_refl _))
theorem digit_unit (k j : Nat) (h : j ≤ k) : digit (268435456 ^ k) j = if j = k then 1 else 0 := by
  unfold digit
  by_cases e : j = k
  · subst e
    rw [if_pos rfl, Nat.div_self (B_pos j)]
  · rw [if_neg e]
    have : 268435456 ^ k = 268435456 ^ (k - j - 1) * 268435456 * 268435456 ^ j := by
      rw [← Nat.pow_succ, ← Nat.pow_add]
      congr 1
      omega
    rw [this, Nat.mul_div_cancel _ (B_pos j), Nat.mul_mod_left]
set_option maxRecDepth 100000 in
set_option maxHeartbeats 1000000 in
theorem unit_any (k : Nat) (w : World) (hk : k ≤ 1000) : Calls Tryz.prog 193 #[.int .i64 (k : Int)] w (NPost w (268435456 ^ k)) := by
  obtain ⟨i0, hi, hz0, hz1, hz2⟩ := info_parts i64_info
  have ecast : ((k + 1 : Nat) : Int) = (k : Int) + 1 := by omega
  have HF := Lib.hid (show NPost w (268435456 ^ k) (.returned (.slice (some ⟨w.heap.size, 0, none⟩) (k + 1) (k + 1))) (w.alloc (.cells ((madeCells #[.int .i64 0] (k + 1)).setIfInBounds k (.int .i64 1)) 3)) from by
    have hz : ((madeCells #[Value.int .i64 0] (k + 1)).setIfInBounds k (.int .i64 1)).size = k + 1 := by simp [size_madeCells]
    have hr := World.rowIs_alloc w ((madeCells #[.int .i64 0] (k + 1)).setIfInBounds k (.int .i64 1)) 3 (fun j => .int .i64 (digit (268435456 ^ k) j : Int)) (fun i hi => by
      rw [hz] at hi
      rw [digit_unit k i (by omega), Array.getElem?_setIfInBounds]
      by_cases e : k = i
      · subst e
        rw [if_pos rfl, if_pos rfl, if_pos (by simp [size_madeCells])]
        rfl
      · rw [if_neg e, if_neg (fun h => e h.symm)]
        simp [madeCells, hi, Nat.mod_one])
    rw [hz] at hr
    have hs : Rw w (k + 1) (digit (268435456 ^ k)) (w.alloc (.cells ((madeCells #[.int .i64 0] (k + 1)).setIfInBounds k (.int .i64 1)) 3)) := ⟨hr, (Below.refl _ _).alloc (Nat.le_refl _) _⟩
    have hd := hs.dn (N := 268435456 ^ k) (by omega) (fun j _ => rfl)
    refine ⟨_, k + 1, by rw [nd_unit], ?_, hs.below⟩
    rw [nd_unit]
    exact hd)
  have HM := Lib.hid (Rw.made w (k + 1))
  have hrow := HM.out.row.cell (i := k) (by omega)
  have hfro := HM.out.row.frozen k
  have hl := HM.out.row.lt
  go_enter Tryz.func193, Tryz.ntmps193
  go_wp2_with (at_make; refine wpList_make_row _ rfl _ _ 115 rfl 3 i0 (.int .i64 0) Tryz.underlying115 hi hz0 hz1 rfl .i64 .i64 (k + 1) (by rw [ecast]; rfl) (by rw [ecast]; rfl) (by rw [hz2]; omega) (by omega) ?_)
  go_ret
  exact HF.out
set_option maxRecDepth 100000 in
set_option maxHeartbeats 1000000 in
theorem drop_any (A : Option Addr) (c a k : Nat) (w : World) (h : Dn w A (nd a) c a) (hk : k ≤ 1000) : Calls Tryz.prog 217 #[.slice A (nd a) c, .int .i64 (k : Int)] w (NPost w (a / 268435456 ^ k)) := by
  have hs := h.small
  have hle := h.le
  have hcap := h.cap
  by_cases q : nd a ≤ k
  · have HF := Lib.hid (show NPost w (a / 268435456 ^ k) (.returned (.slice none 0 0)) w from by
      have : nd (a / 268435456 ^ k) = 0 := by rw [nd_div]; omega
      refine ⟨none, 0, by rw [this], ?_, Below.refl _ _⟩
      rw [this]
      exact ⟨by omega, by omega, by omega, fun h => absurd h (by omega), fun _ => rfl⟩)
    clear h
    generalize nd a = n at *
    go_enter Tryz.func217, Tryz.ntmps217
    go_wp2
    go_ret
    exact HF.out
  · obtain ⟨b, off, rfl, hlt, _⟩ := h.cells (by omega)
    have HF := Lib.hid (show NPost w (a / 268435456 ^ k) (.returned (.slice (some ⟨b, off + k, none⟩) (nd a - k) (c - k))) w from by
      have hd := h.cut (k := k) (by omega)
      rw [if_neg (by omega)] at hd
      simp only [Option.map] at hd
      rw [addr_add] at hd
      refine ⟨_, c - k, by rw [nd_div], ?_, Below.refl _ _⟩
      rw [nd_div]
      exact hd)
    clear h
    generalize nd a = n at *
    go_enter Tryz.func217, Tryz.ntmps217
    go_wp2
    go_ret
    exact HF.out
/-! ### numbers with a sign -/
def ZPost (w : World) (Z : Int) (e : Ending) (w' : World) : Prop := ∃ A c, e = .returned (.agg #[.slice A (nd Z.natAbs) c, .bool (decide (Z < 0))]) ∧ Dn w' A (nd Z.natAbs) c Z.natAbs ∧ Below w.heap.size w w'
theorem dn_two {A : Option Addr} {n c N : Nat} {w : World} (h : Dn w A n c N) (x y : Obj) : Dn ((w.alloc x).alloc y) A n c N := (h.alloc x).alloc y
set_option maxRecDepth 100000 in
set_option maxHeartbeats 1000000 in
/-- 'sign': a zero is not negative. -/
theorem sign_any (A : Option Addr) (c N : Nat) (g : Bool) (w : World) (h : Dn w A (nd N) c N) : Calls Tryz.prog 206 #[.agg #[.slice A (nd N) c, .bool g]] w (ZPost w (if g then -(N : Int) else (N : Int))) := by
  have HB := Lib.hid (fun x y : Obj => ((Below.refl w.heap.size w).alloc (Nat.le_refl _) x).alloc (by simp) y)
  have HD := Lib.hid (dn_two h)
  have key : nd N = 0 ↔ N = 0 := by
    have := nd_le N 0
    simp at this
    omega
  have HK := Lib.hid key
  have e1 : ∀ g : Bool, (if g then -(N : Int) else (N : Int)).natAbs = N := fun g => by cases g <;> simp
  have FIN : ∀ g' : Bool, g' = decide ((if g then -(N : Int) else (N : Int)) < 0) → ∀ x y, ZPost w (if g then -(N : Int) else (N : Int)) (.returned (.agg #[.slice A (nd N) c, .bool g'])) ((w.alloc x).alloc y) := fun g' hg x y =>
    ⟨A, c, by rw [e1, hg], by rw [e1]; exact HD.out x y, HB.out x y⟩
  have HF := Lib.hid FIN
  clear FIN h key
  by_cases h0 : nd N = 0
  · have HN := Lib.hid (HK.out.1 h0)
    have hb : ((nd N : Int) == 0) = true := by rw [h0]; rfl
    have HX := Lib.hid (HF.out false (by rw [HN.out]; cases g <;> rfl))
    clear h0 HK e1
    generalize (if g then -(N : Int) else (N : Int)) = Z at *
    generalize nd N = n at *
    go_enter Tryz.func206, Tryz.ntmps206
    go_wp2
    refine bodyPost_ret (v := .agg #[.slice A n c, .bool false]) (by simp [results, Tryz.results206, go_sem]) rfl (HX.out _ _)
  · have hb : ((nd N : Int) == 0) = false := beq_eq_false_iff_ne.2 (by omega)
    have hN : N ≠ 0 := fun h => h0 (HK.out.2 h)
    have HX := Lib.hid (HF.out g (by
      cases g
      · simp
      · have : -(N : Int) < 0 := by omega
        rw [if_pos rfl]
        exact (decide_eq_true this).symm))
    clear h0 HK e1 hN
    generalize (if g then -(N : Int) else (N : Int)) = Z at *
    generalize nd N = n at *
    go_enter Tryz.func206, Tryz.ntmps206
    go_wp2
    refine bodyPost_ret (v := .agg #[.slice A n c, .bool g]) (by simp [results, Tryz.results206, go_sem]) rfl (HX.out _ _)
end Go.Proofs.YtfilgpifiboccaaGreat
namespace Go.Proofs.YtfilgpifiboccaaGreat
open Go.RowKit DG
/-- OfInt's variables: the result's block, the number's block, and its digits. -/
structure Ofi (w : World) (N k : Nat) (v : Value) (wr : World) : Prop where
  res : wr.heap[w.heap.size]? = some (.cells #[.slice none 0 0, .bool false] 183)
  out : wr.heap[w.heap.size + 1]? = some (.cells #[v, .bool false] 183)
  own : wr.ownsRow (w.heap.size + 1 + 1) 3 1 v k ((dn N k).map (Value.int .i64))
  below : Below w.heap.size w wr
  size : w.heap.size + 1 + 1 ≤ wr.heap.size
theorem cell_of {w : World} {b i : Nat} {cs : Array Value} {t : TypeId} {v : Value} (h : w.heap[b]? = some (.cells cs t)) (hv : cs[i]? = some v) : w.cell? ⟨b, i, none⟩ = some v ∧ w.frozen? ⟨b, i, none⟩ = false := by
  simp [World.cell?, World.frozen?, h, hv]
theorem meas_nat {a b : Nat} (h : a < b) : (intOf (.int .i64 (a : Int))).toNat < (intOf (.int .i64 (b : Int))).toNat := by simpa [intOf] using h
theorem own_slice {w : World} {B : Nat} {e : TypeId} {n : Nat} {v : Value} {xs : List Value} (h : w.ownsRow B e 1 v n xs) : ∃ A c, v = .slice A n c := by
  rcases h.2 with ⟨rfl, rfl⟩ | ⟨g, cap, cur, rfl, _⟩
  · exact ⟨_, _, rfl⟩
  · exact ⟨_, _, rfl⟩
theorem Ofi.next {w wr w1 : World} {N k : Nat} {v v' : Value} {d : Int} (h : Ofi w N k v wr) (hd : d = (digit N k : Int)) (ho : w1.ownsRow (w.heap.size + 1 + 1) 3 1 v' (k + 1) ((dn N k).map (Value.int .i64) ++ [.int .i64 d])) (hg : (wr.alloc (.cells #[.int .i64 d] 3)).grownBy w1 v.ownBlock) : Ofi w N (k + 1) v' (w1.setCell ⟨w.heap.size + 1, 0, none⟩ v') := by
  have hs := h.size
  have hb : ∀ j, j < w.heap.size + 1 + 1 → w1.heap[j]? = wr.heap[j]? := fun j hj => by
    rw [hg.block j (by simp; omega) (fun e => by have := (h.own.lt j e.symm).1; omega), Below.heap_alloc _ _ _ (by omega)]
  have hz : wr.heap.size + 1 ≤ w1.heap.size := by have := hg.size; simpa using this
  refine ⟨?_, ?_, ?_, ((h.below.alloc h.below.size _).grown hg (by simp; omega) (fun g hg => by have := (h.own.lt g hg).1; omega)).setCell (by show w.heap.size ≤ w.heap.size + 1; omega) _, by simp [World.setCell]; omega⟩
  · rw [Below.heap_setCell _ _ _ _ (by show _ ≠ _; simp), hb _ (by omega), h.res]
  · have := heap_setCell_same w1 (w.heap.size + 1) 0 #[v, .bool false] 183 v' (by rw [hb _ (by omega), h.out])
    rw [this]
    simp
  · refine ownsRow_setCell_below ?_ (by show w.heap.size + 1 < _; omega) v'
    rw [dn_snoc, List.map_append, ← hd]
    exact ho
set_option maxRecDepth 100000 in
set_option maxHeartbeats 1000000 in
theorem ofint_any (N : Nat) (w : World) (hN : N ≤ 4611686018427387904) : Calls Tryz.prog 192 #[.int .i64 (N : Int)] w (ZPost w (N : Int)) := by
  obtain ⟨i0, hi, hz0, hz1, hz2⟩ := info_parts i64_info
  have hn3 : nd N ≤ 3 := (nd_le N 3).2 (by omega)
  have hst : Ofi w N 0 (.slice none 0 0) ((w.alloc (.cells #[.slice none 0 0, .bool false] 183)).alloc (.cells #[.slice none 0 0, .bool false] 183)) :=
    ⟨by rw [Below.heap_alloc _ _ _ (by simp)]; exact heap_alloc_new w _, by have := heap_alloc_new (w.alloc (.cells #[.slice none 0 0, .bool false] 183)) (.cells #[.slice none 0 0, .bool false] 183); simpa using this, World.ownsRow_nil _ _ _ _, ((Below.refl _ _).alloc (Nat.le_refl _) _).alloc (by simp) _, by simp⟩
  have HS := Lib.hid hst
  clear hst
  go_enter Tryz.func192, Tryz.ntmps192
  go_wp2
  go_loopw [0] (fun n wr => ∃ (k : Nat) (v : Value), k ≤ nd N ∧ n = .int .i64 ((N / 268435456 ^ k : Nat) : Int) ∧ Hid (Ofi w N k v wr)) (fun n _ => (intOf n).toNat)
  case atStart => exact ⟨0, _, Nat.zero_le _, by rw [Nat.pow_zero, Nat.div_one], HS⟩
  case round =>
    obtain ⟨k, v, hk, rfl, hg⟩ := hrel
    clear HS
    have c0 := cell_of hg.out.out (i := 0) (v := v) rfl
    have c1 := cell_of hg.out.out (i := 1) (v := .bool false) rfl
    have r0 := cell_of hg.out.res (i := 0) (v := .slice none 0 0) rfl
    have r1 := cell_of hg.out.res (i := 1) (v := .bool false) rfl
    have hsz := hg.out.size
    have hx := digit_step N k
    have hlt := digit_lt N k
    by_cases h0 : N / 268435456 ^ k = 0
    · rw [h0]
      obtain ⟨A, c, rfl, hdn⟩ := own_dn (by omega) hg.out.own
      have hkk : nd N = k := by
        have := (nd_le N k).2 (by
          rcases Nat.lt_or_ge N (268435456 ^ k) with q | q
          · exact q
          · have := Nat.div_pos q (B_pos k); omega)
        omega
      have HF := Lib.hid (show ∀ u1 u2, ZPost w (N : Int) (.returned (.agg #[.slice A k c, .bool false])) ((wr.setCell ⟨w.heap.size, 0, none⟩ u1).setCell ⟨w.heap.size, 1, none⟩ u2) from fun u1 u2 => by
        have hdn2 : Dn ((wr.setCell ⟨w.heap.size, 0, none⟩ u1).setCell ⟨w.heap.size, 1, none⟩ u2) A k c N :=
          dn_of_own (by omega) (ownsRow_setCell_below (ownsRow_setCell_below hg.out.own (by show w.heap.size < _; omega) u1) (by show w.heap.size < _; omega) u2)
        refine ⟨A, c, ?_, ?_, (hg.out.below.setCell (Nat.le_refl _) u1).setCell (Nat.le_refl _) u2⟩
        · rw [Int.natAbs_natCast, hkk, decide_eq_false (by omega)]
        · rw [Int.natAbs_natCast, hkk]
          exact hdn2)
      clear hdn hg hx hkk
      have z0 := World.cell?_setCell_same wr ⟨w.heap.size, 0, none⟩ (.slice A k c) r0.1
      have z1 := World.cell?_setCell_same _ ⟨w.heap.size, 1, none⟩ (.bool false) (show (wr.setCell ⟨w.heap.size, 0, none⟩ (.slice A k c)).cell? ⟨w.heap.size, 1, none⟩ = some (.bool false) by rw [World.cell?_setCell_other _ _ _ _ (by simp)]; exact r1.1)
      go_wp2
      refine bodyPost_ret (v := .agg #[.slice A k c, .bool false]) (by simp [results, Tryz.results192, go_sem, z0, z1]) rfl (HF.out _ _)
    · have hk2 : k < nd N := by
        rw [lt_nd]
        rcases Nat.lt_or_ge N (268435456 ^ k) with q | q
        · exact absurd (Nat.div_eq_of_lt q) h0
        · exact q
      have hb1 : N / 268435456 ^ k ≤ 4611686018427387904 := Nat.le_trans (Nat.div_le_self _ _) hN
      have HO := Lib.hid (fun d : Int => (World.ownsRow.alloc (w := wr) hg.out.own (.cells #[.int .i64 d] 3)))
      have HD := Lib.hid (show ((N / 268435456 ^ k : Nat) : Int) % 268435456 = (digit N k : Int) by omega)
      have HC := Lib.hid (show ((N / 268435456 ^ k : Nat) : Int) / 268435456 = ((N / 268435456 ^ (k + 1) : Nat) : Int) by omega)
      have HQ := Lib.hid (show N / 268435456 ^ (k + 1) < N / 268435456 ^ k by omega)
      have p1 : 0 < ((N / 268435456 ^ k : Nat) : Int) := by omega
      have p2 : ((N / 268435456 ^ k : Nat) : Int) ≤ 4611686018427387904 := by omega
      have HE := Lib.hid (meas_nat HQ.out)
      clear hx hlt h0 hb1 HQ
      generalize ((N / 268435456 ^ k : Nat) : Int) = M at *
      have g0 : (M != 0) = true := bne_iff_ne.2 (by omega)
      go_wp2_with (at_builtin; refine wpList_append_own _ rfl (.tmp 17) (.tmp 19) 115 rfl (w.heap.size + 1 + 1) 3 i0 (.int .i64 0) 1 8 Tryz.underlying115 hi hz0 hz1 hz2 rfl (by decide) v k _ rfl (HO.out (M % 268435456)) ⟨wr.heap.size, 0, none⟩ 1 1 [.int .i64 (M % 268435456)] rfl rfl ?c1 ?c2 ?c3 ?c4 ?c5 ?_)
      case c1 => exact one_new wr _ 3
      case c2 => exact one_int _ _
      case c3 => unfold maxLen; omega
      case c4 => omega
      case c5 => simp; omega
      intro v' w1 hown2 hgr _
      obtain ⟨A', c', rfl⟩ := own_slice hown2
      have HS := Lib.hid (hg.out.next HD.out hown2 hgr)
      have l1 : w1.cell? ⟨w.heap.size + 1, 0, none⟩ = some v ∧ w1.frozen? ⟨w.heap.size + 1, 0, none⟩ = false := by
        have e : w1.heap[w.heap.size + 1]? = wr.heap[w.heap.size + 1]? := by
          rw [hgr.block (w.heap.size + 1) (by simp; omega) (fun e => by have := (hg.out.own.lt _ e.symm).1; omega), Below.heap_alloc _ _ _ (by omega)]
        exact cell_of (e.trans hg.out.out) rfl
      clear hown2 hgr HO
      go_wp2
      go_roundw
      case rel => exact ⟨k + 1, _, hk2, by rw [HC.out], HS⟩
      case measure => rw [HC.out]; exact HE.out
end Go.Proofs.YtfilgpifiboccaaGreat
namespace Go.Proofs.YtfilgpifiboccaaGreat
open Go.RowKit DG
/-- Two boxes of numbers and a result's block, unchanged behind a call. -/
structure BoxN (w : World) (b1 b2 b3 : Nat) (v0 v1 v2 v3 : Value) (W : World) : Prop where
  a0 : W.cell? ⟨b1, 0, none⟩ = some v0
  a1 : W.cell? ⟨b1, 1, none⟩ = some v1
  a2 : W.cell? ⟨b2, 0, none⟩ = some v2
  a3 : W.cell? ⟨b2, 1, none⟩ = some v3
  r : ∃ (X : Option Addr) (n c : Nat) (g : Bool), W.heap[b3]? = some (.cells #[.slice X n c, .bool g] 183)
  below : Below w.heap.size w W
theorem BoxN.keep {w W w1 : World} {v0 v1 v2 v3 : Value} {b1 b2 b3 : Nat} (h : BoxN w b1 b2 b3 v0 v1 v2 v3 W) (hb : Below W.heap.size W w1) : BoxN w b1 b2 b3 v0 v1 v2 v3 w1 := by
  have k : ∀ a v, W.cell? a = some v → w1.cell? a = some v := fun a v ha => (hb.cell (World.block_lt_of_cell? W _ ha)).trans ha
  have hr : b3 < W.heap.size := by
    rcases Nat.lt_or_ge b3 W.heap.size with q | q
    · exact q
    · obtain ⟨_, _, _, _, this⟩ := h.r; rw [Array.getElem?_eq_none q] at this; cases this
  exact ⟨k _ _ h.a0, k _ _ h.a1, k _ _ h.a2, k _ _ h.a3, (by obtain ⟨X, n, c, g, q⟩ := h.r; exact ⟨X, n, c, g, (hb.block _ hr).trans q⟩), h.below.trans (hb.mono h.below.size)⟩
theorem BoxN.cells {w W : World} {v0 v1 v2 v3 : Value} {b1 b2 b3 : Nat} (h : BoxN w b1 b2 b3 v0 v1 v2 v3 W) : ∃ u0 u1, W.cell? ⟨b3, 0, none⟩ = some u0 ∧ W.cell? ⟨b3, 1, none⟩ = some u1 ∧ W.frozen? ⟨b3, 0, none⟩ = false ∧ W.frozen? ⟨b3, 1, none⟩ = false := by
  obtain ⟨X, n, c, g, h⟩ := h.r
  exact ⟨_, _, (cell_of h (i := 0) rfl).1, (cell_of h (i := 1) rfl).1, (cell_of h (i := 0) rfl).2, (cell_of h (i := 1) rfl).2⟩
/-- Three blocks, new. -/
theorem blkC (w : World) (a b c : Obj) : (((w.alloc a).alloc b).alloc c).heap[w.heap.size]? = some a ∧ (((w.alloc a).alloc b).alloc c).heap[w.heap.size + 1]? = some b ∧ (((w.alloc a).alloc b).alloc c).heap[w.heap.size + 1 + 1]? = some c := by
  refine ⟨?_, ?_, ?_⟩
  · rw [Below.heap_alloc _ _ _ (by simp; omega), Below.heap_alloc _ _ _ (by simp)]
    exact heap_alloc_new w a
  · rw [Below.heap_alloc _ _ _ (by simp)]
    have := heap_alloc_new (w.alloc a) b
    simpa using this
  · have := heap_alloc_new ((w.alloc a).alloc b) c
    simpa using this
theorem BoxN.drew {w W : World} {v0 v1 v2 v3 : Value} {b1 b2 b3 : Nat} (h : BoxN w b1 b2 b3 v0 v1 v2 v3 W) : BoxN w b1 b2 b3 v0 v1 v2 v3 W.drew := ⟨h.a0, h.a1, h.a2, h.a3, h.r, h.below.drew⟩
theorem set_two {w : World} {b : Nat} {x0 x1 y0 y1 : Value} {t : TypeId} (h : w.heap[b]? = some (.cells #[x0, x1] t)) : ((w.setCell ⟨b, 0, none⟩ y0).setCell ⟨b, 1, none⟩ y1).heap[b]? = some (.cells #[y0, y1] t) := by
  have h1 := heap_setCell_same w b 0 #[x0, x1] t y0 h
  have h2 := heap_setCell_same (w.setCell ⟨b, 0, none⟩ y0) b 1 _ t y1 h1
  rw [h2]
  simp
theorem BoxN.store {w W : World} {v0 v1 v2 v3 : Value} {b1 b2 b3 : Nat} (h : BoxN w b1 b2 b3 v0 v1 v2 v3 W) (h1 : b1 ≠ b3) (h2 : b2 ≠ b3) (hw : w.heap.size ≤ b3) (X : Option Addr) (n c : Nat) (g : Bool) : BoxN w b1 b2 b3 v0 v1 v2 v3 ((W.setCell ⟨b3, 0, none⟩ (.slice X n c)).setCell ⟨b3, 1, none⟩ (.bool g)) := by
  have k : ∀ (b o : Nat) v, b ≠ b3 → W.cell? ⟨b, o, none⟩ = some v → ((W.setCell ⟨b3, 0, none⟩ (.slice X n c)).setCell ⟨b3, 1, none⟩ (.bool g)).cell? ⟨b, o, none⟩ = some v := fun b o v hb hv => by
    rw [World.cell?_setCell_other _ _ _ _ (fun q => by injection q with q1; exact hb q1.symm), World.cell?_setCell_other _ _ _ _ (fun q => by injection q with q1; exact hb q1.symm)]
    exact hv
  obtain ⟨_, _, _, _, hr⟩ := h.r
  exact ⟨k _ _ _ h1 h.a0, k _ _ _ h1 h.a1, k _ _ _ h2 h.a2, k _ _ _ h2 h.a3, ⟨X, n, c, g, set_two hr⟩, (h.below.setCell hw _).setCell hw _⟩
theorem keepB2 {w W : World} {v0 v1 v2 v3 : Value} {b1 b2 b3 : Nat} (h : BoxN w b1 b2 b3 v0 v1 v2 v3 W) : (W.cell? ⟨b1, 0, none⟩ = some v0 ∧ W.cell? ⟨b1, 1, none⟩ = some v1 ∧ W.cell? ⟨b2, 0, none⟩ = some v2 ∧ W.cell? ⟨b2, 1, none⟩ = some v3) ∧ BoxN w b1 b2 b3 v0 v1 v2 v3 W :=
  ⟨⟨h.a0, h.a1, h.a2, h.a3⟩, h⟩
theorem Dn.set {w : World} {A : Option Addr} {n c N : Nat} {B : Nat} (h : Dn w A n c N) (hB : ∀ b off, A = some ⟨b, off, none⟩ → 0 < n → b ≠ B) (i : Nat) (v : Value) : Dn (w.setCell ⟨B, i, none⟩ v) A n c N :=
  ⟨h.le, h.cap, h.small, fun hn => by
    obtain ⟨b, off, e, hlt, hc⟩ := h.cells hn
    refine ⟨b, off, e, by simpa [World.setCell] using hlt, fun i hi => ?_⟩
    rw [World.cell?_setCell_other _ _ _ _ (fun q => by injection q with q1; exact hB b off e hn q1.symm)]
    exact hc i hi, h.null⟩
/-- A number's digits do not lie in a block of a slice and a sign. -/
theorem Dn.apart {w : World} {A : Option Addr} {n c N : Nat} {B : Nat} (h : Dn w A n c N) (hB : ∃ (X : Option Addr) (n c : Nat) (g : Bool), w.heap[B]? = some (.cells #[.slice X n c, .bool g] 183)) : ∀ b off, A = some ⟨b, off, none⟩ → 0 < n → b ≠ B := by
  intro b off e hn hb
  subst hb
  obtain ⟨X, m, d, g, hB⟩ := hB
  obtain ⟨b', off', e', _, hc⟩ := h.cells hn
  rw [e] at e'
  cases e'
  have q := hc 0 hn
  unfold World.cell? at q
  rw [hB] at q
  simp only [Nat.add_zero] at q
  rcases off with _ | _ | off
  · simp at q
  · simp at q
  · simp at q
/-- The result stored: it is handed back. -/
theorem zpost_store {w W : World} {A : Option Addr} {c : Nat} {Z : Int} {v0 v1 v2 v3 : Value} {b1 b2 b3 : Nat} (hb : BoxN w b1 b2 b3 v0 v1 v2 v3 W) (hd : Dn W A (nd Z.natAbs) c Z.natAbs) (hw : w.heap.size ≤ b3) (y0 y1 : Value) :
    ZPost w Z (.returned (.agg #[.slice A (nd Z.natAbs) c, .bool (decide (Z < 0))])) ((W.setCell ⟨b3, 0, none⟩ y0).setCell ⟨b3, 1, none⟩ y1) :=
  ⟨A, c, rfl, (hd.set (hd.apart hb.r) 0 y0).set (hd.apart hb.r) 1 y1, (hb.below.setCell hw _).setCell hw _⟩
theorem res_store {w W : World} {v0 v1 v2 v3 : Value} {b1 b2 b3 : Nat} (hb : BoxN w b1 b2 b3 v0 v1 v2 v3 W) (y0 y1 : Value) :
    ((W.setCell ⟨b3, 0, none⟩ y0).setCell ⟨b3, 1, none⟩ y1).cell? ⟨b3, 0, none⟩ = some y0 ∧ ((W.setCell ⟨b3, 0, none⟩ y0).setCell ⟨b3, 1, none⟩ y1).cell? ⟨b3, 1, none⟩ = some y1 := by
  obtain ⟨_, _, _, _, hr⟩ := hb.r
  have h := set_two hr (y0 := y0) (y1 := y1)
  exact ⟨(cell_of h (i := 0) rfl).1, (cell_of h (i := 1) rfl).1⟩
set_option maxRecDepth 100000 in
set_option maxHeartbeats 2000000 in
theorem mul_any (A A' : Option Addr) (c c' a b : Nat) (w : World) (h : Dn w A (nd a) c a) (h' : Dn w A' (nd b) c' b) (hs : nd a + nd b ≤ 90000) :
    Calls Tryz.prog 190 #[.agg #[.slice A (nd a) c, .bool false], .agg #[.slice A' (nd b) c', .bool false]] w (ZPost w ((a * b : Nat) : Int)) := by
  obtain ⟨Z, hZ⟩ : ∃ Z : Int, Z = ((a * b : Nat) : Int) := ⟨_, rfl⟩
  have H := Lib.hid h
  have H' := Lib.hid h'
  have T := Lib.hid (fun (W : World) (hb : Below w.heap.size w W) => times_any A A' c c' a b W (H.out.below hb (Nat.le_refl _)) (H'.out.below hb (Nat.le_refl _)) hs)
  have S := Lib.hid (fun (W : World) (A2 : Option Addr) (c2 : Nat) (hd : Dn W A2 (nd (a * b)) c2 (a * b)) => (show Calls Tryz.prog 206 #[.agg #[.slice A2 (nd (a * b)) c2, .bool false]] W (ZPost W Z) from by rw [hZ]; exact sign_any A2 c2 (a * b) false W hd))
  rw [← hZ]
  clear hZ
  have HB := Lib.hid ((((Below.refl w.heap.size w).alloc (Nat.le_refl _) (.cells #[.slice A (nd a) c, .bool false] 183)).alloc (by simp) (.cells #[.slice A' (nd b) c', .bool false] 183)).alloc (by simp; omega) (.cells #[.slice none 0 0, .bool false] 183))
  have K := blkC w (.cells #[.slice A (nd a) c, .bool false] 183) (.cells #[.slice A' (nd b) c', .bool false] 183) (.cells #[.slice none 0 0, .bool false] 183)
  have p0 := (cell_of K.1 (i := 0) (v := .slice A (nd a) c) rfl)
  have p1 := (cell_of K.1 (i := 1) (v := .bool false) rfl)
  have q0 := (cell_of K.2.1 (i := 0) (v := .slice A' (nd b) c') rfl)
  have q1 := (cell_of K.2.1 (i := 1) (v := .bool false) rfl)
  have r0 := (cell_of K.2.2 (i := 0) (v := .slice none 0 0) rfl)
  have r1 := (cell_of K.2.2 (i := 1) (v := .bool false) rfl)
  have HX := Lib.hid (show BoxN w w.heap.size (w.heap.size + 1) (w.heap.size + 1 + 1) (.slice A (nd a) c) (.bool false) (.slice A' (nd b) c') (.bool false) _ from ⟨p0.1, p1.1, q0.1, q1.1, ⟨none, 0, 0, false, K.2.2⟩, HB.out⟩)
  clear h h' K hs HB r0 r1
  generalize nd a = n at *
  generalize nd b = m at *
  go_enter Tryz.func190, Tryz.ntmps190
  go_wp2_with fail
  generalize ((w.alloc (.cells #[.slice A n c, .bool false] 183)).alloc (.cells #[.slice A' m c', .bool false] 183)).alloc (.cells #[.slice none 0 0, .bool false] 183) = w0 at *
  go_region_held3 (fun w' => (w'.cell? ⟨w.heap.size, 0, none⟩ = some (.slice A n c) ∧ w'.cell? ⟨w.heap.size, 1, none⟩ = some (.bool false) ∧ w'.cell? ⟨w.heap.size + 1, 0, none⟩ = some (.slice A' m c') ∧ w'.cell? ⟨w.heap.size + 1, 1, none⟩ = some (.bool false)) ∧ BoxN w w.heap.size (w.heap.size + 1) (w.heap.size + 1 + 1) (.slice A n c) (.bool false) (.slice A' m c') (.bool false) w')
    (first | exact keepB2 HX.out.drew | exact keepB2 (BoxN.keep (And.right (by assumption)) (by assumption)) | exact keepB2 (BoxN.store (And.right (by assumption)) (by omega) (by omega) (by omega) _ _ _ _))
    (first
      | (go_at_call 207; (with_reducible refine (T.out _ (BoxN.below (And.right (by assumption)))).mono ?_); rintro e w6 ⟨A2, c2, rfl, hd, hb⟩)
      | (go_at_call 206; (with_reducible refine (S.out _ _ _ hd).mono ?_); rintro e w7 ⟨A3, c3, rfl, hd3, hb3⟩; have HK := Lib.hid (BoxN.keep (w1 := w7) (And.right (by assumption)) hb3); obtain ⟨u0, u1, y0, y1, y2, y3⟩ := BoxN.cells HK.out))
  have HF := Lib.hid (zpost_store HK.out hd3 (by omega) (.slice A3 (nd Z.natAbs) c3) (.bool (decide (Z < 0))))
  obtain ⟨z0, z1⟩ := res_store HK.out (.slice A3 (nd Z.natAbs) c3) (.bool (decide (Z < 0)))
  clear hd3 hb3 HK
  generalize nd Z.natAbs = N at *
  generalize decide (Z < 0) = G at *
  go_wp2
  refine bodyPost_ret (v := .agg #[.slice A3 N c3, .bool G]) (by simp [results, Tryz.results190, go_sem, z0, z1]) rfl HF.out
end Go.Proofs.YtfilgpifiboccaaGreat
namespace Go.Proofs.YtfilgpifiboccaaGreat
open Go.RowKit DG
theorem blkT (w : World) (a b : Obj) : ((w.alloc a).alloc b).heap[w.heap.size]? = some a ∧ ((w.alloc a).alloc b).heap[w.heap.size + 1]? = some b := by
  refine ⟨?_, ?_⟩
  · rw [Below.heap_alloc _ _ _ (by simp)]
    exact heap_alloc_new w a
  · have := heap_alloc_new (w.alloc a) b
    simpa using this
set_option maxRecDepth 100000 in
set_option maxHeartbeats 2000000 in
theorem minus_any (A : Option Addr) (c a : Nat) (w : World) (h : Dn w A (nd a) c a) : Calls Tryz.prog 196 #[.agg #[.slice A (nd a) c, .bool false]] w (ZPost w (-(a : Int))) := by
  have H := Lib.hid h
  obtain ⟨Z, hZ⟩ : ∃ Z : Int, Z = -(a : Int) := ⟨_, rfl⟩
  have HB := ((Below.refl w.heap.size w).alloc (Nat.le_refl _) (.cells #[.slice A (nd a) c, .bool false] 183)).alloc (by simp) (.cells #[.slice none 0 0, .bool false] 183)
  have S := Lib.hid (show Calls Tryz.prog 206 #[.agg #[.slice A (nd a) c, .bool true]] ((w.alloc (.cells #[.slice A (nd a) c, .bool false] 183)).alloc (.cells #[.slice none 0 0, .bool false] 183)) (ZPost _ Z) from by
    rw [hZ]; exact sign_any A c a true _ (dn_two h _ _))
  have K := blkT w (.cells #[.slice A (nd a) c, .bool false] 183) (.cells #[.slice none 0 0, .bool false] 183)
  have p0 := (cell_of K.1 (i := 0) (v := .slice A (nd a) c) rfl)
  have p1 := (cell_of K.1 (i := 1) (v := .bool false) rfl)
  have HX := Lib.hid (show BoxN w w.heap.size w.heap.size (w.heap.size + 1) (.slice A (nd a) c) (.bool false) (.slice A (nd a) c) (.bool false) _ from ⟨p0.1, p1.1, p0.1, p1.1, ⟨none, 0, 0, false, K.2⟩, HB⟩)
  rw [← hZ]
  clear h K HB hZ
  generalize nd a = n at *
  go_enter Tryz.func196, Tryz.ntmps196
  go_wp2_with fail
  refine S.out.mono ?_
  rintro e w7 ⟨A3, c3, rfl, hd3, hb3⟩
  have HK := Lib.hid (HX.out.keep hb3)
  obtain ⟨u0, u1, y0, y1, y2, y3⟩ := HK.out.cells
  have HF := Lib.hid (zpost_store HK.out hd3 (by omega) (.slice A3 (nd Z.natAbs) c3) (.bool (decide (Z < 0))))
  obtain ⟨z0, z1⟩ := res_store HK.out (.slice A3 (nd Z.natAbs) c3) (.bool (decide (Z < 0)))
  clear hd3 hb3 HK S HX
  generalize nd Z.natAbs = N at *
  generalize decide (Z < 0) = G at *
  go_wp2
  refine bodyPost_ret (v := .agg #[.slice A3 N c3, .bool G]) (by simp [results, Tryz.results196, go_sem, z0, z1]) rfl HF.out
end Go.Proofs.YtfilgpifiboccaaGreat
namespace Go.Proofs.YtfilgpifiboccaaGreat
open Go.RowKit DG
theorem ordR_ge {a b : Nat} (h : b ≤ a) : 0 ≤ ordR a b := by unfold ordR; rw [if_neg (by omega)]; split <;> omega
theorem ordR_lt {a b : Nat} (h : a < b) : ordR a b = -1 := by unfold ordR; rw [if_pos h]
set_option maxRecDepth 100000 in
set_option maxHeartbeats 4000000 in
theorem plus_any (A A' : Option Addr) (c c' a b : Nat) (g : Bool) (w : World) (h : Dn w A (nd a) c a) (h' : Dn w A' (nd b) c' b) (hg : g = decide (0 < b)) (hs : nd a ≤ 90000) :
    Calls Tryz.prog 195 #[.agg #[.slice A (nd a) c, .bool false], .agg #[.slice A' (nd b) c', .bool g]] w (ZPost w ((a : Int) - (b : Int))) := by
  obtain ⟨Z, hZ⟩ : ∃ Z : Int, Z = (a : Int) - (b : Int) := ⟨_, rfl⟩
  have H := Lib.hid h
  have H' := Lib.hid h'
  have HB := ((((Below.refl w.heap.size w).alloc (Nat.le_refl _) (.cells #[.slice A (nd a) c, .bool false] 183)).alloc (by simp) (.cells #[.slice A' (nd b) c', .bool g] 183)).alloc (by simp; omega) (.cells #[.slice none 0 0, .bool false] 183))
  have K := blkC w (.cells #[.slice A (nd a) c, .bool false] 183) (.cells #[.slice A' (nd b) c', .bool g] 183) (.cells #[.slice none 0 0, .bool false] 183)
  have p0 := (cell_of K.1 (i := 0) (v := .slice A (nd a) c) rfl)
  have p1 := (cell_of K.1 (i := 1) (v := .bool false) rfl)
  have q0 := (cell_of K.2.1 (i := 0) (v := .slice A' (nd b) c') rfl)
  have q1 := (cell_of K.2.1 (i := 1) (v := .bool g) rfl)
  have HX := Lib.hid (show BoxN w w.heap.size (w.heap.size + 1) (w.heap.size + 1 + 1) (.slice A (nd a) c) (.bool false) (.slice A' (nd b) c') (.bool g) _ from ⟨p0.1, p1.1, q0.1, q1.1, ⟨none, 0, 0, false, K.2.2⟩, HB⟩)
  rw [← hZ]
  clear h h' K HB
  rcases Nat.eq_zero_or_pos b with b0 | b0
  · -- the same sign: the sum
    subst b0
    obtain rfl : g = false := by rw [hg]; rfl
    have hza : Z.natAbs = a := by omega
    have hzn : decide (Z < 0) = false := decide_eq_false (by omega)
    have T := Lib.hid (fun (W : World) (hb : Below w.heap.size w W) => (show Calls Tryz.prog 210 #[.slice A (nd a) c, .slice A' (nd 0) c'] W (NPost W Z.natAbs) from by
      rw [hza]
      exact sum_any A A' c c' a 0 W (H.out.below hb (Nat.le_refl _)) (H'.out.below hb (Nat.le_refl _)) hs))
    clear hZ hg hs hza
    generalize nd a = n at *
    generalize nd 0 = m at *
    go_enter Tryz.func195, Tryz.ntmps195
    go_wp2_with fail
    generalize ((w.alloc (.cells #[.slice A n c, .bool false] 183)).alloc (.cells #[.slice A' m c', .bool false] 183)).alloc (.cells #[.slice none 0 0, .bool false] 183) = w0 at *
    go_wp2_with fail
    go_region_held3 (fun w' => (w'.cell? ⟨w.heap.size, 0, none⟩ = some (.slice A n c) ∧ w'.cell? ⟨w.heap.size, 1, none⟩ = some (.bool false) ∧ w'.cell? ⟨w.heap.size + 1, 0, none⟩ = some (.slice A' m c') ∧ w'.cell? ⟨w.heap.size + 1, 1, none⟩ = some (.bool false)) ∧ BoxN w w.heap.size (w.heap.size + 1) (w.heap.size + 1 + 1) (.slice A n c) (.bool false) (.slice A' m c') (.bool false) w')
      (first | exact keepB2 HX.out.drew | exact keepB2 (BoxN.keep (And.right (by assumption)) (by assumption)) | exact keepB2 (BoxN.store (And.right (by assumption)) (by omega) (by omega) (by omega) _ _ _ _))
      (first
        | (go_at_call 210; (with_reducible refine (T.out _ (BoxN.below (And.right (by assumption)))).mono ?_); rintro e w7 ⟨A3, c3, rfl, hd3, hb3⟩; have HK := Lib.hid (BoxN.keep (w1 := w7) (And.right (by assumption)) hb3); obtain ⟨u0, u1, y0, y1, y2, y3⟩ := BoxN.cells HK.out))
    have HF := Lib.hid (zpost_store HK.out hd3 (by omega) (.slice A3 (nd Z.natAbs) c3) (.bool false))
    rw [hzn] at HF
    obtain ⟨z0, z1⟩ := res_store HK.out (.slice A3 (nd Z.natAbs) c3) (.bool false)
    clear hd3 hb3 HK hzn
    generalize nd Z.natAbs = N at *
    go_wp2
    refine bodyPost_ret (v := .agg #[.slice A3 N c3, .bool false]) (by simp [results, Tryz.results195, go_sem, z0, z1]) rfl HF.out
  · obtain rfl : g = true := by rw [hg]; exact decide_eq_true b0
    have O := Lib.hid (fun (W : World) (hb : Below w.heap.size w W) => order_any A A' c c' a b W (H.out.below hb (Nat.le_refl _)) (H'.out.below hb (Nat.le_refl _)))
    rcases Nat.lt_or_ge a b with hab | hab
    · have ho := ordR_lt hab
      have T := Lib.hid (fun (W : World) (hb : Below w.heap.size w W) => less_any A' A c' c b a W (H'.out.below hb (Nat.le_refl _)) (H.out.below hb (Nat.le_refl _)) (Nat.le_of_lt hab))
      have S := Lib.hid (fun (W : World) (A2 : Option Addr) (c2 : Nat) (hd : Dn W A2 (nd (b - a)) c2 (b - a)) => (show Calls Tryz.prog 206 #[.agg #[.slice A2 (nd (b - a)) c2, .bool true]] W (ZPost W Z) from by
        have e : Z = -((b - a : Nat) : Int) := by omega
        rw [e]; exact sign_any A2 c2 (b - a) true W hd))
      rw [ho] at O
      clear ho hZ hg hs hab b0
      generalize nd a = n at *
      generalize nd b = m at *
      go_enter Tryz.func195, Tryz.ntmps195
      go_wp2_with fail
      generalize ((w.alloc (.cells #[.slice A n c, .bool false] 183)).alloc (.cells #[.slice A' m c', .bool true] 183)).alloc (.cells #[.slice none 0 0, .bool false] 183) = w0 at *
      go_wp2_with fail
      refine (O.out _ HX.out.below).mono ?_
      rintro e w1 ⟨rfl, hb1⟩
      have HX1 := Lib.hid (HX.out.keep hb1)
      obtain ⟨⟨x0, x1, x2, x3⟩, _⟩ := keepB2 HX1.out
      clear hb1 p0 p1 q0 q1
      go_wp2_with fail
      go_region_held3 (fun w' => (w'.cell? ⟨w.heap.size, 0, none⟩ = some (.slice A n c) ∧ w'.cell? ⟨w.heap.size, 1, none⟩ = some (.bool false) ∧ w'.cell? ⟨w.heap.size + 1, 0, none⟩ = some (.slice A' m c') ∧ w'.cell? ⟨w.heap.size + 1, 1, none⟩ = some (.bool true)) ∧ BoxN w w.heap.size (w.heap.size + 1) (w.heap.size + 1 + 1) (.slice A n c) (.bool false) (.slice A' m c') (.bool true) w')
        (first | exact keepB2 HX1.out.drew | exact keepB2 (BoxN.keep (And.right (by assumption)) (by assumption)) | exact keepB2 (BoxN.store (And.right (by assumption)) (by omega) (by omega) (by omega) _ _ _ _))
        (first
          | (go_at_call 211; (with_reducible refine (T.out _ (BoxN.below (And.right (by assumption)))).mono ?_); rintro e w6 ⟨A2, c2, rfl, hd, hb⟩)
          | (go_at_call 206; (with_reducible refine (S.out _ _ _ hd).mono ?_); rintro e w7 ⟨A3, c3, rfl, hd3, hb3⟩; have HK := Lib.hid (BoxN.keep (w1 := w7) (And.right (by assumption)) hb3); obtain ⟨u0, u1, y0, y1, y2, y3⟩ := BoxN.cells HK.out))
      have HF := Lib.hid (zpost_store HK.out hd3 (by omega) (.slice A3 (nd Z.natAbs) c3) (.bool (decide (Z < 0))))
      obtain ⟨z0, z1⟩ := res_store HK.out (.slice A3 (nd Z.natAbs) c3) (.bool (decide (Z < 0)))
      clear hd3 hb3 HK
      generalize nd Z.natAbs = N at *
      generalize decide (Z < 0) = G at *
      go_wp2
      refine bodyPost_ret (v := .agg #[.slice A3 N c3, .bool G]) (by simp [results, Tryz.results195, go_sem, z0, z1]) rfl HF.out
    · have ho := ordR_ge hab
      have T := Lib.hid (fun (W : World) (hb : Below w.heap.size w W) => less_any A A' c c' a b W (H.out.below hb (Nat.le_refl _)) (H'.out.below hb (Nat.le_refl _)) hab)
      have S := Lib.hid (fun (W : World) (A2 : Option Addr) (c2 : Nat) (hd : Dn W A2 (nd (a - b)) c2 (a - b)) => (show Calls Tryz.prog 206 #[.agg #[.slice A2 (nd (a - b)) c2, .bool false]] W (ZPost W Z) from by
        have e : Z = ((a - b : Nat) : Int) := by omega
        rw [e]; exact sign_any A2 c2 (a - b) false W hd))
      clear hZ hg hs hab b0
      generalize ordR a b = R at *
      generalize nd a = n at *
      generalize nd b = m at *
      go_enter Tryz.func195, Tryz.ntmps195
      go_wp2_with fail
      generalize ((w.alloc (.cells #[.slice A n c, .bool false] 183)).alloc (.cells #[.slice A' m c', .bool true] 183)).alloc (.cells #[.slice none 0 0, .bool false] 183) = w0 at *
      go_wp2_with fail
      refine (O.out _ HX.out.below).mono ?_
      rintro e w1 ⟨rfl, hb1⟩
      have HX1 := Lib.hid (HX.out.keep hb1)
      obtain ⟨⟨x0, x1, x2, x3⟩, _⟩ := keepB2 HX1.out
      clear hb1 p0 p1 q0 q1
      go_wp2_with fail
      go_region_held3 (fun w' => (w'.cell? ⟨w.heap.size, 0, none⟩ = some (.slice A n c) ∧ w'.cell? ⟨w.heap.size, 1, none⟩ = some (.bool false) ∧ w'.cell? ⟨w.heap.size + 1, 0, none⟩ = some (.slice A' m c') ∧ w'.cell? ⟨w.heap.size + 1, 1, none⟩ = some (.bool true)) ∧ BoxN w w.heap.size (w.heap.size + 1) (w.heap.size + 1 + 1) (.slice A n c) (.bool false) (.slice A' m c') (.bool true) w')
        (first | exact keepB2 HX1.out.drew | exact keepB2 (BoxN.keep (And.right (by assumption)) (by assumption)) | exact keepB2 (BoxN.store (And.right (by assumption)) (by omega) (by omega) (by omega) _ _ _ _))
        (first
          | (go_at_call 211; (with_reducible refine (T.out _ (BoxN.below (And.right (by assumption)))).mono ?_); rintro e w6 ⟨A2, c2, rfl, hd, hb⟩)
          | (go_at_call 206; (with_reducible refine (S.out _ _ _ hd).mono ?_); rintro e w7 ⟨A3, c3, rfl, hd3, hb3⟩; have HK := Lib.hid (BoxN.keep (w1 := w7) (And.right (by assumption)) hb3); obtain ⟨u0, u1, y0, y1, y2, y3⟩ := BoxN.cells HK.out))
      have HF := Lib.hid (zpost_store HK.out hd3 (by omega) (.slice A3 (nd Z.natAbs) c3) (.bool (decide (Z < 0))))
      obtain ⟨z0, z1⟩ := res_store HK.out (.slice A3 (nd Z.natAbs) c3) (.bool (decide (Z < 0)))
      clear hd3 hb3 HK
      generalize nd Z.natAbs = N at *
      generalize decide (Z < 0) = G at *
      go_wp2
      refine bodyPost_ret (v := .agg #[.slice A3 N c3, .bool G]) (by simp [results, Tryz.results195, go_sem, z0, z1]) rfl HF.out
end Go.Proofs.YtfilgpifiboccaaGreat
namespace Go.Proofs.YtfilgpifiboccaaGreat
open Go.RowKit DG
/-- pi, times 2^(28 k), rounded down (k = 3, 4). -/
def piK (k : Nat) : Nat := if k = 3 then 60767239578181417292607896 else 16312081666030376401667486162748272
def pv (i : Nat) : Nat := [38008488, 142975752, 221327768, 170787696, 120867392, 154673705, 166927616, 137296536, 247785160, 155527201, 241405185, 58179156].getD i 0
def piArr : Obj := .cells #[.int .i64 38008488, .int .i64 142975752, .int .i64 221327768, .int .i64 170787696, .int .i64 120867392, .int .i64 154673705, .int .i64 166927616, .int .i64 137296536, .int .i64 247785160, .int .i64 155527201, .int .i64 241405185, .int .i64 58179156] 3
theorem piK_digits : (∀ j, j < 3 → digit (piK 3) j = pv (2 - j)) ∧ digit (piK 3) 3 = 3 ∧ nd (piK 3) = 4 ∧ (∀ j, j < 4 → digit (piK 4) j = pv (3 - j)) ∧ digit (piK 4) 4 = 3 ∧ nd (piK 4) = 5 := by
  refine ⟨by decide +kernel, by decide +kernel, nd_eq (by decide +kernel) (.inr (by decide +kernel)), by decide +kernel, by decide +kernel, nd_eq (by decide +kernel) (.inr (by decide +kernel))⟩
theorem piK_all {k : Nat} (hk : k = 3 ∨ k = 4) : (∀ j, j < k → digit (piK k) j = pv (k - 1 - j)) ∧ digit (piK k) k = 3 ∧ nd (piK k) = k + 1 := by
  obtain ⟨h1, h2, h3, h4, h5, h6⟩ := piK_digits
  rcases hk with rfl | rfl
  · exact ⟨h1, h2, h3⟩
  · exact ⟨h4, h5, h6⟩
theorem pi_cells (w : World) : ∀ i, i < 12 → (w.alloc piArr).cell? ⟨w.heap.size, i, none⟩ = some (.int .i64 (pv i : Int)) := by
  intro i hi
  have h := heap_alloc_new w piArr
  unfold piArr at h ⊢
  unfold World.cell?
  rw [h]
  rcases (show i = 0 ∨ i = 1 ∨ i = 2 ∨ i = 3 ∨ i = 4 ∨ i = 5 ∨ i = 6 ∨ i = 7 ∨ i = 8 ∨ i = 9 ∨ i = 10 ∨ i = 11 by omega) with rfl | rfl | rfl | rfl | rfl | rfl | rfl | rfl | rfl | rfl | rfl | rfl <;> rfl
set_option maxRecDepth 100000 in
set_option maxHeartbeats 1000000 in
theorem pi0_any (w : World) : Calls Tryz.prog 219 #[] w fun e w' => e = .returned (.slice (some ⟨w.heap.size, 0, none⟩) 12 12) ∧ w' = w.alloc piArr := by
  go_enter Tryz.func219, Tryz.ntmps219
  go_wp2
  go_ret
  exact ⟨rfl, rfl⟩
set_option maxRecDepth 100000 in
set_option maxHeartbeats 1000000 in
theorem pi_any' (k : Nat) (hk : k = 3 ∨ k = 4) (w : World) : Calls Tryz.prog 216 #[.int .i64 (k : Int)] w (NPost w (piK k)) := by
  obtain ⟨i0, hi, hz0, hz1, hz2⟩ := info_parts i64_info
  obtain ⟨D1, D2, D3⟩ := piK_all hk
  have D1 := Lib.hid D1
  have D2 := Lib.hid D2
  have D3 := Lib.hid D3
  have P0 := Lib.hid (pi0_any w)
  have HC := Lib.hid (pi_cells w)
  have HB0 := Lib.hid ((Below.refl w.heap.size w).alloc (Nat.le_refl _) piArr)
  have hsz : (w.alloc piArr).heap.size = w.heap.size + 1 := by simp
  have hk4 : k ≤ 4 := by omega
  have hk0 : 0 < k := by omega
  clear hk
  go_enter Tryz.func216, Tryz.ntmps216
  go_wp2_with fail
  refine P0.out.mono ?_
  rintro e w1 ⟨rfl, hw1⟩
  rw [← hw1] at HC HB0 hsz
  clear hw1 P0
  go_wp2_with fail
  go_loopw [4, 5] (fun v i wr => ∃ j : Nat, j ≤ k ∧ i = .int .i64 ((k : Int) - 1 - (j : Int)) ∧ Hid (Gth w1 (piK k) j v wr)) (fun _ i _ => (intOf i + 1).toNat)
  case atStart => exact ⟨0, Nat.zero_le _, by simp, Lib.hid (Gth.start w1 (piK k))⟩
  case round =>
    obtain ⟨j, hj, rfl, hg⟩ := hrel
    have HO := Lib.hid (fun d : Int => (World.ownsRow.alloc (w := wr) hg.out.own (.cells #[.int .i64 d] 3)))
    have hws := hg.out.below.size
    by_cases hjk : j < k
    · have hc := (hg.out.below.cell (p := ⟨w.heap.size, k - 1 - j, none⟩) (by show w.heap.size < _; omega)).trans (HC.out (k - 1 - j) (by omega))
      have e1 : ((k - 1 - j : Nat) : Int) = (k : Int) - 1 - (j : Int) := by omega
      have HD := Lib.hid (show (pv (k - 1 - j) : Int) = (digit (piK k) j : Int) by rw [D1.out j hjk])
      have hlt : w.heap.size < wr.heap.size := by omega
      generalize (pv (k - 1 - j) : Int) = x at *
      go_wp2_with (at_builtin; refine wpList_append_own _ rfl (.tmp 13) (.tmp 18) 115 rfl w1.heap.size 3 i0 (.int .i64 0) 1 8 Tryz.underlying115 hi hz0 hz1 hz2 rfl (by decide) u4 j _ rfl (HO.out x) ⟨wr.heap.size, 0, none⟩ 1 1 [.int .i64 x] rfl rfl ?c1 ?c2 ?c3 ?c4 ?c5 ?_)
      case c1 => exact one_new wr _ 3
      case c2 => first | exact one_int _ _ | rfl
      case c3 => unfold maxLen; omega
      case c4 => omega
      case c5 => simp; omega
      intro v' w2 hown2 hgr _
      rw [← hsz] at hown2
      have HS := Lib.hid (hg.out.next HD.out hown2 hgr)
      clear hown2 hgr HO
      go_wp2
      go_roundw
      case rel => exact ⟨j + 1, by omega, by go_num, HS⟩
      case measure => simp [intOf]; omega
    · obtain rfl : j = k := by omega
      go_wp2_with (at_builtin; refine wpList_append_own _ rfl (.tmp 20) (.tmp 21) 115 rfl w1.heap.size 3 i0 (.int .i64 0) 1 8 Tryz.underlying115 hi hz0 hz1 hz2 rfl (by decide) u4 j _ rfl (HO.out 3) ⟨wr.heap.size, 0, none⟩ 1 1 [.int .i64 3] rfl rfl ?d1 ?d2 ?d3 ?d4 ?d5 ?_)
      case d1 => exact one_new wr _ 3
      case d2 => first | exact one_int _ _ | rfl
      case d3 => unfold maxLen; omega
      case d4 => omega
      case d5 => simp; omega
      intro v' w2 hown2 hgr _
      rw [← hsz] at hown2
      have HS := hg.out.next (by rw [D2.out]; rfl) hown2 hgr
      have HP := HS.post D3.out (by omega)
      have HF := Lib.hid (show NPost w (piK j) (.returned v') w2 from by
        obtain ⟨A, c, e, hd, hb⟩ := HP
        exact ⟨A, c, e, hd, HB0.out.trans (hb.mono (by omega))⟩)
      clear hown2 hgr HO HS HP
      go_wp2
      go_ret
      exact HF.out
end Go.Proofs.YtfilgpifiboccaaGreat
namespace Go.Proofs.YtfilgpifiboccaaGreat
open Go.RowKit DG TA
theorem serU_half {U : Nat} (T Q n : Nat) (hQ : Q ≤ U) : 2 * serU U T Q n ≤ T := by
  unfold serU
  have h1 : T * Q / U ≤ T := Nat.div_le_of_le_mul (by rw [Nat.mul_comm U]; exact Nat.mul_le_mul_left _ hQ)
  generalize T * Q / U = P at *
  have h3 : 1 * 2 ≤ (n + 1) * (n + 2) := Nat.mul_le_mul (by omega) (by omega)
  have h4 := Nat.div_mul_le_self P ((n + 1) * (n + 2))
  have h5 : P / ((n + 1) * (n + 2)) * (1 * 2) ≤ P / ((n + 1) * (n + 2)) * ((n + 1) * (n + 2)) := Nat.mul_le_mul_left _ h3
  omega
/-- The series' numbers at the head of the loop. -/
structure SerN (U Q n : Nat) (R : Int) (j P M T : Nat) : Prop where
  val : (if j % 2 = 0 then (P : Int) - M + vU U Q (250 - j) T (n + 2 * j) else (P : Int) - M - vU U Q (250 - j) T (n + 2 * j)) = R
  le : j ≤ 250
  t : T < 2 ^ (250 - j)
  tb : T ≤ 2 ^ 200
  p : P ≤ j * 2 ^ 200
  m : M ≤ j * 2 ^ 200
theorem SerN.even {U Q n : Nat} {R : Int} {j P M T : Nat} (h : SerN U Q n R j P M T) (hQ : Q ≤ U) (hT : 0 < T) (hj : j % 2 = 0) : SerN U Q n R (j + 1) (P + T) M (serU U T Q (n + 2 * j)) := by
  have hh := serU_half T Q (n + 2 * j) hQ
  have hlt : j < 250 := by
    rcases Nat.lt_or_ge j 250 with q | q
    · exact q
    · have := h.t; rw [show 250 - j = 0 by omega] at this; simp at this; omega
  obtain ⟨f, hf⟩ : ∃ f, 250 - j = f + 1 := ⟨249 - j, by omega⟩
  have hf2 : 250 - (j + 1) = f := by omega
  have hv := h.val
  rw [if_pos hj, hf, vU, if_neg (by omega)] at hv
  have ht := h.t
  rw [hf, Nat.pow_succ] at ht
  have hp := h.p
  have htb := h.tb
  have hm := h.m
  have hk : (j + 1) * 2 ^ 200 = j * 2 ^ 200 + 2 ^ 200 := by rw [Nat.add_mul, Nat.one_mul]
  refine ⟨?_, by omega, by rw [hf2]; omega, by omega, by rw [hk]; exact Nat.add_le_add hp htb, by rw [hk]; exact Nat.le_trans hm (Nat.le_add_right _ _)⟩
  rw [if_neg (by omega), hf2, ← hv, show n + 2 * (j + 1) = n + 2 * j + 2 by omega]
  push_cast
  omega
theorem SerN.odd {U Q n : Nat} {R : Int} {j P M T : Nat} (h : SerN U Q n R j P M T) (hQ : Q ≤ U) (hT : 0 < T) (hj : j % 2 = 1) : SerN U Q n R (j + 1) P (M + T) (serU U T Q (n + 2 * j)) := by
  have hh := serU_half T Q (n + 2 * j) hQ
  have hlt : j < 250 := by
    rcases Nat.lt_or_ge j 250 with q | q
    · exact q
    · have := h.t; rw [show 250 - j = 0 by omega] at this; simp at this; omega
  obtain ⟨f, hf⟩ : ∃ f, 250 - j = f + 1 := ⟨249 - j, by omega⟩
  have hf2 : 250 - (j + 1) = f := by omega
  have hv := h.val
  rw [if_neg (by omega), hf, vU, if_neg (by omega)] at hv
  have ht := h.t
  rw [hf, Nat.pow_succ] at ht
  have hp := h.p
  have htb := h.tb
  have hm := h.m
  have hk : (j + 1) * 2 ^ 200 = j * 2 ^ 200 + 2 ^ 200 := by rw [Nat.add_mul, Nat.one_mul]
  refine ⟨?_, by omega, by rw [hf2]; omega, by omega, by rw [hk]; exact Nat.le_trans hp (Nat.le_add_right _ _), by rw [hk]; exact Nat.add_le_add hm htb⟩
  rw [if_pos (by omega), hf2, ← hv, show n + 2 * (j + 1) = n + 2 * j + 2 by omega]
  push_cast
  omega
theorem SerN.ends {U Q n : Nat} {R : Int} {j P M : Nat} (h : SerN U Q n R j P M 0) : (P : Int) - M = R := by
  have hv := h.val
  have : vU U Q (250 - j) 0 (n + 2 * j) = 0 := by
    cases hf : 250 - j with
    | zero => rfl
    | succ f => unfold vU; rw [if_pos rfl]
  rw [this] at hv
  split at hv <;> omega
theorem SerN.fits {U Q n : Nat} {R : Int} {j P M T : Nat} (h : SerN U Q n R j P M T) : nd (P + T) ≤ 9 ∧ nd (M + T) ≤ 9 ∧ nd T ≤ 8 := by
  have h1 := h.p
  have h2 := h.m
  have h3 := h.tb
  have h4 := h.le
  have h5 : j * 2 ^ 200 ≤ 250 * 2 ^ 200 := Nat.mul_le_mul_right _ h4
  refine ⟨(nd_le _ _).2 ?_, (nd_le _ _).2 ?_, (nd_le _ _).2 ?_⟩ <;> omega
/-- The series' slices. -/
structure SerW (w : World) (P M T Q : Nat) (A1 A2 A3 A4 : Option Addr) (c1 c2 c3 c4 : Nat) (wr : World) : Prop where
  p : Dn wr A1 (nd P) c1 P
  m : Dn wr A2 (nd M) c2 M
  t : Dn wr A3 (nd T) c3 T
  q : Dn wr A4 (nd Q) c4 Q
  below : Below w.heap.size w wr
theorem SerW.keep {w wr w1 : World} {P M T Q : Nat} {A1 A2 A3 A4 : Option Addr} {c1 c2 c3 c4 : Nat} (h : SerW w P M T Q A1 A2 A3 A4 c1 c2 c3 c4 wr) (hb : Below wr.heap.size wr w1) : SerW w P M T Q A1 A2 A3 A4 c1 c2 c3 c4 w1 :=
  ⟨h.p.below hb (Nat.le_refl _), h.m.below hb (Nat.le_refl _), h.t.below hb (Nat.le_refl _), h.q.below hb (Nat.le_refl _), h.below.trans (hb.mono h.below.size)⟩
set_option maxRecDepth 100000 in
set_option maxHeartbeats 2000000 in
theorem ser_any (A3 A4 : Option Addr) (c3 c4 F Q n k : Nat) (w : World) (hF : Dn w A3 (nd F) c3 F) (hQ : Dn w A4 (nd Q) c4 Q) (hQU : Q ≤ 268435456 ^ k) (hn : n ≤ 1) (hk : k ≤ 4) (hFb : F ≤ 2 ^ 200) :
    Calls Tryz.prog 218 #[.slice A3 (nd F) c3, .slice A4 (nd Q) c4, .int .i64 ((n : Int) + 1), .int .i64 (k : Int)] w (NPost w (vU (268435456 ^ k) Q 250 F n).toNat) := by
  obtain ⟨R, hR⟩ : ∃ R, R = vU (268435456 ^ k) Q 250 F n := ⟨_, rfl⟩
  have hR0 : 0 ≤ R := by rw [hR]; exact (vU_bd hQU 250 F n).1
  rw [← hR]
  have hQs : nd Q ≤ 6 := (nd_le _ _).2 (Nat.lt_of_le_of_lt hQU (Nat.pow_lt_pow_right (by omega) (by omega)))
  have HS := Lib.hid (show SerN (268435456 ^ k) Q n R 0 0 0 F from ⟨by rw [if_pos rfl, hR]; simp, by omega, Nat.lt_of_le_of_lt hFb (Nat.pow_lt_pow_right (by omega) (by omega)), hFb, by simp, by simp⟩)
  have zero : Dn w none 0 0 0 := ⟨by omega, by omega, by omega, fun h => absurd h (by omega), fun _ => rfl⟩
  have HW := Lib.hid (show SerW w 0 0 F Q none none A3 A4 0 0 c3 c4 w from ⟨by rw [nd_zero]; exact zero, by rw [nd_zero]; exact zero, hF, hQ, Below.refl _ _⟩)
  have HQU := Lib.hid hQU
  have HR0 := Lib.hid hR0
  have hnz := Lib.hid nd_zero
  clear hF hQ hR hQU zero hFb hR0
  go_enter Tryz.func218, Tryz.ntmps218
  go_wp2
  go_loopw [2, 9, 10, 11, 12] (fun d vp vm vt i wr => ∃ (j P M T : Nat) (A1 A2 A3 : Option Addr) (c1 c2 c3 : Nat), d = .int .i64 ((n : Int) + 1 + 2 * (j : Int)) ∧ vp = .slice A1 (nd P) c1 ∧ vm = .slice A2 (nd M) c2 ∧ vt = .slice A3 (nd T) c3 ∧ i = .int .i64 (j : Int) ∧ Hid (SerN (268435456 ^ k) Q n R j P M T) ∧ Hid (SerW w P M T Q A1 A2 A3 A4 c1 c2 c3 c4 wr)) (fun _ _ _ _ i _ => 250 - (intOf i).toNat)
  case atStart => exact ⟨0, 0, 0, F, none, none, A3, 0, 0, c3, by simp, by rw [hnz.out], by rw [hnz.out], rfl, rfl, HS, HW⟩
  case round =>
    obtain ⟨j, P, M, T, A1, A2, A3, c1, c2, c3, rfl, rfl, rfl, rfl, rfl, hN, hW⟩ := hrel
    clear HS HW
    have hfit := hN.out.fits
    have hj := hN.out.le
    by_cases hT : T = 0
    · subst hT
      have he := hN.out.ends
      have hMP : M ≤ P := by have := HR0.out; omega
      have L := Lib.hid (less_any A1 A2 c1 c2 P M wr hW.out.p hW.out.m hMP)
      have hRt : R.toNat = P - M := by omega
      have HRt := Lib.hid hRt
      have HBw := Lib.hid hW.out.below
      have hz := hnz.out
      clear hN hW he hRt
      rw [hz]
      generalize nd P = np at *
      generalize nd M = nm at *
      go_wp2_with fail
      refine L.out.mono ?_
      rintro e w2 ⟨A, c, rfl, hd, hb⟩
      have HF := Lib.hid (show NPost w R.toNat (.returned (.slice A (nd (P - M)) c)) w2 from by rw [HRt.out]; exact ⟨A, c, rfl, hd, HBw.out.trans (hb.mono HBw.out.size)⟩)
      clear hd hb L HBw
      generalize nd (P - M) = N at *
      go_wp2
      go_ret
      exact HF.out
    · have hTp : 0 < nd T := by rw [lt_nd]; simp; omega
      have hlt : j < 250 := by
        rcases Nat.lt_or_ge j 250 with q | q
        · exact q
        · have := hN.out.t; rw [show 250 - j = 0 by omega] at this; simp at this; omega
      have hT0 : 0 < T := by omega
      have ecast : (((n + 2 * j + 1) * (n + 2 * j + 2) : Nat) : Int) = ((n : Int) + 1 + 2 * (j : Int)) * ((n : Int) + 1 + 2 * (j : Int) + 1) := by
        rw [Int.natCast_mul, show ((n + 2 * j + 1 : Nat) : Int) = (n : Int) + 1 + 2 * (j : Int) by omega, show ((n + 2 * j + 2 : Nat) : Int) = (n : Int) + 1 + 2 * (j : Int) + 1 by omega]
      have dpos : 0 < (n + 2 * j + 1) * (n + 2 * j + 2) := Nat.mul_pos (by omega) (by omega)
      have dle : (n + 2 * j + 1) * (n + 2 * j + 2) ≤ 602 * 603 := Nat.mul_le_mul (by omega) (by omega)
      have hprod : 0 ≤ ((n : Int) + 1 + 2 * (j : Int)) * ((n : Int) + 1 + 2 * (j : Int) + 1) ∧ ((n : Int) + 1 + 2 * (j : Int)) * ((n : Int) + 1 + 2 * (j : Int) + 1) ≤ 363006 := by rw [← ecast]; omega
      have X1 := Lib.hid (fun (W : World) (hb : Below wr.heap.size wr W) => times_any A3 A4 c3 c4 T Q W (hW.out.t.below hb (Nat.le_refl _)) (hW.out.q.below hb (Nat.le_refl _)) (by omega))
      have X2 := Lib.hid (fun (W : World) (A : Option Addr) (c : Nat) (hd : Dn W A (nd (T * Q)) c (T * Q)) => drop_any A c (T * Q) k W hd (by omega))
      have X3 := Lib.hid (fun (W : World) (A : Option Addr) (c : Nat) (hd : Dn W A (nd (T * Q / 268435456 ^ k)) c (T * Q / 268435456 ^ k)) => (show Calls Tryz.prog 215 #[.slice A (nd (T * Q / 268435456 ^ k)) c, .int .i64 (((n : Int) + 1 + 2 * (j : Int)) * ((n : Int) + 1 + 2 * (j : Int) + 1))] W (NPost W (serU (268435456 ^ k) T Q (n + 2 * j))) from by
        rw [← ecast]; exact npart_any A c (T * Q / 268435456 ^ k) ((n + 2 * j + 1) * (n + 2 * j + 2)) W hd dpos (by omega)))
      clear ecast dpos dle
      have hd0 : 1 ≤ (n : Int) + 1 + 2 * (j : Int) ∧ (n : Int) + 1 + 2 * (j : Int) ≤ 1000 := by omega
      have HD0 := Lib.hid (show ((n : Int) + 1 + 2 * (j : Int)) + 2 = (n : Int) + 1 + 2 * ((j + 1 : Nat) : Int) by omega)
      generalize (n : Int) + 1 + 2 * (j : Int) = D0 at *
      by_cases hpar : j % 2 = 0
      · have hp1 : (j : Int) % 2 = 0 := by omega
        have X0 := Lib.hid (sum_any A1 A3 c1 c3 P T wr hW.out.p hW.out.t (by omega))
        have HNx := Lib.hid (hN.out.even HQU.out hT0 hpar)
        have HT4 := Lib.hid (show nd T = nd T from rfl)
        clear hfit hpar
        generalize hnT : nd T = nT at *
        generalize hnQ : nd Q = nQ at *
        generalize hnP : nd P = nP at *
        generalize hnM : nd M = nM at *
        have HnT := Lib.hid hnT
        have HnQ := Lib.hid hnQ
        have HnP := Lib.hid hnP
        have HnM := Lib.hid hnM
        clear hnT hnQ hnP hnM
        go_wp2_with fail
        refine X0.out.mono ?_
        rintro e w1 ⟨B1, d1, rfl, hd1, hb1⟩
        have Hb1 := Lib.hid hb1
        have Hd1 := Lib.hid hd1
        clear hb1 hd1
        go_wp2_with fail
        refine (X1.out _ Hb1.out).mono ?_
        rintro e w2 ⟨B2, d2, rfl, hd2, hb2⟩
        have Y2 := Lib.hid (X2.out _ _ _ hd2)
        have Hb2 := Lib.hid hb2
        clear hb2 hd2 X1
        go_wp2_with fail
        refine Y2.out.mono ?_
        rintro e w3 ⟨B3, d3, rfl, hd3, hb3⟩
        have Y3 := Lib.hid (X3.out _ _ _ hd3)
        have Hb3 := Lib.hid hb3
        clear hb3 hd3 X2 Y2
        go_wp2_with fail
        refine Y3.out.mono ?_
        rintro e w4 ⟨B4, d4, rfl, hd4, hb4⟩
        have HWx := Lib.hid (show SerW w (P + T) (M) (serU (268435456 ^ k) T Q (n + 2 * j)) Q B1 A2 B4 A4 d1 c2 d4 c4 w4 from by
          have hb1 := Hb1.out
          have hb2 := Hb2.out
          have hb3 := Hb3.out
          have hd1 := Hd1.out
          have b24 : Below w1.heap.size w1 w4 := hb2.trans ((hb3.trans (hb4.mono hb3.size)).mono hb2.size)
          have b14 : Below wr.heap.size wr w4 := hb1.trans (b24.mono hb1.size)
          have kk := SerW.keep (w := w) (wr := wr) (w1 := w4) (P := P) (M := M) (T := T) (Q := Q) (A1 := A1) (A2 := A2) (A3 := A3) (A4 := A4) (c1 := c1) (c2 := c2) (c3 := c3) (c4 := c4) (by have := hW.out; exact this) b14
          exact ⟨hd1.below b24 (Nat.le_refl _), kk.m, hd4, kk.q, kk.below⟩)
        clear hd4 hb4 Hb1 Hb2 Hb3 Hd1 X3 Y3 X0
        go_wp2
        go_roundw
        case rel => exact ⟨j + 1, P + T, M, _, B1, A2, B4, d1, c2, d4, by rw [HD0.out], rfl, by rw [HnM.out], rfl, by go_num, HNx, HWx⟩
        case measure => simp [intOf]; omega
      · replace hpar : j % 2 = 1 := by omega
        have hp1 : (j : Int) % 2 = 1 := by omega
        have X0 := Lib.hid (sum_any A2 A3 c2 c3 M T wr hW.out.m hW.out.t (by omega))
        have HNx := Lib.hid (hN.out.odd HQU.out hT0 hpar)
        have HT4 := Lib.hid (show nd T = nd T from rfl)
        clear hfit hpar
        generalize hnT : nd T = nT at *
        generalize hnQ : nd Q = nQ at *
        generalize hnP : nd P = nP at *
        generalize hnM : nd M = nM at *
        have HnT := Lib.hid hnT
        have HnQ := Lib.hid hnQ
        have HnP := Lib.hid hnP
        have HnM := Lib.hid hnM
        clear hnT hnQ hnP hnM
        go_wp2_with fail
        refine X0.out.mono ?_
        rintro e w1 ⟨B1, d1, rfl, hd1, hb1⟩
        have Hb1 := Lib.hid hb1
        have Hd1 := Lib.hid hd1
        clear hb1 hd1
        go_wp2_with fail
        refine (X1.out _ Hb1.out).mono ?_
        rintro e w2 ⟨B2, d2, rfl, hd2, hb2⟩
        have Y2 := Lib.hid (X2.out _ _ _ hd2)
        have Hb2 := Lib.hid hb2
        clear hb2 hd2 X1
        go_wp2_with fail
        refine Y2.out.mono ?_
        rintro e w3 ⟨B3, d3, rfl, hd3, hb3⟩
        have Y3 := Lib.hid (X3.out _ _ _ hd3)
        have Hb3 := Lib.hid hb3
        clear hb3 hd3 X2 Y2
        go_wp2_with fail
        refine Y3.out.mono ?_
        rintro e w4 ⟨B4, d4, rfl, hd4, hb4⟩
        have HWx := Lib.hid (show SerW w (P) (M + T) (serU (268435456 ^ k) T Q (n + 2 * j)) Q A1 B1 B4 A4 c1 d1 d4 c4 w4 from by
          have hb1 := Hb1.out
          have hb2 := Hb2.out
          have hb3 := Hb3.out
          have hd1 := Hd1.out
          have b24 : Below w1.heap.size w1 w4 := hb2.trans ((hb3.trans (hb4.mono hb3.size)).mono hb2.size)
          have b14 : Below wr.heap.size wr w4 := hb1.trans (b24.mono hb1.size)
          have kk := SerW.keep (w := w) (wr := wr) (w1 := w4) (P := P) (M := M) (T := T) (Q := Q) (A1 := A1) (A2 := A2) (A3 := A3) (A4 := A4) (c1 := c1) (c2 := c2) (c3 := c3) (c4 := c4) (by have := hW.out; exact this) b14
          exact ⟨kk.p, hd1.below b24 (Nat.le_refl _), hd4, kk.q, kk.below⟩)
        clear hd4 hb4 Hb1 Hb2 Hb3 Hd1 X3 Y3 X0
        go_wp2
        go_roundw
        case rel => exact ⟨j + 1, P, M + T, _, A1, B1, B4, c1, d1, d4, by rw [HD0.out], by rw [HnP.out], rfl, rfl, by go_num, HNx, HWx⟩
        case measure => simp [intOf]; omega
end Go.Proofs.YtfilgpifiboccaaGreat
namespace Go.Proofs.YtfilgpifiboccaaGreat
open Go.RowKit DG TA
/-- What 'small' reckons: the angle, its square, and the series. -/
def smX (k r : Nat) : Nat := piK k * r / 10800000
def smQ (k r : Nat) : Nat := smX k r * smX k r / 268435456 ^ k
def smN (k r : Nat) (cosine : Bool) : Nat := if cosine then (vU (268435456 ^ k) (smQ k r) 250 (268435456 ^ k) 0).toNat else (vU (268435456 ^ k) (smQ k r) 250 (smX k r) 1).toNat
theorem sm_le {k r : Nat} (hk : k = 3 ∨ k = 4) (hr : r ≤ 2700000) : smX k r ≤ 268435456 ^ k ∧ smQ k r ≤ 268435456 ^ k := by
  have h1 : piK k * r ≤ piK k * 2700000 := Nat.mul_le_mul_left _ hr
  have h2 : smX k r ≤ 268435456 ^ k := by
    unfold smX
    rcases hk with rfl | rfl
    · have : piK 3 * 2700000 / 10800000 ≤ 268435456 ^ 3 := by decide +kernel
      exact Nat.le_trans (Nat.div_le_div_right h1) this
    · have : piK 4 * 2700000 / 10800000 ≤ 268435456 ^ 4 := by decide +kernel
      exact Nat.le_trans (Nat.div_le_div_right h1) this
  refine ⟨h2, ?_⟩
  unfold smQ
  exact Nat.div_le_of_le_mul (Nat.mul_le_mul h2 h2)
theorem fld0 (A : Option Addr) (n c : Nat) (z : Bool) (w : World) : (Instr.field 183 (.agg #[.slice A n c, .bool z]) 0).run Tryz.prog w = .ok (.slice A n c) w := by
  have a3 := Tryz.isAgg115
  have z3 := Tryz.sizeOf115
  simp [Instr.field, run_underlying Tryz.underlying183, asAgg, go_sem]
set_option maxRecDepth 100000 in
set_option maxHeartbeats 2000000 in
theorem small_any (r k : Nat) (g : Bool) (w : World) (hk : k = 3 ∨ k = 4) (hr : r ≤ 2700000) : Calls Tryz.prog 208 #[.int .i64 (r : Int), .bool g, .int .i64 (k : Int)] w (NPost w (smN k r g)) := by
  have hk4 : k ≤ 4 := by omega
  obtain ⟨hX, hQ⟩ := sm_le hk hr
  have hpk : nd (piK k) = k + 1 := (piK_all hk).2.2
  have hrn : nd r ≤ 1 := (nd_le _ _).2 (by omega)
  have hXn : nd (smX k r) ≤ 5 := (nd_le _ _).2 (Nat.lt_of_le_of_lt hX (Nat.pow_lt_pow_right (by omega) (by omega)))
  have hU : 268435456 ^ k ≤ 2 ^ 200 := by
    have : 268435456 ^ k ≤ 268435456 ^ 4 := Nat.pow_le_pow_right (by omega) hk4
    exact Nat.le_trans this (by decide +kernel)
  have P1 := Lib.hid (pi_any' k hk w)
  have P2 := Lib.hid (fun W : World => ofint_any r W (by omega))
  have P3 := Lib.hid (fun (W : World) (A A' : Option Addr) (c c' : Nat) (h : Dn W A (nd (piK k)) c (piK k)) (h' : Dn W A' (nd r) c' r) => times_any A A' c c' (piK k) r W h h' (by omega))
  have P4 := Lib.hid (fun (W : World) (A : Option Addr) (c : Nat) (h : Dn W A (nd (piK k * r)) c (piK k * r)) => (show Calls Tryz.prog 215 #[.slice A (nd (piK k * r)) c, .int .i64 10800000] W (NPost W (smX k r)) from npart_any A c (piK k * r) 10800000 W h (by omega) (by omega)))
  have P5 := Lib.hid (fun (W : World) (A : Option Addr) (c : Nat) (h : Dn W A (nd (smX k r)) c (smX k r)) => times_any A A c c (smX k r) (smX k r) W h h (by omega))
  have P6 := Lib.hid (fun (W : World) (A : Option Addr) (c : Nat) (h : Dn W A (nd (smX k r * smX k r)) c (smX k r * smX k r)) => (show Calls Tryz.prog 217 #[.slice A (nd (smX k r * smX k r)) c, .int .i64 (k : Int)] W (NPost W (smQ k r)) from drop_any A c _ k W h (by omega)))
  have P7 := Lib.hid (fun W : World => unit_any k W (by omega))
  have P8 := Lib.hid (fun (W : World) (A A' : Option Addr) (c c' : Nat) (h : Dn W A (nd (268435456 ^ k)) c (268435456 ^ k)) (h' : Dn W A' (nd (smQ k r)) c' (smQ k r)) => (show Calls Tryz.prog 218 #[.slice A (nd (268435456 ^ k)) c, .slice A' (nd (smQ k r)) c', .int .i64 1, .int .i64 (k : Int)] W (NPost W (vU (268435456 ^ k) (smQ k r) 250 (268435456 ^ k) 0).toNat) from ser_any A A' c c' _ _ 0 k W h h' hQ (by omega) hk4 hU))
  have P9 := Lib.hid (fun (W : World) (A A' : Option Addr) (c c' : Nat) (h : Dn W A (nd (smX k r)) c (smX k r)) (h' : Dn W A' (nd (smQ k r)) c' (smQ k r)) => (show Calls Tryz.prog 218 #[.slice A (nd (smX k r)) c, .slice A' (nd (smQ k r)) c', .int .i64 2, .int .i64 (k : Int)] W (NPost W (vU (268435456 ^ k) (smQ k r) 250 (smX k r) 1).toNat) from ser_any A A' c c' _ _ 1 k W h h' hQ (by omega) hk4 (Nat.le_trans hX hU)))
  have e1 : ((r : Int)).natAbs = r := Int.natAbs_natCast r
  have HE := Lib.hid e1
  have HN := Lib.hid (show smN k r g = if g then (vU (268435456 ^ k) (smQ k r) 250 (268435456 ^ k) 0).toNat else (vU (268435456 ^ k) (smQ k r) 250 (smX k r) 1).toNat from rfl)
  clear hk hr hX hQ hpk hrn hXn hU hk4 e1
  generalize smN k r g = S at *
  go_enter Tryz.func208, Tryz.ntmps208
  go_wp2_with fail
  refine P1.out.mono ?_
  rintro e w1 ⟨A1, c1, rfl, hd1, hb1⟩
  have Hd1 := Lib.hid hd1
  have Hb1 := Lib.hid hb1
  clear hd1 hb1 P1
  go_wp2_with fail
  refine (P2.out w1).mono ?_
  rintro e w2 ⟨A2, c2, rfl, hd2, hb2⟩
  rw [HE.out] at hd2 ⊢
  have Y3 := Lib.hid (P3.out w2 A1 A2 c1 c2 (Hd1.out.below hb2 (Nat.le_refl _)) hd2)
  have Hb2 := Lib.hid (Hb1.out.trans (hb2.mono Hb1.out.size))
  clear hd2 hb2 P2 P3 Hd1 Hb1
  generalize decide ((r : Int) < 0) = z at *
  have hf := fld0 A2 (nd r) c2 z w2
  go_wp2_with fail
  refine Y3.out.mono ?_
  rintro e w3 ⟨A3, c3, rfl, hd3, hb3⟩
  have Y4 := Lib.hid (P4.out w3 A3 c3 hd3)
  have Hb3 := Lib.hid (Hb2.out.trans (hb3.mono Hb2.out.size))
  clear hd3 hb3 P4 Hb2 Y3
  go_wp2_with fail
  refine Y4.out.mono ?_
  rintro e w4 ⟨A4, c4, rfl, hd4, hb4⟩
  have Hd4 := Lib.hid hd4
  have Y5 := Lib.hid (P5.out w4 A4 c4 hd4)
  have Hb4 := Lib.hid (Hb3.out.trans (hb4.mono Hb3.out.size))
  clear hd4 hb4 P5 Hb3 Y4
  go_wp2_with fail
  refine Y5.out.mono ?_
  rintro e w5 ⟨A5, c5, rfl, hd5, hb5⟩
  have Y6 := Lib.hid (P6.out w5 A5 c5 hd5)
  have Hb5 := Lib.hid (Hb4.out.trans (hb5.mono Hb4.out.size))
  have Hd4b := Lib.hid (Hd4.out.below hb5 (Nat.le_refl _))
  clear hd5 hb5 P6 Hb4 Y5 Hd4
  go_wp2_with fail
  refine Y6.out.mono ?_
  rintro e w6 ⟨A6, c6, rfl, hd6, hb6⟩
  have Hd6 := Lib.hid hd6
  have Hb6 := Lib.hid (Hb5.out.trans (hb6.mono Hb5.out.size))
  have Hd4c := Lib.hid (Hd4b.out.below hb6 (Nat.le_refl _))
  clear hd6 hb6 Hb5 Y6 Hd4b
  cases g with
  | true =>
    go_wp2_with fail
    refine (P7.out w6).mono ?_
    rintro e w7 ⟨A7, c7, rfl, hd7, hb7⟩
    have Y8 := Lib.hid (P8.out w7 A7 A6 c7 c6 hd7 (Hd6.out.below hb7 (Nat.le_refl _)))
    have Hb7 := Lib.hid (Hb6.out.trans (hb7.mono Hb6.out.size))
    clear hd7 hb7 P7 P8 P9 Hb6 Hd6 Hd4c
    go_wp2_with fail
    refine Y8.out.mono ?_
    rintro e w8 ⟨A8, c8, rfl, hd8, hb8⟩
    have HF := Lib.hid (show NPost w S (.returned (.slice A8 (nd (vU (268435456 ^ k) (smQ k r) 250 (268435456 ^ k) 0).toNat) c8)) w8 from by
      have e := HN.out
      simp only [if_true] at e
      rw [e]
      exact ⟨A8, c8, rfl, hd8, Hb7.out.trans (hb8.mono Hb7.out.size)⟩)
    clear hd8 hb8 Hb7 Y8 HN
    generalize nd (vU (268435456 ^ k) (smQ k r) 250 (268435456 ^ k) 0).toNat = N at *
    go_wp2
    go_ret
    exact HF.out
  | false =>
    have Y9 := Lib.hid (P9.out w6 A4 A6 c4 c6 Hd4c.out Hd6.out)
    clear P7 P8 P9 Hd6 Hd4c
    go_wp2_with fail
    refine Y9.out.mono ?_
    rintro e w8 ⟨A8, c8, rfl, hd8, hb8⟩
    have HF := Lib.hid (show NPost w S (.returned (.slice A8 (nd (vU (268435456 ^ k) (smQ k r) 250 (smX k r) 1).toNat) c8)) w8 from by
      have e := HN.out
      simp only [Bool.false_eq_true, if_false] at e
      rw [e]
      exact ⟨A8, c8, rfl, hd8, Hb6.out.trans (hb8.mono Hb6.out.size)⟩)
    clear hd8 hb8 Hb6 Y9 HN
    generalize nd (vU (268435456 ^ k) (smQ k r) 250 (smX k r) 1).toNat = N at *
    go_wp2
    go_ret
    exact HF.out
end Go.Proofs.YtfilgpifiboccaaGreat
namespace Go.Proofs.YtfilgpifiboccaaGreat
open Go.RowKit DG TA
/-- 'Near' below half a turn. -/
def nrR (n : Nat) : Nat := if n % 5400000 > 2700000 then 5400000 - n % 5400000 else n % 5400000
def nrC (n : Nat) : Bool := if n % 5400000 > 2700000 then !(n / 5400000 % 2 == 1) else n / 5400000 % 2 == 1
def nrN (k n : Nat) : Nat := smN k (nrR n) (nrC n)
set_option maxRecDepth 100000 in
set_option maxHeartbeats 2000000 in
theorem near_any (n k : Nat) (w : World) (hk : k = 3 ∨ k = 4) (hn : n < 10800000) : Calls Tryz.prog 191 #[.int .i64 (n : Int), .int .i64 (k : Int)] w (ZPost w (nrN k n : Int)) := by
  have hrr : nrR n ≤ 2700000 := by unfold nrR; split <;> omega
  have S := Lib.hid (fun W : World => small_any (nrR n) k (nrC n) W hk hrr)
  have HB := (Below.refl w.heap.size w).alloc (Nat.le_refl _) (.cells #[.slice none 0 0, .bool false] 183)
  have K := heap_alloc_new w (.cells #[.slice none 0 0, .bool false] 183)
  have HX := Lib.hid (show BoxN w w.heap.size w.heap.size w.heap.size (.slice none 0 0) (.bool false) (.slice none 0 0) (.bool false) (w.alloc (.cells #[.slice none 0 0, .bool false] 183)) from
    ⟨(cell_of K (i := 0) rfl).1, (cell_of K (i := 1) rfl).1, (cell_of K (i := 0) rfl).1, (cell_of K (i := 1) rfl).1, ⟨none, 0, 0, false, K⟩, HB⟩)
  have HN := Lib.hid (show nrN k n = smN k (nrR n) (nrC n) from rfl)
  have FIN : ∀ (A : Option Addr) (c : Nat) (w1 : World), Dn w1 A (nd (smN k (nrR n) (nrC n))) c (smN k (nrR n) (nrC n)) → Below (w.alloc (.cells #[.slice none 0 0, .bool false] 183)).heap.size (w.alloc (.cells #[.slice none 0 0, .bool false] 183)) w1 →
      (∀ y0 y1, ZPost w (nrN k n : Int) (.returned (.agg #[.slice A (nd (smN k (nrR n) (nrC n))) c, .bool false])) ((w1.setCell ⟨w.heap.size, 0, none⟩ y0).setCell ⟨w.heap.size, 1, none⟩ y1)) ∧
      ∃ u0 u1, w1.cell? ⟨w.heap.size, 0, none⟩ = some u0 ∧ w1.cell? ⟨w.heap.size, 1, none⟩ = some u1 ∧ w1.frozen? ⟨w.heap.size, 0, none⟩ = false ∧ w1.frozen? ⟨w.heap.size, 1, none⟩ = false := fun A c w1 hd hb => by
    have hk := HX.out.keep hb
    refine ⟨fun y0 y1 => ?_, hk.cells⟩
    have z := zpost_store (Z := (nrN k n : Int)) hk (by rw [Int.natAbs_natCast, HN.out]; exact hd) (Nat.le_refl _) y0 y1
    rw [Int.natAbs_natCast, HN.out, decide_eq_false (by omega)] at z
    rw [HN.out]
    exact z
  have FIN2 : ∀ (A : Option Addr) (c : Nat) (w1 : World), Below (w.alloc (.cells #[.slice none 0 0, .bool false] 183)).heap.size (w.alloc (.cells #[.slice none 0 0, .bool false] 183)) w1 → ∀ y0 y1, ((w1.setCell ⟨w.heap.size, 0, none⟩ y0).setCell ⟨w.heap.size, 1, none⟩ y1).cell? ⟨w.heap.size, 0, none⟩ = some y0 ∧ ((w1.setCell ⟨w.heap.size, 0, none⟩ y0).setCell ⟨w.heap.size, 1, none⟩ y1).cell? ⟨w.heap.size, 1, none⟩ = some y1 := fun A c w1 hb y0 y1 => res_store (HX.out.keep hb) y0 y1
  have F1 := Lib.hid FIN
  have F2 := Lib.hid FIN2
  clear FIN FIN2 HB K HX HN hk
  have hm : n % 5400000 < 5400000 := Nat.mod_lt _ (by omega)
  obtain ⟨M, hM⟩ : ∃ M : Int, M = (n : Int) := ⟨_, rfl⟩
  obtain ⟨X, hX⟩ : ∃ X : Int, X = ((n % 5400000 : Nat) : Int) := ⟨_, rfl⟩
  have b1 : 0 ≤ M := by omega
  have b2 : M < 10800000 := by omega
  have c0 : M % 21600000 = M := by omega
  have c2 : M % 5400000 = X := by omega
  have x0 : 0 ≤ X := by omega
  have x1 : X < 5400000 := by omega
  rw [← hM]
  have key : ∃ (Y : Int) (C : Bool) (q : Int), (q = 0 ∨ q = 1) ∧ M / 5400000 = q ∧ ((2700000 < X ∧ Y = 5400000 - X ∧ C = !(q == 1)) ∨ (¬ 2700000 < X ∧ Y = X ∧ C = (q == 1))) ∧ ∀ W : World, Calls Tryz.prog 208 #[.int .i64 Y, .bool C, .int .i64 (k : Int)] W (NPost W (smN k (nrR n) (nrC n))) := by
    refine ⟨(nrR n : Int), nrC n, M / 5400000, by omega, rfl, ?_, S.out⟩
    have hb : (M / 5400000 == 1) = (n / 5400000 % 2 == 1) := by
      apply Bool.eq_iff_iff.2
      simp only [beq_iff_eq]
      omega
    rw [hb]
    unfold nrR nrC
    by_cases hr : n % 5400000 > 2700000
    · left
      rw [if_pos hr, if_pos hr]
      exact ⟨by omega, by omega, rfl⟩
    · right
      rw [if_neg hr, if_neg hr]
      exact ⟨by omega, by omega, rfl⟩
  obtain ⟨Y, C, q, hq, c1, hy, hS⟩ := key
  have S := Lib.hid hS
  have hNP := Lib.hid (fun (W : World) (e : Ending) (w' : World) (h : NPost W (smN k (nrR n) (nrC n)) e w') => h)
  generalize smN k (nrR n) (nrC n) = NN at *
  generalize nrN k n = ZZ at *
  clear hM hX hm hS hrr hn hNP
  rcases hq with rfl | rfl <;> rcases hy with ⟨hr, rfl, rfl⟩ | ⟨hr, rfl, rfl⟩
  all_goals
    go_enter Tryz.func191, Tryz.ntmps191
    go_wp2_with fail
    refine (S.out _).mono ?_
    rintro e w1 ⟨A, c, rfl, hd, hb⟩
    obtain ⟨hz, u0, u1, y0, y1, y2, y3⟩ := F1.out A c w1 hd hb
    have HZ := Lib.hid (hz (.slice A (nd NN) c) (.bool false))
    obtain ⟨z0, z1⟩ := F2.out A c w1 hb (.slice A (nd NN) c) (.bool false)
    clear hd hb hz F1 F2 S
    generalize nd NN = N at *
    go_wp2
    refine bodyPost_ret (v := .agg #[.slice A N c, .bool false]) (by simp [results, Tryz.results191, go_sem, z0, z1]) rfl HZ.out
end Go.Proofs.YtfilgpifiboccaaGreat
namespace Go.Proofs.YtfilgpifiboccaaGreat
open DG SM TA
/-! How near the reference's sines of limbs are. No walk here. -/
theorem cast_U3 : ((268435456 ^ 3 : Nat) : Rat) = 19342813113834066795298816 ∧ ((268435456 ^ 4 : Nat) : Rat) = 5192296858534827628530496329220096 := by decide +kernel
theorem smX_err {k r : Nat} (hk : k = 3 ∨ k = 4) (hr : r ≤ 2700000) : Wit ((smX k r : Rat) / ((268435456 ^ k : Nat) : Rat) - thF * (r : Rat)) (2 / ((268435456 ^ k : Nat) : Rat)) := by
  have h1 : smX k r * 10800000 ≤ piK k * r := by unfold smX; omega
  have h2 : piK k * r ≤ smX k r * 10800000 + 10800000 := by unfold smX; omega
  generalize smX k r = A at *
  have r1 := Rat.natCast_le_natCast.2 h1
  have r2 := Rat.natCast_le_natCast.2 h2
  rw [Rat.natCast_mul, Rat.natCast_mul] at r1
  rw [Rat.natCast_add, Rat.natCast_mul, Rat.natCast_mul] at r2
  have c1 : ((10800000 : Nat) : Rat) = 10800000 := rfl
  rw [c1] at r1 r2
  have n0 : (0 : Rat) ≤ (r : Rat) := by exact_mod_cast Nat.zero_le _
  have n1 : (r : Rat) ≤ ((2700000 : Nat) : Rat) := Rat.natCast_le_natCast.2 hr
  have c3 : ((2700000 : Nat) : Rat) = 2700000 := rfl
  rw [c3] at n1
  unfold Wit thF
  rcases hk with rfl | rfl
  · have p : ((piK 3 : Nat) : Rat) = 60767239578181417292607896 := by decide +kernel
    rw [p] at r1 r2
    rw [cast_U3.1]
    generalize (r : Rat) = K at *
    generalize (A : Rat) = a at *
    clear h1 h2 c1 c3 p hr
    constructor <;> grind
  · have p : ((piK 4 : Nat) : Rat) = 16312081666030376401667486162748272 := by decide +kernel
    rw [p] at r1 r2
    rw [cast_U3.2]
    generalize (r : Rat) = K at *
    generalize (A : Rat) = a at *
    clear h1 h2 c1 c3 p hr
    constructor <;> grind
theorem smQ_err {k r : Nat} (hk : k = 3 ∨ k = 4) (hr : r ≤ 2700000) : Wit ((smQ k r : Rat) / ((268435456 ^ k : Nat) : Rat) - thF * (r : Rat) * (thF * (r : Rat))) (5 / ((268435456 ^ k : Nat) : Rat)) ∧ (smQ k r : Rat) / ((268435456 ^ k : Nat) : Rat) ≤ 7 / 10 := by
  have ha := smX_err hk hr
  have m := vx_bd r hr
  have y := vy_bd r hr
  have b := div_bd (smX k r * smX k r) (268435456 ^ k) (B_pos k)
  rw [Rat.natCast_mul] at b
  have hq : smQ k r = smX k r * smX k r / 268435456 ^ k := rfl
  rw [← hq] at b
  have a0 : (0 : Rat) ≤ (smX k r : Rat) := by exact_mod_cast Nat.zero_le _
  generalize thF * (r : Rat) = x at *
  generalize (smX k r : Rat) = a at *
  generalize (smQ k r : Rat) = q at *
  have key : ∀ U : Rat, 1000000000 ≤ U → Wit (a / U - x) (2 / U) → (U * q ≤ a * a ∧ a * a ≤ U * q + U) → Wit (q / U - x * x) (5 / U) ∧ q / U ≤ 7 / 10 := fun U hU h hb => by
    have hi : U * (1 / U) = 1 := by grind
    have i0 := inv_nonneg' U (by grind)
    have i1 : 1 / U ≤ 1 / 1000000000 := by
      have := Rat.mul_le_mul_of_nonneg_right hU i0
      grind
    have dv : ∀ z : Rat, z / U = z * (1 / U) := fun z => by grind
    rw [dv a, dv 2] at h
    rw [dv q, dv 5]
    generalize 1 / U = i at *
    have w := h.mul (show Wit (a * i + x) (1571 / 1000) from by unfold Wit at *; constructor <;> grind)
    have e : (a * i - x) * (a * i + x) = a * a * i * i - x * x := by grind
    rw [e] at w
    have c1 := Rat.mul_le_mul_of_nonneg_right (Rat.mul_le_mul_of_nonneg_right hb.1 i0) i0
    have c2 := Rat.mul_le_mul_of_nonneg_right (Rat.mul_le_mul_of_nonneg_right hb.2 i0) i0
    have r1 : U * q * i * i = q * i := by rw [show U * q * i * i = (U * i) * (q * i) by grind, hi]; grind
    have r3 : (U * q + U) * i * i = q * i + i := by rw [show (U * q + U) * i * i = (U * i) * (q * i + i) by grind, hi]; grind
    rw [r1] at c1
    rw [r3] at c2
    generalize a * a * i * i = A at *
    generalize x * x = Y at *
    generalize q * i = Q at *
    unfold Wit at *
    refine ⟨⟨?_, ?_⟩, ?_⟩ <;> grind
  refine key _ ?_ ha b
  rcases hk with rfl | rfl
  · rw [cast_U3.1]; grind
  · rw [cast_U3.2]; grind
theorem smN_err {k r : Nat} (hk : k = 3 ∨ k = 4) (hr : r ≤ 2700000) : Wit ((smN k r false : Rat) / ((268435456 ^ k : Nat) : Rat) - sV r) (700 / ((268435456 ^ k : Nat) : Rat)) ∧ Wit ((smN k r true : Rat) / ((268435456 ^ k : Nat) : Rat) - cV r) (700 / ((268435456 ^ k : Nat) : Rat)) := by
  obtain ⟨q1, q2⟩ := smQ_err hk hr
  obtain ⟨hX, hQ⟩ := sm_le hk hr
  have ha := smX_err hk hr
  have m := vx_bd r hr
  have y := vy_bd r hr
  have nr := v_near r hr
  have c15 : ((15 : Nat) : Rat) = 15 := rfl
  have hU0 : (0 : Nat) < 268435456 ^ k := B_pos k
  have u1 : (1 : Rat) / 2 ^ 113 ≤ 1 / ((268435456 ^ k : Nat) : Rat) ∧ (0 : Rat) < ((268435456 ^ k : Nat) : Rat) ∧ (1 : Rat) / 2 ^ 115 ≤ 1 / ((268435456 ^ k : Nat) : Rat) := by
    rcases hk with rfl | rfl
    · rw [cast_U3.1]; decide +kernel
    · rw [cast_U3.2]; decide +kernel
  have dv : ∀ z : Rat, z / ((268435456 ^ k : Nat) : Rat) = z * (1 / ((268435456 ^ k : Nat) : Rat)) := fun z => by grind
  have hE : (1 : Rat) / ((268435456 ^ k : Nat) : Rat) ≤ 40 / ((268435456 ^ k : Nat) : Rat) / 8 := by rw [dv 40]; grind
  have hq1 : Wit ((smQ k r : Rat) / ((268435456 ^ k : Nat) : Rat) - thF * (r : Rat) * (thF * (r : Rat))) (40 / ((268435456 ^ k : Nat) : Rat) / 8) := q1.mono (by rw [dv 5, dv 40]; grind)
  have tn : ∀ f T n, ((vU (268435456 ^ k) (smQ k r) f T n).toNat : Rat) = (vU (268435456 ^ k) (smQ k r) f T n : Rat) := fun f T n => by
    have h0 := (vU_bd hQ f T n).1
    rw [← Rat.intCast_natCast, Int.toNat_of_nonneg h0]
  have i0 : (0 : Rat) ≤ 1 / ((268435456 ^ k : Nat) : Rat) := by have := u1.2.1; exact inv_nonneg' _ (by grind)
  constructor
  · have h := vU_err (U := 268435456 ^ k) hU0 hE tauF.1 hQ ⟨y.1, by grind⟩ q2 hq1 15 0 250 (smX k r) (thF * (r : Rat)) (by omega) (by omega) m.1 (by grind) (by unfold taub; grind) (ha.mono (by rw [dv 2, dv 40]; grind))
    have e : ((smN k r false : Nat) : Rat) = (vU (268435456 ^ k) (smQ k r) 250 (smX k r) (2 * 0 + 1) : Rat) := by
      unfold smN
      rw [if_neg (by simp), tn]
    rw [e]
    rw [c15] at h
    have n1 := nr.1
    rw [dv] at h ⊢
    rw [dv 40] at h
    rw [dv 700]
    generalize thF * (r : Rat) * tl 1 (thF * (r : Rat) * (thF * (r : Rat))) 0 15 = v at *
    generalize (vU (268435456 ^ k) (smQ k r) 250 (smX k r) (2 * 0 + 1) : Rat) * (1 / ((268435456 ^ k : Nat) : Rat)) = u at *
    generalize 1 / ((268435456 ^ k : Nat) : Rat) = i at *
    unfold Wit at *
    constructor <;> grind
  · have hone : Wit (((268435456 ^ k : Nat) : Rat) / ((268435456 ^ k : Nat) : Rat) - 1) (40 / ((268435456 ^ k : Nat) : Rat)) := by
      have := u1.2.1
      have e : ((268435456 ^ k : Nat) : Rat) / ((268435456 ^ k : Nat) : Rat) = 1 := by grind
      rw [e, dv 40]
      unfold Wit
      constructor <;> grind
    have h := vU_err (U := 268435456 ^ k) hU0 hE tauF.2 hQ ⟨y.1, by grind⟩ q2 hq1 15 0 250 (268435456 ^ k) 1 (by omega) (by omega) (by grind) (by grind) (by unfold taub; grind) hone
    have e : ((smN k r true : Nat) : Rat) = (vU (268435456 ^ k) (smQ k r) 250 (268435456 ^ k) (2 * 0 + 0) : Rat) := by
      unfold smN
      rw [if_pos rfl, tn]
    rw [e]
    rw [c15, Rat.one_mul] at h
    have n1 := nr.2
    rw [dv] at h ⊢
    rw [dv 40] at h
    rw [dv 700]
    generalize tl 0 (thF * (r : Rat) * (thF * (r : Rat))) 0 15 = v at *
    generalize (vU (268435456 ^ k) (smQ k r) 250 (268435456 ^ k) (2 * 0 + 0) : Rat) * (1 / ((268435456 ^ k : Nat) : Rat)) = u at *
    generalize 1 / ((268435456 ^ k : Nat) : Rat) = i at *
    unfold Wit at *
    constructor <;> grind
/-- The sine and the cosine of the first quarter, by limbs. -/
theorem nrN_err {k n : Nat} (hk : k = 3 ∨ k = 4) (hn : n < 5400000) : Wit ((nrN k n : Rat) / ((268435456 ^ k : Nat) : Rat) - sK n) (700 / ((268435456 ^ k : Nat) : Rat)) ∧ Wit ((nrN k (n + 5400000) : Rat) / ((268435456 ^ k : Nat) : Rat) - cK n) (700 / ((268435456 ^ k : Nat) : Rat)) := by
  have m1 : n % 5400000 = n := Nat.mod_eq_of_lt hn
  have m2 : (n + 5400000) % 5400000 = n := by omega
  have q1 : n / 5400000 = 0 := by omega
  have q2 : (n + 5400000) / 5400000 = 1 := by omega
  unfold nrN nrR nrC sK cK
  rw [m1, m2, q1, q2]
  by_cases h : n ≤ 2700000
  · have hh : ¬ n > 2700000 := by omega
    rw [if_neg hh, if_neg hh, if_neg hh, if_pos h, if_pos h]
    exact smN_err hk h
  · have hh : n > 2700000 := by omega
    rw [if_pos hh, if_pos hh, if_pos hh, if_neg h, if_neg h]
    have := smN_err (r := 5400000 - n) hk (by omega)
    exact ⟨this.2, this.1⟩
/-- What the limbs decide, they decide rightly; and four limbs decide. -/
theorem limbs {k n x y : Nat} (hk : k = 3 ∨ k = 4) (h0 : 0 < n) (h1 : n ≠ 2700000) (hn : n < 5400000) (hx : x ≤ 2147483648) (hy : y ≤ 2147483648) (hxy : 0 < x + y) :
    (4398046511104 < ((x * nrN k n : Nat) : Int) - ((y * nrN k (n + 5400000) : Nat) : Int) → reaB x y n = false) ∧ (((x * nrN k n : Nat) : Int) - ((y * nrN k (n + 5400000) : Nat) : Int) < -4398046511104 → reaB x y n = true) ∧
    (k = 4 → ((x * nrN k n : Nat) : Int) - ((y * nrN k (n + 5400000) : Nat) : Int) ≤ 4398046511104 → ((x * nrN k n : Nat) : Int) - ((y * nrN k (n + 5400000) : Nat) : Int) < -4398046511104) := by
  obtain ⟨e1, e2⟩ := nrN_err hk hn
  have rs := rea_sign h0 h1 hn hx hy hxy
  have x0 : (0 : Rat) ≤ (x : Rat) := by exact_mod_cast Nat.zero_le _
  have y0 : (0 : Rat) ≤ (y : Rat) := by exact_mod_cast Nat.zero_le _
  have z2 : ((2147483648 : Nat) : Rat) = 2147483648 := rfl
  have x1 : (x : Rat) ≤ 2147483648 := by rw [← z2]; exact Rat.natCast_le_natCast.2 hx
  have y1 : (y : Rat) ≤ 2147483648 := by rw [← z2]; exact Rat.natCast_le_natCast.2 hy
  have up : (0 : Rat) < ((268435456 ^ k : Nat) : Rat) := by
    rcases hk with rfl | rfl
    · rw [cast_U3.1]; decide +kernel
    · rw [cast_U3.2]; decide +kernel
  have hU4 : k = 4 → ((268435456 ^ k : Nat) : Rat) = 5192296858534827628530496329220096 := fun h => by rw [h]; exact cast_U3.2
  generalize ((268435456 ^ k : Nat) : Rat) = U at *
  have key : -(2147483648 * 700 + 2147483648 * 700) ≤ (x : Rat) * (nrN k n : Rat) - (y : Rat) * (nrN k (n + 5400000) : Rat) - U * ((x : Rat) * sK n - (y : Rat) * cK n) ∧ (x : Rat) * (nrN k n : Rat) - (y : Rat) * (nrN k (n + 5400000) : Rat) - U * ((x : Rat) * sK n - (y : Rat) * cK n) ≤ 2147483648 * 700 + 2147483648 * 700 := by
    have hi : U * (1 / U) = 1 := by grind
    have f1 : Wit ((nrN k n : Rat) - U * sK n) 700 := by
      have w := e1.scale (c := U) (by grind)
      have a1 : U * ((nrN k n : Rat) / U - sK n) = (nrN k n : Rat) - U * sK n := by grind
      have a2 : U * (700 / U) = 700 := by grind
      rw [a1, a2] at w
      exact w
    have f2 : Wit ((nrN k (n + 5400000) : Rat) - U * cK n) 700 := by
      have w := e2.scale (c := U) (by grind)
      have a1 : U * ((nrN k (n + 5400000) : Rat) / U - cK n) = (nrN k (n + 5400000) : Rat) - U * cK n := by grind
      have a2 : U * (700 / U) = 700 := by grind
      rw [a1, a2] at w
      exact w
    have m1 := mulB (u := (x : Rat)) (a := 2147483648) ⟨by grind, x1⟩ f1
    have m2 := mulB (u := (y : Rat)) (a := 2147483648) ⟨by grind, y1⟩ f2
    have e : (x : Rat) * (nrN k n : Rat) - (y : Rat) * (nrN k (n + 5400000) : Rat) - U * ((x : Rat) * sK n - (y : Rat) * cK n) = (x : Rat) * ((nrN k n : Rat) - U * sK n) - (y : Rat) * ((nrN k (n + 5400000) : Rat) - U * cK n) := by grind
    rw [e]
    generalize (x : Rat) * ((nrN k n : Rat) - U * sK n) = p at *
    generalize (y : Rat) * ((nrN k (n + 5400000) : Rat) - U * cK n) = q at *
    constructor <;> grind
  have cd : ((((x * nrN k n : Nat) : Int) - ((y * nrN k (n + 5400000) : Nat) : Int) : Int) : Rat) = (x : Rat) * (nrN k n : Rat) - (y : Rat) * (nrN k (n + 5400000) : Rat) := by
    rw [Rat.intCast_sub, Rat.intCast_natCast, Rat.intCast_natCast, Rat.natCast_mul, Rat.natCast_mul]
  generalize ((x * nrN k n : Nat) : Int) - ((y * nrN k (n + 5400000) : Nat) : Int) = D at *
  rw [← cd] at key
  clear cd e1 e2
  generalize (x : Rat) * sK n - (y : Rat) * cK n = f at *
  have cE : ((4398046511104 : Int) : Rat) = 4398046511104 := rfl
  have cE' : ((-4398046511104 : Int) : Rat) = -4398046511104 := rfl
  have pw : (1 : Rat) / 2 ^ 57 = 1 / 144115188075855872 := by decide +kernel
  rw [pw] at rs
  refine ⟨fun h => ?_, fun h => ?_, fun h4 h => ?_⟩
  · rcases rs with ⟨_, r⟩ | ⟨r, _⟩
    · exfalso
      have g := Rat.intCast_le_intCast.2 (Int.le_of_lt h)
      rw [cE] at g
      have := Rat.mul_nonneg (Rat.le_of_lt up) (show 0 ≤ -f by grind)
      grind
    · exact r
  · rcases rs with ⟨r, _⟩ | ⟨_, r⟩
    · exact r
    · exfalso
      have g := Rat.intCast_le_intCast.2 (Int.le_of_lt h)
      rw [cE'] at g
      have := Rat.mul_nonneg (Rat.le_of_lt up) (show 0 ≤ f by grind)
      grind
  · have hU := hU4 h4
    rw [hU] at key
    rcases rs with ⟨_, r⟩ | ⟨_, r⟩
    · rcases Int.lt_or_le D (-4398046511104) with q | q
      · exact q
      · exfalso
        have g := Rat.intCast_le_intCast.2 q
        rw [cE'] at g
        grind
    · exfalso
      have g := Rat.intCast_le_intCast.2 h
      rw [cE] at g
      grind
end Go.Proofs.YtfilgpifiboccaaGreat
namespace Go.Proofs.YtfilgpifiboccaaGreat
open Go.RowKit DG SM TA
theorem mask30 (a : Int) (h0 : 0 ≤ a) (h1 : a < 9223372036854775808) : bits .and .i64 a 1073741823 = a % 1073741824 := by
  obtain ⟨n, rfl⟩ := Int.eq_ofNat_of_zero_le h0
  have hx : n &&& 1073741823 < 2 ^ 64 := Nat.and_lt_two_pow _ (by omega)
  have h1 : (BitVec.ofInt 64 (n : Int)).toNat = n := by
    rw [BitVec.ofInt_natCast, BitVec.toNat_ofNat]; exact Nat.mod_eq_of_lt (by omega)
  have h2 : (BitVec.ofInt 64 (1073741823 : Int)).toNat = 1073741823 := by decide
  show IntKind.i64.wrap ((BitVec.ofInt 64 (n : Int) &&& BitVec.ofInt 64 (1073741823 : Int)).toNat : Int) = _
  have e : n &&& 1073741823 = n % 1073741824 := Nat.and_two_pow_sub_one_eq_mod n 30
  rw [BitVec.toNat_and, h1, h2, e, IntKind.wrap_i64]
  omega

/-- What the quick side reckons. -/
def qsT (x y s c : Int) : Int := (x * (s / 4) - y * (c / 4)) / 1073741824
def qsM (x y : Int) : Int := (x + y) * 65 / 1073741824 + 2
def qsR (x y s c : Int) : Int := if qsT x y s c > qsM x y then 1 else if qsT x y s c < -qsM x y then -1 else 0
theorem pr_bd {X Y A B : Int} (h1 : 0 ≤ X) (h2 : X ≤ A) (h3 : 0 ≤ Y) (h4 : Y ≤ B) (hA : 0 ≤ A) : 0 ≤ X * Y ∧ X * Y ≤ A * B := ⟨Int.mul_nonneg h1 h3, Int.mul_le_mul h2 h4 h3 hA⟩
theorem qsT_eq {x y s c : Int} (hx : 0 ≤ x ∧ x ≤ 2147483648) (hy : 0 ≤ y ∧ y ≤ 2147483648) (hs : 0 ≤ s ∧ s ≤ 4611686018427387904) (hc : 0 ≤ c ∧ c ≤ 4611686018427387904) :
    wrap64 (wrap64 (wrap64 (x * (s / 4 / 1073741824)) - wrap64 (y * (c / 4 / 1073741824))) + wrap64 (wrap64 (x * bits BinOp.and IntKind.i64 (s / 4) 1073741823) - wrap64 (y * bits BinOp.and IntKind.i64 (c / 4) 1073741823)) / 1073741824) = qsT x y s c := by
  rw [mask30 (s / 4) (by omega) (by omega), mask30 (c / 4) (by omega) (by omega)]
  unfold qsT
  have e1 : s / 4 / 1073741824 * 1073741824 + s / 4 % 1073741824 = s / 4 := by omega
  have e2 : c / 4 / 1073741824 * 1073741824 + c / 4 % 1073741824 = c / 4 := by omega
  have b1 : 0 ≤ s / 4 / 1073741824 ∧ s / 4 / 1073741824 ≤ 1073741824 := by omega
  have b2 : 0 ≤ c / 4 / 1073741824 ∧ c / 4 / 1073741824 ≤ 1073741824 := by omega
  have b3 : 0 ≤ s / 4 % 1073741824 ∧ s / 4 % 1073741824 ≤ 1073741824 := by omega
  have b4 : 0 ≤ c / 4 % 1073741824 ∧ c / 4 % 1073741824 ≤ 1073741824 := by omega
  generalize s / 4 / 1073741824 = S1 at *
  generalize c / 4 / 1073741824 = C1 at *
  generalize s / 4 % 1073741824 = S0 at *
  generalize c / 4 % 1073741824 = C0 at *
  have p1 := pr_bd hx.1 hx.2 b1.1 b1.2 (by omega)
  have p2 := pr_bd hy.1 hy.2 b2.1 b2.2 (by omega)
  have p3 := pr_bd hx.1 hx.2 b3.1 b3.2 (by omega)
  have p4 := pr_bd hy.1 hy.2 b4.1 b4.2 (by omega)
  have ek : x * (s / 4) - y * (c / 4) = (x * S0 - y * C0) + (x * S1 - y * C1) * 1073741824 := by rw [← e1, ← e2]; grind
  rw [ek, Int.add_mul_ediv_right _ _ (by omega)]
  generalize x * S1 = u1 at *
  generalize y * C1 = u2 at *
  generalize x * S0 = u3 at *
  generalize y * C0 = u4 at *
  rw [IntWalk.wrap64_in u1 (by omega), IntWalk.wrap64_in u2 (by omega), IntWalk.wrap64_in u3 (by omega), IntWalk.wrap64_in u4 (by omega), IntWalk.wrap64_in (u1 - u2) (by omega), IntWalk.wrap64_in (u3 - u4) (by omega), IntWalk.wrap64_in _ (by omega)]
  omega
set_option maxRecDepth 100000 in
set_option maxHeartbeats 2000000 in
theorem qside_any (n x y : Int) (w : World) (hx : 0 ≤ x ∧ x ≤ 2147483648) (hy : 0 ≤ y ∧ y ≤ 2147483648) (hn : 0 ≤ n ∧ n ≤ 5400000) (hs : 0 ≤ quickV n ∧ quickV n ≤ 4611686018427387904) (hc : 0 ≤ quickV (n + 5400000) ∧ quickV (n + 5400000) ≤ 4611686018427387904) :
    Calls Tryz.prog 200 #[.int .i64 n, .int .i64 x, .int .i64 y] w (IntPost (qsR x y (quickV n) (quickV (n + 5400000))) w) := by
  have Q1 := Lib.hid (quickV_any n w)
  have Q2 := Lib.hid (quickV_any (n + 5400000) w)
  have HT := Lib.hid (qsT_eq hx hy hs hc)
  have HM : (max x (-x) + max y (-y)) * 65 / 1073741824 + 2 = qsM x y := by unfold qsM; rw [Int.max_eq_left (by omega), Int.max_eq_left (by omega)]
  have HM := Lib.hid HM
  have FIN : ∀ r, r = qsR x y (quickV n) (quickV (n + 5400000)) → IntPost (qsR x y (quickV n) (quickV (n + 5400000))) w (.returned (.int .i64 r)) w := fun r h => ⟨by rw [h], rfl⟩
  have HF := Lib.hid FIN
  have HR := Lib.hid (show qsR x y (quickV n) (quickV (n + 5400000)) = if qsT x y (quickV n) (quickV (n + 5400000)) > qsM x y then 1 else if qsT x y (quickV n) (quickV (n + 5400000)) < -qsM x y then -1 else 0 from rfl)
  clear FIN
  generalize qsR x y (quickV n) (quickV (n + 5400000)) = RR at *
  generalize quickV n = s at *
  generalize quickV (n + 5400000) = c at *
  go_enter Tryz.func200, Tryz.ntmps200
  go_wp2_with fail
  refine Q1.out.mono ?_
  rintro e w1 ⟨rfl, rfl⟩
  go_wp2_with fail
  refine Q2.out.mono ?_
  rintro e w2 ⟨rfl, rfl⟩
  go_wp2
  all_goals
    first | go_ret | skip
  all_goals
    refine HF.out _ ?_
    rw [HR.out]
    rw [HT.out] at *
    rw [HM.out] at *
    repeat' split
    all_goals first | rfl | omega
end Go.Proofs.YtfilgpifiboccaaGreat
namespace Go.Proofs.YtfilgpifiboccaaGreat
open Go.RowKit DG SM TA
theorem sK_T {k : Nat} (hk : k ≤ 5400000) : Wit (sK k - T k) (1 / 288230376151711744) ∧ Wit (cK k - T (5400000 - k)) (1 / 288230376151711744) := by
  have a := sinN_F k hk
  have b := sinN_err k hk
  have c3 : ((UU : Nat) : Rat) = 6277101735386680763835789423207666416102355444464034512896 := rfl
  have e : ∀ z : Rat, z * epU = z / 6277101735386680763835789423207666416102355444464034512896 := fun z => by unfold epU; grind
  rw [c3] at a
  rw [e, e] at b
  have p : (1 : Rat) / 2 ^ 110 ≤ 1 / 1152921504606846976 := by decide +kernel
  generalize (sinN k : Rat) / 6277101735386680763835789423207666416102355444464034512896 = u at *
  generalize (cosN k : Rat) / 6277101735386680763835789423207666416102355444464034512896 = v at *
  clear e c3
  unfold Wit epN at *
  refine ⟨⟨?_, ?_⟩, ?_, ?_⟩ <;> grind
theorem qv_err {n : Nat} (hn : n < 5400000) : Wit (4611686018427387904 * sK n - (quickV (n : Int) : Rat)) 170 ∧ Wit (4611686018427387904 * cK n - (quickV ((n : Int) + 5400000) : Rat)) 170 ∧ (0 ≤ quickV (n : Int) ∧ quickV (n : Int) ≤ 4611686018427387904) ∧ 0 ≤ quickV ((n : Int) + 5400000) ∧ quickV ((n : Int) + 5400000) ≤ 4611686018427387904 := by
  have st := sK_T (k := n) (by omega)
  have zr : ZR = 4611686018427387904 := rfl
  have m1 : (n : Int) % 21600000 = n := by omega
  have m2 : ((n : Int) + 5400000) % 21600000 = (n : Int) + 5400000 := by omega
  have a1 : (n : Int) < 5400000 := by omega
  have a2 : ¬ (n : Int) + 5400000 < 5400000 := by omega
  have a3 : (n : Int) + 5400000 < 10800000 := by omega
  have elo : quickV (n : Int) = if 2700000 < (n : Int) then quickN (5400000 - (n : Int)) true else quickN (n : Int) false := by
    unfold quickV quickM
    rw [m1, if_pos a1]
  have ehi : quickV ((n : Int) + 5400000) = if 2700000 < (n : Int) then quickN (5400000 - (n : Int)) false else quickN (n : Int) true := by
    unfold quickV quickM
    rw [m2, if_neg a2, if_pos a3, show (n : Int) + 5400000 - 5400000 = (n : Int) by omega, show 10800000 - ((n : Int) + 5400000) = 5400000 - (n : Int) by omega]
  rw [elo, ehi]
  by_cases h : n ≤ 2700000
  · have q := quick_err n h
    have e1 : T n = tS n := by unfold T; rw [if_pos h]
    have e2 : Wit (T (5400000 - n) - tC n) (1 / 288230376151711744) := by
      by_cases h2 : n = 2700000
      · subst h2
        have := mid_eq
        have e : T (5400000 - 2700000) = tS 2700000 := by unfold T; rw [if_pos (by omega)]
        rw [e]
        exact this.mono (by grind)
      · have e : T (5400000 - n) = tC n := by unfold T; rw [if_neg (by omega), show 5400000 - (5400000 - n) = n by omega]
        rw [e]
        unfold Wit
        constructor <;> grind
    rw [if_neg (show ¬ 2700000 < (n : Int) by omega), if_neg (show ¬ 2700000 < (n : Int) by omega)]
    rw [e1] at st
    rw [zr] at q
    have b1 := quickN_bd (n : Int) false (by omega) (by omega)
    have b2 := quickN_bd (n : Int) true (by omega) (by omega)
    generalize (quickN (n : Int) false : Rat) = u at *
    generalize (quickN (n : Int) true : Rat) = v at *
    refine ⟨?_, ?_, b1, b2⟩
    · unfold Wit at *
      constructor <;> grind
    · unfold Wit at *
      constructor <;> grind
  · have q := quick_err (5400000 - n) (by omega)
    have ci : ((5400000 - n : Nat) : Int) = 5400000 - (n : Int) := by omega
    rw [ci] at q
    have e1 : T n = tC (5400000 - n) := by unfold T; rw [if_neg h]
    have e2 : T (5400000 - n) = tS (5400000 - n) := by unfold T; rw [if_pos (by omega)]
    rw [if_pos (show 2700000 < (n : Int) by omega), if_pos (show 2700000 < (n : Int) by omega)]
    rw [e1, e2] at st
    rw [zr] at q
    have b1 := quickN_bd (5400000 - (n : Int)) true (by omega) (by omega)
    have b2 := quickN_bd (5400000 - (n : Int)) false (by omega) (by omega)
    generalize (quickN (5400000 - (n : Int)) false : Rat) = u at *
    generalize (quickN (5400000 - (n : Int)) true : Rat) = v at *
    refine ⟨?_, ?_, b1, b2⟩
    · unfold Wit at *
      constructor <;> grind
    · unfold Wit at *
      constructor <;> grind
/-- What the quick side decides, it decides rightly. -/
theorem qs_right {n x y : Nat} (h0 : 0 < n) (h1 : n ≠ 2700000) (hn : n < 5400000) (hx : x ≤ 2147483648) (hy : y ≤ 2147483648) (hxy : 0 < x + y) :
    (qsR x y (quickV (n : Int)) (quickV ((n : Int) + 5400000)) = 1 → reaB x y n = false) ∧ (qsR x y (quickV (n : Int)) (quickV ((n : Int) + 5400000)) = -1 → reaB x y n = true) := by
  obtain ⟨e1, e2, _, _⟩ := qv_err hn
  have rs := rea_sign h0 h1 hn hx hy hxy
  generalize quickV (n : Int) = s at *
  generalize quickV ((n : Int) + 5400000) = c at *
  have x0 : (0 : Rat) ≤ (x : Rat) := by exact_mod_cast Nat.zero_le _
  have y0 : (0 : Rat) ≤ (y : Rat) := by exact_mod_cast Nat.zero_le _
  -- four times the true form against the program's
  have d1 : 4 * (s / 4) ≤ s ∧ s ≤ 4 * (s / 4) + 3 := by omega
  have d2 : 4 * (c / 4) ≤ c ∧ c ≤ 4 * (c / 4) + 3 := by omega
  have fl : ∀ z : Int, (4 * (z / 4) ≤ z ∧ z ≤ 4 * (z / 4) + 3) → 4 * ((z / 4 : Int) : Rat) ≤ (z : Rat) ∧ (z : Rat) ≤ 4 * ((z / 4 : Int) : Rat) + 3 := fun z hz => by
    have a := Rat.intCast_le_intCast.2 hz.1
    have b := Rat.intCast_le_intCast.2 hz.2
    rw [Rat.intCast_mul] at a
    rw [Rat.intCast_add, Rat.intCast_mul] at b
    exact ⟨a, b⟩
  have f1 := fl s d1
  have f2 := fl c d2
  have hD : ((((x : Int) * (s / 4) - (y : Int) * (c / 4) : Int)) : Rat) = (x : Rat) * ((s / 4 : Int) : Rat) - (y : Rat) * ((c / 4 : Int) : Rat) := by
    rw [Rat.intCast_sub, Rat.intCast_mul, Rat.intCast_mul, Rat.intCast_natCast, Rat.intCast_natCast]
  have w1 : Wit (1152921504606846976 * sK n - ((s / 4 : Int) : Rat)) 45 := by unfold Wit at *; constructor <;> grind
  have w2 : Wit (1152921504606846976 * cK n - ((c / 4 : Int) : Rat)) 45 := by unfold Wit at *; constructor <;> grind
  have m1 := mulB (u := (x : Rat)) (a := (x : Rat)) ⟨by grind, Rat.le_refl⟩ w1
  have m2 := mulB (u := (y : Rat)) (a := (y : Rat)) ⟨by grind, Rat.le_refl⟩ w2
  have key : 1152921504606846976 * ((x : Rat) * sK n - (y : Rat) * cK n) = (x : Rat) * (1152921504606846976 * sK n - ((s / 4 : Int) : Rat)) - (y : Rat) * (1152921504606846976 * cK n - ((c / 4 : Int) : Rat)) + ((x : Rat) * ((s / 4 : Int) : Rat) - (y : Rat) * ((c / 4 : Int) : Rat)) := by grind
  rw [← hD] at key
  unfold qsR qsT qsM
  generalize (x : Int) * (s / 4) - (y : Int) * (c / 4) = D at *
  generalize (x : Rat) * (1152921504606846976 * sK n - ((s / 4 : Int) : Rat)) = p at *
  generalize (y : Rat) * (1152921504606846976 * cK n - ((c / 4 : Int) : Rat)) = q at *
  generalize (x : Rat) * sK n - (y : Rat) * cK n = f at *
  clear e1 e2 w1 w2 fl f1 f2 d1 d2 hD
  have pw : (1 : Rat) / 2 ^ 57 = 1 / 144115188075855872 := by decide +kernel
  rw [pw] at rs
  have cz : (((x : Int) + (y : Int) : Int) : Rat) = (x : Rat) + (y : Rat) := by rw [Rat.intCast_add, Rat.intCast_natCast, Rat.intCast_natCast]
  constructor
  · intro h
    split at h
    · rename_i g
      have hd : 65 * ((x : Int) + (y : Int)) ≤ D := by omega
      have gd := Rat.intCast_le_intCast.2 hd
      rw [Rat.intCast_mul, cz] at gd
      have c65 : ((65 : Int) : Rat) = 65 := rfl
      rw [c65] at gd
      rcases rs with ⟨_, r⟩ | ⟨r, _⟩
      · exfalso; grind
      · exact r
    · split at h <;> omega
  · intro h
    split at h
    · omega
    · split at h
      · rename_i g
        have hd : D ≤ -(65 * ((x : Int) + (y : Int))) := by omega
        have gd := Rat.intCast_le_intCast.2 hd
        rw [Rat.intCast_neg, Rat.intCast_mul, cz] at gd
        have c65 : ((65 : Int) : Rat) = 65 := rfl
        rw [c65] at gd
        rcases rs with ⟨r, _⟩ | ⟨_, r⟩
        · exact r
        · exfalso; grind
      · omega
end Go.Proofs.YtfilgpifiboccaaGreat
namespace Go.Proofs.YtfilgpifiboccaaGreat
open Go.RowKit DG SM TA
/-- The side on which a point of the first quadrant lies, seen from an angle. -/
def sdR (n x y : Nat) : Int := if n = 5400000 then 1 else if reaB x y n = true then (if (n = 0 ∧ y = 0) ∨ (n = 2700000 ∧ x = y) then 0 else -1) else 1
theorem sgn_any (d : Int) (w : World) : Calls Tryz.prog 199 #[.int .i64 d] w fun e w' => e = .returned (.int .i64 (if d < 0 then -1 else if 0 < d then 1 else 0)) ∧ w' = w := by
  rcases Int.lt_trichotomy d 0 with h | h | h
  · rw [if_pos h]
    go_enter Tryz.func199, Tryz.ntmps199
    go_wp2
    go_ret
    exact ⟨rfl, rfl⟩
  · subst h
    go_enter Tryz.func199, Tryz.ntmps199
    go_wp2
    go_ret
    exact ⟨rfl, rfl⟩
  · rw [if_neg (by omega), if_pos h]
    go_enter Tryz.func199, Tryz.ntmps199
    go_wp2
    go_ret
    exact ⟨rfl, rfl⟩
def sinArr : Obj := .cells #[.int .i64 0, .int .i64 1, .int .i64 1, .int .i64 1, .int .i64 0, .int .i64 (-1), .int .i64 (-1), .int .i64 (-1)] 3
theorem sin_cells (w : World) : ((w.alloc sinArr).cell? ⟨w.heap.size, 0, none⟩ = some (.int .i64 0) ∧ (w.alloc sinArr).cell? ⟨w.heap.size, 1, none⟩ = some (.int .i64 1) ∧ (w.alloc sinArr).cell? ⟨w.heap.size, 2, none⟩ = some (.int .i64 1)) ∧ (w.alloc sinArr).cell? ⟨w.heap.size, 3, none⟩ = some (.int .i64 1) ∧ (w.alloc sinArr).cell? ⟨w.heap.size, 4, none⟩ = some (.int .i64 0) := by
  have h := heap_alloc_new w sinArr
  unfold sinArr at h ⊢
  unfold World.cell?
  rw [h]
  exact ⟨⟨rfl, rfl, rfl⟩, rfl, rfl⟩
set_option maxRecDepth 100000 in
set_option maxHeartbeats 2000000 in
theorem side_exact (m n x y : Int) (w : World) (hn : (n = 0 ∧ m = -y) ∨ (n = 2700000 ∧ m = x - y) ∨ (n = 5400000 ∧ m = x)) (hx : 0 ≤ x ∧ x ≤ 2147483648) (hy : 0 ≤ y ∧ y ≤ 2147483648) :
    Calls Tryz.prog 180 #[.int .i64 n, .int .i64 x, .int .i64 y] w (IPost w (if m < 0 then -1 else if 0 < m then 1 else 0)) := by
  have S := Lib.hid (fun W : World => sgn_any m W)
  have HB := Lib.hid ((Below.refl w.heap.size w).alloc (Nat.le_refl _) sinArr)
  obtain ⟨⟨c0, c1, c2⟩, c3, c4⟩ := sin_cells w
  generalize (if m < 0 then -1 else if 0 < m then 1 else 0 : Int) = R at *
  unfold sinArr at c0 c1 c2 c3 c4 HB
  rcases hn with ⟨rfl, rfl⟩ | ⟨rfl, rfl⟩ | ⟨rfl, rfl⟩
  all_goals
    go_enter Tryz.func180, Tryz.ntmps180
    go_wp2
    go_quiet (fail)
    go_wp2_with fail
    refine (S.out _).mono ?_
    rintro e w1 ⟨rfl, rfl⟩
    go_wp2
    go_ret
    exact ⟨rfl, below_drewN HB.out _⟩
end Go.Proofs.YtfilgpifiboccaaGreat
namespace Go.Proofs.YtfilgpifiboccaaGreat
open Go.RowKit DG SM TA
/-- A number that is not negative, handed back. -/
def MPost (w : World) (N : Nat) (e : Ending) (w' : World) : Prop := ∃ A c, e = .returned (.agg #[.slice A (nd N) c, .bool false]) ∧ Dn w' A (nd N) c N ∧ Below w.heap.size w w'
theorem mpost_of {w w' : World} {N : Nat} {e : Ending} (h : ZPost w (N : Int) e w') : MPost w N e w' := by
  obtain ⟨A, c, rfl, hd, hb⟩ := h
  rw [Int.natAbs_natCast] at *
  exact ⟨A, c, by rw [decide_eq_false (by omega)], hd, hb⟩
theorem ofint_lit (N : Nat) (v : Int) (hv : v = (N : Int)) (w : World) (hN : N ≤ 4611686018427387904) : Calls Tryz.prog 192 #[.int .i64 v] w (MPost w N) := by
  subst hv
  exact (ofint_any N w hN).mono fun _ _ h => mpost_of h
/-- What the limbs' loop knows of a number. -/
structure Nb (w : World) (b : Nat) (A : Option Addr) (n c : Nat) (g : Bool) (W : World) : Prop where
  c0 : W.cell? ⟨b, 0, none⟩ = some (.slice A n c)
  c1 : W.cell? ⟨b, 1, none⟩ = some (.bool g)
theorem Nb.keep {w W w1 : World} {b : Nat} {A : Option Addr} {n c : Nat} {g : Bool} (h : Nb w b A n c g W) (hb : Below W.heap.size W w1) : Nb w b A n c g w1 :=
  ⟨(hb.cell (World.block_lt_of_cell? W _ h.c0)).trans h.c0, (hb.cell (World.block_lt_of_cell? W _ h.c1)).trans h.c1⟩
theorem Nb.new (w W : World) (A : Option Addr) (n c : Nat) (g : Bool) : Nb w W.heap.size A n c g (W.alloc (.cells #[.slice A n c, .bool g] 183)) :=
  ⟨(cell_of (heap_alloc_new W _) (i := 0) rfl).1, (cell_of (heap_alloc_new W _) (i := 1) rfl).1⟩
theorem keepS {w0 W w1 : World} {v0 v1 v2 v3 : Value} {b1 b2 : Nat} (h : (W.cell? ⟨b1, 0, none⟩ = some v0 ∧ W.cell? ⟨b1, 1, none⟩ = some v1 ∧ W.cell? ⟨b2, 0, none⟩ = some v2 ∧ W.cell? ⟨b2, 1, none⟩ = some v3) ∧ Below w0.heap.size w0 W) (hb : Below W.heap.size W w1) :
    (w1.cell? ⟨b1, 0, none⟩ = some v0 ∧ w1.cell? ⟨b1, 1, none⟩ = some v1 ∧ w1.cell? ⟨b2, 0, none⟩ = some v2 ∧ w1.cell? ⟨b2, 1, none⟩ = some v3) ∧ Below w0.heap.size w0 w1 := by
  obtain ⟨⟨h0, h1, h2, h3⟩, hB⟩ := h
  have k : ∀ a v, W.cell? a = some v → w1.cell? a = some v := fun a v ha => (hb.cell (World.block_lt_of_cell? W _ ha)).trans ha
  exact ⟨⟨k _ _ h0, k _ _ h1, k _ _ h2, k _ _ h3⟩, hB.trans (hb.mono hB.size)⟩
theorem keepSA {w0 W : World} {v0 v1 v2 v3 : Value} {b1 b2 : Nat} (h : (W.cell? ⟨b1, 0, none⟩ = some v0 ∧ W.cell? ⟨b1, 1, none⟩ = some v1 ∧ W.cell? ⟨b2, 0, none⟩ = some v2 ∧ W.cell? ⟨b2, 1, none⟩ = some v3) ∧ Below w0.heap.size w0 W) (o : Obj) :
    ((W.alloc o).cell? ⟨b1, 0, none⟩ = some v0 ∧ (W.alloc o).cell? ⟨b1, 1, none⟩ = some v1 ∧ (W.alloc o).cell? ⟨b2, 0, none⟩ = some v2 ∧ (W.alloc o).cell? ⟨b2, 1, none⟩ = some v3) ∧ Below w0.heap.size w0 (W.alloc o) :=
  keepS h ((Below.refl _ _).alloc (Nat.le_refl _) o)
theorem new_keep {W w1 : World} (hb : Below (W.alloc (.cells #[.slice none 0 0, .bool false] 183)).heap.size (W.alloc (.cells #[.slice none 0 0, .bool false] 183)) w1) :
    w1.heap[W.heap.size]? = some (.cells #[.slice none 0 0, .bool false] 183) ∧ w1.cell? ⟨W.heap.size, 0, none⟩ = some (.slice none 0 0) ∧ w1.cell? ⟨W.heap.size, 1, none⟩ = some (.bool false) ∧ w1.frozen? ⟨W.heap.size, 0, none⟩ = false ∧ w1.frozen? ⟨W.heap.size, 1, none⟩ = false := by
  have h : w1.heap[W.heap.size]? = some (.cells #[.slice none 0 0, .bool false] 183) := (hb.block _ (by simp)).trans (heap_alloc_new W _)
  exact ⟨h, (cell_of h (i := 0) rfl).1, (cell_of h (i := 1) rfl).1, (cell_of h (i := 0) rfl).2, (cell_of h (i := 1) rfl).2⟩
theorem new_keepD {W w1 : World} (hb : Below (W.alloc (.cells #[.slice none 0 0, .bool false] 183)).drew.heap.size (W.alloc (.cells #[.slice none 0 0, .bool false] 183)).drew w1) :
    w1.heap[W.heap.size]? = some (.cells #[.slice none 0 0, .bool false] 183) := (hb.block _ (by show W.heap.size < (W.alloc _).heap.size; simp)).trans (heap_alloc_new W _)
theorem blk_keep {W w1 : World} {b : Nat} (h0 : W.heap[b]? = some (.cells #[.slice none 0 0, .bool false] 183)) (hb : Below W.heap.size W w1) :
    w1.heap[b]? = some (.cells #[.slice none 0 0, .bool false] 183) ∧ w1.cell? ⟨b, 0, none⟩ = some (.slice none 0 0) ∧ w1.cell? ⟨b, 1, none⟩ = some (.bool false) ∧ w1.frozen? ⟨b, 0, none⟩ = false ∧ w1.frozen? ⟨b, 1, none⟩ = false := by
  have hl : b < W.heap.size := by
    rcases Nat.lt_or_ge b W.heap.size with q | q
    · exact q
    · rw [Array.getElem?_eq_none q] at h0; cases h0
  have h : w1.heap[b]? = some (.cells #[.slice none 0 0, .bool false] 183) := (hb.block _ hl).trans h0
  exact ⟨h, (cell_of h (i := 0) rfl).1, (cell_of h (i := 1) rfl).1, (cell_of h (i := 0) rfl).2, (cell_of h (i := 1) rfl).2⟩
theorem setS {w0 W : World} {v0 v1 v2 v3 : Value} {b1 b2 b : Nat} (h : (W.cell? ⟨b1, 0, none⟩ = some v0 ∧ W.cell? ⟨b1, 1, none⟩ = some v1 ∧ W.cell? ⟨b2, 0, none⟩ = some v2 ∧ W.cell? ⟨b2, 1, none⟩ = some v3) ∧ Below w0.heap.size w0 W)
    (l1 : b1 < b) (l2 : b2 < b) (lw : w0.heap.size ≤ b) (y0 y1 : Value) :
    (((W.setCell ⟨b, 0, none⟩ y0).setCell ⟨b, 1, none⟩ y1).cell? ⟨b1, 0, none⟩ = some v0 ∧ ((W.setCell ⟨b, 0, none⟩ y0).setCell ⟨b, 1, none⟩ y1).cell? ⟨b1, 1, none⟩ = some v1 ∧ ((W.setCell ⟨b, 0, none⟩ y0).setCell ⟨b, 1, none⟩ y1).cell? ⟨b2, 0, none⟩ = some v2 ∧ ((W.setCell ⟨b, 0, none⟩ y0).setCell ⟨b, 1, none⟩ y1).cell? ⟨b2, 1, none⟩ = some v3) ∧ Below w0.heap.size w0 ((W.setCell ⟨b, 0, none⟩ y0).setCell ⟨b, 1, none⟩ y1) := by
  obtain ⟨⟨h0, h1, h2, h3⟩, hB⟩ := h
  have k : ∀ (c i : Nat) v, c < b → W.cell? ⟨c, i, none⟩ = some v → ((W.setCell ⟨b, 0, none⟩ y0).setCell ⟨b, 1, none⟩ y1).cell? ⟨c, i, none⟩ = some v := fun c i v hc hv => by
    rw [World.cell?_setCell_other _ _ _ _ (fun q => by injection q with q1; omega), World.cell?_setCell_other _ _ _ _ (fun q => by injection q with q1; omega)]
    exact hv
  exact ⟨⟨k _ _ _ l1 h0, k _ _ _ l1 h1, k _ _ _ l2 h2, k _ _ _ l2 h3⟩, (hB.setCell lw _).setCell lw _⟩
/-- The difference's variable. -/
def DiffAt (w : World) (Z : Int) (p : Value) (wx : World) : Prop := ∃ (bZ : Nat) (A : Option Addr) (c : Nat), p = .pointer (some ⟨bZ, 0, none⟩) ∧ Nb w bZ A (nd Z.natAbs) c (decide (Z < 0)) wx ∧ Dn wx A (nd Z.natAbs) c Z.natAbs ∧ Below w.heap.size w wx
theorem diff_new {w W : World} {Z : Int} {A : Option Addr} {c : Nat} (hd : Dn W A (nd Z.natAbs) c Z.natAbs) (hb : Below w.heap.size w W) : DiffAt w Z (.pointer (some ⟨W.heap.size, 0, none⟩)) (W.alloc (.cells #[.slice A (nd Z.natAbs) c, .bool (decide (Z < 0))] 183)) :=
  ⟨_, A, c, rfl, Nb.new w W A _ c _, hd.alloc _, hb.alloc hb.size _⟩
theorem diff_set {w W : World} {Z : Int} {A : Option Addr} {c b : Nat} (hd : Dn W A (nd Z.natAbs) c Z.natAbs) (hb : Below w.heap.size w W) (hc : W.heap[b]? = some (.cells #[.slice none 0 0, .bool false] 183)) (hw : w.heap.size ≤ b) :
    DiffAt w Z (.pointer (some ⟨b, 0, none⟩)) ((W.setCell ⟨b, 0, none⟩ (.slice A (nd Z.natAbs) c)).setCell ⟨b, 1, none⟩ (.bool (decide (Z < 0)))) := by
  have h := set_two hc (y0 := .slice A (nd Z.natAbs) c) (y1 := .bool (decide (Z < 0)))
  have ap := hd.apart ⟨none, 0, 0, false, hc⟩
  exact ⟨b, A, c, rfl, ⟨(cell_of h (i := 0) rfl).1, (cell_of h (i := 1) rfl).1⟩, (hd.set ap 0 _).set ap 1 _, (hb.setCell hw _).setCell hw _⟩
theorem nrN_nd {k n : Nat} (hk : k = 3 ∨ k = 4) : nd (nrN k n) ≤ 5 := by
  have hrr : nrR n ≤ 2700000 := by unfold nrR; split <;> omega
  obtain ⟨hX, hQ⟩ := sm_le hk hrr
  have h : nrN k n ≤ 268435456 ^ k := by
    unfold nrN smN
    split
    · have := (vU_bd hQ 250 (268435456 ^ k) 0).2
      omega
    · have := (vU_bd hQ 250 (smX k (nrR n)) 1).2
      omega
  refine (nd_le _ _).2 (Nat.lt_of_le_of_lt h (Nat.pow_lt_pow_right (by omega) (by omega)))
theorem nd_prod (a b : Nat) : nd (a * b) ≤ nd a + nd b := (nd_le _ _).2 (times_lt a b)
theorem small_e : nd 1024 + nd 4294967296 ≤ 90000 := by
  have h1 : nd 1024 ≤ 1 := (nd_le _ _).2 (by decide)
  have h2 : nd 4294967296 ≤ 2 := (nd_le _ _).2 (by decide)
  omega
theorem minus_m (A : Option Addr) (c b : Nat) (w : World) (h : Dn w A (nd b) c b) : Calls Tryz.prog 196 #[.agg #[.slice A (nd b) c, .bool false]] w fun e w' => ∃ A' c', e = .returned (.agg #[.slice A' (nd b) c', .bool (decide (0 < b))]) ∧ Dn w' A' (nd b) c' b ∧ Below w.heap.size w w' := by
  refine (minus_any A c b w h).mono ?_
  rintro e w' ⟨A', c', rfl, hd, hb⟩
  have e1 : (-(b : Int)).natAbs = b := by omega
  have e2 : decide (-(b : Int) < 0) = decide (0 < b) := decide_eq_decide.2 (by omega)
  rw [e1] at hd ⊢
  rw [e2]
  exact ⟨A', c', rfl, hd, hb⟩
theorem nxy_facts {n x y : Nat} (h0 : 0 < n) (h1 : n ≠ 2700000) (hn : n < 5400000) (hx : x ≤ 2147483648) (hx0 : 0 < x) (hy : y ≤ 2147483648) :
    ((n : Int) % 2700000 == 0) = false ∧ (n : Int) % 21600000 = (n : Int) ∧ ((x : Int) == 0) = false ∧ (0 < (n : Int) ∧ (n : Int) < 5400000) ∧ (0 < (x : Int) ∧ (x : Int) ≤ 2147483648) ∧ 0 ≤ (y : Int) ∧ (y : Int) ≤ 2147483648 := by
  refine ⟨beq_eq_false_iff_ne.2 (by omega), by omega, beq_eq_false_iff_ne.2 (by omega), by omega, by omega, by omega⟩
set_option maxRecDepth 100000 in
set_option maxHeartbeats 4000000 in
theorem side_limbs (n x y : Nat) (w : World) (h0 : 0 < n) (h1 : n ≠ 2700000) (hn : n < 5400000) (hx : x ≤ 2147483648) (hx0 : 0 < x) (hy : y ≤ 2147483648) :
    Calls Tryz.prog 180 #[.int .i64 (n : Int), .int .i64 (x : Int), .int .i64 (y : Int)] w (IPost w (if reaB x y n = true then -1 else 1)) := by
  have qv := qv_err hn
  have h0' := h0
  have h1' := h1
  have hn' := hn
  have hx' := hx
  have hy' := hy
  have hxy' : 0 < x + y := by omega
  have hq := qs_right h0 h1 hn hx hy (by omega)
  have Q := Lib.hid (fun W : World => qside_any (n : Int) (x : Int) (y : Int) W (by omega) (by omega) (by omega) qv.2.2.1 qv.2.2.2)
  have L3 := limbs (k := 3) (.inl rfl) h0 h1 hn hx hy (by omega)
  have L4 := limbs (k := 4) (.inr rfl) h0 h1 hn hx hy (by omega)
  have OX := Lib.hid (fun W : World => (ofint_any x W (by omega)).mono fun _ _ h => mpost_of h)
  have OY := Lib.hid (fun W : World => (ofint_any y W (by omega)).mono fun _ _ h => mpost_of h)
  have O1 := Lib.hid (fun W : World => ofint_lit 1024 1024 rfl W (by decide))
  have O2 := Lib.hid (fun W : World => ofint_lit 4294967296 4294967296 rfl W (by decide))
  have NA := Lib.hid (fun (k : Nat) (hk : k = 3 ∨ k = 4) (W : World) => (near_any n k W hk (by omega)).mono fun _ _ h => mpost_of h)
  have NB := Lib.hid (fun (k : Nat) (hk : k = 3 ∨ k = 4) (W : World) => (show Calls Tryz.prog 191 #[.int .i64 ((n : Int) + 5400000), .int .i64 (k : Int)] W (MPost W (nrN k (n + 5400000))) from (near_any (n + 5400000) k W hk (by omega)).mono fun _ _ h => mpost_of h))
  have hnx : nd x ≤ 2 := (nd_le _ _).2 (by omega)
  have hny : nd y ≤ 2 := (nd_le _ _).2 (by omega)
  obtain ⟨hm3, hm4, hxi, hni, hxb, hyb⟩ := nxy_facts h0 h1 hn hx hx0 hy
  have hsr := Lib.hid (show qsR x y (quickV (n : Int)) (quickV ((n : Int) + 5400000)) = 0 ∨ qsR x y (quickV (n : Int)) (quickV ((n : Int) + 5400000)) = 1 ∨ qsR x y (quickV (n : Int)) (quickV ((n : Int) + 5400000)) = -1 from by
    unfold qsR
    split
    · simp
    · split <;> simp)
  have hq := Lib.hid hq
  have L3 := Lib.hid L3
  have L4 := Lib.hid L4
  generalize qsR x y (quickV (n : Int)) (quickV ((n : Int) + 5400000)) = qr at *
  clear qv h0 h1 hn hx hx0 hy
  rcases hsr.out with rfl | rfl | rfl
  · clear hq hsr
    have LL := Lib.hid (fun (k : Nat) (hk : k = 3 ∨ k = 4) => limbs hk h0' h1' hn' hx' hy' hxy')
    have HX := Lib.hid (fun (k : Nat) (hk : k = 3 ∨ k = 4) (W : World) (A A' : Option Addr) (c c' : Nat) (h : Dn W A (nd x) c x) (h' : Dn W A' (nd (nrN k n)) c' (nrN k n)) => (mul_any A A' c c' x (nrN k n) W h h' (by
      have := nrN_nd (n := n) hk; omega)).mono fun _ _ h => mpost_of h)
    have HY := Lib.hid (fun (k : Nat) (hk : k = 3 ∨ k = 4) (W : World) (A A' : Option Addr) (c c' : Nat) (h : Dn W A (nd y) c y) (h' : Dn W A' (nd (nrN k (n + 5400000))) c' (nrN k (n + 5400000))) => (mul_any A A' c c' y (nrN k (n + 5400000)) W h h' (by
      have := nrN_nd (n := n + 5400000) hk; omega)).mono fun _ _ h => mpost_of h)
    obtain ⟨EE, hE⟩ : ∃ EE : Nat, EE = 1024 * 4294967296 := ⟨_, rfl⟩
    have HE := Lib.hid (fun (W : World) (A A' : Option Addr) (c c' : Nat) (h : Dn W A (nd 1024) c 1024) (h' : Dn W A' (nd 4294967296) c' 4294967296) => (show Calls Tryz.prog 190 #[.agg #[.slice A (nd 1024) c, .bool false], .agg #[.slice A' (nd 4294967296) c', .bool false]] W (MPost W EE) from by
      rw [hE]
      exact (mul_any A A' c c' 1024 4294967296 W h h' small_e).mono fun _ _ h => mpost_of h))
    have HM := Lib.hid (fun (b : Nat) (W : World) (A : Option Addr) (c : Nat) (h : Dn W A (nd b) c b) => minus_m A c b W h)
    have HP := Lib.hid (fun (k : Nat) (hk : k = 3 ∨ k = 4) (W : World) (A A' : Option Addr) (c c' : Nat) (b : Nat) (h : Dn W A (nd (x * nrN k n)) c (x * nrN k n)) (h' : Dn W A' (nd b) c' b) => plus_any A A' c c' (x * nrN k n) b (decide (0 < b)) W h h' rfl (by
      have := nrN_nd (n := n) hk
      have := nd_prod x (nrN k n)
      omega))
    have HO := Lib.hid (fun (D : Nat) (W : World) (A A' : Option Addr) (c c' : Nat) (h : Dn W A (nd D) c D) (h' : Dn W A' (nd EE) c' EE) => order_any A A' c c' D EE W h h')
    have HEE := Lib.hid hE
    have hRB : (if reaB x y n = true then (-1 : Int) else 1) = -1 ∨ (if reaB x y n = true then (-1 : Int) else 1) = 1 := by split <;> simp
    have HL := Lib.hid (show ∀ k, (k = 3 ∨ k = 4) → (4398046511104 < ((x * nrN k n : Nat) : Int) - ((y * nrN k (n + 5400000) : Nat) : Int) → (if reaB x y n = true then (-1 : Int) else 1) = 1) ∧ (((x * nrN k n : Nat) : Int) - ((y * nrN k (n + 5400000) : Nat) : Int) < -4398046511104 → (if reaB x y n = true then (-1 : Int) else 1) = -1) from fun k hk =>
      ⟨fun h => by rw [(LL.out k hk).1 h]; rfl, fun h => by rw [(LL.out k hk).2.1 h]; rfl⟩)
    have HL4 := Lib.hid (LL.out 4 (.inr rfl)).2.2
    clear hE LL L3 L4 hRB
    generalize (if reaB x y n = true then (-1 : Int) else 1) = RES at *
    go_enter Tryz.func180, Tryz.ntmps180
    go_wp2_with fail
    refine (Q.out _).mono ?_
    rintro e w1 ⟨rfl, rfl⟩
    go_wp2_with fail
    go_loopw [11] (fun k wr => ∃ kk : Nat, (kk = 3 ∨ kk = 4) ∧ k = .int .i64 (kk : Int) ∧ Hid (Below w.heap.size w wr)) (fun k _ => 5 - (intOf k).toNat)
    case atStart => exact ⟨3, .inl rfl, rfl, Lib.hid (Below.refl _ _)⟩
    case round =>
      obtain ⟨kk, hk, rfl, hbw⟩ := hrel
      have hk1 : 3 ≤ kk ∧ kk ≤ 4 := by omega
      have HK := Lib.hid hk
      clear hk
      go_wp2_with fail
      refine (OX.out _).mono ?_
      rintro e w1 ⟨A1, c1, rfl, hd1, hb1⟩
      have Hb1 := Lib.hid (hbw.out.trans (hb1.mono hbw.out.size))
      have Hd1 := Lib.hid hd1
      clear hd1 hb1 hbw
      go_wp2_with fail
      refine (NA.out kk HK.out _).mono ?_
      rintro e w2 ⟨A2, c2, rfl, hd2, hb2⟩
      have P1 := Lib.hid (HX.out kk HK.out w2 A1 A2 c1 c2 (Hd1.out.below hb2 (Nat.le_refl _)) hd2)
      have Hb2 := Lib.hid (Hb1.out.trans (hb2.mono Hb1.out.size))
      clear hd2 hb2 Hb1 Hd1
      go_wp2_with fail
      refine P1.out.mono ?_
      rintro e w3 ⟨A3, c3, rfl, hd3, hb3⟩
      have Hb3 := Lib.hid (Hb2.out.trans (hb3.mono Hb2.out.size))
      have Hd3 := Lib.hid hd3
      clear hd3 hb3 Hb2 P1
      generalize hNa : nd (x * nrN kk n) = na at *
      have HNa := Lib.hid hNa
      clear hNa
      go_wp2_with fail
      have NW := Nb.new w w3 A3 na c3 false
      have Bw := (Below.refl w3.heap.size w3).alloc (Nat.le_refl _) (.cells #[.slice A3 na c3, .bool false] 183)
      have Hd3' := Lib.hid (Hd3.out.below Bw (Nat.le_refl _))
      have Hb3' := Lib.hid (Hb3.out.trans (Bw.mono Hb3.out.size))
      have HN3 := Lib.hid NW
      have hs3 : w3.heap.size < (w3.alloc (.cells #[.slice A3 na c3, .bool false] 183)).heap.size := by simp
      have hw3 := Lib.hid Hb3.out.size
      clear NW Bw Hd3 Hb3
      refine (OY.out _).mono ?_
      rintro e w4 ⟨A4, c4, rfl, hd4, hb4⟩
      have Hb4 := Lib.hid (Hb3'.out.trans (hb4.mono Hb3'.out.size))
      have Hd4 := Lib.hid hd4
      have HN4 := Lib.hid (HN3.out.keep hb4)
      have Hd3b := Lib.hid (Hd3'.out.below hb4 (Nat.le_refl _))
      clear hd4 hb4 Hb3' HN3 Hd3'
      go_wp2_with fail
      refine (NB.out kk HK.out _).mono ?_
      rintro e w5 ⟨A5, c5, rfl, hd5, hb5⟩
      have P2 := Lib.hid (HY.out kk HK.out w5 A4 A5 c4 c5 (Hd4.out.below hb5 (Nat.le_refl _)) hd5)
      have Hb5 := Lib.hid (Hb4.out.trans (hb5.mono Hb4.out.size))
      have HN5 := Lib.hid (HN4.out.keep hb5)
      have Hd3c := Lib.hid (Hd3b.out.below hb5 (Nat.le_refl _))
      clear hd5 hb5 Hb4 Hd4 HN4 Hd3b
      go_wp2_with fail
      refine P2.out.mono ?_
      rintro e w6 ⟨A6, c6, rfl, hd6, hb6⟩
      have Hb6 := Lib.hid (Hb5.out.trans (hb6.mono Hb5.out.size))
      have Hd6 := Lib.hid hd6
      have HN6 := Lib.hid (HN5.out.keep hb6)
      have Hd3d := Lib.hid (Hd3c.out.below hb6 (Nat.le_refl _))
      clear hd6 hb6 Hb5 P2 HN5 Hd3c
      generalize hbv : y * nrN kk (n + 5400000) = bv at *
      have Hbv := Lib.hid hbv
      clear hbv
      generalize hNb : nd bv = nb at *
      have HNb := Lib.hid hNb
      clear hNb
      go_wp2_with fail
      have NW := Nb.new w w6 A6 nb c6 false
      have Bw := (Below.refl w6.heap.size w6).alloc (Nat.le_refl _) (.cells #[.slice A6 nb c6, .bool false] 183)
      have HNA := Lib.hid (HN6.out.keep Bw)
      have HNB := Lib.hid NW
      have HdA := Lib.hid (Hd3d.out.below Bw (Nat.le_refl _))
      have HdB := Lib.hid (Hd6.out.below Bw (Nat.le_refl _))
      have HbW := Lib.hid (Hb6.out.trans (Bw.mono Hb6.out.size))
      clear NW Bw HN6 Hd3d Hd6 Hb6
      generalize w6.alloc (.cells #[.slice A6 nb c6, .bool false] 183) = w7 at *
      generalize w3.heap.size = bA at *
      generalize w6.heap.size = bB at *
      obtain ⟨x0, x1⟩ := HNA.out
      obtain ⟨y0, y1⟩ := HNB.out
      have lA := Lib.hid (World.block_lt_of_cell? w7 _ x0)
      have lB := Lib.hid (World.block_lt_of_cell? w7 _ y0)
      have X76 := Lib.hid (show ∀ W, Below w7.heap.size w7 W → Calls Tryz.prog 196 #[.agg #[.slice A6 nb c6, .bool false]] W (fun e w' => ∃ A' c', e = .returned (.agg #[.slice A' nb c', .bool (decide (0 < bv))]) ∧ Dn w' A' nb c' bv ∧ Below W.heap.size W w') from fun W hb => by
        have h := HM.out bv W A6 c6 (by rw [HNb.out]; exact HdB.out.below hb (Nat.le_refl _))
        rw [HNb.out] at h
        exact h)
      obtain ⟨Z, hZ⟩ : ∃ Z : Int, Z = ((x * nrN kk n : Nat) : Int) - (bv : Int) := ⟨_, rfl⟩
      have HZ := Lib.hid hZ
      clear hZ
      have X75 := Lib.hid (show ∀ W A' c', Below w7.heap.size w7 W → Dn W A' nb c' bv → Calls Tryz.prog 195 #[.agg #[.slice A3 na c3, .bool false], .agg #[.slice A' nb c', .bool (decide (0 < bv))]] W (ZPost W Z) from fun W A' c' hb hd => by
        have h := HP.out kk HK.out W A3 A' c3 c' bv (by rw [HNa.out]; exact HdA.out.below hb (Nat.le_refl _)) (by rw [HNb.out]; exact hd)
        rw [HNa.out, HNb.out, ← HZ.out] at h
        exact h)
      generalize decide (0 < bv) = gb at *
      have s7 : (w7.drew.cell? ⟨bA, 0, none⟩ = some (.slice A3 na c3) ∧ w7.drew.cell? ⟨bA, 1, none⟩ = some (.bool false) ∧ w7.drew.cell? ⟨bB, 0, none⟩ = some (.slice A6 nb c6) ∧ w7.drew.cell? ⟨bB, 1, none⟩ = some (.bool false)) ∧ Below w7.heap.size w7 w7.drew := ⟨⟨x0, x1, y0, y1⟩, (Below.refl _ _).drew⟩
      have lA := World.block_lt_of_cell? w7 _ x0
      have lB := World.block_lt_of_cell? w7 _ y0
      have l78 : ∀ W : World, Below w7.heap.size w7 W → bA < W.heap.size ∧ bB < W.heap.size ∧ w7.heap.size ≤ W.heap.size := fun W h => ⟨Nat.lt_of_lt_of_le lA h.size, Nat.lt_of_lt_of_le lB h.size, h.size⟩
      have L78 := Lib.hid l78
      have DN := Lib.hid (fun (W : World) (A : Option Addr) (c : Nat) (hd : Dn W A (nd Z.natAbs) c Z.natAbs) (hb : Below w7.heap.size w7 W) => diff_new (w := w) hd (HbW.out.trans (hb.mono HbW.out.size)))
      have DS := Lib.hid (fun (W : World) (A : Option Addr) (c b : Nat) (hd : Dn W A (nd Z.natAbs) c Z.natAbs) (hb : Below w7.heap.size w7 W) (hc : W.heap[b]? = some (.cells #[.slice none 0 0, .bool false] 183)) (hw : w7.heap.size ≤ b) => diff_set (w := w) hd (HbW.out.trans (hb.mono HbW.out.size)) hc (Nat.le_trans HbW.out.size hw))
      have HS7 := Lib.hid s7
      have HS0 := Lib.hid (fun o : Obj => (show ((w7.alloc o).drew.cell? ⟨bA, 0, none⟩ = some (.slice A3 na c3) ∧ (w7.alloc o).drew.cell? ⟨bA, 1, none⟩ = some (.bool false) ∧ (w7.alloc o).drew.cell? ⟨bB, 0, none⟩ = some (.slice A6 nb c6) ∧ (w7.alloc o).drew.cell? ⟨bB, 1, none⟩ = some (.bool false)) ∧ Below w7.heap.size w7 (w7.alloc o).drew from by
        have h := keepSA (w0 := w7) ⟨⟨x0, x1, y0, y1⟩, Below.refl _ _⟩ o
        exact ⟨h.1, h.2.drew⟩))
      have LB := Lib.hid (show bA < w7.heap.size ∧ bB < w7.heap.size from ⟨lA, lB⟩)
      clear l78 lA lB s7
      go_cut [14] from 75 to 78 (fun p wx => DiffAt w Z p wx)
      case first =>
        go_region_held3 (fun w' => (w'.cell? ⟨bA, 0, none⟩ = some (.slice A3 na c3) ∧ w'.cell? ⟨bA, 1, none⟩ = some (.bool false) ∧ w'.cell? ⟨bB, 0, none⟩ = some (.slice A6 nb c6) ∧ w'.cell? ⟨bB, 1, none⟩ = some (.bool false)) ∧ Below w7.heap.size w7 w')
          (first | with_reducible exact HS7.out | with_reducible exact HS0.out _ | with_reducible exact keepS HS7.out hb7 | with_reducible exact keepS (HS0.out _) hb7 | with_reducible exact keepS (keepS HS7.out hb7) hb8 | with_reducible exact keepS (keepS (HS0.out _) hb7) hb8 | with_reducible exact keepSA (keepS (keepS HS7.out hb7) hb8) _ | with_reducible exact keepSA (keepS HS7.out hb7) _ | with_reducible exact keepS (keepSA (keepS HS7.out hb7) _) hb8 | with_reducible exact setS (keepS (keepSA (keepS HS7.out hb7) _) hb8) (L78.out _ (keepS HS7.out hb7).2).1 (L78.out _ (keepS HS7.out hb7).2).2.1 (L78.out _ (keepS HS7.out hb7).2).2.2 _ _ | with_reducible exact setS (keepS (keepS (HS0.out _) hb7) hb8) LB.out.1 LB.out.2 (Nat.le_refl _) _ _ | fail)
          (first
            | (go_at_call 196; (with_reducible refine (X76.out _ (And.right (by assumption))).mono ?_); rintro e w8 ⟨A7, c7, rfl, hd7, hb7⟩; (first | have nk := new_keepD hb7 | skip))
            | (go_at_call 195; (first | with_reducible refine (X75.out _ _ _ (And.right (by assumption)) hd7).mono ?_ | with_reducible refine (X75.out _ _ _ (And.right (by assumption)) (Dn.alloc hd7 _)).mono ?_); rintro e w9 ⟨A8, c8, rfl, hd8, hb8⟩; (first | (have NK := blk_keep nk hb8; obtain ⟨nk2, k0, k1, k2, k3⟩ := NK) | (have NK := new_keep hb8; obtain ⟨nk2, k0, k1, k2, k3⟩ := NK) | skip))
            | fail)
        all_goals
          go_wp2_with fail
          go_meet
          first
            | exact DN.out _ _ _ hd8 (keepS (keepS HS7.out hb7) hb8).2
            | exact DS.out _ _ _ _ hd8 (keepS (keepSA (keepS HS7.out hb7) _) hb8).2 nk2 (L78.out _ (keepS HS7.out hb7).2).2.2
            | exact DS.out _ _ _ _ hd8 (keepS (keepS (HS0.out _) hb7) hb8).2 nk2 (Nat.le_refl _)
            | fail
      case rest =>
        obtain ⟨bZ, A8, c8, rfl, hnz, hdz, hbz⟩ := hcut
        have HNZ := Lib.hid hnz
        have HdZ := Lib.hid hdz
        have HbZ := Lib.hid hbz
        clear hnz hdz hbz HbW HNA HNB HdA HdB x0 x1 y0 y1 X75 X76 HS7 HS0 LB DN DS L78
        generalize hN : nd Z.natAbs = NZ at *
        have HNZn := Lib.hid hN
        clear hN
        go_wp2_with fail
        refine (O1.out _).mono ?_
        rintro e w10 ⟨B1, d1, rfl, hd1, hb1⟩
        have Hd1 := Lib.hid hd1
        have HN1 := Lib.hid (HNZ.out.keep hb1)
        have HdZ1 := Lib.hid (HdZ.out.below hb1 (Nat.le_refl _))
        have Hb1 := Lib.hid (HbZ.out.trans (hb1.mono HbZ.out.size))
        have hz1 := hb1.size
        clear hd1 hb1 HNZ HdZ HbZ
        go_wp2_with fail
        refine (O2.out _).mono ?_
        rintro e w11 ⟨B2, d2, rfl, hd2, hb2⟩
        have P3 := Lib.hid (HE.out w11 B1 B2 d1 d2 (Hd1.out.below hb2 (Nat.le_refl _)) hd2)
        have HN2 := Lib.hid (HN1.out.keep hb2)
        have HdZ2 := Lib.hid (HdZ1.out.below hb2 (Nat.le_refl _))
        have Hb2 := Lib.hid (Hb1.out.trans (hb2.mono Hb1.out.size))
        have hz2 := hb2.size
        clear hd2 hb2 HN1 HdZ1 Hb1 Hd1
        go_wp2_with fail
        refine P3.out.mono ?_
        rintro e w12 ⟨B3, d3, rfl, hd3, hb3⟩
        have Hd3 := Lib.hid hd3
        have HN3 := Lib.hid (HN2.out.keep hb3)
        have HdZ3 := Lib.hid (HdZ2.out.below hb3 (Nat.le_refl _))
        have Hb3 := Lib.hid (Hb2.out.trans (hb3.mono Hb2.out.size))
        have hz3 := hb3.size
        clear hd3 hb3 HN2 HdZ2 Hb2 P3
        generalize hNe : nd EE = ne at *
        have HNe := Lib.hid hNe
        clear hNe
        have NE := Nb.new w w12 B3 ne d3 false
        have Be := (Below.refl w12.heap.size w12).alloc (Nat.le_refl _) (.cells #[.slice B3 ne d3, .bool false] 183)
        have HNE := Lib.hid NE
        have HN4 := Lib.hid (HN3.out.keep Be)
        have HdZ4 := Lib.hid (HdZ3.out.below Be (Nat.le_refl _))
        have HdE := Lib.hid (Hd3.out.below Be (Nat.le_refl _))
        have Hb4 := Lib.hid (Hb3.out.trans (Be.mono Hb3.out.size))
        obtain ⟨p0, p1⟩ := HN4.out
        obtain ⟨q0, q1⟩ := HNE.out
        clear NE Be HN3 HdZ3 Hd3 Hb3
        have X87 := Lib.hid (show Calls Tryz.prog 201 #[.slice A8 NZ c8, .slice B3 ne d3] (w12.alloc (.cells #[.slice B3 ne d3, .bool false] 183)) (IPost (w12.alloc (.cells #[.slice B3 ne d3, .bool false] 183)) (ordR Z.natAbs EE)) from by
          have h := HO.out Z.natAbs _ A8 B3 c8 d3 (by rw [HNZn.out]; exact HdZ4.out) HdE.out
          rw [HNZn.out] at h
          exact h)
        clear HdZ4 HdE
        go_wp2_with fail
        refine X87.out.mono ?_
        rintro e w13 ⟨rfl, hb13⟩
        obtain ⟨r0, r1⟩ := HN4.out.keep hb13
        have Hb5 := Lib.hid (Hb4.out.trans (hb13.mono Hb4.out.size))
        clear hb13 p0 p1 q0 q1 HN4 HNE Hb4 X87
        have hZe : Z = ((x * nrN kk n : Nat) : Int) - ((y * nrN kk (n + 5400000) : Nat) : Int) := by rw [HZ.out, Hbv.out]
        have hee : (EE : Int) = 4398046511104 := by rw [HEE.out]; rfl
        have hl := HL.out kk HK.out
        rw [← hZe] at hl
        by_cases hdec : EE < Z.natAbs
        · have hord : ordR Z.natAbs EE = 1 := by unfold ordR; rw [if_neg (by omega), if_pos hdec]
          rw [hord]
          by_cases hz : Z < 0
          · have hres : RES = -1 := hl.2 (by omega)
            have hg : decide (Z < 0) = true := decide_eq_true hz
            rw [hg] at r1
            have HF := Lib.hid (show IPost w RES (.returned (.int .i64 (-1))) w13 from ⟨by rw [hres], Hb5.out⟩)
            clear hl hZe hee hdec hord hz hres hg HL HL4 HEE HZ Hbv
            go_wp2
            go_ret
            exact HF.out
          · have hres : RES = 1 := hl.1 (by omega)
            have hg : decide (Z < 0) = false := decide_eq_false hz
            rw [hg] at r1
            have HF := Lib.hid (show IPost w RES (.returned (.int .i64 1)) w13 from ⟨by rw [hres], Hb5.out⟩)
            clear hl hZe hee hdec hord hz hres hg HL HL4 HEE HZ Hbv
            go_wp2
            go_ret
            exact HF.out
        · have hord : ordR Z.natAbs EE ≤ 0 := by unfold ordR; split <;> first | omega | (split <;> omega)
          have hk3 : kk = 3 := by
            rcases HK.out with h | h
            · exact h
            · exfalso
              subst h
              have h4 := HL4.out (by first | rfl | trivial)
              rw [← hZe] at h4
              have := h4 (by omega)
              omega
          have hk3' := Lib.hid hk3
          have HOL := Lib.hid hord
          have ho2 : ordR Z.natAbs EE ≤ 0 := hord
          generalize ordR Z.natAbs EE = oo at *
          clear hl hZe hee hdec hord HL HL4 HEE HZ Hbv hk3
          go_wp2
          go_roundw
          case rel => exact ⟨4, Or.inr (by omega), by rw [hk3'.out]; rfl, Hb5⟩
          case measure => simp [intOf]; omega
  · have hr := hq.out.1 rfl
    rw [hr]
    clear L3 L4 OX OY O1 O2 NA NB hq hr
    generalize (n : Int) = N at *
    generalize (x : Int) = X at *
    generalize (y : Int) = Y at *
    go_enter Tryz.func180, Tryz.ntmps180
    go_wp2_with fail
    refine (Q.out _).mono ?_
    rintro e w1 ⟨rfl, rfl⟩
    go_wp2
    go_ret
    exact ⟨rfl, Below.refl _ _⟩
  · have hr := hq.out.2 rfl
    rw [hr]
    clear L3 L4 OX OY O1 O2 NA NB hq hr
    generalize (n : Int) = N at *
    generalize (x : Int) = X at *
    generalize (y : Int) = Y at *
    go_enter Tryz.func180, Tryz.ntmps180
    go_wp2_with fail
    refine (Q.out _).mono ?_
    rintro e w1 ⟨rfl, rfl⟩
    go_wp2
    go_ret
    exact ⟨rfl, Below.refl _ _⟩
end Go.Proofs.YtfilgpifiboccaaGreat
namespace Go.Proofs.YtfilgpifiboccaaGreat
open Go.RowKit DG SM TA
theorem side_any (n x y : Nat) (w : World) (hn : n ≤ 5400000) (hx0 : 0 < x) (hx : x ≤ 2147483648) (hy : y ≤ 2147483648) : Calls Tryz.prog 180 #[.int .i64 (n : Int), .int .i64 (x : Int), .int .i64 (y : Int)] w (IPost w (sdR n x y)) := by
  by_cases h0 : n = 0
  · subst h0
    have h := side_exact (-(y : Int)) 0 x y w (.inl ⟨rfl, rfl⟩) (by omega) (by omega)
    have e : (if -(y : Int) < 0 then -1 else if 0 < -(y : Int) then 1 else 0 : Int) = sdR 0 x y := by
      unfold sdR
      rw [if_neg (by omega : ¬ 0 = 5400000), if_pos (reaB_zero x y)]
      by_cases q : y = 0
      · subst q; simp
      · rw [if_pos (by omega), if_neg (by omega)]
    rw [e] at h
    exact h
  by_cases h1 : n = 2700000
  · subst h1
    have h := side_exact ((x : Int) - (y : Int)) 2700000 x y w (.inr (.inl ⟨rfl, rfl⟩)) (by omega) (by omega)
    have m := reaB_mid x y
    have e : (if (x : Int) - (y : Int) < 0 then -1 else if 0 < (x : Int) - (y : Int) then 1 else 0 : Int) = sdR 2700000 x y := by
      unfold sdR
      rw [if_neg (by omega : ¬ 2700000 = 5400000)]
      rcases Nat.lt_trichotomy x y with q | q | q
      · rw [if_pos (by omega), if_pos (m.2 (by omega)), if_neg (by omega)]
      · rw [if_neg (by omega), if_neg (by omega), if_pos (m.2 (by omega)), if_pos (by omega)]
      · have : ¬ reaB x y 2700000 = true := fun h => by have := m.1 h; omega
        rw [if_neg (by omega), if_pos (by omega), if_neg this]
    rw [e] at h
    exact h
  by_cases h2 : n = 5400000
  · subst h2
    have h := side_exact (x : Int) 5400000 x y w (.inr (.inr ⟨rfl, rfl⟩)) (by omega) (by omega)
    have e : (if (x : Int) < 0 then -1 else if 0 < (x : Int) then 1 else 0 : Int) = sdR 5400000 x y := by
      unfold sdR
      rw [if_pos rfl, if_neg (by omega), if_pos (by omega)]
    rw [e] at h
    exact h
  · have h := side_limbs n x y w (by omega) h1 (by omega) hx hx0 hy
    have e : (if reaB x y n = true then -1 else 1 : Int) = sdR n x y := by
      unfold sdR
      rw [if_neg h2]
      cases reaB x y n
      · rfl
      · rw [if_pos rfl, if_pos rfl, if_neg (by omega)]
    rw [e] at h
    exact h
def DirPost (w : World) (e : Ending) (w' : World) : Prop := ∃ v : Nat, v ≤ 5399999 ∧ e = .returned (.int .i64 (v : Int)) ∧ Below w.heap.size w w'
set_option maxRecDepth 100000 in
set_option maxHeartbeats 2000000 in
theorem direction_any (x y : Int) (w : World) : Calls Tryz.prog 179 #[.agg #[.int .i64 x, .int .i64 y]] w (DirPost w) := by
  have HR := Lib.hid rough_any
  have HB := Lib.hid ((Below.refl w.heap.size w).alloc (Nat.le_refl _) (.cells #[.int .i64 x, .int .i64 y] 153))
  have K := heap_alloc_new w (.cells #[.int .i64 x, .int .i64 y] 153)
  have p0 := (cell_of K (i := 0) (v := .int .i64 x) rfl).1
  have p1 := (cell_of K (i := 1) (v := .int .i64 y) rfl).1
  clear K
  go_enter Tryz.func179, Tryz.ntmps179
  go_wp2_with fail
  generalize w.alloc (.cells #[.int .i64 x, .int .i64 y] 153) = w0 at *
  go_loopw [3, 4] (fun l h wr => ∃ L H : Int, l = .int .i64 L ∧ h = .int .i64 H ∧ 0 ≤ L ∧ L ≤ H ∧ H ≤ 5399999 ∧ Hid ((wr.cell? ⟨w.heap.size, 0, none⟩ = some (.int .i64 x) ∧ wr.cell? ⟨w.heap.size, 1, none⟩ = some (.int .i64 y)) ∧ Below w.heap.size w wr)) (fun l h _ => (kInt h - kInt l).toNat)
  case atStart => exact ⟨_, _, rfl, rfl, by omega, by omega, by omega, Lib.hid ⟨⟨p0, p1⟩, HB.out⟩⟩
  case round =>
    obtain ⟨L, H, rfl, rfl, t0, t1, k0, hS⟩ := hrel
    by_cases hk : L < H
    · obtain ⟨m, hm, m1, m2⟩ : ∃ m, L + (H - L + 1) / 2 = m ∧ L < m ∧ m ≤ H := ⟨_, rfl, by omega, by omega⟩
      obtain ⟨q0, q1⟩ := hS.out.1
      have R1 := Lib.hid (fun W : World => HR.out m (by omega) (by omega) W)
      have R2 := Lib.hid (fun W : World => (show Calls Tryz.prog 178 #[.int .i64 (IntKind.i64.wrap (5400000 - m))] W (RoughPost W) from by
        rw [IntWalk.i64_in _ (by omega)]
        exact HR.out (5400000 - m) (by omega) (by omega) W))
      clear p0 p1
      go_wp2_with fail
      go_region_held3 (fun w' => (w'.cell? ⟨w.heap.size, 0, none⟩ = some (.int .i64 x) ∧ w'.cell? ⟨w.heap.size, 1, none⟩ = some (.int .i64 y)) ∧ Below w.heap.size w w')
        (first | exact ⟨⟨q0, q1⟩, hS.out.2.drew⟩ | assumption | fail)
        (first
          | (go_at_call 178; (first | with_reducible refine (R1.out _).mono ?_ | with_reducible refine (R2.out _).mono ?_); rintro e w1 ⟨r, r0, r1, rfl, rfl⟩)
          | fail)
      have HS2 := Lib.hid (show (wr.drew.cell? ⟨w.heap.size, 0, none⟩ = some (.int .i64 x) ∧ wr.drew.cell? ⟨w.heap.size, 1, none⟩ = some (.int .i64 y)) ∧ Below w.heap.size w wr.drew from ⟨⟨q0, q1⟩, hS.out.2.drew⟩)
      clear R1 R2 hS q0 q1
      generalize decide (IntKind.i64.wrap _ ≤ IntKind.i64.wrap _) = g at *
      cases g
      · go_wp2
        go_roundw
        case rel => exact ⟨L, m - 1, rfl, rfl, by omega, by omega, by omega, HS2⟩
        case measure => simp [kInt]; omega
      · go_wp2
        go_roundw
        case rel => exact ⟨m, H, rfl, rfl, by omega, by omega, by omega, HS2⟩
        case measure => simp [kInt]; omega
    · obtain ⟨v, hv⟩ : ∃ v : Nat, L = (v : Int) := ⟨L.toNat, by omega⟩
      have HF := Lib.hid (show DirPost w (.returned (.int .i64 L)) wr from ⟨v, by omega, by rw [hv], hS.out.2⟩)
      clear hv
      go_wp2
      go_ret
      exact HF.out
end Go.Proofs.YtfilgpifiboccaaGreat
namespace Go.Proofs.YtfilgpifiboccaaGreat
open Go.RowKit DG SM TA
theorem F_uniq {x y v : Nat} (hx0 : 0 < x) (hx : x ≤ 2147483648) (hy : y ≤ 2147483648) (hv : v < 5400000) (h : reaB x y v = true) (h2 : v + 1 = 5400000 ∨ reaB x y (v + 1) = false) : F x y = v := by
  obtain ⟨a, b, c⟩ := F_spec x y
  have l := F_ge hx0 hx hy hv h
  rcases Nat.lt_or_ge v (F x y) with q | q
  · exfalso
    rcases h2 with h2 | h2
    · omega
    · have := reaB_mono (j := v + 1) hx0 hx hy hx hy (by rw [Nat.mul_comm]; exact Nat.le_refl _) q (by omega) b
      rw [h2] at this; cases this
  · omega
theorem sd_facts {x y v : Nat} (hv : v ≤ 5399999) : (0 < sdR v x y → 0 < v) ∧ (sdR v x y ≤ 0 → reaB x y v = true) ∧ (reaB x y v = true → sdR v x y ≤ 0) ∧ (sdR (v + 1) x y ≤ 0 → v + 1 ≤ 5399999 ∧ reaB x y (v + 1) = true) ∧ (0 < sdR (v + 1) x y → v + 1 = 5400000 ∨ reaB x y (v + 1) = false) := by
  have key : ∀ u, u ≠ 5400000 → (reaB x y u = true → sdR u x y ≤ 0) ∧ (reaB x y u = false → sdR u x y = 1) := fun u hu => by
    unfold sdR
    rw [if_neg hu]
    constructor
    · intro h
      rw [if_pos h]
      split <;> omega
    · intro h
      rw [h]
      rfl
  have k1 := key v (by omega)
  refine ⟨fun h => ?_, fun h => ?_, k1.1, fun h => ?_, fun h => ?_⟩
  · rcases Nat.eq_zero_or_pos v with z | z
    · subst z
      have := k1.1 (reaB_zero x y)
      omega
    · exact z
  · cases hr : reaB x y v with
    | true => rfl
    | false => have := k1.2 hr; omega
  · by_cases e : v + 1 = 5400000
    · have : sdR (v + 1) x y = 1 := by unfold sdR; rw [if_pos e]
      omega
    · refine ⟨by omega, ?_⟩
      cases hr : reaB x y (v + 1) with
      | true => rfl
      | false => have := (key (v + 1) e).2 hr; omega
  · by_cases e : v + 1 = 5400000
    · exact .inl e
    · right
      cases hr : reaB x y (v + 1) with
      | false => rfl
      | true => have := (key (v + 1) e).1 hr; omega
theorem sd_ex {x y v : Nat} (hv : v ≤ 5399999) (h : reaB x y v = true) (hF : F x y = v) : (sdR v x y == 0) = exF x y := by
  unfold sdR exF
  rw [if_neg (by omega), if_pos h, hF]
  by_cases c : (v = 0 ∧ y = 0) ∨ (v = 2700000 ∧ x = y)
  · rw [if_pos c]
    rcases c with ⟨rfl, rfl⟩ | ⟨rfl, rfl⟩ <;> simp
  · rw [if_neg c]
    have : ((v == 0 && y == 0) || (v == 2700000 && x == y)) = false := by
      simp only [Bool.or_eq_false_iff, Bool.and_eq_false_iff, beq_eq_false_iff_ne]
      omega
    rw [this]
    rfl
def FlPost (w : World) (v : Int) (g : Bool) (e : Ending) (w' : World) : Prop := e = .returned (.tuple #[.int .i64 v, .bool g]) ∧ Below w.heap.size w w'
set_option maxRecDepth 100000 in
set_option maxHeartbeats 2000000 in
theorem floor_any (x y : Nat) (w : World) (hx0 : 0 < x) (hx : x ≤ 2147483648) (hy : y ≤ 2147483648) : Calls Tryz.prog 166 #[.agg #[.int .i64 (x : Int), .int .i64 (y : Int)]] w (FlPost w (F x y : Int) (exF x y)) := by
  have HD := Lib.hid (fun W : World => direction_any (x : Int) (y : Int) W)
  have HS := Lib.hid (fun (n : Nat) (hn : n ≤ 5400000) (W : World) => side_any n x y W hn hx0 hx hy)
  have HFc := Lib.hid (fun (v : Nat) (hv : v ≤ 5399999) => sd_facts (x := x) (y := y) hv)
  have HU := Lib.hid (fun (v : Nat) (hv : v < 5400000) => F_uniq (x := x) (y := y) (v := v) hx0 hx hy hv)
  have HE := Lib.hid (fun (v : Nat) (hv : v ≤ 5399999) => sd_ex (x := x) (y := y) (v := v) hv)
  have HB := Lib.hid ((Below.refl w.heap.size w).alloc (Nat.le_refl _) (.cells #[.int .i64 (x : Int), .int .i64 (y : Int)] 153))
  have K := heap_alloc_new w (.cells #[.int .i64 (x : Int), .int .i64 (y : Int)] 153)
  have p0 := (cell_of K (i := 0) (v := .int .i64 (x : Int)) rfl).1
  have p1 := (cell_of K (i := 1) (v := .int .i64 (y : Int)) rfl).1
  clear K hx0 hx hy
  have keep : ∀ W W' : World, ((W.cell? ⟨w.heap.size, 0, none⟩ = some (.int .i64 (x : Int)) ∧ W.cell? ⟨w.heap.size, 1, none⟩ = some (.int .i64 (y : Int))) ∧ Below w.heap.size w W) → Below W.heap.size W W' → ((W'.cell? ⟨w.heap.size, 0, none⟩ = some (.int .i64 (x : Int)) ∧ W'.cell? ⟨w.heap.size, 1, none⟩ = some (.int .i64 (y : Int))) ∧ Below w.heap.size w W') := fun W W' ⟨⟨a, b⟩, c⟩ hb =>
    ⟨⟨(hb.cell (World.block_lt_of_cell? W _ a)).trans a, (hb.cell (World.block_lt_of_cell? W _ b)).trans b⟩, c.trans (hb.mono c.size)⟩
  have KP := Lib.hid keep
  clear keep
  have HS0 := Lib.hid (show ((w.alloc (.cells #[.int .i64 (x : Int), .int .i64 (y : Int)] 153)).cell? ⟨w.heap.size, 0, none⟩ = some (.int .i64 (x : Int)) ∧ (w.alloc (.cells #[.int .i64 (x : Int), .int .i64 (y : Int)] 153)).cell? ⟨w.heap.size, 1, none⟩ = some (.int .i64 (y : Int))) ∧ Below w.heap.size w _ from ⟨⟨p0, p1⟩, HB.out⟩)
  go_enter Tryz.func166, Tryz.ntmps166
  go_wp2_with fail
  refine (HD.out _).mono ?_
  rintro e w1 ⟨v0, hv0, rfl, hb1⟩
  have HS1 := Lib.hid (KP.out _ _ HS0.out hb1)
  clear hb1 HS0 p0 p1 HB HD
  go_wp2_with fail
  go_loopw [4] (fun l wr => ∃ v : Nat, v ≤ 5399999 ∧ l = .int .i64 (v : Int) ∧ Hid ((wr.cell? ⟨w.heap.size, 0, none⟩ = some (.int .i64 (x : Int)) ∧ wr.cell? ⟨w.heap.size, 1, none⟩ = some (.int .i64 (y : Int))) ∧ Below w.heap.size w wr)) (fun l _ => (intOf l).toNat)
  case atStart => exact ⟨v0, hv0, rfl, HS1⟩
  case round =>
    obtain ⟨v, hv, rfl, hS⟩ := hrel
    clear HS1
    obtain ⟨q0, q1⟩ := hS.out.1
    have P := Lib.hid (HS.out v (by omega))
    have hfc := HFc.out v hv
    go_wp2_with fail
    refine (P.out _).mono ?_
    rintro e w2 ⟨rfl, hb2⟩
    have HS2 := Lib.hid (KP.out _ _ hS.out hb2)
    clear hb2 hS q0 q1 P
    by_cases hs : 0 < sdR v x y
    · have hv1 : 0 < v := hfc.1 hs
      have hs' : ¬ sdR v x y ≤ 0 := by omega
      have e1 : ((v - 1 : Nat) : Int) = (v : Int) - 1 := by omega
      clear hfc
      generalize sdR v x y = s at *
      go_wp2
      go_roundw
      case rel => exact ⟨v - 1, by omega, by rw [e1], HS2⟩
      case measure => simp [intOf]; omega
    · have hr := hfc.2.1 (by omega)
      have HR := Lib.hid hr
      clear hfc hr
      generalize sdR v x y = s at *
      go_wp2_with fail
      go_loopw [4] (fun l wr => ∃ v : Nat, v ≤ 5399999 ∧ l = .int .i64 (v : Int) ∧ Hid (reaB x y v = true) ∧ Hid ((wr.cell? ⟨w.heap.size, 0, none⟩ = some (.int .i64 (x : Int)) ∧ wr.cell? ⟨w.heap.size, 1, none⟩ = some (.int .i64 (y : Int))) ∧ Below w.heap.size w wr)) (fun l _ => 5400000 - (intOf l).toNat)
      case atStart => exact ⟨v, hv, rfl, HR, HS2⟩
      case round =>
        obtain ⟨u, hu, rfl, hR, hS⟩ := hrel
        clear HS2 HR
        obtain ⟨q0, q1⟩ := hS.out.1
        have P := Lib.hid (fun W : World => (show Calls Tryz.prog 180 #[.int .i64 ((u : Int) + 1), .int .i64 (x : Int), .int .i64 (y : Int)] W (IPost W (sdR (u + 1) x y)) from HS.out (u + 1) (by omega) W))
        have hfc := HFc.out u hu
        go_wp2_with fail
        refine (P.out _).mono ?_
        rintro e w3 ⟨rfl, hb3⟩
        have HS3 := Lib.hid (KP.out _ _ hS.out hb3)
        clear hb3 hS q0 q1 P
        by_cases hs2 : sdR (u + 1) x y ≤ 0
        · have hr2 := hfc.2.2.2.1 hs2
          have HR2 := Lib.hid hr2.2
          have hu2 := hr2.1
          clear hfc hr2
          generalize sdR (u + 1) x y = s2 at *
          go_wp2
          go_roundw
          case rel => exact ⟨u + 1, hu2, by go_num, HR2, HS3⟩
          case measure => simp [intOf]; omega
        · have hF : F x y = u := HU.out u (by omega) hR.out (hfc.2.2.2.2 (by omega))
          have hE := HE.out u hu hR.out hF
          have P4 := Lib.hid (HS.out u (by omega))
          obtain ⟨q0, q1⟩ := HS3.out.1
          have HFu := Lib.hid hF
          have HEu := Lib.hid hE
          clear hfc hF hE
          generalize sdR (u + 1) x y = s2 at *
          go_wp2_with fail
          refine (P4.out _).mono ?_
          rintro e w4 ⟨rfl, hb4⟩
          have HX := Lib.hid (show FlPost w (F x y : Int) (exF x y) (.returned (.tuple #[.int .i64 (u : Int), .bool (sdR u x y == 0)])) w4 from ⟨by rw [HFu.out, HEu.out], (KP.out _ _ HS3.out hb4).2⟩)
          clear hb4 HS3 P4 HFu HEu
          generalize sdR u x y = s3 at *
          go_wp2
          go_ret2
          exact HX.out
end Go.Proofs.YtfilgpifiboccaaGreat
namespace Go.Proofs.YtfilgpifiboccaaGreat
open Go.RowKit DG SM TA
theorem turn_meas (j : Int) (h0 : 0 ≤ j) (h : j ≤ 2) : (4 - intOf (.int .i64 (j + 1))).toNat < (4 - intOf (.int .i64 j)).toNat := by
  simp only [intOf]
  omega
set_option maxRecDepth 100000 in
set_option maxHeartbeats 2000000 in
theorem rangle_any (x y : Int) (hx : -2147483648 ≤ x ∧ x ≤ 2147483648) (hy : -2147483648 ≤ y ∧ y ≤ 2147483648) (h0 : ¬ (x = 0 ∧ y = 0)) (w : World) :
    Calls Tryz.prog 146 #[pairV x y] w (FlPost w (angF x y) (excF x y)) := by
  obtain ⟨V, hV⟩ : ∃ V, V = Value.tuple #[.int .i64 (angF x y), .bool (excF x y)] := ⟨_, rfl⟩
  have hG : ∀ (e : Ending) (w' : World), e = .returned V ∧ Below w.heap.size w w' → FlPost w (angF x y) (excF x y) e w' := fun e w' h => ⟨by rw [h.1, hV], h.2⟩
  refine Calls.mono (R := fun e w' => e = .returned V ∧ Below w.heap.size w w') ?_ hG
  clear hG
  have hq := qr_le x y
  have hat := qr_at x y h0
  have hnot := Lib.hid (qr_not x y)
  have hbd := Lib.hid (rot_bd x y hx hy)
  have hbq := rot_bd x y hx hy (qr x y)
  have HX : (((rot x y (qr x y)).1.toNat : Nat) : Int) = (rot x y (qr x y)).1 := Int.toNat_of_nonneg (by omega)
  have HY : (((rot x y (qr x y)).2.toNat : Nat) : Int) = (rot x y (qr x y)).2 := Int.toNat_of_nonneg (by omega)
  have hE : excF x y = exF (rot x y (qr x y)).1.toNat (rot x y (qr x y)).2.toNat := by
    unfold excF exF low1 F
    have e1 : ((rot x y (qr x y)).2 == 0) = ((rot x y (qr x y)).2.toNat == 0) := by rw [Bool.eq_iff_iff]; simp only [beq_iff_eq]; omega
    have e2 : ((rot x y (qr x y)).1 == (rot x y (qr x y)).2) = ((rot x y (qr x y)).1.toNat == (rot x y (qr x y)).2.toNat) := by rw [Bool.eq_iff_iff]; simp only [beq_iff_eq]; omega
    rw [e1, e2]
  have hA : angF x y = 5400000 * (qr x y : Int) + (F (rot x y (qr x y)).1.toNat (rot x y (qr x y)).2.toNat : Int) := rfl
  rw [hE, hA] at hV
  clear hE hA
  have K1 := Lib.hid (show Pair 153 _ w.heap.size x y from heap_alloc_new w (.cells #[.int .i64 x, .int .i64 y] 153))
  have HB := Lib.hid ((Below.refl w.heap.size w).alloc (Nat.le_refl _) (.cells #[.int .i64 x, .int .i64 y] 153))
  have hRs := Lib.hid (show ∀ j, (rot x y (j + 1)).1 = (rot x y j).2 ∧ (rot x y (j + 1)).2 = - (rot x y j).1 from fun j => ⟨rfl, rfl⟩)
  have HFl := Lib.hid (show ∀ (W : World), Calls Tryz.prog 166 #[.agg #[.int .i64 (rot x y (qr x y)).1, .int .i64 (rot x y (qr x y)).2]] W (FlPost W (F (rot x y (qr x y)).1.toNat (rot x y (qr x y)).2.toNat : Int) (exF (rot x y (qr x y)).1.toNat (rot x y (qr x y)).2.toNat)) from fun W => by
    have := floor_any (rot x y (qr x y)).1.toNat (rot x y (qr x y)).2.toNat W (by omega) (by omega) (by omega)
    rw [HX, HY] at this
    exact this)
  have hFb := (F_spec (rot x y (qr x y)).1.toNat (rot x y (qr x y)).2.toNat).1
  have hFc : 0 ≤ (F (rot x y (qr x y)).1.toNat (rot x y (qr x y)).2.toNat : Int) ∧ (F (rot x y (qr x y)).1.toNat (rot x y (qr x y)).2.toNat : Int) < 5400000 := by omega
  clear hFb
  generalize exF (rot x y (qr x y)).1.toNat (rot x y (qr x y)).2.toNat = G at *
  generalize (F (rot x y (qr x y)).1.toNat (rot x y (qr x y)).2.toNat : Int) = N at *
  clear HX HY
  generalize qr x y = Q at *
  replace hV := Lib.hid hV
  clear hx hy h0
  unfold pairV
  go_enter Tryz.func146, Tryz.ntmps146
  go_wp2
  go_loopw [4] (fun t wr => ∃ j : Nat, j ≤ Q ∧ t = .int .i64 (j : Int) ∧ Pair 153 wr w.heap.size (rot x y j).1 (rot x y j).2 ∧ Below w.heap.size w wr) (fun t _ => (4 - intOf t).toNat)
  case atStart => exact ⟨0, by omega, by simp, K1.out, HB.out⟩
  case round =>
    clear K1 HB
    obtain ⟨j, hj, rfl, k1, hb⟩ := hrel
    have hbj := hbd.out j
    have l1 := k1.lt
    obtain ⟨⟨a0, a1⟩, a2, a3⟩ := keep2 k1
    have HB := Lib.hid hb
    rcases Nat.lt_or_ge j Q with hlt | hge
    · have hn := hnot.out j hlt
      have hs := Lib.hid (hRs.out j)
      generalize (rot x y j).1 = a at *
      generalize (rot x y j).2 = b at *
      have K2 := Lib.hid (k1.write b (-a))
      have HB2 := Lib.hid ((hb.setCell (p := ⟨w.heap.size, 0, none⟩) (Nat.le_refl _) (.int .i64 b)).setCell (p := ⟨w.heap.size, 1, none⟩) (Nat.le_refl _) (.int .i64 (-a)))
      clear k1 hb
      replace hat := Lib.hid hat
      replace hbq := Lib.hid hbq
      obtain ⟨⟨_, _⟩, _, _⟩ := hbj
      have hj3 : (j : Int) ≤ 2 := by omega
      have hlt := Lib.hid hlt
      have hj1 := Lib.hid (show ((j + 1 : Nat) : Int) = (j : Int) + 1 by omega)
      clear hq hj
      obtain ⟨J, hJ⟩ : ∃ J : Int, J = (j : Int) := ⟨_, rfl⟩
      have j0 : 0 ≤ J := by omega
      have j2 : J ≤ 2 := by omega
      rw [← hJ] at hj1 ⊢
      replace hJ := Lib.hid hJ
      clear hj3
      have e0 : 0 - a = -a := by omega
      by_cases ha : a ≤ 0
      · clear hn
        go_wp2
        go_roundw
        case rel => exact ⟨j + 1, hlt.out, by rw [hj1.out], by rw [hs.out.1, hs.out.2]; exact K2.out, HB2.out⟩
        case measure => exact turn_meas J j0 j2
      · have hb' : b < 0 := by
          by_cases h : 0 ≤ b
          · exact absurd ⟨by omega, h⟩ hn
          · omega
        clear hn
        go_wp2
        go_roundw
        case rel => exact ⟨j + 1, hlt.out, by rw [hj1.out], by rw [hs.out.1, hs.out.2]; exact K2.out, HB2.out⟩
        case measure => exact turn_meas J j0 j2
    · obtain rfl : j = Q := by omega
      generalize (rot x y j).1 = a at *
      generalize (rot x y j).2 = b at *
      obtain ⟨g1, g2⟩ := hat
      obtain ⟨⟨g3, g4⟩, g5, g6⟩ := hbq
      have ha0 : ¬ a ≤ 0 := by omega
      have hb0 : ¬ b < 0 := by omega
      have hq3 : (j : Int) ≤ 3 := by omega
      have hq0 : 0 ≤ (j : Int) := by omega
      clear hq hj hge hRs hnot hbd hbj k1 hb g1 g2 g3 g4 g5 g6
      obtain ⟨f1, f2⟩ := hFc
      generalize (j : Int) = J at *
      go_wp2_with fail
      refine (HFl.out _).mono ?_
      rintro e w2 ⟨rfl, hb⟩
      have HF := Lib.hid (show (Ending.returned (.tuple #[.int .i64 (J * 5400000 + N), .bool G]) = .returned V) ∧ Below w.heap.size w w2 from ⟨by rw [hV.out, Int.mul_comm J], HB.out.trans (hb.mono HB.out.size)⟩)
      clear hb HB hV HFl
      go_wp2
      go_ret2
      exact HF.out
end Go.Proofs.YtfilgpifiboccaaGreat
namespace Go.Proofs.YtfilgpifiboccaaGreat
open Go.RowKit
/-- Strictly before. -/
def bS (p q : Int × Int) : Bool := !(bef q p)
def rfS (yl yh xl xh : Int) : Nat → Int × Int
  | 0 => (xl, yl)
  | j + 1 => cond (bS (cor yl yh xl xh j) (rfS yl yh xl xh j)) (cor yl yh xl xh j) (rfS yl yh xl xh j)
def rlS (yl yh xl xh : Int) : Nat → Int × Int
  | 0 => (xl, yl)
  | j + 1 => cond (bS (rlS yl yh xl xh j) (cor yl yh xl xh j)) (cor yl yh xl xh j) (rlS yl yh xl xh j)
theorem rf_one (yl yh xl xh : Int) : rfS yl yh xl xh 1 = (xl, yl) := by
  simp only [rfS, cor]
  cases bS (xl, yl) (xl, yl) <;> rfl
theorem rl_one (yl yh xl xh : Int) : rlS yl yh xl xh 1 = (xl, yl) := by
  simp only [rlS, cor]
  cases bS (xl, yl) (xl, yl) <;> rfl
theorem rf_mem (yl yh xl xh : Int) : ∀ j, ((rfS yl yh xl xh j).1 = xl ∨ (rfS yl yh xl xh j).1 = xh) ∧ ((rfS yl yh xl xh j).2 = yl ∨ (rfS yl yh xl xh j).2 = yh)
  | 0 => by simp [rfS]
  | j + 1 => by
    unfold rfS
    cases bS (cor yl yh xl xh j) (rfS yl yh xl xh j)
    · exact rf_mem yl yh xl xh j
    · exact cor_mem _ _ _ _ _
theorem rl_mem (yl yh xl xh : Int) : ∀ j, ((rlS yl yh xl xh j).1 = xl ∨ (rlS yl yh xl xh j).1 = xh) ∧ ((rlS yl yh xl xh j).2 = yl ∨ (rlS yl yh xl xh j).2 = yh)
  | 0 => by simp [rlS]
  | j + 1 => by
    unfold rlS
    cases bS (rlS yl yh xl xh j) (cor yl yh xl xh j)
    · exact rl_mem yl yh xl xh j
    · exact cor_mem _ _ _ _ _
/-- The reference's upper end. -/
def refUp (lo hi : Int) (ex : Bool) : Int := if hi + (if ex = true then 0 else 1) < lo then hi + (if ex = true then 0 else 1) + 21600000 else hi + (if ex = true then 0 else 1)
def refR (yl yh xl xh : Int) : Int × Int × Int :=
  (angF (rfS yl yh xl xh 4).1 (rfS yl yh xl xh 4).2, refUp (angF (rfS yl yh xl xh 4).1 (rfS yl yh xl xh 4).2) (angF (rlS yl yh xl xh 4).1 (rlS yl yh xl xh 4).2) (excF (rlS yl yh xl xh 4).1 (rlS yl yh xl xh 4).2), 0)
theorem bef_refl (p : Int × Int) : bef p p = true := by unfold bef; simp only [decide_eq_true_eq]; rw [Int.mul_comm]; exact Int.le_refl _
theorem sfst_min {yl yh xl xh : Int} {j : Nat} (c : Nat → Int × Int) (hc : ∀ i, i < 4 → cor yl yh xl xh i = fwd (c i) j) (hp : ∀ i, i < 4 → 0 < (c i).1) :
    ∀ m, m ≤ 4 → ∃ i, i < 4 ∧ rfS yl yh xl xh m = fwd (c i) j ∧ ∀ k, k < m → bef (c i) (c k) = true
  | 0, _ => ⟨0, by omega, hc 0 (by omega), fun k hk => by omega⟩
  | m + 1, hm => by
    obtain ⟨i, hi, e, h⟩ := sfst_min c hc hp m (by omega)
    have hcm := hc m (by omega)
    unfold rfS
    rw [hcm, e]
    unfold bS
    rw [bef_fwd]
    cases hb : bef (c i) (c m)
    · refine ⟨m, by omega, rfl, fun k hk => ?_⟩
      rcases Nat.eq_or_lt_of_le (Nat.le_of_lt_succ hk) with e2 | e2
      · subst e2; exact bef_refl _
      · have hb2 : bef (c m) (c i) = true := by
          rcases bef_total (c i) (c m) with h2 | h2
          · rw [hb] at h2; cases h2
          · exact h2
        exact bef_trans (hp m (by omega)) (hp i hi) (hp k (by omega)) hb2 (h k e2)
    · refine ⟨i, hi, rfl, fun k hk => ?_⟩
      rcases Nat.eq_or_lt_of_le (Nat.le_of_lt_succ hk) with e2 | e2
      · subst e2; exact hb
      · exact h k e2
theorem slst_max {yl yh xl xh : Int} {j : Nat} (c : Nat → Int × Int) (hc : ∀ i, i < 4 → cor yl yh xl xh i = fwd (c i) j) (hp : ∀ i, i < 4 → 0 < (c i).1) :
    ∀ m, m ≤ 4 → ∃ i, i < 4 ∧ rlS yl yh xl xh m = fwd (c i) j ∧ ∀ k, k < m → bef (c k) (c i) = true
  | 0, _ => ⟨0, by omega, hc 0 (by omega), fun k hk => by omega⟩
  | m + 1, hm => by
    obtain ⟨i, hi, e, h⟩ := slst_max c hc hp m (by omega)
    have hcm := hc m (by omega)
    unfold rlS
    rw [hcm, e]
    unfold bS
    rw [bef_fwd]
    cases hb : bef (c m) (c i)
    · refine ⟨m, by omega, rfl, fun k hk => ?_⟩
      rcases Nat.eq_or_lt_of_le (Nat.le_of_lt_succ hk) with e2 | e2
      · subst e2; exact bef_refl _
      · have hb2 : bef (c i) (c m) = true := by
          rcases bef_total (c i) (c m) with h2 | h2
          · exact h2
          · rw [hb] at h2; cases h2
        exact bef_trans (hp k (by omega)) (hp i hi) (hp m (by omega)) (h k e2) hb2
    · refine ⟨i, hi, rfl, fun k hk => ?_⟩
      rcases Nat.eq_or_lt_of_le (Nat.le_of_lt_succ hk) with e2 | e2
      · subst e2; exact hb
      · exact h k e2
theorem ref_str {yl yh xl xh y0 y1 x0 x1 : Int} {j : Nat} (hvx : validB xl xh = true) (hvy : validB yl yh = true) (ho : originB yl yh xl xh = false) (hj : j ≤ 3) (hr : rbox yl yh xl xh j = (y0, y1, x0, x1)) (hx0 : 0 < x0) :
    refR yl yh xl xh = ((loA y0 x0 x1 + 5400000 * j) % 21600000, (loA y0 x0 x1 + 5400000 * j) % 21600000 + (hiA y1 x0 x1 - loA y0 x0 x1), 0) := by
  simp only [validB, decide_eq_true_eq] at hvx hvy
  -- the corners, turned
  obtain ⟨c, hc, hin, hmem⟩ : ∃ c : Nat → Int × Int, (∀ i, i < 4 → cor yl yh xl xh i = fwd (c i) j) ∧ (∀ i, i < 4 → ((c i).1 = x0 ∨ (c i).1 = x1) ∧ ((c i).2 = y0 ∨ (c i).2 = y1)) ∧
      (∀ x y, (x = x0 ∨ x = x1) → (y = y0 ∨ y = y1) → ∃ i, i < 4 ∧ c i = (x, y)) := by
    have four : ∀ i, i < 4 → i = 0 ∨ i = 1 ∨ i = 2 ∨ i = 3 := fun i hi => by omega
    rcases (show j = 0 ∨ j = 1 ∨ j = 2 ∨ j = 3 by omega) with rfl | rfl | rfl | rfl <;> simp only [rbox, Prod.mk.injEq] at hr <;> obtain ⟨rfl, rfl, rfl, rfl⟩ := hr
    · refine ⟨fun i => cor yl yh xl xh i, fun i _ => rfl, fun i hi => ?_, fun x y hx hy => ?_⟩
      · rcases four i hi with rfl | rfl | rfl | rfl <;> simp [cor]
      · rcases hx with rfl | rfl <;> rcases hy with rfl | rfl
        · exact ⟨0, by omega, rfl⟩
        · exact ⟨1, by omega, rfl⟩
        · exact ⟨2, by omega, rfl⟩
        · exact ⟨3, by omega, rfl⟩
    · refine ⟨fun i => ((cor yl yh xl xh i).2, -(cor yl yh xl xh i).1), fun i _ => by simp [fwd], fun i hi => ?_, fun x y hx hy => ?_⟩
      · rcases four i hi with rfl | rfl | rfl | rfl <;> simp [cor]
      · rcases hx with rfl | rfl <;> rcases hy with rfl | rfl
        · exact ⟨2, by omega, rfl⟩
        · exact ⟨0, by omega, rfl⟩
        · exact ⟨3, by omega, rfl⟩
        · exact ⟨1, by omega, rfl⟩
    · refine ⟨fun i => (-(cor yl yh xl xh i).1, -(cor yl yh xl xh i).2), fun i _ => by simp [fwd], fun i hi => ?_, fun x y hx hy => ?_⟩
      · rcases four i hi with rfl | rfl | rfl | rfl <;> simp [cor]
      · rcases hx with rfl | rfl <;> rcases hy with rfl | rfl
        · exact ⟨3, by omega, rfl⟩
        · exact ⟨2, by omega, rfl⟩
        · exact ⟨1, by omega, rfl⟩
        · exact ⟨0, by omega, rfl⟩
    · refine ⟨fun i => (-(cor yl yh xl xh i).2, (cor yl yh xl xh i).1), fun i _ => by simp [fwd], fun i hi => ?_, fun x y hx hy => ?_⟩
      · rcases four i hi with rfl | rfl | rfl | rfl <;> simp [cor]
      · rcases hx with rfl | rfl <;> rcases hy with rfl | rfl
        · exact ⟨1, by omega, rfl⟩
        · exact ⟨3, by omega, rfl⟩
        · exact ⟨0, by omega, rfl⟩
        · exact ⟨2, by omega, rfl⟩
  have hbd : x0 ≤ x1 ∧ y0 ≤ y1 ∧ x1 ≤ 2147483648 ∧ -2147483648 ≤ y0 ∧ y1 ≤ 2147483648 := by
    rcases (show j = 0 ∨ j = 1 ∨ j = 2 ∨ j = 3 by omega) with rfl | rfl | rfl | rfl <;> simp only [rbox, Prod.mk.injEq] at hr <;> omega
  obtain ⟨d1, d2, d3, d4, d5⟩ := hbd
  have hpos : ∀ i, i < 4 → 0 < (c i).1 := fun i hi => by have := hin i hi; omega
  have h31 : ∀ i, i < 4 → In31 (c i).1 (c i).2 := fun i hi => by have := hin i hi; exact ⟨by omega, by omega, by omega, by omega⟩
  obtain ⟨i, hi, ei, mi⟩ := sfst_min c hc hpos 4 (Nat.le_refl _)
  obtain ⟨k, hk, ek, mk⟩ := slst_max c hc hpos 4 (Nat.le_refl _)
  have mono : ∀ p q, p < 4 → q < 4 → bef (c p) (c q) = true → fl (c p).1 (c p).2 ≤ fl (c q).1 (c q).2 ∧ ce (c p).1 (c p).2 ≤ ce (c q).1 (c q).2 := fun p q hp hq h => by
    unfold bef at h
    simp only [decide_eq_true_eq] at h
    exact fl_mono (h31 p hp) (h31 q hq) h
  -- the least and the greatest
  have ea : fl (c i).1 (c i).2 = loA y0 x0 x1 := by
    have h1 := (box_lo (x := (c i).1) (y := (c i).2) hx0 (by have := hin i hi; omega) (by have := hin i hi; omega) d3 d4 d5).1
    have h2 : fl (c i).1 (c i).2 ≤ loA y0 x0 x1 := by
      unfold loA
      split
      · obtain ⟨m, hm, em⟩ := hmem x1 y0 (.inr rfl) (.inl rfl)
        have := (mono i m hi hm (mi m hm)).1
        rw [em] at this; exact this
      · obtain ⟨m, hm, em⟩ := hmem x0 y0 (.inl rfl) (.inl rfl)
        have := (mono i m hi hm (mi m hm)).1
        rw [em] at this; exact this
    omega
  have eb : ce (c k).1 (c k).2 = hiA y1 x0 x1 := by
    have h1 := (box_lo (x := (c k).1) (y := (c k).2) hx0 (by have := hin k hk; omega) (by have := hin k hk; omega) d3 d4 d5).2
    have h2 : hiA y1 x0 x1 ≤ ce (c k).1 (c k).2 := by
      unfold hiA
      split
      · obtain ⟨m, hm, em⟩ := hmem x0 y1 (.inl rfl) (.inr rfl)
        have := (mono m k hm hk (mk m hm)).2
        rw [em] at this; exact this
      · obtain ⟨m, hm, em⟩ := hmem x1 y1 (.inr rfl) (.inr rfl)
        have := (mono m k hm hk (mk m hm)).2
        rw [em] at this; exact this
    omega
  have a1 := ang_fwd (x := (c i).1) (y := (c i).2) (hpos i hi) j
  have a2 := ang_fwd (x := (c k).1) (y := (c k).2) (hpos k hk) j
  have hle := (mono i k hi hk (mi k hk)).1
  have f1 := fl_bd (c i).1 (c i).2
  have f2 := fl_bd (c k).1 (c k).2
  unfold refR
  rw [ei, ek, a1.1, a2.1, a2.2, ea]
  rw [ea] at hle f1
  unfold ce at eb f2
  unfold refUp
  have hjn : (j : Int) ≤ 3 := by omega
  generalize (if ex (c k).1 (c k).2 = true then (0 : Int) else 1) = u at *
  generalize fl (c k).1 (c k).2 = g at *
  generalize loA y0 x0 x1 = a at *
  generalize hiA y1 x0 x1 = b at *
  rw [← eb]
  simp only [Prod.mk.injEq, true_and, and_true]
  split <;> omega
theorem ref_bear {yl yh xl xh : Int} (hvx : validB xl xh = true) (hvy : validB yl yh = true) (ho : originB yl yh xl xh = false) : refR yl yh xl xh = bearR yl yh xl xh := by
  obtain ⟨j, hj, hx0⟩ := half_ex ho
  rw [ref_str (y0 := (rbox yl yh xl xh j).1) (y1 := (rbox yl yh xl xh j).2.1) (x1 := (rbox yl yh xl xh j).2.2.2) hvx hvy ho hj rfl hx0, bear_str (y0 := (rbox yl yh xl xh j).1) (y1 := (rbox yl yh xl xh j).2.1) (x1 := (rbox yl yh xl xh j).2.2.2) hvx hvy ho hj rfl hx0]
end Go.Proofs.YtfilgpifiboccaaGreat

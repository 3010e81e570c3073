/-
  Squares and roots of enclosures; halves and doubles of arcs: they hold what they are of. No program here.
-/
import Derived.Test.YtipjnfabodfkcaaGreatDoorHd
namespace Go.Proofs.YtipjnfabodfkcaaGreatDoor
open SM TB TA
def sbs (n : Nat) : Nat → Nat → Nat → Nat
  | 0, low, _ => low
  | k + 1, low, high => if high - low ≤ 1 then low else if ((low + high) / 2) * ((low + high) / 2) ≤ n then sbs n k ((low + high) / 2) high else sbs n k low ((low + high) / 2)
theorem sbs_ok (n : Nat) : ∀ k l h, l < h → h - l ≤ 2 ^ k → l * l ≤ n → n < h * h → sbs n k l h * sbs n k l h ≤ n ∧ n < (sbs n k l h + 1) * (sbs n k l h + 1)
  | 0, l, h, h1, h2, h3, h4 => by
    have : h = l + 1 := by omega
    subst this
    exact ⟨h3, h4⟩
  | k + 1, l, h, h1, h2, h3, h4 => by
    rw [Nat.pow_succ] at h2
    unfold sbs
    split
    · rename_i c
      have : h = l + 1 := by omega
      subst this
      exact ⟨h3, h4⟩
    · split
      · rename_i c d
        exact sbs_ok n k _ h (by omega) (by omega) d h4
      · rename_i c d
        exact sbs_ok n k l _ (by omega) (by omega) h3 (by omega)
def irt (n : Int) : Int := ((sbs n.toNat 32 0 4294967296 : Nat) : Int)
def iru (n : Int) : Int := if irt n * irt n < n then irt n + 1 else irt n
theorem irt_ok {n : Int} (h0 : 0 ≤ n) (h1 : n < 18446744073709551616) : 0 ≤ irt n ∧ irt n * irt n ≤ n ∧ n < (irt n + 1) * (irt n + 1) := by
  have k := sbs_ok n.toNat 32 0 4294967296 (by omega) (by decide) (by omega) (by omega)
  have a := Int.ofNat_le.2 k.1
  have b := Int.ofNat_lt.2 k.2
  have e : ((n.toNat : Nat) : Int) = n := Int.toNat_of_nonneg h0
  rw [e, Int.natCast_mul] at a
  rw [e, Int.natCast_mul] at b
  unfold irt
  exact ⟨by omega, a, by simpa using b⟩
theorem iru_ok {n : Int} (h0 : 0 ≤ n) (h1 : n < 18446744073709551616) : irt n ≤ iru n ∧ n ≤ iru n * iru n ∧ (iru n = irt n ∨ iru n = irt n + 1) := by
  have r := irt_ok h0 h1
  unfold iru
  split
  · exact ⟨by omega, by omega, .inr rfl⟩
  · exact ⟨by omega, by omega, .inl rfl⟩
theorem sq_le {x m : Int} (h0 : 0 ≤ x) (h1 : x ≤ m) : 0 ≤ x * x ∧ x * x ≤ m * m := ⟨Int.mul_nonneg h0 h0, Int.mul_le_mul h1 h1 h0 (by omega)⟩
theorem lt_sq {x y : Int} (_hx : 0 ≤ x) (h : x * x < y * y) (hy : 0 ≤ y) : x < y := by
  rcases Int.lt_or_le x y with q | q
  · exact q
  · have := sq_le hy q
    omega
theorem irt_mono {m n : Int} (h0 : 0 ≤ m) (h : m ≤ n) (h1 : n < 18446744073709551616) : irt m ≤ irt n ∧ iru m ≤ iru n := by
  have a := irt_ok h0 (by omega)
  have b := irt_ok (n := n) (by omega) h1
  have c := iru_ok h0 (by omega)
  have d := iru_ok (n := n) (by omega) h1
  have le : irt m ≤ irt n := by
    have := lt_sq (x := irt m) (y := irt n + 1) a.1 (by omega) (by omega)
    omega
  refine ⟨le, ?_⟩
  rcases Int.lt_or_le (iru n) (iru m) with q | q
  · exfalso
    rcases c.2.2 with k | k
    · omega
    · have : iru n ≤ irt m := by omega
      have s := sq_le (x := iru n) (m := irt m) (by omega) this
      have : irt m * irt m = m := by omega
      unfold iru at k
      rw [if_neg (by omega)] at k
      omega
  · exact q
def sqrL (a b : Int) : Int := if a ≤ 0 ∧ 0 ≤ b then 0 else min (a * a) (b * b)
def sqrH (a b : Int) : Int := max (a * a) (b * b)
def sqrR (a b : Int) : Int × Int × Int := if validB a b = true then fitR (sqrL a b / 1073741824) (-(-sqrH a b / 1073741824)) else (0, 0, 1)
def sqtR (a b : Int) : Int × Int × Int := if validB a b = true then if b < 0 then (0, 0, 2) else fitR (irt (max 0 a * 1073741824)) (iru (b * 1073741824)) else (0, 0, 1)
theorem abs_sq {x m : Int} (h0 : -m ≤ x) (h1 : x ≤ m) : 0 ≤ x * x ∧ x * x ≤ m * m := by
  rcases Int.le_total 0 x with h | h
  · exact sq_le h h1
  · have := sq_le (x := -x) (m := m) (by omega) (by omega)
    rw [Int.neg_mul_neg] at this
    exact this
theorem sqt_ok {a b : Int} (h0 : 0 ≤ a) (h1 : a ≤ b) (h2 : b ≤ 2147483648) : sqtR a b = (irt (a * 1073741824), iru (b * 1073741824), 0) ∧ 0 ≤ irt (a * 1073741824) ∧ irt (a * 1073741824) ≤ iru (b * 1073741824) ∧ iru (b * 1073741824) ≤ 2147483648 := by
  have r := irt_ok (n := a * 1073741824) (by omega) (by omega)
  have s := irt_ok (n := b * 1073741824) (by omega) (by omega)
  have u := iru_ok (n := b * 1073741824) (by omega) (by omega)
  have m := irt_mono (m := a * 1073741824) (n := b * 1073741824) (by omega) (by omega) (by omega)
  have c : irt (b * 1073741824) < 2147483648 := lt_sq s.1 (by omega) (by omega)
  unfold sqtR fitR
  rw [if_pos (val_mk (by omega) h1 h2), if_neg (by omega), show max 0 a = a by omega, if_pos (val_mk (by omega) (by omega) (by omega))]
  exact ⟨rfl, by omega, by omega, by omega⟩
theorem bear_first {a b k l : Int} (hv : validB a b = true) (hk : validB k l = true) (a0 : 0 ≤ a) (k0 : 0 ≤ k) (ho : originB a b k l = false) : 0 ≤ (bearR a b k l).1 ∧ (bearR a b k l).2.1 ≤ 5400000 := by
  have v := val_bd hv
  have w := val_bd hk
  rcases Int.lt_or_eq_of_le k0 with h | h
  · have e := bear_str (j := 0) hk hv ho (by omega) (show rbox a b k l 0 = (a, b, k, l) from rfl) h
    have o := box_one (y0 := a) (y1 := b) (x0 := k) (x1 := l) h w.2.1 v.2.1 w.2.2 v.1 v.2.2
    have z : 0 ≤ loA a k l := by
      unfold loA
      rw [if_pos a0]
      unfold fl; rw [if_pos a0]; omega
    rw [e]
    dsimp only
    omega
  · have o0 : ¬ (k ≤ 0 ∧ 0 ≤ l ∧ a ≤ 0 ∧ 0 ≤ b) := by
      simp only [originB, decide_eq_false_iff_not] at ho
      exact ho
    have h2 : 0 < a := by omega
    have e := bear_str (j := 1) hk hv ho (by omega) (show rbox a b k l 1 = (-l, -k, a, b) from rfl) h2
    have o := box_one (y0 := -l) (y1 := -k) (x0 := a) (x1 := b) h2 v.2.1 (by omega) v.2.2 (by omega) (by omega)
    have z : hiA (-k) a b = 0 := by
      unfold hiA
      rw [← h, Int.neg_zero, if_pos (by omega)]
      have x := fl_neg (x := a) (y := 0) ⟨h2, by omega, by omega, by omega⟩
      have y := fl_zero h2 (show a ≤ 2147483648 by omega)
      rw [Int.neg_zero, y] at x
      omega
    have m := o.1
    have m2 := o.2.1
    rw [z] at m2
    rw [e, z, show ((1 : Nat) : Int) = 1 from rfl]
    generalize loA (-l) a b = g at *
    dsimp only
    omega
end Go.Proofs.YtipjnfabodfkcaaGreatDoor

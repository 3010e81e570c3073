/-
  Squares and roots of enclosures; halves and doubles of arcs: they hold what they are of. No program here. Where fixed.root's loop stands. No program here.
-/
import Derived.Test.YtmididlfnajhiaaGreatDoorHd
namespace Go.Proofs.YtmididlfnajhiaaGreatDoor
open SM TB TA
def sbs (n : Nat) : Nat → Nat → Nat → Nat
  | 0, low, _ => low
  | k + 1, low, high => if high - low ≤ 1 then low else if ((low + high) / 2) * ((low + high) / 2) ≤ n then sbs n k ((low + high) / 2) high else sbs n k low ((low + high) / 2)
theorem sbs_ok (n : Nat) : ∀ k l h, l < h → h - l ≤ 2 ^ k → l * l ≤ n → n < h * h → sbs n k l h * sbs n k l h ≤ n ∧ n < (sbs n k l h + 1) * (sbs n k l h + 1)
  | 0, l, h, h1, h2, h3, h4 => by
    have : h = l + 1 := by omega
    subst this
    exact ⟨h3, h4⟩
  | k + 1, l, h, h1, h2, h3, h4 => by
    rw [Nat.pow_succ] at h2
    unfold sbs
    split
    · rename_i c
      have : h = l + 1 := by omega
      subst this
      exact ⟨h3, h4⟩
    · split
      · rename_i c d
        exact sbs_ok n k _ h (by omega) (by omega) d h4
      · rename_i c d
        exact sbs_ok n k l _ (by omega) (by omega) h3 (by omega)
def irt (n : Int) : Int := ((sbs n.toNat 32 0 4294967296 : Nat) : Int)
def iru (n : Int) : Int := if irt n * irt n < n then irt n + 1 else irt n
theorem irt_ok {n : Int} (h0 : 0 ≤ n) (h1 : n < 18446744073709551616) : 0 ≤ irt n ∧ irt n * irt n ≤ n ∧ n < (irt n + 1) * (irt n + 1) := by
  have k := sbs_ok n.toNat 32 0 4294967296 (by omega) (by decide) (by omega) (by omega)
  have a := Int.ofNat_le.2 k.1
  have b := Int.ofNat_lt.2 k.2
  have e : ((n.toNat : Nat) : Int) = n := Int.toNat_of_nonneg h0
  rw [e, Int.natCast_mul] at a
  rw [e, Int.natCast_mul] at b
  unfold irt
  exact ⟨by omega, a, by simpa using b⟩
theorem iru_ok {n : Int} (h0 : 0 ≤ n) (h1 : n < 18446744073709551616) : irt n ≤ iru n ∧ n ≤ iru n * iru n ∧ (iru n = irt n ∨ iru n = irt n + 1) := by
  have r := irt_ok h0 h1
  unfold iru
  split
  · exact ⟨by omega, by omega, .inr rfl⟩
  · exact ⟨by omega, by omega, .inl rfl⟩
theorem sq_le {x m : Int} (h0 : 0 ≤ x) (h1 : x ≤ m) : 0 ≤ x * x ∧ x * x ≤ m * m := ⟨Int.mul_nonneg h0 h0, Int.mul_le_mul h1 h1 h0 (by omega)⟩
theorem lt_sq {x y : Int} (_hx : 0 ≤ x) (h : x * x < y * y) (hy : 0 ≤ y) : x < y := by
  rcases Int.lt_or_le x y with q | q
  · exact q
  · have := sq_le hy q
    omega
theorem irt_mono {m n : Int} (h0 : 0 ≤ m) (h : m ≤ n) (h1 : n < 18446744073709551616) : irt m ≤ irt n ∧ iru m ≤ iru n := by
  have a := irt_ok h0 (by omega)
  have b := irt_ok (n := n) (by omega) h1
  have c := iru_ok h0 (by omega)
  have d := iru_ok (n := n) (by omega) h1
  have le : irt m ≤ irt n := by
    have := lt_sq (x := irt m) (y := irt n + 1) a.1 (by omega) (by omega)
    omega
  refine ⟨le, ?_⟩
  rcases Int.lt_or_le (iru n) (iru m) with q | q
  · exfalso
    rcases c.2.2 with k | k
    · omega
    · have : iru n ≤ irt m := by omega
      have s := sq_le (x := iru n) (m := irt m) (by omega) this
      have : irt m * irt m = m := by omega
      unfold iru at k
      rw [if_neg (by omega)] at k
      omega
  · exact q
def sqrL (a b : Int) : Int := if a ≤ 0 ∧ 0 ≤ b then 0 else min (a * a) (b * b)
def sqrH (a b : Int) : Int := max (a * a) (b * b)
def sqrR (a b : Int) : Int × Int × Int := if validB a b = true then fitR (sqrL a b / 1073741824) (-(-sqrH a b / 1073741824)) else (0, 0, 1)
def sqtR (a b : Int) : Int × Int × Int := if validB a b = true then if b < 0 then (0, 0, 2) else fitR (irt (max 0 a * 1073741824)) (iru (b * 1073741824)) else (0, 0, 1)
theorem abs_sq {x m : Int} (h0 : -m ≤ x) (h1 : x ≤ m) : 0 ≤ x * x ∧ x * x ≤ m * m := by
  rcases Int.le_total 0 x with h | h
  · exact sq_le h h1
  · have := sq_le (x := -x) (m := m) (by omega) (by omega)
    rw [Int.neg_mul_neg] at this
    exact this
theorem sqr_int {a b : Int} (h : validB a b = true) : 0 ≤ sqrL a b ∧ sqrL a b ≤ sqrH a b ∧ sqrH a b ≤ 4611686018427387904 := by
  have v := val_bd h
  have p := abs_sq (x := a) (m := 2147483648) (by omega) (by omega)
  have q := abs_sq (x := b) (m := 2147483648) (by omega) (by omega)
  unfold sqrL sqrH
  split <;> omega
theorem sqr_ones {r : Int × Int × Int} (h : OneR r) : sqrR r.1 r.2.1 = (sqrL r.1 r.2.1 / 1073741824, -(-sqrH r.1 r.2.1 / 1073741824), 0) ∧ OneR (sqrR r.1 r.2.1) ∧ 0 ≤ (sqrR r.1 r.2.1).1 := by
  obtain ⟨h1, h2, h3, h4⟩ := h
  have hv : validB r.1 r.2.1 = true := val_mk (by omega) h2 (by omega)
  have p := abs_sq (x := r.1) (m := 1073741824) (by omega) (by omega)
  have q := abs_sq (x := r.2.1) (m := 1073741824) (by omega) (by omega)
  have i := sqr_int hv
  have j : sqrH r.1 r.2.1 ≤ 1152921504606846976 := by unfold sqrH; omega
  have e : sqrR r.1 r.2.1 = (sqrL r.1 r.2.1 / 1073741824, -(-sqrH r.1 r.2.1 / 1073741824), 0) := by
    unfold sqrR fitR
    rw [if_pos hv, if_pos (val_mk (by omega) (by omega) (by omega))]
  rw [e]
  unfold OneR
  dsimp only
  exact ⟨rfl, ⟨by omega, by omega, by omega, rfl⟩, by omega⟩
theorem sqr_v {r : Int × Int × Int} {e X : Rat} (h : OneR r) (he : 0 ≤ e) (he1 : e ≤ 1 / 4) (h' : Vl r e X) : Vl (sqrR r.1 r.2.1) (3 * e) (X * X) := by
  have k := sqr_ones h
  obtain ⟨h1, h2, h3, h4⟩ := h
  refine ⟨k.2.1.2.2.2, k.2.1.val, ?_⟩
  rw [k.1]
  dsimp only
  obtain ⟨Y, y0, y1, y2⟩ := Hs.clamp he h'.2.2 h2
  generalize r.1 = a at *
  generalize r.2.1 = b at *
  have fl := floor_c (sqrL a b)
  have fh := floor_c (-sqrH a b)
  rw [Rat.intCast_neg] at fh
  have lo : ((sqrL a b : Int) : Rat) ≤ Y * Y := by
    unfold sqrL
    split
    · rw [show ((0 : Int) : Rat) = 0 by rfl]
      exact sq_nn Y
    · rename_i c
      rcases (show 0 < a ∨ b < 0 by omega) with g | g
      · have m : ((min (a * a) (b * b) : Int) : Rat) ≤ ((a * a : Int) : Rat) := le_c (by omega)
        rw [Rat.intCast_mul] at m
        have a0 : 0 ≤ (a : Rat) := le_c (a := 0) (by omega)
        have := Rat.mul_nonneg (show 0 ≤ Y - (a : Rat) by grind) (show 0 ≤ Y + (a : Rat) by grind)
        grind
      · have m : ((min (a * a) (b * b) : Int) : Rat) ≤ ((b * b : Int) : Rat) := le_c (by omega)
        rw [Rat.intCast_mul] at m
        have b0 : (b : Rat) ≤ 0 := le_c (b := 0) (by omega)
        have := Rat.mul_nonneg (show 0 ≤ (b : Rat) - Y by grind) (show 0 ≤ -Y - (b : Rat) by grind)
        grind
  have hi : Y * Y ≤ ((sqrH a b : Int) : Rat) := by
    unfold sqrH
    have m1 : ((a * a : Int) : Rat) ≤ ((max (a * a) (b * b) : Int) : Rat) := le_c (by omega)
    have m2 : ((b * b : Int) : Rat) ≤ ((max (a * a) (b * b) : Int) : Rat) := le_c (by omega)
    rw [Rat.intCast_mul] at m1 m2
    rcases (Rat.le_total : 0 ≤ Y ∨ Y ≤ 0) with g | g
    · have := Rat.mul_nonneg (show 0 ≤ (b : Rat) - Y by grind) (show 0 ≤ (b : Rat) + Y by grind)
      grind
    · have := Rat.mul_nonneg (show 0 ≤ Y - (a : Rat) by grind) (show 0 ≤ -(a : Rat) - Y by grind)
      grind
  have a1 : (-1073741824 : Rat) ≤ (a : Rat) := le_c (a := -1073741824) h1
  have b1 : (b : Rat) ≤ 1073741824 := le_c (b := 1073741824) h3
  have nr : Cl (3 * e * 1073741824) (1073741824 * X * (1073741824 * X)) (Y * Y) := by
    unfold Cl at y2 ⊢
    generalize 1073741824 * X = Z at *
    have m1 := Rat.mul_nonneg (show 0 ≤ e + (Z - Y) by grind) (show 0 ≤ 1073741824 - Y by grind)
    have m2 := Rat.mul_nonneg (show 0 ≤ e - (Z - Y) by grind) (show 0 ≤ 1073741824 - Y by grind)
    have m3 := Rat.mul_nonneg (show 0 ≤ e + (Z - Y) by grind) (show 0 ≤ 1073741824 + Y by grind)
    have m4 := Rat.mul_nonneg (show 0 ≤ e - (Z - Y) by grind) (show 0 ≤ 1073741824 + Y by grind)
    have m5 := Rat.mul_nonneg (show 0 ≤ e - (Z - Y) by grind) (show 0 ≤ e + (Z - Y) by grind)
    have m6 := sq_nn (Z - Y)
    have m7 := Rat.mul_nonneg he (show 0 ≤ 1 / 4 - e by grind)
    constructor <;> grind
  unfold Cl at nr
  unfold Hs
  rw [Rat.intCast_neg]
  generalize ((sqrL a b / 1073741824 : Int) : Rat) = p at *
  generalize ((-sqrH a b / 1073741824 : Int) : Rat) = q at *
  generalize Y * Y = Y2 at *
  constructor <;> grind
theorem sqt_ok {a b : Int} (h0 : 0 ≤ a) (h1 : a ≤ b) (h2 : b ≤ 2147483648) : sqtR a b = (irt (a * 1073741824), iru (b * 1073741824), 0) ∧ 0 ≤ irt (a * 1073741824) ∧ irt (a * 1073741824) ≤ iru (b * 1073741824) ∧ iru (b * 1073741824) ≤ 2147483648 := by
  have r := irt_ok (n := a * 1073741824) (by omega) (by omega)
  have s := irt_ok (n := b * 1073741824) (by omega) (by omega)
  have u := iru_ok (n := b * 1073741824) (by omega) (by omega)
  have m := irt_mono (m := a * 1073741824) (n := b * 1073741824) (by omega) (by omega) (by omega)
  have c : irt (b * 1073741824) < 2147483648 := lt_sq s.1 (by omega) (by omega)
  unfold sqtR fitR
  rw [if_pos (val_mk (by omega) h1 h2), if_neg (by omega), show max 0 a = a by omega, if_pos (val_mk (by omega) (by omega) (by omega))]
  exact ⟨rfl, by omega, by omega, by omega⟩
theorem sqt_v {r : Int × Int × Int} {e X τ σ : Rat} (h0 : 0 ≤ r.1) (h' : Vl r e (X * X)) (hX : 0 ≤ X) (ht : 1073741824 * e ≤ τ) (ht0 : 0 ≤ τ) (hts : τ ≤ σ * σ) (hs0 : 0 ≤ σ) (hs1 : τ ≤ σ) : Vl (sqtR r.1 r.2.1) σ X := by
  obtain ⟨k1, k2, k3⟩ := h'
  have v := val_bd k2
  have q := sqt_ok h0 v.2.1 v.2.2
  refine ⟨by rw [q.1], by rw [q.1]; exact val_mk (by dsimp only; omega) q.2.2.1 q.2.2.2, ?_⟩
  rw [q.1]
  dsimp only
  generalize r.1 = a at *
  generalize r.2.1 = b at *
  have r1 := irt_ok (n := a * 1073741824) (by omega) (by omega)
  have u2 := iru_ok (n := b * 1073741824) (by omega) (by omega)
  have c1 := le_c r1.2.1
  have c2 := le_c u2.2.1
  rw [Rat.intCast_mul, Rat.intCast_mul, show ((1073741824 : Int) : Rat) = 1073741824 by rfl] at c1
  rw [Rat.intCast_mul, Rat.intCast_mul, show ((1073741824 : Int) : Rat) = 1073741824 by rfl] at c2
  have i1 : irt (a * 1073741824) = 0 ∨ (1 : Rat) ≤ (irt (a * 1073741824) : Rat) := by
    rcases Int.lt_or_eq_of_le r1.1 with h | h
    · right
      exact le_c (a := 1) (by omega)
    · left; omega
  have i2 : iru (b * 1073741824) = 0 ∨ (1 : Rat) ≤ (iru (b * 1073741824) : Rat) := by
    rcases Int.lt_or_eq_of_le (show 0 ≤ iru (b * 1073741824) by omega) with h | h
    · right
      exact le_c (a := 1) (by omega)
    · left; omega
  clear r1 u2 q
  generalize irt (a * 1073741824) = lo at *
  generalize iru (b * 1073741824) = hi at *
  unfold Hs at k3 ⊢
  have p0 : 0 ≤ 1073741824 * X := by grind
  have e2 : 1073741824 * (1073741824 * (X * X)) = 1073741824 * X * (1073741824 * X) := by grind
  generalize 1073741824 * (X * X) = W at *
  generalize 1073741824 * X = ρ at *
  constructor
  · rcases i1 with i1 | i1
    · rw [i1, show ((0 : Int) : Rat) = 0 by rfl]
      grind
    · rcases (Rat.le_total : (lo : Rat) ≤ ρ + τ ∨ ρ + τ ≤ (lo : Rat)) with k | k
      · grind
      · have m := Rat.mul_nonneg (show 0 ≤ (lo : Rat) - (ρ + τ) by grind) (show 0 ≤ (lo : Rat) + ρ by grind)
        have m2 := Rat.mul_nonneg ht0 (show 0 ≤ (lo : Rat) + ρ - 1 by grind)
        have m3 : (lo : Rat) * (lo : Rat) - ρ * ρ ≤ τ := by grind
        have m4 : ((lo : Rat) - (ρ + τ)) * ((lo : Rat) + ρ) ≤ 0 := by grind
        have m5 : ((lo : Rat) - (ρ + τ)) * ((lo : Rat) + ρ) = 0 := by grind
        rcases Rat.mul_eq_zero.1 m5 with q | q
        · grind
        · grind
  · rcases i2 with i2 | i2
    · rw [i2, show ((0 : Int) : Rat) = 0 by rfl] at c2 ⊢
      have := sqrt_small (z := ρ) (f := σ) (e := τ) hs0 (by grind) hts
      grind
    · rcases (Rat.le_total : ρ ≤ (hi : Rat) + τ ∨ (hi : Rat) + τ ≤ ρ) with k | k
      · grind
      · have m := Rat.mul_nonneg (show 0 ≤ ρ - ((hi : Rat) + τ) by grind) (show 0 ≤ (hi : Rat) + ρ by grind)
        have m2 := Rat.mul_nonneg ht0 (show 0 ≤ (hi : Rat) + ρ - 1 by grind)
        have m3 : ρ * ρ - (hi : Rat) * (hi : Rat) ≤ τ := by grind
        have m4 : (ρ - ((hi : Rat) + τ)) * ((hi : Rat) + ρ) ≤ 0 := by grind
        have m5 : (ρ - ((hi : Rat) + τ)) * ((hi : Rat) + ρ) = 0 := by grind
        rcases Rat.mul_eq_zero.1 m5 with q | q
        · grind
        · grind
theorem half_v {a b : Int} {e q : Rat} (he : 0 ≤ e) (h : Hs e a b (2 * q)) : Hs e (a / 2) (-(-b / 2)) q := by
  unfold Hs at *
  have e0 : ((-1 : Int) : Rat) = -1 := rfl
  have l : ((a / 2 * 2 : Int) : Rat) ≤ (a : Rat) := le_c (by omega)
  have u : ((-b / 2 * 2 : Int) : Rat) ≤ ((-b : Int) : Rat) := le_c (by omega)
  rw [Rat.intCast_mul, show ((2 : Int) : Rat) = 2 by rfl] at l
  rw [Rat.intCast_mul, Rat.intCast_neg, show ((2 : Int) : Rat) = 2 by rfl] at u
  rw [Rat.intCast_neg]
  generalize ((a / 2 : Int) : Rat) = p at *
  generalize ((-b / 2 : Int) : Rat) = s at *
  constructor <;> grind
theorem bear_first {a b k l : Int} (hv : validB a b = true) (hk : validB k l = true) (a0 : 0 ≤ a) (k0 : 0 ≤ k) (ho : originB a b k l = false) : 0 ≤ (bearR a b k l).1 ∧ (bearR a b k l).2.1 ≤ 5400000 := by
  have v := val_bd hv
  have w := val_bd hk
  rcases Int.lt_or_eq_of_le k0 with h | h
  · have e := bear_str (j := 0) hk hv ho (by omega) (show rbox a b k l 0 = (a, b, k, l) from rfl) h
    have o := box_one (y0 := a) (y1 := b) (x0 := k) (x1 := l) h w.2.1 v.2.1 w.2.2 v.1 v.2.2
    have z : 0 ≤ loA a k l := by
      unfold loA
      rw [if_pos a0]
      unfold fl; rw [if_pos a0]; omega
    rw [e]
    dsimp only
    omega
  · have o0 : ¬ (k ≤ 0 ∧ 0 ≤ l ∧ a ≤ 0 ∧ 0 ≤ b) := by
      simp only [originB, decide_eq_false_iff_not] at ho
      exact ho
    have h2 : 0 < a := by omega
    have e := bear_str (j := 1) hk hv ho (by omega) (show rbox a b k l 1 = (-l, -k, a, b) from rfl) h2
    have o := box_one (y0 := -l) (y1 := -k) (x0 := a) (x1 := b) h2 v.2.1 (by omega) v.2.2 (by omega) (by omega)
    have z : hiA (-k) a b = 0 := by
      unfold hiA
      rw [← h, Int.neg_zero, if_pos (by omega)]
      have x := fl_neg (x := a) (y := 0) ⟨h2, by omega, by omega, by omega⟩
      have y := fl_zero h2 (show a ≤ 2147483648 by omega)
      rw [Int.neg_zero, y] at x
      omega
    have m := o.1
    have m2 := o.2.1
    rw [z] at m2
    rw [e, z, show ((1 : Nat) : Int) = 1 from rfl]
    generalize loA (-l) a b = g at *
    dsimp only
    omega
end Go.Proofs.YtmididlfnajhiaaGreatDoor
namespace Go.Proofs.YtmididlfnajhiaaGreatDoor
def FS (n k b : Nat) : Prop := (b = 0 ∧ k * k ≤ n ∧ n < (k + 1) * (k + 1)) ∨ ∃ j, j ≤ 31 ∧ b = 2 ^ j ∧ k + 2 ^ (j + 1) ≤ 4294967296 ∧ k * k ≤ n ∧ n < (k + 2 ^ (j + 1)) * (k + 2 ^ (j + 1))
theorem fs_start {n : Nat} (hn : n ≤ 2305843009213693952) : FS n 0 2147483648 := .inr ⟨31, by omega, by decide, by decide, by omega, by omega⟩
theorem fs_step {n k b : Nat} (hn : n ≤ 2305843009213693952) (h : FS n k b) (hb : 0 < b) :
    b ≤ 2147483648 ∧ k < 2147483648 ∧ k + b < 3037000499 ∧ ((k + b) * (k + b) ≤ n → FS n (k + b) (b / 2)) ∧ (¬ (k + b) * (k + b) ≤ n → FS n k (b / 2)) := by
  rcases h with ⟨h, _⟩ | ⟨j, hj, rfl, hk, h1, h2⟩
  · omega
  have hp : 2 ^ j ≤ 2 ^ 31 := Nat.pow_le_pow_right (by omega) hj
  have kb : k ≤ 1518500250 := by
    rcases Nat.lt_or_ge 1518500250 k with q | q
    · have := Nat.mul_le_mul (show 1518500251 ≤ k from q) (show 1518500251 ≤ k from q)
      omega
    · exact q
  have e : 2 ^ (j + 1) = 2 ^ j * 2 := Nat.pow_succ 2 j
  have s : k + 2 ^ j < 3037000499 := by
    rcases Nat.lt_or_ge j 31 with q | q
    · have : 2 ^ j ≤ 2 ^ 30 := Nat.pow_le_pow_right (by omega) (by omega)
      omega
    · have : j = 31 := by omega
      subst this
      omega
  refine ⟨hp, by omega, s, fun hx => ?_, fun hx => ?_⟩
  · cases j with
    | zero =>
      refine .inl ⟨rfl, hx, ?_⟩
      have : k + 2 ^ 0 + 1 = k + 2 ^ (0 + 1) := by omega
      rw [this]
      exact h2
    | succ i =>
      refine .inr ⟨i, by omega, by rw [Nat.pow_succ]; omega, by omega, hx, ?_⟩
      have : k + 2 ^ (i + 1) + 2 ^ (i + 1) = k + 2 ^ (i + 1 + 1) := by omega
      rw [this]
      exact h2
  · cases j with
    | zero =>
      refine .inl ⟨rfl, h1, ?_⟩
      simpa using hx
    | succ i =>
      refine .inr ⟨i, by omega, by rw [Nat.pow_succ]; omega, by omega, h1, by omega⟩
theorem fs_end {n k : Nat} (hn : n ≤ 2305843009213693952) (h : FS n k 0) : (k : Int) = irt (n : Int) := by
  have g : k * k ≤ n ∧ n < (k + 1) * (k + 1) := by
    rcases h with ⟨_, h1, h2⟩ | ⟨j, _, h, _⟩
    · exact ⟨h1, h2⟩
    · have := Nat.two_pow_pos j
      omega
  have o := sbs_ok n 32 0 4294967296 (by omega) (by decide) (by omega) (by omega)
  unfold irt
  rw [Int.toNat_natCast]
  generalize sbs n 32 0 4294967296 = r at *
  rcases Nat.lt_trichotomy k r with q | q | q
  · have := Nat.mul_le_mul (show k + 1 ≤ r from q) (show k + 1 ≤ r from q)
    omega
  · rw [q]
  · have := Nat.mul_le_mul (show r + 1 ≤ k from q) (show r + 1 ≤ k from q)
    omega
end Go.Proofs.YtmididlfnajhiaaGreatDoor

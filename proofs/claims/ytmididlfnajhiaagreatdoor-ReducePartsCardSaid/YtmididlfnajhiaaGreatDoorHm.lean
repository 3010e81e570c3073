/-
  Rotated vectors: no error comes; the arcs hold the true altitude and azimuth. No program here.
-/
import Derived.Test.YtmididlfnajhiaaGreatDoorHd
import Derived.Test.YtmididlfnajhiaaGreatDoorFm
namespace Go.Proofs.YtmididlfnajhiaaGreatDoor
open SM TB TA
open Ev (lt keepE)
theorem u64w {x : Int} (h : 0 ≤ x ∧ x ≤ 18446744073709551615) : IntKind.u64.wrap x = x := IntWalk.u64_in _ h
def nrA (a b : Int) : Int := if 0 < a then a else if b < 0 then -b else 0
def frA (a b : Int) : Int := if b < -a then -a else b
theorem near_eq {a b : Int} (h1 : -2147483648 ≤ a) (h2 : a ≤ b) (h3 : b ≤ 2147483648) : nearM a b = nrA a b := by
  have k : IntKind.u64.wrap (mn (mx a (IntKind.i64.wrap (0 - a))) (mx b (IntKind.i64.wrap (0 - b)))) = mn (mx a (0 - a)) (mx b (0 - b)) := by
    rw [i64w (x := 0 - a) (by omega), i64w (x := 0 - b) (by omega)]
    refine u64w ?_
    unfold mn mx
    repeat' split
    all_goals omega
  unfold nearM nrA
  rw [k]
  unfold mn mx
  by_cases c1 : a ≤ 0
  · rw [decide_eq_true c1, cond_true]
    by_cases c2 : b ≥ 0
    · rw [decide_eq_true c2, cond_true, if_neg (by omega), if_neg (by omega)]
    · rw [decide_eq_false c2, cond_false, if_neg (show ¬ 0 < a by omega), if_pos (show b < 0 by omega)]
      repeat' split
      all_goals omega
  · rw [decide_eq_false c1, cond_false, if_pos (show 0 < a by omega)]
    repeat' split
    all_goals omega
theorem far_eq {a b : Int} (h1 : -2147483648 ≤ a) (h2 : a ≤ b) (h3 : b ≤ 2147483648) : farM a b = frA a b := by
  unfold farM frA
  rw [i64w (x := 0 - a) (by omega), i64w (x := 0 - b) (by omega)]
  have k : mx (mx (mx a (0 - a)) b) (0 - b) = if b < -a then -a else b := by
    unfold mx
    repeat' split
    all_goals omega
  rw [k]
  refine u64w ?_
  split <;> omega
theorem nr_bd {a b : Int} (h2 : a ≤ b) : 0 ≤ nrA a b ∧ nrA a b ≤ frA a b ∧ (-a ≤ frA a b ∧ b ≤ frA a b ∧ (frA a b = -a ∨ frA a b = b)) := by
  unfold nrA frA
  repeat' split
  all_goals omega
theorem rt_ok {n : Int} (h0 : 0 ≤ n) (h1 : n < 18446744073709551616) : 0 ≤ rootR n ∧ rootR n * rootR n ≤ n ∧ n < (rootR n + 1) * (rootR n + 1) := by
  have k := isq_ok (n := n.toNat) (by omega)
  have a : ((isq n.toNat * isq n.toNat : Nat) : Int) ≤ ((n.toNat : Nat) : Int) := Int.ofNat_le.2 k.1
  have b : ((n.toNat : Nat) : Int) < (((isq n.toNat + 1) * (isq n.toNat + 1) : Nat) : Int) := Int.ofNat_lt.2 k.2
  rw [Int.natCast_mul, Int.toNat_of_nonneg h0] at a
  rw [Int.natCast_mul, Int.toNat_of_nonneg h0] at b
  unfold rootR
  exact ⟨by omega, a, b⟩
def upr (n : Int) : Int := if rootR n * rootR n < n then rootR n + 1 else rootR n
theorem upr_ok {n : Int} (h0 : 0 ≤ n) (h1 : n < 18446744073709551616) : rootR n ≤ upr n ∧ n ≤ upr n * upr n ∧ (upr n = rootR n ∨ upr n = rootR n + 1) := by
  have r := rt_ok h0 h1
  unfold upr
  split
  · exact ⟨by omega, by omega, .inr rfl⟩
  · exact ⟨by omega, by omega, .inl rfl⟩
theorem sq_int {x : Int} {m : Int} (h0 : 0 ≤ x) (h1 : x ≤ m) : 0 ≤ x * x ∧ x * x ≤ m * m := ⟨Int.mul_nonneg h0 h0, Int.mul_le_mul h1 h1 h0 (by omega)⟩
theorem hyp_eq {a b c d : Int} (h1 : -2147483648 ≤ a) (h2 : a ≤ b) (h3 : b ≤ 2147483648) (h4 : -1073741824 ≤ c) (h5 : c ≤ d) (h6 : d ≤ 1073741824) :
    hypM a b c d = (min (rootR (nrA a b * nrA a b + nrA c d * nrA c d)) 1073741824, min (upr (frA a b * frA a b + frA c d * frA c d)) 1073741824) := by
  have n1 := nr_bd h2
  have n2 := nr_bd h5
  have s1 := sq_int (x := nrA a b) (m := 2147483648) n1.1 (by omega)
  have s2 := sq_int (x := nrA c d) (m := 1073741824) n2.1 (by omega)
  have s3 := sq_int (x := frA a b) (m := 2147483648) (by omega) (by omega)
  have s4 := sq_int (x := frA c d) (m := 1073741824) (by omega) (by omega)
  have eN : sumN a b c d = nrA a b * nrA a b + nrA c d * nrA c d := by
    unfold sumN
    rw [near_eq h1 h2 h3, near_eq (by omega) h5 (by omega), u64w (x := nrA a b * nrA a b) (by omega), u64w (x := nrA c d * nrA c d) (by omega), u64w (by omega)]
  have eF : sumF a b c d = frA a b * frA a b + frA c d * frA c d := by
    unfold sumF
    rw [far_eq h1 h2 h3, far_eq (by omega) h5 (by omega), u64w (x := frA a b * frA a b) (by omega), u64w (x := frA c d * frA c d) (by omega), u64w (by omega)]
  unfold hypM
  rw [eN, eF]
  have r1 := rt_ok (n := nrA a b * nrA a b + nrA c d * nrA c d) (by omega) (by omega)
  have r2 := rt_ok (n := frA a b * frA a b + frA c d * frA c d) (by omega) (by omega)
  have q0 : 0 ≤ nrA a b * nrA a b + nrA c d * nrA c d := by omega
  have q1 : 0 ≤ frA a b * frA a b + frA c d * frA c d ∧ frA a b * frA a b + frA c d * frA c d < 9223372036854775808 := by omega
  generalize nrA a b * nrA a b + nrA c d * nrA c d = n at *
  generalize frA a b * frA a b + frA c d * frA c d = f at *
  have k : rootR f < 4294967296 := by
    rcases Int.lt_or_le (rootR f) 4294967296 with h | h
    · exact h
    · have := sq_int (x := 4294967296) (m := rootR f) (by omega) h
      omega
  have z0 := Int.mul_nonneg r2.1 r2.1
  rw [u64w (x := rootR f * rootR f) (by omega), u64w (x := rootR f + 1) (by omega)]
  have e1 : cond (decide (rootR f * rootR f < f)) (rootR f + 1) (rootR f) = upr f := by
    unfold upr
    by_cases c : rootR f * rootR f < f
    · rw [decide_eq_true c, if_pos c]; rfl
    · rw [decide_eq_false c, if_neg c]; rfl
  rw [e1]
  have u : 0 ≤ upr f := by
    have := upr_ok q1.1 (by omega)
    omega
  have m1 : mn (rootR n) 1073741824 = min (rootR n) 1073741824 := by unfold mn; split <;> omega
  have m2 : mn (upr f) 1073741824 = min (upr f) 1073741824 := by unfold mn; split <;> omega
  rw [m1, m2, i64w (by omega), i64w (by omega)]
theorem hyp_bd {a b c d : Int} (h1 : -2147483648 ≤ a) (h2 : a ≤ b) (h3 : b ≤ 2147483648) (h4 : -1073741824 ≤ c) (h5 : c ≤ d) (h6 : d ≤ 1073741824) :
    0 ≤ (hypM a b c d).1 ∧ (hypM a b c d).1 ≤ (hypM a b c d).2 ∧ (hypM a b c d).2 ≤ 1073741824 := by
  have n1 := nr_bd h2
  have n2 := nr_bd h5
  have s1 := sq_int (x := nrA a b) (m := 2147483648) n1.1 (by omega)
  have s2 := sq_int (x := nrA c d) (m := 1073741824) n2.1 (by omega)
  have s3 := sq_int (x := frA a b) (m := 2147483648) (by omega) (by omega)
  have s4 := sq_int (x := frA c d) (m := 1073741824) (by omega) (by omega)
  have t1 := sq_int (x := nrA a b) (m := frA a b) n1.1 n1.2.1
  have t2 := sq_int (x := nrA c d) (m := frA c d) n2.1 n2.2.1
  rw [hyp_eq h1 h2 h3 h4 h5 h6]
  dsimp only
  have r1 := rt_ok (n := nrA a b * nrA a b + nrA c d * nrA c d) (by omega) (by omega)
  have r2 := rt_ok (n := frA a b * frA a b + frA c d * frA c d) (by omega) (by omega)
  have u2 := upr_ok (n := frA a b * frA a b + frA c d * frA c d) (by omega) (by omega)
  have le : rootR (nrA a b * nrA a b + nrA c d * nrA c d) ≤ rootR (frA a b * frA a b + frA c d * frA c d) := by
    rcases Int.lt_or_le (rootR (frA a b * frA a b + frA c d * frA c d)) (rootR (nrA a b * nrA a b + nrA c d * nrA c d)) with h | h
    · exfalso
      have := sq_int (x := rootR (frA a b * frA a b + frA c d * frA c d) + 1) (m := rootR (nrA a b * nrA a b + nrA c d * nrA c d)) (by omega) (by omega)
      omega
    · exact h
  omega
theorem nr_hold {a b : Int} {X e : Rat} (hab : a ≤ b) (he : 0 ≤ e) (he1 : e ≤ 1) (hX : -4294967296 ≤ X ∧ X ≤ 4294967296) (hb : -2147483648 ≤ a ∧ b ≤ 2147483648) (h : Hs e a b X) : (nrA a b : Rat) * (nrA a b : Rat) ≤ X * X + 17179869184 * e ∧ X * X ≤ (frA a b : Rat) * (frA a b : Rat) + 17179869184 * e := by
  have sx := sq_nn X
  unfold Hs at h
  have A := le_c hb.1
  have B := le_c hb.2
  have zA : ((-2147483648 : Int) : Rat) = -2147483648 := rfl
  have zB : ((2147483648 : Int) : Rat) = 2147483648 := rfl
  rw [zA] at A
  rw [zB] at B
  have AB := le_c hab
  constructor
  · unfold nrA
    split
    · rename_i c
      have c' := lt_c c
      rw [show ((0 : Int) : Rat) = 0 by rfl] at c'
      rcases (Rat.le_total : (a : Rat) ≤ X ∨ X ≤ (a : Rat)) with k | k
      · have := Rat.mul_nonneg (show 0 ≤ X - (a : Rat) by grind) (show 0 ≤ X + (a : Rat) by grind)
        grind
      · have m := Rat.mul_nonneg (show 0 ≤ X - ((a : Rat) - e) by grind) (show 0 ≤ X + (a : Rat) by grind)
        have m2 := Rat.mul_nonneg he (show 0 ≤ 17179869184 - (X + (a : Rat)) by grind)
        grind
    · split
      · rename_i c
        have c' := lt_c c
        rw [show ((0 : Int) : Rat) = 0 by rfl] at c'
        rw [Rat.intCast_neg]
        rcases (Rat.le_total : X ≤ (b : Rat) ∨ (b : Rat) ≤ X) with k | k
        · have := Rat.mul_nonneg (show 0 ≤ (b : Rat) - X by grind) (show 0 ≤ -X - (b : Rat) by grind)
          grind
        · have m := Rat.mul_nonneg (show 0 ≤ (b : Rat) + e - X by grind) (show 0 ≤ -X - (b : Rat) by grind)
          have m2 := Rat.mul_nonneg he (show 0 ≤ 17179869184 - (-X - (b : Rat)) by grind)
          grind
      · rw [show ((0 : Int) : Rat) = 0 by rfl]
        grind
  · have n := nr_bd hab
    have n1 := le_c n.2.2.1
    have n2 := le_c n.2.2.2.1
    rw [Rat.intCast_neg] at n1
    have n3 : (frA a b : Rat) ≤ 2147483648 := le_c (b := 2147483648) (by omega)
    have n0 : 0 ≤ (frA a b : Rat) := le_c (a := 0) (by omega)
    generalize (frA a b : Rat) = f at *
    have m := Rat.mul_nonneg (show 0 ≤ f + e - X by grind) (show 0 ≤ f + e + X by grind)
    have m2 := Rat.mul_nonneg he (show 0 ≤ 17179869184 - 2 * f - e by grind)
    grind
theorem hyp_hold {a b c d : Int} {X Y ρ e τ σ : Rat} (h1 : -2147483648 ≤ a) (h2 : a ≤ b) (h3 : b ≤ 2147483648) (h4 : -1073741824 ≤ c) (h5 : c ≤ d) (h6 : d ≤ 1073741824)
    (he : 0 ≤ e) (he1 : e ≤ 1) (hX : -4294967296 ≤ X ∧ X ≤ 4294967296) (hY : -4294967296 ≤ Y ∧ Y ≤ 4294967296) (vX : Hs e a b X) (vY : Hs e c d Y)
    (hr0 : 0 ≤ ρ) (hr1 : ρ ≤ 1073741824 + σ) (hu : Cl (τ / 2) (X * X + Y * Y) (ρ * ρ)) (ht : 68719476736 * e ≤ τ / 2) (ht0 : 0 ≤ τ) (hts : τ ≤ σ * σ) (hs0 : 0 ≤ σ) (hs1 : τ ≤ σ) :
    Hs σ (hypM a b c d).1 (hypM a b c d).2 ρ := by
  have n1 := nr_bd h2
  have n2 := nr_bd h5
  have s1 := sq_int (x := nrA a b) (m := 2147483648) n1.1 (by omega)
  have s2 := sq_int (x := nrA c d) (m := 1073741824) n2.1 (by omega)
  have s3 := sq_int (x := frA a b) (m := 2147483648) (by omega) (by omega)
  have s4 := sq_int (x := frA c d) (m := 1073741824) (by omega) (by omega)
  have r1 := rt_ok (n := nrA a b * nrA a b + nrA c d * nrA c d) (by omega) (by omega)
  have u2 := upr_ok (n := frA a b * frA a b + frA c d * frA c d) (by omega) (by omega)
  have r2 := rt_ok (n := frA a b * frA a b + frA c d * frA c d) (by omega) (by omega)
  have kX := nr_hold h2 he he1 hX ⟨h1, h3⟩ vX
  have kY := nr_hold h5 he he1 hY ⟨by omega, by omega⟩ vY
  rw [hyp_eq h1 h2 h3 h4 h5 h6]
  clear s1 s2 s3 s4
  have c1 := le_c r1.2.1
  have c2 := le_c u2.2.1
  rw [Rat.intCast_mul, Rat.intCast_add, Rat.intCast_mul, Rat.intCast_mul] at c1
  rw [Rat.intCast_mul, Rat.intCast_add, Rat.intCast_mul, Rat.intCast_mul] at c2
  have p1 := le_c r1.1
  have p2 := le_c (show 0 ≤ upr (frA a b * frA a b + frA c d * frA c d) by omega)
  rw [show ((0 : Int) : Rat) = 0 by rfl] at p1 p2
  have i1 : rootR (nrA a b * nrA a b + nrA c d * nrA c d) = 0 ∨ (1 : Rat) ≤ (rootR (nrA a b * nrA a b + nrA c d * nrA c d) : Rat) := by
    rcases Int.lt_or_eq_of_le r1.1 with h | h
    · right
      have := lt_c h
      rw [show ((0 : Int) : Rat) = 0 by rfl] at this
      grind
    · left; omega
  have i2 : upr (frA a b * frA a b + frA c d * frA c d) = 0 ∨ (1 : Rat) ≤ (upr (frA a b * frA a b + frA c d * frA c d) : Rat) := by
    rcases Int.lt_or_eq_of_le (show 0 ≤ upr (frA a b * frA a b + frA c d * frA c d) by omega) with h | h
    · right
      have := lt_c h
      rw [show ((0 : Int) : Rat) = 0 by rfl] at this
      grind
    · left; omega
  clear r1 u2 r2
  generalize rootR (nrA a b * nrA a b + nrA c d * nrA c d) = lo at *
  generalize upr (frA a b * frA a b + frA c d * frA c d) = hi at *
  unfold Cl at hu
  unfold Hs
  dsimp only
  have m0 : ((min lo 1073741824 : Int) : Rat) ≤ (lo : Rat) := le_c (by omega)
  have m1 : ((min hi 1073741824 : Int) : Rat) = (hi : Rat) ∨ ((min hi 1073741824 : Int) : Rat) = 1073741824 := by
    rcases Int.le_total hi 1073741824 with h | h
    · left; rw [Int.min_eq_left h]
    · right; rw [Int.min_eq_right h]; rfl
  generalize ((min lo 1073741824 : Int) : Rat) = l' at *
  generalize ((min hi 1073741824 : Int) : Rat) = h' at *
  generalize (nrA a b : Rat) * (nrA a b : Rat) = w1 at *
  generalize (nrA c d : Rat) * (nrA c d : Rat) = w2 at *
  generalize (frA a b : Rat) * (frA a b : Rat) = w3 at *
  generalize (frA c d : Rat) * (frA c d : Rat) = w4 at *
  generalize X * X = x2 at *
  generalize Y * Y = y2 at *
  constructor
  · rcases i1 with i1 | i1
    · rw [i1, show ((0 : Int) : Rat) = 0 by rfl] at m0
      grind
    · rcases (Rat.le_total : (lo : Rat) ≤ ρ + τ ∨ ρ + τ ≤ (lo : Rat)) with k | k
      · grind
      · have m := Rat.mul_nonneg (show 0 ≤ (lo : Rat) - (ρ + τ) by grind) (show 0 ≤ (lo : Rat) + ρ by grind)
        have m2 := Rat.mul_nonneg ht0 (show 0 ≤ (lo : Rat) + ρ - 1 by grind)
        have m3 : (lo : Rat) * (lo : Rat) - ρ * ρ ≤ τ := by grind
        have m4 : ((lo : Rat) - (ρ + τ)) * ((lo : Rat) + ρ) ≤ 0 := by grind
        have m5 : ((lo : Rat) - (ρ + τ)) * ((lo : Rat) + ρ) = 0 := by grind
        rcases Rat.mul_eq_zero.1 m5 with q | q
        · grind
        · grind
  · rcases m1 with m1 | m1
    · rw [m1]
      rcases i2 with i2 | i2
      · rw [i2, show ((0 : Int) : Rat) = 0 by rfl] at c2 ⊢
        have := sqrt_small (z := ρ) (f := σ) (e := τ) hs0 (by grind) hts
        grind
      · rcases (Rat.le_total : ρ ≤ (hi : Rat) + τ ∨ (hi : Rat) + τ ≤ ρ) with k | k
        · grind
        · have m := Rat.mul_nonneg (show 0 ≤ ρ - ((hi : Rat) + τ) by grind) (show 0 ≤ (hi : Rat) + ρ by grind)
          have m2 := Rat.mul_nonneg ht0 (show 0 ≤ (hi : Rat) + ρ - 1 by grind)
          have m3 : ρ * ρ - (hi : Rat) * (hi : Rat) ≤ τ := by grind
          have m4 : (ρ - ((hi : Rat) + τ)) * ((hi : Rat) + ρ) ≤ 0 := by grind
          have m5 : (ρ - ((hi : Rat) + τ)) * ((hi : Rat) + ρ) = 0 := by grind
          rcases Rat.mul_eq_zero.1 m5 with q | q
          · grind
          · grind
    · rw [m1]
      grind
theorem ce_zero {x : Int} (h : 0 < x) (h1 : x ≤ 2147483648) : ce x 0 = 0 := by
  have a := fl_neg (x := x) (y := 0) ⟨h, h1, by omega, by omega⟩
  have b := fl_zero h h1
  rw [Int.neg_zero, b] at a
  omega
theorem bear_right {a b k l : Int} (hv : validB a b = true) (hk : validB k l = true) (k0 : 0 ≤ k) (ho : originB a b k l = false) :
    ((bearR a b k l).1 ≤ 5400000 ∧ (bearR a b k l).2.1 ≤ 5400000) ∨ (16200000 ≤ (bearR a b k l).1 ∧ (bearR a b k l).2.1 ≤ 27000000) := by
  have v := val_bd hv
  have w := val_bd hk
  rcases Int.lt_or_eq_of_le k0 with h | h
  · have e := bear_str (j := 0) hk hv ho (by omega) (show rbox a b k l 0 = (a, b, k, l) from rfl) h
    have o := box_one (y0 := a) (y1 := b) (x0 := k) (x1 := l) h w.2.1 v.2.1 w.2.2 v.1 v.2.2
    rw [e]
    dsimp only
    omega
  · have o0 : ¬ (k ≤ 0 ∧ 0 ≤ l ∧ a ≤ 0 ∧ 0 ≤ b) := by
      simp only [originB, decide_eq_false_iff_not] at ho
      exact ho
    rcases (show 0 < a ∨ b < 0 by omega) with h2 | h2
    · have e := bear_str (j := 1) hk hv ho (by omega) (show rbox a b k l 1 = (-l, -k, a, b) from rfl) h2
      have o := box_one (y0 := -l) (y1 := -k) (x0 := a) (x1 := b) h2 v.2.1 (by omega) v.2.2 (by omega) (by omega)
      have z : hiA (-k) a b = 0 := by
        unfold hiA
        rw [← h, if_pos (by omega)]
        exact ce_zero h2 (by omega)
      rw [e]
      dsimp only
      omega
    · have e := bear_str (j := 3) hk hv ho (by omega) (show rbox a b k l 3 = (k, l, -b, -a) from rfl) (by omega)
      have o := box_one (y0 := k) (y1 := l) (x0 := -b) (x1 := -a) (by omega) (by omega) (by omega) (by omega) (by omega) (by omega)
      have z : loA k (-b) (-a) = 0 := by
        unfold loA
        rw [← h, if_pos (by omega)]
        exact fl_zero (by omega) (by omega)
      rw [e]
      dsimp only
      omega
def nbR (r : Int × Int × Int) : Int × Int := if 10800000 ≤ r.1 then (r.1 - 21600000, r.2.1 - 21600000) else (r.1, r.2.1)
theorem nb_bd {r : Int × Int × Int} (hd : DirR r) (h : (r.1 ≤ 5400000 ∧ r.2.1 ≤ 5400000) ∨ (16200000 ≤ r.1 ∧ r.2.1 ≤ 27000000)) : -5400000 ≤ (nbR r).1 ∧ (nbR r).1 ≤ (nbR r).2 ∧ (nbR r).2 ≤ 5400000 := by
  obtain ⟨d1, d2, d3, d4, d5⟩ := hd
  unfold nbR
  split
  · dsimp only; omega
  · dsimp only; omega
theorem nb_hold {r : Int × Int × Int} {d q : Rat} (hd : DirR r) (h : (r.1 ≤ 5400000 ∧ r.2.1 ≤ 5400000) ∨ (16200000 ≤ r.1 ∧ r.2.1 ≤ 27000000)) (_d0 : 0 ≤ d) (d1 : d ≤ 1) (q0 : -5400000 ≤ q) (q1 : q ≤ 5400000) (k : Dr d r.1 r.2.1 q) : Hs d (nbR r).1 (nbR r).2 q := by
  obtain ⟨e1, e2, e3, e4, e5⟩ := hd
  obtain ⟨m, k⟩ := k
  have z : ∀ n : Int, ((n : Int) : Rat) = (n : Rat) := fun _ => rfl
  unfold Hs at k
  rcases h with ⟨h1, h2⟩ | ⟨h1, h2⟩
  · have hm : m = 0 := by
      have a1 := le_c e1
      have a2 := le_c h2
      rw [show ((0 : Int) : Rat) = 0 by rfl] at a1
      rw [show ((5400000 : Int) : Rat) = 5400000 by rfl] at a2
      rcases Int.lt_trichotomy m 0 with q | q | q
      · have := lt_c q
        rw [show ((0 : Int) : Rat) = 0 by rfl] at this
        grind
      · exact q
      · have := lt_c q
        rw [show ((0 : Int) : Rat) = 0 by rfl] at this
        grind
    subst hm
    rw [show ((0 : Int) : Rat) = 0 by rfl] at k
    unfold nbR Hs
    rw [if_neg (by omega)]
    dsimp only
    constructor <;> grind
  · have hm : m = 1 := by
      have a1 := le_c h1
      have a2 := le_c h2
      rw [show ((16200000 : Int) : Rat) = 16200000 by rfl] at a1
      rw [show ((27000000 : Int) : Rat) = 27000000 by rfl] at a2
      rcases Int.lt_trichotomy m 1 with q | q | q
      · have := lt_c q
        rw [show ((1 : Int) : Rat) = 1 by rfl] at this
        grind
      · exact q
      · have := lt_c q
        rw [show ((1 : Int) : Rat) = 1 by rfl] at this
        grind
    subst hm
    rw [show ((1 : Int) : Rat) = 1 by rfl] at k
    unfold nbR Hs
    rw [if_pos (by omega)]
    dsimp only
    rw [Rat.intCast_sub, Rat.intCast_sub, show ((21600000 : Int) : Rat) = 21600000 by rfl]
    constructor <;> grind
noncomputable def alT (a b k l : Int) : Int × Int × Int :=
  if originB a b k l = true then ((asinR a b).1, (asinR a b).2.1, 0) else (mx (nbR (bearR a b k l)).1 (asinR a b).1, mn (nbR (bearR a b k l)).2 (asinR a b).2.1, 0)
theorem meet_val {p q r s : Int} (h1 : -100000000 ≤ p) (h2 : p ≤ q) (h3 : q ≤ 100000000) (h4 : -100000000 ≤ r) (h5 : r ≤ s) (h6 : s ≤ 100000000) (h7 : p ≤ s) (h8 : r ≤ q) : ameetR p q r s = (mx p r, mn q s, 0) := by
  unfold ameetR
  rw [if_pos ⟨avalid_mk (by omega) h2 (by omega), avalid_mk (by omega) h5 (by omega)⟩, if_neg]
  unfold mx mn
  split <;> split <;> omega
theorem alt_ok {a b c d e f : Int} (hv : validB a b = true) (hl : LatR (asinR a b)) (hk : 0 ≤ (hypM c d e f).1 ∧ (hypM c d e f).1 ≤ (hypM c d e f).2 ∧ (hypM c d e f).2 ≤ 1073741824)
    (hm : originB a b (hypM c d e f).1 (hypM c d e f).2 = false → (nbR (bearR a b (hypM c d e f).1 (hypM c d e f).2)).1 ≤ (asinR a b).2.1 ∧ (asinR a b).1 ≤ (nbR (bearR a b (hypM c d e f).1 (hypM c d e f).2)).2) :
    altM a b c d e f = alT a b (hypM c d e f).1 (hypM c d e f).2 := by
  have z : ((0 : Int) != 0) = false := rfl
  unfold altM
  simp only [lt]
  generalize hypM c d e f = k at *
  obtain ⟨k1, k2⟩ := k
  dsimp only at *
  have kv : validB k1 k2 = true := val_mk (by omega) (by omega) (by omega)
  have D := bea_dir hv kv
  rw [hl.2.2.2, z, cond_false]
  have key : originB a b k1 k2 = false → (cond ((bearR a b k1 k2).2.2 != 0) (0, 0, (bearR a b k1 k2).2.2) (cond (decide ((bearR a b k1 k2).1 ≥ 10800000))
      ((ameetR (IntKind.i64.wrap ((bearR a b k1 k2).1 - 21600000)) (IntKind.i64.wrap ((bearR a b k1 k2).2.1 - 21600000)) (asinR a b).1 (asinR a b).2.1).1, (ameetR (IntKind.i64.wrap ((bearR a b k1 k2).1 - 21600000)) (IntKind.i64.wrap ((bearR a b k1 k2).2.1 - 21600000)) (asinR a b).1 (asinR a b).2.1).2.1, (ameetR (IntKind.i64.wrap ((bearR a b k1 k2).1 - 21600000)) (IntKind.i64.wrap ((bearR a b k1 k2).2.1 - 21600000)) (asinR a b).1 (asinR a b).2.1).2.2)
      ((ameetR (bearR a b k1 k2).1 (bearR a b k1 k2).2.1 (asinR a b).1 (asinR a b).2.1).1, (ameetR (bearR a b k1 k2).1 (bearR a b k1 k2).2.1 (asinR a b).1 (asinR a b).2.1).2.1, (ameetR (bearR a b k1 k2).1 (bearR a b k1 k2).2.1 (asinR a b).1 (asinR a b).2.1).2.2))) = alT a b k1 k2 := fun ho => by
    have B := bear_right hv kv hk.1 ho
    have n := nb_bd D B
    have m := hm ho
    unfold alT
    rw [ho]
    obtain ⟨d1, d2, d3, d4, d5⟩ := D
    obtain ⟨l1, l2, l3, l4⟩ := hl
    unfold nbR at n m ⊢
    generalize bearR a b k1 k2 = r at *
    rw [d5, z, cond_false]
    simp only [Bool.false_eq_true, if_false]
    by_cases c : 10800000 ≤ r.1
    · rw [if_pos c] at n m ⊢
      dsimp only at n m ⊢
      rw [decide_eq_true (show r.1 ≥ 10800000 from c), cond_true, i64w (by omega), i64w (by omega), meet_val (by omega) (by omega) (by omega) (by omega) l2 (by omega) m.1 m.2]
    · rw [if_neg c] at n m ⊢
      dsimp only at n m ⊢
      rw [decide_eq_false (show ¬ r.1 ≥ 10800000 from c), cond_false, meet_val (by omega) (by omega) (by omega) (by omega) l2 (by omega) m.1 m.2]
  by_cases c1 : k1 = 0
  · subst c1
    rw [show ((0 : Int) == 0) = true from rfl, cond_true]
    by_cases c2 : a ≤ 0
    · rw [decide_eq_true c2, cond_true]
      by_cases c3 : b ≥ 0
      · rw [decide_eq_true c3, cond_true]
        have ho : originB a b 0 k2 = true := decide_eq_true (by omega)
        unfold alT
        rw [ho]
        rfl
      · rw [decide_eq_false c3, cond_false]
        exact key (decide_eq_false (by omega))
    · rw [decide_eq_false c2, cond_false]
      exact key (decide_eq_false (by omega))
  · rw [beq_eq_false_iff_ne.2 c1, cond_false]
    exact key (decide_eq_false (by omega))
def xE (c d e f : Int) : Int × Int × Int := mulR (cosR c d).1 (cosR c d).2.1 (cosR e f).1 (cosR e f).2.1
def wE (c d e f : Int) : Int × Int × Int := mulR (cosR c d).1 (cosR c d).2.1 (sinR e f).1 (sinR e f).2.1
def mupE (a b c d e f : Int) : Int × Int × Int :=
  let m := mulR (xE c d e f).1 (xE c d e f).2.1 (cosR a b).1 (cosR a b).2.1
  let n := mulR (sinR c d).1 (sinR c d).2.1 (sinR a b).1 (sinR a b).2.1
  addR m.1 m.2.1 n.1 n.2.1
def mnoE (a b c d e f : Int) : Int × Int × Int :=
  let m := mulR (sinR c d).1 (sinR c d).2.1 (cosR a b).1 (cosR a b).2.1
  let n := mulR (xE c d e f).1 (xE c d e f).2.1 (sinR a b).1 (sinR a b).2.1
  subR m.1 m.2.1 n.1 n.2.1
def meaE (c d e f : Int) : Int × Int × Int := negR (wE c d e f).1 (wE c d e f).2.1
noncomputable def hyE (a b c d e f : Int) : Int × Int := hypM (mnoE a b c d e f).1 (mnoE a b c d e f).2.1 (wE c d e f).1 (wE c d e f).2.1
noncomputable def maltE (a b c d e f : Int) : Int × Int × Int := alT (mupE a b c d e f).1 (mupE a b c d e f).2.1 (hyE a b c d e f).1 (hyE a b c d e f).2
def maziE (a b c d e f : Int) : Int × Int × Int := bearR (meaE c d e f).1 (meaE c d e f).2.1 (mnoE a b c d e f).1 (mnoE a b c d e f).2.1
theorem mup_v {a b c d e f : Int} {x y t : Rat} (h : triB a b c d e f = true) (hx : Hs 0 a b x) (hy : Hs 0 c d y) (ht : Hs 0 e f t) :
    Vl (mupE a b c d e f) (1000 * e1) (upT x y t) ∧ Vl (mnoE a b c d e f) (1000 * e1) (noT x y t) ∧ Vl (wE c d e f) (1000 * e1) (co y * si t) ∧ Vl (meaE c d e f) (1000 * e1) (eaT y t) := by
  obtain ⟨h1, h2, h3⟩ := tri_bd h
  have l1 := (lat_bd h1).1
  have l2 := (lat_bd h2).1
  obtain ⟨w1, w2, w3, w4, w5, w6, w7, w8, w9, w10, w11⟩ := lv
  have s1 := sin_one l1
  have c1 := cos_one l1
  have s2 := sin_one l2
  have c2 := cos_one l2
  have s3 := sin_one h3
  have c3 := cos_one h3
  have S1 := sin_at l1 hx
  have C1 := cos_at l1 hx
  have S2 := sin_at l2 hy
  have C2 := cos_at l2 hy
  have S3 := sin_at h3 ht
  have C3 := cos_at h3 ht
  have x1 := mul_v c2 c3 (by grind) (by grind) C2 C3
  have m1 := mul_v (mul_ones c2 c3) c1 (e := 3 * (5 * e1)) (by grind) (by grind) x1 (C1.wide (by grind))
  have m2 := mul_v s2 s1 (by grind) (by grind) S2 S1
  have m3 := mul_v s2 c1 (by grind) (by grind) S2 C1
  have m4 := mul_v (mul_ones c2 c3) s1 (e := 3 * (5 * e1)) (by grind) (by grind) x1 (S1.wide (by grind))
  have m5 := mul_v c2 s3 (by grind) (by grind) C2 S3
  refine ⟨?_, ?_, ?_, ?_⟩
  · rw [show upT x y t = co y * co t * co x + si y * si x by unfold upT; grind]
    exact (add_v (mul_ones (mul_ones c2 c3) c1) (mul_ones s2 s1) m1 m2).wide (by grind)
  · exact (sub_v (mul_ones s2 c1) (mul_ones (mul_ones c2 c3) s1) m3 m4).wide (by grind)
  · exact m5.wide (by grind)
  · exact (neg_v (mul_ones c2 s3) m5).wide (by grind)
def sM : Rat := pw 570
def tM : Rat := pw 1140
theorem lvM : 0 ≤ tM ∧ tM ≤ sM * sM ∧ 0 ≤ sM ∧ tM ≤ sM ∧ 68719476736 * (1000 * e1) ≤ tM / 2 ∧ 1073741824 * 1073741824 * (100 * e0) ≤ tM / 2 ∧ 1073741824 * e0 ≤ sM / 2 ∧ sM + 1073741824 * (100 * eT) ≤ 1 / 2 ^ 91 ∧ 2 ^ 64 * (sM + 1073741824 * (100 * eT) + 2 * e1) ≤ dS ∧ 1000 * e1 ≤ sM ∧ 1000 * e1 ≤ 1 ∧ 1073741824 * (2 * e0) ≤ sM / 2 ∧ 5 * e0 ≤ eT := by decide +kernel
theorem sq_aux {x1 x2 x3 x4 x5 x6 : Rat} (sp : Cl (e0 / 2) (x3 + (x1 + x2)) 1) (m : Cl (2 * (5 * e0) + 3 * (5 * e0)) x4 x3) (un : Cl (8192 * u0) (x5 + x4) 1) (rr : Cl (2 * e0) x6 x5) : Cl (50 * e0) (x1 + x2) x6 := by
  have ee : e0 = 1048576 * u0 := rfl
  have u := u0_bd.1
  unfold Cl at *
  generalize u0 = v at *
  generalize e0 = w at *
  constructor <;> grind
theorem bn_aux {N W r : Rat} (r0 : 0 ≤ r) (r1 : r ≤ 5 / 4) (sq : Cl (50 * e0) (N * N + W * W) (r * r)) : -4 ≤ N ∧ N ≤ 4 := by
  have eb := e0_bd
  have s2 := sq_nn W
  have rr2 : r * r ≤ 2 := by
    have := Rat.mul_nonneg (show 0 ≤ 5 / 4 - r by grind) (show 0 ≤ 5 / 4 + r by grind)
    grind
  have q : N / 2 * (N / 2) ≤ 2 := by
    unfold Cl at sq
    have k := sq.2
    have e : N / 2 * (N / 2) = N * N / 4 := by grind
    rw [e]
    generalize r * r = x6 at *
    generalize W * W = x2 at *
    generalize N * N = x1 at *
    grind
  have := two_bd q
  constructor <;> grind
theorem neg_aux {x : Rat} (h0 : -e0 ≤ x) (h1 : x ≤ 0) : Cl e0 0 x ∧ Cl (2 * e0) (0 * 0) (x * x) := by
  have eb := e0_bd
  have m := mul_abs (a := x) (b := x) (A := e0) (B := 1) (by grind) (by grind) (by grind) (by grind)
  unfold Cl
  refine ⟨⟨?_, ?_⟩, ?_, ?_⟩ <;> grind
theorem hy_v {a b c d e f : Int} {x y t h' z' : Rat} (h : triB a b c d e f = true) (hx : Hs 0 a b x) (hy : Hs 0 c d y) (ht : Hs 0 e f t) (s : Sees x y t h' z') :
    0 ≤ (hyE a b c d e f).1 ∧ (hyE a b c d e f).1 ≤ (hyE a b c d e f).2 ∧ (hyE a b c d e f).2 ≤ 1073741824 ∧ Hs (2 * sM) (hyE a b c d e f).1 (hyE a b c d e f).2 (1073741824 * co h') := by
  obtain ⟨w1, w2, w3, w4, w5, w6, w7, w8, w9, w10, w11, w12, w13⟩ := lvM
  have eb := e0_bd
  have e1b := e1_bd
  have ee : e0 = 1048576 * u0 := rfl
  have u := u0_bd
  obtain ⟨v1, v2, v3, v4⟩ := mup_v h hx hy ht
  obtain ⟨h0, h1, z0, z1, k1, k2, k3⟩ := s
  obtain ⟨g1, g2, g3⟩ := tri_bd h
  have W := mul_ones (cos_one (lat_bd g2).1) (sin_one g3)
  have wv : -1073741824 ≤ (wE c d e f).1 ∧ (wE c d e f).1 ≤ (wE c d e f).2.1 ∧ (wE c d e f).2.1 ≤ 1073741824 := ⟨W.1, W.2.1, W.2.2.1⟩
  have nv := val_bd v2.2.1
  have bd := hyp_bd nv.1 nv.2.1 nv.2.2 wv.1 wv.2.1 wv.2.2
  refine ⟨bd.1, bd.2.1, bd.2.2, ?_⟩
  have cl := co_lat h0 h1
  have bh := bdq h'
  obtain ⟨r, r0, r1, rc, rr⟩ : ∃ r : Rat, 0 ≤ r ∧ r ≤ 1 + 8192 * u0 ∧ Cl e0 r (co h') ∧ Cl (2 * e0) (r * r) (co h' * co h') := by
    rcases (Rat.le_total : 0 ≤ co h' ∨ co h' ≤ 0) with c | c
    · exact ⟨co h', c, by grind, Cl.refl _ (by grind), Cl.refl _ (by grind)⟩
    · exact ⟨0, by grind, by grind, (neg_aux cl.1 c).1, (neg_aux cl.1 c).2⟩
  have sp := sphere x y t
  have un := unit h'
  have b2 := bdq2 h'
  have m := Cl.mul 2 3 k1 k1 b2.2 (by unfold Cl at k1; constructor <;> grind)
  have sq : Cl (50 * e0) (noT x y t * noT x y t + co y * si t * (co y * si t)) (r * r) := by
    have e : eaT y t * eaT y t = co y * si t * (co y * si t) := by unfold eaT; grind
    rw [e] at sp
    exact sq_aux sp m un rr
  have bn := bn_aux r0 (by grind) sq
  have bw : -4 ≤ co y * si t ∧ co y * si t ≤ 4 := by
    have by2 := bdq2 y
    have bt2 := bdq2 t
    have := mul_abs by2.1.1 by2.1.2 bt2.2.1 bt2.2.2
    constructor <;> grind
  have k := hyp_hold (X := 1073741824 * noT x y t) (Y := 1073741824 * (co y * si t)) (ρ := 1073741824 * r) (e := 1000 * e1) (τ := tM) (σ := sM) nv.1 nv.2.1 nv.2.2 wv.1 wv.2.1 wv.2.2 (by grind) w11 (by constructor <;> grind) (by constructor <;> grind) v2.2.2 v3.2.2 (by grind) (by grind) ?_ w5 w1 w2 w3 w4
  · have n := k.near (f := sM) (Y := 1073741824 * co h') (by
      unfold Cl at rc ⊢
      constructor <;> grind)
    exact n.wide (by grind) (Int.le_refl _) (Int.le_refl _)
  · unfold Cl at sq ⊢
    rw [show 1073741824 * noT x y t * (1073741824 * noT x y t) = 1073741824 * 1073741824 * (noT x y t * noT x y t) by grind, show 1073741824 * (co y * si t) * (1073741824 * (co y * si t)) = 1073741824 * 1073741824 * (co y * si t * (co y * si t)) by grind, show 1073741824 * r * (1073741824 * r) = 1073741824 * 1073741824 * (r * r) by grind]
    clear bn bw m sp un
    generalize noT x y t * noT x y t = x1 at *
    generalize co y * si t * (co y * si t) = x2 at *
    generalize r * r = x3 at *
    constructor <;> grind
theorem lvN : 2 * sM + 1073741824 * eT ≤ 1 / 2 ^ 91 ∧ 2 ^ 64 * (2 * sM + 1073741824 * eT + 2 * e1) ≤ dS ∧ dS ≤ 1 := by decide +kernel
theorem malt_v {a b c d e f : Int} {x y t h' z' : Rat} (h : triB a b c d e f = true) (hx : Hs 0 a b x) (hy : Hs 0 c d y) (ht : Hs 0 e f t) (s : Sees x y t h' z') :
    LatR (asinR (mupE a b c d e f).1 (mupE a b c d e f).2.1) ∧ Hs dS (asinR (mupE a b c d e f).1 (mupE a b c d e f).2.1).1 (asinR (mupE a b c d e f).1 (mupE a b c d e f).2.1).2.1 h' ∧
      (originB (mupE a b c d e f).1 (mupE a b c d e f).2.1 (hyE a b c d e f).1 (hyE a b c d e f).2 = false → Hs dS (nbR (bearR (mupE a b c d e f).1 (mupE a b c d e f).2.1 (hyE a b c d e f).1 (hyE a b c d e f).2)).1 (nbR (bearR (mupE a b c d e f).1 (mupE a b c d e f).2.1 (hyE a b c d e f).1 (hyE a b c d e f).2)).2 h' ∧
        -5400000 ≤ (nbR (bearR (mupE a b c d e f).1 (mupE a b c d e f).2.1 (hyE a b c d e f).1 (hyE a b c d e f).2)).1 ∧ (nbR (bearR (mupE a b c d e f).1 (mupE a b c d e f).2.1 (hyE a b c d e f).1 (hyE a b c d e f).2)).1 ≤ (nbR (bearR (mupE a b c d e f).1 (mupE a b c d e f).2.1 (hyE a b c d e f).1 (hyE a b c d e f).2)).2 ∧ (nbR (bearR (mupE a b c d e f).1 (mupE a b c d e f).2.1 (hyE a b c d e f).1 (hyE a b c d e f).2)).2 ≤ 5400000) := by
  obtain ⟨w1, w2, w3, w4, w5, w6, w7, w8, w9, w10, w11, w12, w13⟩ := lvM
  have eb := e0_bd
  have e1b := e1_bd
  obtain ⟨v1, v2, v3, v4⟩ := mup_v h hx hy ht
  have u := up_v v1 s
  obtain ⟨k0, k1, k2, kh⟩ := hy_v h hx hy ht s
  refine ⟨u.1, u.2, fun ho => ?_⟩
  obtain ⟨h0, h1, z0, z1, q1, q2, q3⟩ := s
  generalize mupE a b c d e f = U at *
  generalize hyE a b c d e f = K at *
  have kv : validB K.1 K.2 = true := val_mk (by omega) k1 (by omega)
  have vk : Vl (K.1, K.2, (0 : Int)) (2 * sM) (co h') := ⟨rfl, kv, kh⟩
  have B := bear_right v1.2.1 kv k0 ho
  have dd := lv.2.2.1
  have t0 := lv.2.1
  have b := bear_v (r := U) (s := (K.1, K.2, (0 : Int))) (q := h') (ρ := 1) (e := 2 * sM) (t := eT) (v1.wide (by grind)) vk (by rw [show 1 * si h' = si h' by grind]; exact q1.wide w13) (by rw [show 1 * co h' = co h' by grind]; exact Cl.refl _ (by grind)) (by grind) (by grind) (by grind) (by grind) lvN.1
  have n := nb_bd b.1 B
  have hh := nb_hold b.1 B (by grind) lvN.2.2 h0 h1 (b.2.wide lvN.2.1)
  exact ⟨hh, n⟩
theorem mx_mn (p q r s : Int) : p ≤ mx p q ∧ q ≤ mx p q ∧ (mx p q = p ∨ mx p q = q) ∧ mn r s ≤ r ∧ mn r s ≤ s ∧ (mn r s = r ∨ mn r s = s) := by
  unfold mx mn
  split <;> split <;> omega
theorem matrix_ok {a b c d e f : Int} (h : triB a b c d e f = true) : msolM a b c d e f = ((maltE a b c d e f).1, (maltE a b c d e f).2.1, (maziE a b c d e f).1, (maziE a b c d e f).2.1, 0) ∧ Hold a b c d e f (maltE a b c d e f) (maziE a b c d e f) := by
  obtain ⟨h1, h2, h3⟩ := tri_bd h
  have l1 := lat_bd h1
  have l2 := lat_bd h2
  have l3 := aval_bd h3
  have ds : dS + dS < 1 := by decide +kernel
  have x0 := Hs.at (Int.le_refl a) (show a ≤ b by omega)
  have y0 := Hs.at (Int.le_refl c) (show c ≤ d by omega)
  have t0 := Hs.at (Int.le_refl e) (show e ≤ f by omega)
  obtain ⟨h', z', s'⟩ := sees a c e
  obtain ⟨v1, v2, v3, v4⟩ := mup_v h x0 y0 t0
  obtain ⟨L, hu, hn⟩ := malt_v h x0 y0 t0 s'
  have K := hy_v h x0 y0 t0 s'
  have D := (az_v v4 v2 s').1
  have ak : altM (mupE a b c d e f).1 (mupE a b c d e f).2.1 (mnoE a b c d e f).1 (mnoE a b c d e f).2.1 (wE c d e f).1 (wE c d e f).2.1 = maltE a b c d e f :=
    alt_ok v1.2.1 L ⟨K.1, K.2.1, K.2.2.1⟩ (fun ho => (hn ho).1.meet hu ds)
  have LH : LatR (maltE a b c d e f) := by
    unfold maltE alT
    split
    · exact ⟨L.1, L.2.1, L.2.2.1, rfl⟩
    · rename_i ho
      have ho : originB (mupE a b c d e f).1 (mupE a b c d e f).2.1 (hyE a b c d e f).1 (hyE a b c d e f).2 = false := by simpa using ho
      obtain ⟨n1, n2, n3, n4⟩ := hn ho
      have m := n1.meet hu ds
      obtain ⟨q1, q2, q3, q4⟩ := L
      unfold LatR
      dsimp only
      have x := mx_mn (nbR (bearR (mupE a b c d e f).1 (mupE a b c d e f).2.1 (hyE a b c d e f).1 (hyE a b c d e f).2)).1 (asinR (mupE a b c d e f).1 (mupE a b c d e f).2.1).1 (nbR (bearR (mupE a b c d e f).1 (mupE a b c d e f).2.1 (hyE a b c d e f).1 (hyE a b c d e f).2)).2 (asinR (mupE a b c d e f).1 (mupE a b c d e f).2.1).2.1
      refine ⟨by omega, by omega, by omega, rfl⟩
  refine ⟨?_, LH, D, bear_form v4.2.1 v2.2.1, ?_, ?_⟩
  · have z : ((0 : Int) != 0) = false := rfl
    unfold msolM
    rw [h]
    simp only [lt, xsinV, xsinC, xcosV, xcosC, xmulV, xmulC, xaddV, xaddC, xsubV, xsubC, xnegV, xnegC, Bool.not_true, cond_false]
    have s1 := sin_one l1.1
    have c1 := cos_one l1.1
    have s2 := sin_one l2.1
    have c2 := cos_one l2.1
    have s3 := sin_one h3
    have c3 := cos_one h3
    rw [← ak]
    have ez : maziE a b c d e f = bearR (meaE c d e f).1 (meaE c d e f).2.1 (mnoE a b c d e f).1 (mnoE a b c d e f).2.1 := rfl
    rw [ez]
    have LH2 := LH.2.2.2
    rw [← ak] at LH2
    have D2 := D.2.2.2.2
    clear hn hu K L LH D v1 v2 v3 v4 s' x0 y0 t0 ez ak
    have exE : mulR (cosR c d).1 (cosR c d).2.1 (cosR e f).1 (cosR e f).2.1 = xE c d e f := rfl
    have ewE : mulR (cosR c d).1 (cosR c d).2.1 (sinR e f).1 (sinR e f).2.1 = wE c d e f := rfl
    have xo : OneR (xE c d e f) := mul_ones c2 c3
    have wo : OneR (wE c d e f) := mul_ones c2 s3
    rw [exE, ewE]
    have m1 := mul_ones xo c1
    have m2 := mul_ones s2 s1
    have m3 := mul_ones s2 c1
    have m4 := mul_ones xo s1
    have a1 := add_ones m1 m2
    have a2 := sub_ones m3 m4
    have a3 := neg_one wo
    have eu : addR (mulR (xE c d e f).1 (xE c d e f).2.1 (cosR a b).1 (cosR a b).2.1).1 (mulR (xE c d e f).1 (xE c d e f).2.1 (cosR a b).1 (cosR a b).2.1).2.1 (mulR (sinR c d).1 (sinR c d).2.1 (sinR a b).1 (sinR a b).2.1).1 (mulR (sinR c d).1 (sinR c d).2.1 (sinR a b).1 (sinR a b).2.1).2.1 = mupE a b c d e f := rfl
    have en : subR (mulR (sinR c d).1 (sinR c d).2.1 (cosR a b).1 (cosR a b).2.1).1 (mulR (sinR c d).1 (sinR c d).2.1 (cosR a b).1 (cosR a b).2.1).2.1 (mulR (xE c d e f).1 (xE c d e f).2.1 (sinR a b).1 (sinR a b).2.1).1 (mulR (xE c d e f).1 (xE c d e f).2.1 (sinR a b).1 (sinR a b).2.1).2.1 = mnoE a b c d e f := rfl
    have eg : negR (wE c d e f).1 (wE c d e f).2.1 = meaE c d e f := rfl
    rw [eu, en, eg]
    have u0' : (mupE a b c d e f).2.2 = 0 := by rw [← eu, a1.1]
    have n0' : (mnoE a b c d e f).2.2 = 0 := by rw [← en, a2.1]
    have g0' : (meaE c d e f).2.2 = 0 := by rw [← eg, a3.1]
    rw [s1.2.2.2, c1.2.2.2, s2.2.2.2, c2.2.2.2, s3.2.2.2, c3.2.2.2, xo.2.2.2, wo.2.2.2, m1.2.2.2, m2.2.2.2, m3.2.2.2, m4.2.2.2, u0', n0', g0']
    simp only [keep0, z, cond_false]
    rw [LH2, D2, z]
    rfl
  · intro x y t hx hy ht h'' z'' s''
    obtain ⟨L', hu', hn'⟩ := malt_v h hx hy ht s''
    unfold maltE alT
    split
    · exact hu'
    · rename_i ho
      have ho : originB (mupE a b c d e f).1 (mupE a b c d e f).2.1 (hyE a b c d e f).1 (hyE a b c d e f).2 = false := by simpa using ho
      obtain ⟨n1, n2, n3, n4⟩ := hn' ho
      dsimp only
      have x := mx_mn (nbR (bearR (mupE a b c d e f).1 (mupE a b c d e f).2.1 (hyE a b c d e f).1 (hyE a b c d e f).2)).1 (asinR (mupE a b c d e f).1 (mupE a b c d e f).2.1).1 (nbR (bearR (mupE a b c d e f).1 (mupE a b c d e f).2.1 (hyE a b c d e f).1 (hyE a b c d e f).2)).2 (asinR (mupE a b c d e f).1 (mupE a b c d e f).2.1).2.1
      unfold Hs at *
      constructor
      · rcases x.2.2.1 with q | q <;> rw [q]
        · exact n1.1
        · exact hu'.1
      · rcases x.2.2.2.2.2 with q | q <;> rw [q]
        · exact n1.2
        · exact hu'.2
  · intro x y t hx hy ht h'' z'' s''
    obtain ⟨v1', v2', v3', v4'⟩ := mup_v h hx hy ht
    exact (az_v v4' v2' s'').2
end Go.Proofs.YtmididlfnajhiaaGreatDoor

/-
  The reference's forms of circles; awake.
-/
import Derived.Test.YtfilgpifiboccaaGreatR2
import Derived.Test.YtfilgpifiboccaaGreatCl
namespace Go.Proofs.YtfilgpifiboccaaGreat
open Ev

open SM TB TA
open Ev (lt keepE)
theorem asin_at {x y p q : Int} (h1 : -1073741824 ≤ x) (h2 : x ≤ y) (h3 : y ≤ 1073741824) (hp : IsAsin x p) (hq : IsAsin (-y) q) : asinR x y = (p, -q, 0) := by
  have e1 : asn x = p := asn_eq h1 hp
  have e2 : asn (-y) = q := asn_eq (by omega) hq
  unfold asinR
  rw [val_mk (a := x) (b := y) (by omega) h2 (by omega)]
  simp only [Bool.true_eq_false, if_false]
  have m1 : max x (-1073741824) = x := by omega
  have m2 : min y 1073741824 = y := by omega
  rw [m1, m2, if_pos h2, e1, e2]
theorem rlon_ok {a b : Int} (h1 : -1000000000 ≤ a) (h2 : a ≤ b) (h3 : b ≤ 1000000000) : rlonM a b = (lonL a b, lonH a b) := by
  have t := tmod_emod a
  have m0 := Int.emod_nonneg a (show (21600000 : Int) ≠ 0 by omega)
  have m1 := Int.emod_lt_of_pos a (show (0 : Int) < 21600000 by omega)
  unfold rlonM rlonMK lonL lonH sgnd
  rw [i64w (x := b - a) (by omega)]
  generalize a % 21600000 = r at *
  generalize a.tmod 21600000 = s at *
  by_cases c : b - a ≥ 21600000
  · rw [decide_eq_true c, cond_true, if_pos c, if_pos c]
  · rw [decide_eq_false c, cond_false, if_neg (show ¬ 21600000 ≤ b - a by omega), if_neg (show ¬ 21600000 ≤ b - a by omega)]
    by_cases g : s < 0
    · rw [if_pos g] at t
      rw [decide_eq_true g, cond_true, i64w (x := s + 21600000) (by omega), ← t]
      by_cases k : r ≥ 10800000
      · rw [decide_eq_true k, cond_true, if_pos (show 10800000 ≤ r from k), i64w (x := r - 21600000) (by omega), i64w (x := r - 21600000 + b) (by omega), i64w (by omega), show r - 21600000 + b - a = r - 21600000 + (b - a) by omega]
      · rw [decide_eq_false k, cond_false, if_neg (show ¬ 10800000 ≤ r by omega), i64w (x := r + b) (by omega), i64w (by omega), show r + b - a = r + (b - a) by omega]
    · rw [if_neg g] at t
      subst t
      rw [decide_eq_false g, cond_false]
      by_cases k : r ≥ 10800000
      · rw [decide_eq_true k, cond_true, if_pos (show 10800000 ≤ r from k), i64w (x := r - 21600000) (by omega), i64w (x := r - 21600000 + b) (by omega), i64w (by omega), show r - 21600000 + b - a = r - 21600000 + (b - a) by omega]
      · rw [decide_eq_false k, cond_false, if_neg (show ¬ 10800000 ≤ r by omega), i64w (x := r + b) (by omega), i64w (by omega), show r + b - a = r + (b - a) by omega]
theorem rlonv {c d : Int} {x y : Bool} (h : cond ((c == (-10800000)) && ((d == 10800000) && true)) x (cond (decide (c ≥ (-10800000))) (cond (decide (c < 10800000)) (cond (decide (c ≤ d)) (cond (decide (d < IntKind.i64.wrap (c + 21600000))) x false) false) false) false) = true) (_hy : y = y) : LonP c d ∧ x = true := by
  cases g : ((c == (-10800000)) && ((d == 10800000) && true)) with
  | true =>
    rw [g, cond_true] at h
    simp only [Bool.and_true, Bool.and_eq_true, beq_iff_eq] at g
    exact ⟨.inl g, h⟩
  | false =>
    rw [g, cond_false] at h
    by_cases g1 : c ≥ -10800000
    · by_cases g2 : c < 10800000
      · by_cases g3 : c ≤ d
        · rw [decide_eq_true g1, decide_eq_true g2, decide_eq_true g3, cond_true, cond_true, cond_true, i64w (x := c + 21600000) (by omega)] at h
          by_cases g4 : d < c + 21600000
          · rw [decide_eq_true g4, cond_true] at h
            exact ⟨.inr ⟨g1, g2, g3, by omega⟩, h⟩
          · rw [decide_eq_false g4] at h; cases h
        · rw [decide_eq_true g1, decide_eq_true g2, decide_eq_false g3] at h; cases h
      · rw [decide_eq_true g1, decide_eq_false g2] at h; cases h
    · rw [decide_eq_false g1] at h; cases h
theorem rcv_bd {a b c d e f : Int} (h : rcvM a b c d e f = true) : latB a b = true ∧ LonP c d ∧ 0 ≤ e ∧ e ≤ f ∧ f ≤ 10800000 := by
  unfold rcvM at h
  by_cases g1 : a ≥ -5400000
  · by_cases g2 : a ≤ b
    · by_cases g3 : b ≤ 5400000
      · rw [decide_eq_true g1, decide_eq_true g2, decide_eq_true g3, cond_true, cond_true, cond_true] at h
        have k : cond ((c == (-10800000)) && ((d == 10800000) && true)) (decide (0 ≤ e ∧ e ≤ f ∧ f ≤ 10800000)) (cond (decide (c ≥ (-10800000))) (cond (decide (c < 10800000)) (cond (decide (c ≤ d)) (cond (decide (d < IntKind.i64.wrap (c + 21600000))) (decide (0 ≤ e ∧ e ≤ f ∧ f ≤ 10800000)) false) false) false) false) = true := by
          have q : cond (decide (e ≥ 0)) (cond (decide (e ≤ f)) (decide (f ≤ 10800000)) false) false = decide (0 ≤ e ∧ e ≤ f ∧ f ≤ 10800000) := by
            by_cases k1 : e ≥ 0
            · by_cases k2 : e ≤ f
              · by_cases k3 : f ≤ 10800000
                · rw [decide_eq_true k1, decide_eq_true k2, decide_eq_true k3, decide_eq_true (show 0 ≤ e ∧ e ≤ f ∧ f ≤ 10800000 by omega)]; rfl
                · rw [decide_eq_true k1, decide_eq_true k2, decide_eq_false k3, decide_eq_false (show ¬ (0 ≤ e ∧ e ≤ f ∧ f ≤ 10800000) by omega)]; rfl
              · rw [decide_eq_true k1, decide_eq_false k2, decide_eq_false (show ¬ (0 ≤ e ∧ e ≤ f ∧ f ≤ 10800000) by omega)]; rfl
            · rw [decide_eq_false k1, decide_eq_false (show ¬ (0 ≤ e ∧ e ≤ f ∧ f ≤ 10800000) by omega)]; rfl
          rw [← q]
          exact h
        obtain ⟨p, q⟩ := rlonv k (y := true) rfl
        have q' := of_decide_eq_true q
        exact ⟨lat_mk g1 g2 g3, p, q'⟩
      · rw [decide_eq_true g1, decide_eq_true g2, decide_eq_false g3] at h; cases h
    · rw [decide_eq_true g1, decide_eq_false g2] at h; cases h
  · rw [decide_eq_false g1] at h; cases h
theorem rvp_bd {a b : Int} (h : rvpM a b = true) : -5400000 ≤ a ∧ a ≤ 5400000 ∧ -10800000 ≤ b ∧ b < 10800000 := by
  unfold rvpM at h
  by_cases g1 : a ≥ -5400000
  · by_cases g2 : a ≤ 5400000
    · by_cases g3 : b ≥ -10800000
      · rw [decide_eq_true g1, decide_eq_true g2, decide_eq_true g3] at h
        exact ⟨g1, g2, g3, of_decide_eq_true h⟩
      · rw [decide_eq_true g1, decide_eq_true g2, decide_eq_false g3] at h; cases h
    · rw [decide_eq_true g1, decide_eq_false g2] at h; cases h
  · rw [decide_eq_false g1] at h; cases h
theorem zeroLon : LonP 0 0 := .inr (by omega)
end Go.Proofs.YtfilgpifiboccaaGreat

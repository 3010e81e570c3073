/-
  Circles of position: sines of arcs a turn away, sides of parts, altitudes beside the circle. No program here.
-/
import Derived.Test.YtkjnheahaimpoaaGreatHc
namespace Go.Proofs.YtkjnheahaimpoaaGreat
open SM TB TA
open Ev (lt keepE)
/-! ### Whole turns -/
theorem lob_per (n k : Int) : lob (n + 21600000 * k) = lob n ∧ hib (n + 21600000 * k) = hib n := by
  have e : (n + 21600000 * k) % 21600000 = n % 21600000 := by omega
  unfold lob hib red south
  rw [e]
  exact ⟨rfl, rfl⟩
theorem enc_per (a b k : Int) : encL (a + 21600000 * k) (b + 21600000 * k) = encL a b ∧ encH (a + 21600000 * k) (b + 21600000 * k) = encH a b := by
  unfold encL encH meetB
  rw [(lob_per a k).1, (lob_per b k).1, (lob_per a k).2, (lob_per b k).2, show (16200000 - (a + 21600000 * k)) % 21600000 = (16200000 - a) % 21600000 by omega, show (5400000 - (a + 21600000 * k)) % 21600000 = (5400000 - a) % 21600000 by omega, show b + 21600000 * k - (a + 21600000 * k) = b - a by omega]
  exact ⟨rfl, rfl⟩
theorem cos_val {a b : Int} (h : avalidB a b = true) : cosR a b = (encL (a + 5400000) (b + 5400000), encH (a + 5400000) (b + 5400000), 0) := by simp [cosR, h]
theorem cos_per {a b a' b' : Int} (k : Int) (h : avalidB a b = true) (h' : avalidB a' b' = true) (ha : a' = a + 21600000 * k) (hb : b' = b + 21600000 * k) : cosR a' b' = cosR a b := by
  subst ha hb
  rw [cos_val h, cos_val h', show a + 21600000 * k + 5400000 = a + 5400000 + 21600000 * k by omega, show b + 21600000 * k + 5400000 = b + 5400000 + 21600000 * k by omega, (enc_per _ _ k).1, (enc_per _ _ k).2]
theorem cos_full {a b : Int} (h : avalidB a b = true) (hw : 21600000 ≤ b - a) : cosR a b = (-1073741824, 1073741824, 0) := by
  have m : ∀ n : Int, meetB (a + 5400000) (b + 5400000) n = true := fun n => decide_eq_true (by
    have := Int.emod_lt_of_pos (n - (a + 5400000)) (show (0 : Int) < 21600000 by omega)
    omega)
  rw [cos_val h]
  unfold encL encH
  rw [m, m]
  rfl
/-! ### Longitudes -/
def sgnd (n : Int) : Int := if 10800000 ≤ n % 21600000 then n % 21600000 - 21600000 else n % 21600000
def lonL (a b : Int) : Int := if 21600000 ≤ b - a then -10800000 else sgnd a
def lonH (a b : Int) : Int := if 21600000 ≤ b - a then 10800000 else sgnd a + (b - a)
theorem sgnd_bd (n : Int) : -10800000 ≤ sgnd n ∧ sgnd n < 10800000 ∧ ∃ k : Int, sgnd n = n + 21600000 * k := by
  have m0 := Int.emod_nonneg n (show (21600000 : Int) ≠ 0 by omega)
  have m1 := Int.emod_lt_of_pos n (show (0 : Int) < 21600000 by omega)
  unfold sgnd
  split
  · exact ⟨by omega, by omega, -(n / 21600000) - 1, by omega⟩
  · exact ⟨by omega, by omega, -(n / 21600000), by omega⟩
theorem lon_rep {a b : Int} (h : b - a < 21600000) : ∃ k : Int, lonL a b = a + 21600000 * k ∧ lonH a b = b + 21600000 * k := by
  obtain ⟨_, _, k, e⟩ := sgnd_bd a
  refine ⟨k, ?_, ?_⟩
  · unfold lonL
    rw [if_neg (by omega), e]
  · unfold lonH
    rw [if_neg (by omega), e]
    omega
theorem lon_bd {a b : Int} (h : a ≤ b) : -10800000 ≤ lonL a b ∧ lonL a b ≤ lonH a b ∧ ((lonL a b = -10800000 ∧ lonH a b = 10800000) ∨ (lonL a b < 10800000 ∧ lonH a b - lonL a b < 21600000)) := by
  have s := sgnd_bd a
  unfold lonL lonH
  split
  · exact ⟨by omega, by omega, .inl ⟨rfl, rfl⟩⟩
  · exact ⟨s.1, by omega, .inr ⟨by omega, by omega⟩⟩
/-! ### Sides -/
/-- On which side: by the cosine of the distance, and that of the radius. -/
def sidS (s r : Int × Int × Int) : Int := if r.2.1 < s.1 then 1 else if s.2.1 < r.1 then -1 else 0
theorem side_part {s r s' r' : Int × Int × Int} (hs : Within s' s) (hr : Within r' r) (h : sidS s r ≠ 0) : sidS s' r' = sidS s r := by
  obtain ⟨_, _, a1, a2, a3⟩ := hs
  obtain ⟨_, _, b1, b2, b3⟩ := hr
  unfold sidS at h ⊢
  by_cases c1 : r.2.1 < s.1
  · rw [if_pos c1, if_pos (by omega)]
  · rw [if_neg c1] at h ⊢
    by_cases c2 : s.2.1 < r.1
    · rw [if_pos c2, if_neg (by omega), if_pos (by omega)]
    · rw [if_neg c2] at h
      exact absurd rfl h
theorem cup_grow {a b c d e f a' b' c' d' e' f' : Int} (h1 : latB a b = true) (h2 : latB c d = true) (h3 : avalidB e f = true) (ia : a ≤ a' ∧ a' ≤ b' ∧ b' ≤ b) (ic : c ≤ c' ∧ c' ≤ d' ∧ d' ≤ d) (hw : Within (cosR e' f') (cosR e f)) :
    Within (cupE a' b' c' d' e' f') (cupE a b c d e f) := by
  have l1 := (lat_bd h1).1
  have l2 := (lat_bd h2).1
  have s1 := sin_grow l1 ia.1 ia.2.1 ia.2.2
  have c1 := cos_grow l1 ia.1 ia.2.1 ia.2.2
  have s2 := sin_grow l2 ic.1 ic.2.1 ic.2.2
  have c2 := cos_grow l2 ic.1 ic.2.1 ic.2.2
  obtain ⟨_, _, p1, p2, p3⟩ := s1
  obtain ⟨_, _, q1, q2, q3⟩ := c1
  obtain ⟨_, _, r1, r2, r3⟩ := s2
  obtain ⟨_, _, t1, t2, t3⟩ := c2
  obtain ⟨_, _, w1, w2, w3⟩ := hw
  have m := mul_grow (mul_ones (sin_one l1) (sin_one l2)).2.2.2 p1 p2 p3 r1 r2 r3
  have k := mul_grow (mul_ones (cos_one l1) (cos_one l2)).2.2.2 q1 q2 q3 t1 t2 t3
  have n := mul_grow (mul_ones (mul_ones (cos_one l1) (cos_one l2)) (cos_one h3)).2.2.2 k.2.2.1 k.2.2.2.1 k.2.2.2.2 w1 w2 w3
  have ad := add_ones (mul_ones (sin_one l1) (sin_one l2)) (mul_ones (mul_ones (cos_one l1) (cos_one l2)) (cos_one h3))
  exact add_grow (by rw [ad.1]) m.2.2.1 m.2.2.2.1 m.2.2.2.2 n.2.2.1 n.2.2.2.1 n.2.2.2.2
/-- The cosine of a part of an arc, some turns away. -/
theorem cos_part {e f e' f' : Int} (k : Int) (h : avalidB e f = true) (h' : avalidB e' f' = true) (hw : 21600000 ≤ f - e ∨ (e + 21600000 * k ≤ e' ∧ e' ≤ f' ∧ f' ≤ f + 21600000 * k)) : Within (cosR e' f') (cosR e f) := by
  have o := cos_one h'
  rcases hw with hw | ⟨i1, i2, i3⟩
  · rw [cos_full h hw]
    exact ⟨o.2.2.2, rfl, o.1, o.2.1, o.2.2.1⟩
  · have b := aval_bd h
    have b' := aval_bd h'
    have v : avalidB (e' - 21600000 * k) (f' - 21600000 * k) = true := avalid_mk (by omega) (by omega) (by omega)
    rw [cos_per k v h' (by omega) (by omega)]
    exact cos_grow h (by omega) (by omega) (by omega)
/-! ### Altitudes -/
theorem lvC : 0 < pw 275 ∧ pw 275 ≤ 1 / 2 ^ 100 ∧ 1073741824 * (4 * e0) ≤ 1 / 4 ∧ 100000 * (0 + 1073741824 * (4 * e0) + 4 * e1) ≤ pw 275 * pw 275 ∧ e0 ≤ 1 / 2 ^ 100 ∧ e1 ≤ 1 / 2 ^ 100 := by decide +kernel
theorem asin_rg {s : Int × Int × Int} (hv : validB s.1 s.2.1 = true) (ok : (asinR s.1 s.2.1).2.2 = 0) : s.1 ≤ 1073741824 ∧ -1073741824 ≤ s.2.1 := by
  unfold asinR at ok
  rw [hv] at ok
  simp only [Bool.true_eq_false, if_false] at ok
  by_cases c : s.1 ≤ 1073741824 ∧ -1073741824 ≤ s.2.1
  · exact c
  · exfalso
    rw [if_neg (by omega)] at ok
    cases ok
/-- The sine of an end that is told by an angle. -/
theorem asin_pt {s : Int × Int × Int} {n : Int} (hv : validB s.1 s.2.1 = true) (n0 : s.1 ≤ n) (n1 : n ≤ s.2.1) (n2 : -1073741824 ≤ n) (n3 : n ≤ 1073741824) :
    ∃ q : Rat, -5400000 ≤ q ∧ q ≤ 5400000 ∧ Cl (8 * e0 * 1073741824) (1073741824 * si q) (n : Rat) ∧ Hs (pw 275) (asinR s.1 s.2.1).1 (asinR s.1 s.2.1).2.1 q := by
  obtain ⟨w1, w2, w3, w4, w5, w6⟩ := lvC
  have eb := e0_bd
  have b0 := le_c n2
  have b1 := le_c n3
  have c0 := le_c n0
  have c1 := le_c n1
  rw [show ((-1073741824 : Int) : Rat) = -1073741824 by rfl] at b0
  rw [show ((1073741824 : Int) : Rat) = 1073741824 by rfl] at b1
  obtain ⟨q, q0, q1, qs⟩ := inv (y := (n : Rat) / 1073741824) (by grind) (by grind)
  have v : Vl (s.1, s.2.1, 0) 0 ((n : Rat) / 1073741824) := ⟨rfl, hv, by unfold Hs; dsimp only; constructor <;> grind⟩
  have k := asin_v (r := (s.1, s.2.1, 0)) v qs q0 q1 (by grind) (by grind) (by grind) (by grind) w4
  refine ⟨q, q0, q1, ?_, k.2⟩
  unfold Cl at *
  constructor <;> grind
theorem si_step {p q d : Rat} (q0 : -5400000 ≤ q) (p1 : p ≤ 5400000) (h : q ≤ p + d) (d0 : 0 ≤ d) (d1 : d ≤ 1) : si q ≤ si p + d + 10 * e0 := by
  have eb := e0_bd
  rcases (Rat.le_total : q ≤ p ∨ p ≤ q) with c | c
  · have g := grow q0 c p1
    have s := sq_nn (p - q)
    grind
  · have l := (lip c (by grind)).1
    unfold Cl at l
    grind
theorem alt_up {s : Int × Int × Int} {o p : Int} (hv : validB s.1 s.2.1 = true) (ok : (asinR s.1 s.2.1).2.2 = 0) (o0 : -5400000 ≤ o) (op : o ≤ p) (p1 : p ≤ 5400000) (h : (cosR (5400000 - p) (5400000 - o)).2.1 < s.1) : p < (asinR s.1 s.2.1).2.1 := by
  obtain ⟨w1, w2, w3, w4, w5, w6⟩ := lvC
  have eb := e0_bd
  have ub := u0_bd
  have ee : e0 = 1048576 * u0 := rfl
  have va : avalidB (5400000 - p) (5400000 - o) = true := avalid_mk (by omega) (by omega) (by omega)
  have oc := cos_one va
  have v := val_bd hv
  have ak := asin_rg hv ok
  rcases Int.lt_or_le p (asinR s.1 s.2.1).2.1 with g | g
  · exact g
  exfalso
  obtain ⟨n, hn, n0, n1, n2, n3⟩ : ∃ n : Int, (cosR (5400000 - p) (5400000 - o)).2.1 + 1 ≤ n ∧ s.1 ≤ n ∧ n ≤ s.2.1 ∧ -1073741824 ≤ n ∧ n ≤ 1073741824 := by
    have := oc.1
    have := oc.2.1
    rcases Int.le_total s.2.1 1073741824 with c | c
    · exact ⟨s.2.1, by omega, by omega, by omega, by omega, by omega⟩
    · exact ⟨1073741824, by omega, by omega, by omega, by omega, by omega⟩
  obtain ⟨q, q0, q1, qs, qh⟩ := asin_pt hv n0 n1 n2 n3
  have C := (cos_at (x := ((5400000 - p : Int) : Rat)) va (Hs.at (Int.le_refl _) (by omega))).2.2
  rw [Rat.intCast_sub, show ((5400000 : Int) : Rat) = 5400000 by rfl] at C
  have cq := (coq (p : Rat)).2
  have g' := le_c g
  have hn' := le_c hn
  rw [Rat.intCast_add, show ((1 : Int) : Rat) = 1 by rfl] at hn'
  have P0 := le_c (show -5400000 ≤ p by omega)
  have P1 := le_c p1
  rw [show ((-5400000 : Int) : Rat) = -5400000 by rfl] at P0
  rw [show ((5400000 : Int) : Rat) = 5400000 by rfl] at P1
  unfold Hs at qh C
  have st := si_step (p := (p : Rat)) (q := q) (d := pw 275) q0 P1 (by grind) (by grind) (by grind)
  unfold Cl at cq qs
  grind
theorem alt_dn {s : Int × Int × Int} {o p : Int} (hv : validB s.1 s.2.1 = true) (ok : (asinR s.1 s.2.1).2.2 = 0) (o0 : -5400000 ≤ o) (op : o ≤ p) (p1 : p ≤ 5400000) (h : s.2.1 < (cosR (5400000 - p) (5400000 - o)).1) : (asinR s.1 s.2.1).1 < o := by
  obtain ⟨w1, w2, w3, w4, w5, w6⟩ := lvC
  have eb := e0_bd
  have ub := u0_bd
  have ee : e0 = 1048576 * u0 := rfl
  have va : avalidB (5400000 - p) (5400000 - o) = true := avalid_mk (by omega) (by omega) (by omega)
  have oc := cos_one va
  have v := val_bd hv
  have ak := asin_rg hv ok
  rcases Int.lt_or_le (asinR s.1 s.2.1).1 o with g | g
  · exact g
  exfalso
  obtain ⟨n, hn, n0, n1, n2, n3⟩ : ∃ n : Int, n + 1 ≤ (cosR (5400000 - p) (5400000 - o)).1 ∧ s.1 ≤ n ∧ n ≤ s.2.1 ∧ -1073741824 ≤ n ∧ n ≤ 1073741824 := by
    have := oc.2.2.1
    have := oc.2.1
    rcases Int.le_total s.1 (-1073741824) with c | c
    · exact ⟨-1073741824, by omega, by omega, by omega, by omega, by omega⟩
    · exact ⟨s.1, by omega, by omega, by omega, by omega, by omega⟩
  obtain ⟨q, q0, q1, qs, qh⟩ := asin_pt hv n0 n1 n2 n3
  have C := (cos_at (x := ((5400000 - o : Int) : Rat)) va (Hs.at (by omega) (Int.le_refl _))).2.2
  rw [Rat.intCast_sub, show ((5400000 : Int) : Rat) = 5400000 by rfl] at C
  have cq := (coq (o : Rat)).2
  have g' := le_c g
  have hn' := le_c hn
  rw [Rat.intCast_add, show ((1 : Int) : Rat) = 1 by rfl] at hn'
  have P0 := le_c o0
  have P1 := le_c (show o ≤ 5400000 by omega)
  rw [show ((-5400000 : Int) : Rat) = -5400000 by rfl] at P0
  rw [show ((5400000 : Int) : Rat) = 5400000 by rfl] at P1
  unfold Hs at qh C
  have st := si_step (p := q) (q := (o : Rat)) (d := pw 275) P0 q1 (by grind) (by grind) (by grind)
  unfold Cl at cq qs
  grind
end Go.Proofs.YtkjnheahaimpoaaGreat

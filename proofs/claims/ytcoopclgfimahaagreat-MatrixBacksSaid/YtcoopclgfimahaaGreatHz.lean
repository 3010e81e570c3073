/-
  Rotated vectors of single numbers: the altitude is narrow, also near the zenith. No program here.
-/
import Derived.Test.YtcoopclgfimahaaGreatHm
namespace Go.Proofs.YtcoopclgfimahaaGreat
open SM TB TA
theorem prod_le {p q P Q : Int} (h1 : -P ≤ p) (h2 : p ≤ P) (h3 : -Q ≤ q) (h4 : q ≤ Q) : p * q ≤ P * Q := by
  have a := Int.mul_nonneg (show 0 ≤ P - p by omega) (show 0 ≤ Q + q by omega)
  have b := Int.mul_nonneg (show 0 ≤ P + p by omega) (show 0 ≤ Q - q by omega)
  have e : (P - p) * (Q + q) + (P + p) * (Q - q) = 2 * (P * Q) - 2 * (p * q) := by grind
  omega
theorem mul_width {r s : Int × Int × Int} {w v : Int} (h : OneR r) (k : OneR s) (hw : r.2.1 - r.1 ≤ w) (hv : s.2.1 - s.1 ≤ v) : (mulR r.1 r.2.1 s.1 s.2.1).2.1 - (mulR r.1 r.2.1 s.1 s.2.1).1 ≤ w + v + 1 := by
  have m := (mul_ones h k).2.2.2
  have ev : mulR r.1 r.2.1 s.1 s.2.1 = (mulL r.1 r.2.1 s.1 s.2.1 / 1073741824, -(-mulH r.1 r.2.1 s.1 s.2.1 / 1073741824), 0) := by
    unfold mulR at m ⊢
    obtain ⟨hb, hf⟩ := both_ok m
    rw [if_pos hb]
    exact (fit_ok hf).2
  obtain ⟨h1, h2, h3, h4⟩ := h
  obtain ⟨k1, k2, k3, k4⟩ := k
  obtain ⟨x, y, hx, hy, e1⟩ := mulL_at r.1 r.2.1 s.1 s.2.1
  obtain ⟨x', y', hx', hy', e2⟩ := mulH_at r.1 r.2.1 s.1 s.2.1
  have a := prod_le (p := x') (q := y' - y) (P := 1073741824) (Q := v) (by omega) (by omega) (by omega) (by omega)
  have b := prod_le (p := x' - x) (q := y) (P := w) (Q := 1073741824) (by omega) (by omega) (by omega) (by omega)
  have d : mulH r.1 r.2.1 s.1 s.2.1 - mulL r.1 r.2.1 s.1 s.2.1 ≤ 1073741824 * v + w * 1073741824 := by
    rw [e1, e2]
    have : x' * y' - x * y = x' * (y' - y) + (x' - x) * y := by grind
    omega
  rw [ev]
  dsimp only
  omega
theorem sin_width {x : Int} (h : avalidB x x = true) : (sinR x x).2.1 - (sinR x x).1 ≤ 1 := by
  have e : sinR x x = (encL x x, encH x x, 0) := by simp [sinR, h]
  rw [e]
  dsimp only
  rw [(enc_one x).1, (enc_one x).2]
  have := (lob_hib x).1
  omega
theorem cos_width {x : Int} (h : avalidB x x = true) : (cosR x x).2.1 - (cosR x x).1 ≤ 1 := by
  have e : cosR x x = (encL (x + 5400000) (x + 5400000), encH (x + 5400000) (x + 5400000), 0) := by simp [cosR, h]
  rw [e]
  dsimp only
  rw [(enc_one (x + 5400000)).1, (enc_one (x + 5400000)).2]
  have := (lob_hib (x + 5400000)).1
  omega
theorem vec_width {x y t : Int} (h : triB x x y y t t = true) : (mupE x x y y t t).2.1 - (mupE x x y y t t).1 ≤ 8 ∧ (mnoE x x y y t t).2.1 - (mnoE x x y y t t).1 ≤ 8 ∧ (wE y y t t).2.1 - (wE y y t t).1 ≤ 3 := by
  obtain ⟨h1, h2, h3⟩ := tri_bd h
  have l1 := (lat_bd h1).1
  have l2 := (lat_bd h2).1
  have s1 := sin_one l1
  have c1 := cos_one l1
  have s2 := sin_one l2
  have c2 := cos_one l2
  have s3 := sin_one h3
  have c3 := cos_one h3
  have wx := mul_width c2 c3 (cos_width l2) (cos_width h3)
  have ww := mul_width c2 s3 (cos_width l2) (sin_width h3)
  have xo : OneR (xE y y t t) := mul_ones c2 c3
  have wx' : (xE y y t t).2.1 - (xE y y t t).1 ≤ 3 := wx
  have m1 := mul_width xo c1 wx' (cos_width l1)
  have m2 := mul_width s2 s1 (sin_width l2) (sin_width l1)
  have m3 := mul_width s2 c1 (sin_width l2) (cos_width l1)
  have m4 := mul_width xo s1 wx' (sin_width l1)
  refine ⟨?_, ?_, ww⟩
  · unfold mupE
    dsimp only
    rw [(add_ones (mul_ones xo c1) (mul_ones s2 s1)).1]
    dsimp only
    omega
  · unfold mnoE
    dsimp only
    rw [(sub_ones (mul_ones s2 c1) (mul_ones xo s1)).1]
    dsimp only
    omega
/-- Lengths of vectors in a narrow box. -/
theorem near_len {nx X : Rat} (D : Rat) (h : (X ≤ nx + D ∧ -(nx + D) ≤ X)) : X * X ≤ nx * nx + 2 * D * nx + D * D := by
  have a := Rat.mul_nonneg (show 0 ≤ nx + D - X by grind) (show 0 ≤ nx + D + X by grind)
  grind
theorem nr_near {a b : Int} {X e : Rat} {w : Int} (hab : a ≤ b) (hw : b - a ≤ w) (_he : 0 ≤ e) (he1 : e ≤ 1) (h : Hs e a b X) : (X ≤ (nrA a b : Rat) + (w + 1) ∧ -((nrA a b : Rat) + (w + 1)) ≤ X) ∧ ((frA a b : Rat) ≤ X + (w + 1) ∨ (frA a b : Rat) ≤ -X + (w + 1)) := by
  have W := le_c hw
  rw [Rat.intCast_sub] at W
  have AB := le_c hab
  unfold Hs at h
  constructor
  · unfold nrA
    split
    · rename_i c1
      have k1 := le_c (show 0 ≤ a by omega)
      rw [show ((0 : Int) : Rat) = 0 by rfl] at k1
      constructor <;> grind
    · split
      · rename_i c1 c2
        have k2 := le_c (show b ≤ 0 by omega)
        rw [show ((0 : Int) : Rat) = 0 by rfl] at k2
        rw [Rat.intCast_neg]
        constructor <;> grind
      · rename_i c1 c2
        have k1 := le_c (show a ≤ 0 by omega)
        have k2 := le_c (show 0 ≤ b by omega)
        rw [show ((0 : Int) : Rat) = 0 by rfl] at k1 k2 ⊢
        constructor <;> grind
  · rcases (nr_bd hab).2.2.2.2 with q | q
    · right
      rw [q, Rat.intCast_neg]
      grind
    · left
      rw [q]
      grind
theorem sq_up {f X D P : Rat} (f0 : 0 ≤ f) (hP : 0 ≤ P) (hXP : X * X ≤ P * P) (hD : 0 ≤ D) (h : f ≤ X + D ∨ f ≤ -X + D) : f * f ≤ X * X + 2 * D * P + D * D := by
  have b := sqrt_small (z := X) (f := P) (e := X * X) hP (by grind) hXP
  have key : ∀ Y : Rat, Y * Y = X * X → Y ≤ P → -P ≤ Y → f ≤ Y + D → f * f ≤ X * X + 2 * D * P + D * D := fun Y hY h1 h2 hf => by
    rcases (Rat.le_total : 0 ≤ Y + D ∨ Y + D ≤ 0) with c | c
    · have m := Rat.mul_nonneg (show 0 ≤ Y + D - f by grind) (show 0 ≤ Y + D + f by grind)
      have m2 := Rat.mul_nonneg hD (show 0 ≤ P - Y by grind)
      grind
    · have : f = 0 := by grind
      have s := sq_nn X
      have m2 := Rat.mul_nonneg hD hP
      have m3 := Rat.mul_nonneg hD hD
      rw [this]
      grind
  rcases h with h | h
  · exact key X rfl b.2 b.1 h
  · exact key (-X) (by grind) (by grind) (by grind) h
/-- The length's interval is narrow. -/
theorem hyp_near {a b c d : Int} {X Y P e : Rat} (h1 : -2147483648 ≤ a) (h2 : a ≤ b) (h3 : b ≤ 2147483648) (h4 : -1073741824 ≤ c) (h5 : c ≤ d) (h6 : d ≤ 1073741824) (w1 : b - a ≤ 8) (w2 : d - c ≤ 3)
    (he : 0 ≤ e) (he1 : e ≤ 1) (vX : Hs e a b X) (vY : Hs e c d Y) (hP0 : 0 ≤ P) (hP1 : P ≤ 1073741825) (hu : Cl 1 (X * X + Y * Y) (P * P)) :
    P - 15 ≤ ((hypM a b c d).1 : Rat) ∧ ((hypM a b c d).2 : Rat) ≤ P + 15 := by
  have n1 := nr_bd h2
  have n2 := nr_bd h5
  have s1 := sq_int (x := nrA a b) (m := 2147483648) n1.1 (by omega)
  have s2 := sq_int (x := nrA c d) (m := 1073741824) n2.1 (by omega)
  have s3 := sq_int (x := frA a b) (m := 2147483648) (by omega) (by omega)
  have s4 := sq_int (x := frA c d) (m := 1073741824) (by omega) (by omega)
  have r1 := rt_ok (n := nrA a b * nrA a b + nrA c d * nrA c d) (by omega) (by omega)
  have u2 := upr_ok (n := frA a b * frA a b + frA c d * frA c d) (by omega) (by omega)
  have r2 := rt_ok (n := frA a b * frA a b + frA c d * frA c d) (by omega) (by omega)
  have kX := nr_near h2 w1 he he1 vX
  have kY := nr_near h5 w2 he he1 vY
  rw [show ((8 : Int) : Rat) = 8 by rfl] at kX
  rw [show ((3 : Int) : Rat) = 3 by rfl] at kY
  rw [hyp_eq h1 h2 h3 h4 h5 h6]
  clear s1 s2 s3 s4
  dsimp only
  have sX := sq_nn X
  have sY := sq_nn Y
  unfold Cl at hu
  constructor
  · -- the least
    have c1 := lt_c r1.2.2
    rw [Rat.intCast_add, Rat.intCast_mul, Rat.intCast_mul, Rat.intCast_mul, Rat.intCast_add, show ((1 : Int) : Rat) = 1 by rfl] at c1
    have p1 := le_c r1.1
    have q1 := le_c n1.1
    have q2 := le_c n2.1
    rw [show ((0 : Int) : Rat) = 0 by rfl] at p1 q1 q2
    have f1 := near_len (X := X) 9 (nx := (nrA a b : Rat)) (by constructor <;> grind)
    have f2 := near_len (X := Y) 4 (nx := (nrA c d : Rat)) (by constructor <;> grind)
    have m1 : ((min (rootR (nrA a b * nrA a b + nrA c d * nrA c d)) 1073741824 : Int) : Rat) = (rootR (nrA a b * nrA a b + nrA c d * nrA c d) : Rat) ∨ ((min (rootR (nrA a b * nrA a b + nrA c d * nrA c d)) 1073741824 : Int) : Rat) = 1073741824 := by
      rcases Int.le_total (rootR (nrA a b * nrA a b + nrA c d * nrA c d)) 1073741824 with h | h
      · left; rw [Int.min_eq_left h]
      · right; rw [Int.min_eq_right h]; rfl
    generalize ((min (rootR (nrA a b * nrA a b + nrA c d * nrA c d)) 1073741824 : Int) : Rat) = l' at *
    generalize (rootR (nrA a b * nrA a b + nrA c d * nrA c d) : Rat) = r at *
    generalize (nrA a b : Rat) = nx at *
    generalize (nrA c d : Rat) = ny at *
    rcases m1 with m1 | m1
    · rw [m1]
      have z1 := sq_nn nx
      have z2 := sq_nn ny
      have b1 := (sqrt_small (z := nx) (f := r + 1) (e := nx * nx) (by grind) (by grind) (by grind)).2
      have b2 := (sqrt_small (z := ny) (f := r + 1) (e := ny * ny) (by grind) (by grind) (by grind)).2
      have fin := sqrt_small (z := P) (f := r + 15) (e := P * P) (by grind) (by grind) (by grind)
      grind
    · rw [m1]
      grind
  · have c1 := le_c r2.2.1
    rw [Rat.intCast_add, Rat.intCast_mul, Rat.intCast_mul, Rat.intCast_mul] at c1
    have p1 := le_c r2.1
    have q1 := le_c (show 0 ≤ frA a b by omega)
    have q2 := le_c (show 0 ≤ frA c d by omega)
    rw [show ((0 : Int) : Rat) = 0 by rfl] at p1 q1 q2
    have u3 : (upr (frA a b * frA a b + frA c d * frA c d) : Rat) ≤ (rootR (frA a b * frA a b + frA c d * frA c d) : Rat) + 1 := by
      have := le_c (show upr (frA a b * frA a b + frA c d * frA c d) ≤ rootR (frA a b * frA a b + frA c d * frA c d) + 1 by omega)
      rw [Rat.intCast_add] at this
      exact this
    have m1 : ((min (upr (frA a b * frA a b + frA c d * frA c d)) 1073741824 : Int) : Rat) ≤ (upr (frA a b * frA a b + frA c d * frA c d) : Rat) := le_c (by omega)
    have f1 := sq_up (f := (frA a b : Rat)) (X := X) (D := 9) (P := P + 1) q1 (by grind) (by grind) (by grind) (by rcases kX.2 with q | q; left; grind; right; grind)
    have f2 := sq_up (f := (frA c d : Rat)) (X := Y) (D := 4) (P := P + 1) q2 (by grind) (by grind) (by grind) (by rcases kY.2 with q | q; left; grind; right; grind)
    generalize ((min (upr (frA a b * frA a b + frA c d * frA c d)) 1073741824 : Int) : Rat) = l' at *
    generalize (upr (frA a b * frA a b + frA c d * frA c d) : Rat) = u' at *
    generalize (rootR (frA a b * frA a b + frA c d * frA c d) : Rat) = r at *
    generalize (frA a b : Rat) * (frA a b : Rat) = w3 at *
    generalize (frA c d : Rat) * (frA c d : Rat) = w4 at *
    have fin := sqrt_small (z := r) (f := P + 14) (e := r * r) (by grind) (by grind) (by grind)
    grind
theorem small_si2 {z t : Rat} (h0 : 0 ≤ z) (h1 : z ≤ 10799999) (ht : t ≤ 1 / 2 ^ 24) (h : si z ≤ t) : z ≤ 8000000 * (t + e0) := by
  have b := tb_bd
  have u := u0_bd
  have ee : e0 = 1048576 * u0 := rfl
  have eb := e0_bd
  rcases (Rat.le_total : z ≤ 5400000 ∨ 5400000 ≤ z) with c | c
  · have p := (si_pos h0 c).1
    have m : z / 3437750 ≤ tb * z := by
      have := Rat.mul_nonneg (show 0 ≤ tb - 1 / 3437750 by grind) h0
      grind
    generalize si z = s at *
    generalize tb * z = w at *
    grind
  · exfalso
    have p := (si_pos (q := 10800000 - z) (by grind) (by grind)).1
    have r := reflq z
    have m : 1 / 3437750 ≤ tb * (10800000 - z) := by
      have := Rat.mul_nonneg (show 0 ≤ tb - 1 / 3437750 by grind) (show 0 ≤ 10800000 - z by grind)
      grind
    unfold Cl at r
    generalize si (10800000 - z) = s' at *
    generalize si z = s at *
    generalize tb * (10800000 - z) = w at *
    grind
/-- A corner near a point has nearly its direction. -/
theorem corner {a b : Int} {p : Rat} (h : In31 a b) (hp0 : -5400000 ≤ p) (hp1 : p ≤ 5400000) (ha : Cl 31 (a : Rat) (1073741824 * co p)) (hb : Cl 31 (b : Rat) (1073741824 * si p)) : (fl a b : Rat) ≤ p + 12 / 25 ∧ p ≤ (ce a b : Rat) + 12 / 25 := by
  have u := u0_bd
  have ee : e0 = 1048576 * u0 := rfl
  have eb := e0_bd
  have e1b := e1_bd
  have f := fl_B h
  have g := fl_bd a b
  have F1 := F_spec a.toNat b.toNat
  have F2 := F_spec (-b).toNat a.toNat
  have k1 : fl a b ≤ 5399999 := by unfold fl; split <;> omega
  have k2 : -5399999 ≤ ce a b := by
    rw [ce_eq]
    split
    · omega
    · rename_i c
      have : 1 ≤ C (-b).toNat a.toNat := by
        unfold C
        cases hx : exF (-b).toNat a.toNat with
        | false => simp
        | true =>
          unfold exF at hx
          simp only [Bool.or_eq_true, Bool.and_eq_true, beq_iff_eq] at hx
          have := h.1
          simp
          omega
      omega
  have K1 := le_c k1
  have K1' := le_c g.1
  have K2 := le_c k2
  have K2' := le_c g.2.2.1
  rw [show ((5399999 : Int) : Rat) = 5399999 by rfl] at K1
  rw [show ((-5400000 : Int) : Rat) = -5400000 by rfl] at K1'
  rw [show ((-5399999 : Int) : Rat) = -5399999 by rfl] at K2
  rw [show ((5400000 : Int) : Rat) = 5400000 by rfl] at K2'
  have bk := bdq (fl a b : Rat)
  have bc := bdq (ce a b : Rat)
  have q1 := mul_abs (a := (a : Rat) - 1073741824 * co p) (b := si (fl a b : Rat)) (A := 31) (B := 1 + 8192 * u0) ha.1 ha.2 bk.2.1 bk.2.2
  have q2 := mul_abs (a := (b : Rat) - 1073741824 * si p) (b := co (fl a b : Rat)) (A := 31) (B := 1 + 8192 * u0) hb.1 hb.2 bk.1.1 bk.1.2
  have q3 := mul_abs (a := (a : Rat) - 1073741824 * co p) (b := si (ce a b : Rat)) (A := 31) (B := 1 + 8192 * u0) ha.1 ha.2 bc.2.1 bc.2.2
  have q4 := mul_abs (a := (b : Rat) - 1073741824 * si p) (b := co (ce a b : Rat)) (A := 31) (B := 1 + 8192 * u0) hb.1 hb.2 bc.1.1 bc.1.2
  have s1 := (subq (fl a b : Rat) p).2
  have s2 := (subq p (ce a b : Rat)).2
  rw [show ((a : Rat) - 1073741824 * co p) * si (fl a b : Rat) = (a : Rat) * si (fl a b : Rat) - 1073741824 * (si (fl a b : Rat) * co p) by grind] at q1
  rw [show ((b : Rat) - 1073741824 * si p) * co (fl a b : Rat) = (b : Rat) * co (fl a b : Rat) - 1073741824 * (co (fl a b : Rat) * si p) by grind] at q2
  rw [show ((a : Rat) - 1073741824 * co p) * si (ce a b : Rat) = (a : Rat) * si (ce a b : Rat) - 1073741824 * (co p * si (ce a b : Rat)) by grind] at q3
  rw [show ((b : Rat) - 1073741824 * si p) * co (ce a b : Rat) = (b : Rat) * co (ce a b : Rat) - 1073741824 * (si p * co (ce a b : Rat)) by grind] at q4
  unfold Cl at s1 s2
  constructor
  · rcases (Rat.le_total : (fl a b : Rat) ≤ p ∨ p ≤ (fl a b : Rat)) with c | c
    · grind
    · have w := small_si2 (z := (fl a b : Rat) - p) (t := 63 / 1073741824) (by grind) (by grind) (by grind) ?_
      · grind
      · have f1 := f.1
        generalize (a : Rat) * si (fl a b : Rat) = v1 at *
        generalize (b : Rat) * co (fl a b : Rat) = v2 at *
        generalize si (fl a b : Rat) * co p = v3 at *
        generalize co (fl a b : Rat) * si p = v4 at *
        generalize si ((fl a b : Rat) - p) = v5 at *
        clear q3 q4 s2 f bk bc
        grind
  · rcases (Rat.le_total : p ≤ (ce a b : Rat) ∨ (ce a b : Rat) ≤ p) with c | c
    · grind
    · have w := small_si2 (z := p - (ce a b : Rat)) (t := 63 / 1073741824) (by grind) (by grind) (by grind) ?_
      · grind
      · have f1 := f.2
        generalize (a : Rat) * si (ce a b : Rat) = v1 at *
        generalize (b : Rat) * co (ce a b : Rat) = v2 at *
        generalize co p * si (ce a b : Rat) = v3 at *
        generalize si p * co (ce a b : Rat) = v4 at *
        generalize si (p - (ce a b : Rat)) = v5 at *
        clear q1 q2 s1 f bk bc
        grind
/-- Bearing over a narrow box on the circle is narrow. -/
theorem bear_narrow {yl yh xl xh : Int} {q ρ e : Rat} (hvy : validB yl yh = true) (hvx : validB xl xh = true) (hρ : ρ = 1073741824) (_he : 0 ≤ e) (he1 : e ≤ 1 / 2 ^ 90) (ho : originB yl yh xl xh = false) (wy : yh - yl ≤ 30) (wx : xh - xl ≤ 30)
    (hY : Hs e yl yh (ρ * si q)) (hX : Hs e xl xh (ρ * co q)) : (bearR yl yh xl xh).2.1 - (bearR yl yh xl xh).1 ≤ 2 := by
  have u := u0_bd
  have ee : e0 = 1048576 * u0 := rfl
  have eb := e0_bd
  have e1b := e1_bd
  have be := big_f
  have hr0 : 0 ≤ ρ := by grind
  have hr1 : ρ ≤ 8589934592 := by grind
  obtain ⟨j, hj, hx0⟩ := half_ex ho
  obtain ⟨y0, y1, x0, x1, hr⟩ : ∃ y0 y1 x0 x1, rbox yl yh xl xh j = (y0, y1, x0, x1) := ⟨_, _, _, _, rfl⟩
  rw [hr] at hx0
  dsimp only at hx0
  have ev := bear_str hvx hvy ho hj hr hx0
  have vx := val_bd hvx
  have vy := val_bd hvy
  -- the point turned back
  have rot : Hs (e + e1) x0 x1 (ρ * co (rdq (q - 5400000 * (j : Rat)))) ∧ Hs (e + e1) y0 y1 (ρ * si (rdq (q - 5400000 * (j : Rat)))) := by
    have t := turn_eq (q - 5400000 * (j : Rat)) (-tm (q - 5400000 * (j : Rat)))
    have er : (q - 5400000 * (j : Rat)) + 21600000 * ((-tm (q - 5400000 * (j : Rat)) : Int) : Rat) = rdq (q - 5400000 * (j : Rat)) := by
      unfold rdq
      rw [Rat.intCast_neg]
      grind
    rw [er] at t
    rw [t.1, t.2]
    have sc : ∀ {p r : Rat}, Cl (40000 * u0) p r → Cl e1 (ρ * p) (ρ * r) := fun {p r} h => by
      have m := mul_abs (a := ρ) (b := p - r) (A := 8589934592) (B := 40000 * u0) (by grind) hr1 h.1 h.2
      unfold Cl
      rw [show ρ * p - ρ * r = ρ * (p - r) by grind]
      generalize ρ * (p - r) = w at *
      constructor <;> grind
    rcases (show j = 0 ∨ j = 1 ∨ j = 2 ∨ j = 3 by omega) with rfl | rfl | rfl | rfl <;> simp only [rbox, Prod.mk.injEq] at hr <;> obtain ⟨rfl, rfl, rfl, rfl⟩ := hr
    · rw [show ((0 : Nat) : Rat) = 0 by rfl, show q - 5400000 * 0 = q by grind]
      exact ⟨hX.wide (by grind) (Int.le_refl _) (Int.le_refl _), hY.wide (by grind) (Int.le_refl _) (Int.le_refl _)⟩
    · rw [show ((1 : Nat) : Rat) = 1 by rfl, show q - 5400000 * 1 = q - 5400000 by grind]
      have b := backq q
      have s1 := sc (b.1.wide (f := 40000 * u0) (by grind))
      have s2 := sc (b.2.wide (f := 40000 * u0) (by grind))
      rw [show ρ * -co q = -(ρ * co q) by grind] at s1
      exact ⟨hY.near s2, hX.neg.near s1⟩
    · rw [show ((2 : Nat) : Rat) = 2 by rfl, show q - 5400000 * 2 = q - 10800000 by grind]
      have o := oppq (q - 10800000)
      rw [show q - 10800000 + 10800000 = q by grind] at o
      have s1 := (sc (o.1.wide (f := 40000 * u0) (by grind))).neg.symm
      have s2 := (sc (o.2.wide (f := 40000 * u0) (by grind))).neg.symm
      rw [show -(ρ * -co (q - 10800000)) = ρ * co (q - 10800000) by grind] at s1
      rw [show -(ρ * -si (q - 10800000)) = ρ * si (q - 10800000) by grind] at s2
      exact ⟨hX.neg.near s1, hY.neg.near s2⟩
    · have b := coq (-q)
      have n := negq q
      rw [show 5400000 - -q = q + 5400000 by grind] at b
      have t2 := turn_eq (q - 5400000 * ((3 : Nat) : Rat)) 1
      rw [show ((1 : Int) : Rat) = 1 by rfl, show ((3 : Nat) : Rat) = 3 by rfl, show q - 5400000 * 3 + 21600000 * 1 = q + 5400000 by grind] at t2
      rw [show ((3 : Nat) : Rat) = 3 by rfl, ← t2.1, ← t2.2]
      have s1 := sc ((b.1.trans n.1).wide (f := 40000 * u0) (by grind))
      have s2 := sc ((b.2.trans n.2).wide (f := 40000 * u0) (by grind))
      rw [show ρ * -si q = -(ρ * si q) by grind] at s2
      exact ⟨hY.neg.near s2, hX.near s1⟩
  have hbd : x0 ≤ x1 ∧ y0 ≤ y1 ∧ x1 ≤ 2147483648 ∧ -2147483648 ≤ y0 ∧ y1 ≤ 2147483648 := by
    rcases (show j = 0 ∨ j = 1 ∨ j = 2 ∨ j = 3 by omega) with rfl | rfl | rfl | rfl <;> simp only [rbox, Prod.mk.injEq] at hr <;> omega
  have hwd : x1 - x0 ≤ 30 ∧ y1 - y0 ≤ 30 := by
    rcases (show j = 0 ∨ j = 1 ∨ j = 2 ∨ j = 3 by omega) with rfl | rfl | rfl | rfl <;> simp only [rbox, Prod.mk.injEq] at hr <;> omega
  have rb := rdq_bd (q - 5400000 * (j : Rat))
  generalize rdq (q - 5400000 * (j : Rat)) = p at *
  obtain ⟨rX, rY⟩ := rot
  rw [hρ] at rX rY
  have X0 := lt_c hx0
  rw [show ((0 : Int) : Rat) = 0 by rfl] at X0
  have X01 := le_c hwd.1
  have Y01 := le_c hwd.2
  have XX := le_c hbd.1
  have YY := le_c hbd.2.1
  rw [Rat.intCast_sub, show ((30 : Int) : Rat) = 30 by rfl] at X01 Y01
  unfold Hs at rX rY
  have pc := pos_co (p := p) (ρ := 1073741824) rb.1 (by grind) (by grind) (by grind) (by grind)
  have K : ∀ a b : Int, x0 ≤ a → a ≤ x1 → y0 ≤ b → b ≤ y1 → (fl a b : Rat) ≤ p + 12 / 25 ∧ p ≤ (ce a b : Rat) + 12 / 25 := fun a b a0 a1 b0 b1 => by
    have A0 := le_c a0
    have A1 := le_c a1
    have B0 := le_c b0
    have B1 := le_c b1
    exact corner ⟨by omega, by omega, by omega, by omega⟩ (by grind) (by grind) (by unfold Cl; constructor <;> grind) (by unfold Cl; constructor <;> grind)
  have l : p ≤ (loA y0 x0 x1 : Rat) + 1 + 12 / 25 := by
    unfold loA
    split
    · have k := (K x1 y0 hbd.1 (Int.le_refl _) (Int.le_refl _) hbd.2.1).2
      have g := le_c (fl_bd x1 y0).2.2.2
      rw [Rat.intCast_add, show ((1 : Int) : Rat) = 1 by rfl] at g
      grind
    · have k := (K x0 y0 (Int.le_refl _) hbd.1 (Int.le_refl _) hbd.2.1).2
      have g := le_c (fl_bd x0 y0).2.2.2
      rw [Rat.intCast_add, show ((1 : Int) : Rat) = 1 by rfl] at g
      grind
  have r : (hiA y1 x0 x1 : Rat) ≤ p + 1 + 12 / 25 := by
    unfold hiA
    split
    · have k := (K x0 y1 (Int.le_refl _) hbd.1 hbd.2.1 (Int.le_refl _)).1
      have g := le_c (fl_bd x0 y1).2.2.2
      rw [Rat.intCast_add, show ((1 : Int) : Rat) = 1 by rfl] at g
      grind
    · have k := (K x1 y1 hbd.1 (Int.le_refl _) hbd.2.1 (Int.le_refl _)).1
      have g := le_c (fl_bd x1 y1).2.2.2
      rw [Rat.intCast_add, show ((1 : Int) : Rat) = 1 by rfl] at g
      grind
  rw [ev]
  dsimp only
  have fin : hiA y1 x0 x1 - loA y0 x0 x1 ≤ 2 := by
    refine of_c (e := 24 / 25) ?_ (by grind)
    rw [Rat.intCast_sub, show ((2 : Int) : Rat) = 2 by rfl]
    grind
  omega
/-- **Near the zenith, too, the altitude is narrow.** -/
theorem malt_narrow {x y t : Int} (h : triB x x y y t t = true) : (maltE x x y y t t).2.1 - (maltE x x y y t t).1 ≤ 4 := by
  obtain ⟨w1, w2, w3, w4, w5, w6, w7, w8, w9, w10, w11, w12, w13⟩ := lvM
  have eb := e0_bd
  have e1b := e1_bd
  have ee : e0 = 1048576 * u0 := rfl
  have u := u0_bd
  have hx := Hs.at (Int.le_refl x) (Int.le_refl x)
  have hy := Hs.at (Int.le_refl y) (Int.le_refl y)
  have ht := Hs.at (Int.le_refl t) (Int.le_refl t)
  obtain ⟨h', z', s⟩ := sees (x : Rat) (y : Rat) (t : Rat)
  obtain ⟨v1, v2, v3, v4⟩ := mup_v h hx hy ht
  have vw := vec_width h
  have hv := hy_v h hx hy ht s
  obtain ⟨L, hu, hn⟩ := malt_v h hx hy ht s
  obtain ⟨g1, g2, g3⟩ := tri_bd h
  have W := mul_ones (cos_one (lat_bd g2).1) (sin_one g3)
  have wv : -1073741824 ≤ (wE y y t t).1 ∧ (wE y y t t).1 ≤ (wE y y t t).2.1 ∧ (wE y y t t).2.1 ≤ 1073741824 := ⟨W.1, W.2.1, W.2.2.1⟩
  have nv := val_bd v2.2.1
  have uv := val_bd v1.2.1
  have s' := s
  obtain ⟨h0, h1, z0, z1, k1, k2, k3⟩ := s
  have cl := co_lat h0 h1
  have bh := bdq h'
  have un := unit h'
  -- the length's interval is narrow
  have kw : (hyE x x y y t t).2 - (hyE x x y y t t).1 ≤ 30 := by
    obtain ⟨r, r0, r1, rc, rr⟩ : ∃ r : Rat, 0 ≤ r ∧ r ≤ 1 + 8192 * u0 ∧ Cl e0 r (co h') ∧ Cl (2 * e0) (r * r) (co h' * co h') := by
      rcases (Rat.le_total : 0 ≤ co h' ∨ co h' ≤ 0) with c | c
      · exact ⟨co h', c, by grind, Cl.refl _ (by grind), Cl.refl _ (by grind)⟩
      · exact ⟨0, by grind, by grind, (neg_aux cl.1 c).1, (neg_aux cl.1 c).2⟩
    have sp := sphere (x : Rat) (y : Rat) (t : Rat)
    have b2 := bdq2 h'
    have m := Cl.mul 2 3 k1 k1 b2.2 (by unfold Cl at k1; constructor <;> grind)
    have e : eaT (y : Rat) (t : Rat) * eaT (y : Rat) (t : Rat) = co (y : Rat) * si (t : Rat) * (co (y : Rat) * si (t : Rat)) := by unfold eaT; grind
    rw [e] at sp
    have sq := sq_aux sp m un rr
    have k := hyp_near (X := 1073741824 * noT (x : Rat) (y : Rat) (t : Rat)) (Y := 1073741824 * (co (y : Rat) * si (t : Rat))) (P := 1073741824 * r) (e := 1000 * e1) nv.1 nv.2.1 nv.2.2 wv.1 wv.2.1 wv.2.2 vw.2.1 vw.2.2 (by grind) w11 v2.2.2 v3.2.2 (by grind) (by grind) ?_
    · have d : (hyE x x y y t t).2 - (hyE x x y y t t).1 ≤ 30 := by
        refine c_le ?_
        rw [Rat.intCast_sub, show ((30 : Int) : Rat) = 30 by rfl]
        have a := k.1
        have b := k.2
        unfold hyE
        grind
      exact d
    · unfold Cl at sq ⊢
      rw [show 1073741824 * noT (x : Rat) (y : Rat) (t : Rat) * (1073741824 * noT (x : Rat) (y : Rat) (t : Rat)) = 1073741824 * 1073741824 * (noT (x : Rat) (y : Rat) (t : Rat) * noT (x : Rat) (y : Rat) (t : Rat)) by grind, show 1073741824 * (co (y : Rat) * si (t : Rat)) * (1073741824 * (co (y : Rat) * si (t : Rat))) = 1073741824 * 1073741824 * (co (y : Rat) * si (t : Rat) * (co (y : Rat) * si (t : Rat))) by grind, show 1073741824 * r * (1073741824 * r) = 1073741824 * 1073741824 * (r * r) by grind]
      clear m sp
      generalize noT (x : Rat) (y : Rat) (t : Rat) * noT (x : Rat) (y : Rat) (t : Rat) = x1 at *
      generalize co (y : Rat) * si (t : Rat) * (co (y : Rat) * si (t : Rat)) = x2 at *
      generalize r * r = x3 at *
      have : 1073741824 * 1073741824 * (50 * e0) ≤ 1 := by grind
      constructor <;> grind
  obtain ⟨k0, k1', k2', kh⟩ := hv
  have vu := (v1.near (k1.wide w13)).2.2
  -- the origin is not in the box
  have no : originB (mupE x x y y t t).1 (mupE x x y y t t).2.1 (hyE x x y y t t).1 (hyE x x y y t t).2 = false := by
    refine decide_eq_false fun hc => ?_
    obtain ⟨c1, c2, c3, c4⟩ := hc
    have a1 := le_c (show (mupE x x y y t t).2.1 ≤ 30 by omega)
    have a2 := le_c (show -30 ≤ (mupE x x y y t t).1 by omega)
    have a3 := le_c (show (hyE x x y y t t).2 ≤ 30 by omega)
    have a4 := le_c k0
    rw [show ((30 : Int) : Rat) = 30 by rfl] at a1 a3
    rw [show ((-30 : Int) : Rat) = -30 by rfl] at a2
    rw [show ((0 : Int) : Rat) = 0 by rfl] at a4
    have tt : 1000 * e1 + 1073741824 * eT ≤ 1 := by decide +kernel
    have ss : 2 * sM ≤ 1 := by decide +kernel
    have i1 := mul_abs (a := si h') (b := si h') (A := 1 / 1000) (B := 1 / 1000) (by unfold Hs at vu; grind) (by unfold Hs at vu; grind) (by unfold Hs at vu; grind) (by unfold Hs at vu; grind)
    have i2 := mul_abs (a := co h') (b := co h') (A := 1 / 1000) (B := 1 / 1000) (by unfold Hs at kh; grind) (by unfold Hs at kh; grind) (by unfold Hs at kh; grind) (by unfold Hs at kh; grind)
    unfold Cl at un
    grind
  have kv : validB (hyE x x y y t t).1 (hyE x x y y t t).2 = true := val_mk (by omega) k1' (by omega)
  have nar := bear_narrow (q := h') (ρ := 1073741824) (e := 1000 * e1 + 1073741824 * eT + 2 * sM) v1.2.1 kv rfl (by have := lv.2.1; grind) (by decide +kernel) no (by omega) kw (vu.wide (by grind) (Int.le_refl _) (Int.le_refl _)) (kh.wide (by have := lv.2.1; grind) (Int.le_refl _) (Int.le_refl _))
  unfold maltE alT
  rw [no]
  simp only [Bool.false_eq_true, if_false]
  have mm := mx_mn (nbR (bearR (mupE x x y y t t).1 (mupE x x y y t t).2.1 (hyE x x y y t t).1 (hyE x x y y t t).2)).1 (asinR (mupE x x y y t t).1 (mupE x x y y t t).2.1).1 (nbR (bearR (mupE x x y y t t).1 (mupE x x y y t t).2.1 (hyE x x y y t t).1 (hyE x x y y t t).2)).2 (asinR (mupE x x y y t t).1 (mupE x x y y t t).2.1).2.1
  have nw : (nbR (bearR (mupE x x y y t t).1 (mupE x x y y t t).2.1 (hyE x x y y t t).1 (hyE x x y y t t).2)).2 - (nbR (bearR (mupE x x y y t t).1 (mupE x x y y t t).2.1 (hyE x x y y t t).1 (hyE x x y y t t).2)).1 ≤ 2 := by
    unfold nbR
    split <;> dsimp only <;> omega
  omega
/-- A body in the zenith has an altitude of a right angle. -/
theorem malt_zen {x : Int} (h : triB x x x x 0 0 = true) : (maltE x x x x 0 0).1 ≤ 5400000 ∧ 5400000 ≤ (maltE x x x x 0 0).2.1 := by
  have H := (matrix_ok h).2
  have u := u0_bd
  have ee : e0 = 1048576 * u0 := rfl
  have q := quartq
  have un := unit (x : Rat)
  have e1 : upT (x : Rat) (x : Rat) 0 = si (x : Rat) * si (x : Rat) + co (x : Rat) * co (x : Rat) := by unfold upT; rw [co_0]; grind
  have b := (bdq2 (x : Rat))
  obtain ⟨h', z', s⟩ := sees (x : Rat) (x : Rat) 0
  have hx := Hs.at (Int.le_refl x) (Int.le_refl x)
  have h0 : Hs 0 0 0 (0 : Rat) := by unfold Hs; constructor <;> grind
  have k := H.up x x 0 hx hx h0 h' z' s
  obtain ⟨g0, g1, _, _, k1, _, _⟩ := s
  rw [e1] at k1
  -- the altitude is near a right angle
  have gr := grow (p := h') (q := 5400000) g0 g1 (by grind)
  have near : 5400000 - h' ≤ 1 / 4 := by
    have w := sqrt_small (z := 5400000 - h') (f := 1 / 4) (e := 1 / 16) (by grind) ?_ (by grind)
    · exact w.2
    · unfold Cl at k1 un q
      have big : 100000000000000 * (100 * e0) ≤ 1 / 16 := by decide +kernel
      generalize (5400000 - h') * (5400000 - h') = w at *
      generalize si h' = s1 at *
      generalize si 5400000 = s2 at *
      generalize si (x : Rat) * si (x : Rat) = s3 at *
      generalize co (x : Rat) * co (x : Rat) = s4 at *
      grind
  have ds : dS ≤ 1 / 4 := by decide +kernel
  unfold Hs at k
  constructor
  · refine of_c (e := 1 / 2) ?_ (by grind)
    rw [show ((5400000 : Int) : Rat) = 5400000 by rfl]
    grind
  · refine of_c (e := 1 / 2 + 1 / 4) ?_ (by grind)
    rw [show ((5400000 : Int) : Rat) = 5400000 by rfl]
    grind
end Go.Proofs.YtcoopclgfimahaaGreat

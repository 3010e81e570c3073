/-
  Spherical triangles by sides: the cosine formula, quarters of the sides, and the excess. No program here. The excess of a spherical triangle: the computed arc holds the true one. No program here.
-/
import Derived.Test.YtipjnfabodfkcaaDoorHv
import Derived.Test.YtipjnfabodfkcaaDoorHf7
import Derived.Test.YtipjnfabodfkcaaDoorXp
namespace Go.Proofs.YtipjnfabodfkcaaDoor
open SM TB TA
/-- The cosine formula, but for a little: a side, the two others, and the angle between these. -/
def Tri (ε A B C x : Rat) : Prop := Cl ε (co A) (co B * co C + si B * si C * co x)
theorem tri_sees {B C x h z : Rat} (s : Sees (5400000 - B) (5400000 - C) x h z) : Tri (10 * e0) (5400000 - h) B C x := by
  obtain ⟨_, _, _, _, k1, _, _⟩ := s
  have ch := (coq h).2
  have b := coq B
  have c := coq C
  have u := u0_bd
  have ee := ee0
  have bB := bdq2 B
  have bC := bdq2 C
  have bx := bdq2 x
  have bB' := bdq2 (5400000 - B)
  have bC' := bdq2 (5400000 - C)
  have m1 := Cl.mul 2 2 b.1 c.1 bC'.2 bB.1
  have m2 := Cl.mul 2 2 b.2 c.2 bC'.1 bB.2
  have m4 := mul_abs (a := si B) (b := si C) (A := 2) (B := 2) bB.2.1 bB.2.2 bC.2.1 bC.2.2
  have m3 := Cl.mul 2 4 m2 (Cl.refl (co x) (e := 0) (by grind)) bx.1 (by grind)
  unfold Tri
  unfold upT at k1
  generalize si (5400000 - B) * si (5400000 - C) = X1 at *
  generalize co (5400000 - B) * co (5400000 - C) * co x = X2 at *
  generalize co B * co C = Y1 at *
  generalize si B * si C * co x = Y2 at *
  clear b c m2 m4 bB bC bx bB' bC'
  unfold Cl at *
  generalize co (5400000 - h) = H1 at *
  generalize si h = H2 at *
  constructor <;> grind
/-! ### Quarters -/
theorem quart4 {a b c P M N R : Rat} (hP : P + M = b + c) (hM : P - M = a) (hN : N + R = a) (hR : N - R = c - b) :
    Cl (e0 / 20) (2 * (co P * co M)) (co b * co c - si b * si c + co a) ∧ Cl (e0 / 20) (2 * (si P * si M)) (co a - (co b * co c - si b * si c)) ∧
    Cl (e0 / 20) (2 * (co N * co R)) (co a + (co b * co c + si b * si c)) ∧ Cl (e0 / 20) (2 * (si N * si R)) (co b * co c + si b * si c - co a) := by
  have p := (addq P M).1
  have q := (subq P M).1
  have r := (addq N R).1
  have s := (subq N R).1
  have t := (addq b c).1
  have w := (subq c b).1
  rw [hP] at p
  rw [hM] at q
  rw [hN] at r
  rw [hR] at s
  rw [show co c * co b + si c * si b = co b * co c + si b * si c by grind] at w
  have u := u0_bd
  have ee := ee0
  unfold Cl at *
  generalize co P * co M = x1 at *
  generalize si P * si M = x2 at *
  generalize co N * co R = x3 at *
  generalize si N * si R = x4 at *
  generalize co b * co c = x5 at *
  generalize si b * si c = x6 at *
  generalize co (b + c) = x7 at *
  generalize co (c - b) = x8 at *
  generalize co a = x9 at *
  refine ⟨⟨?_, ?_⟩, ⟨?_, ?_⟩, ⟨?_, ?_⟩, ?_, ?_⟩ <;> grind
/-- The square of the cosine of half the side. -/
theorem half_sq {A B C x a b c : Rat} (ha : a + a = A) (hb : b + b = B) (hc : c + c = C) (hT : Tri (10 * e0) A B C x) :
    Cl (8 * e0) (co a * co a) (co b * co c * (co b * co c) + si b * si c * (si b * si c) + 2 * (co b * co c * (si b * si c) * co x)) := by
  have da := (dblq a).2.1
  have db := dblq b
  have dc := dblq c
  rw [ha] at da
  rw [hb] at db
  rw [hc] at dc
  have bB := bdq2 B
  have bC := bdq2 C
  have bx := bdq2 x
  have eb := e0_bd
  have m1 := mul2 db.2.1 dc.2.1 (by grind) (by grind) (by grind)
  have m2 := mul2 db.1 dc.1 (by grind) (by grind) (by grind)
  have m3 := mul2 db.2.2 dc.2.2 (by grind) (by grind) (by grind)
  have m4 := mul_abs (a := si B) (b := si C) (A := 2) (B := 2) bB.2.1 bB.2.2 bC.2.1 bC.2.2
  have m5 := Cl.mul 2 4 m3 (Cl.refl (co x) (e := 0) (by grind)) bx.1 (by grind)
  unfold Tri at hT
  rw [show 2 * (co b * co b) * (2 * (co c * co c)) = 4 * (co b * co c * (co b * co c)) by grind] at m1
  rw [show 2 * (si b * si b) * (2 * (si c * si c)) = 4 * (si b * si c * (si b * si c)) by grind] at m2
  rw [show 2 * (si b * co b) * (2 * (si c * co c)) * co x = 4 * (co b * co c * (si b * si c) * co x) by grind] at m5
  rw [show (1 + co B) * (1 + co C) = 1 + co B + co C + co B * co C by grind] at m1
  rw [show (1 - co B) * (1 - co C) = 1 - co B - co C + co B * co C by grind] at m2
  clear m3 m4 db dc bB bC bx
  generalize co b * co c * (co b * co c) = y1 at *
  generalize si b * si c * (si b * si c) = y2 at *
  generalize co b * co c * (si b * si c) * co x = y3 at *
  generalize co B * co C = y4 at *
  generalize si B * si C * co x = y5 at *
  generalize co a * co a = y6 at *
  unfold Cl at *
  constructor <;> grind
def pS (P M N R : Rat) : Rat := si P * si M * si N * si R
def pC (P M N R : Rat) : Rat := co P * co M * co N * co R
/-- The products of the quarters. -/
theorem exq {A B C x a b c P M N R : Rat} (ha : a + a = A) (hb : b + b = B) (hc : c + c = C) (hT : Tri (10 * e0) A B C x) (hP : P + M = b + c) (hM : P - M = a) (hN : N + R = a) (hR : N - R = c - b) :
    Cl (3 * e0) (pC P M N R) (co b * co c * (co a + (co b * co c + si b * si c * co x)) / 2) ∧ Cl (3 * e0) (pS P M N R) (co b * co c * (co a - (co b * co c + si b * si c * co x)) / 2) := by
  have sq := half_sq ha hb hc hT
  obtain ⟨q1, q2, q3, q4⟩ := quart4 hP hM hN hR
  have eb := e0_bd
  have ba := bdq a
  have ub := u0_bd
  obtain ⟨⟨p1, p2⟩, ⟨p3, p4⟩, _⟩ := bd_prod b c
  unfold pC pS
  have i1 : co P * co M * co N * co R = 2 * (co P * co M) * (2 * (co N * co R)) / 4 := by grind
  have i2 : si P * si M * si N * si R = 2 * (si P * si M) * (2 * (si N * si R)) / 4 := by grind
  rw [i1, i2]
  have m1 := mul2 q1 q3 (by grind) (by grind) (by grind)
  have m2 := mul2 q2 q4 (by grind) (by grind) (by grind)
  clear q1 q2 q3 q4 i1 i2 hP hM hN hR hT ha hb hc
  generalize 2 * (co P * co M) * (2 * (co N * co R)) = z1 at *
  generalize 2 * (si P * si M) * (2 * (si N * si R)) = z2 at *
  generalize co b * co c = u at *
  generalize si b * si c = v at *
  generalize co a = α at *
  have j1 : (u - v + α) * (α + (u + v)) = α * α + 2 * (α * u) + u * u - v * v := by grind
  have j2 : (α - (u - v)) * (u + v - α) = v * v - u * u + 2 * (α * u) - α * α := by grind
  have j3 : u * (α + (u + v * co x)) / 2 = (α * u + u * u + u * v * co x) / 2 := by grind
  have j4 : u * (α - (u + v * co x)) / 2 = (α * u - u * u - u * v * co x) / 2 := by grind
  rw [j1] at m1
  rw [j2] at m2
  rw [j3, j4]
  generalize α * α = w1 at *
  generalize α * u = w2 at *
  generalize u * u = w3 at *
  generalize v * v = w4 at *
  generalize u * v * co x = w5 at *
  unfold Cl at *
  refine ⟨⟨?_, ?_⟩, ?_, ?_⟩ <;> grind
/-- A root. -/
theorem root_ex {y : Rat} (h0 : -(10 * e0) ≤ y) (h1 : y ≤ 1 + 10 * e0) : ∃ r : Rat, 0 ≤ r ∧ r ≤ 2 ∧ Cl (15 * e0) (r * r) y := by
  have eb := e0_bd
  have ub := u0_bd
  have ee := ee0
  obtain ⟨y', y0, y1, yc⟩ : ∃ y' : Rat, 0 ≤ y' ∧ y' ≤ 1 ∧ Cl (10 * e0) y' y := by
    rcases (Rat.le_total : 0 ≤ y ∨ y ≤ 0) with c | c
    · rcases (Rat.le_total : y ≤ 1 ∨ 1 ≤ y) with d | d
      · exact ⟨y, c, d, Cl.refl _ (by grind)⟩
      · exact ⟨1, by grind, by grind, by unfold Cl; constructor <;> grind⟩
    · exact ⟨0, by grind, by grind, by unfold Cl; constructor <;> grind⟩
  obtain ⟨q, q0, q1, qs⟩ := inv (y := 1 - 2 * y') (by grind) (by grind)
  have d := (dblq ((5400000 - q) / 2)).1
  rw [show (5400000 - q) / 2 + (5400000 - q) / 2 = 5400000 - q by grind] at d
  have k := (coq q).2
  have t0 : 0 ≤ (5400000 - q) / 2 := by grind
  have t1 : (5400000 - q) / 2 ≤ 5400000 := by grind
  have s0 := si_half t0 t1
  have b := bdq2 ((5400000 - q) / 2)
  refine ⟨si ((5400000 - q) / 2), s0, b.2.2, ?_⟩
  generalize si ((5400000 - q) / 2) * si ((5400000 - q) / 2) = w at *
  unfold Cl at *
  generalize co (5400000 - q) = z at *
  generalize si q = s at *
  constructor <;> grind
/-- An angle whose sine is not below 0 is one of half a turn. -/
theorem clampH {q τ : Rat} (h0 : -5400001 ≤ q) (h1 : q ≤ 16200001) (hs : -τ ≤ si q) (t0 : 0 ≤ τ) (t1 : τ ≤ 1 / 2 ^ 40) : ∃ q' : Rat, 0 ≤ q' ∧ q' ≤ 10800000 ∧ Cl (8000000 * (τ + 2 * e0)) q' q := by
  have eb := e0_bd
  have ub := u0_bd
  have ee := ee0
  rcases (Rat.le_total : 0 ≤ q ∨ q ≤ 0) with c | c
  · rcases (Rat.le_total : q ≤ 10800000 ∨ 10800000 ≤ q) with d | d
    · exact ⟨q, c, d, Cl.refl _ (by grind)⟩
    · have o := (oppq (q - 10800000)).2
      rw [show q - 10800000 + 10800000 = q by grind] at o
      have n := si_near (A := q - 10800000) (τ := τ + e0) (by grind) (by grind) (by unfold Cl at o; grind) (by grind)
      refine ⟨10800000, by grind, by grind, ?_⟩
      rcases n with n | n
      · unfold Cl; constructor <;> grind
      · exfalso; grind
  · have o := (negq q).2
    have n := si_near (A := -q) (τ := τ + e0) (by grind) (by grind) (by unfold Cl at o; grind) (by grind)
    refine ⟨0, by grind, by grind, ?_⟩
    rcases n with n | n
    · unfold Cl; constructor <;> grind
    · exfalso; grind
/-- The same, of a direction that comes from anywhere of one turn. -/
theorem clampT {q τ : Rat} (h0 : -10800000 ≤ q) (h1 : q ≤ 21600000) (hs : -τ ≤ si q) (t0 : 0 ≤ τ) (t1 : τ ≤ 1 / 2 ^ 40) : ∃ (q' : Rat) (m : Int), 0 ≤ q' ∧ q' ≤ 10800000 ∧ Cl (8000000 * (τ + 2 * e0)) q' (q + 21600000 * (m : Rat)) := by
  rcases (Rat.le_total : -5400000 ≤ q ∨ q ≤ -5400000) with c | c
  · rcases (Rat.le_total : q ≤ 16200000 ∨ 16200000 ≤ q) with d | d
    · obtain ⟨q', a, b, k⟩ := clampH (by grind) (by grind) hs t0 t1
      refine ⟨q', 0, a, b, ?_⟩
      rw [show ((0 : Int) : Rat) = 0 by rfl, show q + 21600000 * 0 = q by grind]
      exact k
    · have t := (turn_eq q (-1)).2
      rw [show ((-1 : Int) : Rat) = -1 by rfl] at t
      obtain ⟨q', a, b, k⟩ := clampH (q := q + 21600000 * -1) (by grind) (by grind) (by rw [t]; exact hs) t0 t1
      exact ⟨q', -1, a, b, k⟩
  · have t := (turn_eq q 1).2
    rw [show ((1 : Int) : Rat) = 1 by rfl] at t
    obtain ⟨q', a, b, k⟩ := clampH (q := q + 21600000 * 1) (by grind) (by grind) (by rw [t]; exact hs) t0 t1
    exact ⟨q', 1, a, b, k⟩
/-- Cosine and sine of near angles. -/
theorem near_q {d p q : Rat} (h : Cl d p q) (hd : d ≤ 1) : Cl (2000 * d + e1) (si p) (si q) ∧ Cl (2000 * d + e1) (co p) (co q) := by
  have k := Sq_near h hd
  have d0 : 0 ≤ d := by unfold Cl at h; grind
  have e := e1_bd
  unfold Sq Cq at k
  unfold Cl at *
  generalize si p = a at *
  generalize si q = b at *
  generalize co p = a' at *
  generalize co q = b' at *
  refine ⟨⟨?_, ?_⟩, ?_, ?_⟩ <;> grind
end Go.Proofs.YtipjnfabodfkcaaDoor
namespace Go.Proofs.YtipjnfabodfkcaaDoor
open SM TB TA
open Ev (lt keepE)
theorem lvX : pw 448 / 2 ^ 70 = 2 * pw 519 ∧ e0 ≤ pw 530 ∧ pw 530 ≤ pw 519 / 4 ∧ 0 < pw 519 ∧ 0 < pw 448 ∧ pw 448 ≤ 1 / 2 ^ 40 ∧ 8000000 * (pw 448 + 2 * e0) ≤ pw 425 ∧ 0 < pw 425 ∧ pw 425 ≤ 1 ∧ 2000 * pw 425 + e1 ≤ pw 413 ∧ 0 < pw 413 ∧ 20 * pw 413 ≤ pw 405 ∧ 0 < pw 405 ∧ 20 * pw 405 ≤ pw 400 ∧ pw 519 ≤ pw 413 ∧ 1000 * e0 ≤ pw 413 ∧ eT ≤ pw 519 := by decide +kernel
def qC (A B C : Rat) : Rat := pC ((A + B + C) / 4) ((B + C - A) / 4) ((A + C - B) / 4) ((A + B - C) / 4)
def qS (A B C : Rat) : Rat := pS ((A + B + C) / 4) ((B + C - A) / 4) ((A + C - B) / 4) ((A + B - C) / 4)
theorem q_rot (A B C : Rat) : qC C A B = qC A B C ∧ qS C A B = qS A B C := by
  unfold qC qS pC pS
  rw [show C + A + B = A + B + C by grind, show C + B - A = B + C - A by grind, show C + A - B = A + C - B by grind]
  constructor <;> grind
/-- A quarter of the excess, told by the products of the quarters of the sides. -/
def Exq (A B C ψ : Rat) : Prop := 0 ≤ ψ ∧ ψ ≤ 5400000 ∧ ∃ l : Rat, 0 ≤ l ∧ l ≤ 2 ∧ Cl (pw 400) (l * l * (co ψ * co ψ)) (qC A B C) ∧ Cl (pw 400) (l * l * (si ψ * si ψ)) (qS A B C)
theorem Exq.rot {A B C ψ : Rat} (h : Exq A B C ψ) : Exq C A B ψ := by
  unfold Exq at *
  rw [(q_rot A B C).1, (q_rot A B C).2]
  exact h
theorem half_bd {B : Rat} (h0 : 0 ≤ B) (h1 : B ≤ 10800000) : 0 ≤ si (B / 2) ∧ si (B / 2) ≤ 1 + 8192 * u0 ∧ -e0 ≤ co (B / 2) ∧ co (B / 2) ≤ 1 + 8192 * u0 := by
  have b := bdq (B / 2)
  exact ⟨si_half (by grind) (by grind), b.2.2, (co_lat (by grind) (by grind)).1, b.1.2⟩
theorem cc_bd {B C : Rat} (h0 : 0 ≤ B) (h1 : B ≤ 10800000) (k0 : 0 ≤ C) (k1 : C ≤ 10800000) : -(4 * e0) ≤ co (B / 2) * co (C / 2) ∧ co (B / 2) * co (C / 2) ≤ 1 + e0 ∧ 0 ≤ si (B / 2) * si (C / 2) ∧ si (B / 2) * si (C / 2) ≤ 1 + e0 := by
  obtain ⟨b1, b2, b3, b4⟩ := half_bd h0 h1
  obtain ⟨c1, c2, c3, c4⟩ := half_bd k0 k1
  have eb := e0_bd
  have ub := u0_bd
  have ee := ee0
  have m1 := Rat.mul_nonneg (show 0 ≤ co (B / 2) + e0 by grind) (show 0 ≤ co (C / 2) + e0 by grind)
  have m2 := mul_abs (a := co (B / 2)) (b := co (C / 2)) (A := 1 + 8192 * u0) (B := 1 + 8192 * u0) (by grind) b4 (by grind) c4
  have m3 := mul_abs (a := si (B / 2)) (b := si (C / 2)) (A := 1 + 8192 * u0) (B := 1 + 8192 * u0) (by grind) b2 (by grind) c2
  have m4 := Rat.mul_nonneg b1 c1
  have m5 := Rat.mul_nonneg (show 0 ≤ e0 by grind) (show 0 ≤ 1 - e0 by grind)
  have m6 := Rat.mul_nonneg (show 0 ≤ e0 by grind) (show 0 ≤ 5 / 4 - co (B / 2) by grind)
  have m7 := Rat.mul_nonneg (show 0 ≤ e0 by grind) (show 0 ≤ 5 / 4 - co (C / 2) by grind)
  have m8 : (1 + 8192 * u0) * (1 + 8192 * u0) ≤ 1 + e0 := by decide +kernel
  generalize (1 + 8192 * u0) * (1 + 8192 * u0) = w at *
  refine ⟨?_, by grind, m4, by grind⟩
  grind
/-- The vector of half the excess. -/
theorem vw {A B C x : Rat} (hT : Tri (10 * e0) A B C x) (hB : 0 ≤ B ∧ B ≤ 10800000) (hC : 0 ≤ C ∧ C ≤ 10800000) :
    Cl (20 * e0) ((co (B / 2) * co (C / 2) + si (B / 2) * si (C / 2) * co x) * (co (B / 2) * co (C / 2) + si (B / 2) * si (C / 2) * co x) + si (B / 2) * si (C / 2) * si x * (si (B / 2) * si (C / 2) * si x)) (co (A / 2) * co (A / 2)) := by
  have sq := half_sq (a := A / 2) (b := B / 2) (c := C / 2) (by grind) (by grind) (by grind) hT
  have bd := cc_bd hB.1 hB.2 hC.1 hC.2
  have un := unit x
  have eb := e0_bd
  have ub := u0_bd
  have ee := ee0
  generalize co (B / 2) * co (C / 2) = u at *
  generalize si (B / 2) * si (C / 2) = v at *
  have i : (u + v * co x) * (u + v * co x) + v * si x * (v * si x) = u * u + v * v + 2 * (u * v * co x) + v * v * (co x * co x + si x * si x - 1) := by grind
  rw [i]
  have m := mul_abs (a := v) (b := v) (A := 2) (B := 2) (by grind) (by grind) (by grind) (by grind)
  have m2 := mul_abs (a := v * v) (b := co x * co x + si x * si x - 1) (A := 4) (B := 8192 * u0) (by grind) (by grind) (by unfold Cl at un; grind) (by unfold Cl at un; grind)
  generalize v * v * (co x * co x + si x * si x - 1) = w at *
  generalize u * u + v * v + 2 * (u * v * co x) = w2 at *
  unfold Cl at *
  constructor <;> grind
theorem ex_psi {A B C x η : Rat} (hA : 0 ≤ A ∧ A ≤ 10800000) (hB : 0 ≤ B ∧ B ≤ 10800000) (hC : 0 ≤ C ∧ C ≤ 10800000) (hx : 0 ≤ x ∧ x ≤ 10800000) (hT : Tri (10 * e0) A B C x) (big : 1 / 2 ^ 70 ≤ co (A / 2)) (n0 : -10800000 ≤ η) (n1 : η ≤ 21600000)
    (k1 : Cl (pw 519) (co (A / 2) * co η) (co (B / 2) * co (C / 2) + si (B / 2) * si (C / 2) * co x)) (k2 : Cl (pw 519) (co (A / 2) * si η) (si (B / 2) * si (C / 2) * si x)) :
    ∃ (ψ : Rat) (m : Int), Exq A B C ψ ∧ Cl (pw 425) (2 * ψ) (η + 21600000 * (m : Rat)) := by
  obtain ⟨w1, w2, w3, w4, w5, w6, w7, w8, w9, w10, w11, w12, w13, w14, w15, w16, w17⟩ := lvX
  have eb := e0_bd
  have ub := u0_bd
  have ee := ee0
  have bd := cc_bd hB.1 hB.2 hC.1 hC.2
  have ba := half_bd hA.1 hA.2
  have sx := si_up hx.1 hx.2
  have hs : -(pw 448) ≤ si η := by
    have m := Rat.mul_nonneg bd.2.2.1 (show 0 ≤ si x + 22000 * u0 by grind)
    rcases (Rat.le_total : -(pw 448) ≤ si η ∨ si η ≤ -(pw 448)) with g | g
    · exact g
    · exfalso
      have m2 := Rat.mul_nonneg (show 0 ≤ co (A / 2) - 1 / 2 ^ 70 by grind) (show 0 ≤ -si η by grind)
      have m3 : si (B / 2) * si (C / 2) * (22000 * u0) ≤ 44000 * u0 := by
        have := Rat.mul_nonneg (show 0 ≤ 2 - si (B / 2) * si (C / 2) by grind) (show 0 ≤ 22000 * u0 by grind)
        grind
      unfold Cl at k2
      have m4 : co (A / 2) * si η ≤ 1 / 2 ^ 70 * si η := by grind
      have m5 : 1 / 2 ^ 70 * si η ≤ -(2 * pw 519) := by
        rw [← w1]
        grind
      have m6 : -(44000 * u0) ≤ si (B / 2) * si (C / 2) * si x := by grind
      generalize co (A / 2) * si η = z1 at *
      generalize si (B / 2) * si (C / 2) * si x = z2 at *
      clear m m2 m3 w1 bd ba
      grind
  obtain ⟨n', m, n'0, n'1, nc⟩ := clampT n0 n1 hs (by grind) w6
  refine ⟨n' / 2, m, ?_, by rw [show 2 * (n' / 2) = n' by grind]; exact nc.wide w7⟩
  have nq := (near_q (nc.wide w7) w9).2
  rw [(turn_eq η m).1] at nq
  replace nq := nq.wide w10
  obtain ⟨pc, ps⟩ := exq (a := A / 2) (b := B / 2) (c := C / 2) (P := (A + B + C) / 4) (M := (B + C - A) / 4) (N := (A + C - B) / 4) (R := (A + B - C) / 4) (by grind) (by grind) (by grind) hT (by grind) (by grind) (by grind) (by grind)
  have dq := dblq (n' / 2)
  rw [show n' / 2 + n' / 2 = n' by grind] at dq
  have q0 : 0 ≤ n' / 2 := by grind
  have q1 : n' / 2 ≤ 5400000 := by grind
  generalize n' / 2 = ψ at *
  generalize co (B / 2) * co (C / 2) = u at *
  generalize si (B / 2) * si (C / 2) = v at *
  generalize co (A / 2) = α at *
  have y0 := Rat.mul_nonneg (show 0 ≤ α by grind) (show 0 ≤ u + 4 * e0 by grind)
  have y1 := mul_abs (a := α) (b := u) (A := 1 + 8192 * u0) (B := 1 + e0) (by grind) ba.2.2.2 (by grind) bd.2.1
  have y2 : (1 + 8192 * u0) * (1 + e0) ≤ 1 + 10 * e0 := by decide +kernel
  have y3 := Rat.mul_nonneg (show 0 ≤ e0 by grind) (show 0 ≤ 2 - α by grind)
  obtain ⟨l, l0, l1, lc⟩ := root_ex (y := α * u) (by grind) (by grind)
  refine ⟨q0, q1, l, l0, l1, ?_, ?_⟩
  · have bs := bdq2 ψ
    have mm := mul_abs bs.1.1 bs.1.2 bs.1.1 bs.1.2
    have z := Cl.mul (A := 8) (B := 2) lc (Cl.trans dq.2.1 (Cl.add (Cl.refl 1 (e := 0) (by grind)) nq)) (by have := bdq2 η; grind) (by grind)
    have tt := mul_abs (a := α) (b := co η) (A := 2) (B := 2) (by grind) (by grind) (bdq2 η).1.1 (bdq2 η).1.2
    have z2 := Cl.mul (A := 4) (B := 4) (Cl.refl u (e := 0) (by grind)) k1 (by constructor <;> grind) (by grind)
    have i1 : l * l * (2 * (co ψ * co ψ)) = 2 * (l * l * (co ψ * co ψ)) := by grind
    have i2 : α * u * (1 + co η) = α * u + u * (α * co η) := by grind
    have i3 : u * (α + (u + v * co x)) / 2 = (α * u + u * (u + v * co x)) / 2 := by grind
    rw [i1, i2] at z
    rw [i3] at pc
    have : qC A B C = pC ((A + B + C) / 4) ((B + C - A) / 4) ((A + C - B) / 4) ((A + B - C) / 4) := rfl
    rw [this]
    clear this i1 i2 i3 mm y0 y1 y2 y3 ps k1 k2 hs dq nc nq bs sx lc
    generalize l * l * (co ψ * co ψ) = x1 at *
    generalize α * u = x2 at *
    generalize u * (α * co η) = x3 at *
    generalize u * (u + v * co x) = x4 at *
    generalize pC ((A + B + C) / 4) ((B + C - A) / 4) ((A + C - B) / 4) ((A + B - C) / 4) = x5 at *
    clear hT hA hB hC hx big bd ba w1
    unfold Cl at *
    constructor <;> grind
  · have bs := bdq2 ψ
    have mm := mul_abs bs.2.1 bs.2.2 bs.2.1 bs.2.2
    have z := Cl.mul (A := 8) (B := 2) lc (Cl.trans dq.1 (Cl.sub (Cl.refl 1 (e := 0) (by grind)) nq)) (by have := bdq2 η; grind) (by grind)
    have tt := mul_abs (a := α) (b := co η) (A := 2) (B := 2) (by grind) (by grind) (bdq2 η).1.1 (bdq2 η).1.2
    have z2 := Cl.mul (A := 4) (B := 4) (Cl.refl u (e := 0) (by grind)) k1 (by constructor <;> grind) (by grind)
    have i1 : l * l * (2 * (si ψ * si ψ)) = 2 * (l * l * (si ψ * si ψ)) := by grind
    have i2 : α * u * (1 - co η) = α * u - u * (α * co η) := by grind
    have i3 : u * (α - (u + v * co x)) / 2 = (α * u - u * (u + v * co x)) / 2 := by grind
    rw [i1, i2] at z
    rw [i3] at ps
    have : qS A B C = pS ((A + B + C) / 4) ((B + C - A) / 4) ((A + C - B) / 4) ((A + B - C) / 4) := rfl
    rw [this]
    clear this i1 i2 i3 mm y0 y1 y2 y3 pc k1 k2 hs dq nc nq bs sx lc
    generalize l * l * (si ψ * si ψ) = x1 at *
    generalize α * u = x2 at *
    generalize u * (α * co η) = x3 at *
    generalize u * (u + v * co x) = x4 at *
    generalize pS ((A + B + C) / 4) ((B + C - A) / 4) ((A + C - B) / 4) ((A + B - C) / 4) = x5 at *
    clear hT hA hB hC hx big bd ba w1
    unfold Cl at *
    constructor <;> grind
end Go.Proofs.YtipjnfabodfkcaaDoor

/-
  Two points seen from a third: the cosine formula of the triangle; and the way back. No program here.
-/
import Derived.Test.YtkjnheahaimpoaaGreatHd
namespace Go.Proofs.YtkjnheahaimpoaaGreat
open SM TB TA
theorem six_bd (x y t : Rat) : (-6 ≤ upT x y t ∧ upT x y t ≤ 6) ∧ (-6 ≤ noT x y t ∧ noT x y t ≤ 6) ∧ (-6 ≤ eaT y t ∧ eaT y t ≤ 6) := by
  have bx := bdq x
  have by' := bdq y
  have bt := bdq t
  have ub := u0_bd
  have m1 := mul_abs (a := si x) (b := si y) (A := 11 / 10) (B := 11 / 10) (by grind) (by grind) (by grind) (by grind)
  have m2 := mul_abs (a := co x) (b := co y) (A := 11 / 10) (B := 11 / 10) (by grind) (by grind) (by grind) (by grind)
  have m3 := mul_abs (a := co x * co y) (b := co t) (A := 121 / 100) (B := 11 / 10) (by grind) (by grind) (by grind) (by grind)
  have m4 := mul_abs (a := si y) (b := co x) (A := 11 / 10) (B := 11 / 10) (by grind) (by grind) (by grind) (by grind)
  have m5 := mul_abs (a := co y) (b := co t) (A := 11 / 10) (B := 11 / 10) (by grind) (by grind) (by grind) (by grind)
  have m6 := mul_abs (a := co y * co t) (b := si x) (A := 121 / 100) (B := 11 / 10) (by grind) (by grind) (by grind) (by grind)
  have m7 := mul_abs (a := co y) (b := si t) (A := 11 / 10) (B := 11 / 10) (by grind) (by grind) (by grind) (by grind)
  unfold upT noT eaT
  generalize si x * si y = a at *
  generalize co x * co y * co t = b at *
  generalize si y * co x = c at *
  generalize co y * co t * si x = d at *
  generalize co y * si t = e at *
  refine ⟨⟨?_, ?_⟩, ⟨?_, ?_⟩, ?_, ?_⟩ <;> grind
/-- The distance of two points, by their distances and bearings from a third. -/
theorem two_sees {x y t h z y2 t2 h2 z2 : Rat} (s1 : Sees x y t h z) (s2 : Sees x y2 t2 h2 z2) :
    Cl (100 * eT) (si h * si h2 + co h * co h2 * co (z - z2)) (si y * si y2 + co y * co y2 * co (t - t2)) := by
  obtain ⟨_, _, _, _, a1, a2, a3⟩ := s1
  obtain ⟨_, _, _, _, b1, b2, b3⟩ := s2
  have w : 5 * e0 ≤ eT ∧ 1000 * e0 ≤ eT ∧ 0 < eT ∧ eT ≤ 1 / 100 := by decide +kernel
  have ub := u0_bd
  have ee : e0 = 1048576 * u0 := rfl
  have eb := e0_bd
  obtain ⟨p1, p2, p3⟩ := six_bd x y t
  obtain ⟨q1, q2, q3⟩ := six_bd x y2 t2
  have bh := bdq2 h
  have bh2 := bdq2 h2
  have bz := bdq2 z
  have bz2 := bdq2 z2
  have n1 := Cl.mul 7 6 (a1.wide w.1) (b1.wide w.1) (by have := bh2.2; constructor <;> grind) p1
  have n2 := Cl.mul 7 6 a2 b2 (by have := mul_abs bh2.1.1 bh2.1.2 bz2.1.1 bz2.1.2; constructor <;> grind) p2
  have n3 := Cl.mul 7 6 a3 b3 (by have := mul_abs bh2.1.1 bh2.1.2 bz2.2.1 bz2.2.2; constructor <;> grind) p3
  have sz := (subq z z2).1
  have st := (subq t t2).1
  have cc := mul_abs bh.1.1 bh.1.2 bh2.1.1 bh2.1.2
  have d1 := mul_abs (a := co h * co h2) (b := co (z - z2) - (co z * co z2 + si z * si z2)) (A := 4) (B := 8000 * u0) (by grind) (by grind) (by unfold Cl at sz; grind) (by unfold Cl at sz; grind)
  have by1 := bdq2 y
  have by2 := bdq2 y2
  have cy := mul_abs by1.1.1 by1.1.2 by2.1.1 by2.1.2
  have d2 := mul_abs (a := co y * co y2) (b := co (t - t2) - (co t * co t2 + si t * si t2)) (A := 4) (B := 8000 * u0) (by grind) (by grind) (by unfold Cl at st; grind) (by unfold Cl at st; grind)
  have ux := unit x
  have bt := bdq2 t
  have bt2 := bdq2 t2
  have e1' := mul_abs (a := co y) (b := co t) (A := 2) (B := 2) by1.1.1 by1.1.2 bt.1.1 bt.1.2
  have e2' := mul_abs (a := co y2) (b := co t2) (A := 2) (B := 2) by2.1.1 by2.1.2 bt2.1.1 bt2.1.2
  have e3' := mul_abs (a := co y * co t) (b := co y2 * co t2) (A := 4) (B := 4) (by grind) (by grind) (by grind) (by grind)
  have e4' := mul_abs (a := si y) (b := si y2) (A := 2) (B := 2) by1.2.1 by1.2.2 by2.2.1 by2.2.2
  have d3 := mul_abs (a := co x * co x + si x * si x - 1) (b := si y * si y2 + co y * co t * (co y2 * co t2)) (A := 8192 * u0) (B := 20) (by unfold Cl at ux; grind) (by unfold Cl at ux; grind) (by grind) (by grind)
  have i1 : si h * si h2 + co h * co h2 * co (z - z2) = si h * si h2 + co h * co z * (co h2 * co z2) + co h * si z * (co h2 * si z2) + co h * co h2 * (co (z - z2) - (co z * co z2 + si z * si z2)) := by grind
  have i2 : si y * si y2 + co y * co y2 * co (t - t2) = upT x y t * upT x y2 t2 + noT x y t * noT x y2 t2 + eaT y t * eaT y2 t2 + co y * co y2 * (co (t - t2) - (co t * co t2 + si t * si t2)) - (co x * co x + si x * si x - 1) * (si y * si y2 + co y * co t * (co y2 * co t2)) := by
    unfold upT noT eaT
    grind
  rw [i1, i2]
  generalize si h * si h2 = x1 at *
  generalize co h * co z * (co h2 * co z2) = x2 at *
  generalize co h * si z * (co h2 * si z2) = x3 at *
  generalize co h * co h2 * (co (z - z2) - (co z * co z2 + si z * si z2)) = x4 at *
  generalize upT x y t * upT x y2 t2 = x5 at *
  generalize noT x y t * noT x y2 t2 = x6 at *
  generalize eaT y t * eaT y2 t2 = x7 at *
  generalize co y * co y2 * (co (t - t2) - (co t * co t2 + si t * si t2)) = x8 at *
  generalize (co x * co x + si x * si x - 1) * (si y * si y2 + co y * co t * (co y2 * co t2)) = x9 at *
  clear i1 i2 a1 a2 a3 b1 b2 b3 sz st ux cc cy e1' e2' e3' e4' p1 p2 p3 q1 q2 q3
  unfold Cl at *
  constructor <;> grind
end Go.Proofs.YtkjnheahaimpoaaGreat

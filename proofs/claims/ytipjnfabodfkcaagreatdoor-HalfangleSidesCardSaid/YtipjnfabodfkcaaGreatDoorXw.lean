/-
  Spherical triangles by sides: the cosine formula, quarters of the sides, and the excess. No program here. The excess of a spherical triangle: the computed arc holds the true one. No program here. Sides, angles, and the excess by half-angles: the computed arcs hold the true ones. No program here. The angles of a spherical triangle of two sides and an angle: what is computed holds the true ones, and their sum. No program here.
-/
import Derived.Test.YtipjnfabodfkcaaGreatDoorHv
import Derived.Test.YtipjnfabodfkcaaGreatDoorHf7
import Derived.Test.YtipjnfabodfkcaaGreatDoorXp
namespace Go.Proofs.YtipjnfabodfkcaaGreatDoor
open SM TB TA
def Tri (ε A B C x : Rat) : Prop := Cl ε (co A) (co B * co C + si B * si C * co x)
theorem tri_sees {B C x h z : Rat} (s : Sees (5400000 - B) (5400000 - C) x h z) : Tri (10 * e0) (5400000 - h) B C x := by
  obtain ⟨_, _, _, _, k1, _, _⟩ := s
  have ch := (coq h).2
  have b := coq B
  have c := coq C
  have u := u0_bd
  have ee := ee0
  have bB := bdq2 B
  have bC := bdq2 C
  have bx := bdq2 x
  have bB' := bdq2 (5400000 - B)
  have bC' := bdq2 (5400000 - C)
  have m1 := Cl.mul 2 2 b.1 c.1 bC'.2 bB.1
  have m2 := Cl.mul 2 2 b.2 c.2 bC'.1 bB.2
  have m4 := mul_abs (a := si B) (b := si C) (A := 2) (B := 2) bB.2.1 bB.2.2 bC.2.1 bC.2.2
  have m3 := Cl.mul 2 4 m2 (Cl.refl (co x) (e := 0) (by grind)) bx.1 (by grind)
  unfold Tri
  unfold upT at k1
  generalize si (5400000 - B) * si (5400000 - C) = X1 at *
  generalize co (5400000 - B) * co (5400000 - C) * co x = X2 at *
  generalize co B * co C = Y1 at *
  generalize si B * si C * co x = Y2 at *
  clear b c m2 m4 bB bC bx bB' bC'
  unfold Cl at *
  generalize co (5400000 - h) = H1 at *
  generalize si h = H2 at *
  constructor <;> grind
end Go.Proofs.YtipjnfabodfkcaaGreatDoor
namespace Go.Proofs.YtipjnfabodfkcaaGreatDoor
open SM TB TA
open Ev (lt keepE)
end Go.Proofs.YtipjnfabodfkcaaGreatDoor
namespace Go.Proofs.YtipjnfabodfkcaaGreatDoor
open SM TB TA
open Ev (lt keepE)
theorem lvA2 : 3 * pw 576 + 1073741824 * (pw 430 + e0) ≤ pw 399 ∧ 0 < pw 399 ∧ pw 576 ≤ 1 / 4 ∧ 3 * pw 576 ≤ pw 399 ∧ 8589934592 * pw 399 ≤ pw 366 ∧ 0 < pw 366 ∧ 2 * pw 366 + 2 * e1 + 2147483648 * e0 ≤ 1 / 4 ∧ 100000 * (2 * pw 366 + 2 * e1 + 2147483648 * e0 + 4 * e1) ≤ pw 170 * pw 170 ∧ 0 < pw 170 ∧ pw 399 ≤ 1 / 4 ∧ 0 < pw 430 ∧ pw 430 ≤ 1 / 4 ∧
    1073741824 * (20 * e0) ≤ e1 ∧ 2 * (60 * e1) + 2 * e1 + 2147483648 * e0 ≤ 1 / 4 ∧ 100000 * (2 * (60 * e1) + 2 * e1 + 2147483648 * e0 + 4 * e1) ≤ pw 590 * pw 590 := by decide +kernel
end Go.Proofs.YtipjnfabodfkcaaGreatDoor
namespace Go.Proofs.YtipjnfabodfkcaaGreatDoor
open SM TB TA
open Ev (lt keepE)
theorem sid_v {a b c d e f : Int} {A B C x : Rat} (h1 : 0 ≤ a ∧ a ≤ b ∧ b ≤ 10800000) (h2 : 0 ≤ c ∧ c ≤ d ∧ d ≤ 10800000) (hv : avalidB e f = true) (kB : Hs 0 a b B) (kC : Hs 0 c d C) (kx : Hs 0 e f x) (hA : 0 ≤ A ∧ A ≤ 10800000) (hT : Tri (10 * e0) A B C x) :
    (ahavR (sidH a b c d e f).1 (sidH a b c d e f).2.1).2.2 = 0 ∧ 0 ≤ (ahavR (sidH a b c d e f).1 (sidH a b c d e f).2.1).1 ∧ (ahavR (sidH a b c d e f).1 (sidH a b c d e f).2.1).1 ≤ (ahavR (sidH a b c d e f).1 (sidH a b c d e f).2.1).2.1 ∧ (ahavR (sidH a b c d e f).1 (sidH a b c d e f).2.1).2.1 ≤ 10800000 ∧ Hs (pw 590) (ahavR (sidH a b c d e f).1 (sidH a b c d e f).2.1).1 (ahavR (sidH a b c d e f).1 (sidH a b c d e f).2.1).2.1 A := by
  obtain ⟨v1, v2, v3, v4, v5, v6, v7, v8, v9, v10, v11, v12, v13, v14, v15⟩ := lvA2
  have eb := e0_bd
  have ub := u0_bd
  have ee := ee0
  have e1b := e1_bd
  have va : avalidB a b = true := avalid_mk (by omega) h1.2.1 (by omega)
  have vc : avalidB c d = true := avalid_mk (by omega) h2.2.1 (by omega)
  have vd : avalidB (a - d) (b - c) = true := avalid_mk (by omega) (by omega) (by omega)
  have H1 := hav_v (d := 0) vd (by grind) (by grind) (by have := kB.sub kC; rw [show (0 : Rat) + 0 = 0 by grind] at this; exact this)
  have H2 := hav_v (d := 0) hv (by grind) (by grind) kx
  have S1 := sin_at va kB
  have S2 := sin_at vc kC
  have m1 := mul_v (sin_one va) (sin_one vc) (by grind) (by grind) S1 S2
  have m2 := mul_v (mul_ones (sin_one va) (sin_one vc)) (hav_one hv) (e := 3 * (5 * e1)) (by grind) (by grind) m1 (H2.wide (by grind))
  have ad := add_v (hav_one vd) (mul_ones (mul_ones (sin_one va) (sin_one vc)) (hav_one hv)) H1 m2
  have key : Cl (20 * e0) ((1 - co A) / 2) ((1 - co (B - C)) / 2 + si B * si C * ((1 - co x) / 2)) := by
    have r := (subq B C).1
    unfold Tri at hT
    rw [show si B * si C * ((1 - co x) / 2) = (si B * si C - si B * si C * co x) / 2 by grind]
    clear H1 H2 S1 S2 m1 m2 ad kB kC
    generalize si B * si C * co x = x3 at *
    generalize si B * si C = x4 at *
    generalize co B * co C = x5 at *
    unfold Cl at *
    constructor <;> grind
  have N : Vl (sidH a b c d e f) (60 * e1) ((1 - co A) / 2) := (ad.near key).wide (by grind)
  have cX := (coq A).1
  have AH := ahav_v N (q := 5400000 - A) (t := e0) (d := pw 590) (by
    rw [show 1 - 2 * ((1 - co A) / 2) = co A by grind]
    exact cX.wide (by grind)) (by grind) (by grind) (by grind) (by grind) (by decide +kernel) v14 v15
  rw [show 5400000 - (5400000 - A) = A by grind] at AH
  exact AH
theorem Tri.wide {ε f A B C x : Rat} (h : Tri ε A B C x) (k : ε ≤ f) : Tri f A B C x := Cl.wide h k
end Go.Proofs.YtipjnfabodfkcaaGreatDoor

/-
  Circles of position: the point at a bearing holds the true one, and is neither surely inside nor outside. No program here.
-/
import Derived.Test.YtkfkddbglnbjgaaGreatCb
namespace Go.Proofs.YtkfkddbglnbjgaaGreat
open SM TB TA
def mulW (r s : Int × Int × Int) : Int × Int × Int := mulR r.1 r.2.1 s.1 s.2.1
/-- The sine of the latitude, and the vector of the difference of longitude, of the point at a bearing. -/
def atU (a b p q u v : Int) : Int × Int × Int := addR (mulW (sinR a b) (cosR p q)).1 (mulW (sinR a b) (cosR p q)).2.1 (mulW (mulW (cosR a b) (sinR p q)) (cosR u v)).1 (mulW (mulW (cosR a b) (sinR p q)) (cosR u v)).2.1
def atE (p q u v : Int) : Int × Int × Int := mulW (sinR p q) (sinR u v)
def atN (a b p q u v : Int) : Int × Int × Int := subR (mulW (cosR p q) (cosR a b)).1 (mulW (cosR p q) (cosR a b)).2.1 (mulW (mulW (sinR p q) (sinR a b)) (cosR u v)).1 (mulW (mulW (sinR p q) (sinR a b)) (cosR u v)).2.1
theorem lvAt : 5 * e1 ≤ 1 / 4 ∧ 1073741824 * (10 * e0) ≤ e1 ∧ 0 < e1 ∧ 0 < dS ∧ 2000 * dS + 5 * e1 ≤ pw 215 ∧ 0 < pw 215 ∧ 12 * pw 215 + 1073741824 * (40 * eT) ≤ 1 / 8 ∧ 100000000000000 * (40 * eT + 60 * e0) ≤ pw 270 * pw 270 ∧ 0 < pw 270 ∧ pw 270 ≤ 1 / 8 ∧ dS ≤ 1 / 8 ∧ 5 * e0 ≤ eT ∧ 100 * e0 ≤ eT ∧ 0 < eT ∧ 40 * eT ≤ 1 / 2 ^ 60 ∧ pw 215 ≤ 1 / 100 := by decide +kernel
/-- The point at a bearing, as a body seen: what the vector holds. -/
theorem at_v {a b p q u v : Int} {γ R β : Rat} (ha : avalidB a b = true) (hp : avalidB p q = true) (hu : avalidB u v = true) (kγ : Hs 0 a b γ) (kR : Hs 0 p q R) (kβ : Hs 0 u v β) :
    Vl (atU a b p q u v) (1000 * e1) (upT γ (5400000 - R) (-β)) ∧ Vl (atE p q u v) (1000 * e1) (eaT (5400000 - R) (-β)) ∧ Vl (atN a b p q u v) (1000 * e1) (noT γ (5400000 - R) (-β)) := by
  obtain ⟨w1, w2, w3, _⟩ := lvAt
  have s1 := sin_at ha kγ
  have c1 := cos_at ha kγ
  have s2 := sin_at hp kR
  have c2 := cos_at hp kR
  have s3 := sin_at hu kβ
  have c3 := cos_at hu kβ
  have os1 := sin_one ha
  have oc1 := cos_one ha
  have os2 := sin_one hp
  have oc2 := cos_one hp
  have os3 := sin_one hu
  have oc3 := cos_one hu
  have q1 := coq R
  have q2 := negq β
  have ub := u0_bd
  have ee : e0 = 1048576 * u0 := rfl
  have eb := e0_bd
  have bγ := bdq2 γ
  have bR := bdq2 R
  have bβ := bdq2 β
  have bR' := bdq2 (5400000 - R)
  have bβ' := bdq2 (-β)
  refine ⟨?_, ?_, ?_⟩
  · have m1 := mul_v os1 oc2 (by grind) w1 s1 c2
    have m2 := mul_v oc1 os2 (by grind) w1 c1 s2
    have m3 := mul_v (mul_ones oc1 os2) oc3 (e := 3 * (5 * e1)) (by grind) (by have := e1_bd; grind) m2 (c3.wide (by grind))
    have ad := add_v (mul_ones os1 oc2) (mul_ones (mul_ones oc1 os2) oc3) m1 m3
    have n1 := Cl.mul 2 2 (Cl.refl (si γ) (e := 0) (by grind)) q1.1 bR'.2 bγ.2
    have n2 := Cl.mul 2 2 (Cl.refl (co γ) (e := 0) (by grind)) q1.2 bR'.1 bγ.1
    have n4 := mul_abs (a := co γ) (b := si R) (A := 2) (B := 2) bγ.1.1 bγ.1.2 bR.2.1 bR.2.2
    have n3 := Cl.mul 2 4 n2 q2.1 bβ'.1 (by grind)
    have key : Cl e0 (upT γ (5400000 - R) (-β)) (si γ * co R + co γ * si R * co β) := by
      unfold upT
      generalize si γ * si (5400000 - R) = x1 at *
      generalize co γ * co (5400000 - R) * co (-β) = x2 at *
      generalize si γ * co R = x3 at *
      generalize co γ * si R * co β = x4 at *
      clear n2 q1 q2
      unfold Cl at *
      constructor <;> grind
    exact (ad.near key).wide (by grind)
  · have m1 := mul_v os2 os3 (by grind) w1 s2 s3
    have n1 := Cl.mul 2 2 q1.2 q2.2 bβ'.2 bR.2
    have key : Cl e0 (eaT (5400000 - R) (-β)) (si R * si β) := by
      unfold eaT
      rw [show si R * -si β = -(si R * si β) by grind] at n1
      generalize co (5400000 - R) * si (-β) = x1 at *
      generalize si R * si β = x2 at *
      unfold Cl at n1 ⊢
      constructor <;> grind
    exact (m1.near key).wide (by grind)
  · have m1 := mul_v oc2 oc1 (by grind) w1 c2 c1
    have m2 := mul_v os2 os1 (by grind) w1 s2 s1
    have m3 := mul_v (mul_ones os2 os1) oc3 (e := 3 * (5 * e1)) (by grind) (by have := e1_bd; grind) m2 (c3.wide (by grind))
    have ad := sub_v (mul_ones oc2 oc1) (mul_ones (mul_ones os2 os1) oc3) m1 m3
    have n1 := Cl.mul 2 2 q1.1 (Cl.refl (co γ) (e := 0) (by grind)) bγ.1 bR.1
    have n2 := Cl.mul 2 2 q1.2 q2.1 bβ'.1 bR.2
    have n4 := mul_abs (a := si R) (b := co β) (A := 2) (B := 2) bR.2.1 bR.2.2 bβ.1.1 bβ.1.2
    have n3 := Cl.mul 2 4 n2 (Cl.refl (si γ) (e := 0) (by grind)) bγ.2 (by grind)
    have key : Cl e0 (noT γ (5400000 - R) (-β)) (co R * co γ - si R * si γ * co β) := by
      unfold noT
      rw [show si R * co β * si γ = si R * si γ * co β by grind] at n3
      generalize si (5400000 - R) * co γ = x1 at *
      generalize co (5400000 - R) * co (-β) * si γ = x2 at *
      generalize co R * co γ = x3 at *
      generalize si R * si γ * co β = x4 at *
      clear n2 q1 q2
      unfold Cl at *
      constructor <;> grind
    exact (ad.near key).wide (by grind)
end Go.Proofs.YtkfkddbglnbjgaaGreat

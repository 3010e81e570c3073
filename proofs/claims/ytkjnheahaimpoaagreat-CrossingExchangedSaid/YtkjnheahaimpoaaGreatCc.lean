/-
  Circles of position: the point at a bearing holds the true one, and is neither surely inside nor outside. No program here.
-/
import Derived.Test.YtkjnheahaimpoaaGreatCb
namespace Go.Proofs.YtkjnheahaimpoaaGreat
open SM TB TA
def mulW (r s : Int × Int × Int) : Int × Int × Int := mulR r.1 r.2.1 s.1 s.2.1
/-- The sine of the latitude, and the vector of the difference of longitude, of the point at a bearing. -/
def atU (a b p q u v : Int) : Int × Int × Int := addR (mulW (sinR a b) (cosR p q)).1 (mulW (sinR a b) (cosR p q)).2.1 (mulW (mulW (cosR a b) (sinR p q)) (cosR u v)).1 (mulW (mulW (cosR a b) (sinR p q)) (cosR u v)).2.1
def atE (p q u v : Int) : Int × Int × Int := mulW (sinR p q) (sinR u v)
def atN (a b p q u v : Int) : Int × Int × Int := subR (mulW (cosR p q) (cosR a b)).1 (mulW (cosR p q) (cosR a b)).2.1 (mulW (mulW (sinR p q) (sinR a b)) (cosR u v)).1 (mulW (mulW (sinR p q) (sinR a b)) (cosR u v)).2.1
theorem lvAt : 5 * e1 ≤ 1 / 4 ∧ 1073741824 * (10 * e0) ≤ e1 ∧ 0 < e1 ∧ 0 < dS ∧ 2000 * dS + 5 * e1 ≤ pw 215 ∧ 0 < pw 215 ∧ 12 * pw 215 + 1073741824 * (40 * eT) ≤ 1 / 8 ∧ 100000000000000 * (40 * eT + 60 * e0) ≤ pw 270 * pw 270 ∧ 0 < pw 270 ∧ pw 270 ≤ 1 / 8 ∧ dS ≤ 1 / 8 ∧ 5 * e0 ≤ eT ∧ 100 * e0 ≤ eT ∧ 0 < eT ∧ 40 * eT ≤ 1 / 2 ^ 60 ∧ pw 215 ≤ 1 / 100 := by decide +kernel
/-- The point at a bearing, as a body seen: what the vector holds. -/
theorem at_v {a b p q u v : Int} {γ R β : Rat} (ha : avalidB a b = true) (hp : avalidB p q = true) (hu : avalidB u v = true) (kγ : Hs 0 a b γ) (kR : Hs 0 p q R) (kβ : Hs 0 u v β) :
    Vl (atU a b p q u v) (1000 * e1) (upT γ (5400000 - R) (-β)) ∧ Vl (atE p q u v) (1000 * e1) (eaT (5400000 - R) (-β)) ∧ Vl (atN a b p q u v) (1000 * e1) (noT γ (5400000 - R) (-β)) := by
  obtain ⟨w1, w2, w3, _⟩ := lvAt
  have s1 := sin_at ha kγ
  have c1 := cos_at ha kγ
  have s2 := sin_at hp kR
  have c2 := cos_at hp kR
  have s3 := sin_at hu kβ
  have c3 := cos_at hu kβ
  have os1 := sin_one ha
  have oc1 := cos_one ha
  have os2 := sin_one hp
  have oc2 := cos_one hp
  have os3 := sin_one hu
  have oc3 := cos_one hu
  have q1 := coq R
  have q2 := negq β
  have ub := u0_bd
  have ee : e0 = 1048576 * u0 := rfl
  have eb := e0_bd
  have bγ := bdq2 γ
  have bR := bdq2 R
  have bβ := bdq2 β
  have bR' := bdq2 (5400000 - R)
  have bβ' := bdq2 (-β)
  refine ⟨?_, ?_, ?_⟩
  · have m1 := mul_v os1 oc2 (by grind) w1 s1 c2
    have m2 := mul_v oc1 os2 (by grind) w1 c1 s2
    have m3 := mul_v (mul_ones oc1 os2) oc3 (e := 3 * (5 * e1)) (by grind) (by have := e1_bd; grind) m2 (c3.wide (by grind))
    have ad := add_v (mul_ones os1 oc2) (mul_ones (mul_ones oc1 os2) oc3) m1 m3
    have n1 := Cl.mul 2 2 (Cl.refl (si γ) (e := 0) (by grind)) q1.1 bR'.2 bγ.2
    have n2 := Cl.mul 2 2 (Cl.refl (co γ) (e := 0) (by grind)) q1.2 bR'.1 bγ.1
    have n4 := mul_abs (a := co γ) (b := si R) (A := 2) (B := 2) bγ.1.1 bγ.1.2 bR.2.1 bR.2.2
    have n3 := Cl.mul 2 4 n2 q2.1 bβ'.1 (by grind)
    have key : Cl e0 (upT γ (5400000 - R) (-β)) (si γ * co R + co γ * si R * co β) := by
      unfold upT
      generalize si γ * si (5400000 - R) = x1 at *
      generalize co γ * co (5400000 - R) * co (-β) = x2 at *
      generalize si γ * co R = x3 at *
      generalize co γ * si R * co β = x4 at *
      clear n2 q1 q2
      unfold Cl at *
      constructor <;> grind
    exact (ad.near key).wide (by grind)
  · have m1 := mul_v os2 os3 (by grind) w1 s2 s3
    have n1 := Cl.mul 2 2 q1.2 q2.2 bβ'.2 bR.2
    have key : Cl e0 (eaT (5400000 - R) (-β)) (si R * si β) := by
      unfold eaT
      rw [show si R * -si β = -(si R * si β) by grind] at n1
      generalize co (5400000 - R) * si (-β) = x1 at *
      generalize si R * si β = x2 at *
      unfold Cl at n1 ⊢
      constructor <;> grind
    exact (m1.near key).wide (by grind)
  · have m1 := mul_v oc2 oc1 (by grind) w1 c2 c1
    have m2 := mul_v os2 os1 (by grind) w1 s2 s1
    have m3 := mul_v (mul_ones os2 os1) oc3 (e := 3 * (5 * e1)) (by grind) (by have := e1_bd; grind) m2 (c3.wide (by grind))
    have ad := sub_v (mul_ones oc2 oc1) (mul_ones (mul_ones os2 os1) oc3) m1 m3
    have n1 := Cl.mul 2 2 q1.1 (Cl.refl (co γ) (e := 0) (by grind)) bγ.1 bR.1
    have n2 := Cl.mul 2 2 q1.2 q2.1 bβ'.1 bR.2
    have n4 := mul_abs (a := si R) (b := co β) (A := 2) (B := 2) bR.2.1 bR.2.2 bβ.1.1 bβ.1.2
    have n3 := Cl.mul 2 4 n2 (Cl.refl (si γ) (e := 0) (by grind)) bγ.2 (by grind)
    have key : Cl e0 (noT γ (5400000 - R) (-β)) (co R * co γ - si R * si γ * co β) := by
      unfold noT
      rw [show si R * co β * si γ = si R * si γ * co β by grind] at n3
      generalize si (5400000 - R) * co γ = x1 at *
      generalize co (5400000 - R) * co (-β) * si γ = x2 at *
      generalize co R * co γ = x3 at *
      generalize si R * si γ * co β = x4 at *
      clear n2 q1 q2
      unfold Cl at *
      constructor <;> grind
    exact (ad.near key).wide (by grind)
/-- The distance of the point is the radius. -/
theorem at_dist {γ R β h z : Rat} (s : Sees γ (5400000 - R) (-β) h z) : Cl (40 * eT) (upT h γ z) (co R) := by
  obtain ⟨_, _, _, _, k1, k2, _⟩ := s
  obtain ⟨w1, w2, w3, w4, w5, w6, w7, w8, w9, w10, w11, w12, w13, w14, w15, w16⟩ := lvAt
  have q1 := coq R
  have un := unit γ
  have bγ := bdq2 γ
  have bR := bdq2 R
  have bβ := bdq2 (-β)
  have bR' := bdq2 (5400000 - R)
  have ub := u0_bd
  have ee : e0 = 1048576 * u0 := rfl
  have eb := e0_bd
  have m1 := mul_abs (a := si h - upT γ (5400000 - R) (-β)) (b := si γ) (A := 5 * e0) (B := 2) (by unfold Cl at k1; grind) (by unfold Cl at k1; grind) bγ.2.1 bγ.2.2
  have m2 := mul_abs (a := co h * co z - noT γ (5400000 - R) (-β)) (b := co γ) (A := eT) (B := 2) (by unfold Cl at k2; grind) (by unfold Cl at k2; grind) bγ.1.1 bγ.1.2
  have m3 := mul_abs (a := co γ * co γ + si γ * si γ - 1) (b := si (5400000 - R)) (A := 8192 * u0) (B := 2) (by unfold Cl at un; grind) (by unfold Cl at un; grind) bR'.2.1 bR'.2.2
  have i : upT h γ z - si (5400000 - R) = (si h - upT γ (5400000 - R) (-β)) * si γ + (co h * co z - noT γ (5400000 - R) (-β)) * co γ + (co γ * co γ + si γ * si γ - 1) * si (5400000 - R) := by
    unfold upT noT
    grind
  have q := q1.1
  unfold Cl at q ⊢
  generalize (si h - upT γ (5400000 - R) (-β)) * si γ = x1 at *
  generalize (co h * co z - noT γ (5400000 - R) (-β)) * co γ = x2 at *
  generalize (co γ * co γ + si γ * si γ - 1) * si (5400000 - R) = x3 at *
  clear k1 k2 un q1
  constructor <;> grind
/-- The place at a bearing is on neither side. -/
theorem at_side {a b p q l k e f : Int} {γ R β h z : Rat} (hl : latB l k = true) (ha : latB a b = true) (hp : avalidB p q = true) (he : avalidB e f = true) (kγ : Hs 0 a b γ) (kR : Hs 0 p q R) (kh : Hs dS l k h) (kz : 21600000 ≤ f - e ∨ ∃ m : Int, Hs dS e f (z + 21600000 * (m : Rat))) (s : Sees γ (5400000 - R) (-β) h z) :
    sidS (cupE l k a b e f) (cosR p q) = 0 := by
  obtain ⟨w1, w2, w3, w4, w5, w6, w7, w8, w9, w10, w11, w12, w13, w14, w15, w16⟩ := lvAt
  have D := at_dist s
  have l1 := (lat_bd hl).1
  have l2 := (lat_bd ha).1
  have S1 := (sin_v l1 (show 0 ≤ dS by grind) (by grind) kh).wide w5
  have C1 := (cos_v l1 (show 0 ≤ dS by grind) (by grind) kh).wide w5
  have S2 := (sin_at l2 kγ).wide (show 5 * e1 ≤ pw 215 by grind)
  have C2 := (cos_at l2 kγ).wide (show 5 * e1 ≤ pw 215 by grind)
  have C3 : Vl (cosR e f) (pw 215) (co z) := by
    rcases kz with kz | ⟨m, kz⟩
    · rw [cos_full he kz]
      have b := bdq z
      have ub := u0_bd
      refine ⟨rfl, val_mk (by dsimp only; omega) (by dsimp only; omega) (by dsimp only; omega), ?_⟩
      unfold Hs
      dsimp only
      rw [show ((-1073741824 : Int) : Rat) = -1073741824 by rfl, show ((1073741824 : Int) : Rat) = 1073741824 by rfl]
      have : 1073741824 * (8192 * u0) ≤ pw 215 := by decide +kernel
      constructor <;> grind
    · have c := (cos_v he (show 0 ≤ dS by grind) (by grind) kz).wide w5
      rw [(turn_eq z m).1] at c
      exact c
  have o1 := sin_one l1
  have o2 := sin_one l2
  have o3 := cos_one l1
  have o4 := cos_one l2
  have o5 := cos_one he
  have m1 := mul_v o1 o2 (by grind) (by grind) S1 S2
  have m2 := mul_v o3 o4 (by grind) (by grind) C1 C2
  have m3 := mul_v (mul_ones o3 o4) o5 (e := 3 * pw 215) (by grind) (by grind) m2 (C3.wide (by grind))
  have ad := add_v (mul_ones o1 o2) (mul_ones (mul_ones o3 o4) o5) m1 m3
  have V : Vl (cupE l k a b e f) (3 * pw 215 + 3 * (3 * pw 215)) (upT h γ z) := ad
  have R' := (cos_at hp kR).2.2
  have V' := V.2.2
  unfold Cl at D
  unfold Hs at R' V'
  have g1 : (cupE l k a b e f).1 ≤ (cosR p q).2.1 := of_c (e := 1 / 2) (by have := e1_bd; grind) (by grind)
  have g2 : (cosR p q).1 ≤ (cupE l k a b e f).2.1 := of_c (e := 1 / 2) (by have := e1_bd; grind) (by grind)
  unfold sidS
  rw [if_neg (by omega), if_neg (by omega)]
/-- And it is within the latitudes of the circle. -/
theorem at_lat {a b p q l k : Int} {γ R β h z : Rat} (ha : latB a b = true) (h0 : 0 ≤ p) (h1 : q ≤ 10800000) (kγ : Hs 0 a b γ) (kR : Hs 0 p q R) (kh : Hs dS l k h) (s : Sees γ (5400000 - R) (-β) h z) : a - q ≤ k ∧ l ≤ b + q := by
  obtain ⟨w1, w2, w3, w4, w5, w6, w7, w8, w9, w10, w11, w12, w13, w14, w15, w16⟩ := lvAt
  have D := at_dist s
  have lb := lat_bd ha
  have A0 := le_c lb.2.1
  have A1 := le_c lb.2.2.2
  have P0 := le_c h0
  have P1 := le_c h1
  rw [show ((-5400000 : Int) : Rat) = -5400000 by rfl] at A0
  rw [show ((5400000 : Int) : Rat) = 5400000 by rfl] at A1
  rw [show ((0 : Int) : Rat) = 0 by rfl] at P0
  rw [show ((10800000 : Int) : Rat) = 10800000 by rfl] at P1
  unfold Hs at kγ kR kh
  have N := lat_near (φ := h) (γ := γ) (t := z) (R := R) (d := pw 270) (ε := 40 * eT) s.1 s.2.1 (by grind) (by grind) (by grind) (by grind) (by unfold Cl at D; grind) (by grind) w8
  constructor
  · refine of_c (e := 1 / 2) ?_ (by grind)
    rw [Rat.intCast_sub]
    grind
  · refine of_c (e := 1 / 2) ?_ (by grind)
    rw [Rat.intCast_add]
    grind
end Go.Proofs.YtkjnheahaimpoaaGreat

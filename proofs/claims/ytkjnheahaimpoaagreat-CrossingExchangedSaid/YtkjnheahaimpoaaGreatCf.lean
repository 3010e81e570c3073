/-
  The point at a bearing, when distance and bearing are held but for a little. No program here.
-/
import Derived.Test.YtkjnheahaimpoaaGreatCc
import Derived.Test.YtkjnheahaimpoaaGreatCe
namespace Go.Proofs.YtkjnheahaimpoaaGreat
open SM TB TA
/-- The point at a bearing, as a body seen: what the vector holds. -/
theorem at_w {a b p q u v : Int} {γ R β δ ε : Rat} (ha : avalidB a b = true) (hp : avalidB p q = true) (hu : avalidB u v = true) (d0 : 0 ≤ δ) (d1 : δ ≤ 1) (hε : 2000 * δ + 5 * e1 ≤ ε) (ε1 : ε ≤ 1 / 100) (kγ : Hs δ a b γ) (kR : Hs δ p q R) (kβ : Hs δ u v β) :
    Vl (atU a b p q u v) (12 * ε + e1) (upT γ (5400000 - R) (-β)) ∧ Vl (atE p q u v) (12 * ε + e1) (eaT (5400000 - R) (-β)) ∧ Vl (atN a b p q u v) (12 * ε + e1) (noT γ (5400000 - R) (-β)) := by
  obtain ⟨_, w2, w3, _⟩ := lvAt
  have e1b := e1_bd
  have ε0 : 0 ≤ ε := by grind
  have w1 : ε ≤ 1 / 4 := by grind
  have s1 := (sin_v ha d0 d1 kγ).wide hε
  have c1 := (cos_v ha d0 d1 kγ).wide hε
  have s2 := (sin_v hp d0 d1 kR).wide hε
  have c2 := (cos_v hp d0 d1 kR).wide hε
  have s3 := (sin_v hu d0 d1 kβ).wide hε
  have c3 := (cos_v hu d0 d1 kβ).wide hε
  have os1 := sin_one ha
  have oc1 := cos_one ha
  have os2 := sin_one hp
  have oc2 := cos_one hp
  have os3 := sin_one hu
  have oc3 := cos_one hu
  have q1 := coq R
  have q2 := negq β
  have ub := u0_bd
  have ee : e0 = 1048576 * u0 := rfl
  have eb := e0_bd
  have bγ := bdq2 γ
  have bR := bdq2 R
  have bβ := bdq2 β
  have bR' := bdq2 (5400000 - R)
  have bβ' := bdq2 (-β)
  refine ⟨?_, ?_, ?_⟩
  · have m1 := mul_v os1 oc2 (by grind) w1 s1 c2
    have m2 := mul_v oc1 os2 (by grind) w1 c1 s2
    have m3 := mul_v (mul_ones oc1 os2) oc3 (e := 3 * ε) (by grind) (by grind) m2 (c3.wide (by grind))
    have ad := add_v (mul_ones os1 oc2) (mul_ones (mul_ones oc1 os2) oc3) m1 m3
    have n1 := Cl.mul 2 2 (Cl.refl (si γ) (e := 0) (by grind)) q1.1 bR'.2 bγ.2
    have n2 := Cl.mul 2 2 (Cl.refl (co γ) (e := 0) (by grind)) q1.2 bR'.1 bγ.1
    have n4 := mul_abs (a := co γ) (b := si R) (A := 2) (B := 2) bγ.1.1 bγ.1.2 bR.2.1 bR.2.2
    have n3 := Cl.mul 2 4 n2 q2.1 bβ'.1 (by grind)
    have key : Cl e0 (upT γ (5400000 - R) (-β)) (si γ * co R + co γ * si R * co β) := by
      unfold upT
      generalize si γ * si (5400000 - R) = x1 at *
      generalize co γ * co (5400000 - R) * co (-β) = x2 at *
      generalize si γ * co R = x3 at *
      generalize co γ * si R * co β = x4 at *
      clear n2 q1 q2
      unfold Cl at *
      constructor <;> grind
    exact (ad.near key).wide (by grind)
  · have m1 := mul_v os2 os3 (by grind) w1 s2 s3
    have n1 := Cl.mul 2 2 q1.2 q2.2 bβ'.2 bR.2
    have key : Cl e0 (eaT (5400000 - R) (-β)) (si R * si β) := by
      unfold eaT
      rw [show si R * -si β = -(si R * si β) by grind] at n1
      generalize co (5400000 - R) * si (-β) = x1 at *
      generalize si R * si β = x2 at *
      unfold Cl at n1 ⊢
      constructor <;> grind
    exact (m1.near key).wide (by grind)
  · have m1 := mul_v oc2 oc1 (by grind) w1 c2 c1
    have m2 := mul_v os2 os1 (by grind) w1 s2 s1
    have m3 := mul_v (mul_ones os2 os1) oc3 (e := 3 * ε) (by grind) (by grind) m2 (c3.wide (by grind))
    have ad := sub_v (mul_ones oc2 oc1) (mul_ones (mul_ones os2 os1) oc3) m1 m3
    have n1 := Cl.mul 2 2 q1.1 (Cl.refl (co γ) (e := 0) (by grind)) bγ.1 bR.1
    have n2 := Cl.mul 2 2 q1.2 q2.1 bβ'.1 bR.2
    have n4 := mul_abs (a := si R) (b := co β) (A := 2) (B := 2) bR.2.1 bR.2.2 bβ.1.1 bβ.1.2
    have n3 := Cl.mul 2 4 n2 (Cl.refl (si γ) (e := 0) (by grind)) bγ.2 (by grind)
    have key : Cl e0 (noT γ (5400000 - R) (-β)) (co R * co γ - si R * si γ * co β) := by
      unfold noT
      rw [show si R * co β * si γ = si R * si γ * co β by grind] at n3
      generalize si (5400000 - R) * co γ = x1 at *
      generalize co (5400000 - R) * co (-β) * si γ = x2 at *
      generalize co R * co γ = x3 at *
      generalize si R * si γ * co β = x4 at *
      clear n2 q1 q2
      unfold Cl at *
      constructor <;> grind
    exact (ad.near key).wide (by grind)
theorem back_t {x y t h z : Rat} (s : Sees x y t h z) : Cl (50 * eT) (si y) (si h * si x + co h * co z * co x) ∧ Cl (50 * eT) (co y * co t) (si h * co x - co h * co z * si x) ∧ Cl (50 * eT) (co y * si t) (-(co h * si z)) := by
  obtain ⟨h0, h1, z0, z1, k1, k2, k3⟩ := s
  have w : 5 * e0 ≤ eT ∧ 16384 * u0 ≤ eT := by decide +kernel
  have eb := e0_bd
  have t0 := lv.2.1
  have un := unit x
  have bx := bdq2 x
  have bys := bdq2 y
  have bt := bdq2 t
  have aux : ∀ {p r X : Rat} {e : Rat}, 0 ≤ e → Cl e p r → -2 ≤ X ∧ X ≤ 2 → Cl (2 * e) (p * X) (r * X) := fun {p r X e} he hc hX => by
    have m := mul_abs (a := p - r) (b := X) (A := e) (B := 2) hc.1 hc.2 hX.1 hX.2
    unfold Cl
    rw [show p * X - r * X = (p - r) * X by grind]
    generalize (p - r) * X = v at *
    constructor <;> grind
  have a1 := aux (by grind) k1 bx.2
  have a2 := aux (by grind) k2 bx.1
  have a3 := aux (by grind) k1 bx.1
  have a4 := aux (by grind) k2 bx.2
  have a5 := aux (e := 8192 * u0) (by have := u0_bd; grind) un bys.2
  have b5 := mul_abs bys.1.1 bys.1.2 bt.1.1 bt.1.2
  have a6 := aux (X := co y * co t / 2) (e := 8192 * u0) (by have := u0_bd; grind) un (by constructor <;> grind)
  clear aux
  refine ⟨?_, ?_, ?_⟩
  · have e : upT x y t * si x + noT x y t * co x = (co x * co x + si x * si x) * si y := by unfold upT noT; grind
    unfold Cl at *
    generalize upT x y t * si x = v1 at *
    generalize noT x y t * co x = v2 at *
    generalize (co x * co x + si x * si x) * si y = v3 at *
    generalize si h * si x = v4 at *
    generalize co h * co z * co x = v5 at *
    constructor <;> grind
  · have e : upT x y t * co x - noT x y t * si x = (co x * co x + si x * si x) * (co y * co t / 2) * 2 := by unfold upT noT; grind
    unfold Cl at *
    generalize upT x y t * co x = v1 at *
    generalize noT x y t * si x = v2 at *
    generalize (co x * co x + si x * si x) * (co y * co t / 2) = v3 at *
    generalize si h * co x = v4 at *
    generalize co h * co z * si x = v5 at *
    generalize co y * co t = v6 at *
    constructor <;> grind
  · have n := k3.neg.symm
    unfold eaT at n
    rw [show - -(co y * si t) = co y * si t by grind] at n
    exact n.wide (by grind)
/-- **Declination and hour angle are found again.** -/
theorem lvCf : 0 < eT ∧ 100 * e0 ≤ eT ∧ 2000 * pw 160 + 5 * e1 ≤ pw 149 ∧ pw 149 ≤ 1 / 100 ∧ 100000 * (12 * pw 149 + e1 + 1073741824 * (60 * eT) + 4 * e1) ≤ pw 64 * pw 64 ∧ 0 < pw 64 ∧ pw 64 ≤ 1 / 8 ∧ 12 * pw 149 + e1 + 1073741824 * (60 * eT) ≤ 1 / 4 ∧ 12 * pw 149 + e1 + 1073741824 * (60 * eT) ≤ 1 / 2 ^ 91 ∧ 2 ^ 64 * (12 * pw 149 + e1 + 1073741824 * (60 * eT) + 2 * e1) ≤ pw 64 ∧ 0 < pw 149 ∧ 0 < pw 160 ∧ pw 160 ≤ 1 ∧ 0 < e1 := by decide +kernel
/-- The point is held. -/
theorem at_pt {c p q u v : Int} {y t h z : Rat} {m : Int} (hc : latB c c = true) (hp : avalidB p q = true) (hu : avalidB u v = true) (y0 : -5400000 ≤ y) (y1 : y ≤ 5400000) (s : Sees (c : Rat) y t h z) (kR : Hs (pw 160) p q (5400000 - h)) (kβ : Hs (pw 160) u v (z + 21600000 * (m : Rat))) :
    LatR (asinR (atU c c p q u v).1 (atU c c p q u v).2.1) ∧ Hs (pw 64) (asinR (atU c c p q u v).1 (atU c c p q u v).2.1).1 (asinR (atU c c p q u v).1 (atU c c p q u v).2.1).2.1 y ∧ DirR (bearR (atE p q u v).1 (atE p q u v).2.1 (atN c c p q u v).1 (atN c c p q u v).2.1) ∧ Dr (pw 64) (bearR (atE p q u v).1 (atE p q u v).2.1 (atN c c p q u v).1 (atN c c p q u v).2.1).1 (bearR (atE p q u v).1 (atE p q u v).2.1 (atN c c p q u v).1 (atN c c p q u v).2.1).2.1 (-t) := by
  obtain ⟨w1, w2, w3, w4, w5, w6, w7, w8, w9, w10, w11, w12, w13, w14⟩ := lvCf
  have eb := e0_bd
  have ub := u0_bd
  have ee : e0 = 1048576 * u0 := rfl
  obtain ⟨V1, V2, V3⟩ := at_w (lat_bd hc).1 hp hu (show 0 ≤ pw 160 by grind) w13 w3 w4 ((Hs.at (Int.le_refl c) (Int.le_refl c)).wide (by grind) (Int.le_refl _) (Int.le_refl _)) kR kβ
  obtain ⟨B1, B2, B3⟩ := back_t s
  have tq := turn_eq (-z) (-m)
  rw [Rat.intCast_neg, show -z + 21600000 * -(m : Rat) = -(z + 21600000 * (m : Rat)) by grind] at tq
  have nz := negq z
  have nt := negq t
  have bc := bdq2 (c : Rat)
  have bh := bdq2 h
  have by' := bdq2 y
  have ch := mul_abs bc.1.1 bc.1.2 bh.1.1 bh.1.2
  have cs := mul_abs bh.1.1 bh.1.2 bc.2.1 bc.2.2
  rw [show 5400000 - (5400000 - h) = h by grind] at V1 V2 V3
  have E1 : Cl (55 * eT) (si y) (upT (c : Rat) h (-(z + 21600000 * (m : Rat)))) := by
    have d := mul_abs (a := co (c : Rat) * co h) (b := co (-z) - co z) (A := 4) (B := 1200 * u0) (by grind) (by grind) (by unfold Cl at nz; grind) (by unfold Cl at nz; grind)
    unfold upT
    rw [tq.1]
    have i : si (c : Rat) * si h + co (c : Rat) * co h * co (-z) = si h * si (c : Rat) + co h * co z * co (c : Rat) + co (c : Rat) * co h * (co (-z) - co z) := by grind
    rw [i]
    generalize co (c : Rat) * co h * (co (-z) - co z) = x1 at *
    generalize si h * si (c : Rat) + co h * co z * co (c : Rat) = x2 at *
    clear i V1 V2 V3 B2 B3
    unfold Cl at *
    constructor <;> grind
  have E2 : Cl (55 * eT) (co y * co (-t)) (noT (c : Rat) h (-(z + 21600000 * (m : Rat)))) := by
    have d := mul_abs (a := co h * si (c : Rat)) (b := co (-z) - co z) (A := 4) (B := 1200 * u0) (by grind) (by grind) (by unfold Cl at nz; grind) (by unfold Cl at nz; grind)
    have d2 := mul_abs (a := co y) (b := co (-t) - co t) (A := 2) (B := 1200 * u0) by'.1.1 by'.1.2 (by unfold Cl at nt; grind) (by unfold Cl at nt; grind)
    unfold noT
    rw [tq.1]
    have i : si h * co (c : Rat) - co h * co (-z) * si (c : Rat) = si h * co (c : Rat) - co h * co z * si (c : Rat) - co h * si (c : Rat) * (co (-z) - co z) := by grind
    have j : co y * co (-t) = co y * co t + co y * (co (-t) - co t) := by grind
    rw [i, j]
    generalize co h * si (c : Rat) * (co (-z) - co z) = x1 at *
    generalize co y * (co (-t) - co t) = x3 at *
    generalize si h * co (c : Rat) - co h * co z * si (c : Rat) = x2 at *
    clear i j V1 V2 V3 B1 B3
    unfold Cl at *
    constructor <;> grind
  have E3 : Cl (55 * eT) (co y * si (-t)) (eaT h (-(z + 21600000 * (m : Rat)))) := by
    have d := mul_abs (a := co h) (b := si (-z) - -si z) (A := 2) (B := 1200 * u0) bh.1.1 bh.1.2 (by unfold Cl at nz; grind) (by unfold Cl at nz; grind)
    have d2 := mul_abs (a := co y) (b := si (-t) - -si t) (A := 2) (B := 1200 * u0) by'.1.1 by'.1.2 (by unfold Cl at nt; grind) (by unfold Cl at nt; grind)
    unfold eaT
    rw [tq.2]
    have i : -(co h * si (-z)) = co h * si z - co h * (si (-z) - -si z) := by grind
    have j : co y * si (-t) = -(co y * si t) + co y * (si (-t) - -si t) := by grind
    rw [i, j]
    generalize co h * (si (-z) - -si z) = x1 at *
    generalize co y * (si (-t) - -si t) = x3 at *
    generalize co h * si z = x2 at *
    generalize co y * si t = x4 at *
    clear i j V1 V2 V3 B1 B2
    unfold Cl at *
    constructor <;> grind
  have A := asin_v V1 (E1.wide (show 55 * eT ≤ 60 * eT by grind)) y0 y1 (by grind) (by grind) (by grind) w8 w5
  -- the length may be a hair below 0
  obtain ⟨ρ, r0, r1, r2, r3⟩ : ∃ ρ : Rat, 0 ≤ ρ ∧ ρ ≤ 4 ∧ Cl (60 * eT) (ρ * co (-t)) (noT (c : Rat) h (-(z + 21600000 * (m : Rat)))) ∧ Cl (60 * eT) (ρ * si (-t)) (eaT h (-(z + 21600000 * (m : Rat)))) := by
    have cl := co_lat y0 y1
    have bt := bdq2 (-t)
    rcases (Rat.le_total : 0 ≤ co y ∨ co y ≤ 0) with g | g
    · exact ⟨co y, g, by grind, E2.wide (by grind), E3.wide (by grind)⟩
    · have m1 := mul_abs (a := co y) (b := co (-t)) (A := e0) (B := 2) cl.1 (by grind) bt.1.1 bt.1.2
      have m2 := mul_abs (a := co y) (b := si (-t)) (A := e0) (B := 2) cl.1 (by grind) bt.2.1 bt.2.2
      refine ⟨0, by grind, by grind, ?_, ?_⟩
      · unfold Cl at *
        constructor <;> grind
      · unfold Cl at *
        constructor <;> grind
  have Z := bear_v V2 V3 r3 r2 r0 r1 (by grind) (by grind) w9
  exact ⟨A.1, A.2, Z.1, Z.2.wide w10⟩
end Go.Proofs.YtkjnheahaimpoaaGreat

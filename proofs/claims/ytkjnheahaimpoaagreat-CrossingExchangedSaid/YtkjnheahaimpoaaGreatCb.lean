/-
  Circles of position: how far a point within a circle is from its centre, in latitude and in longitude. No program here.
-/
import Derived.Test.YtkjnheahaimpoaaGreatCa
namespace Go.Proofs.YtkjnheahaimpoaaGreat
open SM TB TA
theorem cc_low {φ γ : Rat} (f0 : -5400000 ≤ φ) (f1 : φ ≤ 5400000) (g0 : -5400000 ≤ γ) (g1 : γ ≤ 5400000) : -(6 * e0) ≤ co φ * co γ ∧ co φ * co γ ≤ 5 / 4 := by
  have cf := co_lat f0 f1
  have cg := co_lat g0 g1
  have bf := bdq φ
  have bg := bdq γ
  have eb := e0_bd
  have ub := u0_bd
  have m := Rat.mul_nonneg (show 0 ≤ co φ + e0 by grind) (show 0 ≤ co γ + e0 by grind)
  have m1 := Rat.mul_nonneg (show 0 ≤ e0 by grind) (show 0 ≤ 2 - co φ by grind)
  have m2 := Rat.mul_nonneg (show 0 ≤ e0 by grind) (show 0 ≤ 2 - co γ by grind)
  have m3 := Rat.mul_nonneg (show 0 ≤ e0 by grind) (show 0 ≤ 1 - e0 by grind)
  have m4 := mul_abs (a := co φ) (b := co γ) (A := 11 / 10) (B := 11 / 10) (by grind) (by grind) (by grind) (by grind)
  constructor <;> grind
theorem up_le {φ γ t : Rat} (f0 : -5400000 ≤ φ) (f1 : φ ≤ 5400000) (g0 : -5400000 ≤ γ) (g1 : γ ≤ 5400000) : upT φ γ t ≤ co (φ - γ) + 30 * e0 := by
  have k := cc_low f0 f1 g0 g1
  have bt := bdq t
  have s := (subq φ γ).1
  have ub := u0_bd
  have ee : e0 = 1048576 * u0 := rfl
  have eb := e0_bd
  have m := Rat.mul_nonneg (show 0 ≤ co φ * co γ + 6 * e0 by grind) (show 0 ≤ 1 + 8192 * u0 - co t by grind)
  have m2 := mul_abs (a := u0) (b := co φ * co γ) (A := u0) (B := 2) (by grind) (by grind) (by grind) (by grind)
  have m3 := mul_abs (a := e0) (b := co t) (A := e0) (B := 2) (by grind) (by grind) (by grind) (by grind)
  have m4 := mul_abs (a := e0) (b := u0) (A := e0) (B := 1 / 100000) (by grind) (by grind) (by grind) (by grind)
  unfold upT
  generalize co φ * co γ = K at *
  have i : (K + 6 * e0) * (1 + 8192 * u0 - co t) = K + 8192 * (u0 * K) - K * co t + 6 * e0 + 49152 * (e0 * u0) - 6 * (e0 * co t) := by grind
  rw [i] at m
  unfold Cl at s
  generalize si φ * si γ = L at *
  generalize K * co t = M at *
  generalize u0 * K = x1 at *
  generalize e0 * u0 = x2 at *
  generalize e0 * co t = x3 at *
  clear i k bt
  grind
theorem far_lat {D R d ε : Rat} (_D0 : 0 ≤ D) (D1 : D ≤ 10800000) (R0 : 0 ≤ R) (_R1 : R ≤ 10800000) (h : co R - ε ≤ co D) (d0 : 0 ≤ d) (hd : 100000000000000 * (ε + 20 * e0) ≤ d * d) : D ≤ R + d := by
  have ub := u0_bd
  have ee : e0 = 1048576 * u0 := rfl
  rcases (Rat.le_total : D ≤ R + d ∨ R + d ≤ D) with c | c
  · exact c
  exfalso
  have g := grow (p := 5400000 - D) (q := 5400000 - R) (by grind) (by grind) (by grind)
  have a := (coq D).1
  have b := (coq R).1
  rw [show 5400000 - R - (5400000 - D) = D - R by grind] at g
  have m := Rat.mul_nonneg (show 0 ≤ D - R - d by grind) (show 0 ≤ D - R + d by grind)
  unfold Cl at a b
  have i : (D - R - d) * (D - R + d) = (D - R) * (D - R) - d * d := by grind
  rw [i] at m
  generalize (D - R) * (D - R) = x1 at *
  generalize d * d = x2 at *
  generalize si (5400000 - D) = x3 at *
  generalize si (5400000 - R) = x4 at *
  grind
theorem lat_near {φ γ t R d ε : Rat} (f0 : -5400000 ≤ φ) (f1 : φ ≤ 5400000) (g0 : -5400000 ≤ γ) (g1 : γ ≤ 5400000) (R0 : 0 ≤ R) (R1 : R ≤ 10800000) (h : co R - ε ≤ upT φ γ t) (d0 : 0 ≤ d) (hd : 100000000000000 * (ε + 60 * e0) ≤ d * d) : φ - γ ≤ R + d ∧ γ - φ ≤ R + d := by
  have u := up_le (t := t) f0 f1 g0 g1
  have n := (negq (φ - γ)).1
  have ub := u0_bd
  have ee : e0 = 1048576 * u0 := rfl
  have eb := e0_bd
  rw [show -(φ - γ) = γ - φ by grind] at n
  unfold Cl at n
  rcases (Rat.le_total : 0 ≤ φ - γ ∨ φ - γ ≤ 0) with c | c
  · have := far_lat (D := φ - γ) (ε := ε + 35 * e0) c (by grind) R0 R1 (by grind) d0 (by grind)
    constructor <;> grind
  · have := far_lat (D := γ - φ) (ε := ε + 35 * e0) (by grind) (by grind) R0 R1 (by grind) d0 (by grind)
    constructor <;> grind
/-- The circle keeps off the poles: the cosine of the radius is greater than the sine of the latitude. -/
theorem off_pole {γ R : Rat} (R0 : 0 ≤ R) (h1 : R + 1 ≤ 5400000 - γ) (h2 : R + 1 ≤ 5400000 + γ) : si γ + 1 / 2 ^ 47 ≤ co R ∧ -si γ + 1 / 2 ^ 47 ≤ co R ∧ 1 / 2 ^ 47 ≤ co R := by
  have ub := u0_bd
  have ee : e0 = 1048576 * u0 := rfl
  have eb := e0_bd
  have b := (coq R).1
  unfold Cl at b
  have key : ∀ z : Rat, -5400000 ≤ z → R + 1 ≤ 5400000 - z → si z + 1 / 2 ^ 47 ≤ co R := fun z z0 hz => by
    have g := grow (p := z) (q := 5400000 - R) z0 (by grind) (by grind)
    have m := Rat.mul_nonneg (show 0 ≤ 5400000 - R - z - 1 by grind) (show 0 ≤ 5400000 - R - z + 1 by grind)
    have i : (5400000 - R - z - 1) * (5400000 - R - z + 1) = (5400000 - R - z) * (5400000 - R - z) - 1 := by grind
    rw [i] at m
    generalize (5400000 - R - z) * (5400000 - R - z) = x1 at *
    grind
  have k1 := key γ (by grind) h1
  have k2 := key (-γ) (by grind) (by grind)
  have n := (si_neg (q := γ) (by grind) (by grind)).1
  rw [n] at k2
  exact ⟨k1, k2, by grind⟩
/-- The longitude's cosine is above 0. -/
theorem cos_up {φ γ t R ε : Rat} (f0 : -5400000 ≤ φ) (f1 : φ ≤ 5400000) (R0 : 0 ≤ R) (h1 : R + 1 ≤ 5400000 - γ) (h2 : R + 1 ≤ 5400000 + γ) (hε : ε ≤ 1 / 2 ^ 60) (h : co R - ε ≤ upT φ γ t) : 1 / 2 ^ 60 ≤ co t := by
  have o := off_pole R0 h1 h2
  have k := cc_low f0 f1 (show -5400000 ≤ γ by grind) (show γ ≤ 5400000 by grind)
  have bf := (bdq φ).2
  have bt := bdq2 t
  have ub := u0_bd
  have ee : e0 = 1048576 * u0 := rfl
  have eb := e0_bd
  rcases (Rat.le_total : 1 / 2 ^ 60 ≤ co t ∨ co t ≤ 1 / 2 ^ 60) with c | c
  · exact c
  exfalso
  have m := Rat.mul_nonneg (show 0 ≤ co φ * co γ + 6 * e0 by grind) (show 0 ≤ 1 / 2 ^ 60 - co t by grind)
  have m3 := mul_abs (a := e0) (b := co t) (A := e0) (B := 2) (by grind) (by grind) (by grind) (by grind)
  have AB : si φ * si γ ≤ si γ + 1 / 2 ^ 59 ∨ si φ * si γ ≤ -si γ + 1 / 2 ^ 59 := by
    have bg := bdq2 γ
    rcases (Rat.le_total : 0 ≤ si γ ∨ si γ ≤ 0) with g | g
    · left
      have := Rat.mul_nonneg g (show 0 ≤ 1 + 8192 * u0 - si φ by grind)
      have := Rat.mul_nonneg (show 0 ≤ u0 by grind) (show 0 ≤ 2 - si γ by grind)
      grind
    · right
      have := Rat.mul_nonneg (show 0 ≤ -si γ by grind) (show 0 ≤ 1 + 8192 * u0 + si φ by grind)
      have := Rat.mul_nonneg (show 0 ≤ u0 by grind) (show 0 ≤ 2 + si γ by grind)
      grind
  unfold upT at h
  generalize co φ * co γ = K at *
  have i : (K + 6 * e0) * (1 / 2 ^ 60 - co t) = 1 / 2 ^ 60 * K - K * co t + 6 * e0 * (1 / 2 ^ 60) - 6 * (e0 * co t) := by grind
  rw [i] at m
  generalize K * co t = M at *
  generalize e0 * co t = x3 at *
  generalize si φ * si γ = L at *
  clear i bf bt
  rcases AB with a | a <;> grind
theorem cos_quart {t : Rat} (t0 : -10800000 ≤ t) (t1 : t ≤ 10800000) (h : 1 / 2 ^ 60 ≤ co t) : -5400000 ≤ t ∧ t ≤ 5400000 := by
  have ub := u0_bd
  have ee : e0 = 1048576 * u0 := rfl
  have eb := e0_bd
  have key : ∀ z : Rat, z ≤ 10800000 → 1 / 2 ^ 61 ≤ co z → z ≤ 5400000 := fun z z1 hz => by
    rcases (Rat.le_total : z ≤ 5400000 ∨ 5400000 ≤ z) with c | c
    · exact c
    · exfalso
      have b := (backq z).1
      have s := si_half (q := z - 5400000) (by grind) (by grind)
      unfold Cl at b
      grind
  have n := (negq t).1
  unfold Cl at n
  have k1 := key t t1 (by grind)
  have k2 := key (-t) (by grind) (by grind)
  constructor <;> grind
/-- The sine of the longitude, by the tangent. -/
theorem sin_tan {φ γ t R X ε f : Rat} (_f0 : -5400000 ≤ φ) (_f1 : φ ≤ 5400000) (R0 : 0 ≤ R) (h1 : R + 1 ≤ 5400000 - γ) (h2 : R + 1 ≤ 5400000 + γ) (ε0 : 0 ≤ ε) (hε : ε ≤ 1 / 2 ^ 60) (h : co R - ε ≤ upT φ γ t) (hX : X * co γ = si R) (X0 : 0 ≤ X) (ff : 0 ≤ f) (hf : 2 ^ 46 * (3 * ε + 4 * e0) ≤ f * f) : si t ≤ X + f ∧ -si t ≤ X + f := by
  have o := (off_pole R0 h1 h2).2.2
  have uφ := unit φ
  have uγ := unit γ
  have ut := unit t
  have uR := unit R
  have ub := u0_bd
  have ee : e0 = 1048576 * u0 := rfl
  have eb := e0_bd
  have tb' := tb_bd
  have cg := co_ge (q := γ) (d := 1) (by grind) (by grind) (by grind) (by grind) (by grind)
  have C0 : 1 / 2 ^ 23 ≤ co γ := by grind
  have bg := bdq γ
  -- Cauchy's inequality
  have ca := sq_nn (si φ * (co γ * co t) - co φ * si γ)
  have i1 : (si φ * (co γ * co t) - co φ * si γ) * (si φ * (co γ * co t) - co φ * si γ) = (co φ * co φ + si φ * si φ) * (co γ * co γ + si γ * si γ - co γ * co γ * (si t * si t) - co γ * co γ * (1 - co t * co t - si t * si t)) - upT φ γ t * upT φ γ t := by
    unfold upT
    grind
  rw [i1] at ca
  have V := Rat.mul_nonneg (show 0 ≤ upT φ γ t - (co R - ε) by grind) (show 0 ≤ upT φ γ t + (co R - ε) by grind)
  have i2 : (upT φ γ t - (co R - ε)) * (upT φ γ t + (co R - ε)) = upT φ γ t * upT φ γ t - co R * co R + 2 * (ε * co R) - ε * ε := by grind
  rw [i2] at V
  have bR := bdq R
  have eR := Rat.mul_nonneg ε0 (show 0 ≤ 1 + 8192 * u0 - co R by grind)
  have eε := sq_nn ε
  have eu := Rat.mul_nonneg ε0 (show 0 ≤ 1 / 2 ^ 20 - 8192 * u0 by grind)
  have cc := mul_abs (a := co γ) (b := co γ) (A := 2) (B := 2) (by grind) (by grind) (by grind) (by grind)
  have ss := mul_abs (a := si t) (b := si t) (A := 2) (B := 2) (by have := bdq2 t; grind) (by have := bdq2 t; grind) (by have := bdq2 t; grind) (by have := bdq2 t; grind)
  have sst := sq_nn (si t)
  have w1 := mul_abs (a := co γ * co γ) (b := 1 - co t * co t - si t * si t) (A := 4) (B := 8192 * u0) (by grind) (by grind) (by unfold Cl at ut; grind) (by unfold Cl at ut; grind)
  have w2 := mul_abs (a := co γ * co γ) (b := si t * si t) (A := 4) (B := 4) (by grind) (by grind) (by grind) (by grind)
  have ccn := sq_nn (co γ)
  have w3 := mul_abs (a := co φ * co φ + si φ * si φ - 1) (b := co γ * co γ + si γ * si γ - co γ * co γ * (si t * si t) - co γ * co γ * (1 - co t * co t - si t * si t)) (A := 8192 * u0) (B := 30) (by unfold Cl at uφ; grind) (by unfold Cl at uφ; grind) (by unfold Cl at uγ; grind) (by unfold Cl at uγ; grind)
  have i3 : (co φ * co φ + si φ * si φ) * (co γ * co γ + si γ * si γ - co γ * co γ * (si t * si t) - co γ * co γ * (1 - co t * co t - si t * si t)) = (co φ * co φ + si φ * si φ - 1) * (co γ * co γ + si γ * si γ - co γ * co γ * (si t * si t) - co γ * co γ * (1 - co t * co t - si t * si t)) + (co γ * co γ + si γ * si γ - co γ * co γ * (si t * si t) - co γ * co γ * (1 - co t * co t - si t * si t)) := by grind
  rw [i3] at ca
  have e2 : co γ * co γ * (X * X) = si R * si R := by rw [← hX]; grind
  have key : co γ * co γ * (si t * si t) ≤ co γ * co γ * (X * X) + (3 * ε + 3 * e0) := by
    rw [e2]
    have eε2 : ε * ε ≤ ε := by
      have := Rat.mul_nonneg ε0 (show 0 ≤ 1 - ε by grind)
      grind
    generalize (co φ * co φ + si φ * si φ - 1) * (co γ * co γ + si γ * si γ - co γ * co γ * (si t * si t) - co γ * co γ * (1 - co t * co t - si t * si t)) = y1 at *
    generalize co γ * co γ * (1 - co t * co t - si t * si t) = y2 at *
    generalize co γ * co γ * (si t * si t) = y3 at *
    generalize co γ * co γ = y4 at *
    generalize si γ * si γ = y5 at *
    generalize upT φ γ t * upT φ γ t = y6 at *
    generalize co R * co R = y7 at *
    generalize si R * si R = y8 at *
    have i4 : ε * (1 + 8192 * u0 - co R) = ε + 8192 * (ε * u0) - ε * co R := by grind
    have i5 : ε * (1 / 2 ^ 20 - 8192 * u0) = 1 / 2 ^ 20 * ε - 8192 * (ε * u0) := by grind
    rw [i4] at eR
    rw [i5] at eu
    generalize ε * co R = y9 at *
    generalize ε * u0 = y10 at *
    generalize ε * ε = y11 at *
    clear i1 i2 i3 i4 i5 uφ ut hX e2 w2 hf bg bR cc ss sst ccn cg C0 tb' h
    unfold Cl at uγ uR
    grind
  have fin : ∀ S : Rat, S * S = si t * si t → S ≤ X + f := fun S hS => by
    rcases (Rat.le_total : S ≤ X + f ∨ X + f ≤ S) with c | c
    · exact c
    · exfalso
      have p1 := Rat.mul_nonneg (show 0 ≤ S - X - f by grind) (show 0 ≤ S + X by grind)
      have p2 := Rat.mul_nonneg ff (show 0 ≤ S + X - f by grind)
      have p3 : f * f ≤ S * S - X * X := by grind
      rw [hS] at p3
      have q1 := Rat.mul_nonneg (show 0 ≤ co γ - 1 / 2 ^ 23 by grind) (show 0 ≤ co γ + 1 / 2 ^ 23 by grind)
      have q2 : 1 / 2 ^ 46 ≤ co γ * co γ := by grind
      have q3 := Rat.mul_nonneg (show 0 ≤ co γ * co γ - 1 / 2 ^ 46 by grind) (show 0 ≤ si t * si t - X * X by have := sq_nn f; grind)
      generalize co γ * co γ = y4 at *
      have i6 : (y4 - 1 / 2 ^ 46) * (si t * si t - X * X) = y4 * (si t * si t) - y4 * (X * X) - 1 / 2 ^ 46 * (si t * si t - X * X) := by grind
      rw [i6] at q3
      generalize y4 * (si t * si t) = y1 at *
      generalize y4 * (X * X) = y2 at *
      generalize si t * si t = y3 at *
      generalize X * X = y5 at *
      generalize f * f = y6 at *
      clear i1 i2 i3 i6 ca V w1 w2 w3 uφ ut uγ uR hX e2 p1 p2 eR eε eu cc ss sst ccn q1 bg bR
      grind
  exact ⟨fin _ rfl, fin _ (by grind)⟩
/-- How far east or west. -/
theorem lon_near {φ γ t R X θ ε f d : Rat} (f0 : -5400000 ≤ φ) (f1 : φ ≤ 5400000) (t0 : -10800000 ≤ t) (t1 : t ≤ 10800000) (R0 : 0 ≤ R) (h1 : R + 1 ≤ 5400000 - γ) (h2 : R + 1 ≤ 5400000 + γ) (ε0 : 0 ≤ ε) (hε : ε ≤ 1 / 2 ^ 60) (h : co R - ε ≤ upT φ γ t) (hX : X * co γ = si R) (X0 : 0 ≤ X) (ff : 0 ≤ f) (hf : 2 ^ 46 * (3 * ε + 4 * e0) ≤ f * f) (q0 : -5400000 ≤ θ) (_q1 : θ ≤ 5400000) (hθ : Cl (4 * e0) (si θ) X) (d0 : 0 ≤ d) (hd : 100000000000000 * (f + 20 * e0) ≤ d * d) : t ≤ θ + d ∧ -t ≤ θ + d := by
  have eb := e0_bd
  have c := cos_up f0 f1 R0 h1 h2 hε h
  obtain ⟨u0', u1'⟩ := cos_quart t0 t1 c
  obtain ⟨s1, s2⟩ := sin_tan f0 f1 R0 h1 h2 ε0 hε h hX X0 ff hf
  have n := (si_neg (q := t) (by grind) (by grind)).1
  have key : ∀ z : Rat, -5400000 ≤ z → z ≤ 5400000 → si z ≤ X + f → z ≤ θ + d := fun z z0 z1 hz => by
    rcases (Rat.le_total : z ≤ θ + d ∨ θ + d ≤ z) with g | g
    · exact g
    · exfalso
      have gr := grow (p := θ) (q := z) q0 (by grind) z1
      have m := Rat.mul_nonneg (show 0 ≤ z - θ - d by grind) (show 0 ≤ z - θ + d by grind)
      have i : (z - θ - d) * (z - θ + d) = (z - θ) * (z - θ) - d * d := by grind
      rw [i] at m
      unfold Cl at hθ
      generalize (z - θ) * (z - θ) = x1 at *
      generalize d * d = x2 at *
      clear i hX hf h
      grind
  exact ⟨key t u0' u1' s1, key (-t) (by grind) (by grind) (by rw [n]; exact s2)⟩
end Go.Proofs.YtkjnheahaimpoaaGreat

/-
  Circles of position: the bounds contain what is inside, and meet the points of the circle. No program here.
-/
import Derived.Test.YtkfkddbglnbjgaaGreatCc
import Derived.Test.YtkfkddbglnbjgaaGreatHv
namespace Go.Proofs.YtkfkddbglnbjgaaGreat
open SM TB TA
/-- The sine of how far a circle goes east, and the arc. -/
def exQ (a b q : Int) : Int × Int × Int := divR (sinR q q).1 (sinR q q).2.1 (cosR a b).1 (cosR a b).2.1
noncomputable def exW (a b q : Int) : Int × Int × Int := asinR (exQ a b q).1 (exQ a b q).2.1
theorem lvD : 100000 * (8589934592 * (5 * e1) + 1073741824 * (4 * e0) + 4 * e1) ≤ pw 275 * pw 275 ∧ 0 < pw 275 ∧ pw 275 ≤ 1 / 8 ∧ 8589934592 * (5 * e1) + 1073741824 * (4 * e0) ≤ 1 / 4 ∧ 0 < pw 270 ∧ pw 270 ≤ 1 / 8 ∧ 100000000000000 * (0 + 60 * e0) ≤ pw 270 * pw 270 ∧ 2 ^ 46 * (3 * 0 + 4 * e0) ≤ pw 600 * pw 600 ∧ 0 < pw 600 ∧ 100000000000000 * (pw 600 + 20 * e0) ≤ pw 270 * pw 270 ∧ 2 ^ 46 * (3 * (40 * eT) + 4 * e0) ≤ pw 270 * pw 270 ∧ 100000000000000 * (pw 270 + 20 * e0) ≤ pw 110 * pw 110 ∧ 0 < pw 110 ∧ pw 110 ≤ 1 / 8 ∧ 1000 * e1 ≤ 1 / 100 ∧ 0 < e1 := by decide +kernel
/-- The sine of the radius is below the cosine of the latitude. -/
theorem tan_one {γ R : Rat} (R0 : 0 ≤ R) (h1 : R + 1 ≤ 5400000 - γ) (h2 : R + 1 ≤ 5400000 + γ) : 1 / 2 ^ 23 ≤ co γ ∧ 0 ≤ si R ∧ si R ≤ co γ := by
  have ub := u0_bd
  have ee : e0 = 1048576 * u0 := rfl
  have eb := e0_bd
  have tb' := tb_bd
  have cg := co_ge (q := γ) (d := 1) (by grind) (by grind) (by grind) (by grind) (by grind)
  have s := si_half R0 (show R ≤ 5400000 by grind)
  have key : ∀ z : Rat, 0 ≤ z → z ≤ 5400000 → R + 1 ≤ 5400000 - z → si R ≤ co z := fun z z0 z1 hz => by
    have g := grow (p := R) (q := 5400000 - z) (by grind) (by grind) (by grind)
    have c := (coq z).1
    have m := Rat.mul_nonneg (show 0 ≤ 5400000 - z - R - 1 by grind) (show 0 ≤ 5400000 - z - R + 1 by grind)
    have i : (5400000 - z - R - 1) * (5400000 - z - R + 1) = (5400000 - z - R) * (5400000 - z - R) - 1 := by grind
    rw [i] at m
    unfold Cl at c
    generalize (5400000 - z - R) * (5400000 - z - R) = x1 at *
    grind
  refine ⟨by grind, s, ?_⟩
  rcases (Rat.le_total : 0 ≤ γ ∨ γ ≤ 0) with c | c
  · exact key γ c (by grind) h1
  · have k := key (-γ) (by grind) (by grind) (by grind)
    rwa [(si_neg (q := γ) (by grind) (by grind)).2] at k
/-- How far east: the arc holds it. -/
theorem ex_hold {a b q : Int} (ha : latB a b = true) (q0 : 0 ≤ q) (n1 : -5400000 < a - q) (n2 : b + q < 5400000) (okQ : (exQ a b q).2.2 = 0) :
    LatR (exW a b q) ∧ ∃ X θ : Rat, X * co (a : Rat) = si (q : Rat) ∧ 0 ≤ X ∧ -5400000 ≤ θ ∧ θ ≤ 5400000 ∧ Cl (4 * e0) (si θ) X ∧ Hs (pw 275) (exW a b q).1 (exW a b q).2.1 θ := by
  obtain ⟨w1, w2, w3, w4, w5, w6, w7, w8, w9, w10, w11, w12, w13, w14, w15, w16⟩ := lvD
  have eb := e0_bd
  have lb := lat_bd ha
  have Q0 := le_c q0
  rw [show ((0 : Int) : Rat) = 0 by rfl] at Q0
  have g1 := le_c (show a + q + 1 ≤ 5400000 by omega)
  have g2 := le_c (show q + 1 ≤ 5400000 + a by omega)
  rw [Rat.intCast_add, Rat.intCast_add, show ((1 : Int) : Rat) = 1 by rfl, show ((5400000 : Int) : Rat) = 5400000 by rfl] at g1
  rw [Rat.intCast_add, Rat.intCast_add, show ((1 : Int) : Rat) = 1 by rfl, show ((5400000 : Int) : Rat) = 5400000 by rfl] at g2
  obtain ⟨c0, s0, sc⟩ := tan_one (γ := (a : Rat)) (R := (q : Rat)) Q0 (by grind) (by grind)
  obtain ⟨i, hi⟩ : ∃ i : Rat, i * co (a : Rat) = 1 := ⟨(co (a : Rat))⁻¹, Rat.inv_mul_cancel _ (by grind)⟩
  have i0 : 0 ≤ i := by
    rcases (Rat.le_total : 0 ≤ i ∨ i ≤ 0) with h | h
    · exact h
    · have := Rat.mul_nonneg (show 0 ≤ -i by grind) (show 0 ≤ co (a : Rat) by grind)
      grind
  have hX : si (q : Rat) * i * co (a : Rat) = si (q : Rat) := by
    rw [show si (q : Rat) * i * co (a : Rat) = si (q : Rat) * (i * co (a : Rat)) by grind, hi]
    grind
  have X0 : 0 ≤ si (q : Rat) * i := Rat.mul_nonneg s0 i0
  have X1 : si (q : Rat) * i ≤ 1 := by
    have := Rat.mul_nonneg i0 (show 0 ≤ co (a : Rat) - si (q : Rat) by grind)
    have e : i * (co (a : Rat) - si (q : Rat)) = i * co (a : Rat) - si (q : Rat) * i := by grind
    rw [e, hi] at this
    grind
  generalize si (q : Rat) * i = X at *
  obtain ⟨θ, t0, t1, tc⟩ := inv (y := X) (by grind) X1
  have vq : avalidB q q = true := avalid_mk (by omega) (Int.le_refl q) (by omega)
  have N := sin_at vq (Hs.at (Int.le_refl q) (Int.le_refl q))
  have D := cos_at lb.1 (Hs.at (Int.le_refl a) (show a ≤ b by omega))
  have d0 : 1 ≤ (cosR a b).1 := by
    have k := D.2.2
    unfold Hs at k
    have hp : 0 < (cosR a b).2.1 := by
      rcases Int.lt_or_le 0 (cosR a b).2.1 with h | h
      · exact h
      · have := le_c h
        rw [show ((0 : Int) : Rat) = 0 by rfl] at this
        grind
    rcases Int.lt_or_le 0 (cosR a b).1 with h | h
    · exact h
    · exfalso
      unfold exQ divR at okQ
      rw [if_pos (both_mk N.2.1 D.2.1), if_pos (by simp [zeroB]; omega)] at okQ
      cases okQ
  have V := div_v (n := sinR q q) (d := cosR a b) (δ := co (a : Rat)) (X := X) (e := 5 * e1) (by rw [show co (a : Rat) * X = X * co (a : Rat) by grind, hX]; exact N) D d0 (by grind) (by grind) (by grind) okQ
  have A := asin_v V tc t0 t1 (by grind) (by grind) (by grind) (by grind) w1
  exact ⟨A.1, X, θ, hX, X0, t0, t1, tc, A.2⟩
end Go.Proofs.YtkfkddbglnbjgaaGreat

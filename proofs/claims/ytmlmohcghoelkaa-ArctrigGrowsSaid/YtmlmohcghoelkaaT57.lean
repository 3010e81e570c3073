import Derived.Test.YtmlmohcghoelkaaT56
namespace Go.Proofs.Ytmlmohcghoelkaa
open SM
theorem angN_err (k : Nat) (hk : k ≤ 2700000) : Wit ((angN k : Rat) * epU - xR k) (ep80 / 64) := by
  have h1 : angN k * 10800000 ≤ 19720096697726538562396133364228268891463450865190089732560 * k := by unfold angN; omega
  have h2 : 19720096697726538562396133364228268891463450865190089732560 * k ≤ angN k * 10800000 + 10800000 := by unfold angN; omega
  generalize angN k = A at *
  have r1 := Rat.natCast_le_natCast.2 h1
  have r2 := Rat.natCast_le_natCast.2 h2
  rw [Rat.natCast_mul, Rat.natCast_mul] at r1
  rw [Rat.natCast_add, Rat.natCast_mul, Rat.natCast_mul] at r2
  have c1 : ((10800000 : Nat) : Rat) = 10800000 := rfl
  have c2 : ((19720096697726538562396133364228268891463450865190089732560 : Nat) : Rat) = 19720096697726538562396133364228268891463450865190089732560 := rfl
  rw [c1, c2] at r1 r2
  have n0 : (0 : Rat) ≤ (k : Rat) := by exact_mod_cast Nat.zero_le _
  have n1 : (k : Rat) ≤ ((2700000 : Nat) : Rat) := Rat.natCast_le_natCast.2 hk
  have c3 : ((2700000 : Nat) : Rat) = 2700000 := rfl
  rw [c3] at n1
  unfold Wit xR th pi96 ep80 epU
  generalize (k : Rat) = K at *
  generalize (A : Rat) = a at *
  clear h1 h2 c1 c2 c3
  constructor <;> grind
theorem sqN_err (k : Nat) (hk : k ≤ 2700000) : Wit ((sqN k : Rat) * epU - xR k * xR k) (ep80 / 8) ∧ (sqN k : Rat) * epU ≤ 7 / 10 ∧ sqN k ≤ UU := by
  have ha := angN_err k hk
  have hb := xR_bd k (by omega)
  have hl := angN_lt k hk
  have b := div_bd (angN k * angN k) UU (by decide)
  have hs := sqN_lt k hk
  change sqN k < UU at hs
  change angN k < UU at hl
  rw [Rat.natCast_mul, show ((UU : Nat) : Rat) = UR from rfl] at b
  have hq : sqN k = angN k * angN k / UU := rfl
  rw [← hq] at b
  obtain ⟨p0, p1⟩ := epU_pos
  have hU := epU_mul
  have c1 := Rat.mul_le_mul_of_nonneg_right (Rat.mul_le_mul_of_nonneg_right b.1 p0) p0
  have c2 := Rat.mul_le_mul_of_nonneg_right (Rat.mul_le_mul_of_nonneg_right b.2 p0) p0
  have r1 : UR * (sqN k : Rat) * epU * epU = (sqN k : Rat) * epU := by rw [show UR * (sqN k : Rat) * epU * epU = (epU * UR) * ((sqN k : Rat) * epU) by grind, hU]; grind
  have r2 : (angN k : Rat) * (angN k : Rat) * epU * epU = (angN k : Rat) * epU * ((angN k : Rat) * epU) := by grind
  have r3 : (UR * (sqN k : Rat) + UR) * epU * epU = (sqN k : Rat) * epU + epU := by rw [show (UR * (sqN k : Rat) + UR) * epU * epU = (epU * UR) * ((sqN k : Rat) * epU + epU) by grind, hU]; grind
  rw [r1, r2] at c1
  rw [r2, r3] at c2
  have a0 : 0 ≤ (angN k : Rat) * epU := Rat.mul_nonneg (by exact_mod_cast Nat.zero_le _) p0
  have hx7 : xR k * xR k ≤ 6200 / 10000 := by
    have x79 : xR k ≤ 787 / 1000 := by
      have n1 : (k : Rat) ≤ ((2700000 : Nat) : Rat) := Rat.natCast_le_natCast.2 hk
      have c3 : ((2700000 : Nat) : Rat) = 2700000 := rfl
      rw [c3] at n1
      unfold xR th pi96
      grind
    have := Rat.mul_le_mul_of_nonneg_left x79 hb.1
    grind
  have w := ha.mul (show Wit ((angN k : Rat) * epU + xR k) 2 from by unfold Wit ep80 at *; constructor <;> grind)
  have e : ((angN k : Rat) * epU - xR k) * ((angN k : Rat) * epU + xR k) = (angN k : Rat) * epU * ((angN k : Rat) * epU) - xR k * xR k := by grind
  rw [e] at w
  generalize (angN k : Rat) * epU * ((angN k : Rat) * epU) = A at *
  generalize xR k * xR k = Y at *
  generalize (sqN k : Rat) * epU = q at *
  have p2 : epU ≤ ep80 / 16 := by unfold epU ep80; grind
  unfold Wit at *
  refine ⟨⟨by unfold ep80 at *; grind, by unfold ep80 at *; grind⟩, by unfold ep80 at *; grind, by omega⟩
theorem circ_err (k : Nat) (hk : k ≤ 2700000) : Wit ((sinL k : Rat) * epU - tS k) (1 / 1152921504606846976) ∧ Wit ((cosL k : Rat) * epU - tC k) (1 / 1152921504606846976) := by
  obtain ⟨q1, q2, q3⟩ := sqN_err k hk
  have ha := angN_err k hk
  have hb := xR_bd k (by omega)
  have hY := sq_bd k (by omega)
  have hl := angN_lt k hk
  have t1 := hR_tl 1 (xR k * xR k) 10 0
  have t0 := hR_tl 0 (xR k * xR k) 10 0
  rw [show tl 1 (xR k * xR k) 10 0 = 1 from rfl, show (1 : Rat) - 1 = 0 by grind] at t1
  rw [show tl 0 (xR k * xR k) 10 0 = 1 from rfl, show (1 : Rat) - 1 = 0 by grind] at t0
  rw [show 10 + 0 = 10 from rfl] at t0 t1
  have c10 : ((10 : Nat) : Rat) = 10 := rfl
  have hE : (0 : Rat) ≤ ep80 := by unfold ep80; grind
  constructor
  · have hv := serN_val q3 300 true (angN k) (angN k) 1 (fun _ => Nat.le_refl _) (by omega)
    have h := vS_err (o := 1) (by omega) q3 hY q2 q1 10 0 300 (angN k) (xR k) (by omega) (by omega) (by unfold UU; omega) hb.1 (by grind) (by unfold taub; grind) (ha.mono (by grind))
    have e1 : ((sinL k : Nat) : Rat) = (vS (sqN k) 300 (angN k) (2 * 0 + 1) : Rat) := by
      rw [← Rat.intCast_natCast]
      have : ((sinL k : Nat) : Int) = vS (sqN k) 300 (angN k) (2 * 0 + 1) := by
        unfold sinL; rw [hv, if_pos rfl, show 2 * 0 + 1 = 1 from rfl]; omega
      rw [this]
    rw [e1]
    rw [← t1, c10] at h
    have e2 : tS k = xR k * (1 - hR 1 (xR k * xR k) 10 0) := by unfold tS; rfl
    rw [e2]
    exact h.mono (by unfold ep80; grind)
  · have hv := serN_val q3 300 true UU UU 0 (fun _ => Nat.le_refl _) (by unfold UU; omega)
    have hone : Wit ((UU : Rat) * epU - 1) ep80 := by
      have : ((UU : Nat) : Rat) = UR := rfl
      have hU := epU_mul
      rw [this]
      unfold Wit
      constructor <;> grind
    have h := vS_err (o := 0) (by omega) q3 hY q2 q1 10 0 300 UU 1 (by omega) (by omega) (Nat.le_refl _) (by grind) (by grind) (by unfold taub; grind) hone
    have e1 : ((cosL k : Nat) : Rat) = (vS (sqN k) 300 UU (2 * 0 + 0) : Rat) := by
      rw [← Rat.intCast_natCast]
      have : ((cosL k : Nat) : Int) = vS (sqN k) 300 UU (2 * 0 + 0) := by
        have hc : cosL k = serN 300 true UU UU (sqN k) 0 := rfl
        rw [hc, hv, if_pos rfl, show 2 * 0 + 0 = 0 from rfl]; omega
      rw [this]
    rw [e1]
    rw [← t0, c10] at h
    have e2 : tC k = 1 * (1 - hR 0 (xR k * xR k) 10 0) := by unfold tC; grind
    rw [e2]
    exact h.mono (by unfold ep80; grind)
end Go.Proofs.Ytmlmohcghoelkaa

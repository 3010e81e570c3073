import Derived.Test.YtfilgpifiboccaaGreatNd
import Derived.Test.YtfilgpifiboccaaGreatT61
import Derived.Test.YtfilgpifiboccaaGreatT65
import Derived.Test.YtfilgpifiboccaaGreatT54
namespace Go.Proofs.YtfilgpifiboccaaGreat
open SM TA
/-! arctrig's sines of 192 bits are the sine and the cosine, but for 2^-110: so 'reaches' is the sign of x sin - y cos. No walk here. -/
theorem serT_U {T Q n : Nat} (hT : T ≤ UU) (hQ : Q ≤ UU) : serT T Q n = serU UU T Q n := by
  have hle : T * Q / UU ≤ T := Nat.div_le_of_le_mul (by rw [Nat.mul_comm UU]; exact Nat.mul_le_mul_left _ hQ)
  unfold serT serU
  rw [show T * Q / 6277101735386680763835789423207666416102355444464034512896 = T * Q / UU from rfl, Nat.mod_eq_of_lt (by unfold UU at *; omega)]
theorem vS_U {Q : Nat} (hQ : Q ≤ UU) : ∀ (f T n : Nat), T ≤ UU → vS Q f T n = vU UU Q f T n
  | 0, T, n, _ => rfl
  | f + 1, T, n, hT => by
    have hl := serU_le (U := UU) T Q n hQ
    unfold vS vU
    rw [serT_U hT hQ, vS_U hQ f _ _ (by omega)]
theorem tauF : taub 1 15 ≤ 1 / 2 ^ 113 ∧ taub 0 15 ≤ 1 / 2 ^ 113 := by decide +kernel
def EF : Rat := 1 / 2 ^ 180
theorem angN_F (k : Nat) : Wit ((angN k : Rat) / UU - thF * (k : Rat)) (EF / 64) := by
  have h1 : angN k * 10800000 ≤ 19720096697726538562396133364228268891463450865190089732560 * k := by unfold angN; omega
  have h2 : 19720096697726538562396133364228268891463450865190089732560 * k ≤ angN k * 10800000 + 10800000 := by unfold angN; omega
  generalize angN k = A at *
  have r1 := Rat.natCast_le_natCast.2 h1
  have r2 := Rat.natCast_le_natCast.2 h2
  rw [Rat.natCast_mul, Rat.natCast_mul] at r1
  rw [Rat.natCast_add, Rat.natCast_mul, Rat.natCast_mul] at r2
  have c1 : ((10800000 : Nat) : Rat) = 10800000 := rfl
  have c2 : ((19720096697726538562396133364228268891463450865190089732560 : Nat) : Rat) = 19720096697726538562396133364228268891463450865190089732560 := rfl
  have c3 : ((UU : Nat) : Rat) = 6277101735386680763835789423207666416102355444464034512896 := rfl
  have c4 : EF = 1 / 1532495540865888858358347027150309183618739122183602176 := by decide +kernel
  rw [c1, c2] at r1 r2
  unfold Wit thF
  rw [c3, c4]
  generalize (k : Rat) = K at *
  generalize (A : Rat) = a at *
  clear h1 h2 c1 c2 c3 c4
  constructor <;> grind
theorem sqN_F (k : Nat) (hk : k ≤ 2700000) : Wit ((sqN k : Rat) / UU - thF * (k : Rat) * (thF * (k : Rat))) (EF / 8) ∧ (sqN k : Rat) / UU ≤ 7 / 10 := by
  have ha := angN_F k
  have m := vx_bd k hk
  have y := vy_bd k hk
  have b := div_bd (angN k * angN k) UU (by decide)
  rw [Rat.natCast_mul] at b
  have hq : sqN k = angN k * angN k / UU := rfl
  rw [← hq] at b
  have c3 : ((UU : Nat) : Rat) = 6277101735386680763835789423207666416102355444464034512896 := rfl
  have c4 : EF = 1 / 1532495540865888858358347027150309183618739122183602176 := by decide +kernel
  have a0 : (0 : Rat) ≤ (angN k : Rat) := by exact_mod_cast Nat.zero_le _
  rw [c3, c4] at ha
  rw [c3] at b
  rw [c3, c4]
  have w := ha.mul (show Wit ((angN k : Rat) / 6277101735386680763835789423207666416102355444464034512896 + thF * (k : Rat)) 2 from by unfold Wit at *; constructor <;> grind)
  generalize thF * (k : Rat) = x at *
  have e : ((angN k : Rat) / 6277101735386680763835789423207666416102355444464034512896 - x) * ((angN k : Rat) / 6277101735386680763835789423207666416102355444464034512896 + x) = (angN k : Rat) * (angN k : Rat) / 6277101735386680763835789423207666416102355444464034512896 / 6277101735386680763835789423207666416102355444464034512896 - x * x := by grind
  rw [e] at w
  generalize (angN k : Rat) * (angN k : Rat) = A at *
  generalize (sqN k : Rat) = q at *
  generalize x * x = Y at *
  unfold Wit at *
  refine ⟨⟨?_, ?_⟩, ?_⟩ <;> grind
theorem circ_F (k : Nat) (hk : k ≤ 2700000) : Wit ((sinL k : Rat) / UU - sV k) (1 / 2 ^ 110) ∧ Wit ((cosL k : Rat) / UU - cV k) (1 / 2 ^ 110) := by
  obtain ⟨q1, q2⟩ := sqN_F k hk
  obtain ⟨_, _, q3⟩ := sqN_err k hk
  have ha := angN_F k
  have m := vx_bd k hk
  have y := vy_bd k hk
  have hl := angN_lt k hk
  have nr := v_near k hk
  have c15 : ((15 : Nat) : Rat) = 15 := rfl
  have hE : (1 : Rat) / (UU : Nat) ≤ EF / 8 := by decide +kernel
  have kk : ((15 : Rat) + 2) * EF + 2 * (1 / 2 ^ 113) + 1 / 2 ^ 115 ≤ 1 / 2 ^ 110 := by decide +kernel
  have hE0 : (0 : Rat) ≤ EF := by decide +kernel
  constructor
  · have hv := serN_val q3 300 true (angN k) (angN k) 1 (fun _ => Nat.le_refl _) (by omega)
    have h := vU_err (U := UU) (by decide) hE tauF.1 q3 ⟨y.1, by grind⟩ q2 q1 15 0 300 (angN k) (thF * (k : Rat)) (by omega) (by omega) m.1 (by grind) (by unfold taub; grind) (ha.mono (by grind))
    have e1 : ((sinL k : Nat) : Rat) = (vU UU (sqN k) 300 (angN k) (2 * 0 + 1) : Rat) := by
      rw [← Rat.intCast_natCast]
      have : ((sinL k : Nat) : Int) = vU UU (sqN k) 300 (angN k) (2 * 0 + 1) := by
        rw [← vS_U q3 _ _ _ (by unfold UU; omega)]
        unfold sinL; rw [hv, if_pos rfl, show 2 * 0 + 1 = 1 from rfl]; omega
      rw [this]
    rw [e1]
    rw [c15] at h
    have n1 := nr.1
    generalize thF * (k : Rat) * tl 1 (thF * (k : Rat) * (thF * (k : Rat))) 0 15 = v at *
    generalize (vU UU (sqN k) 300 (angN k) (2 * 0 + 1) : Rat) / (UU : Nat) = u at *
    unfold Wit at *
    constructor <;> grind
  · have hv := serN_val q3 300 true UU UU 0 (fun _ => Nat.le_refl _) (by unfold UU; omega)
    have hone : Wit ((UU : Rat) / (UU : Nat) - 1) EF := by
      have : (UU : Rat) / (UU : Nat) = 1 := by decide +kernel
      rw [this]
      unfold Wit
      constructor <;> grind
    have h := vU_err (U := UU) (by decide) hE tauF.2 q3 ⟨y.1, by grind⟩ q2 q1 15 0 300 UU 1 (by omega) (by omega) (by grind) (by grind) (by unfold taub; grind) hone
    have e1 : ((cosL k : Nat) : Rat) = (vU UU (sqN k) 300 UU (2 * 0 + 0) : Rat) := by
      rw [← Rat.intCast_natCast]
      have : ((cosL k : Nat) : Int) = vU UU (sqN k) 300 UU (2 * 0 + 0) := by
        rw [← vS_U q3 _ _ _ (Nat.le_refl _)]
        have hc : cosL k = serN 300 true UU UU (sqN k) 0 := rfl
        rw [hc, hv, if_pos rfl, show 2 * 0 + 0 = 0 from rfl]; omega
      rw [this]
    rw [e1]
    rw [c15, Rat.one_mul] at h
    have n1 := nr.2
    generalize tl 0 (thF * (k : Rat) * (thF * (k : Rat))) 0 15 = v at *
    generalize (vU UU (sqN k) 300 UU (2 * 0 + 0) : Rat) / (UU : Nat) = u at *
    unfold Wit at *
    constructor <;> grind
theorem sinN_F (k : Nat) (hk : k ≤ 5400000) : Wit ((sinN k : Rat) / UU - sK k) (1 / 2 ^ 110) ∧ Wit ((cosN k : Rat) / UU - cK k) (1 / 2 ^ 110) := by
  unfold sinN cosN sK cK
  by_cases h : k ≤ 2700000
  · rw [if_pos h, if_pos h, if_pos h, if_pos h]
    exact circ_F k h
  · rw [if_neg h, if_neg h, if_neg h, if_neg h]
    have := circ_F (5400000 - k) (by omega)
    exact ⟨this.2, this.1⟩
/-- Whether an angle is reached is the sign of x sin - y cos, which is never near 0. -/
theorem rea_sign {k x y : Nat} (h0 : 0 < k) (h1 : k ≠ 2700000) (hk : k < 5400000) (hx : x ≤ 2147483648) (hy : y ≤ 2147483648) (hxy : 0 < x + y) :
    (reaB x y k = true ∧ (x : Rat) * sK k - (y : Rat) * cK k ≤ -(1 / 2 ^ 57)) ∨ (reaB x y k = false ∧ 1 / 2 ^ 57 ≤ (x : Rat) * sK k - (y : Rat) * cK k) := by
  have n := ntK h0 h1 hk hx hy hxy
  have f := sinN_F k (by omega)
  have i := reaB_iff hx hy (by omega) h1 (by omega)
  have x0 : (0 : Rat) ≤ (x : Rat) := by exact_mod_cast Nat.zero_le _
  have y0 : (0 : Rat) ≤ (y : Rat) := by exact_mod_cast Nat.zero_le _
  have z2 : ((2147483648 : Nat) : Rat) = 2147483648 := rfl
  have x1 : (x : Rat) ≤ 2147483648 := by rw [← z2]; exact Rat.natCast_le_natCast.2 hx
  have y1 : (y : Rat) ≤ 2147483648 := by rw [← z2]; exact Rat.natCast_le_natCast.2 hy
  have m1 := mulB (u := (x : Rat)) (a := 2147483648) ⟨by grind, x1⟩ f.1
  have m2 := mulB (u := (y : Rat)) (a := 2147483648) ⟨by grind, y1⟩ f.2
  have kk : (2147483648 : Rat) * (1 / 2 ^ 110) + 2147483648 * (1 / 2 ^ 110) < 1 / 2 ^ 57 := by decide +kernel
  have c3 : ((UU : Nat) : Rat) = 6277101735386680763835789423207666416102355444464034512896 := rfl
  rw [c3] at m1 m2
  have e1 : (x : Rat) * ((sinN k : Rat) / 6277101735386680763835789423207666416102355444464034512896 - sK k) = (x : Rat) * (sinN k : Rat) / 6277101735386680763835789423207666416102355444464034512896 - (x : Rat) * sK k := by grind
  have e2 : (y : Rat) * ((cosN k : Rat) / 6277101735386680763835789423207666416102355444464034512896 - cK k) = (y : Rat) * (cosN k : Rat) / 6277101735386680763835789423207666416102355444464034512896 - (y : Rat) * cK k := by grind
  rw [e1] at m1
  rw [e2] at m2
  clear e1 e2 c3 z2
  cases hr : reaB x y k with
  | true =>
    left
    refine ⟨rfl, ?_⟩
    have h := Rat.natCast_le_natCast.2 (i.1 hr)
    rw [Rat.natCast_mul, Rat.natCast_mul] at h
    generalize (x : Rat) * sK k = p at *
    generalize (y : Rat) * cK k = q at *
    rw [Rat.mul_comm, Rat.mul_comm (cosN k : Rat)] at h
    generalize (x : Rat) * (sinN k : Rat) = u at *
    generalize (y : Rat) * (cosN k : Rat) = v at *
    clear f i
    rcases n with n | n
    · exfalso; grind
    · exact n
  | false =>
    right
    refine ⟨rfl, ?_⟩
    have h' : ¬ sinN k * x ≤ cosN k * y := fun q => by rw [i.2 q] at hr; cases hr
    have h := Rat.natCast_le_natCast.2 (Nat.le_of_lt (Nat.not_le.1 h'))
    rw [Rat.natCast_mul, Rat.natCast_mul] at h
    generalize (x : Rat) * sK k = p at *
    generalize (y : Rat) * cK k = q at *
    rw [Rat.mul_comm, Rat.mul_comm (sinN k : Rat)] at h
    generalize (x : Rat) * (sinN k : Rat) = u at *
    generalize (y : Rat) * (cosN k : Rat) = v at *
    clear f i h'
    rcases n with n | n
    · exact n
    · exfalso; grind
end Go.Proofs.YtfilgpifiboccaaGreat
namespace Go.Proofs.YtfilgpifiboccaaGreat
/-! Directions turned, mirrored, and stretched. No walk here. -/
theorem bear_fit {yl yh xl xh : Int} (hvy : validB yl yh = true) (hvx : validB xl xh = true) : ∃ p q : Int, bearR yl yh xl xh = (p, q, 0) ∧ 0 ≤ p ∧ p < 21600000 ∧ p ≤ q ∧ q ≤ p + 21600000 := by
  cases ho : originB yl yh xl xh
  · obtain ⟨j, hj, hx0⟩ := half_ex ho
    obtain ⟨A, B, _, _, e, b1, b2, b3⟩ := bear_one hvx hvy ho hj hx0
    refine ⟨_, _, e, ?_, ?_, ?_, ?_⟩ <;> omega
  · exact ⟨0, 21600000, bear_yes hvx hvy ho, by omega, by omega, by omega, by omega⟩
/-! ### stretching -/
end Go.Proofs.YtfilgpifiboccaaGreat

/-
  Bearing told in a half-plane: the angle of a point, rounded down and up, grows with its direction; the arc of a box without the origin. No walk here.
-/
import Derived.Test.YtmididlfnajhiaaGreatDoorT34
import Derived.Test.YtmididlfnajhiaaGreatDoorMc
import Derived.Test.YtmididlfnajhiaaGreatDoorT15
import Derived.Test.YtmididlfnajhiaaGreatDoorT37
namespace Go.Proofs.YtmididlfnajhiaaGreatDoor
open SM
def UU : Nat := 6277101735386680763835789423207666416102355444464034512896
def UR : Rat := 6277101735386680763835789423207666416102355444464034512896
def epU : Rat := 1 / 6277101735386680763835789423207666416102355444464034512896
def ep80 : Rat := 1 / 1208925819614629174706176
def vS (Q : Nat) : Nat → Nat → Nat → Int
  | 0, T, _ => T
  | f + 1, T, n => if T = 0 then 0 else T - vS Q f (serT T Q n) (n + 2)
theorem vS_bd {Q : Nat} (hQ : Q ≤ UU) : ∀ f T n, 0 ≤ vS Q f T n ∧ vS Q f T n ≤ T
  | 0, T, n => by unfold vS; omega
  | f + 1, T, n => by
    unfold vS
    split
    · omega
    · have := vS_bd hQ f (serT T Q n) (n + 2)
      have := serT_le T Q n hQ
      omega
theorem serN_val {Q : Nat} (hQ : Q ≤ UU) : ∀ (f : Nat) (m : Bool) (S T n : Nat), (m = true → T ≤ S) → S + T < 115792089237316195423570985008687907853269984665640564039457584007913129639936 →
    (serN f m S T Q n : Int) = if m then (S : Int) - (T - vS Q f T n) else (S : Int) + (T - vS Q f T n)
  | 0, m, S, T, n, _, _ => by unfold serN vS; split <;> omega
  | f + 1, m, S, T, n, h1, h2 => by
    unfold serN vS
    by_cases hT : T = 0
    · rw [if_pos hT, if_pos hT]; subst hT; split <;> simp
    · rw [if_neg hT, if_neg hT]
      have hl := serT_le T Q n hQ
      cases m
      · have hs : serS false S (serT T Q n) = S + serT T Q n := by
          unfold serS; rw [if_neg (by simp)]; exact Nat.mod_eq_of_lt (by omega)
        rw [hs, serN_val hQ f (!false) _ _ _ (fun _ => by omega) (by omega)]
        simp only [Bool.not_false, reduceIte, Bool.false_eq_true]
        omega
      · have hS := h1 rfl
        have hs : serS true S (serT T Q n) = S - serT T Q n := by
          unfold serS; rw [if_pos rfl]
          rw [show S + 115792089237316195423570985008687907853269984665640564039457584007913129639936 - serT T Q n = (S - serT T Q n) + 115792089237316195423570985008687907853269984665640564039457584007913129639936 by omega, Nat.add_mod_right]
          exact Nat.mod_eq_of_lt (by omega)
        rw [hs, serN_val hQ f (!true) _ _ _ (fun h => by cases h) (by omega)]
        simp only [Bool.not_true, reduceIte, Bool.false_eq_true]
        omega
theorem st_err {t q τ Y h u D i e : Rat} (he : 0 ≤ e ∧ e ≤ ep80 / 8) (hi : i * D = 1) (hi0 : 0 ≤ i) (hi1 : i ≤ 1 / 2) (hτ : 0 ≤ τ ∧ τ ≤ 1) (hq : 0 ≤ q ∧ q ≤ 7 / 10)
    (e1 : Wit (t - τ) ep80) (e2 : Wit (q - Y) (ep80 / 8)) (h1 : h ≤ t * q) (h2 : t * q ≤ h + e) (h3 : u * D ≤ h) (h4 : h ≤ u * D + D * e) : Wit (u - i * (Y * τ)) ep80 := by
  have w1 := e1.mul (show Wit q (7 / 10) from ⟨by grind, hq.2⟩)
  have w2 := (show Wit τ 1 from ⟨by grind, hτ.2⟩).mul e2
  have eT : t * q - Y * τ = (t - τ) * q + τ * (q - Y) := by grind
  have w3 : Wit (t * q - Y * τ) (7 / 10 * ep80 + ep80 / 8) := by rw [eT]; unfold Wit at *; constructor <;> grind
  have m1 := Rat.mul_le_mul_of_nonneg_left h3 hi0
  have m2 := Rat.mul_le_mul_of_nonneg_left h4 hi0
  have m3 := Rat.mul_le_mul_of_nonneg_left h1 hi0
  have m4 := Rat.mul_le_mul_of_nonneg_left h2 hi0
  have a1 : i * (u * D) = u := by rw [show i * (u * D) = (i * D) * u by grind, hi]; grind
  have a2 : i * (u * D + D * e) = u + e := by rw [show i * (u * D + D * e) = (i * D) * (u + e) by grind, hi]; grind
  have w4 := (show Wit i (1 / 2) from ⟨by grind, hi1⟩).mul w3
  have a3 : i * (t * q - Y * τ) = i * (t * q) - i * (Y * τ) := by grind
  have m5 : i * (h + e) ≤ i * h + e := by
    have := Rat.mul_le_mul_of_nonneg_right (show i ≤ 1 by grind) he.1
    grind
  rw [a1] at m1
  rw [a2] at m2
  rw [a3] at w4
  generalize i * (t * q) = A at *
  generalize i * (Y * τ) = B at *
  generalize i * h = C at *
  unfold Wit ep80 at *
  constructor <;> grind
theorem epU_mul : epU * UR = 1 := by unfold epU UR; grind
theorem epU_pos : 0 ≤ epU ∧ epU ≤ ep80 / 8 := by unfold epU ep80; constructor <;> grind
theorem serT_err {T Q k o : Nat} (hT : T ≤ UU) (hQ : Q ≤ UU) {τ Y : Rat} (hτ : 0 ≤ τ ∧ τ ≤ 1) (hq7 : (Q : Rat) * epU ≤ 7 / 10) (e1 : Wit ((T : Rat) * epU - τ) ep80) (e2 : Wit ((Q : Rat) * epU - Y) (ep80 / 8)) :
    Wit ((serT T Q (2 * k + o) : Rat) * epU - 1 / (((2 * k + 1 + o) * (2 * k + 2 + o) : Nat) : Rat) * (Y * τ)) ep80 := by
  have hle : T * Q / UU ≤ T := by
    have : T * Q ≤ T * UU := Nat.mul_le_mul_left _ hQ
    exact Nat.div_le_of_le_mul (by rw [Nat.mul_comm _ T]; exact this)
  have hu : serT T Q (2 * k + o) = T * Q / UU / ((2 * k + 1 + o) * (2 * k + 2 + o)) := by
    unfold serT
    rw [show T * Q / 6277101735386680763835789423207666416102355444464034512896 = T * Q / UU from rfl, Nat.mod_eq_of_lt (by unfold UU at *; omega), show 2 * k + o + 1 = 2 * k + 1 + o by omega, show 2 * k + o + 2 = 2 * k + 2 + o by omega]
  have hd := dk_ge o k
  rw [hu]
  generalize (2 * k + 1 + o) * (2 * k + 2 + o) = D at *
  have i1 := inv_le_half hd
  have i0 := inv_nonneg' (D : Rat) (by exact_mod_cast Nat.zero_le _)
  have hD : (2 : Rat) ≤ (D : Rat) := by exact_mod_cast hd
  have hiD : 1 / (D : Rat) * (D : Rat) = 1 := by grind
  have b1 := div_bd (T * Q) UU (by decide)
  have b2 := div_bd (T * Q / UU) D (by omega)
  generalize T * Q / UU / D = U at *
  generalize T * Q / UU = H at *
  rw [Rat.natCast_mul, show ((UU : Nat) : Rat) = UR from rfl] at b1
  have hU := epU_mul
  obtain ⟨p0, p1⟩ := epU_pos
  have q0 : (0 : Rat) ≤ (Q : Rat) * epU := Rat.mul_nonneg (by exact_mod_cast Nat.zero_le _) p0
  have c1 := Rat.mul_le_mul_of_nonneg_right b1.1 p0
  have c2 := Rat.mul_le_mul_of_nonneg_right b1.2 p0
  have c1' := Rat.mul_le_mul_of_nonneg_right c1 p0
  have c2' := Rat.mul_le_mul_of_nonneg_right c2 p0
  have c3 := Rat.mul_le_mul_of_nonneg_right b2.1 p0
  have c4 := Rat.mul_le_mul_of_nonneg_right b2.2 p0
  have r1 : UR * (H : Rat) * epU * epU = (H : Rat) * epU := by rw [show UR * (H : Rat) * epU * epU = (epU * UR) * ((H : Rat) * epU) by grind, hU]; grind
  have r2 : (T : Rat) * (Q : Rat) * epU * epU = (T : Rat) * epU * ((Q : Rat) * epU) := by grind
  have r3 : (UR * (H : Rat) + UR) * epU * epU = (H : Rat) * epU + epU := by rw [show (UR * (H : Rat) + UR) * epU * epU = (epU * UR) * ((H : Rat) * epU + epU) by grind, hU]; grind
  rw [r1, r2] at c1'
  rw [r2, r3] at c2'
  refine st_err ⟨p0, p1⟩ hiD i0 i1 hτ ⟨q0, hq7⟩ e1 e2 c1' c2' (by grind) (by grind)
theorem vS_err {o : Nat} (ho : o ≤ 1) {Q : Nat} (hQ : Q ≤ UU) {Y : Rat} (hY : 0 ≤ Y ∧ Y ≤ 7 / 10) (hq7 : (Q : Rat) * epU ≤ 7 / 10) (e2 : Wit ((Q : Rat) * epU - Y) (ep80 / 8)) :
    ∀ (p k f : Nat) (T : Nat) (τ : Rat), k + p = 10 → p ≤ f → T ≤ UU → 0 ≤ τ → τ ≤ 1 → τ ≤ taub o k → Wit ((T : Rat) * epU - τ) ep80 →
      Wit ((vS Q f T (2 * k + o) : Rat) * epU - τ * tl o Y k p) (((p : Rat) + 2) * ep80 + 1 / 4611686018427387904)
  | 0, k, f, T, τ, hk, _, hT, h0, h1, hb, e1 => by
    obtain rfl : k = 10 := by omega
    have hv := vS_bd hQ f T (2 * 10 + o)
    have v0 : (0 : Rat) ≤ (vS Q f T (2 * 10 + o) : Rat) := by exact_mod_cast hv.1
    have v1 : (vS Q f T (2 * 10 + o) : Rat) ≤ (T : Rat) := by
      have := Rat.intCast_le_intCast.2 hv.2
      rw [Rat.intCast_natCast] at this
      exact this
    obtain ⟨p0, p1⟩ := epU_pos
    have m0 := Rat.mul_nonneg v0 p0
    have m1 := Rat.mul_le_mul_of_nonneg_right v1 p0
    have hz : 4611686018427387904 * τ ≤ 1 := by
      have := Rat.mul_le_mul_of_nonneg_left hb (show (0 : Rat) ≤ 4611686018427387904 by grind)
      rcases (show o = 0 ∨ o = 1 by omega) with rfl | rfl
      · have t0 := taub0; grind
      · have t0 := taub1; grind
    have e : tl o Y 10 0 = 1 := rfl
    have c0 : ((0 : Nat) : Rat) = 0 := rfl
    rw [e, c0, Rat.mul_one]
    generalize (vS Q f T (2 * 10 + o) : Rat) * epU = V at *
    generalize (T : Rat) * epU = t at *
    unfold Wit ep80 at *
    constructor <;> grind
  | p + 1, k, f, T, τ, hk, hf, hT, h0, h1, hb, e1 => by
    obtain ⟨f, rfl⟩ : ∃ g, f = g + 1 := ⟨f - 1, by omega⟩
    have cp : ((p + 1 : Nat) : Rat) = (p : Rat) + 1 := by rw [Rat.natCast_add]; rfl
    have pn : (0 : Rat) ≤ (p : Rat) := by exact_mod_cast Nat.zero_le p
    have hep : (0 : Rat) ≤ ep80 := by unfold ep80; grind
    have hpe := Rat.mul_nonneg pn hep
    rw [cp]
    unfold vS
    by_cases hT0 : T = 0
    · rw [if_pos hT0]
      subst hT0
      have hb2 := tl_bd o Y ⟨hY.1, by grind⟩ (p + 1) k
      have m0 := Rat.mul_nonneg h0 hb2.1
      have m1 : τ * tl o Y k (p + 1) ≤ τ := by
        have := Rat.mul_le_mul_of_nonneg_left hb2.2 h0
        grind
      have c0 : ((0 : Nat) : Rat) = 0 := rfl
      have c1 : ((0 : Int) : Rat) = 0 := rfl
      rw [c0] at e1
      rw [c1]
      generalize τ * tl o Y k (p + 1) = R at *
      unfold Wit at *
      constructor <;> grind
    · rw [if_neg hT0]
      have hs := serT_err (k := k) (o := o) hT hQ ⟨h0, h1⟩ hq7 e1 e2
      have hl := serT_le T Q (2 * k + o) hQ
      have b1 := tau_step (o := o) (k := k) hY h0 hb
      have hd := dk_ge o k
      have i1 := inv_le_half hd
      have i0 := inv_nonneg' (((2 * k + 1 + o) * (2 * k + 2 + o) : Nat) : Rat) (by exact_mod_cast Nat.zero_le _)
      have yt0 := Rat.mul_nonneg hY.1 h0
      have yt1 : Y * τ ≤ 1 := by
        have := Rat.mul_le_mul_of_nonneg_left h1 hY.1
        grind
      have u0 := Rat.mul_nonneg i0 yt0
      have u1 := Rat.mul_le_mul_of_nonneg_left yt1 i0
      have ih := vS_err ho hQ hY hq7 e2 p (k + 1) f (serT T Q (2 * k + o)) _ (by omega) (by omega) (by omega) u0 (by grind) b1 hs
      rw [show 2 * (k + 1) + o = 2 * k + o + 2 by omega] at ih
      rw [Rat.intCast_sub, Rat.intCast_natCast]
      have tle : τ * tl o Y k (p + 1) = τ - 1 / (((2 * k + 1 + o) * (2 * k + 2 + o) : Nat) : Rat) * (Y * τ) * tl o Y (k + 1) p := by
        rw [tl]
        generalize 1 / (((2 * k + 1 + o) * (2 * k + 2 + o) : Nat) : Rat) = i
        grind
      rw [tle]
      generalize (vS Q f (serT T Q (2 * k + o)) (2 * k + o + 2) : Rat) = V' at *
      generalize 1 / (((2 * k + 1 + o) * (2 * k + 2 + o) : Nat) : Rat) * (Y * τ) * tl o Y (k + 1) p = R at *
      have hdist : ((T : Rat) - V') * epU = (T : Rat) * epU - V' * epU := by grind
      rw [hdist]
      generalize V' * epU = A at *
      generalize (T : Rat) * epU = B at *
      unfold Wit at *
      constructor <;> grind
end Go.Proofs.YtmididlfnajhiaaGreatDoor
namespace Go.Proofs.YtmididlfnajhiaaGreatDoor
open SM
theorem angN_err (k : Nat) (hk : k ≤ 2700000) : Wit ((angN k : Rat) * epU - xR k) (ep80 / 64) := by
  have h1 : angN k * 10800000 ≤ 19720096697726538562396133364228268891463450865190089732560 * k := by unfold angN; omega
  have h2 : 19720096697726538562396133364228268891463450865190089732560 * k ≤ angN k * 10800000 + 10800000 := by unfold angN; omega
  generalize angN k = A at *
  have r1 := Rat.natCast_le_natCast.2 h1
  have r2 := Rat.natCast_le_natCast.2 h2
  rw [Rat.natCast_mul, Rat.natCast_mul] at r1
  rw [Rat.natCast_add, Rat.natCast_mul, Rat.natCast_mul] at r2
  have c1 : ((10800000 : Nat) : Rat) = 10800000 := rfl
  have c2 : ((19720096697726538562396133364228268891463450865190089732560 : Nat) : Rat) = 19720096697726538562396133364228268891463450865190089732560 := rfl
  rw [c1, c2] at r1 r2
  have n0 : (0 : Rat) ≤ (k : Rat) := by exact_mod_cast Nat.zero_le _
  have n1 : (k : Rat) ≤ ((2700000 : Nat) : Rat) := Rat.natCast_le_natCast.2 hk
  have c3 : ((2700000 : Nat) : Rat) = 2700000 := rfl
  rw [c3] at n1
  unfold Wit xR th pi96 ep80 epU
  generalize (k : Rat) = K at *
  generalize (A : Rat) = a at *
  clear h1 h2 c1 c2 c3
  constructor <;> grind
theorem sqN_err (k : Nat) (hk : k ≤ 2700000) : Wit ((sqN k : Rat) * epU - xR k * xR k) (ep80 / 8) ∧ (sqN k : Rat) * epU ≤ 7 / 10 ∧ sqN k ≤ UU := by
  have ha := angN_err k hk
  have hb := xR_bd k (by omega)
  have hl := angN_lt k hk
  have b := div_bd (angN k * angN k) UU (by decide)
  have hs := sqN_lt k hk
  change sqN k < UU at hs
  change angN k < UU at hl
  rw [Rat.natCast_mul, show ((UU : Nat) : Rat) = UR from rfl] at b
  have hq : sqN k = angN k * angN k / UU := rfl
  rw [← hq] at b
  obtain ⟨p0, p1⟩ := epU_pos
  have hU := epU_mul
  have c1 := Rat.mul_le_mul_of_nonneg_right (Rat.mul_le_mul_of_nonneg_right b.1 p0) p0
  have c2 := Rat.mul_le_mul_of_nonneg_right (Rat.mul_le_mul_of_nonneg_right b.2 p0) p0
  have r1 : UR * (sqN k : Rat) * epU * epU = (sqN k : Rat) * epU := by rw [show UR * (sqN k : Rat) * epU * epU = (epU * UR) * ((sqN k : Rat) * epU) by grind, hU]; grind
  have r2 : (angN k : Rat) * (angN k : Rat) * epU * epU = (angN k : Rat) * epU * ((angN k : Rat) * epU) := by grind
  have r3 : (UR * (sqN k : Rat) + UR) * epU * epU = (sqN k : Rat) * epU + epU := by rw [show (UR * (sqN k : Rat) + UR) * epU * epU = (epU * UR) * ((sqN k : Rat) * epU + epU) by grind, hU]; grind
  rw [r1, r2] at c1
  rw [r2, r3] at c2
  have a0 : 0 ≤ (angN k : Rat) * epU := Rat.mul_nonneg (by exact_mod_cast Nat.zero_le _) p0
  have hx7 : xR k * xR k ≤ 6200 / 10000 := by
    have x79 : xR k ≤ 787 / 1000 := by
      have n1 : (k : Rat) ≤ ((2700000 : Nat) : Rat) := Rat.natCast_le_natCast.2 hk
      have c3 : ((2700000 : Nat) : Rat) = 2700000 := rfl
      rw [c3] at n1
      unfold xR th pi96
      grind
    have := Rat.mul_le_mul_of_nonneg_left x79 hb.1
    grind
  have w := ha.mul (show Wit ((angN k : Rat) * epU + xR k) 2 from by unfold Wit ep80 at *; constructor <;> grind)
  have e : ((angN k : Rat) * epU - xR k) * ((angN k : Rat) * epU + xR k) = (angN k : Rat) * epU * ((angN k : Rat) * epU) - xR k * xR k := by grind
  rw [e] at w
  generalize (angN k : Rat) * epU * ((angN k : Rat) * epU) = A at *
  generalize xR k * xR k = Y at *
  generalize (sqN k : Rat) * epU = q at *
  have p2 : epU ≤ ep80 / 16 := by unfold epU ep80; grind
  unfold Wit at *
  refine ⟨⟨by unfold ep80 at *; grind, by unfold ep80 at *; grind⟩, by unfold ep80 at *; grind, by omega⟩
theorem circ_err (k : Nat) (hk : k ≤ 2700000) : Wit ((sinL k : Rat) * epU - tS k) (1 / 1152921504606846976) ∧ Wit ((cosL k : Rat) * epU - tC k) (1 / 1152921504606846976) := by
  obtain ⟨q1, q2, q3⟩ := sqN_err k hk
  have ha := angN_err k hk
  have hb := xR_bd k (by omega)
  have hY := sq_bd k (by omega)
  have hl := angN_lt k hk
  have t1 := hR_tl 1 (xR k * xR k) 10 0
  have t0 := hR_tl 0 (xR k * xR k) 10 0
  rw [show tl 1 (xR k * xR k) 10 0 = 1 from rfl, show (1 : Rat) - 1 = 0 by grind] at t1
  rw [show tl 0 (xR k * xR k) 10 0 = 1 from rfl, show (1 : Rat) - 1 = 0 by grind] at t0
  rw [show 10 + 0 = 10 from rfl] at t0 t1
  have c10 : ((10 : Nat) : Rat) = 10 := rfl
  have hE : (0 : Rat) ≤ ep80 := by unfold ep80; grind
  constructor
  · have hv := serN_val q3 300 true (angN k) (angN k) 1 (fun _ => Nat.le_refl _) (by omega)
    have h := vS_err (o := 1) (by omega) q3 hY q2 q1 10 0 300 (angN k) (xR k) (by omega) (by omega) (by unfold UU; omega) hb.1 (by grind) (by unfold taub; grind) (ha.mono (by grind))
    have e1 : ((sinL k : Nat) : Rat) = (vS (sqN k) 300 (angN k) (2 * 0 + 1) : Rat) := by
      rw [← Rat.intCast_natCast]
      have : ((sinL k : Nat) : Int) = vS (sqN k) 300 (angN k) (2 * 0 + 1) := by
        unfold sinL; rw [hv, if_pos rfl, show 2 * 0 + 1 = 1 from rfl]; omega
      rw [this]
    rw [e1]
    rw [← t1, c10] at h
    have e2 : tS k = xR k * (1 - hR 1 (xR k * xR k) 10 0) := by unfold tS; rfl
    rw [e2]
    exact h.mono (by unfold ep80; grind)
  · have hv := serN_val q3 300 true UU UU 0 (fun _ => Nat.le_refl _) (by unfold UU; omega)
    have hone : Wit ((UU : Rat) * epU - 1) ep80 := by
      have : ((UU : Nat) : Rat) = UR := rfl
      have hU := epU_mul
      rw [this]
      unfold Wit
      constructor <;> grind
    have h := vS_err (o := 0) (by omega) q3 hY q2 q1 10 0 300 UU 1 (by omega) (by omega) (Nat.le_refl _) (by grind) (by grind) (by unfold taub; grind) hone
    have e1 : ((cosL k : Nat) : Rat) = (vS (sqN k) 300 UU (2 * 0 + 0) : Rat) := by
      rw [← Rat.intCast_natCast]
      have : ((cosL k : Nat) : Int) = vS (sqN k) 300 UU (2 * 0 + 0) := by
        have hc : cosL k = serN 300 true UU UU (sqN k) 0 := rfl
        rw [hc, hv, if_pos rfl, show 2 * 0 + 0 = 0 from rfl]; omega
      rw [this]
    rw [e1]
    rw [← t0, c10] at h
    have e2 : tC k = 1 * (1 - hR 0 (xR k * xR k) 10 0) := by unfold tC; grind
    rw [e2]
    exact h.mono (by unfold ep80; grind)
end Go.Proofs.YtmididlfnajhiaaGreatDoor
namespace Go.Proofs.YtmididlfnajhiaaGreatDoor
open SM
def epN : Rat := 1 / 576460752303423488
theorem mid_eq : Wit (tS 2700000 - tC 2700000) (1 / 1152921504606846976) := by
  have a := aS_bd 2700000 (by omega)
  have b := aC_bd 2700000 (by omega)
  have e1 : aS 2700000 ≤ aC 2700000 + 50000000 := by decide +kernel
  have e2 : aC 2700000 ≤ aS 2700000 + 50000000 := by decide +kernel
  have g1 : ((aS 2700000 : Nat) : Rat) ≤ ((aC 2700000 + 50000000 : Nat) : Rat) := Rat.natCast_le_natCast.2 e1
  have g2 : ((aC 2700000 : Nat) : Rat) ≤ ((aS 2700000 + 50000000 : Nat) : Rat) := Rat.natCast_le_natCast.2 e2
  rw [Rat.natCast_add] at g1 g2
  have c : ((50000000 : Nat) : Rat) = 50000000 := rfl
  rw [c] at g1 g2
  unfold Wit G86 at *
  constructor <;> grind
theorem sinN_err (k : Nat) (hk : k ≤ 5400000) : Wit ((sinN k : Rat) * epU - T k) epN ∧ Wit ((cosN k : Rat) * epU - T (5400000 - k)) epN := by
  have hm := mid_eq
  unfold sinN cosN T
  rcases Nat.lt_trichotomy k 2700000 with h | h | h
  · rw [if_pos (by omega), if_pos (by omega), if_pos (by omega), if_neg (by omega), show 5400000 - (5400000 - k) = k by omega]
    have := circ_err k (by omega)
    exact ⟨this.1.mono (by unfold epN; grind), this.2.mono (by unfold epN; grind)⟩
  · subst h
    rw [if_pos (by omega), if_pos (by omega), if_pos (by omega)]
    have := circ_err 2700000 (by omega)
    refine ⟨this.1.mono (by unfold epN; grind), ?_⟩
    have h2 := this.2
    unfold Wit epN at *
    constructor <;> grind
  · rw [if_neg (by omega), if_neg (by omega), if_neg (by omega), if_pos (by omega)]
    have := circ_err (5400000 - k) (by omega)
    exact ⟨this.2.mono (by unfold epN; grind), this.1.mono (by unfold epN; grind)⟩
theorem T_lt {j k : Nat} (h : j < k) (hk : k ≤ 5400000) : T j + 1 / 77371252455337 ≤ T k := by
  obtain ⟨d, rfl⟩ : ∃ d, k = j + 1 + d := ⟨k - j - 1, by omega⟩
  induction d with
  | zero =>
    have := up j (by omega)
    unfold G86 at this
    grind
  | succ d ih =>
    have := up (j + 1 + d) (by omega)
    have := ih (by omega) (by omega)
    rw [show j + 1 + (d + 1) = j + 1 + d + 1 by omega]
    unfold G86 at *
    grind
theorem lt_of_epU {a b : Nat} (h : (a : Rat) * epU < (b : Rat) * epU) : a < b := by
  rcases Nat.lt_or_ge a b with h1 | h1
  · exact h1
  · exfalso
    have h2 : ((b : Nat) : Rat) ≤ ((a : Nat) : Rat) := Rat.natCast_le_natCast.2 h1
    have := Rat.mul_le_mul_of_nonneg_right h2 epU_pos.1
    grind
theorem sinN_up {j k : Nat} (h : j < k) (hk : k ≤ 5400000) : sinN j < sinN k ∧ cosN k < cosN j := by
  obtain ⟨a1, a2⟩ := sinN_err j (by omega)
  obtain ⟨b1, b2⟩ := sinN_err k hk
  have t1 := T_lt h hk
  have t2 := T_lt (j := 5400000 - k) (k := 5400000 - j) (by omega) (by omega)
  constructor
  · apply lt_of_epU
    unfold Wit epN at *
    grind
  · apply lt_of_epU
    unfold Wit epN at *
    grind
theorem sin_cos {k : Nat} (h : k < 2700000) : sinN k < cosN k := by
  obtain ⟨a1, a2⟩ := sinN_err k (by omega)
  have t1 := T_lt (j := k) (k := 5400000 - k) (by omega) (by omega)
  apply lt_of_epU
  unfold Wit epN at *
  grind
theorem cos_sin {k : Nat} (h : 2700000 < k) (hk : k ≤ 5400000) : cosN k < sinN k := by
  obtain ⟨a1, a2⟩ := sinN_err k (by omega)
  have t1 := T_lt (j := 5400000 - k) (k := k) (by omega) (by omega)
  apply lt_of_epU
  unfold Wit epN at *
  grind
theorem T_le_one (k : Nat) (hk : k ≤ 5400000) : 0 ≤ T k ∧ T k ≤ 1 := by
  unfold T
  split
  · have a := tS_bd k (by omega)
    have b := xR_bd k (by omega)
    constructor <;> grind
  · have a := tC_bd (5400000 - k) (by omega)
    constructor <;> grind
theorem sinN_le (k : Nat) (hk : k ≤ 5400000) : sinN k < 12554203470773361527671578846415332832204710888928069025792 ∧ cosN k < 12554203470773361527671578846415332832204710888928069025792 := by
  obtain ⟨a1, a2⟩ := sinN_err k hk
  have t1 := T_le_one k hk
  have t2 := T_le_one (5400000 - k) (by omega)
  have hU : (2 : Rat) = ((12554203470773361527671578846415332832204710888928069025792 : Nat) : Rat) * epU := by
    have : ((12554203470773361527671578846415332832204710888928069025792 : Nat) : Rat) = 12554203470773361527671578846415332832204710888928069025792 := rfl
    rw [this]; unfold epU; grind
  constructor
  · apply lt_of_epU
    rw [← hU]
    unfold Wit epN at *
    grind
  · apply lt_of_epU
    rw [← hU]
    unfold Wit epN at *
    grind
theorem reaB_iff {x y k : Nat} (hx : x ≤ 2147483648) (hy : y ≤ 2147483648) (h0 : k ≠ 0) (h1 : k ≠ 2700000) (hk : k ≤ 5400000) : reaB x y k = true ↔ sinN k * x ≤ cosN k * y := by
  obtain ⟨s1, s2⟩ := sinN_le k hk
  have p1 : sinN k * x < M256 := by
    have := Nat.mul_le_mul (Nat.le_of_lt s1) hx
    unfold M256; omega
  have p2 : cosN k * y < M256 := by
    have := Nat.mul_le_mul (Nat.le_of_lt s2) hy
    unfold M256; omega
  unfold reaB
  rw [if_neg h0, if_neg h1, Nat.mod_eq_of_lt p1, Nat.mod_eq_of_lt p2]
  simp
theorem reaB_zero (x y : Nat) : reaB x y 0 = true := by unfold reaB; rw [if_pos rfl]
theorem reaB_mid (x y : Nat) : reaB x y 2700000 = true ↔ x ≤ y := by unfold reaB; rw [if_neg (by omega), if_pos rfl]; simp
theorem reaB_mono {x y u v j k : Nat} (hx0 : 0 < x) (hx : x ≤ 2147483648) (hy : y ≤ 2147483648) (hu : u ≤ 2147483648) (hv : v ≤ 2147483648) (hc : y * u ≤ x * v) (hjk : j ≤ k) (hk : k ≤ 5400000) (h : reaB x y k = true) : reaB u v j = true := by
  by_cases j0 : j = 0
  · subst j0; exact reaB_zero u v
  have key : ∀ s c S C : Nat, s * C ≤ S * c → S * x ≤ C * y → 0 < C → s * u ≤ c * v := fun s c S C h1 h2 hC => by
    have a1 : s * u * (x * C) ≤ c * v * (x * C) := by
      have b1 := Nat.mul_le_mul_right (u * x) h1
      have b2 := Nat.mul_le_mul_right (c * u) h2
      have b3 := Nat.mul_le_mul_left (C * c) hc
      have e1 : s * u * (x * C) = s * C * (u * x) := by grind
      have e2 : S * c * (u * x) = S * x * (c * u) := by grind
      have e3 : C * y * (c * u) = C * c * (y * u) := by grind
      have e4 : C * c * (x * v) = c * v * (x * C) := by grind
      omega
    exact Nat.le_of_mul_le_mul_right a1 (Nat.mul_pos hx0 hC)
  have hord : ∀ {p q : Nat}, p ≤ q → q ≤ 5400000 → sinN p ≤ sinN q ∧ cosN q ≤ cosN p := fun {p q} h1 h2 => by
    rcases Nat.eq_or_lt_of_le h1 with e | e
    · subst e; exact ⟨Nat.le_refl _, Nat.le_refl _⟩
    · have := sinN_up e h2; omega
  have hCpos : ∀ {q : Nat}, q < 5400000 → 0 < cosN q := fun {q} h1 => by
    have := (sinN_up (j := q) (k := q + 1) (by omega) (by omega)).2; omega
  by_cases k2 : k = 2700000
  · subst k2
    have hxy := (reaB_mid x y).1 h
    by_cases j2 : j = 2700000
    · subst j2
      rw [reaB_mid]
      have := key 1 1 1 1 (by omega) (by omega) (by omega)
      omega
    · rw [reaB_iff hu hv j0 j2 (by omega)]
      have h1 := sin_cos (k := j) (by omega)
      exact key (sinN j) (cosN j) 1 1 (by omega) (by omega) (by omega)
  · have k0 : k ≠ 0 := by omega
    have hxy := (reaB_iff hx hy k0 k2 hk).1 h
    obtain ⟨o1, o2⟩ := hord hjk hk
    have hkC : 0 < cosN k := by
      rcases Nat.eq_or_lt_of_le hk with e | e
      · -- at a right angle the sine's multiple is too great
        rcases Nat.eq_zero_or_pos (cosN k) with c0 | c0
        · exfalso
          rw [c0, Nat.zero_mul] at hxy
          have := (sinN_up (j := 0) (k := k) (by omega) hk).1
          have : 0 < sinN k * x := Nat.mul_pos (by omega) hx0
          omega
        · exact c0
      · exact hCpos e
    by_cases j2 : j = 2700000
    · subst j2
      rw [reaB_mid]
      have h1 := cos_sin (k := k) (by omega) hk
      have := key 1 1 (sinN k) (cosN k) (by omega) hxy hkC
      omega
    · rw [reaB_iff hu hv j0 j2 (by omega)]
      refine key (sinN j) (cosN j) (sinN k) (cosN k) ?_ hxy hkC
      exact Nat.mul_le_mul o1 o2
end Go.Proofs.YtmididlfnajhiaaGreatDoor
namespace Go.Proofs.YtmididlfnajhiaaGreatDoor
open SM
theorem srch_ok (f : Nat → Bool) : ∀ (n low high : Nat), low < high → high - low ≤ 2 ^ n → f low = true → low ≤ srch f n low high ∧ srch f n low high < high ∧ f (srch f n low high) = true ∧ (srch f n low high + 1 = high ∨ f (srch f n low high + 1) = false)
  | 0, low, high, h, hn, hf => by
    have : high = low + 1 := by simp at hn; omega
    subst this
    exact ⟨Nat.le_refl _, by unfold srch; omega, hf, .inl rfl⟩
  | n + 1, low, high, h, hn, hf => by
    have hp : 2 ^ (n + 1) = 2 ^ n * 2 := Nat.pow_succ 2 n
    rw [hp] at hn
    unfold srch
    by_cases c : high - low ≤ 1
    · rw [if_pos c]; exact ⟨Nat.le_refl _, h, hf, .inl (by omega)⟩
    · rw [if_neg c]
      cases hm : f ((low + high) / 2)
      · rw [if_neg (by simp)]
        obtain ⟨a, b, d, e⟩ := srch_ok f n low ((low + high) / 2) (by omega) (by omega) hf
        refine ⟨a, by omega, d, ?_⟩
        rcases e with e | e
        · right; rw [e]; exact hm
        · exact .inr e
      · rw [if_pos rfl]
        obtain ⟨a, b, d, e⟩ := srch_ok f n ((low + high) / 2) high (by omega) (by omega) hm
        exact ⟨by omega, b, d, e⟩
def F (x y : Nat) : Nat := srch (reaB x y) 23 0 5400000
def exF (x y : Nat) : Bool := (F x y == 0 && y == 0) || (F x y == 2700000 && x == y)
def C (x y : Nat) : Nat := F x y + if exF x y then 0 else 1
theorem F_spec (x y : Nat) : F x y < 5400000 ∧ reaB x y (F x y) = true ∧ (F x y + 1 = 5400000 ∨ reaB x y (F x y + 1) = false) := by
  have := srch_ok (reaB x y) 23 0 5400000 (by omega) (by decide) (reaB_zero x y)
  exact this.2
theorem F_ge {x y k : Nat} (hx0 : 0 < x) (hx : x ≤ 2147483648) (hy : y ≤ 2147483648) (hk : k < 5400000) (h : reaB x y k = true) : k ≤ F x y := by
  obtain ⟨a, b, c⟩ := F_spec x y
  rcases Nat.lt_or_ge (F x y) k with h1 | h1
  · exfalso
    have := reaB_mono (j := F x y + 1) hx0 hx hy hx hy (by rw [Nat.mul_comm]; exact Nat.le_refl _) (by omega) (by omega) h
    rcases c with c | c
    · omega
    · rw [c] at this; cases this
  · exact h1
theorem F_mono {x y u v : Nat} (hx0 : 0 < x) (hx : x ≤ 2147483648) (hy : y ≤ 2147483648) (hu0 : 0 < u) (hu : u ≤ 2147483648) (hv : v ≤ 2147483648) (hc : y * u ≤ x * v) : F x y ≤ F u v := by
  obtain ⟨a, b, c⟩ := F_spec x y
  exact F_ge hu0 hu hv a (reaB_mono hx0 hx hy hu hv hc (Nat.le_refl _) (by omega) b)
theorem C_mono {x y u v : Nat} (hx0 : 0 < x) (hx : x ≤ 2147483648) (hy : y ≤ 2147483648) (hu0 : 0 < u) (hu : u ≤ 2147483648) (hv : v ≤ 2147483648) (hc : y * u ≤ x * v) : C x y ≤ C u v := by
  have hF := F_mono hx0 hx hy hu0 hu hv hc
  unfold C
  cases hex : exF u v
  · simp only [Bool.false_eq_true, reduceIte]; split <;> omega
  · simp only [reduceIte]
    rcases Nat.eq_or_lt_of_le hF with e | e
    · have : exF x y = true := by
        unfold exF at hex ⊢
        simp only [Bool.or_eq_true, Bool.and_eq_true, beq_iff_eq] at hex ⊢
        rcases hex with ⟨h1, h2⟩ | ⟨h1, h2⟩
        · left
          rw [h2, Nat.mul_zero] at hc
          have := Nat.eq_zero_of_le_zero hc
          rcases Nat.mul_eq_zero.1 this with h3 | h3
          · exact ⟨by omega, h3⟩
          · omega
        · right
          refine ⟨by omega, ?_⟩
          subst h2
          have h3 : y ≤ x := Nat.le_of_mul_le_mul_right hc hu0
          have h4 := (F_spec x y).2.1
          rw [e, h1] at h4
          have := (reaB_mid x y).1 h4
          omega
      rw [this, if_pos rfl]; omega
    · split <;> omega
theorem C_bd (x y : Nat) : F x y ≤ C x y ∧ C x y ≤ 5400000 := by
  have := (F_spec x y).1
  unfold C
  constructor <;> (split <;> omega)
def fl (x y : Int) : Int := if 0 ≤ y then (F x.toNat y.toNat : Int) else (F (-y).toNat x.toNat : Int) - 5400000
def ex (x y : Int) : Bool := if 0 ≤ y then exF x.toNat y.toNat else exF (-y).toNat x.toNat
def ce (x y : Int) : Int := fl x y + if ex x y then 0 else 1
def In31 (x y : Int) : Prop := 0 < x ∧ x ≤ 2147483648 ∧ -2147483648 ≤ y ∧ y ≤ 2147483648
theorem ce_eq (x y : Int) : ce x y = if 0 ≤ y then (C x.toNat y.toNat : Int) else (C (-y).toNat x.toNat : Int) - 5400000 := by
  unfold ce fl ex C
  by_cases h : 0 ≤ y
  · rw [if_pos h, if_pos h, if_pos h]; split <;> simp
  · rw [if_neg h, if_neg h, if_neg h]; split <;> omega
theorem fl_bd (x y : Int) : -5400000 ≤ fl x y ∧ fl x y ≤ ce x y ∧ ce x y ≤ 5400000 ∧ ce x y ≤ fl x y + 1 := by
  refine ⟨?_, ?_, ?_, ?_⟩
  · unfold fl; split <;> omega
  · unfold ce; split <;> omega
  · rw [ce_eq]
    have := C_bd x.toNat y.toNat
    have := C_bd (-y).toNat x.toNat
    split <;> omega
  · unfold ce; split <;> omega
theorem nat_mul {a b : Int} (ha : 0 ≤ a) (hb : 0 ≤ b) : ((a.toNat * b.toNat : Nat) : Int) = a * b := by
  rw [Int.natCast_mul, Int.toNat_of_nonneg ha, Int.toNat_of_nonneg hb]
theorem nat_le {a b c d : Int} (ha : 0 ≤ a) (hb : 0 ≤ b) (hc : 0 ≤ c) (hd : 0 ≤ d) (h : a * b ≤ c * d) : a.toNat * b.toNat ≤ c.toNat * d.toNat := by
  have e1 := nat_mul ha hb
  have e2 := nat_mul hc hd
  omega
theorem fl_mono {x y u v : Int} (hp : In31 x y) (hq : In31 u v) (hc : y * u ≤ x * v) : fl x y ≤ fl u v ∧ ce x y ≤ ce u v := by
  obtain ⟨p0, p1, p2, p3⟩ := hp
  obtain ⟨q0, q1, q2, q3⟩ := hq
  rw [ce_eq, ce_eq]
  unfold fl
  by_cases hy : 0 ≤ y
  · have hv : 0 ≤ v := by
      rcases Int.lt_or_le v 0 with h | h
      · exfalso
        have := Int.mul_neg_of_pos_of_neg p0 h
        have := Int.mul_nonneg hy (Int.le_of_lt q0)
        omega
      · exact h
    rw [if_pos hy, if_pos hv, if_pos hy, if_pos hv]
    have hn := nat_le hy (Int.le_of_lt q0) (Int.le_of_lt p0) hv hc
    have := F_mono (x := x.toNat) (y := y.toNat) (u := u.toNat) (v := v.toNat) (by omega) (by omega) (by omega) (by omega) (by omega) (by omega) hn
    have := C_mono (x := x.toNat) (y := y.toNat) (u := u.toNat) (v := v.toNat) (by omega) (by omega) (by omega) (by omega) (by omega) (by omega) hn
    omega
  · rw [if_neg hy, if_neg hy]
    by_cases hv : 0 ≤ v
    · rw [if_pos hv, if_pos hv]
      have := (F_spec (-y).toNat x.toNat).1
      have := C_bd (-y).toNat x.toNat
      have := C_bd u.toNat v.toNat
      omega
    · rw [if_neg hv, if_neg hv]
      have hc' : x * (-v) ≤ (-y) * u := by rw [Int.mul_neg, Int.neg_mul]; omega
      have hn := nat_le (a := x) (b := -v) (c := -y) (d := u) (by omega) (by omega) (by omega) (by omega) hc'
      have := F_mono (x := (-y).toNat) (y := x.toNat) (u := (-v).toNat) (v := u.toNat) (by omega) (by omega) (by omega) (by omega) (by omega) (by omega) hn
      have := C_mono (x := (-y).toNat) (y := x.toNat) (u := (-v).toNat) (v := u.toNat) (by omega) (by omega) (by omega) (by omega) (by omega) (by omega) hn
      omega
theorem rot_rot (x y : Int) : ∀ j, rot (-y) x (j + 1) = rot x y j
  | 0 => by simp only [rot]; simp
  | j + 1 => by
    have ih := rot_rot x y j
    rw [rot, ih]
    rfl
theorem ang_rot (x y : Int) (h : ¬ (x = 0 ∧ y = 0)) : angF (-y) x = (angF x y + 5400000) % 21600000 ∧ excF (-y) x = excF x y ∧ 0 ≤ angF x y ∧ angF x y < 21600000 := by
  have key : (qr (-y) x = qr x y + 1 ∧ qr x y < 3) ∨ (qr x y = 3 ∧ qr (-y) x = 0) := by
    unfold qr
    (repeat' split) <;> omega
  have hrot : rot (-y) x (qr (-y) x) = rot x y (qr x y) := by
    rcases key with ⟨h1, h2⟩ | ⟨h1, h2⟩
    · rw [h1, rot_rot]
    · rw [h1, h2]; simp only [rot]; simp
  have hl : low1 (-y) x = low1 x y := by unfold low1; rw [hrot]
  have hb : low1 x y < 5400000 := (F_spec (rot x y (qr x y)).1.toNat (rot x y (qr x y)).2.toNat).1
  have hq := qr_le x y
  refine ⟨?_, ?_, ?_, ?_⟩
  · unfold angF
    rw [hl]
    rcases key with ⟨h1, h2⟩ | ⟨h1, h2⟩
    · rw [h1]; omega
    · rw [h1, h2]; omega
  · unfold excF; rw [hl, hrot]
  · unfold angF; omega
  · unfold angF; omega
theorem ang_right {x y : Int} (hx : 0 < x) : angF x y = fl x y % 21600000 ∧ excF x y = ex x y := by
  have hbd := fl_bd x y
  by_cases hy : 0 ≤ y
  · have hq : qr x y = 0 := by unfold qr; rw [if_pos ⟨hx, hy⟩]
    have hf : fl x y = (F x.toNat y.toNat : Int) := by unfold fl; rw [if_pos hy]
    have hl : low1 x y = F x.toNat y.toNat := by unfold low1 F; rw [hq]; rfl
    have := (F_spec x.toNat y.toNat).1
    refine ⟨by unfold angF; rw [hq, hl, hf]; omega, ?_⟩
    unfold excF ex exF
    rw [if_pos hy, hl, hq]
    simp only [rot]
    have e1 : (y == 0) = (y.toNat == 0) := by rw [Bool.eq_iff_iff]; simp only [beq_iff_eq]; omega
    have e2 : (x == y) = (x.toNat == y.toNat) := by rw [Bool.eq_iff_iff]; simp only [beq_iff_eq]; omega
    rw [e1, e2]
  · have hq : qr x y = 3 := by unfold qr; rw [if_neg (by omega), if_neg (by omega), if_neg (by omega)]
    have hr : rot x y 3 = (-y, x) := by simp only [rot]; simp
    have hf : fl x y = (F (-y).toNat x.toNat : Int) - 5400000 := by unfold fl; rw [if_neg hy]
    have hl : low1 x y = F (-y).toNat x.toNat := by unfold low1 F; rw [hq, hr]
    have := (F_spec (-y).toNat x.toNat).1
    refine ⟨by unfold angF; rw [hq, hl, hf]; omega, ?_⟩
    unfold excF ex exF
    rw [if_neg hy, hl, hq, hr]
    simp only
    have e1 : (x == 0) = (x.toNat == 0) := by rw [Bool.eq_iff_iff]; simp only [beq_iff_eq]; omega
    have e2 : (-y == x) = ((-y).toNat == x.toNat) := by rw [Bool.eq_iff_iff]; simp only [beq_iff_eq]; omega
    rw [e1, e2]
def fwd (p : Int × Int) : Nat → Int × Int
  | 0 => p
  | j + 1 => (-(fwd p j).2, (fwd p j).1)
theorem fwd_ne {p : Int × Int} (h : ¬ (p.1 = 0 ∧ p.2 = 0)) : ∀ j, ¬ ((fwd p j).1 = 0 ∧ (fwd p j).2 = 0)
  | 0 => h
  | j + 1 => by have := fwd_ne h j; simp only [fwd]; omega
theorem ang_fwd {x y : Int} (hx : 0 < x) : ∀ j : Nat, angF (fwd (x, y) j).1 (fwd (x, y) j).2 = (fl x y + 5400000 * j) % 21600000 ∧ excF (fwd (x, y) j).1 (fwd (x, y) j).2 = ex x y
  | 0 => by
    obtain ⟨a, b⟩ := ang_right (y := y) hx
    simp only [fwd]
    exact ⟨by rw [a]; simp, b⟩
  | j + 1 => by
    obtain ⟨a, b⟩ := ang_fwd (x := x) (y := y) hx j
    have hne := fwd_ne (p := (x, y)) (by simp only; omega) j
    obtain ⟨c, d, _, _⟩ := ang_rot _ _ hne
    simp only [fwd]
    rw [c, d, a, b]
    refine ⟨?_, rfl⟩
    have : ((j + 1 : Nat) : Int) = (j : Int) + 1 := by omega
    rw [this]
    omega
theorem bef_fwd (p q : Int × Int) : ∀ j, bef (fwd p j) (fwd q j) = bef p q
  | 0 => rfl
  | j + 1 => by
    rw [← bef_fwd p q j]
    unfold bef
    rw [decide_eq_decide]
    simp only [fwd]
    rw [Int.mul_neg, Int.neg_mul, Int.mul_comm (fwd p j).1, Int.mul_comm (fwd p j).2]
    constructor <;> intro h <;> omega
theorem bef_trans {p q r : Int × Int} (hp : 0 < p.1) (hq : 0 < q.1) (hr : 0 < r.1) (h1 : bef p q = true) (h2 : bef q r = true) : bef p r = true := by
  unfold bef at *
  simp only [decide_eq_true_eq] at *
  have a := Int.mul_le_mul_of_nonneg_right h1 (Int.le_of_lt hr)
  have b := Int.mul_le_mul_of_nonneg_left h2 (Int.le_of_lt hp)
  have e1 : p.2 * q.1 * r.1 = p.2 * r.1 * q.1 := by grind
  have e2 : p.1 * q.2 * r.1 = p.1 * (q.2 * r.1) := by grind
  have e3 : p.1 * (q.1 * r.2) = p.1 * r.2 * q.1 := by grind
  rw [e1, e2] at a
  rw [e3] at b
  exact Int.le_of_mul_le_mul_right (Int.le_trans a b) hq
theorem bef_total (p q : Int × Int) : bef p q = true ∨ bef q p = true := by
  unfold bef
  simp only [decide_eq_true_eq]
  rw [Int.mul_comm p.1, Int.mul_comm p.2]
  omega
theorem fst_min {yl yh xl xh : Int} {j : Nat} (c : Nat → Int × Int) (hc : ∀ i, i < 4 → cor yl yh xl xh i = fwd (c i) j) (hp : ∀ i, i < 4 → 0 < (c i).1) :
    ∀ m, m ≤ 4 → ∃ i, i < 4 ∧ fstP yl yh xl xh m = fwd (c i) j ∧ ∀ k, k < m → bef (c i) (c k) = true
  | 0, _ => ⟨0, by omega, hc 0 (by omega), fun k hk => by omega⟩
  | m + 1, hm => by
    obtain ⟨i, hi, e, h⟩ := fst_min c hc hp m (by omega)
    have hcm := hc m (by omega)
    unfold fstP
    rw [hcm, e, bef_fwd]
    cases hb : bef (c m) (c i)
    · rw [if_neg (by simp)]
      refine ⟨i, hi, rfl, fun k hk => ?_⟩
      rcases Nat.eq_or_lt_of_le (Nat.le_of_lt_succ hk) with e2 | e2
      · subst e2
        rcases bef_total (c i) (c k) with h2 | h2
        · exact h2
        · rw [hb] at h2; cases h2
      · exact h k e2
    · rw [if_pos rfl]
      refine ⟨m, by omega, rfl, fun k hk => ?_⟩
      rcases Nat.eq_or_lt_of_le (Nat.le_of_lt_succ hk) with e2 | e2
      · subst e2; unfold bef; simp only [decide_eq_true_eq]; rw [Int.mul_comm]; exact Int.le_refl _
      · exact bef_trans (hp m (by omega)) (hp i hi) (hp k (by omega)) hb (h k e2)
theorem lst_max {yl yh xl xh : Int} {j : Nat} (c : Nat → Int × Int) (hc : ∀ i, i < 4 → cor yl yh xl xh i = fwd (c i) j) (hp : ∀ i, i < 4 → 0 < (c i).1) :
    ∀ m, m ≤ 4 → ∃ i, i < 4 ∧ lstP yl yh xl xh m = fwd (c i) j ∧ ∀ k, k < m → bef (c k) (c i) = true
  | 0, _ => ⟨0, by omega, hc 0 (by omega), fun k hk => by omega⟩
  | m + 1, hm => by
    obtain ⟨i, hi, e, h⟩ := lst_max c hc hp m (by omega)
    have hcm := hc m (by omega)
    unfold lstP
    rw [hcm, e, bef_fwd]
    cases hb : bef (c i) (c m)
    · rw [if_neg (by simp)]
      refine ⟨i, hi, rfl, fun k hk => ?_⟩
      rcases Nat.eq_or_lt_of_le (Nat.le_of_lt_succ hk) with e2 | e2
      · subst e2
        rcases bef_total (c i) (c k) with h2 | h2
        · rw [hb] at h2; cases h2
        · exact h2
      · exact h k e2
    · rw [if_pos rfl]
      refine ⟨m, by omega, rfl, fun k hk => ?_⟩
      rcases Nat.eq_or_lt_of_le (Nat.le_of_lt_succ hk) with e2 | e2
      · subst e2; unfold bef; simp only [decide_eq_true_eq]; rw [Int.mul_comm]; exact Int.le_refl _
      · exact bef_trans (hp k (by omega)) (hp i hi) (hp m (by omega)) (h k e2) hb
def rbox (yl yh xl xh : Int) : Nat → Int × Int × Int × Int
  | 0 => (yl, yh, xl, xh)
  | 1 => (-xh, -xl, yl, yh)
  | 2 => (-yh, -yl, -xh, -xl)
  | _ => (xl, xh, -yh, -yl)
def loA (y0 x0 x1 : Int) : Int := if 0 ≤ y0 then fl x1 y0 else fl x0 y0
def hiA (y1 x0 x1 : Int) : Int := if 0 ≤ y1 then ce x0 y1 else ce x1 y1
theorem half_ex {yl yh xl xh : Int} (h : originB yl yh xl xh = false) : ∃ j, j ≤ 3 ∧ 0 < (rbox yl yh xl xh j).2.2.1 := by
  simp only [originB, decide_eq_false_iff_not] at h
  by_cases h1 : 0 < xl
  · exact ⟨0, by omega, h1⟩
  by_cases h2 : 0 < yl
  · exact ⟨1, by omega, h2⟩
  by_cases h3 : xh < 0
  · exact ⟨2, by omega, by simp only [rbox]; omega⟩
  · exact ⟨3, by omega, by simp only [rbox]; omega⟩
theorem box_lo {y0 y1 x0 x1 x y : Int} (hx0 : 0 < x0) (hx : x0 ≤ x ∧ x ≤ x1) (hy : y0 ≤ y ∧ y ≤ y1) (b0 : x1 ≤ 2147483648) (b1 : -2147483648 ≤ y0) (b2 : y1 ≤ 2147483648) : loA y0 x0 x1 ≤ fl x y ∧ ce x y ≤ hiA y1 x0 x1 := by
  have hp : In31 x y := ⟨by omega, by omega, by omega, by omega⟩
  constructor
  · unfold loA
    by_cases h : 0 ≤ y0
    · rw [if_pos h]
      refine (fl_mono ⟨by omega, b0, by omega, by omega⟩ hp ?_).1
      exact Int.le_trans (Int.mul_le_mul_of_nonneg_left hx.2 h) (by rw [Int.mul_comm y0]; exact Int.mul_le_mul_of_nonneg_left hy.1 (by omega))
    · rw [if_neg h]
      refine (fl_mono ⟨by omega, by omega, by omega, by omega⟩ hp ?_).1
      have a := Int.mul_le_mul_of_nonneg_left hy.1 (Int.le_of_lt hx0)
      have b := Int.mul_le_mul_of_nonneg_left hx.1 (show 0 ≤ -y0 by omega)
      rw [Int.neg_mul, Int.neg_mul] at b
      rw [Int.mul_comm x0 y0] at a
      omega
  · unfold hiA
    by_cases h : 0 ≤ y1
    · rw [if_pos h]
      refine (fl_mono hp ⟨by omega, by omega, by omega, by omega⟩ ?_).2
      have a := Int.mul_le_mul_of_nonneg_right hy.2 (Int.le_of_lt hx0)
      have b := Int.mul_le_mul_of_nonneg_right hx.1 h
      rw [Int.mul_comm x0 y1] at b
      omega
    · rw [if_neg h]
      refine (fl_mono hp ⟨by omega, by omega, by omega, by omega⟩ ?_).2
      have a := Int.mul_le_mul_of_nonneg_right hy.2 (show 0 ≤ x1 by omega)
      have b := Int.mul_le_mul_of_nonneg_right hx.2 (show 0 ≤ -y1 by omega)
      rw [Int.mul_neg, Int.mul_neg] at b
      rw [Int.mul_comm x1 y1] at b
      omega
theorem box_one {y0 y1 x0 x1 : Int} (hx0 : 0 < x0) (hx : x0 ≤ x1) (hy : y0 ≤ y1) (b0 : x1 ≤ 2147483648) (b1 : -2147483648 ≤ y0) (b2 : y1 ≤ 2147483648) : -5400000 ≤ loA y0 x0 x1 ∧ loA y0 x0 x1 ≤ hiA y1 x0 x1 ∧ hiA y1 x0 x1 ≤ 5400000 := by
  have a := box_lo (x := x0) (y := y0) hx0 ⟨Int.le_refl _, hx⟩ ⟨Int.le_refl _, hy⟩ b0 b1 b2
  have b := fl_bd x0 y0
  refine ⟨?_, by omega, ?_⟩
  · unfold loA; split
    · exact (fl_bd x1 y0).1
    · exact (fl_bd x0 y0).1
  · unfold hiA; split
    · exact (fl_bd x0 y1).2.2.1
    · exact (fl_bd x1 y1).2.2.1
theorem bear_str {yl yh xl xh y0 y1 x0 x1 : Int} {j : Nat} (hvx : validB xl xh = true) (hvy : validB yl yh = true) (ho : originB yl yh xl xh = false) (hj : j ≤ 3) (hr : rbox yl yh xl xh j = (y0, y1, x0, x1)) (hx0 : 0 < x0) :
    bearR yl yh xl xh = ((loA y0 x0 x1 + 5400000 * j) % 21600000, (loA y0 x0 x1 + 5400000 * j) % 21600000 + (hiA y1 x0 x1 - loA y0 x0 x1), 0) := by
  simp only [validB, decide_eq_true_eq] at hvx hvy
  obtain ⟨c, hc, hin, hmem⟩ : ∃ c : Nat → Int × Int, (∀ i, i < 4 → cor yl yh xl xh i = fwd (c i) j) ∧ (∀ i, i < 4 → ((c i).1 = x0 ∨ (c i).1 = x1) ∧ ((c i).2 = y0 ∨ (c i).2 = y1)) ∧
      (∀ x y, (x = x0 ∨ x = x1) → (y = y0 ∨ y = y1) → ∃ i, i < 4 ∧ c i = (x, y)) := by
    have four : ∀ i, i < 4 → i = 0 ∨ i = 1 ∨ i = 2 ∨ i = 3 := fun i hi => by omega
    rcases (show j = 0 ∨ j = 1 ∨ j = 2 ∨ j = 3 by omega) with rfl | rfl | rfl | rfl <;> simp only [rbox, Prod.mk.injEq] at hr <;> obtain ⟨rfl, rfl, rfl, rfl⟩ := hr
    · refine ⟨fun i => cor yl yh xl xh i, fun i _ => rfl, fun i hi => ?_, fun x y hx hy => ?_⟩
      · rcases four i hi with rfl | rfl | rfl | rfl <;> simp [cor]
      · rcases hx with rfl | rfl <;> rcases hy with rfl | rfl
        · exact ⟨0, by omega, rfl⟩
        · exact ⟨1, by omega, rfl⟩
        · exact ⟨2, by omega, rfl⟩
        · exact ⟨3, by omega, rfl⟩
    · refine ⟨fun i => ((cor yl yh xl xh i).2, -(cor yl yh xl xh i).1), fun i _ => by simp [fwd], fun i hi => ?_, fun x y hx hy => ?_⟩
      · rcases four i hi with rfl | rfl | rfl | rfl <;> simp [cor]
      · rcases hx with rfl | rfl <;> rcases hy with rfl | rfl
        · exact ⟨2, by omega, rfl⟩
        · exact ⟨0, by omega, rfl⟩
        · exact ⟨3, by omega, rfl⟩
        · exact ⟨1, by omega, rfl⟩
    · refine ⟨fun i => (-(cor yl yh xl xh i).1, -(cor yl yh xl xh i).2), fun i _ => by simp [fwd], fun i hi => ?_, fun x y hx hy => ?_⟩
      · rcases four i hi with rfl | rfl | rfl | rfl <;> simp [cor]
      · rcases hx with rfl | rfl <;> rcases hy with rfl | rfl
        · exact ⟨3, by omega, rfl⟩
        · exact ⟨2, by omega, rfl⟩
        · exact ⟨1, by omega, rfl⟩
        · exact ⟨0, by omega, rfl⟩
    · refine ⟨fun i => (-(cor yl yh xl xh i).2, (cor yl yh xl xh i).1), fun i _ => by simp [fwd], fun i hi => ?_, fun x y hx hy => ?_⟩
      · rcases four i hi with rfl | rfl | rfl | rfl <;> simp [cor]
      · rcases hx with rfl | rfl <;> rcases hy with rfl | rfl
        · exact ⟨1, by omega, rfl⟩
        · exact ⟨3, by omega, rfl⟩
        · exact ⟨0, by omega, rfl⟩
        · exact ⟨2, by omega, rfl⟩
  have hbd : x0 ≤ x1 ∧ y0 ≤ y1 ∧ x1 ≤ 2147483648 ∧ -2147483648 ≤ y0 ∧ y1 ≤ 2147483648 := by
    rcases (show j = 0 ∨ j = 1 ∨ j = 2 ∨ j = 3 by omega) with rfl | rfl | rfl | rfl <;> simp only [rbox, Prod.mk.injEq] at hr <;> omega
  obtain ⟨d1, d2, d3, d4, d5⟩ := hbd
  have hpos : ∀ i, i < 4 → 0 < (c i).1 := fun i hi => by have := hin i hi; omega
  have h31 : ∀ i, i < 4 → In31 (c i).1 (c i).2 := fun i hi => by have := hin i hi; exact ⟨by omega, by omega, by omega, by omega⟩
  obtain ⟨i, hi, ei, mi⟩ := fst_min c hc hpos 4 (Nat.le_refl _)
  obtain ⟨k, hk, ek, mk⟩ := lst_max c hc hpos 4 (Nat.le_refl _)
  have mono : ∀ p q, p < 4 → q < 4 → bef (c p) (c q) = true → fl (c p).1 (c p).2 ≤ fl (c q).1 (c q).2 ∧ ce (c p).1 (c p).2 ≤ ce (c q).1 (c q).2 := fun p q hp hq h => by
    unfold bef at h
    simp only [decide_eq_true_eq] at h
    exact fl_mono (h31 p hp) (h31 q hq) h
  have ea : fl (c i).1 (c i).2 = loA y0 x0 x1 := by
    have h1 := (box_lo (x := (c i).1) (y := (c i).2) hx0 (by have := hin i hi; omega) (by have := hin i hi; omega) d3 d4 d5).1
    have h2 : fl (c i).1 (c i).2 ≤ loA y0 x0 x1 := by
      unfold loA
      split
      · obtain ⟨m, hm, em⟩ := hmem x1 y0 (.inr rfl) (.inl rfl)
        have := (mono i m hi hm (mi m hm)).1
        rw [em] at this; exact this
      · obtain ⟨m, hm, em⟩ := hmem x0 y0 (.inl rfl) (.inl rfl)
        have := (mono i m hi hm (mi m hm)).1
        rw [em] at this; exact this
    omega
  have eb : ce (c k).1 (c k).2 = hiA y1 x0 x1 := by
    have h1 := (box_lo (x := (c k).1) (y := (c k).2) hx0 (by have := hin k hk; omega) (by have := hin k hk; omega) d3 d4 d5).2
    have h2 : hiA y1 x0 x1 ≤ ce (c k).1 (c k).2 := by
      unfold hiA
      split
      · obtain ⟨m, hm, em⟩ := hmem x0 y1 (.inl rfl) (.inr rfl)
        have := (mono m k hm hk (mk m hm)).2
        rw [em] at this; exact this
      · obtain ⟨m, hm, em⟩ := hmem x1 y1 (.inr rfl) (.inr rfl)
        have := (mono m k hm hk (mk m hm)).2
        rw [em] at this; exact this
    omega
  have a1 := ang_fwd (x := (c i).1) (y := (c i).2) (hpos i hi) j
  have a2 := ang_fwd (x := (c k).1) (y := (c k).2) (hpos k hk) j
  have hle := (mono i k hi hk (mi k hk)).1
  have f1 := fl_bd (c i).1 (c i).2
  have f2 := fl_bd (c k).1 (c k).2
  unfold bearR
  rw [if_neg (by simp [validB]; omega), if_neg (by rw [ho]; simp), ei, ek, a1.1, a2.1, a2.2, ea]
  rw [ea] at hle f1
  unfold ce at eb f2
  unfold upE
  have hjn : (j : Int) ≤ 3 := by omega
  generalize (if ex (c k).1 (c k).2 = true then (0 : Int) else 1) = u at *
  generalize fl (c k).1 (c k).2 = g at *
  generalize loA y0 x0 x1 = a at *
  generalize hiA y1 x0 x1 = b at *
  rw [← eb]
  simp only [Prod.mk.injEq, true_and, and_true]
  split <;> omega
end Go.Proofs.YtmididlfnajhiaaGreatDoor

import Derived.Test.YtfilgpifiboccaaGreatT34
import Derived.Test.YtfilgpifiboccaaGreatMc
import Derived.Test.YtfilgpifiboccaaGreatT15
namespace Go.Proofs.YtfilgpifiboccaaGreat
open SM
/-! The computed sine and cosine of 192 bits: how far they are from the polynomials. No walk here. -/
def UU : Nat := 6277101735386680763835789423207666416102355444464034512896
def UR : Rat := 6277101735386680763835789423207666416102355444464034512896
def epU : Rat := 1 / 6277101735386680763835789423207666416102355444464034512896
def ep80 : Rat := 1 / 1208925819614629174706176
/-- The value of a series from one term on. -/
def vS (Q : Nat) : Nat → Nat → Nat → Int
  | 0, T, _ => T
  | f + 1, T, n => if T = 0 then 0 else T - vS Q f (serT T Q n) (n + 2)
theorem vS_bd {Q : Nat} (hQ : Q ≤ UU) : ∀ f T n, 0 ≤ vS Q f T n ∧ vS Q f T n ≤ T
  | 0, T, n => by unfold vS; omega
  | f + 1, T, n => by
    unfold vS
    split
    · omega
    · have := vS_bd hQ f (serT T Q n) (n + 2)
      have := serT_le T Q n hQ
      omega
theorem serN_val {Q : Nat} (hQ : Q ≤ UU) : ∀ (f : Nat) (m : Bool) (S T n : Nat), (m = true → T ≤ S) → S + T < 115792089237316195423570985008687907853269984665640564039457584007913129639936 →
    (serN f m S T Q n : Int) = if m then (S : Int) - (T - vS Q f T n) else (S : Int) + (T - vS Q f T n)
  | 0, m, S, T, n, _, _ => by unfold serN vS; split <;> omega
  | f + 1, m, S, T, n, h1, h2 => by
    unfold serN vS
    by_cases hT : T = 0
    · rw [if_pos hT, if_pos hT]; subst hT; split <;> simp
    · rw [if_neg hT, if_neg hT]
      have hl := serT_le T Q n hQ
      cases m
      · have hs : serS false S (serT T Q n) = S + serT T Q n := by
          unfold serS; rw [if_neg (by simp)]; exact Nat.mod_eq_of_lt (by omega)
        rw [hs, serN_val hQ f (!false) _ _ _ (fun _ => by omega) (by omega)]
        simp only [Bool.not_false, reduceIte, Bool.false_eq_true]
        omega
      · have hS := h1 rfl
        have hs : serS true S (serT T Q n) = S - serT T Q n := by
          unfold serS; rw [if_pos rfl]
          rw [show S + 115792089237316195423570985008687907853269984665640564039457584007913129639936 - serT T Q n = (S - serT T Q n) + 115792089237316195423570985008687907853269984665640564039457584007913129639936 by omega, Nat.add_mod_right]
          exact Nat.mod_eq_of_lt (by omega)
        rw [hs, serN_val hQ f (!true) _ _ _ (fun h => by cases h) (by omega)]
        simp only [Bool.not_true, reduceIte, Bool.false_eq_true]
        omega
theorem st_err {t q τ Y h u D i e : Rat} (he : 0 ≤ e ∧ e ≤ ep80 / 8) (hi : i * D = 1) (hi0 : 0 ≤ i) (hi1 : i ≤ 1 / 2) (hτ : 0 ≤ τ ∧ τ ≤ 1) (hq : 0 ≤ q ∧ q ≤ 7 / 10)
    (e1 : Wit (t - τ) ep80) (e2 : Wit (q - Y) (ep80 / 8)) (h1 : h ≤ t * q) (h2 : t * q ≤ h + e) (h3 : u * D ≤ h) (h4 : h ≤ u * D + D * e) : Wit (u - i * (Y * τ)) ep80 := by
  have w1 := e1.mul (show Wit q (7 / 10) from ⟨by grind, hq.2⟩)
  have w2 := (show Wit τ 1 from ⟨by grind, hτ.2⟩).mul e2
  have eT : t * q - Y * τ = (t - τ) * q + τ * (q - Y) := by grind
  have w3 : Wit (t * q - Y * τ) (7 / 10 * ep80 + ep80 / 8) := by rw [eT]; unfold Wit at *; constructor <;> grind
  have m1 := Rat.mul_le_mul_of_nonneg_left h3 hi0
  have m2 := Rat.mul_le_mul_of_nonneg_left h4 hi0
  have m3 := Rat.mul_le_mul_of_nonneg_left h1 hi0
  have m4 := Rat.mul_le_mul_of_nonneg_left h2 hi0
  have a1 : i * (u * D) = u := by rw [show i * (u * D) = (i * D) * u by grind, hi]; grind
  have a2 : i * (u * D + D * e) = u + e := by rw [show i * (u * D + D * e) = (i * D) * (u + e) by grind, hi]; grind
  have w4 := (show Wit i (1 / 2) from ⟨by grind, hi1⟩).mul w3
  have a3 : i * (t * q - Y * τ) = i * (t * q) - i * (Y * τ) := by grind
  have m5 : i * (h + e) ≤ i * h + e := by
    have := Rat.mul_le_mul_of_nonneg_right (show i ≤ 1 by grind) he.1
    grind
  rw [a1] at m1
  rw [a2] at m2
  rw [a3] at w4
  generalize i * (t * q) = A at *
  generalize i * (Y * τ) = B at *
  generalize i * h = C at *
  unfold Wit ep80 at *
  constructor <;> grind
theorem epU_mul : epU * UR = 1 := by unfold epU UR; grind
theorem epU_pos : 0 ≤ epU ∧ epU ≤ ep80 / 8 := by unfold epU ep80; constructor <;> grind
/-- One term, in units. -/
theorem serT_err {T Q k o : Nat} (hT : T ≤ UU) (hQ : Q ≤ UU) {τ Y : Rat} (hτ : 0 ≤ τ ∧ τ ≤ 1) (hq7 : (Q : Rat) * epU ≤ 7 / 10) (e1 : Wit ((T : Rat) * epU - τ) ep80) (e2 : Wit ((Q : Rat) * epU - Y) (ep80 / 8)) :
    Wit ((serT T Q (2 * k + o) : Rat) * epU - 1 / (((2 * k + 1 + o) * (2 * k + 2 + o) : Nat) : Rat) * (Y * τ)) ep80 := by
  have hle : T * Q / UU ≤ T := by
    have : T * Q ≤ T * UU := Nat.mul_le_mul_left _ hQ
    exact Nat.div_le_of_le_mul (by rw [Nat.mul_comm _ T]; exact this)
  have hu : serT T Q (2 * k + o) = T * Q / UU / ((2 * k + 1 + o) * (2 * k + 2 + o)) := by
    unfold serT
    rw [show T * Q / 6277101735386680763835789423207666416102355444464034512896 = T * Q / UU from rfl, Nat.mod_eq_of_lt (by unfold UU at *; omega), show 2 * k + o + 1 = 2 * k + 1 + o by omega, show 2 * k + o + 2 = 2 * k + 2 + o by omega]
  have hd := dk_ge o k
  rw [hu]
  generalize (2 * k + 1 + o) * (2 * k + 2 + o) = D at *
  have i1 := inv_le_half hd
  have i0 := inv_nonneg' (D : Rat) (by exact_mod_cast Nat.zero_le _)
  have hD : (2 : Rat) ≤ (D : Rat) := by exact_mod_cast hd
  have hiD : 1 / (D : Rat) * (D : Rat) = 1 := by grind
  have b1 := div_bd (T * Q) UU (by decide)
  have b2 := div_bd (T * Q / UU) D (by omega)
  generalize T * Q / UU / D = U at *
  generalize T * Q / UU = H at *
  rw [Rat.natCast_mul, show ((UU : Nat) : Rat) = UR from rfl] at b1
  have hU := epU_mul
  obtain ⟨p0, p1⟩ := epU_pos
  have q0 : (0 : Rat) ≤ (Q : Rat) * epU := Rat.mul_nonneg (by exact_mod_cast Nat.zero_le _) p0
  have c1 := Rat.mul_le_mul_of_nonneg_right b1.1 p0
  have c2 := Rat.mul_le_mul_of_nonneg_right b1.2 p0
  have c1' := Rat.mul_le_mul_of_nonneg_right c1 p0
  have c2' := Rat.mul_le_mul_of_nonneg_right c2 p0
  have c3 := Rat.mul_le_mul_of_nonneg_right b2.1 p0
  have c4 := Rat.mul_le_mul_of_nonneg_right b2.2 p0
  have r1 : UR * (H : Rat) * epU * epU = (H : Rat) * epU := by rw [show UR * (H : Rat) * epU * epU = (epU * UR) * ((H : Rat) * epU) by grind, hU]; grind
  have r2 : (T : Rat) * (Q : Rat) * epU * epU = (T : Rat) * epU * ((Q : Rat) * epU) := by grind
  have r3 : (UR * (H : Rat) + UR) * epU * epU = (H : Rat) * epU + epU := by rw [show (UR * (H : Rat) + UR) * epU * epU = (epU * UR) * ((H : Rat) * epU + epU) by grind, hU]; grind
  rw [r1, r2] at c1'
  rw [r2, r3] at c2'
  refine st_err ⟨p0, p1⟩ hiD i0 i1 hτ ⟨q0, hq7⟩ e1 e2 c1' c2' (by grind) (by grind)
theorem vS_err {o : Nat} (ho : o ≤ 1) {Q : Nat} (hQ : Q ≤ UU) {Y : Rat} (hY : 0 ≤ Y ∧ Y ≤ 7 / 10) (hq7 : (Q : Rat) * epU ≤ 7 / 10) (e2 : Wit ((Q : Rat) * epU - Y) (ep80 / 8)) :
    ∀ (p k f : Nat) (T : Nat) (τ : Rat), k + p = 10 → p ≤ f → T ≤ UU → 0 ≤ τ → τ ≤ 1 → τ ≤ taub o k → Wit ((T : Rat) * epU - τ) ep80 →
      Wit ((vS Q f T (2 * k + o) : Rat) * epU - τ * tl o Y k p) (((p : Rat) + 2) * ep80 + 1 / 4611686018427387904)
  | 0, k, f, T, τ, hk, _, hT, h0, h1, hb, e1 => by
    obtain rfl : k = 10 := by omega
    have hv := vS_bd hQ f T (2 * 10 + o)
    have v0 : (0 : Rat) ≤ (vS Q f T (2 * 10 + o) : Rat) := by exact_mod_cast hv.1
    have v1 : (vS Q f T (2 * 10 + o) : Rat) ≤ (T : Rat) := by
      have := Rat.intCast_le_intCast.2 hv.2
      rw [Rat.intCast_natCast] at this
      exact this
    obtain ⟨p0, p1⟩ := epU_pos
    have m0 := Rat.mul_nonneg v0 p0
    have m1 := Rat.mul_le_mul_of_nonneg_right v1 p0
    have hz : 4611686018427387904 * τ ≤ 1 := by
      have := Rat.mul_le_mul_of_nonneg_left hb (show (0 : Rat) ≤ 4611686018427387904 by grind)
      rcases (show o = 0 ∨ o = 1 by omega) with rfl | rfl
      · have t0 := taub0; grind
      · have t0 := taub1; grind
    have e : tl o Y 10 0 = 1 := rfl
    have c0 : ((0 : Nat) : Rat) = 0 := rfl
    rw [e, c0, Rat.mul_one]
    generalize (vS Q f T (2 * 10 + o) : Rat) * epU = V at *
    generalize (T : Rat) * epU = t at *
    unfold Wit ep80 at *
    constructor <;> grind
  | p + 1, k, f, T, τ, hk, hf, hT, h0, h1, hb, e1 => by
    obtain ⟨f, rfl⟩ : ∃ g, f = g + 1 := ⟨f - 1, by omega⟩
    have cp : ((p + 1 : Nat) : Rat) = (p : Rat) + 1 := by rw [Rat.natCast_add]; rfl
    have pn : (0 : Rat) ≤ (p : Rat) := by exact_mod_cast Nat.zero_le p
    have hep : (0 : Rat) ≤ ep80 := by unfold ep80; grind
    have hpe := Rat.mul_nonneg pn hep
    rw [cp]
    unfold vS
    by_cases hT0 : T = 0
    · rw [if_pos hT0]
      subst hT0
      have hb2 := tl_bd o Y ⟨hY.1, by grind⟩ (p + 1) k
      have m0 := Rat.mul_nonneg h0 hb2.1
      have m1 : τ * tl o Y k (p + 1) ≤ τ := by
        have := Rat.mul_le_mul_of_nonneg_left hb2.2 h0
        grind
      have c0 : ((0 : Nat) : Rat) = 0 := rfl
      have c1 : ((0 : Int) : Rat) = 0 := rfl
      rw [c0] at e1
      rw [c1]
      generalize τ * tl o Y k (p + 1) = R at *
      unfold Wit at *
      constructor <;> grind
    · rw [if_neg hT0]
      have hs := serT_err (k := k) (o := o) hT hQ ⟨h0, h1⟩ hq7 e1 e2
      have hl := serT_le T Q (2 * k + o) hQ
      have b1 := tau_step (o := o) (k := k) hY h0 hb
      have hd := dk_ge o k
      have i1 := inv_le_half hd
      have i0 := inv_nonneg' (((2 * k + 1 + o) * (2 * k + 2 + o) : Nat) : Rat) (by exact_mod_cast Nat.zero_le _)
      have yt0 := Rat.mul_nonneg hY.1 h0
      have yt1 : Y * τ ≤ 1 := by
        have := Rat.mul_le_mul_of_nonneg_left h1 hY.1
        grind
      have u0 := Rat.mul_nonneg i0 yt0
      have u1 := Rat.mul_le_mul_of_nonneg_left yt1 i0
      have ih := vS_err ho hQ hY hq7 e2 p (k + 1) f (serT T Q (2 * k + o)) _ (by omega) (by omega) (by omega) u0 (by grind) b1 hs
      rw [show 2 * (k + 1) + o = 2 * k + o + 2 by omega] at ih
      rw [Rat.intCast_sub, Rat.intCast_natCast]
      have tle : τ * tl o Y k (p + 1) = τ - 1 / (((2 * k + 1 + o) * (2 * k + 2 + o) : Nat) : Rat) * (Y * τ) * tl o Y (k + 1) p := by
        rw [tl]
        generalize 1 / (((2 * k + 1 + o) * (2 * k + 2 + o) : Nat) : Rat) = i
        grind
      rw [tle]
      generalize (vS Q f (serT T Q (2 * k + o)) (2 * k + o + 2) : Rat) = V' at *
      generalize 1 / (((2 * k + 1 + o) * (2 * k + 2 + o) : Nat) : Rat) * (Y * τ) * tl o Y (k + 1) p = R at *
      have hdist : ((T : Rat) - V') * epU = (T : Rat) * epU - V' * epU := by grind
      rw [hdist]
      generalize V' * epU = A at *
      generalize (T : Rat) * epU = B at *
      unfold Wit at *
      constructor <;> grind
end Go.Proofs.YtfilgpifiboccaaGreat
namespace Go.Proofs.YtfilgpifiboccaaGreat
open SM
theorem angN_err (k : Nat) (hk : k ≤ 2700000) : Wit ((angN k : Rat) * epU - xR k) (ep80 / 64) := by
  have h1 : angN k * 10800000 ≤ 19720096697726538562396133364228268891463450865190089732560 * k := by unfold angN; omega
  have h2 : 19720096697726538562396133364228268891463450865190089732560 * k ≤ angN k * 10800000 + 10800000 := by unfold angN; omega
  generalize angN k = A at *
  have r1 := Rat.natCast_le_natCast.2 h1
  have r2 := Rat.natCast_le_natCast.2 h2
  rw [Rat.natCast_mul, Rat.natCast_mul] at r1
  rw [Rat.natCast_add, Rat.natCast_mul, Rat.natCast_mul] at r2
  have c1 : ((10800000 : Nat) : Rat) = 10800000 := rfl
  have c2 : ((19720096697726538562396133364228268891463450865190089732560 : Nat) : Rat) = 19720096697726538562396133364228268891463450865190089732560 := rfl
  rw [c1, c2] at r1 r2
  have n0 : (0 : Rat) ≤ (k : Rat) := by exact_mod_cast Nat.zero_le _
  have n1 : (k : Rat) ≤ ((2700000 : Nat) : Rat) := Rat.natCast_le_natCast.2 hk
  have c3 : ((2700000 : Nat) : Rat) = 2700000 := rfl
  rw [c3] at n1
  unfold Wit xR th pi96 ep80 epU
  generalize (k : Rat) = K at *
  generalize (A : Rat) = a at *
  clear h1 h2 c1 c2 c3
  constructor <;> grind
theorem sqN_err (k : Nat) (hk : k ≤ 2700000) : Wit ((sqN k : Rat) * epU - xR k * xR k) (ep80 / 8) ∧ (sqN k : Rat) * epU ≤ 7 / 10 ∧ sqN k ≤ UU := by
  have ha := angN_err k hk
  have hb := xR_bd k (by omega)
  have hl := angN_lt k hk
  have b := div_bd (angN k * angN k) UU (by decide)
  have hs := sqN_lt k hk
  change sqN k < UU at hs
  change angN k < UU at hl
  rw [Rat.natCast_mul, show ((UU : Nat) : Rat) = UR from rfl] at b
  have hq : sqN k = angN k * angN k / UU := rfl
  rw [← hq] at b
  obtain ⟨p0, p1⟩ := epU_pos
  have hU := epU_mul
  have c1 := Rat.mul_le_mul_of_nonneg_right (Rat.mul_le_mul_of_nonneg_right b.1 p0) p0
  have c2 := Rat.mul_le_mul_of_nonneg_right (Rat.mul_le_mul_of_nonneg_right b.2 p0) p0
  have r1 : UR * (sqN k : Rat) * epU * epU = (sqN k : Rat) * epU := by rw [show UR * (sqN k : Rat) * epU * epU = (epU * UR) * ((sqN k : Rat) * epU) by grind, hU]; grind
  have r2 : (angN k : Rat) * (angN k : Rat) * epU * epU = (angN k : Rat) * epU * ((angN k : Rat) * epU) := by grind
  have r3 : (UR * (sqN k : Rat) + UR) * epU * epU = (sqN k : Rat) * epU + epU := by rw [show (UR * (sqN k : Rat) + UR) * epU * epU = (epU * UR) * ((sqN k : Rat) * epU + epU) by grind, hU]; grind
  rw [r1, r2] at c1
  rw [r2, r3] at c2
  have a0 : 0 ≤ (angN k : Rat) * epU := Rat.mul_nonneg (by exact_mod_cast Nat.zero_le _) p0
  have hx7 : xR k * xR k ≤ 6200 / 10000 := by
    have x79 : xR k ≤ 787 / 1000 := by
      have n1 : (k : Rat) ≤ ((2700000 : Nat) : Rat) := Rat.natCast_le_natCast.2 hk
      have c3 : ((2700000 : Nat) : Rat) = 2700000 := rfl
      rw [c3] at n1
      unfold xR th pi96
      grind
    have := Rat.mul_le_mul_of_nonneg_left x79 hb.1
    grind
  have w := ha.mul (show Wit ((angN k : Rat) * epU + xR k) 2 from by unfold Wit ep80 at *; constructor <;> grind)
  have e : ((angN k : Rat) * epU - xR k) * ((angN k : Rat) * epU + xR k) = (angN k : Rat) * epU * ((angN k : Rat) * epU) - xR k * xR k := by grind
  rw [e] at w
  generalize (angN k : Rat) * epU * ((angN k : Rat) * epU) = A at *
  generalize xR k * xR k = Y at *
  generalize (sqN k : Rat) * epU = q at *
  have p2 : epU ≤ ep80 / 16 := by unfold epU ep80; grind
  unfold Wit at *
  refine ⟨⟨by unfold ep80 at *; grind, by unfold ep80 at *; grind⟩, by unfold ep80 at *; grind, by omega⟩
theorem circ_err (k : Nat) (hk : k ≤ 2700000) : Wit ((sinL k : Rat) * epU - tS k) (1 / 1152921504606846976) ∧ Wit ((cosL k : Rat) * epU - tC k) (1 / 1152921504606846976) := by
  obtain ⟨q1, q2, q3⟩ := sqN_err k hk
  have ha := angN_err k hk
  have hb := xR_bd k (by omega)
  have hY := sq_bd k (by omega)
  have hl := angN_lt k hk
  have t1 := hR_tl 1 (xR k * xR k) 10 0
  have t0 := hR_tl 0 (xR k * xR k) 10 0
  rw [show tl 1 (xR k * xR k) 10 0 = 1 from rfl, show (1 : Rat) - 1 = 0 by grind] at t1
  rw [show tl 0 (xR k * xR k) 10 0 = 1 from rfl, show (1 : Rat) - 1 = 0 by grind] at t0
  rw [show 10 + 0 = 10 from rfl] at t0 t1
  have c10 : ((10 : Nat) : Rat) = 10 := rfl
  have hE : (0 : Rat) ≤ ep80 := by unfold ep80; grind
  constructor
  · have hv := serN_val q3 300 true (angN k) (angN k) 1 (fun _ => Nat.le_refl _) (by omega)
    have h := vS_err (o := 1) (by omega) q3 hY q2 q1 10 0 300 (angN k) (xR k) (by omega) (by omega) (by unfold UU; omega) hb.1 (by grind) (by unfold taub; grind) (ha.mono (by grind))
    have e1 : ((sinL k : Nat) : Rat) = (vS (sqN k) 300 (angN k) (2 * 0 + 1) : Rat) := by
      rw [← Rat.intCast_natCast]
      have : ((sinL k : Nat) : Int) = vS (sqN k) 300 (angN k) (2 * 0 + 1) := by
        unfold sinL; rw [hv, if_pos rfl, show 2 * 0 + 1 = 1 from rfl]; omega
      rw [this]
    rw [e1]
    rw [← t1, c10] at h
    have e2 : tS k = xR k * (1 - hR 1 (xR k * xR k) 10 0) := by unfold tS; rfl
    rw [e2]
    exact h.mono (by unfold ep80; grind)
  · have hv := serN_val q3 300 true UU UU 0 (fun _ => Nat.le_refl _) (by unfold UU; omega)
    have hone : Wit ((UU : Rat) * epU - 1) ep80 := by
      have : ((UU : Nat) : Rat) = UR := rfl
      have hU := epU_mul
      rw [this]
      unfold Wit
      constructor <;> grind
    have h := vS_err (o := 0) (by omega) q3 hY q2 q1 10 0 300 UU 1 (by omega) (by omega) (Nat.le_refl _) (by grind) (by grind) (by unfold taub; grind) hone
    have e1 : ((cosL k : Nat) : Rat) = (vS (sqN k) 300 UU (2 * 0 + 0) : Rat) := by
      rw [← Rat.intCast_natCast]
      have : ((cosL k : Nat) : Int) = vS (sqN k) 300 UU (2 * 0 + 0) := by
        have hc : cosL k = serN 300 true UU UU (sqN k) 0 := rfl
        rw [hc, hv, if_pos rfl, show 2 * 0 + 0 = 0 from rfl]; omega
      rw [this]
    rw [e1]
    rw [← t0, c10] at h
    have e2 : tC k = 1 * (1 - hR 0 (xR k * xR k) 10 0) := by unfold tC; grind
    rw [e2]
    exact h.mono (by unfold ep80; grind)
end Go.Proofs.YtfilgpifiboccaaGreat
namespace Go.Proofs.YtfilgpifiboccaaGreat
open SM
/-! The computed sines grow, the cosines fall; what the search for an angle finds. No walk here. -/
def epN : Rat := 1 / 576460752303423488
theorem mid_eq : Wit (tS 2700000 - tC 2700000) (1 / 1152921504606846976) := by
  have a := aS_bd 2700000 (by omega)
  have b := aC_bd 2700000 (by omega)
  have e1 : aS 2700000 ≤ aC 2700000 + 50000000 := by decide +kernel
  have e2 : aC 2700000 ≤ aS 2700000 + 50000000 := by decide +kernel
  have g1 : ((aS 2700000 : Nat) : Rat) ≤ ((aC 2700000 + 50000000 : Nat) : Rat) := Rat.natCast_le_natCast.2 e1
  have g2 : ((aC 2700000 : Nat) : Rat) ≤ ((aS 2700000 + 50000000 : Nat) : Rat) := Rat.natCast_le_natCast.2 e2
  rw [Rat.natCast_add] at g1 g2
  have c : ((50000000 : Nat) : Rat) = 50000000 := rfl
  rw [c] at g1 g2
  unfold Wit G86 at *
  constructor <;> grind
theorem sinN_err (k : Nat) (hk : k ≤ 5400000) : Wit ((sinN k : Rat) * epU - T k) epN ∧ Wit ((cosN k : Rat) * epU - T (5400000 - k)) epN := by
  have hm := mid_eq
  unfold sinN cosN T
  rcases Nat.lt_trichotomy k 2700000 with h | h | h
  · rw [if_pos (by omega), if_pos (by omega), if_pos (by omega), if_neg (by omega), show 5400000 - (5400000 - k) = k by omega]
    have := circ_err k (by omega)
    exact ⟨this.1.mono (by unfold epN; grind), this.2.mono (by unfold epN; grind)⟩
  · subst h
    rw [if_pos (by omega), if_pos (by omega), if_pos (by omega)]
    have := circ_err 2700000 (by omega)
    refine ⟨this.1.mono (by unfold epN; grind), ?_⟩
    have h2 := this.2
    unfold Wit epN at *
    constructor <;> grind
  · rw [if_neg (by omega), if_neg (by omega), if_neg (by omega), if_pos (by omega)]
    have := circ_err (5400000 - k) (by omega)
    exact ⟨this.2.mono (by unfold epN; grind), this.1.mono (by unfold epN; grind)⟩
theorem T_lt {j k : Nat} (h : j < k) (hk : k ≤ 5400000) : T j + 1 / 77371252455337 ≤ T k := by
  obtain ⟨d, rfl⟩ : ∃ d, k = j + 1 + d := ⟨k - j - 1, by omega⟩
  induction d with
  | zero =>
    have := up j (by omega)
    unfold G86 at this
    grind
  | succ d ih =>
    have := up (j + 1 + d) (by omega)
    have := ih (by omega) (by omega)
    rw [show j + 1 + (d + 1) = j + 1 + d + 1 by omega]
    unfold G86 at *
    grind
theorem lt_of_epU {a b : Nat} (h : (a : Rat) * epU < (b : Rat) * epU) : a < b := by
  rcases Nat.lt_or_ge a b with h1 | h1
  · exact h1
  · exfalso
    have h2 : ((b : Nat) : Rat) ≤ ((a : Nat) : Rat) := Rat.natCast_le_natCast.2 h1
    have := Rat.mul_le_mul_of_nonneg_right h2 epU_pos.1
    grind
theorem sinN_up {j k : Nat} (h : j < k) (hk : k ≤ 5400000) : sinN j < sinN k ∧ cosN k < cosN j := by
  obtain ⟨a1, a2⟩ := sinN_err j (by omega)
  obtain ⟨b1, b2⟩ := sinN_err k hk
  have t1 := T_lt h hk
  have t2 := T_lt (j := 5400000 - k) (k := 5400000 - j) (by omega) (by omega)
  constructor
  · apply lt_of_epU
    unfold Wit epN at *
    grind
  · apply lt_of_epU
    unfold Wit epN at *
    grind
theorem sin_cos {k : Nat} (h : k < 2700000) : sinN k < cosN k := by
  obtain ⟨a1, a2⟩ := sinN_err k (by omega)
  have t1 := T_lt (j := k) (k := 5400000 - k) (by omega) (by omega)
  apply lt_of_epU
  unfold Wit epN at *
  grind
theorem cos_sin {k : Nat} (h : 2700000 < k) (hk : k ≤ 5400000) : cosN k < sinN k := by
  obtain ⟨a1, a2⟩ := sinN_err k (by omega)
  have t1 := T_lt (j := 5400000 - k) (k := k) (by omega) (by omega)
  apply lt_of_epU
  unfold Wit epN at *
  grind
theorem T_le_one (k : Nat) (hk : k ≤ 5400000) : 0 ≤ T k ∧ T k ≤ 1 := by
  unfold T
  split
  · have a := tS_bd k (by omega)
    have b := xR_bd k (by omega)
    constructor <;> grind
  · have a := tC_bd (5400000 - k) (by omega)
    constructor <;> grind
theorem sinN_le (k : Nat) (hk : k ≤ 5400000) : sinN k < 12554203470773361527671578846415332832204710888928069025792 ∧ cosN k < 12554203470773361527671578846415332832204710888928069025792 := by
  obtain ⟨a1, a2⟩ := sinN_err k hk
  have t1 := T_le_one k hk
  have t2 := T_le_one (5400000 - k) (by omega)
  have hU : (2 : Rat) = ((12554203470773361527671578846415332832204710888928069025792 : Nat) : Rat) * epU := by
    have : ((12554203470773361527671578846415332832204710888928069025792 : Nat) : Rat) = 12554203470773361527671578846415332832204710888928069025792 := rfl
    rw [this]; unfold epU; grind
  constructor
  · apply lt_of_epU
    rw [← hU]
    unfold Wit epN at *
    grind
  · apply lt_of_epU
    rw [← hU]
    unfold Wit epN at *
    grind
/-- Whether the sine's multiple is at most the cosine's. -/
theorem reaB_iff {x y k : Nat} (hx : x ≤ 2147483648) (hy : y ≤ 2147483648) (h0 : k ≠ 0) (h1 : k ≠ 2700000) (hk : k ≤ 5400000) : reaB x y k = true ↔ sinN k * x ≤ cosN k * y := by
  obtain ⟨s1, s2⟩ := sinN_le k hk
  have p1 : sinN k * x < M256 := by
    have := Nat.mul_le_mul (Nat.le_of_lt s1) hx
    unfold M256; omega
  have p2 : cosN k * y < M256 := by
    have := Nat.mul_le_mul (Nat.le_of_lt s2) hy
    unfold M256; omega
  unfold reaB
  rw [if_neg h0, if_neg h1, Nat.mod_eq_of_lt p1, Nat.mod_eq_of_lt p2]
  simp
theorem reaB_zero (x y : Nat) : reaB x y 0 = true := by unfold reaB; rw [if_pos rfl]
theorem reaB_mid (x y : Nat) : reaB x y 2700000 = true ↔ x ≤ y := by unfold reaB; rw [if_neg (by omega), if_pos rfl]; simp
/-- What is reached by a point is reached by a point not before it, at any smaller angle. -/
theorem reaB_mono {x y u v j k : Nat} (hx0 : 0 < x) (hx : x ≤ 2147483648) (hy : y ≤ 2147483648) (hu : u ≤ 2147483648) (hv : v ≤ 2147483648) (hc : y * u ≤ x * v) (hjk : j ≤ k) (hk : k ≤ 5400000) (h : reaB x y k = true) : reaB u v j = true := by
  by_cases j0 : j = 0
  · subst j0; exact reaB_zero u v
  -- the sine and the cosine at j, as the test takes them
  have key : ∀ s c S C : Nat, s * C ≤ S * c → S * x ≤ C * y → 0 < C → s * u ≤ c * v := fun s c S C h1 h2 hC => by
    -- s u x C <= S c u x <= C y c u <= C c x v
    have a1 : s * u * (x * C) ≤ c * v * (x * C) := by
      have b1 := Nat.mul_le_mul_right (u * x) h1
      have b2 := Nat.mul_le_mul_right (c * u) h2
      have b3 := Nat.mul_le_mul_left (C * c) hc
      have e1 : s * u * (x * C) = s * C * (u * x) := by grind
      have e2 : S * c * (u * x) = S * x * (c * u) := by grind
      have e3 : C * y * (c * u) = C * c * (y * u) := by grind
      have e4 : C * c * (x * v) = c * v * (x * C) := by grind
      omega
    exact Nat.le_of_mul_le_mul_right a1 (Nat.mul_pos hx0 hC)
  have hord : ∀ {p q : Nat}, p ≤ q → q ≤ 5400000 → sinN p ≤ sinN q ∧ cosN q ≤ cosN p := fun {p q} h1 h2 => by
    rcases Nat.eq_or_lt_of_le h1 with e | e
    · subst e; exact ⟨Nat.le_refl _, Nat.le_refl _⟩
    · have := sinN_up e h2; omega
  have hCpos : ∀ {q : Nat}, q < 5400000 → 0 < cosN q := fun {q} h1 => by
    have := (sinN_up (j := q) (k := q + 1) (by omega) (by omega)).2; omega
  by_cases k2 : k = 2700000
  · subst k2
    have hxy := (reaB_mid x y).1 h
    by_cases j2 : j = 2700000
    · subst j2
      rw [reaB_mid]
      have := key 1 1 1 1 (by omega) (by omega) (by omega)
      omega
    · rw [reaB_iff hu hv j0 j2 (by omega)]
      have h1 := sin_cos (k := j) (by omega)
      exact key (sinN j) (cosN j) 1 1 (by omega) (by omega) (by omega)
  · have k0 : k ≠ 0 := by omega
    have hxy := (reaB_iff hx hy k0 k2 hk).1 h
    obtain ⟨o1, o2⟩ := hord hjk hk
    have hkC : 0 < cosN k := by
      rcases Nat.eq_or_lt_of_le hk with e | e
      · -- at a right angle the sine's multiple is too great
        rcases Nat.eq_zero_or_pos (cosN k) with c0 | c0
        · exfalso
          rw [c0, Nat.zero_mul] at hxy
          have := (sinN_up (j := 0) (k := k) (by omega) hk).1
          have : 0 < sinN k * x := Nat.mul_pos (by omega) hx0
          omega
        · exact c0
      · exact hCpos e
    by_cases j2 : j = 2700000
    · subst j2
      rw [reaB_mid]
      have h1 := cos_sin (k := k) (by omega) hk
      have := key 1 1 (sinN k) (cosN k) (by omega) hxy hkC
      omega
    · rw [reaB_iff hu hv j0 j2 (by omega)]
      refine key (sinN j) (cosN j) (sinN k) (cosN k) ?_ hxy hkC
      exact Nat.mul_le_mul o1 o2
end Go.Proofs.YtfilgpifiboccaaGreat

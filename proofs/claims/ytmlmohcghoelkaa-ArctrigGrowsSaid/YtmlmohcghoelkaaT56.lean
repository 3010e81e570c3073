import Derived.Test.YtmlmohcghoelkaaT33
import Derived.Test.YtmlmohcghoelkaaMc
namespace Go.Proofs.Ytmlmohcghoelkaa
open SM
/-! The computed sine and cosine of 192 bits: how far they are from the polynomials. No walk here. -/
def UU : Nat := 6277101735386680763835789423207666416102355444464034512896
def UR : Rat := 6277101735386680763835789423207666416102355444464034512896
def epU : Rat := 1 / 6277101735386680763835789423207666416102355444464034512896
def ep80 : Rat := 1 / 1208925819614629174706176
/-- The value of a series from one term on. -/
def vS (Q : Nat) : Nat → Nat → Nat → Int
  | 0, T, _ => T
  | f + 1, T, n => if T = 0 then 0 else T - vS Q f (serT T Q n) (n + 2)
theorem vS_bd {Q : Nat} (hQ : Q ≤ UU) : ∀ f T n, 0 ≤ vS Q f T n ∧ vS Q f T n ≤ T
  | 0, T, n => by unfold vS; omega
  | f + 1, T, n => by
    unfold vS
    split
    · omega
    · have := vS_bd hQ f (serT T Q n) (n + 2)
      have := serT_le T Q n hQ
      omega
theorem serN_val {Q : Nat} (hQ : Q ≤ UU) : ∀ (f : Nat) (m : Bool) (S T n : Nat), (m = true → T ≤ S) → S + T < 115792089237316195423570985008687907853269984665640564039457584007913129639936 →
    (serN f m S T Q n : Int) = if m then (S : Int) - (T - vS Q f T n) else (S : Int) + (T - vS Q f T n)
  | 0, m, S, T, n, _, _ => by unfold serN vS; split <;> omega
  | f + 1, m, S, T, n, h1, h2 => by
    unfold serN vS
    by_cases hT : T = 0
    · rw [if_pos hT, if_pos hT]; subst hT; split <;> simp
    · rw [if_neg hT, if_neg hT]
      have hl := serT_le T Q n hQ
      cases m
      · have hs : serS false S (serT T Q n) = S + serT T Q n := by
          unfold serS; rw [if_neg (by simp)]; exact Nat.mod_eq_of_lt (by omega)
        rw [hs, serN_val hQ f (!false) _ _ _ (fun _ => by omega) (by omega)]
        simp only [Bool.not_false, reduceIte, Bool.false_eq_true]
        omega
      · have hS := h1 rfl
        have hs : serS true S (serT T Q n) = S - serT T Q n := by
          unfold serS; rw [if_pos rfl]
          rw [show S + 115792089237316195423570985008687907853269984665640564039457584007913129639936 - serT T Q n = (S - serT T Q n) + 115792089237316195423570985008687907853269984665640564039457584007913129639936 by omega, Nat.add_mod_right]
          exact Nat.mod_eq_of_lt (by omega)
        rw [hs, serN_val hQ f (!true) _ _ _ (fun h => by cases h) (by omega)]
        simp only [Bool.not_true, reduceIte, Bool.false_eq_true]
        omega
theorem st_err {t q τ Y h u D i e : Rat} (he : 0 ≤ e ∧ e ≤ ep80 / 8) (hi : i * D = 1) (hi0 : 0 ≤ i) (hi1 : i ≤ 1 / 2) (hτ : 0 ≤ τ ∧ τ ≤ 1) (hq : 0 ≤ q ∧ q ≤ 7 / 10)
    (e1 : Wit (t - τ) ep80) (e2 : Wit (q - Y) (ep80 / 8)) (h1 : h ≤ t * q) (h2 : t * q ≤ h + e) (h3 : u * D ≤ h) (h4 : h ≤ u * D + D * e) : Wit (u - i * (Y * τ)) ep80 := by
  have w1 := e1.mul (show Wit q (7 / 10) from ⟨by grind, hq.2⟩)
  have w2 := (show Wit τ 1 from ⟨by grind, hτ.2⟩).mul e2
  have eT : t * q - Y * τ = (t - τ) * q + τ * (q - Y) := by grind
  have w3 : Wit (t * q - Y * τ) (7 / 10 * ep80 + ep80 / 8) := by rw [eT]; unfold Wit at *; constructor <;> grind
  have m1 := Rat.mul_le_mul_of_nonneg_left h3 hi0
  have m2 := Rat.mul_le_mul_of_nonneg_left h4 hi0
  have m3 := Rat.mul_le_mul_of_nonneg_left h1 hi0
  have m4 := Rat.mul_le_mul_of_nonneg_left h2 hi0
  have a1 : i * (u * D) = u := by rw [show i * (u * D) = (i * D) * u by grind, hi]; grind
  have a2 : i * (u * D + D * e) = u + e := by rw [show i * (u * D + D * e) = (i * D) * (u + e) by grind, hi]; grind
  have w4 := (show Wit i (1 / 2) from ⟨by grind, hi1⟩).mul w3
  have a3 : i * (t * q - Y * τ) = i * (t * q) - i * (Y * τ) := by grind
  have m5 : i * (h + e) ≤ i * h + e := by
    have := Rat.mul_le_mul_of_nonneg_right (show i ≤ 1 by grind) he.1
    grind
  rw [a1] at m1
  rw [a2] at m2
  rw [a3] at w4
  generalize i * (t * q) = A at *
  generalize i * (Y * τ) = B at *
  generalize i * h = C at *
  unfold Wit ep80 at *
  constructor <;> grind
theorem epU_mul : epU * UR = 1 := by unfold epU UR; grind
theorem epU_pos : 0 ≤ epU ∧ epU ≤ ep80 / 8 := by unfold epU ep80; constructor <;> grind
/-- One term, in units. -/
theorem serT_err {T Q k o : Nat} (hT : T ≤ UU) (hQ : Q ≤ UU) {τ Y : Rat} (hτ : 0 ≤ τ ∧ τ ≤ 1) (hq7 : (Q : Rat) * epU ≤ 7 / 10) (e1 : Wit ((T : Rat) * epU - τ) ep80) (e2 : Wit ((Q : Rat) * epU - Y) (ep80 / 8)) :
    Wit ((serT T Q (2 * k + o) : Rat) * epU - 1 / (((2 * k + 1 + o) * (2 * k + 2 + o) : Nat) : Rat) * (Y * τ)) ep80 := by
  have hle : T * Q / UU ≤ T := by
    have : T * Q ≤ T * UU := Nat.mul_le_mul_left _ hQ
    exact Nat.div_le_of_le_mul (by rw [Nat.mul_comm _ T]; exact this)
  have hu : serT T Q (2 * k + o) = T * Q / UU / ((2 * k + 1 + o) * (2 * k + 2 + o)) := by
    unfold serT
    rw [show T * Q / 6277101735386680763835789423207666416102355444464034512896 = T * Q / UU from rfl, Nat.mod_eq_of_lt (by unfold UU at *; omega), show 2 * k + o + 1 = 2 * k + 1 + o by omega, show 2 * k + o + 2 = 2 * k + 2 + o by omega]
  have hd := dk_ge o k
  rw [hu]
  generalize (2 * k + 1 + o) * (2 * k + 2 + o) = D at *
  have i1 := inv_le_half hd
  have i0 := inv_nonneg' (D : Rat) (by exact_mod_cast Nat.zero_le _)
  have hD : (2 : Rat) ≤ (D : Rat) := by exact_mod_cast hd
  have hiD : 1 / (D : Rat) * (D : Rat) = 1 := by grind
  have b1 := div_bd (T * Q) UU (by decide)
  have b2 := div_bd (T * Q / UU) D (by omega)
  generalize T * Q / UU / D = U at *
  generalize T * Q / UU = H at *
  rw [Rat.natCast_mul, show ((UU : Nat) : Rat) = UR from rfl] at b1
  have hU := epU_mul
  obtain ⟨p0, p1⟩ := epU_pos
  have q0 : (0 : Rat) ≤ (Q : Rat) * epU := Rat.mul_nonneg (by exact_mod_cast Nat.zero_le _) p0
  have c1 := Rat.mul_le_mul_of_nonneg_right b1.1 p0
  have c2 := Rat.mul_le_mul_of_nonneg_right b1.2 p0
  have c1' := Rat.mul_le_mul_of_nonneg_right c1 p0
  have c2' := Rat.mul_le_mul_of_nonneg_right c2 p0
  have c3 := Rat.mul_le_mul_of_nonneg_right b2.1 p0
  have c4 := Rat.mul_le_mul_of_nonneg_right b2.2 p0
  have r1 : UR * (H : Rat) * epU * epU = (H : Rat) * epU := by rw [show UR * (H : Rat) * epU * epU = (epU * UR) * ((H : Rat) * epU) by grind, hU]; grind
  have r2 : (T : Rat) * (Q : Rat) * epU * epU = (T : Rat) * epU * ((Q : Rat) * epU) := by grind
  have r3 : (UR * (H : Rat) + UR) * epU * epU = (H : Rat) * epU + epU := by rw [show (UR * (H : Rat) + UR) * epU * epU = (epU * UR) * ((H : Rat) * epU + epU) by grind, hU]; grind
  rw [r1, r2] at c1'
  rw [r2, r3] at c2'
  refine st_err ⟨p0, p1⟩ hiD i0 i1 hτ ⟨q0, hq7⟩ e1 e2 c1' c2' (by grind) (by grind)
theorem vS_err {o : Nat} (ho : o ≤ 1) {Q : Nat} (hQ : Q ≤ UU) {Y : Rat} (hY : 0 ≤ Y ∧ Y ≤ 7 / 10) (hq7 : (Q : Rat) * epU ≤ 7 / 10) (e2 : Wit ((Q : Rat) * epU - Y) (ep80 / 8)) :
    ∀ (p k f : Nat) (T : Nat) (τ : Rat), k + p = 10 → p ≤ f → T ≤ UU → 0 ≤ τ → τ ≤ 1 → τ ≤ taub o k → Wit ((T : Rat) * epU - τ) ep80 →
      Wit ((vS Q f T (2 * k + o) : Rat) * epU - τ * tl o Y k p) (((p : Rat) + 2) * ep80 + 1 / 4611686018427387904)
  | 0, k, f, T, τ, hk, _, hT, h0, h1, hb, e1 => by
    obtain rfl : k = 10 := by omega
    have hv := vS_bd hQ f T (2 * 10 + o)
    have v0 : (0 : Rat) ≤ (vS Q f T (2 * 10 + o) : Rat) := by exact_mod_cast hv.1
    have v1 : (vS Q f T (2 * 10 + o) : Rat) ≤ (T : Rat) := by
      have := Rat.intCast_le_intCast.2 hv.2
      rw [Rat.intCast_natCast] at this
      exact this
    obtain ⟨p0, p1⟩ := epU_pos
    have m0 := Rat.mul_nonneg v0 p0
    have m1 := Rat.mul_le_mul_of_nonneg_right v1 p0
    have hz : 4611686018427387904 * τ ≤ 1 := by
      have := Rat.mul_le_mul_of_nonneg_left hb (show (0 : Rat) ≤ 4611686018427387904 by grind)
      rcases (show o = 0 ∨ o = 1 by omega) with rfl | rfl
      · have t0 := taub0; grind
      · have t0 := taub1; grind
    have e : tl o Y 10 0 = 1 := rfl
    have c0 : ((0 : Nat) : Rat) = 0 := rfl
    rw [e, c0, Rat.mul_one]
    generalize (vS Q f T (2 * 10 + o) : Rat) * epU = V at *
    generalize (T : Rat) * epU = t at *
    unfold Wit ep80 at *
    constructor <;> grind
  | p + 1, k, f, T, τ, hk, hf, hT, h0, h1, hb, e1 => by
    obtain ⟨f, rfl⟩ : ∃ g, f = g + 1 := ⟨f - 1, by omega⟩
    have cp : ((p + 1 : Nat) : Rat) = (p : Rat) + 1 := by rw [Rat.natCast_add]; rfl
    have pn : (0 : Rat) ≤ (p : Rat) := by exact_mod_cast Nat.zero_le p
    have hep : (0 : Rat) ≤ ep80 := by unfold ep80; grind
    have hpe := Rat.mul_nonneg pn hep
    rw [cp]
    unfold vS
    by_cases hT0 : T = 0
    · rw [if_pos hT0]
      subst hT0
      have hb2 := tl_bd o Y ⟨hY.1, by grind⟩ (p + 1) k
      have m0 := Rat.mul_nonneg h0 hb2.1
      have m1 : τ * tl o Y k (p + 1) ≤ τ := by
        have := Rat.mul_le_mul_of_nonneg_left hb2.2 h0
        grind
      have c0 : ((0 : Nat) : Rat) = 0 := rfl
      have c1 : ((0 : Int) : Rat) = 0 := rfl
      rw [c0] at e1
      rw [c1]
      generalize τ * tl o Y k (p + 1) = R at *
      unfold Wit at *
      constructor <;> grind
    · rw [if_neg hT0]
      have hs := serT_err (k := k) (o := o) hT hQ ⟨h0, h1⟩ hq7 e1 e2
      have hl := serT_le T Q (2 * k + o) hQ
      have b1 := tau_step (o := o) (k := k) hY h0 hb
      have hd := dk_ge o k
      have i1 := inv_le_half hd
      have i0 := inv_nonneg' (((2 * k + 1 + o) * (2 * k + 2 + o) : Nat) : Rat) (by exact_mod_cast Nat.zero_le _)
      have yt0 := Rat.mul_nonneg hY.1 h0
      have yt1 : Y * τ ≤ 1 := by
        have := Rat.mul_le_mul_of_nonneg_left h1 hY.1
        grind
      have u0 := Rat.mul_nonneg i0 yt0
      have u1 := Rat.mul_le_mul_of_nonneg_left yt1 i0
      have ih := vS_err ho hQ hY hq7 e2 p (k + 1) f (serT T Q (2 * k + o)) _ (by omega) (by omega) (by omega) u0 (by grind) b1 hs
      rw [show 2 * (k + 1) + o = 2 * k + o + 2 by omega] at ih
      rw [Rat.intCast_sub, Rat.intCast_natCast]
      have tle : τ * tl o Y k (p + 1) = τ - 1 / (((2 * k + 1 + o) * (2 * k + 2 + o) : Nat) : Rat) * (Y * τ) * tl o Y (k + 1) p := by
        rw [tl]
        generalize 1 / (((2 * k + 1 + o) * (2 * k + 2 + o) : Nat) : Rat) = i
        grind
      rw [tle]
      generalize (vS Q f (serT T Q (2 * k + o)) (2 * k + o + 2) : Rat) = V' at *
      generalize 1 / (((2 * k + 1 + o) * (2 * k + 2 + o) : Nat) : Rat) * (Y * τ) * tl o Y (k + 1) p = R at *
      have hdist : ((T : Rat) - V') * epU = (T : Rat) * epU - V' * epU := by grind
      rw [hdist]
      generalize V' * epU = A at *
      generalize (T : Rat) * epU = B at *
      unfold Wit at *
      constructor <;> grind
end Go.Proofs.Ytmlmohcghoelkaa

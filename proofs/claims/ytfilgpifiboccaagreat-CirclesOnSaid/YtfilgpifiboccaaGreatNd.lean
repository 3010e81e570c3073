/-
  The alternating series of sine and cosine, reckoned in whole units and rounded down at each term: how far it is from the sine and the cosine. No program here. No ties: the true sines and cosines of integer angles, and how far the multiples of sine and cosine are apart. No program here.
-/
import Derived.Test.YtfilgpifiboccaaGreatTa
import Derived.Test.YtfilgpifiboccaaGreatMc
import Derived.Test.YtfilgpifiboccaaGreatNr1
import Derived.Test.YtfilgpifiboccaaGreatNr2
namespace Go.Proofs.YtfilgpifiboccaaGreat
namespace TA
open SM
/-- A polynomial from the inside out is a sum. -/
theorem sm_tl (o : Nat) (g : Nat → Rat) (x : Rat) (h0 : ∀ k, g (2 * k + 1 - o) = 0) (h1 : ∀ k, g (2 * (k + 1) + o) = - g (2 * k + o)) (ho : o = 0 ∨ o = 1) : ∀ n k,
    sm (fun j => g j * P j x) (2 * (k + n) + 1 + o) = sm (fun j => g j * P j x) (2 * k + o) + g (2 * k + o) * (P (2 * k + o) x * tl o (x * x) k n)
  | 0, k => by
    unfold tl
    rcases ho with rfl | rfl
    · rw [show 2 * (k + 0) + 1 + 0 = 2 * k + 0 + 1 by omega, sm]
      grind
    · rw [show 2 * (k + 0) + 1 + 1 = 2 * k + 1 + 1 by omega, sm]
      grind
  | n + 1, k => by
    have ih := sm_tl o g x h0 h1 ho n (k + 1)
    have st : sm (fun j => g j * P j x) (2 * (k + 1) + o) = sm (fun j => g j * P j x) (2 * k + o) + g (2 * k + o) * P (2 * k + o) x := by
      rcases ho with rfl | rfl
      · have z := h0 k
        rw [show 2 * (k + 1) + 0 = 2 * k + 0 + 1 + 1 by omega, sm, sm]
        rw [show 2 * k + 1 - 0 = 2 * k + 0 + 1 by omega] at z
        rw [z]
        grind
      · have z := h0 (k + 1)
        rw [show 2 * (k + 1) + 1 = 2 * k + 1 + 1 + 1 by omega, sm, sm]
        rw [show 2 * (k + 1) + 1 - 1 = 2 * k + 1 + 1 by omega] at z
        rw [z]
        grind
    have pp : P (2 * (k + 1) + o) x = 1 / (((2 * k + 1 + o) * (2 * k + 2 + o) : Nat) : Rat) * (x * x) * P (2 * k + o) x := by
      rw [show 2 * (k + 1) + o = 2 * k + o + 1 + 1 by omega]
      show P (2 * k + o) x * x / (((2 * k + o : Nat) : Rat) + 1) * x / (((2 * k + o + 1 : Nat) : Rat) + 1) = _
      have q1 := pos (2 * k + o)
      have q2 := pos (2 * k + o + 1)
      have c1 : ((2 * k + 1 + o : Nat) : Rat) = ((2 * k + o : Nat) : Rat) + 1 := by rw [show 2 * k + 1 + o = 2 * k + o + 1 by omega, Rat.natCast_add]; rfl
      have c2 : ((2 * k + 2 + o : Nat) : Rat) = ((2 * k + o + 1 : Nat) : Rat) + 1 := by rw [show 2 * k + 2 + o = 2 * k + o + 1 + 1 by omega, Rat.natCast_add]; rfl
      rw [Rat.natCast_mul, c1, c2]
      generalize ((2 * k + o : Nat) : Rat) + 1 = a at *
      generalize ((2 * k + o + 1 : Nat) : Rat) + 1 = b at *
      grind
    rw [show k + (n + 1) = k + 1 + n by omega, ih, st, h1, pp, tl]
    generalize 1 / (((2 * k + 1 + o) * (2 * k + 2 + o) : Nat) : Rat) = i
    grind
theorem Sn_tl (x : Rat) (n : Nat) : Sn (2 * n + 1) x = x * tl 1 (x * x) 0 n := by
  have h := sm_tl 1 ss x (fun k => by unfold ss; rw [if_neg (by omega), if_neg (by omega)]) (fun k => by unfold ss; repeat' split; all_goals first | omega | grind) (.inr rfl) n 0
  have e : 2 * (0 + n) + 1 + 1 = 2 * n + 1 + 1 := by omega
  rw [e] at h
  show sm (fun j => ss j * P j x) (2 * n + 1 + 1) = _
  rw [h]
  simp [sm, ss, P]
  grind
theorem Cn_tl (x : Rat) (n : Nat) : Cn (2 * n) x = tl 0 (x * x) 0 n := by
  have h := sm_tl 0 sc x (fun k => by unfold sc; rw [if_neg (by omega), if_neg (by omega)]) (fun k => by unfold sc; repeat' split; all_goals first | omega | grind) (.inl rfl) n 0
  have e : 2 * (0 + n) + 1 + 0 = 2 * n + 1 := by omega
  rw [e] at h
  show sm (fun j => sc j * P j x) (2 * n + 1) = _
  rw [h]
  simp [sm, sc, P]
  grind
/-! ### the series in units -/
def serU (U T Q n : Nat) : Nat := T * Q / U / ((n + 1) * (n + 2))
def vU (U Q : Nat) : Nat → Nat → Nat → Int
  | 0, T, _ => T
  | f + 1, T, n => if T = 0 then 0 else T - vU U Q f (serU U T Q n) (n + 2)
theorem serU_le {U : Nat} (T Q n : Nat) (hQ : Q ≤ U) : serU U T Q n ≤ T := by
  unfold serU
  have h1 : T * Q / U ≤ T := Nat.div_le_of_le_mul (by rw [Nat.mul_comm U]; exact Nat.mul_le_mul_left _ hQ)
  exact Nat.le_trans (Nat.div_le_self _ _) h1
theorem vU_bd {U Q : Nat} (hQ : Q ≤ U) : ∀ f T n, 0 ≤ vU U Q f T n ∧ vU U Q f T n ≤ T
  | 0, T, n => by unfold vU; omega
  | f + 1, T, n => by
    unfold vU
    split
    · omega
    · have := vU_bd hQ f (serU U T Q n) (n + 2)
      have := serU_le T Q n hQ
      omega
theorem st_errU {t q τ Y h u D i e E : Rat} (he : 0 ≤ e ∧ e ≤ E / 8) (hi : i * D = 1) (hi0 : 0 ≤ i) (hi1 : i ≤ 1 / 2) (hτ : 0 ≤ τ ∧ τ ≤ 1) (hq : 0 ≤ q ∧ q ≤ 7 / 10)
    (e1 : Wit (t - τ) E) (e2 : Wit (q - Y) (E / 8)) (h1 : h ≤ t * q) (h2 : t * q ≤ h + e) (h3 : u * D ≤ h) (h4 : h ≤ u * D + D * e) : Wit (u - i * (Y * τ)) E := by
  have w1 := e1.mul (show Wit q (7 / 10) from ⟨by grind, hq.2⟩)
  have w2 := (show Wit τ 1 from ⟨by grind, hτ.2⟩).mul e2
  have eT : t * q - Y * τ = (t - τ) * q + τ * (q - Y) := by grind
  have w3 : Wit (t * q - Y * τ) (7 / 10 * E + E / 8) := by rw [eT]; unfold Wit at *; constructor <;> grind
  have m1 := Rat.mul_le_mul_of_nonneg_left h3 hi0
  have m2 := Rat.mul_le_mul_of_nonneg_left h4 hi0
  have m3 := Rat.mul_le_mul_of_nonneg_left h1 hi0
  have m4 := Rat.mul_le_mul_of_nonneg_left h2 hi0
  have a1 : i * (u * D) = u := by rw [show i * (u * D) = (i * D) * u by grind, hi]; grind
  have a2 : i * (u * D + D * e) = u + e := by rw [show i * (u * D + D * e) = (i * D) * (u + e) by grind, hi]; grind
  have w4 := (show Wit i (1 / 2) from ⟨by grind, hi1⟩).mul w3
  have a3 : i * (t * q - Y * τ) = i * (t * q) - i * (Y * τ) := by grind
  have m5 : i * (h + e) ≤ i * h + e := by
    have := Rat.mul_le_mul_of_nonneg_right (show i ≤ 1 by grind) he.1
    grind
  rw [a1] at m1
  rw [a2] at m2
  rw [a3] at w4
  generalize i * (t * q) = A at *
  generalize i * (Y * τ) = B at *
  generalize i * h = C at *
  unfold Wit at *
  constructor <;> grind
/-- One term, in units. -/
theorem serU_err {U : Nat} (hU0 : 0 < U) {E : Rat} (hE : 1 / (U : Rat) ≤ E / 8) {T Q k o : Nat} {τ Y : Rat} (hτ : 0 ≤ τ ∧ τ ≤ 1) (hq7 : (Q : Rat) / U ≤ 7 / 10) (e1 : Wit ((T : Rat) / U - τ) E) (e2 : Wit ((Q : Rat) / U - Y) (E / 8)) :
    Wit ((serU U T Q (2 * k + o) : Rat) / U - 1 / (((2 * k + 1 + o) * (2 * k + 2 + o) : Nat) : Rat) * (Y * τ)) E := by
  have hu : serU U T Q (2 * k + o) = T * Q / U / ((2 * k + 1 + o) * (2 * k + 2 + o)) := by
    unfold serU
    rw [show 2 * k + o + 1 = 2 * k + 1 + o by omega, show 2 * k + o + 2 = 2 * k + 2 + o by omega]
  have hd := dk_ge o k
  rw [hu]
  generalize (2 * k + 1 + o) * (2 * k + 2 + o) = D at *
  have i1 := inv_le_half hd
  have i0 := inv_nonneg' (D : Rat) (by exact_mod_cast Nat.zero_le _)
  have hD : (2 : Rat) ≤ (D : Rat) := by exact_mod_cast hd
  have hiD : 1 / (D : Rat) * (D : Rat) = 1 := by grind
  have b1 := div_bd (T * Q) U hU0
  have b2 := div_bd (T * Q / U) D (by omega)
  generalize T * Q / U / D = V at *
  generalize T * Q / U = H at *
  rw [Rat.natCast_mul] at b1
  have hUp : (0 : Rat) < (U : Rat) := by exact_mod_cast hU0
  have p0 := inv_nonneg' (U : Rat) (by exact_mod_cast Nat.zero_le _)
  have hU : 1 / (U : Rat) * (U : Rat) = 1 := by grind
  have dv : ∀ z : Rat, z / (U : Rat) = z * (1 / (U : Rat)) := fun z => by grind
  rw [dv] at hq7 e1 e2 ⊢
  generalize (U : Rat) = UR at *
  generalize 1 / UR = epU at *
  have q0 : (0 : Rat) ≤ (Q : Rat) * epU := Rat.mul_nonneg (by exact_mod_cast Nat.zero_le _) p0
  have c1 := Rat.mul_le_mul_of_nonneg_right b1.1 p0
  have c2 := Rat.mul_le_mul_of_nonneg_right b1.2 p0
  have c1' := Rat.mul_le_mul_of_nonneg_right c1 p0
  have c2' := Rat.mul_le_mul_of_nonneg_right c2 p0
  have c3 := Rat.mul_le_mul_of_nonneg_right b2.1 p0
  have c4 := Rat.mul_le_mul_of_nonneg_right b2.2 p0
  have r1 : UR * (H : Rat) * epU * epU = (H : Rat) * epU := by rw [show UR * (H : Rat) * epU * epU = (epU * UR) * ((H : Rat) * epU) by grind, hU]; grind
  have r2 : (T : Rat) * (Q : Rat) * epU * epU = (T : Rat) * epU * ((Q : Rat) * epU) := by grind
  have r3 : (UR * (H : Rat) + UR) * epU * epU = (H : Rat) * epU + epU := by rw [show (UR * (H : Rat) + UR) * epU * epU = (epU * UR) * ((H : Rat) * epU + epU) by grind, hU]; grind
  rw [r1, r2] at c1'
  rw [r2, r3] at c2'
  exact st_errU ⟨p0, hE⟩ hiD i0 i1 hτ ⟨q0, hq7⟩ e1 e2 c1' c2' (by grind) (by grind)
theorem vU_err {U : Nat} (hU0 : 0 < U) {E : Rat} (hE : 1 / (U : Rat) ≤ E / 8) {o M : Nat} {δ : Rat} (hδ : taub o M ≤ δ) {Q : Nat} (hQ : Q ≤ U) {Y : Rat} (hY : 0 ≤ Y ∧ Y ≤ 7 / 10) (hq7 : (Q : Rat) / U ≤ 7 / 10) (e2 : Wit ((Q : Rat) / U - Y) (E / 8)) :
    ∀ (p k f : Nat) (T : Nat) (τ : Rat), k + p = M → p ≤ f → 0 ≤ τ → τ ≤ 1 → τ ≤ taub o k → Wit ((T : Rat) / U - τ) E →
      Wit ((vU U Q f T (2 * k + o) : Rat) / U - τ * tl o Y k p) (((p : Rat) + 2) * E + 2 * δ)
  | 0, k, f, T, τ, hk, _, h0, h1, hb, e1 => by
    obtain rfl : k = M := by omega
    have hv := vU_bd hQ f T (2 * k + o)
    have v0 : (0 : Rat) ≤ (vU U Q f T (2 * k + o) : Rat) := by exact_mod_cast hv.1
    have v1 : (vU U Q f T (2 * k + o) : Rat) ≤ (T : Rat) := by
      have := Rat.intCast_le_intCast.2 hv.2
      rw [Rat.intCast_natCast] at this
      exact this
    have p0 := inv_nonneg' (U : Rat) (by exact_mod_cast Nat.zero_le _)
    have m0 := Rat.mul_nonneg v0 p0
    have m1 := Rat.mul_le_mul_of_nonneg_right v1 p0
    have e : tl o Y k 0 = 1 := rfl
    have c0 : ((0 : Nat) : Rat) = 0 := rfl
    have dv : ∀ z : Rat, z / (U : Rat) = z * (1 / (U : Rat)) := fun z => by grind
    rw [e, c0, Rat.mul_one, dv]
    rw [dv] at e1
    generalize 1 / (U : Rat) = epU at *
    generalize (vU U Q f T (2 * k + o) : Rat) * epU = V at *
    generalize (T : Rat) * epU = t at *
    unfold Wit at *
    constructor <;> grind
  | p + 1, k, f, T, τ, hk, hf, h0, h1, hb, e1 => by
    obtain ⟨f, rfl⟩ : ∃ g, f = g + 1 := ⟨f - 1, by omega⟩
    have cp : ((p + 1 : Nat) : Rat) = (p : Rat) + 1 := by rw [Rat.natCast_add]; rfl
    have pn : (0 : Rat) ≤ (p : Rat) := by exact_mod_cast Nat.zero_le p
    have p0 := inv_nonneg' (U : Rat) (by exact_mod_cast Nat.zero_le _)
    have hep : (0 : Rat) ≤ E := by grind
    have hpe := Rat.mul_nonneg pn hep
    have d0 : 0 ≤ δ := by
      have tb : ∀ m, 0 ≤ taub o m := fun m => by
        induction m with
        | zero => unfold taub; grind
        | succ m ih =>
          unfold taub
          exact Rat.mul_nonneg (Rat.mul_nonneg (by grind) (inv_nonneg' _ (by exact_mod_cast Nat.zero_le _))) ih
      have := tb M
      grind
    rw [cp]
    unfold vU
    by_cases hT0 : T = 0
    · rw [if_pos hT0]
      subst hT0
      have hb2 := tl_bd o Y ⟨hY.1, by grind⟩ (p + 1) k
      have m0 := Rat.mul_nonneg h0 hb2.1
      have m1 : τ * tl o Y k (p + 1) ≤ τ := by
        have := Rat.mul_le_mul_of_nonneg_left hb2.2 h0
        grind
      have c0 : ((0 : Nat) : Rat) = 0 := rfl
      have c1 : ((0 : Int) : Rat) = 0 := rfl
      rw [c0] at e1
      rw [c1]
      have z0 : (0 : Rat) / (U : Rat) = 0 := by grind
      rw [z0] at *
      generalize τ * tl o Y k (p + 1) = R at *
      unfold Wit at *
      constructor <;> grind
    · rw [if_neg hT0]
      have hs := serU_err hU0 hE (k := k) (o := o) ⟨h0, h1⟩ hq7 e1 e2
      have b1 := tau_step (o := o) (k := k) hY h0 hb
      have hd := dk_ge o k
      have i1 := inv_le_half hd
      have i0 := inv_nonneg' (((2 * k + 1 + o) * (2 * k + 2 + o) : Nat) : Rat) (by exact_mod_cast Nat.zero_le _)
      have yt0 := Rat.mul_nonneg hY.1 h0
      have yt1 : Y * τ ≤ 1 := by
        have := Rat.mul_le_mul_of_nonneg_left h1 hY.1
        grind
      have u0 := Rat.mul_nonneg i0 yt0
      have u1 := Rat.mul_le_mul_of_nonneg_left yt1 i0
      have ih := vU_err hU0 hE hδ hQ hY hq7 e2 p (k + 1) f (serU U T Q (2 * k + o)) _ (by omega) (by omega) u0 (by grind) b1 hs
      rw [show 2 * (k + 1) + o = 2 * k + o + 2 by omega] at ih
      rw [Rat.intCast_sub, Rat.intCast_natCast]
      have tle : τ * tl o Y k (p + 1) = τ - 1 / (((2 * k + 1 + o) * (2 * k + 2 + o) : Nat) : Rat) * (Y * τ) * tl o Y (k + 1) p := by
        rw [tl]
        generalize 1 / (((2 * k + 1 + o) * (2 * k + 2 + o) : Nat) : Rat) = i
        grind
      rw [tle]
      have dv : ∀ z : Rat, z / (U : Rat) = z * (1 / (U : Rat)) := fun z => by grind
      rw [dv] at ih e1 ⊢
      generalize (vU U Q f (serU U T Q (2 * k + o)) (2 * k + o + 2) : Rat) = V' at *
      generalize 1 / (((2 * k + 1 + o) * (2 * k + 2 + o) : Nat) : Rat) * (Y * τ) * tl o Y (k + 1) p = R at *
      generalize 1 / (U : Rat) = epU at *
      have hdist : ((T : Rat) - V') * epU = (T : Rat) * epU - V' * epU := by grind
      rw [hdist]
      generalize V' * epU = A at *
      generalize (T : Rat) * epU = B at *
      unfold Wit at *
      constructor <;> grind
end TA
end Go.Proofs.YtfilgpifiboccaaGreat
namespace Go.Proofs.YtfilgpifiboccaaGreat
namespace TA
open SM
/-- An integer angle's unit in radians, to 192 bits. -/
def thF : Rat := 19720096697726538562396133364228268891463450865190089732560 / 6277101735386680763835789423207666416102355444464034512896 / 10800000
/-- The sine and the cosine of an integer angle up to an eighth of a turn. -/
def sV (a : Nat) : Rat := Sn 100 (thF * (a : Rat))
def cV (a : Nat) : Rat := Cn 100 (thF * (a : Rat))
theorem rest_8 : rest 100 (4 / 5) ≤ 2 / NT.P120 := by decide +kernel
theorem tail_31 : En 100 (4 / 5) - En 31 (4 / 5) ≤ 1 / 2 ^ 115 := by decide +kernel
theorem tail_30 : En 100 (4 / 5) - En 30 (4 / 5) ≤ 1 / 2 ^ 115 := by decide +kernel
theorem vx_bd (a : Nat) (ha : a ≤ 2700000) : 0 ≤ thF * (a : Rat) ∧ thF * (a : Rat) ≤ 7854 / 10000 := by
  have b0 : (0 : Rat) ≤ (a : Rat) := by exact_mod_cast Nat.zero_le a
  have b1 : (a : Rat) ≤ ((2700000 : Nat) : Rat) := by exact_mod_cast ha
  have z : ((2700000 : Nat) : Rat) = 2700000 := rfl
  rw [z] at b1
  have t : thF * 2700000 ≤ 7854 / 10000 := by decide +kernel
  have t0 : 0 ≤ thF := by decide +kernel
  have m0 := Rat.mul_nonneg t0 b0
  have m1 : 0 ≤ thF * (2700000 - (a : Rat)) := Rat.mul_nonneg t0 (by grind)
  constructor <;> grind
theorem vy_bd (a : Nat) (ha : a ≤ 2700000) : 0 ≤ thF * (a : Rat) * (thF * (a : Rat)) ∧ thF * (a : Rat) * (thF * (a : Rat)) ≤ 62 / 100 := by
  have m := vx_bd a ha
  have h := mulB (u := thF * (a : Rat)) (v := thF * (a : Rat)) (a := 7854 / 10000) (b := 7854 / 10000) ⟨by grind, m.2⟩ ⟨by grind, m.2⟩
  exact ⟨Rat.mul_nonneg m.1 m.1, by grind⟩
theorem v_near (a : Nat) (ha : a ≤ 2700000) : Wit (sV a - thF * (a : Rat) * tl 1 (thF * (a : Rat) * (thF * (a : Rat))) 0 15) (1 / 2 ^ 115) ∧ Wit (cV a - tl 0 (thF * (a : Rat) * (thF * (a : Rat))) 0 15) (1 / 2 ^ 115) := by
  have m := vx_bd a ha
  have s := tailS 31 69 100 rfl (x := thF * (a : Rat)) (X := 4 / 5) (by grind) (by grind) tail_31
  have c := tailC 30 70 100 rfl (x := thF * (a : Rat)) (X := 4 / 5) (by grind) (by grind) tail_30
  have es := Sn_tl (thF * (a : Rat)) 15
  have ec := Cn_tl (thF * (a : Rat)) 15
  rw [show 2 * 15 + 1 = 31 from rfl] at es
  rw [show 2 * 15 = 30 from rfl] at ec
  rw [es] at s
  rw [ec] at c
  exact ⟨s, c⟩
theorem v_bd (a : Nat) (ha : a ≤ 2700000) : (-(1 / 1000) ≤ sV a ∧ sV a ≤ 4 / 5) ∧ 3 / 5 ≤ cV a ∧ cV a ≤ 1001 / 1000 := by
  have m := vx_bd a ha
  have y := vy_bd a ha
  have n := v_near a ha
  have t1 := tl_bd 1 _ ⟨y.1, by grind⟩ 15 0
  have t0 := tl_bd 0 _ ⟨y.1, by grind⟩ 15 0
  have t2 := tl_bd 0 _ ⟨y.1, by grind⟩ 14 (0 + 1)
  have e0 : tl 0 (thF * (a : Rat) * (thF * (a : Rat))) 0 15 = 1 - 1 / (((2 * 0 + 1 + 0) * (2 * 0 + 2 + 0) : Nat) : Rat) * (thF * (a : Rat) * (thF * (a : Rat)) * tl 0 (thF * (a : Rat) * (thF * (a : Rat))) (0 + 1) 14) := rfl
  have c2 : (((2 * 0 + 1 + 0) * (2 * 0 + 2 + 0) : Nat) : Rat) = 2 := rfl
  rw [c2] at e0
  generalize thF * (a : Rat) * (thF * (a : Rat)) = Y at *
  generalize thF * (a : Rat) = x at *
  generalize tl 0 Y (0 + 1) 14 = u at *
  have p1 := mulB (u := Y) (v := u) (a := 62 / 100) (b := 1) ⟨by grind, y.2⟩ ⟨by grind, t2.2⟩
  have p2 := mulB (u := x) (v := tl 1 Y 0 15) (a := 7854 / 10000) (b := 1) ⟨by grind, m.2⟩ ⟨by grind, t1.2⟩
  have p3 := Rat.mul_nonneg m.1 t1.1
  generalize x * tl 1 Y 0 15 = q at *
  generalize Y * u = r at *
  rw [e0] at n t0
  unfold Wit at n
  refine ⟨⟨?_, ?_⟩, ?_, ?_⟩ <;> grind
theorem v_ones : (NT.Nr ((NT.s1 : Rat) / NT.P120) (sV 1) (2 / NT.P120) ∧ NT.Nr ((NT.c1 : Rat) / NT.P120) (cV 1) (2 / NT.P120)) ∧ NT.Nr ((NT.S1 : Rat) / NT.P120) (sV 5400) (2 / NT.P120) ∧ NT.Nr ((NT.C1 : Rat) / NT.P120) (cV 5400) (2 / NT.P120) := by
  unfold NT.Nr
  decide +kernel
theorem v_zero : sV 0 = 0 ∧ cV 0 = 1 := by decide +kernel
theorem v_tr : NT.Tr sV cV where
  add := fun a b h => by
    have m := vx_bd a (by omega)
    have n := vx_bd b (by omega)
    have ad := addition 100 (x := thF * (a : Rat)) (y := thF * (b : Rat)) (X := 4 / 5) (by grind) (by grind) (by grind) (by grind)
    have e : thF * (a : Rat) + thF * (b : Rat) = thF * ((a + b : Nat) : Rat) := by rw [Rat.natCast_add]; grind
    rw [e] at ad
    have r := rest_8
    unfold NT.Nr sV cV
    constructor <;> constructor <;> grind
  bdS := fun a ha => (v_bd a ha).1
  bdC := fun a ha => (v_bd a ha).2
  zero := v_zero
  one := v_ones.1
  blk := v_ones.2
end TA
namespace NT
theorem all_runs {S C : Nat → Rat} (T : Tr S C) : ∀ b, b < 500 → ∀ i, i < 5400 → (b ≠ 0 ∨ i ≠ 0) → Ends (uL b i) (vL b i) := fun b hb i hi hx => by
  have fit := lane_fit' T
  rcases Nat.lt_or_ge b 8 with q | q
  · exact runs_use fit (by omega) run_0 b (by omega) (by omega) i hi hx
  rcases Nat.lt_or_ge b 16 with q | q
  · exact runs_use fit (by omega) run_8 b (by omega) (by omega) i hi hx
  rcases Nat.lt_or_ge b 24 with q | q
  · exact runs_use fit (by omega) run_16 b (by omega) (by omega) i hi hx
  rcases Nat.lt_or_ge b 32 with q | q
  · exact runs_use fit (by omega) run_24 b (by omega) (by omega) i hi hx
  rcases Nat.lt_or_ge b 40 with q | q
  · exact runs_use fit (by omega) run_32 b (by omega) (by omega) i hi hx
  rcases Nat.lt_or_ge b 48 with q | q
  · exact runs_use fit (by omega) run_40 b (by omega) (by omega) i hi hx
  rcases Nat.lt_or_ge b 56 with q | q
  · exact runs_use fit (by omega) run_48 b (by omega) (by omega) i hi hx
  rcases Nat.lt_or_ge b 64 with q | q
  · exact runs_use fit (by omega) run_56 b (by omega) (by omega) i hi hx
  rcases Nat.lt_or_ge b 72 with q | q
  · exact runs_use fit (by omega) run_64 b (by omega) (by omega) i hi hx
  rcases Nat.lt_or_ge b 80 with q | q
  · exact runs_use fit (by omega) run_72 b (by omega) (by omega) i hi hx
  rcases Nat.lt_or_ge b 88 with q | q
  · exact runs_use fit (by omega) run_80 b (by omega) (by omega) i hi hx
  rcases Nat.lt_or_ge b 96 with q | q
  · exact runs_use fit (by omega) run_88 b (by omega) (by omega) i hi hx
  rcases Nat.lt_or_ge b 104 with q | q
  · exact runs_use fit (by omega) run_96 b (by omega) (by omega) i hi hx
  rcases Nat.lt_or_ge b 112 with q | q
  · exact runs_use fit (by omega) run_104 b (by omega) (by omega) i hi hx
  rcases Nat.lt_or_ge b 120 with q | q
  · exact runs_use fit (by omega) run_112 b (by omega) (by omega) i hi hx
  rcases Nat.lt_or_ge b 128 with q | q
  · exact runs_use fit (by omega) run_120 b (by omega) (by omega) i hi hx
  rcases Nat.lt_or_ge b 136 with q | q
  · exact runs_use fit (by omega) run_128 b (by omega) (by omega) i hi hx
  rcases Nat.lt_or_ge b 144 with q | q
  · exact runs_use fit (by omega) run_136 b (by omega) (by omega) i hi hx
  rcases Nat.lt_or_ge b 152 with q | q
  · exact runs_use fit (by omega) run_144 b (by omega) (by omega) i hi hx
  rcases Nat.lt_or_ge b 160 with q | q
  · exact runs_use fit (by omega) run_152 b (by omega) (by omega) i hi hx
  rcases Nat.lt_or_ge b 168 with q | q
  · exact runs_use fit (by omega) run_160 b (by omega) (by omega) i hi hx
  rcases Nat.lt_or_ge b 176 with q | q
  · exact runs_use fit (by omega) run_168 b (by omega) (by omega) i hi hx
  rcases Nat.lt_or_ge b 184 with q | q
  · exact runs_use fit (by omega) run_176 b (by omega) (by omega) i hi hx
  rcases Nat.lt_or_ge b 192 with q | q
  · exact runs_use fit (by omega) run_184 b (by omega) (by omega) i hi hx
  rcases Nat.lt_or_ge b 200 with q | q
  · exact runs_use fit (by omega) run_192 b (by omega) (by omega) i hi hx
  rcases Nat.lt_or_ge b 208 with q | q
  · exact runs_use fit (by omega) run_200 b (by omega) (by omega) i hi hx
  rcases Nat.lt_or_ge b 216 with q | q
  · exact runs_use fit (by omega) run_208 b (by omega) (by omega) i hi hx
  rcases Nat.lt_or_ge b 224 with q | q
  · exact runs_use fit (by omega) run_216 b (by omega) (by omega) i hi hx
  rcases Nat.lt_or_ge b 232 with q | q
  · exact runs_use fit (by omega) run_224 b (by omega) (by omega) i hi hx
  rcases Nat.lt_or_ge b 240 with q | q
  · exact runs_use fit (by omega) run_232 b (by omega) (by omega) i hi hx
  rcases Nat.lt_or_ge b 248 with q | q
  · exact runs_use fit (by omega) run_240 b (by omega) (by omega) i hi hx
  rcases Nat.lt_or_ge b 256 with q | q
  · exact runs_use fit (by omega) run_248 b (by omega) (by omega) i hi hx
  rcases Nat.lt_or_ge b 264 with q | q
  · exact runs_use fit (by omega) run_256 b (by omega) (by omega) i hi hx
  rcases Nat.lt_or_ge b 272 with q | q
  · exact runs_use fit (by omega) run_264 b (by omega) (by omega) i hi hx
  rcases Nat.lt_or_ge b 280 with q | q
  · exact runs_use fit (by omega) run_272 b (by omega) (by omega) i hi hx
  rcases Nat.lt_or_ge b 288 with q | q
  · exact runs_use fit (by omega) run_280 b (by omega) (by omega) i hi hx
  rcases Nat.lt_or_ge b 296 with q | q
  · exact runs_use fit (by omega) run_288 b (by omega) (by omega) i hi hx
  rcases Nat.lt_or_ge b 304 with q | q
  · exact runs_use fit (by omega) run_296 b (by omega) (by omega) i hi hx
  rcases Nat.lt_or_ge b 312 with q | q
  · exact runs_use fit (by omega) run_304 b (by omega) (by omega) i hi hx
  rcases Nat.lt_or_ge b 320 with q | q
  · exact runs_use fit (by omega) run_312 b (by omega) (by omega) i hi hx
  rcases Nat.lt_or_ge b 328 with q | q
  · exact runs_use fit (by omega) run_320 b (by omega) (by omega) i hi hx
  rcases Nat.lt_or_ge b 336 with q | q
  · exact runs_use fit (by omega) run_328 b (by omega) (by omega) i hi hx
  rcases Nat.lt_or_ge b 344 with q | q
  · exact runs_use fit (by omega) run_336 b (by omega) (by omega) i hi hx
  rcases Nat.lt_or_ge b 352 with q | q
  · exact runs_use fit (by omega) run_344 b (by omega) (by omega) i hi hx
  rcases Nat.lt_or_ge b 360 with q | q
  · exact runs_use fit (by omega) run_352 b (by omega) (by omega) i hi hx
  rcases Nat.lt_or_ge b 368 with q | q
  · exact runs_use fit (by omega) run_360 b (by omega) (by omega) i hi hx
  rcases Nat.lt_or_ge b 376 with q | q
  · exact runs_use fit (by omega) run_368 b (by omega) (by omega) i hi hx
  rcases Nat.lt_or_ge b 384 with q | q
  · exact runs_use fit (by omega) run_376 b (by omega) (by omega) i hi hx
  rcases Nat.lt_or_ge b 392 with q | q
  · exact runs_use fit (by omega) run_384 b (by omega) (by omega) i hi hx
  rcases Nat.lt_or_ge b 400 with q | q
  · exact runs_use fit (by omega) run_392 b (by omega) (by omega) i hi hx
  rcases Nat.lt_or_ge b 408 with q | q
  · exact runs_use fit (by omega) run_400 b (by omega) (by omega) i hi hx
  rcases Nat.lt_or_ge b 416 with q | q
  · exact runs_use fit (by omega) run_408 b (by omega) (by omega) i hi hx
  rcases Nat.lt_or_ge b 424 with q | q
  · exact runs_use fit (by omega) run_416 b (by omega) (by omega) i hi hx
  rcases Nat.lt_or_ge b 432 with q | q
  · exact runs_use fit (by omega) run_424 b (by omega) (by omega) i hi hx
  rcases Nat.lt_or_ge b 440 with q | q
  · exact runs_use fit (by omega) run_432 b (by omega) (by omega) i hi hx
  rcases Nat.lt_or_ge b 448 with q | q
  · exact runs_use fit (by omega) run_440 b (by omega) (by omega) i hi hx
  rcases Nat.lt_or_ge b 456 with q | q
  · exact runs_use fit (by omega) run_448 b (by omega) (by omega) i hi hx
  rcases Nat.lt_or_ge b 464 with q | q
  · exact runs_use fit (by omega) run_456 b (by omega) (by omega) i hi hx
  rcases Nat.lt_or_ge b 472 with q | q
  · exact runs_use fit (by omega) run_464 b (by omega) (by omega) i hi hx
  rcases Nat.lt_or_ge b 480 with q | q
  · exact runs_use fit (by omega) run_472 b (by omega) (by omega) i hi hx
  rcases Nat.lt_or_ge b 488 with q | q
  · exact runs_use fit (by omega) run_480 b (by omega) (by omega) i hi hx
  rcases Nat.lt_or_ge b 496 with q | q
  · exact runs_use fit (by omega) run_488 b (by omega) (by omega) i hi hx
  exact runs_use fit (by omega) run_496 b (by omega) (by omega) i hi hx
end NT
namespace TA
open SM
/-- **No ties.** -/
theorem nt {k x y : Nat} (h0 : 0 < k) (hk : k < 2700000) (hx : x ≤ 2 ^ 31) (hy : y ≤ 2 ^ 31) (hxy : 0 < x + y) : 1 / 2 ^ 57 ≤ (x : Rat) * sV k - (y : Rat) * cV k ∨ (x : Rat) * sV k - (y : Rat) * cV k ≤ -(1 / 2 ^ 57) :=
  NT.no_ties v_tr (NT.all_runs v_tr) h0 hk hx hy hxy
/-- The sine and the cosine up to a quarter of a turn. -/
def sK (k : Nat) : Rat := if k ≤ 2700000 then sV k else cV (5400000 - k)
def cK (k : Nat) : Rat := if k ≤ 2700000 then cV k else sV (5400000 - k)
theorem ntK {k x y : Nat} (h0 : 0 < k) (h1 : k ≠ 2700000) (hk : k < 5400000) (hx : x ≤ 2 ^ 31) (hy : y ≤ 2 ^ 31) (hxy : 0 < x + y) : 1 / 2 ^ 57 ≤ (x : Rat) * sK k - (y : Rat) * cK k ∨ (x : Rat) * sK k - (y : Rat) * cK k ≤ -(1 / 2 ^ 57) := by
  unfold sK cK
  by_cases h : k ≤ 2700000
  · rw [if_pos h, if_pos h]
    exact nt h0 (by omega) hx hy hxy
  · rw [if_neg h, if_neg h]
    have := nt (k := 5400000 - k) (x := y) (y := x) (by omega) (by omega) hy hx (by omega)
    generalize (y : Rat) * sV (5400000 - k) = a at *
    generalize (x : Rat) * cV (5400000 - k) = b at *
    rcases this with q | q
    · right; grind
    · left; grind
end TA
end Go.Proofs.YtfilgpifiboccaaGreat

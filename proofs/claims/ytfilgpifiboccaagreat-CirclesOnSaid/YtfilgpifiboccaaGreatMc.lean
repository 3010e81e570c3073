/-
  The reference's quick sine: how far it is from the sine's polynomial. No program here.
-/
import Derived.Test.YtfilgpifiboccaaGreatMb
namespace Go.Proofs.YtfilgpifiboccaaGreat
namespace SM
/-! The reference's quick sine: terms forward, in units of 2^-62. -/
def tl (o : Nat) (Y : Rat) : Nat → Nat → Rat
  | _, 0 => 1
  | k, n + 1 => 1 - 1 / (((2 * k + 1 + o) * (2 * k + 2 + o) : Nat) : Rat) * (Y * tl o Y (k + 1) n)
theorem hR_tl (o : Nat) (Y : Rat) : ∀ k n, 1 - hR o Y k (1 - tl o Y k n) = tl o Y 0 (k + n)
  | 0, n => by unfold hR; rw [Nat.zero_add]; grind
  | k + 1, n => by
    have ih := hR_tl o Y k (n + 1)
    unfold hR
    have e : (1 : Rat) - (1 - tl o Y (k + 1) n) = tl o Y (k + 1) n := by grind
    rw [e]
    have e2 : 1 / (((2 * k + 1 + o) * (2 * k + 2 + o) : Nat) : Rat) * (Y * tl o Y (k + 1) n) = 1 - tl o Y k (n + 1) := by rw [tl]; grind
    rw [e2, ih, show k + 1 + n = k + (n + 1) by omega]
theorem tl_bd (o : Nat) (Y : Rat) (hY : 0 ≤ Y ∧ Y ≤ 1) : ∀ n k, 0 ≤ tl o Y k n ∧ tl o Y k n ≤ 1
  | 0, k => by unfold tl; constructor <;> grind
  | n + 1, k => by
    have ih := tl_bd o Y hY n (k + 1)
    have hd : 2 ≤ (2 * k + 1 + o) * (2 * k + 2 + o) := by
      have : 1 * 2 ≤ (2 * k + 1 + o) * (2 * k + 2 + o) := Nat.mul_le_mul (by omega) (by omega)
      omega
    have i1 := inv_le_half hd
    have i0 := inv_nonneg' (((2 * k + 1 + o) * (2 * k + 2 + o) : Nat) : Rat) (by exact_mod_cast Nat.zero_le _)
    have y0 := Rat.mul_nonneg hY.1 ih.1
    have y1 : Y * tl o Y (k + 1) n ≤ 1 := by
      have := Rat.mul_le_mul_of_nonneg_left ih.2 hY.1
      grind
    have s0 := Rat.mul_nonneg i0 y0
    have s1 := Rat.mul_le_mul_of_nonneg_left y1 i0
    unfold tl
    constructor <;> grind
def high (a b : Int) : Int := a / 2147483648 * (b / 2147483648) + a / 2147483648 * (b % 2147483648) / 2147483648 + a % 2147483648 * (b / 2147483648) / 2147483648
def ZR : Rat := 4611686018427387904
theorem high_bd (a b : Int) (ha : 0 ≤ a) (hb : 0 ≤ b) : 0 ≤ high a b ∧ high a b * 4611686018427387904 ≤ a * b ∧ a * b ≤ (high a b + 3) * 4611686018427387904 := by
  have ea : a = a / 2147483648 * 2147483648 + a % 2147483648 := by omega
  have eb : b = b / 2147483648 * 2147483648 + b % 2147483648 := by omega
  have a0 : 0 ≤ a / 2147483648 := by omega
  have b0 : 0 ≤ b / 2147483648 := by omega
  have r0 : 0 ≤ a % 2147483648 ∧ a % 2147483648 ≤ 2147483647 := by omega
  have s0 : 0 ≤ b % 2147483648 ∧ b % 2147483648 ≤ 2147483647 := by omega
  unfold high
  generalize a / 2147483648 = a1 at *
  generalize b / 2147483648 = b1 at *
  generalize a % 2147483648 = a2 at *
  generalize b % 2147483648 = b2 at *
  have e : a * b = a1 * b1 * 4611686018427387904 + (a1 * b2 + a2 * b1) * 2147483648 + a2 * b2 := by rw [ea, eb]; grind
  have p1 := Int.mul_nonneg a0 b0
  have p2 := Int.mul_nonneg a0 s0.1
  have p3 := Int.mul_nonneg r0.1 b0
  have p4 := Int.mul_nonneg r0.1 s0.1
  have p5 : a2 * b2 ≤ 2147483647 * 2147483647 := Int.mul_le_mul r0.2 s0.2 s0.1 (by decide)
  rw [e]
  generalize a1 * b1 = p at *
  generalize a1 * b2 = q at *
  generalize a2 * b1 = r at *
  generalize a2 * b2 = s at *
  clear ea eb e
  omega
def qLoop (sq : Int) : Nat → Int → Int → Int → Int
  | 0, sum, _, _ => sum
  | f + 1, sum, term, d => if 0 < term then
      qLoop sq f (sum + term - high term sq / (d * (d + 1))) (high (high term sq / (d * (d + 1))) sq / ((d + 2) * (d + 3))) (d + 4) else sum
/-- One term from the one before. -/
theorem term_err {t sq u d : Int} {D : Nat} (hD : (D : Int) = d) (hd : 2 ≤ D) (ht : 0 ≤ t) (hsq : 0 ≤ sq) (hu : u = high t sq / d)
    {τ Y : Rat} (hτ : 0 ≤ τ ∧ τ ≤ 1) (hY : 0 ≤ Y ∧ Y ≤ 7 / 10) (e1 : Wit ((t : Rat) - ZR * τ) 10) (e2 : 0 ≤ ZR * Y - (sq : Rat) ∧ ZR * Y - (sq : Rat) ≤ 6) :
    0 ≤ u ∧ Wit ((u : Rat) - ZR * (1 / (D : Rat) * (Y * τ))) 10 ∧ 0 ≤ 1 / (D : Rat) * (Y * τ) ∧ 1 / (D : Rat) * (Y * τ) ≤ 1 := by
  obtain ⟨h0, h1, h2⟩ := high_bd t sq ht hsq
  have i1 := inv_le_half hd
  have i0 := inv_nonneg' (D : Rat) (by exact_mod_cast Nat.zero_le _)
  have hd2 : (2 : Rat) ≤ (D : Rat) := by exact_mod_cast hd
  have hid : (1 / (D : Rat)) * (D : Rat) = 1 := by grind
  have hdp : 0 < d := by omega
  have u0 : 0 ≤ u := by rw [hu]; exact Int.ediv_nonneg h0 (by omega)
  have hq1 : u * d ≤ high t sq := by rw [hu]; exact Int.ediv_mul_le _ (by omega)
  have hq2 : high t sq ≤ u * d + d := by rw [hu]; have := Int.lt_ediv_add_one_mul_self (high t sq) hdp; rw [Int.add_mul] at this; omega
  generalize high t sq = H at *
  have r1 : ((H : Int) : Rat) * ZR ≤ (t : Rat) * (sq : Rat) := by
    have := Rat.intCast_le_intCast.2 h1
    rw [Rat.intCast_mul, Rat.intCast_mul] at this
    exact this
  have r2 : (t : Rat) * (sq : Rat) ≤ ((H : Int) : Rat) * ZR + 3 * ZR := by
    have := Rat.intCast_le_intCast.2 h2
    rw [Rat.intCast_mul, Rat.intCast_mul, Rat.intCast_add] at this
    have c : ((3 : Int) : Rat) = 3 := rfl
    have c2 : ((4611686018427387904 : Int) : Rat) = ZR := rfl
    rw [c, c2] at this
    grind
  have hDR : (d : Rat) = (D : Rat) := by rw [← hD]; rfl
  have r3 : (u : Rat) * (D : Rat) ≤ (H : Rat) := by
    have := Rat.intCast_le_intCast.2 hq1
    rw [Rat.intCast_mul, hDR] at this
    exact this
  have r4 : (H : Rat) ≤ (u : Rat) * (D : Rat) + (D : Rat) := by
    have := Rat.intCast_le_intCast.2 hq2
    rw [Rat.intCast_add, Rat.intCast_mul, hDR] at this
    exact this
  have hz : (1 / ZR) * ZR = 1 := by unfold ZR; grind
  have z0 : 0 ≤ 1 / ZR := by unfold ZR; grind
  have z1 : 0 ≤ ZR := by unfold ZR; grind
  -- t sq / Z against Z tau Y
  have sqb : Wit ((1 / ZR) * (sq : Rat)) (7 / 10) := by
    have : (0 : Rat) ≤ (sq : Rat) := by exact_mod_cast hsq
    have s1 := Rat.mul_nonneg z0 this
    have s2 := Rat.mul_le_mul_of_nonneg_left (show (sq : Rat) ≤ ZR * Y by grind) z0
    have s3 : 1 / ZR * (ZR * Y) = Y := by rw [← Rat.mul_assoc, hz, Rat.one_mul]
    rw [s3] at s2
    unfold Wit
    generalize 1 / ZR * (sq : Rat) = A at *
    clear e1 e2 r1 r2 r3 r4 hz z0 z1
    constructor <;> grind
  have w1 := e1.mul sqb
  have w2 := (show Wit τ 1 from ⟨by grind, hτ.2⟩).mul (show Wit (ZR * Y - (sq : Rat)) 6 from ⟨by grind, e2.2⟩)
  have eT : (t : Rat) * ((1 / ZR) * (sq : Rat)) - ZR * (Y * τ) = ((t : Rat) - ZR * τ) * ((1 / ZR) * (sq : Rat)) - τ * (ZR * Y - (sq : Rat)) := by
    generalize 1 / ZR = z at *
    grind
  have zc : ∀ a : Rat, 1 / ZR * (a * ZR) = a := fun a => by rw [Rat.mul_comm a, ← Rat.mul_assoc, hz, Rat.one_mul]
  have zt : 1 / ZR * ((t : Rat) * (sq : Rat)) = (t : Rat) * (1 / ZR * (sq : Rat)) := by rw [← Rat.mul_assoc, Rat.mul_comm (1 / ZR), Rat.mul_assoc]
  have wH1 : (H : Rat) ≤ (t : Rat) * ((1 / ZR) * (sq : Rat)) := by
    have := Rat.mul_le_mul_of_nonneg_left r1 z0
    rw [zc, zt] at this
    exact this
  have wH2 : (t : Rat) * ((1 / ZR) * (sq : Rat)) ≤ (H : Rat) + 3 := by
    have := Rat.mul_le_mul_of_nonneg_left r2 z0
    rw [Rat.mul_add, zc, zc, zt] at this
    exact this
  have yt0 := Rat.mul_nonneg hY.1 hτ.1
  have yt1 : Y * τ ≤ 1 := by
    have := Rat.mul_le_mul_of_nonneg_left hτ.2 hY.1
    grind
  have wH : Wit ((H : Rat) - ZR * (Y * τ)) 16 := by
    unfold Wit at w1 w2 ⊢
    generalize (t : Rat) * ((1 / ZR) * (sq : Rat)) = A at *
    generalize ((t : Rat) - ZR * τ) * ((1 / ZR) * (sq : Rat)) = B at *
    generalize τ * (ZR * Y - (sq : Rat)) = C at *
    generalize ZR * (Y * τ) = E at *
    clear e1 e2 r1 r2 r3 r4 hz z0 z1 zc zt sqb hu h1 h2 hq1 hq2 hid i0 i1
    constructor <;> grind
  have dc : ∀ a : Rat, 1 / (D : Rat) * (a * (D : Rat)) = a := fun a => by rw [Rat.mul_comm a, ← Rat.mul_assoc, hid, Rat.one_mul]
  have v1 : (u : Rat) ≤ 1 / (D : Rat) * (H : Rat) := by
    have := Rat.mul_le_mul_of_nonneg_left r3 i0
    rw [dc] at this
    exact this
  have v2 : 1 / (D : Rat) * (H : Rat) ≤ (u : Rat) + 1 := by
    have := Rat.mul_le_mul_of_nonneg_left r4 i0
    rw [Rat.mul_add, dc, hid] at this
    exact this
  have wI := (show Wit (1 / (D : Rat)) (1 / 2) from ⟨by grind, i1⟩).mul wH
  refine ⟨u0, ?_, Rat.mul_nonneg i0 yt0, ?_⟩
  · have eI : 1 / (D : Rat) * ((H : Rat) - ZR * (Y * τ)) = 1 / (D : Rat) * (H : Rat) - ZR * (1 / (D : Rat) * (Y * τ)) := by grind
    rw [eI] at wI
    unfold Wit at wI ⊢
    generalize 1 / (D : Rat) * (H : Rat) = A at *
    generalize ZR * (1 / (D : Rat) * (Y * τ)) = B at *
    clear e1 e2 r1 r2 r3 r4 hz z0 z1 zc zt sqb hu h1 h2 hq1 hq2 hid i0 i1 dc
    constructor <;> grind
  · have := Rat.mul_le_mul_of_nonneg_left yt1 i0
    grind
def taub (o : Nat) : Nat → Rat
  | 0 => 1
  | k + 1 => 7 / 10 * (1 / (((2 * k + 1 + o) * (2 * k + 2 + o) : Nat) : Rat)) * taub o k
theorem taub0 : 4611686018427387904 * taub 0 10 ≤ 1 := by decide +kernel
theorem taub1 : 4611686018427387904 * taub 1 10 ≤ 1 := by decide +kernel
theorem dk_ge (o k : Nat) : 2 ≤ (2 * k + 1 + o) * (2 * k + 2 + o) := by
  have : 1 * 2 ≤ (2 * k + 1 + o) * (2 * k + 2 + o) := Nat.mul_le_mul (by omega) (by omega)
  omega
theorem tau_step {o k : Nat} {Y τ : Rat} (hY : 0 ≤ Y ∧ Y ≤ 7 / 10) (hτ : 0 ≤ τ) (h : τ ≤ taub o k) : 1 / (((2 * k + 1 + o) * (2 * k + 2 + o) : Nat) : Rat) * (Y * τ) ≤ taub o (k + 1) := by
  have i0 := inv_nonneg' (((2 * k + 1 + o) * (2 * k + 2 + o) : Nat) : Rat) (by exact_mod_cast Nat.zero_le _)
  have a1 := Rat.mul_le_mul_of_nonneg_left h hY.1
  have a2 := Rat.mul_le_mul_of_nonneg_right hY.2 (show 0 ≤ taub o k by grind)
  have a3 := Rat.mul_le_mul_of_nonneg_left (show Y * τ ≤ 7 / 10 * taub o k by grind) i0
  unfold taub
  generalize 1 / (((2 * k + 1 + o) * (2 * k + 2 + o) : Nat) : Rat) = i at *
  grind
theorem high_le {t sq : Int} (ht : 0 ≤ t) (hsq : 0 ≤ sq) (h : sq ≤ 4611686018427387904) : high t sq ≤ t := by
  obtain ⟨h0, h1, h2⟩ := high_bd t sq ht hsq
  have := Int.mul_le_mul_of_nonneg_left h ht
  omega
theorem qLoop_err {o : Nat} (ho : o ≤ 1) {sq : Int} (hsq : 0 ≤ sq) (hsq2 : sq ≤ 4611686018427387904) {Y : Rat} (hY : 0 ≤ Y ∧ Y ≤ 7 / 10) (e2 : 0 ≤ ZR * Y - (sq : Rat) ∧ ZR * Y - (sq : Rat) ≤ 6) (total : Rat) :
    ∀ (p k f : Nat) (S t : Int) (τ E : Rat), k + 2 * p = 10 → p + 2 ≤ f → 0 ≤ t → 0 ≤ τ → τ ≤ 1 → τ ≤ taub o k → Wit ((t : Rat) - ZR * τ) 10 → 0 ≤ E →
      Wit (ZR * total - (S : Rat) - ZR * (τ * tl o Y k (2 * p))) E → Wit (ZR * total - (qLoop sq f S t (2 * (k : Int) + 1 + (o : Int)) : Rat)) (E + 20 * (p : Rat) + 30)
  | 0, k, f, S, t, τ, E, hk, hf, ht, h0, h1, hb, e1, hE, hS => by
    obtain rfl : k = 10 := by omega
    obtain ⟨f, rfl⟩ : ∃ g, f = g + 2 := ⟨f - 2, by omega⟩
    have hz : ZR * τ ≤ 1 := by
      have z0 : (0 : Rat) ≤ ZR := by unfold ZR; grind
      have := Rat.mul_le_mul_of_nonneg_left hb z0
      rcases (show o = 0 ∨ o = 1 by omega) with rfl | rfl
      · have t0 := taub0; unfold ZR at *; grind
      · have t0 := taub1; unfold ZR at *; grind
    have ht11 : t ≤ 11 := by
      have : (t : Rat) ≤ ((11 : Int) : Rat) := by
        have c : ((11 : Int) : Rat) = 11 := rfl
        rw [c]; unfold Wit at e1; grind
      exact Rat.intCast_le_intCast.1 this
    have hz0 : 0 ≤ ZR * τ := Rat.mul_nonneg (by unfold ZR; grind) h0
    have e : tl o Y 10 (2 * 0) = 1 := rfl
    rw [e, Rat.mul_one] at hS
    have c0 : ((0 : Nat) : Rat) = 0 := rfl
    rw [c0]
    by_cases hp : 0 < t
    · have hl := high_le ht hsq hsq2
      have hh := high_bd t sq ht hsq
      have q1 : high t sq / ((2 * ((10 : Nat) : Int) + 1 + (o : Int)) * (2 * ((10 : Nat) : Int) + 1 + (o : Int) + 1)) = 0 := by
        rcases (show o = 0 ∨ o = 1 by omega) with rfl | rfl
        · exact Int.ediv_eq_zero_of_lt hh.1 (by omega)
        · exact Int.ediv_eq_zero_of_lt hh.1 (by omega)
      have q2 : high 0 sq = 0 := by
        have a := high_le (t := 0) (by omega) hsq hsq2
        have b := high_bd 0 sq (by omega) hsq
        omega
      have eq : qLoop sq (f + 2) S t (2 * ((10 : Nat) : Int) + 1 + (o : Int)) = S + t := by
        rw [qLoop, if_pos hp, q1, q2, Int.zero_ediv, qLoop, if_neg (by omega)]
        omega
      rw [eq, Rat.intCast_add]
      unfold Wit at *
      constructor <;> grind
    · have t0 : t = 0 := by omega
      subst t0
      rw [show f + 2 = f + 1 + 1 from rfl, qLoop, if_neg (by omega)]
      unfold Wit at *
      constructor <;> grind
  | p + 1, k, f, S, t, τ, E, hk, hf, ht, h0, h1, hb, e1, hE, hS => by
    obtain ⟨f, rfl⟩ : ∃ g, f = g + 1 := ⟨f - 1, by omega⟩
    have cp : ((p + 1 : Nat) : Rat) = (p : Rat) + 1 := by rw [Rat.natCast_add]; rfl
    have pn : (0 : Rat) ≤ (p : Rat) := by exact_mod_cast Nat.zero_le p
    rw [cp]
    by_cases hp : 0 < t
    · have D1 : ((((2 * k + 1 + o) * (2 * k + 2 + o) : Nat)) : Int) = (2 * (k : Int) + 1 + (o : Int)) * (2 * (k : Int) + 1 + (o : Int) + 1) := by
        rw [Int.natCast_mul]
        have a : ((2 * k + 1 + o : Nat) : Int) = 2 * (k : Int) + 1 + (o : Int) := by omega
        have b : ((2 * k + 2 + o : Nat) : Int) = 2 * (k : Int) + 1 + (o : Int) + 1 := by omega
        rw [a, b]
      have D2 : ((((2 * (k + 1) + 1 + o) * (2 * (k + 1) + 2 + o) : Nat)) : Int) = (2 * (k : Int) + 1 + (o : Int) + 2) * (2 * (k : Int) + 1 + (o : Int) + 3) := by
        rw [Int.natCast_mul]
        have a : ((2 * (k + 1) + 1 + o : Nat) : Int) = 2 * (k : Int) + 1 + (o : Int) + 2 := by omega
        have b : ((2 * (k + 1) + 2 + o : Nat) : Int) = 2 * (k : Int) + 1 + (o : Int) + 3 := by omega
        rw [a, b]
      obtain ⟨u0, u1, u2, u3⟩ := term_err D1 (dk_ge o k) ht hsq rfl ⟨h0, h1⟩ hY e1 e2
      have b1 := tau_step (o := o) (k := k) hY h0 hb
      obtain ⟨v0, v1, v2, v3⟩ := term_err D2 (dk_ge o (k + 1)) u0 hsq rfl ⟨u2, u3⟩ hY u1 e2
      have b2 := tau_step (o := o) (k := k + 1) hY u2 b1
      rw [qLoop, if_pos hp]
      have ed : 2 * (k : Int) + 1 + (o : Int) + 4 = 2 * ((k + 2 : Nat) : Int) + 1 + (o : Int) := by omega
      rw [ed]
      have tle : τ * tl o Y k (2 * (p + 1)) = τ - 1 / (((2 * k + 1 + o) * (2 * k + 2 + o) : Nat) : Rat) * (Y * τ) + 1 / (((2 * (k + 1) + 1 + o) * (2 * (k + 1) + 2 + o) : Nat) : Rat) * (Y * (1 / (((2 * k + 1 + o) * (2 * k + 2 + o) : Nat) : Rat) * (Y * τ))) * tl o Y (k + 2) (2 * p) := by
        rw [show 2 * (p + 1) = 2 * p + 1 + 1 by omega, tl, tl]
        generalize 1 / (((2 * k + 1 + o) * (2 * k + 2 + o) : Nat) : Rat) = i
        generalize 1 / (((2 * (k + 1) + 1 + o) * (2 * (k + 1) + 2 + o) : Nat) : Rat) = j
        grind
      rw [tle] at hS
      have ih := qLoop_err ho hsq hsq2 hY e2 total p (k + 2) f (S + t - high t sq / ((2 * (k : Int) + 1 + (o : Int)) * (2 * (k : Int) + 1 + (o : Int) + 1))) _ _ (E + 20) (by omega) (by omega) v0 v2 v3 b2 v1 (by grind) (by
        rw [Rat.intCast_sub, Rat.intCast_add]
        clear v1 v2 v3 b2 b1 u2 u3 tle e2
        generalize (high t sq / ((2 * (k : Int) + 1 + (o : Int)) * (2 * (k : Int) + 1 + (o : Int) + 1)) : Int) = T1 at *
        generalize 1 / (((2 * k + 1 + o) * (2 * k + 2 + o) : Nat) : Rat) * (Y * τ) = τ1 at *
        generalize 1 / (((2 * (k + 1) + 1 + o) * (2 * (k + 1) + 2 + o) : Nat) : Rat) * (Y * τ1) * tl o Y (k + 2) (2 * p) = R at *
        unfold Wit at *
        constructor <;> grind)
      exact ih.mono (by grind)
    · have t0 : t = 0 := by omega
      subst t0
      rw [qLoop, if_neg (by omega)]
      have hb2 := tl_bd o Y ⟨hY.1, by grind⟩ (2 * (p + 1)) k
      have m0 := Rat.mul_nonneg h0 hb2.1
      have m1 : τ * tl o Y k (2 * (p + 1)) ≤ τ := by
        have := Rat.mul_le_mul_of_nonneg_left hb2.2 h0
        grind
      have z0 : (0 : Rat) ≤ ZR := by unfold ZR; grind
      have n0 := Rat.mul_nonneg z0 m0
      have n1 := Rat.mul_le_mul_of_nonneg_left m1 z0
      generalize ZR * (τ * tl o Y k (2 * (p + 1))) = R at *
      have c0 : ((0 : Int) : Rat) = 0 := rfl
      unfold Wit at *
      rw [c0] at e1
      generalize ZR * τ = R2 at *
      generalize ZR * total = R3 at *
      clear e2 hb2 m0 m1 z0
      constructor <;> grind
def quickX (r : Int) : Int := r * 2620088056 * 512 + r * 658911831 / 4194304
def quickN (r : Int) (cosine : Bool) : Int := if cosine then qLoop (high (quickX r) (quickX r)) 20 0 4611686018427387904 1 else qLoop (high (quickX r) (quickX r)) 20 0 (quickX r) 2
theorem quickX_bd (n : Nat) (hn : n ≤ 2700000) : 0 ≤ quickX (n : Int) ∧ 0 ≤ ZR * xR n - (quickX (n : Int) : Rat) ∧ ZR * xR n - (quickX (n : Int) : Rat) ≤ 17 / 10 := by
  unfold quickX
  have h0 : (0 : Int) ≤ (n : Int) * 658911831 / 4194304 := by omega
  have e1 : (n : Int) * 658911831 / 4194304 * 4194304 ≤ (n : Int) * 658911831 := by omega
  have e2 : (n : Int) * 658911831 ≤ (n : Int) * 658911831 / 4194304 * 4194304 + 4194304 := by omega
  generalize hw : (n : Int) * 658911831 / 4194304 = W at *
  have r1 : (W : Rat) * 4194304 ≤ (n : Rat) * 658911831 := by
    have := Rat.intCast_le_intCast.2 e1
    rw [Rat.intCast_mul, Rat.intCast_mul] at this
    exact this
  have r2 : (n : Rat) * 658911831 ≤ (W : Rat) * 4194304 + 4194304 := by
    have := Rat.intCast_le_intCast.2 e2
    rw [Rat.intCast_add, Rat.intCast_mul, Rat.intCast_mul] at this
    exact this
  have n0 : (0 : Rat) ≤ (n : Rat) := by exact_mod_cast Nat.zero_le n
  have n1 : (n : Rat) ≤ ((2700000 : Nat) : Rat) := Rat.natCast_le_natCast.2 hn
  have c1 : ((2700000 : Nat) : Rat) = 2700000 := rfl
  rw [c1] at n1
  have hx : (((n : Int) * 2620088056 * 512 + W : Int) : Rat) = (n : Rat) * 2620088056 * 512 + (W : Rat) := by
    rw [Rat.intCast_add, Rat.intCast_mul, Rat.intCast_mul]
    rfl
  rw [hx]
  refine ⟨by omega, ?_, ?_⟩
  · clear hx hw e1 e2 h0 hn
    unfold xR th pi96 ZR
    grind
  · clear hx hw e1 e2 h0 hn
    unfold xR th pi96 ZR
    grind
theorem sq_err {x : Int} {X : Rat} (h0 : 0 ≤ x) (hX : 0 ≤ X ∧ X ≤ 4 / 5) (h1 : 0 ≤ ZR * X - (x : Rat)) (h2 : ZR * X - (x : Rat) ≤ 17 / 10) : 0 ≤ high x x ∧ high x x ≤ 4611686018427387904 ∧ 0 ≤ ZR * (X * X) - (high x x : Rat) ∧ ZR * (X * X) - (high x x : Rat) ≤ 6 := by
  obtain ⟨g0, g1, g2⟩ := high_bd x x h0 h0
  have x0 : (0 : Rat) ≤ (x : Rat) := by exact_mod_cast h0
  have r1 : (high x x : Rat) * ZR ≤ (x : Rat) * (x : Rat) := by
    have := Rat.intCast_le_intCast.2 g1
    rw [Rat.intCast_mul, Rat.intCast_mul] at this
    exact this
  have r2 : (x : Rat) * (x : Rat) ≤ (high x x : Rat) * ZR + 3 * ZR := by
    have := Rat.intCast_le_intCast.2 g2
    rw [Rat.intCast_mul, Rat.intCast_mul, Rat.intCast_add] at this
    have c : ((3 : Int) : Rat) = 3 := rfl
    have c2 : ((4611686018427387904 : Int) : Rat) = ZR := rfl
    rw [c, c2] at this
    grind
  have hz : (1 / ZR) * ZR = 1 := by unfold ZR; grind
  have z0 : 0 ≤ 1 / ZR := by unfold ZR; grind
  have zc : ∀ a : Rat, 1 / ZR * (a * ZR) = a := fun a => by rw [Rat.mul_comm a, ← Rat.mul_assoc, hz, Rat.one_mul]
  -- X - x / Z
  have d0 : 0 ≤ X - 1 / ZR * (x : Rat) ∧ X - 1 / ZR * (x : Rat) ≤ 17 / 10 * (1 / ZR) := by
    have a := Rat.mul_le_mul_of_nonneg_left h2 z0
    have b := Rat.mul_nonneg z0 h1
    have e : 1 / ZR * (ZR * X - (x : Rat)) = X - 1 / ZR * (x : Rat) := by
      rw [Rat.sub_eq_add_neg, Rat.mul_add, ← Rat.mul_assoc, hz, Rat.one_mul, Rat.mul_neg, ← Rat.sub_eq_add_neg]
    rw [e] at a b
    constructor
    · exact b
    · grind
  have f1 : (high x x : Rat) ≤ (x : Rat) * (1 / ZR * (x : Rat)) := by
    have := Rat.mul_le_mul_of_nonneg_left r1 z0
    rw [zc, ← Rat.mul_assoc, Rat.mul_comm (1 / ZR), Rat.mul_assoc] at this
    exact this
  have f2 : (x : Rat) * (1 / ZR * (x : Rat)) ≤ (high x x : Rat) + 3 := by
    have := Rat.mul_le_mul_of_nonneg_left r2 z0
    rw [Rat.mul_add, zc, zc, ← Rat.mul_assoc, Rat.mul_comm (1 / ZR), Rat.mul_assoc] at this
    exact this
  have k0 : 0 ≤ 1 / ZR * (x : Rat) := Rat.mul_nonneg z0 x0
  -- Z X^2 - x (x/Z) = (Z X - x) X + x (X - x/Z)
  have e : ZR * (X * X) - (x : Rat) * (1 / ZR * (x : Rat)) = (ZR * X - (x : Rat)) * X + (x : Rat) * (X - 1 / ZR * (x : Rat)) := by
    generalize 1 / ZR * (x : Rat) = a
    grind
  have p1 := Rat.mul_nonneg h1 hX.1
  have p2 := Rat.mul_le_mul_of_nonneg_right h2 hX.1
  have p3 := Rat.mul_nonneg x0 d0.1
  have p4 := Rat.mul_le_mul_of_nonneg_left d0.2 x0
  have p5 : (x : Rat) * (17 / 10 * (1 / ZR)) = 17 / 10 * (1 / ZR * (x : Rat)) := by
    generalize 1 / ZR = z
    grind
  rw [p5] at p4
  generalize 1 / ZR * (x : Rat) = a at *
  have hxx : (high x x : Rat) ≤ ((4611686018427387904 : Int) : Rat) := by
    have c2 : ((4611686018427387904 : Int) : Rat) = ZR := rfl
    have a1 : a ≤ 4 / 5 := by grind
    have := Rat.mul_le_mul_of_nonneg_left a1 x0
    have b2 : (x : Rat) ≤ ZR * (4 / 5) := by
      have := Rat.mul_le_mul_of_nonneg_left hX.2 (show (0 : Rat) ≤ ZR by unfold ZR; grind)
      grind
    rw [c2]
    unfold ZR at *
    grind
  refine ⟨g0, Rat.intCast_le_intCast.1 hxx, ?_, ?_⟩
  · generalize (ZR * X - (x : Rat)) * X = A at *
    generalize (x : Rat) * (X - a) = B at *
    grind
  · generalize (ZR * X - (x : Rat)) * X = A at *
    generalize (x : Rat) * (X - a) = B at *
    grind
theorem quick_err (n : Nat) (hn : n ≤ 2700000) : Wit (ZR * tS n - (quickN (n : Int) false : Rat)) 130 ∧ Wit (ZR * tC n - (quickN (n : Int) true : Rat)) 130 := by
  obtain ⟨x0, x1, x2⟩ := quickX_bd n hn
  have hx := xR_bd n (by omega)
  have hY := sq_bd n (by omega)
  obtain ⟨s0, s1, s2, s3⟩ := sq_err x0 hx x1 x2
  have t1 := hR_tl 1 (xR n * xR n) 10 0
  have t0 := hR_tl 0 (xR n * xR n) 10 0
  rw [show tl 1 (xR n * xR n) 10 0 = 1 from rfl, show (1 : Rat) - 1 = 0 by grind] at t1
  rw [show tl 0 (xR n * xR n) 10 0 = 1 from rfl, show (1 : Rat) - 1 = 0 by grind] at t0
  have c5 : ((5 : Nat) : Rat) = 5 := rfl
  have c0 : ((0 : Int) : Rat) = 0 := rfl
  constructor
  · have := qLoop_err (o := 1) (by omega) s0 s1 ⟨hY.1, hY.2⟩ ⟨s2, s3⟩ (tS n) 5 0 20 0 (quickX (n : Int)) (xR n) 0 (by omega) (by omega) x0 hx.1 (by grind) (by unfold taub; grind) (by unfold Wit; constructor <;> grind) (by grind) (by
      have e : ZR * tS n - ((0 : Int) : Rat) - ZR * (xR n * tl 1 (xR n * xR n) 0 (2 * 5)) = 0 := by
        have e2 : tl 1 (xR n * xR n) 0 (2 * 5) = tl 1 (xR n * xR n) 0 (10 + 0) := by simp only [Nat.reduceMul, Nat.reduceAdd]
        rw [e2, ← t1, c0]; unfold tS; grind
      rw [e]; unfold Wit; constructor <;> grind)
    have d1 : 2 * ((0 : Nat) : Int) + 1 + ((1 : Nat) : Int) = 2 := by decide
    rw [c5, d1] at this
    unfold quickN
    rw [if_neg (by decide)]
    exact this.mono (by grind)
  · have cz : ((4611686018427387904 : Int) : Rat) = ZR := rfl
    have := qLoop_err (o := 0) (by omega) s0 s1 ⟨hY.1, hY.2⟩ ⟨s2, s3⟩ (tC n) 5 0 20 0 4611686018427387904 1 0 (by omega) (by omega) (by omega) (by grind) (by grind) (by unfold taub; grind) (by rw [cz]; unfold Wit; constructor <;> grind) (by grind) (by
      have e : ZR * tC n - ((0 : Int) : Rat) - ZR * (1 * tl 0 (xR n * xR n) 0 (2 * 5)) = 0 := by
        have e2 : tl 0 (xR n * xR n) 0 (2 * 5) = tl 0 (xR n * xR n) 0 (10 + 0) := by simp only [Nat.reduceMul, Nat.reduceAdd]
        rw [e2, ← t0, c0]; unfold tC; grind
      rw [e]; unfold Wit; constructor <;> grind)
    have d1 : 2 * ((0 : Nat) : Int) + 1 + ((0 : Nat) : Int) = 1 := by decide
    rw [c5, d1] at this
    unfold quickN
    rw [if_pos rfl]
    exact this.mono (by grind)
theorem quick_floor {v : Int} {f : Nat} {x : Rat} (h : Wit (ZR * x - (v : Rat)) 130) (h1 : (f : Rat) * 72057594037927936 + 17000000000 ≤ G86 * x) (h2 : G86 * x ≤ ((f : Rat) + 1) * 72057594037927936 - 17000000000) : (f : Int) * 4294967296 + 512 ≤ v ∧ v ≤ ((f : Int) + 1) * 4294967296 - 512 := by
  have g : G86 = 77371252455336267181195264 := rfl
  have c1 : ((4294967296 : Int) : Rat) = 4294967296 := rfl
  have c2 : ((512 : Int) : Rat) = 512 := rfl
  have c3 : ((1 : Int) : Rat) = 1 := rfl
  rw [g] at h1 h2
  unfold Wit ZR at h
  constructor
  · apply Rat.intCast_le_intCast.1
    rw [Rat.intCast_add, Rat.intCast_mul, c1, c2, Rat.intCast_natCast]
    grind
  · apply Rat.intCast_le_intCast.1
    rw [Rat.intCast_sub, Rat.intCast_mul, Rat.intCast_add, c1, c2, c3, Rat.intCast_natCast]
    grind
end SM
end Go.Proofs.YtfilgpifiboccaaGreat

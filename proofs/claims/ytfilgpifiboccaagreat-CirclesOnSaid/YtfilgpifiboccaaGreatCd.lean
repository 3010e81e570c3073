/-
  The cosine formula holds the true altitude and azimuth. No program here. Haversines and quotients: what they hold; the signs of sines. No program here. Circles of position: sines of arcs a turn away, sides of parts, altitudes beside the circle. No program here. Circles of position: how far a point within a circle is from its centre, in latitude and in longitude. No program here. Circles of position: the point at a bearing holds the true one, and is neither surely inside nor outside. No program here. Circles of position: the bounds contain what is inside, and meet the points of the circle. No program here.
-/
import Derived.Test.YtfilgpifiboccaaGreatHd
namespace Go.Proofs.YtfilgpifiboccaaGreat
open SM TB TA
open Ev (lt keepE)
/-- The altitude's sine, and the azimuth's vector, by the cosine formula. -/
def cupE (a b c d e f : Int) : Int × Int × Int :=
  let m := mulR (sinR a b).1 (sinR a b).2.1 (sinR c d).1 (sinR c d).2.1
  let k := mulR (cosR a b).1 (cosR a b).2.1 (cosR c d).1 (cosR c d).2.1
  let n := mulR k.1 k.2.1 (cosR e f).1 (cosR e f).2.1
  addR m.1 m.2.1 n.1 n.2.1
def cnoE (a b c d e f : Int) : Int × Int × Int :=
  let m := mulR (sinR c d).1 (sinR c d).2.1 (cosR a b).1 (cosR a b).2.1
  let k := mulR (cosR c d).1 (cosR c d).2.1 (cosR e f).1 (cosR e f).2.1
  let n := mulR k.1 k.2.1 (sinR a b).1 (sinR a b).2.1
  subR m.1 m.2.1 n.1 n.2.1
def ceaE (c d e f : Int) : Int × Int × Int :=
  let m := mulR (cosR c d).1 (cosR c d).2.1 (sinR e f).1 (sinR e f).2.1
  negR m.1 m.2.1
theorem cup_v {a b c d e f : Int} {x y t : Rat} (h : triB a b c d e f = true) (hx : Hs 0 a b x) (hy : Hs 0 c d y) (ht : Hs 0 e f t) :
    Vl (cupE a b c d e f) (1000 * e1) (upT x y t) ∧ Vl (cnoE a b c d e f) (1000 * e1) (noT x y t) ∧ Vl (ceaE c d e f) (1000 * e1) (eaT y t) := by
  obtain ⟨h1, h2, h3⟩ := tri_bd h
  have l1 := (lat_bd h1).1
  have l2 := (lat_bd h2).1
  obtain ⟨w1, w2, w3, w4, w5, w6, w7, w8, w9, w10, w11⟩ := lv
  have s1 := sin_one l1
  have c1 := cos_one l1
  have s2 := sin_one l2
  have c2 := cos_one l2
  have s3 := sin_one h3
  have c3 := cos_one h3
  have S1 := sin_at l1 hx
  have C1 := cos_at l1 hx
  have S2 := sin_at l2 hy
  have C2 := cos_at l2 hy
  have S3 := sin_at h3 ht
  have C3 := cos_at h3 ht
  have m1 := mul_v s1 s2 (by grind) (by grind) S1 S2
  have k1 := mul_v c1 c2 (by grind) (by grind) C1 C2
  have n1 := mul_v (mul_ones c1 c2) c3 (e := 3 * (5 * e1)) (by grind) (by grind) k1 (C3.wide (by grind))
  have m2 := mul_v s2 c1 (by grind) (by grind) S2 C1
  have k2 := mul_v c2 c3 (by grind) (by grind) C2 C3
  have n2 := mul_v (mul_ones c2 c3) s1 (e := 3 * (5 * e1)) (by grind) (by grind) k2 (S1.wide (by grind))
  have m3 := mul_v c2 s3 (by grind) (by grind) C2 S3
  refine ⟨?_, ?_, ?_⟩
  · exact (add_v (mul_ones s1 s2) (mul_ones (mul_ones c1 c2) c3) m1 n1).wide (by grind)
  · exact (sub_v (mul_ones s2 c1) (mul_ones (mul_ones c2 c3) s1) m2 n2).wide (by grind)
  · exact (neg_v (mul_ones c2 s3) m3).wide (by grind)
theorem cosine_ok {a b c d e f : Int} (h : triB a b c d e f = true) :
    caltM a b c d e f = asinR (cupE a b c d e f).1 (cupE a b c d e f).2.1 ∧ caziM a b c d e f = bearR (ceaE c d e f).1 (ceaE c d e f).2.1 (cnoE a b c d e f).1 (cnoE a b c d e f).2.1 := by
  obtain ⟨h1, h2, h3⟩ := tri_bd h
  have l1 := (lat_bd h1).1
  have l2 := (lat_bd h2).1
  have s1 := sin_one l1
  have c1 := cos_one l1
  have s2 := sin_one l2
  have c2 := cos_one l2
  have s3 := sin_one h3
  have c3 := cos_one h3
  have z : ((0 : Int) != 0) = false := rfl
  constructor
  · unfold caltM caltMK cupE
    simp only [lt, csinV, csinC, ccosV, ccosC, cmulV, cmulC, caddV, caddC]
    generalize sinR a b = S1 at *
    generalize cosR a b = C1 at *
    generalize sinR c d = S2 at *
    generalize cosR c d = C2 at *
    generalize sinR e f = S3 at *
    generalize cosR e f = C3 at *
    rw [s1.2.2.2, c1.2.2.2, s2.2.2.2, c2.2.2.2, s3.2.2.2, c3.2.2.2]
    have m1 := mul_ones s1 s2
    have k1 := mul_ones c1 c2
    generalize mulR S1.1 S1.2.1 S2.1 S2.2.1 = M at *
    generalize mulR C1.1 C1.2.1 C2.1 C2.2.1 = K at *
    have n1 := mul_ones k1 c3
    generalize mulR K.1 K.2.1 C3.1 C3.2.1 = N at *
    have a1 := add_ones m1 n1
    rw [m1.2.2.2, k1.2.2.2, n1.2.2.2, a1.1]
    simp only [keep0, z, cond_false]
  · unfold caziM caziMK cnoE ceaE
    simp only [lt, csinV, csinC, ccosV, ccosC, cmulV, cmulC, cnegV, cnegC, csubV, csubC]
    generalize sinR a b = S1 at *
    generalize cosR a b = C1 at *
    generalize sinR c d = S2 at *
    generalize cosR c d = C2 at *
    generalize sinR e f = S3 at *
    generalize cosR e f = C3 at *
    rw [s1.2.2.2, c1.2.2.2, s2.2.2.2, c2.2.2.2, s3.2.2.2, c3.2.2.2]
    have m1 := mul_ones c2 s3
    have k1 := mul_ones s2 c1
    have p1 := mul_ones c2 c3
    generalize mulR C2.1 C2.2.1 S3.1 S3.2.1 = M at *
    generalize mulR S2.1 S2.2.1 C1.1 C1.2.1 = K at *
    generalize mulR C2.1 C2.2.1 C3.1 C3.2.1 = P at *
    have n1 := mul_ones p1 s1
    generalize mulR P.1 P.2.1 S1.1 S1.2.1 = N at *
    have a1 := sub_ones k1 n1
    have g1 := neg_one m1
    rw [m1.2.2.2, k1.2.2.2, p1.2.2.2, n1.2.2.2, a1.1, g1.1]
    simp only [keep0, z, cond_false]
end Go.Proofs.YtfilgpifiboccaaGreat
namespace Go.Proofs.YtfilgpifiboccaaGreat
open SM TB TA
open Ev (lt keepE)
theorem div_val {a b c d : Int} (h : (divR a b c d).2.2 = 0) : validB (divR a b c d).1 (divR a b c d).2.1 = true := by
  unfold divR at h ⊢
  obtain ⟨hb, hf⟩ := both_ok h
  rw [if_pos hb]
  split at hf
  · cases hf
  · rename_i hz
    rw [if_neg hz]
    obtain ⟨hv, e⟩ := fit_ok hf
    rw [e]; exact hv
theorem div_v {n d : Int × Int × Int} {e δ X : Rat} (hn : Vl n e (δ * X)) (hd : Vl d e δ) (d0 : 1 ≤ d.1) (hX0 : -1 ≤ X) (hX : X ≤ 2) (he : 0 ≤ e) (ok : (divR n.1 n.2.1 d.1 d.2.1).2.2 = 0) : Vl (divR n.1 n.2.1 d.1 d.2.1) (8589934592 * e) X := by
  have vd := div_val ok
  refine ⟨ok, vd, ?_⟩
  have nb := val_bd hn.2.1
  have db := val_bd hd.2.1
  have ev : divR n.1 n.2.1 d.1 d.2.1 = (divL n.1 n.2.1 d.1 d.2.1, divH n.1 n.2.1 d.1 d.2.1, 0) := by
    have q := ok
    unfold divR at q ⊢
    obtain ⟨hb, hf⟩ := both_ok q
    rw [if_pos hb]
    split at hf
    · cases hf
    · rename_i hz
      rw [if_neg hz]
      exact (fit_ok hf).2
  rw [ev]
  obtain ⟨n', n1, n2, n3, n4⟩ := hn.2.2.clamp he nb.2.1
  obtain ⟨t', t1, t2, t3, t4⟩ := hd.2.2.clamp he db.2.1
  have D0 := le_c d0
  rw [show ((1 : Int) : Rat) = 1 by rfl] at D0
  -- the corners
  have l1 := (div_has (a := n.1) (b := n.2.1) (c := d.1) (d := d.2.1) (x := n.1) (y := d.1) (.inl (by omega)) (Int.le_refl _) nb.2.1 (Int.le_refl _) db.2.1).1
  have l2 := (div_has (a := n.1) (b := n.2.1) (c := d.1) (d := d.2.1) (x := n.1) (y := d.2.1) (.inl (by omega)) (Int.le_refl _) nb.2.1 db.2.1 (Int.le_refl _)).1
  have u1 := (div_has (a := n.1) (b := n.2.1) (c := d.1) (d := d.2.1) (x := n.2.1) (y := d.1) (.inl (by omega)) nb.2.1 (Int.le_refl _) (Int.le_refl _) db.2.1).2
  have u2 := (div_has (a := n.1) (b := n.2.1) (c := d.1) (d := d.2.1) (x := n.2.1) (y := d.2.1) (.inl (by omega)) nb.2.1 (Int.le_refl _) db.2.1 (Int.le_refl _)).2
  have fl : ∀ x y : Int, 1 ≤ y → flD x y * y ≤ x := fun x y hy => by
    unfold flD
    rw [if_pos (by omega)]
    have := Int.ediv_mul_le x (show y ≠ 0 by omega)
    exact this
  have ce' : ∀ x y : Int, 1 ≤ y → x ≤ ceD x y * y := fun x y hy => by
    have := fl (-x) y hy
    unfold ceD
    have e : -flD (-x) y * y = -(flD (-x) y * y) := Int.neg_mul _ _
    omega
  have L1 : divL n.1 n.2.1 d.1 d.2.1 * d.1 ≤ n.1 * 1073741824 := Int.le_trans (Int.mul_le_mul_of_nonneg_right l1 (by omega)) (fl _ _ d0)
  have L2 : divL n.1 n.2.1 d.1 d.2.1 * d.2.1 ≤ n.1 * 1073741824 := Int.le_trans (Int.mul_le_mul_of_nonneg_right l2 (by omega)) (fl _ _ (by omega))
  have U1 : n.2.1 * 1073741824 ≤ divH n.1 n.2.1 d.1 d.2.1 * d.1 := Int.le_trans (ce' _ _ d0) (Int.mul_le_mul_of_nonneg_right u1 (by omega))
  have U2 : n.2.1 * 1073741824 ≤ divH n.1 n.2.1 d.1 d.2.1 * d.2.1 := Int.le_trans (ce' _ _ (by omega)) (Int.mul_le_mul_of_nonneg_right u2 (by omega))
  have L1 := le_c L1
  have L2 := le_c L2
  have U1 := le_c U1
  have U2 := le_c U2
  rw [Rat.intCast_mul, Rat.intCast_mul, show ((1073741824 : Int) : Rat) = 1073741824 by rfl] at L1 L2 U1 U2
  clear l1 l2 u1 u2 fl ce' ev vd ok
  unfold Hs
  dsimp only
  generalize (divL n.1 n.2.1 d.1 d.2.1 : Rat) = L at *
  generalize (divH n.1 n.2.1 d.1 d.2.1 : Rat) = U at *
  generalize (n.1 : Rat) = a at *
  generalize (n.2.1 : Rat) = b at *
  generalize (d.1 : Rat) = c at *
  generalize (d.2.1 : Rat) = f at *
  have lL := lin_q L t1 t2
  have lU := lin_q U t1 t2
  rw [Rat.mul_comm c, Rat.mul_comm t', Rat.mul_comm f] at lL lU
  have A : L * t' ≤ 1073741824 * n' := by rcases lL with k | k <;> grind
  have B : 1073741824 * n' ≤ U * t' := by rcases lU with k | k <;> grind
  have q1 := mul_abs (a := 1073741824 * δ - t') (b := 1073741824 * X) (A := e) (B := 2147483648) t3 t4 (by grind) (by grind)
  have ex : 1073741824 * (1073741824 * (δ * X)) = (1073741824 * δ - t') * (1073741824 * X) + t' * (1073741824 * X) := by grind
  have t0 : 1 ≤ t' := by grind
  generalize (1073741824 * δ - t') * (1073741824 * X) = w at *
  generalize 1073741824 * (δ * X) = z at *
  generalize 1073741824 * X = P at *
  constructor
  · rcases (Rat.le_total : L - 8589934592 * e ≤ P ∨ P ≤ L - 8589934592 * e) with k | k
    · exact k
    · have m := Rat.mul_nonneg (show 0 ≤ t' - 1 by grind) (show 0 ≤ L - P by grind)
      grind
  · rcases (Rat.le_total : P ≤ U + 8589934592 * e ∨ U + 8589934592 * e ≤ P) with k | k
    · exact k
    · have m := Rat.mul_nonneg (show 0 ≤ t' - 1 by grind) (show 0 ≤ P - U by grind)
      grind
end Go.Proofs.YtfilgpifiboccaaGreat
namespace Go.Proofs.YtfilgpifiboccaaGreat
open SM TB TA
open Ev (lt keepE)
/-! ### Whole turns -/
theorem cos_val {a b : Int} (h : avalidB a b = true) : cosR a b = (encL (a + 5400000) (b + 5400000), encH (a + 5400000) (b + 5400000), 0) := by simp [cosR, h]
theorem cos_full {a b : Int} (h : avalidB a b = true) (hw : 21600000 ≤ b - a) : cosR a b = (-1073741824, 1073741824, 0) := by
  have m : ∀ n : Int, meetB (a + 5400000) (b + 5400000) n = true := fun n => decide_eq_true (by
    have := Int.emod_lt_of_pos (n - (a + 5400000)) (show (0 : Int) < 21600000 by omega)
    omega)
  rw [cos_val h]
  unfold encL encH
  rw [m, m]
  rfl
/-! ### Longitudes -/
def sgnd (n : Int) : Int := if 10800000 ≤ n % 21600000 then n % 21600000 - 21600000 else n % 21600000
def lonL (a b : Int) : Int := if 21600000 ≤ b - a then -10800000 else sgnd a
def lonH (a b : Int) : Int := if 21600000 ≤ b - a then 10800000 else sgnd a + (b - a)
theorem sgnd_bd (n : Int) : -10800000 ≤ sgnd n ∧ sgnd n < 10800000 ∧ ∃ k : Int, sgnd n = n + 21600000 * k := by
  have m0 := Int.emod_nonneg n (show (21600000 : Int) ≠ 0 by omega)
  have m1 := Int.emod_lt_of_pos n (show (0 : Int) < 21600000 by omega)
  unfold sgnd
  split
  · exact ⟨by omega, by omega, -(n / 21600000) - 1, by omega⟩
  · exact ⟨by omega, by omega, -(n / 21600000), by omega⟩
theorem lon_rep {a b : Int} (h : b - a < 21600000) : ∃ k : Int, lonL a b = a + 21600000 * k ∧ lonH a b = b + 21600000 * k := by
  obtain ⟨_, _, k, e⟩ := sgnd_bd a
  refine ⟨k, ?_, ?_⟩
  · unfold lonL
    rw [if_neg (by omega), e]
  · unfold lonH
    rw [if_neg (by omega), e]
    omega
theorem lon_bd {a b : Int} (h : a ≤ b) : -10800000 ≤ lonL a b ∧ lonL a b ≤ lonH a b ∧ ((lonL a b = -10800000 ∧ lonH a b = 10800000) ∨ (lonL a b < 10800000 ∧ lonH a b - lonL a b < 21600000)) := by
  have s := sgnd_bd a
  unfold lonL lonH
  split
  · exact ⟨by omega, by omega, .inl ⟨rfl, rfl⟩⟩
  · exact ⟨s.1, by omega, .inr ⟨by omega, by omega⟩⟩
/-! ### Sides -/
/-- On which side: by the cosine of the distance, and that of the radius. -/
def sidS (s r : Int × Int × Int) : Int := if r.2.1 < s.1 then 1 else if s.2.1 < r.1 then -1 else 0
/-! ### Altitudes -/
end Go.Proofs.YtfilgpifiboccaaGreat
namespace Go.Proofs.YtfilgpifiboccaaGreat
open SM TB TA
theorem cc_low {φ γ : Rat} (f0 : -5400000 ≤ φ) (f1 : φ ≤ 5400000) (g0 : -5400000 ≤ γ) (g1 : γ ≤ 5400000) : -(6 * e0) ≤ co φ * co γ ∧ co φ * co γ ≤ 5 / 4 := by
  have cf := co_lat f0 f1
  have cg := co_lat g0 g1
  have bf := bdq φ
  have bg := bdq γ
  have eb := e0_bd
  have ub := u0_bd
  have m := Rat.mul_nonneg (show 0 ≤ co φ + e0 by grind) (show 0 ≤ co γ + e0 by grind)
  have m1 := Rat.mul_nonneg (show 0 ≤ e0 by grind) (show 0 ≤ 2 - co φ by grind)
  have m2 := Rat.mul_nonneg (show 0 ≤ e0 by grind) (show 0 ≤ 2 - co γ by grind)
  have m3 := Rat.mul_nonneg (show 0 ≤ e0 by grind) (show 0 ≤ 1 - e0 by grind)
  have m4 := mul_abs (a := co φ) (b := co γ) (A := 11 / 10) (B := 11 / 10) (by grind) (by grind) (by grind) (by grind)
  constructor <;> grind
theorem up_le {φ γ t : Rat} (f0 : -5400000 ≤ φ) (f1 : φ ≤ 5400000) (g0 : -5400000 ≤ γ) (g1 : γ ≤ 5400000) : upT φ γ t ≤ co (φ - γ) + 30 * e0 := by
  have k := cc_low f0 f1 g0 g1
  have bt := bdq t
  have s := (subq φ γ).1
  have ub := u0_bd
  have ee : e0 = 1048576 * u0 := rfl
  have eb := e0_bd
  have m := Rat.mul_nonneg (show 0 ≤ co φ * co γ + 6 * e0 by grind) (show 0 ≤ 1 + 8192 * u0 - co t by grind)
  have m2 := mul_abs (a := u0) (b := co φ * co γ) (A := u0) (B := 2) (by grind) (by grind) (by grind) (by grind)
  have m3 := mul_abs (a := e0) (b := co t) (A := e0) (B := 2) (by grind) (by grind) (by grind) (by grind)
  have m4 := mul_abs (a := e0) (b := u0) (A := e0) (B := 1 / 100000) (by grind) (by grind) (by grind) (by grind)
  unfold upT
  generalize co φ * co γ = K at *
  have i : (K + 6 * e0) * (1 + 8192 * u0 - co t) = K + 8192 * (u0 * K) - K * co t + 6 * e0 + 49152 * (e0 * u0) - 6 * (e0 * co t) := by grind
  rw [i] at m
  unfold Cl at s
  generalize si φ * si γ = L at *
  generalize K * co t = M at *
  generalize u0 * K = x1 at *
  generalize e0 * u0 = x2 at *
  generalize e0 * co t = x3 at *
  clear i k bt
  grind
theorem far_lat {D R d ε : Rat} (_D0 : 0 ≤ D) (D1 : D ≤ 10800000) (R0 : 0 ≤ R) (_R1 : R ≤ 10800000) (h : co R - ε ≤ co D) (d0 : 0 ≤ d) (hd : 100000000000000 * (ε + 20 * e0) ≤ d * d) : D ≤ R + d := by
  have ub := u0_bd
  have ee : e0 = 1048576 * u0 := rfl
  rcases (Rat.le_total : D ≤ R + d ∨ R + d ≤ D) with c | c
  · exact c
  exfalso
  have g := grow (p := 5400000 - D) (q := 5400000 - R) (by grind) (by grind) (by grind)
  have a := (coq D).1
  have b := (coq R).1
  rw [show 5400000 - R - (5400000 - D) = D - R by grind] at g
  have m := Rat.mul_nonneg (show 0 ≤ D - R - d by grind) (show 0 ≤ D - R + d by grind)
  unfold Cl at a b
  have i : (D - R - d) * (D - R + d) = (D - R) * (D - R) - d * d := by grind
  rw [i] at m
  generalize (D - R) * (D - R) = x1 at *
  generalize d * d = x2 at *
  generalize si (5400000 - D) = x3 at *
  generalize si (5400000 - R) = x4 at *
  grind
theorem lat_near {φ γ t R d ε : Rat} (f0 : -5400000 ≤ φ) (f1 : φ ≤ 5400000) (g0 : -5400000 ≤ γ) (g1 : γ ≤ 5400000) (R0 : 0 ≤ R) (R1 : R ≤ 10800000) (h : co R - ε ≤ upT φ γ t) (d0 : 0 ≤ d) (hd : 100000000000000 * (ε + 60 * e0) ≤ d * d) : φ - γ ≤ R + d ∧ γ - φ ≤ R + d := by
  have u := up_le (t := t) f0 f1 g0 g1
  have n := (negq (φ - γ)).1
  have ub := u0_bd
  have ee : e0 = 1048576 * u0 := rfl
  have eb := e0_bd
  rw [show -(φ - γ) = γ - φ by grind] at n
  unfold Cl at n
  rcases (Rat.le_total : 0 ≤ φ - γ ∨ φ - γ ≤ 0) with c | c
  · have := far_lat (D := φ - γ) (ε := ε + 35 * e0) c (by grind) R0 R1 (by grind) d0 (by grind)
    constructor <;> grind
  · have := far_lat (D := γ - φ) (ε := ε + 35 * e0) (by grind) (by grind) R0 R1 (by grind) d0 (by grind)
    constructor <;> grind
/-- The circle keeps off the poles: the cosine of the radius is greater than the sine of the latitude. -/
theorem off_pole {γ R : Rat} (R0 : 0 ≤ R) (h1 : R + 1 ≤ 5400000 - γ) (h2 : R + 1 ≤ 5400000 + γ) : si γ + 1 / 2 ^ 47 ≤ co R ∧ -si γ + 1 / 2 ^ 47 ≤ co R ∧ 1 / 2 ^ 47 ≤ co R := by
  have ub := u0_bd
  have ee : e0 = 1048576 * u0 := rfl
  have eb := e0_bd
  have b := (coq R).1
  unfold Cl at b
  have key : ∀ z : Rat, -5400000 ≤ z → R + 1 ≤ 5400000 - z → si z + 1 / 2 ^ 47 ≤ co R := fun z z0 hz => by
    have g := grow (p := z) (q := 5400000 - R) z0 (by grind) (by grind)
    have m := Rat.mul_nonneg (show 0 ≤ 5400000 - R - z - 1 by grind) (show 0 ≤ 5400000 - R - z + 1 by grind)
    have i : (5400000 - R - z - 1) * (5400000 - R - z + 1) = (5400000 - R - z) * (5400000 - R - z) - 1 := by grind
    rw [i] at m
    generalize (5400000 - R - z) * (5400000 - R - z) = x1 at *
    grind
  have k1 := key γ (by grind) h1
  have k2 := key (-γ) (by grind) (by grind)
  have n := (si_neg (q := γ) (by grind) (by grind)).1
  rw [n] at k2
  exact ⟨k1, k2, by grind⟩
/-- The longitude's cosine is above 0. -/
theorem cos_up {φ γ t R ε : Rat} (f0 : -5400000 ≤ φ) (f1 : φ ≤ 5400000) (R0 : 0 ≤ R) (h1 : R + 1 ≤ 5400000 - γ) (h2 : R + 1 ≤ 5400000 + γ) (hε : ε ≤ 1 / 2 ^ 60) (h : co R - ε ≤ upT φ γ t) : 1 / 2 ^ 60 ≤ co t := by
  have o := off_pole R0 h1 h2
  have k := cc_low f0 f1 (show -5400000 ≤ γ by grind) (show γ ≤ 5400000 by grind)
  have bf := (bdq φ).2
  have bt := bdq2 t
  have ub := u0_bd
  have ee : e0 = 1048576 * u0 := rfl
  have eb := e0_bd
  rcases (Rat.le_total : 1 / 2 ^ 60 ≤ co t ∨ co t ≤ 1 / 2 ^ 60) with c | c
  · exact c
  exfalso
  have m := Rat.mul_nonneg (show 0 ≤ co φ * co γ + 6 * e0 by grind) (show 0 ≤ 1 / 2 ^ 60 - co t by grind)
  have m3 := mul_abs (a := e0) (b := co t) (A := e0) (B := 2) (by grind) (by grind) (by grind) (by grind)
  have AB : si φ * si γ ≤ si γ + 1 / 2 ^ 59 ∨ si φ * si γ ≤ -si γ + 1 / 2 ^ 59 := by
    have bg := bdq2 γ
    rcases (Rat.le_total : 0 ≤ si γ ∨ si γ ≤ 0) with g | g
    · left
      have := Rat.mul_nonneg g (show 0 ≤ 1 + 8192 * u0 - si φ by grind)
      have := Rat.mul_nonneg (show 0 ≤ u0 by grind) (show 0 ≤ 2 - si γ by grind)
      grind
    · right
      have := Rat.mul_nonneg (show 0 ≤ -si γ by grind) (show 0 ≤ 1 + 8192 * u0 + si φ by grind)
      have := Rat.mul_nonneg (show 0 ≤ u0 by grind) (show 0 ≤ 2 + si γ by grind)
      grind
  unfold upT at h
  generalize co φ * co γ = K at *
  have i : (K + 6 * e0) * (1 / 2 ^ 60 - co t) = 1 / 2 ^ 60 * K - K * co t + 6 * e0 * (1 / 2 ^ 60) - 6 * (e0 * co t) := by grind
  rw [i] at m
  generalize K * co t = M at *
  generalize e0 * co t = x3 at *
  generalize si φ * si γ = L at *
  clear i bf bt
  rcases AB with a | a <;> grind
theorem cos_quart {t : Rat} (t0 : -10800000 ≤ t) (t1 : t ≤ 10800000) (h : 1 / 2 ^ 60 ≤ co t) : -5400000 ≤ t ∧ t ≤ 5400000 := by
  have ub := u0_bd
  have ee : e0 = 1048576 * u0 := rfl
  have eb := e0_bd
  have key : ∀ z : Rat, z ≤ 10800000 → 1 / 2 ^ 61 ≤ co z → z ≤ 5400000 := fun z z1 hz => by
    rcases (Rat.le_total : z ≤ 5400000 ∨ 5400000 ≤ z) with c | c
    · exact c
    · exfalso
      have b := (backq z).1
      have s := si_half (q := z - 5400000) (by grind) (by grind)
      unfold Cl at b
      grind
  have n := (negq t).1
  unfold Cl at n
  have k1 := key t t1 (by grind)
  have k2 := key (-t) (by grind) (by grind)
  constructor <;> grind
/-- The sine of the longitude, by the tangent. -/
theorem sin_tan {φ γ t R X ε f : Rat} (_f0 : -5400000 ≤ φ) (_f1 : φ ≤ 5400000) (R0 : 0 ≤ R) (h1 : R + 1 ≤ 5400000 - γ) (h2 : R + 1 ≤ 5400000 + γ) (ε0 : 0 ≤ ε) (hε : ε ≤ 1 / 2 ^ 60) (h : co R - ε ≤ upT φ γ t) (hX : X * co γ = si R) (X0 : 0 ≤ X) (ff : 0 ≤ f) (hf : 2 ^ 46 * (3 * ε + 4 * e0) ≤ f * f) : si t ≤ X + f ∧ -si t ≤ X + f := by
  have o := (off_pole R0 h1 h2).2.2
  have uφ := unit φ
  have uγ := unit γ
  have ut := unit t
  have uR := unit R
  have ub := u0_bd
  have ee : e0 = 1048576 * u0 := rfl
  have eb := e0_bd
  have tb' := tb_bd
  have cg := co_ge (q := γ) (d := 1) (by grind) (by grind) (by grind) (by grind) (by grind)
  have C0 : 1 / 2 ^ 23 ≤ co γ := by grind
  have bg := bdq γ
  -- Cauchy's inequality
  have ca := sq_nn (si φ * (co γ * co t) - co φ * si γ)
  have i1 : (si φ * (co γ * co t) - co φ * si γ) * (si φ * (co γ * co t) - co φ * si γ) = (co φ * co φ + si φ * si φ) * (co γ * co γ + si γ * si γ - co γ * co γ * (si t * si t) - co γ * co γ * (1 - co t * co t - si t * si t)) - upT φ γ t * upT φ γ t := by
    unfold upT
    grind
  rw [i1] at ca
  have V := Rat.mul_nonneg (show 0 ≤ upT φ γ t - (co R - ε) by grind) (show 0 ≤ upT φ γ t + (co R - ε) by grind)
  have i2 : (upT φ γ t - (co R - ε)) * (upT φ γ t + (co R - ε)) = upT φ γ t * upT φ γ t - co R * co R + 2 * (ε * co R) - ε * ε := by grind
  rw [i2] at V
  have bR := bdq R
  have eR := Rat.mul_nonneg ε0 (show 0 ≤ 1 + 8192 * u0 - co R by grind)
  have eε := sq_nn ε
  have eu := Rat.mul_nonneg ε0 (show 0 ≤ 1 / 2 ^ 20 - 8192 * u0 by grind)
  have cc := mul_abs (a := co γ) (b := co γ) (A := 2) (B := 2) (by grind) (by grind) (by grind) (by grind)
  have ss := mul_abs (a := si t) (b := si t) (A := 2) (B := 2) (by have := bdq2 t; grind) (by have := bdq2 t; grind) (by have := bdq2 t; grind) (by have := bdq2 t; grind)
  have sst := sq_nn (si t)
  have w1 := mul_abs (a := co γ * co γ) (b := 1 - co t * co t - si t * si t) (A := 4) (B := 8192 * u0) (by grind) (by grind) (by unfold Cl at ut; grind) (by unfold Cl at ut; grind)
  have w2 := mul_abs (a := co γ * co γ) (b := si t * si t) (A := 4) (B := 4) (by grind) (by grind) (by grind) (by grind)
  have ccn := sq_nn (co γ)
  have w3 := mul_abs (a := co φ * co φ + si φ * si φ - 1) (b := co γ * co γ + si γ * si γ - co γ * co γ * (si t * si t) - co γ * co γ * (1 - co t * co t - si t * si t)) (A := 8192 * u0) (B := 30) (by unfold Cl at uφ; grind) (by unfold Cl at uφ; grind) (by unfold Cl at uγ; grind) (by unfold Cl at uγ; grind)
  have i3 : (co φ * co φ + si φ * si φ) * (co γ * co γ + si γ * si γ - co γ * co γ * (si t * si t) - co γ * co γ * (1 - co t * co t - si t * si t)) = (co φ * co φ + si φ * si φ - 1) * (co γ * co γ + si γ * si γ - co γ * co γ * (si t * si t) - co γ * co γ * (1 - co t * co t - si t * si t)) + (co γ * co γ + si γ * si γ - co γ * co γ * (si t * si t) - co γ * co γ * (1 - co t * co t - si t * si t)) := by grind
  rw [i3] at ca
  have e2 : co γ * co γ * (X * X) = si R * si R := by rw [← hX]; grind
  have key : co γ * co γ * (si t * si t) ≤ co γ * co γ * (X * X) + (3 * ε + 3 * e0) := by
    rw [e2]
    have eε2 : ε * ε ≤ ε := by
      have := Rat.mul_nonneg ε0 (show 0 ≤ 1 - ε by grind)
      grind
    generalize (co φ * co φ + si φ * si φ - 1) * (co γ * co γ + si γ * si γ - co γ * co γ * (si t * si t) - co γ * co γ * (1 - co t * co t - si t * si t)) = y1 at *
    generalize co γ * co γ * (1 - co t * co t - si t * si t) = y2 at *
    generalize co γ * co γ * (si t * si t) = y3 at *
    generalize co γ * co γ = y4 at *
    generalize si γ * si γ = y5 at *
    generalize upT φ γ t * upT φ γ t = y6 at *
    generalize co R * co R = y7 at *
    generalize si R * si R = y8 at *
    have i4 : ε * (1 + 8192 * u0 - co R) = ε + 8192 * (ε * u0) - ε * co R := by grind
    have i5 : ε * (1 / 2 ^ 20 - 8192 * u0) = 1 / 2 ^ 20 * ε - 8192 * (ε * u0) := by grind
    rw [i4] at eR
    rw [i5] at eu
    generalize ε * co R = y9 at *
    generalize ε * u0 = y10 at *
    generalize ε * ε = y11 at *
    clear i1 i2 i3 i4 i5 uφ ut hX e2 w2 hf bg bR cc ss sst ccn cg C0 tb' h
    unfold Cl at uγ uR
    grind
  have fin : ∀ S : Rat, S * S = si t * si t → S ≤ X + f := fun S hS => by
    rcases (Rat.le_total : S ≤ X + f ∨ X + f ≤ S) with c | c
    · exact c
    · exfalso
      have p1 := Rat.mul_nonneg (show 0 ≤ S - X - f by grind) (show 0 ≤ S + X by grind)
      have p2 := Rat.mul_nonneg ff (show 0 ≤ S + X - f by grind)
      have p3 : f * f ≤ S * S - X * X := by grind
      rw [hS] at p3
      have q1 := Rat.mul_nonneg (show 0 ≤ co γ - 1 / 2 ^ 23 by grind) (show 0 ≤ co γ + 1 / 2 ^ 23 by grind)
      have q2 : 1 / 2 ^ 46 ≤ co γ * co γ := by grind
      have q3 := Rat.mul_nonneg (show 0 ≤ co γ * co γ - 1 / 2 ^ 46 by grind) (show 0 ≤ si t * si t - X * X by have := sq_nn f; grind)
      generalize co γ * co γ = y4 at *
      have i6 : (y4 - 1 / 2 ^ 46) * (si t * si t - X * X) = y4 * (si t * si t) - y4 * (X * X) - 1 / 2 ^ 46 * (si t * si t - X * X) := by grind
      rw [i6] at q3
      generalize y4 * (si t * si t) = y1 at *
      generalize y4 * (X * X) = y2 at *
      generalize si t * si t = y3 at *
      generalize X * X = y5 at *
      generalize f * f = y6 at *
      clear i1 i2 i3 i6 ca V w1 w2 w3 uφ ut uγ uR hX e2 p1 p2 eR eε eu cc ss sst ccn q1 bg bR
      grind
  exact ⟨fin _ rfl, fin _ (by grind)⟩
/-- How far east or west. -/
theorem lon_near {φ γ t R X θ ε f d : Rat} (f0 : -5400000 ≤ φ) (f1 : φ ≤ 5400000) (t0 : -10800000 ≤ t) (t1 : t ≤ 10800000) (R0 : 0 ≤ R) (h1 : R + 1 ≤ 5400000 - γ) (h2 : R + 1 ≤ 5400000 + γ) (ε0 : 0 ≤ ε) (hε : ε ≤ 1 / 2 ^ 60) (h : co R - ε ≤ upT φ γ t) (hX : X * co γ = si R) (X0 : 0 ≤ X) (ff : 0 ≤ f) (hf : 2 ^ 46 * (3 * ε + 4 * e0) ≤ f * f) (q0 : -5400000 ≤ θ) (_q1 : θ ≤ 5400000) (hθ : Cl (4 * e0) (si θ) X) (d0 : 0 ≤ d) (hd : 100000000000000 * (f + 20 * e0) ≤ d * d) : t ≤ θ + d ∧ -t ≤ θ + d := by
  have eb := e0_bd
  have c := cos_up f0 f1 R0 h1 h2 hε h
  obtain ⟨u0', u1'⟩ := cos_quart t0 t1 c
  obtain ⟨s1, s2⟩ := sin_tan f0 f1 R0 h1 h2 ε0 hε h hX X0 ff hf
  have n := (si_neg (q := t) (by grind) (by grind)).1
  have key : ∀ z : Rat, -5400000 ≤ z → z ≤ 5400000 → si z ≤ X + f → z ≤ θ + d := fun z z0 z1 hz => by
    rcases (Rat.le_total : z ≤ θ + d ∨ θ + d ≤ z) with g | g
    · exact g
    · exfalso
      have gr := grow (p := θ) (q := z) q0 (by grind) z1
      have m := Rat.mul_nonneg (show 0 ≤ z - θ - d by grind) (show 0 ≤ z - θ + d by grind)
      have i : (z - θ - d) * (z - θ + d) = (z - θ) * (z - θ) - d * d := by grind
      rw [i] at m
      unfold Cl at hθ
      generalize (z - θ) * (z - θ) = x1 at *
      generalize d * d = x2 at *
      clear i hX hf h
      grind
  exact ⟨key t u0' u1' s1, key (-t) (by grind) (by grind) (by rw [n]; exact s2)⟩
end Go.Proofs.YtfilgpifiboccaaGreat
namespace Go.Proofs.YtfilgpifiboccaaGreat
open SM TB TA
def mulW (r s : Int × Int × Int) : Int × Int × Int := mulR r.1 r.2.1 s.1 s.2.1
/-- The sine of the latitude, and the vector of the difference of longitude, of the point at a bearing. -/
def atU (a b p q u v : Int) : Int × Int × Int := addR (mulW (sinR a b) (cosR p q)).1 (mulW (sinR a b) (cosR p q)).2.1 (mulW (mulW (cosR a b) (sinR p q)) (cosR u v)).1 (mulW (mulW (cosR a b) (sinR p q)) (cosR u v)).2.1
def atE (p q u v : Int) : Int × Int × Int := mulW (sinR p q) (sinR u v)
def atN (a b p q u v : Int) : Int × Int × Int := subR (mulW (cosR p q) (cosR a b)).1 (mulW (cosR p q) (cosR a b)).2.1 (mulW (mulW (sinR p q) (sinR a b)) (cosR u v)).1 (mulW (mulW (sinR p q) (sinR a b)) (cosR u v)).2.1
theorem lvAt : 5 * e1 ≤ 1 / 4 ∧ 1073741824 * (10 * e0) ≤ e1 ∧ 0 < e1 ∧ 0 < dS ∧ 2000 * dS + 5 * e1 ≤ pw 215 ∧ 0 < pw 215 ∧ 12 * pw 215 + 1073741824 * (40 * eT) ≤ 1 / 8 ∧ 100000000000000 * (40 * eT + 60 * e0) ≤ pw 270 * pw 270 ∧ 0 < pw 270 ∧ pw 270 ≤ 1 / 8 ∧ dS ≤ 1 / 8 ∧ 5 * e0 ≤ eT ∧ 100 * e0 ≤ eT ∧ 0 < eT ∧ 40 * eT ≤ 1 / 2 ^ 60 ∧ pw 215 ≤ 1 / 100 := by decide +kernel
/-- The point at a bearing, as a body seen: what the vector holds. -/
theorem at_v {a b p q u v : Int} {γ R β : Rat} (ha : avalidB a b = true) (hp : avalidB p q = true) (hu : avalidB u v = true) (kγ : Hs 0 a b γ) (kR : Hs 0 p q R) (kβ : Hs 0 u v β) :
    Vl (atU a b p q u v) (1000 * e1) (upT γ (5400000 - R) (-β)) ∧ Vl (atE p q u v) (1000 * e1) (eaT (5400000 - R) (-β)) ∧ Vl (atN a b p q u v) (1000 * e1) (noT γ (5400000 - R) (-β)) := by
  obtain ⟨w1, w2, w3, _⟩ := lvAt
  have s1 := sin_at ha kγ
  have c1 := cos_at ha kγ
  have s2 := sin_at hp kR
  have c2 := cos_at hp kR
  have s3 := sin_at hu kβ
  have c3 := cos_at hu kβ
  have os1 := sin_one ha
  have oc1 := cos_one ha
  have os2 := sin_one hp
  have oc2 := cos_one hp
  have os3 := sin_one hu
  have oc3 := cos_one hu
  have q1 := coq R
  have q2 := negq β
  have ub := u0_bd
  have ee : e0 = 1048576 * u0 := rfl
  have eb := e0_bd
  have bγ := bdq2 γ
  have bR := bdq2 R
  have bβ := bdq2 β
  have bR' := bdq2 (5400000 - R)
  have bβ' := bdq2 (-β)
  refine ⟨?_, ?_, ?_⟩
  · have m1 := mul_v os1 oc2 (by grind) w1 s1 c2
    have m2 := mul_v oc1 os2 (by grind) w1 c1 s2
    have m3 := mul_v (mul_ones oc1 os2) oc3 (e := 3 * (5 * e1)) (by grind) (by have := e1_bd; grind) m2 (c3.wide (by grind))
    have ad := add_v (mul_ones os1 oc2) (mul_ones (mul_ones oc1 os2) oc3) m1 m3
    have n1 := Cl.mul 2 2 (Cl.refl (si γ) (e := 0) (by grind)) q1.1 bR'.2 bγ.2
    have n2 := Cl.mul 2 2 (Cl.refl (co γ) (e := 0) (by grind)) q1.2 bR'.1 bγ.1
    have n4 := mul_abs (a := co γ) (b := si R) (A := 2) (B := 2) bγ.1.1 bγ.1.2 bR.2.1 bR.2.2
    have n3 := Cl.mul 2 4 n2 q2.1 bβ'.1 (by grind)
    have key : Cl e0 (upT γ (5400000 - R) (-β)) (si γ * co R + co γ * si R * co β) := by
      unfold upT
      generalize si γ * si (5400000 - R) = x1 at *
      generalize co γ * co (5400000 - R) * co (-β) = x2 at *
      generalize si γ * co R = x3 at *
      generalize co γ * si R * co β = x4 at *
      clear n2 q1 q2
      unfold Cl at *
      constructor <;> grind
    exact (ad.near key).wide (by grind)
  · have m1 := mul_v os2 os3 (by grind) w1 s2 s3
    have n1 := Cl.mul 2 2 q1.2 q2.2 bβ'.2 bR.2
    have key : Cl e0 (eaT (5400000 - R) (-β)) (si R * si β) := by
      unfold eaT
      rw [show si R * -si β = -(si R * si β) by grind] at n1
      generalize co (5400000 - R) * si (-β) = x1 at *
      generalize si R * si β = x2 at *
      unfold Cl at n1 ⊢
      constructor <;> grind
    exact (m1.near key).wide (by grind)
  · have m1 := mul_v oc2 oc1 (by grind) w1 c2 c1
    have m2 := mul_v os2 os1 (by grind) w1 s2 s1
    have m3 := mul_v (mul_ones os2 os1) oc3 (e := 3 * (5 * e1)) (by grind) (by have := e1_bd; grind) m2 (c3.wide (by grind))
    have ad := sub_v (mul_ones oc2 oc1) (mul_ones (mul_ones os2 os1) oc3) m1 m3
    have n1 := Cl.mul 2 2 q1.1 (Cl.refl (co γ) (e := 0) (by grind)) bγ.1 bR.1
    have n2 := Cl.mul 2 2 q1.2 q2.1 bβ'.1 bR.2
    have n4 := mul_abs (a := si R) (b := co β) (A := 2) (B := 2) bR.2.1 bR.2.2 bβ.1.1 bβ.1.2
    have n3 := Cl.mul 2 4 n2 (Cl.refl (si γ) (e := 0) (by grind)) bγ.2 (by grind)
    have key : Cl e0 (noT γ (5400000 - R) (-β)) (co R * co γ - si R * si γ * co β) := by
      unfold noT
      rw [show si R * co β * si γ = si R * si γ * co β by grind] at n3
      generalize si (5400000 - R) * co γ = x1 at *
      generalize co (5400000 - R) * co (-β) * si γ = x2 at *
      generalize co R * co γ = x3 at *
      generalize si R * si γ * co β = x4 at *
      clear n2 q1 q2
      unfold Cl at *
      constructor <;> grind
    exact (ad.near key).wide (by grind)
/-- The distance of the point is the radius. -/
theorem at_dist {γ R β h z : Rat} (s : Sees γ (5400000 - R) (-β) h z) : Cl (40 * eT) (upT h γ z) (co R) := by
  obtain ⟨_, _, _, _, k1, k2, _⟩ := s
  obtain ⟨w1, w2, w3, w4, w5, w6, w7, w8, w9, w10, w11, w12, w13, w14, w15, w16⟩ := lvAt
  have q1 := coq R
  have un := unit γ
  have bγ := bdq2 γ
  have bR := bdq2 R
  have bβ := bdq2 (-β)
  have bR' := bdq2 (5400000 - R)
  have ub := u0_bd
  have ee : e0 = 1048576 * u0 := rfl
  have eb := e0_bd
  have m1 := mul_abs (a := si h - upT γ (5400000 - R) (-β)) (b := si γ) (A := 5 * e0) (B := 2) (by unfold Cl at k1; grind) (by unfold Cl at k1; grind) bγ.2.1 bγ.2.2
  have m2 := mul_abs (a := co h * co z - noT γ (5400000 - R) (-β)) (b := co γ) (A := eT) (B := 2) (by unfold Cl at k2; grind) (by unfold Cl at k2; grind) bγ.1.1 bγ.1.2
  have m3 := mul_abs (a := co γ * co γ + si γ * si γ - 1) (b := si (5400000 - R)) (A := 8192 * u0) (B := 2) (by unfold Cl at un; grind) (by unfold Cl at un; grind) bR'.2.1 bR'.2.2
  have i : upT h γ z - si (5400000 - R) = (si h - upT γ (5400000 - R) (-β)) * si γ + (co h * co z - noT γ (5400000 - R) (-β)) * co γ + (co γ * co γ + si γ * si γ - 1) * si (5400000 - R) := by
    unfold upT noT
    grind
  have q := q1.1
  unfold Cl at q ⊢
  generalize (si h - upT γ (5400000 - R) (-β)) * si γ = x1 at *
  generalize (co h * co z - noT γ (5400000 - R) (-β)) * co γ = x2 at *
  generalize (co γ * co γ + si γ * si γ - 1) * si (5400000 - R) = x3 at *
  clear k1 k2 un q1
  constructor <;> grind
/-- The place at a bearing is on neither side. -/
theorem at_side {a b p q l k e f : Int} {γ R β h z : Rat} (hl : latB l k = true) (ha : latB a b = true) (hp : avalidB p q = true) (he : avalidB e f = true) (kγ : Hs 0 a b γ) (kR : Hs 0 p q R) (kh : Hs dS l k h) (kz : 21600000 ≤ f - e ∨ ∃ m : Int, Hs dS e f (z + 21600000 * (m : Rat))) (s : Sees γ (5400000 - R) (-β) h z) :
    sidS (cupE l k a b e f) (cosR p q) = 0 := by
  obtain ⟨w1, w2, w3, w4, w5, w6, w7, w8, w9, w10, w11, w12, w13, w14, w15, w16⟩ := lvAt
  have D := at_dist s
  have l1 := (lat_bd hl).1
  have l2 := (lat_bd ha).1
  have S1 := (sin_v l1 (show 0 ≤ dS by grind) (by grind) kh).wide w5
  have C1 := (cos_v l1 (show 0 ≤ dS by grind) (by grind) kh).wide w5
  have S2 := (sin_at l2 kγ).wide (show 5 * e1 ≤ pw 215 by grind)
  have C2 := (cos_at l2 kγ).wide (show 5 * e1 ≤ pw 215 by grind)
  have C3 : Vl (cosR e f) (pw 215) (co z) := by
    rcases kz with kz | ⟨m, kz⟩
    · rw [cos_full he kz]
      have b := bdq z
      have ub := u0_bd
      refine ⟨rfl, val_mk (by dsimp only; omega) (by dsimp only; omega) (by dsimp only; omega), ?_⟩
      unfold Hs
      dsimp only
      rw [show ((-1073741824 : Int) : Rat) = -1073741824 by rfl, show ((1073741824 : Int) : Rat) = 1073741824 by rfl]
      have : 1073741824 * (8192 * u0) ≤ pw 215 := by decide +kernel
      constructor <;> grind
    · have c := (cos_v he (show 0 ≤ dS by grind) (by grind) kz).wide w5
      rw [(turn_eq z m).1] at c
      exact c
  have o1 := sin_one l1
  have o2 := sin_one l2
  have o3 := cos_one l1
  have o4 := cos_one l2
  have o5 := cos_one he
  have m1 := mul_v o1 o2 (by grind) (by grind) S1 S2
  have m2 := mul_v o3 o4 (by grind) (by grind) C1 C2
  have m3 := mul_v (mul_ones o3 o4) o5 (e := 3 * pw 215) (by grind) (by grind) m2 (C3.wide (by grind))
  have ad := add_v (mul_ones o1 o2) (mul_ones (mul_ones o3 o4) o5) m1 m3
  have V : Vl (cupE l k a b e f) (3 * pw 215 + 3 * (3 * pw 215)) (upT h γ z) := ad
  have R' := (cos_at hp kR).2.2
  have V' := V.2.2
  unfold Cl at D
  unfold Hs at R' V'
  have g1 : (cupE l k a b e f).1 ≤ (cosR p q).2.1 := of_c (e := 1 / 2) (by have := e1_bd; grind) (by grind)
  have g2 : (cosR p q).1 ≤ (cupE l k a b e f).2.1 := of_c (e := 1 / 2) (by have := e1_bd; grind) (by grind)
  unfold sidS
  rw [if_neg (by omega), if_neg (by omega)]
/-- And it is within the latitudes of the circle. -/
theorem at_lat {a b p q l k : Int} {γ R β h z : Rat} (ha : latB a b = true) (h0 : 0 ≤ p) (h1 : q ≤ 10800000) (kγ : Hs 0 a b γ) (kR : Hs 0 p q R) (kh : Hs dS l k h) (s : Sees γ (5400000 - R) (-β) h z) : a - q ≤ k ∧ l ≤ b + q := by
  obtain ⟨w1, w2, w3, w4, w5, w6, w7, w8, w9, w10, w11, w12, w13, w14, w15, w16⟩ := lvAt
  have D := at_dist s
  have lb := lat_bd ha
  have A0 := le_c lb.2.1
  have A1 := le_c lb.2.2.2
  have P0 := le_c h0
  have P1 := le_c h1
  rw [show ((-5400000 : Int) : Rat) = -5400000 by rfl] at A0
  rw [show ((5400000 : Int) : Rat) = 5400000 by rfl] at A1
  rw [show ((0 : Int) : Rat) = 0 by rfl] at P0
  rw [show ((10800000 : Int) : Rat) = 10800000 by rfl] at P1
  unfold Hs at kγ kR kh
  have N := lat_near (φ := h) (γ := γ) (t := z) (R := R) (d := pw 270) (ε := 40 * eT) s.1 s.2.1 (by grind) (by grind) (by grind) (by grind) (by unfold Cl at D; grind) (by grind) w8
  constructor
  · refine of_c (e := 1 / 2) ?_ (by grind)
    rw [Rat.intCast_sub]
    grind
  · refine of_c (e := 1 / 2) ?_ (by grind)
    rw [Rat.intCast_add]
    grind
end Go.Proofs.YtfilgpifiboccaaGreat
namespace Go.Proofs.YtfilgpifiboccaaGreat
open SM TB TA
/-- The sine of how far a circle goes east, and the arc. -/
def exQ (a b q : Int) : Int × Int × Int := divR (sinR q q).1 (sinR q q).2.1 (cosR a b).1 (cosR a b).2.1
noncomputable def exW (a b q : Int) : Int × Int × Int := asinR (exQ a b q).1 (exQ a b q).2.1
theorem lvD : 100000 * (8589934592 * (5 * e1) + 1073741824 * (4 * e0) + 4 * e1) ≤ pw 275 * pw 275 ∧ 0 < pw 275 ∧ pw 275 ≤ 1 / 8 ∧ 8589934592 * (5 * e1) + 1073741824 * (4 * e0) ≤ 1 / 4 ∧ 0 < pw 270 ∧ pw 270 ≤ 1 / 8 ∧ 100000000000000 * (0 + 60 * e0) ≤ pw 270 * pw 270 ∧ 2 ^ 46 * (3 * 0 + 4 * e0) ≤ pw 600 * pw 600 ∧ 0 < pw 600 ∧ 100000000000000 * (pw 600 + 20 * e0) ≤ pw 270 * pw 270 ∧ 2 ^ 46 * (3 * (40 * eT) + 4 * e0) ≤ pw 270 * pw 270 ∧ 100000000000000 * (pw 270 + 20 * e0) ≤ pw 110 * pw 110 ∧ 0 < pw 110 ∧ pw 110 ≤ 1 / 8 ∧ 1000 * e1 ≤ 1 / 100 ∧ 0 < e1 := by decide +kernel
/-- The sine of the radius is below the cosine of the latitude. -/
theorem tan_one {γ R : Rat} (R0 : 0 ≤ R) (h1 : R + 1 ≤ 5400000 - γ) (h2 : R + 1 ≤ 5400000 + γ) : 1 / 2 ^ 23 ≤ co γ ∧ 0 ≤ si R ∧ si R ≤ co γ := by
  have ub := u0_bd
  have ee : e0 = 1048576 * u0 := rfl
  have eb := e0_bd
  have tb' := tb_bd
  have cg := co_ge (q := γ) (d := 1) (by grind) (by grind) (by grind) (by grind) (by grind)
  have s := si_half R0 (show R ≤ 5400000 by grind)
  have key : ∀ z : Rat, 0 ≤ z → z ≤ 5400000 → R + 1 ≤ 5400000 - z → si R ≤ co z := fun z z0 z1 hz => by
    have g := grow (p := R) (q := 5400000 - z) (by grind) (by grind) (by grind)
    have c := (coq z).1
    have m := Rat.mul_nonneg (show 0 ≤ 5400000 - z - R - 1 by grind) (show 0 ≤ 5400000 - z - R + 1 by grind)
    have i : (5400000 - z - R - 1) * (5400000 - z - R + 1) = (5400000 - z - R) * (5400000 - z - R) - 1 := by grind
    rw [i] at m
    unfold Cl at c
    generalize (5400000 - z - R) * (5400000 - z - R) = x1 at *
    grind
  refine ⟨by grind, s, ?_⟩
  rcases (Rat.le_total : 0 ≤ γ ∨ γ ≤ 0) with c | c
  · exact key γ c (by grind) h1
  · have k := key (-γ) (by grind) (by grind) (by grind)
    rwa [(si_neg (q := γ) (by grind) (by grind)).2] at k
/-- How far east: the arc holds it. -/
theorem ex_hold {a b q : Int} (ha : latB a b = true) (q0 : 0 ≤ q) (n1 : -5400000 < a - q) (n2 : b + q < 5400000) (okQ : (exQ a b q).2.2 = 0) :
    LatR (exW a b q) ∧ ∃ X θ : Rat, X * co (a : Rat) = si (q : Rat) ∧ 0 ≤ X ∧ -5400000 ≤ θ ∧ θ ≤ 5400000 ∧ Cl (4 * e0) (si θ) X ∧ Hs (pw 275) (exW a b q).1 (exW a b q).2.1 θ := by
  obtain ⟨w1, w2, w3, w4, w5, w6, w7, w8, w9, w10, w11, w12, w13, w14, w15, w16⟩ := lvD
  have eb := e0_bd
  have lb := lat_bd ha
  have Q0 := le_c q0
  rw [show ((0 : Int) : Rat) = 0 by rfl] at Q0
  have g1 := le_c (show a + q + 1 ≤ 5400000 by omega)
  have g2 := le_c (show q + 1 ≤ 5400000 + a by omega)
  rw [Rat.intCast_add, Rat.intCast_add, show ((1 : Int) : Rat) = 1 by rfl, show ((5400000 : Int) : Rat) = 5400000 by rfl] at g1
  rw [Rat.intCast_add, Rat.intCast_add, show ((1 : Int) : Rat) = 1 by rfl, show ((5400000 : Int) : Rat) = 5400000 by rfl] at g2
  obtain ⟨c0, s0, sc⟩ := tan_one (γ := (a : Rat)) (R := (q : Rat)) Q0 (by grind) (by grind)
  obtain ⟨i, hi⟩ : ∃ i : Rat, i * co (a : Rat) = 1 := ⟨(co (a : Rat))⁻¹, Rat.inv_mul_cancel _ (by grind)⟩
  have i0 : 0 ≤ i := by
    rcases (Rat.le_total : 0 ≤ i ∨ i ≤ 0) with h | h
    · exact h
    · have := Rat.mul_nonneg (show 0 ≤ -i by grind) (show 0 ≤ co (a : Rat) by grind)
      grind
  have hX : si (q : Rat) * i * co (a : Rat) = si (q : Rat) := by
    rw [show si (q : Rat) * i * co (a : Rat) = si (q : Rat) * (i * co (a : Rat)) by grind, hi]
    grind
  have X0 : 0 ≤ si (q : Rat) * i := Rat.mul_nonneg s0 i0
  have X1 : si (q : Rat) * i ≤ 1 := by
    have := Rat.mul_nonneg i0 (show 0 ≤ co (a : Rat) - si (q : Rat) by grind)
    have e : i * (co (a : Rat) - si (q : Rat)) = i * co (a : Rat) - si (q : Rat) * i := by grind
    rw [e, hi] at this
    grind
  generalize si (q : Rat) * i = X at *
  obtain ⟨θ, t0, t1, tc⟩ := inv (y := X) (by grind) X1
  have vq : avalidB q q = true := avalid_mk (by omega) (Int.le_refl q) (by omega)
  have N := sin_at vq (Hs.at (Int.le_refl q) (Int.le_refl q))
  have D := cos_at lb.1 (Hs.at (Int.le_refl a) (show a ≤ b by omega))
  have d0 : 1 ≤ (cosR a b).1 := by
    have k := D.2.2
    unfold Hs at k
    have hp : 0 < (cosR a b).2.1 := by
      rcases Int.lt_or_le 0 (cosR a b).2.1 with h | h
      · exact h
      · have := le_c h
        rw [show ((0 : Int) : Rat) = 0 by rfl] at this
        grind
    rcases Int.lt_or_le 0 (cosR a b).1 with h | h
    · exact h
    · exfalso
      unfold exQ divR at okQ
      rw [if_pos (both_mk N.2.1 D.2.1), if_pos (by simp [zeroB]; omega)] at okQ
      cases okQ
  have V := div_v (n := sinR q q) (d := cosR a b) (δ := co (a : Rat)) (X := X) (e := 5 * e1) (by rw [show co (a : Rat) * X = X * co (a : Rat) by grind, hX]; exact N) D d0 (by grind) (by grind) (by grind) okQ
  have A := asin_v V tc t0 t1 (by grind) (by grind) (by grind) (by grind) w1
  exact ⟨A.1, X, θ, hX, X0, t0, t1, tc, A.2⟩
/-- The point is at most so far east or west. -/
theorem ex_lon {a b q : Int} {φ t ε f d : Rat} (ha : latB a b = true) (q0 : 0 ≤ q) (n1 : -5400000 < a - q) (n2 : b + q < 5400000) (okQ : (exQ a b q).2.2 = 0) (f0 : -5400000 ≤ φ) (f1 : φ ≤ 5400000) (t0 : -10800000 ≤ t) (t1 : t ≤ 10800000) (ε0 : 0 ≤ ε) (hε : ε ≤ 1 / 2 ^ 60) (h : co (q : Rat) - ε ≤ upT φ (a : Rat) t) (ff : 0 ≤ f) (hf : 2 ^ 46 * (3 * ε + 4 * e0) ≤ f * f) (d0 : 0 ≤ d) (hd : 100000000000000 * (f + 20 * e0) ≤ d * d) :
    t ≤ ((exW a b q).2.1 : Rat) + d + pw 275 ∧ -t ≤ ((exW a b q).2.1 : Rat) + d + pw 275 := by
  have lb := lat_bd ha
  have Q0 := le_c q0
  rw [show ((0 : Int) : Rat) = 0 by rfl] at Q0
  have g1 := le_c (show a + q + 1 ≤ 5400000 by omega)
  have g2 := le_c (show q + 1 ≤ 5400000 + a by omega)
  rw [Rat.intCast_add, Rat.intCast_add, show ((1 : Int) : Rat) = 1 by rfl, show ((5400000 : Int) : Rat) = 5400000 by rfl] at g1
  rw [Rat.intCast_add, Rat.intCast_add, show ((1 : Int) : Rat) = 1 by rfl, show ((5400000 : Int) : Rat) = 5400000 by rfl] at g2
  obtain ⟨_, X, θ, hX, X0, q1, q2, hθ, hW⟩ := ex_hold ha q0 n1 n2 okQ
  have L := lon_near f0 f1 t0 t1 Q0 (by grind) (by grind) ε0 hε h hX X0 ff hf q1 q2 hθ d0 hd
  unfold Hs at hW
  constructor <;> grind
end Go.Proofs.YtfilgpifiboccaaGreat

/-
  Two points seen from a third: the cosine formula of the triangle; and the way back. No program here. The point at a bearing, when distance and bearing are held but for a little. No program here. Two circles through a point: one of the crossings holds the point. No program here. The longitudes of a circle's point and of its bounds have a direction in common (row 52). No program here.
-/
import Derived.Test.YtfilgpifiboccaaGreatHd
import Derived.Test.YtfilgpifiboccaaGreatCd
import Derived.Test.YtfilgpifiboccaaGreatXa
import Derived.Test.YtfilgpifiboccaaGreatCl
namespace Go.Proofs.YtfilgpifiboccaaGreat
open SM TB TA
end Go.Proofs.YtfilgpifiboccaaGreat
namespace Go.Proofs.YtfilgpifiboccaaGreat
open SM TB TA
theorem back_t {x y t h z : Rat} (s : Sees x y t h z) : Cl (50 * eT) (si y) (si h * si x + co h * co z * co x) ∧ Cl (50 * eT) (co y * co t) (si h * co x - co h * co z * si x) ∧ Cl (50 * eT) (co y * si t) (-(co h * si z)) := by
  obtain ⟨h0, h1, z0, z1, k1, k2, k3⟩ := s
  have w : 5 * e0 ≤ eT ∧ 16384 * u0 ≤ eT := by decide +kernel
  have eb := e0_bd
  have t0 := lv.2.1
  have un := unit x
  have bx := bdq2 x
  have bys := bdq2 y
  have bt := bdq2 t
  have aux : ∀ {p r X : Rat} {e : Rat}, 0 ≤ e → Cl e p r → -2 ≤ X ∧ X ≤ 2 → Cl (2 * e) (p * X) (r * X) := fun {p r X e} he hc hX => by
    have m := mul_abs (a := p - r) (b := X) (A := e) (B := 2) hc.1 hc.2 hX.1 hX.2
    unfold Cl
    rw [show p * X - r * X = (p - r) * X by grind]
    generalize (p - r) * X = v at *
    constructor <;> grind
  have a1 := aux (by grind) k1 bx.2
  have a2 := aux (by grind) k2 bx.1
  have a3 := aux (by grind) k1 bx.1
  have a4 := aux (by grind) k2 bx.2
  have a5 := aux (e := 8192 * u0) (by have := u0_bd; grind) un bys.2
  have b5 := mul_abs bys.1.1 bys.1.2 bt.1.1 bt.1.2
  have a6 := aux (X := co y * co t / 2) (e := 8192 * u0) (by have := u0_bd; grind) un (by constructor <;> grind)
  clear aux
  refine ⟨?_, ?_, ?_⟩
  · have e : upT x y t * si x + noT x y t * co x = (co x * co x + si x * si x) * si y := by unfold upT noT; grind
    unfold Cl at *
    generalize upT x y t * si x = v1 at *
    generalize noT x y t * co x = v2 at *
    generalize (co x * co x + si x * si x) * si y = v3 at *
    generalize si h * si x = v4 at *
    generalize co h * co z * co x = v5 at *
    constructor <;> grind
  · have e : upT x y t * co x - noT x y t * si x = (co x * co x + si x * si x) * (co y * co t / 2) * 2 := by unfold upT noT; grind
    unfold Cl at *
    generalize upT x y t * co x = v1 at *
    generalize noT x y t * si x = v2 at *
    generalize (co x * co x + si x * si x) * (co y * co t / 2) = v3 at *
    generalize si h * co x = v4 at *
    generalize co h * co z * si x = v5 at *
    generalize co y * co t = v6 at *
    constructor <;> grind
  · have n := k3.neg.symm
    unfold eaT at n
    rw [show - -(co y * si t) = co y * si t by grind] at n
    exact n.wide (by grind)
end Go.Proofs.YtfilgpifiboccaaGreat
namespace Go.Proofs.YtfilgpifiboccaaGreat
open SM TB TA
theorem fold_any (w : Rat) : ∃ (X : Rat) (m : Int), 0 ≤ X ∧ X ≤ 10800000 ∧ Cl (3000 * u0) (co X) (co w) ∧ (X = w + 21600000 * (m : Rat) ∨ -X = w + 21600000 * (m : Rat)) := by
  have b := rdq_bd w
  have ub := u0_bd
  have e : rdq w = w + 21600000 * ((-(tm w) : Int) : Rat) := by
    unfold rdq
    rw [Rat.intCast_neg]
    grind
  have c := (turn_eq w (-(tm w))).1
  rw [← e] at c
  rcases (Rat.le_total : 0 ≤ rdq w ∨ rdq w ≤ 0) with g | g
  · exact ⟨rdq w, -(tm w), g, by grind, by rw [c]; exact Cl.refl _ (by grind), .inl e⟩
  · have n := (negq (rdq w)).1
    rw [c] at n
    exact ⟨-rdq w, -(tm w), by grind, by grind, n.wide (by grind), .inr (by rw [← e]; grind)⟩
end Go.Proofs.YtfilgpifiboccaaGreat
namespace Go.Proofs.YtfilgpifiboccaaGreat
open SM TB TA
open Ev (lt keepE)
theorem lvO : 5 * e0 ≤ eT ∧ 16384 * u0 ≤ eT ∧ 0 ≤ 60 * eT ∧ 60 * eT ≤ 1 / 2 ^ 60 ∧ 0 ≤ pw 268 ∧ 2 ^ 46 * (3 * (60 * eT) + 4 * e0) ≤ pw 268 * pw 268 ∧ 0 ≤ pw 108 ∧ 100000000000000 * (pw 268 + 20 * e0) ≤ pw 108 * pw 108 ∧ pw 108 + pw 275 + dS ≤ 1 / 4 := by decide +kernel
theorem on_lon {a b e f p q : Int} (la : latB a b = true) (p0 : 0 ≤ e) (ef : e ≤ f) (vu : avalidB p q = true) (n1 : -5400000 < a - f) (n2 : b + f < 5400000) (okQ : (exQ a b f).2.2 = 0) :
    0 ≤ (exW a b f).2.1 ∧ ∃ m : Int, (atB a b e f p q).1 + 21600000 * m ≤ (exW a b f).2.1 ∧ -(exW a b f).2.1 ≤ (atB a b e f p q).2.1 + 21600000 * m := by
  obtain ⟨w1, w2, w3, w4, w5, w6, w7, w8, w9⟩ := lvO
  have lb := lat_bd la
  have vr : avalidB e f = true := avalid_mk (by omega) ef (by omega)
  have bp := aval_bd vu
  have V := at_v lb.1 vr vu (Hs.at (Int.le_refl a) lb.2.2.1) (Hs.at (Int.le_refl e) ef) (Hs.at (Int.le_refl p) bp.2.1)
  obtain ⟨h, z, s⟩ := sees (a : Rat) (5400000 - (e : Rat)) (-(p : Rat))
  have kz := (az_v V.2.1 V.2.2 s).2
  have eB : bearR (atE e f p q).1 (atE e f p q).2.1 (atN a b e f p q).1 (atN a b e f p q).2.1 = atB a b e f p q := rfl
  rw [eB] at kz
  obtain ⟨k, kz⟩ := kz
  have bt := (back_t s).1
  obtain ⟨X, m, X0, X1, Xc, Xe⟩ := fold_any z
  have P0 := le_c p0
  have P1 := le_c ef
  have P2 := le_c (show f ≤ 10800000 by omega)
  rw [show ((0 : Int) : Rat) = 0 by rfl] at P0
  rw [show ((10800000 : Int) : Rat) = 10800000 by rfl] at P2
  have up : co (f : Rat) - 60 * eT ≤ upT h (a : Rat) X := by
    have g := grow (p := 5400000 - (f : Rat)) (q := 5400000 - (e : Rat)) (by grind) (by grind) (by grind)
    have sq := sq_nn (5400000 - (e : Rat) - (5400000 - (f : Rat)))
    have cq := (coq (f : Rat)).1
    have bh := bdq2 h
    have ba := bdq2 (a : Rat)
    have m1 := mul_abs (a := co h) (b := co (a : Rat)) (A := 2) (B := 2) (by grind) (by grind) (by grind) (by grind)
    have m2 := mul_abs (a := co h * co (a : Rat)) (b := co X - co z) (A := 2 * 2) (B := 3000 * u0) m1.1 m1.2 Xc.1 Xc.2
    rw [show co h * co (a : Rat) * (co X - co z) = co h * co (a : Rat) * co X - co h * co z * co (a : Rat) by grind] at m2
    unfold upT
    unfold Cl at bt cq
    generalize co h * co (a : Rat) * co X = v1 at *
    generalize co h * co z * co (a : Rat) = v2 at *
    generalize si h * si (a : Rat) = v3 at *
    generalize (5400000 - (e : Rat) - (5400000 - (f : Rat))) * (5400000 - (e : Rat) - (5400000 - (f : Rat))) = v4 at *
    clear kz Xe V m1 bh ba Xc
    grind
  have L := (ex_lon (φ := h) (t := X) (ε := 60 * eT) (f := pw 268) (d := pw 108) la (by omega) n1 n2 okQ s.1 s.2.1 (by grind) X1 w3 w4 up w5 w6 w7 w8).1
  have kk : -(((exW a b f).2.1 : Rat) + pw 108 + pw 275) ≤ z + 21600000 * (m : Rat) ∧ z + 21600000 * (m : Rat) ≤ ((exW a b f).2.1 : Rat) + pw 108 + pw 275 := by
    rcases Xe with Xe | Xe <;> constructor <;> grind
  unfold Hs at kz
  have dp := lv.2.2.1
  have l0 : (0 : Rat) ≤ ((exW a b f).2.1 : Rat) + 1 / 2 := by
    clear kz kk Xe Xc bt V s
    grind
  refine ⟨of_c (e := 1 / 2) (by rw [show ((0 : Int) : Rat) = 0 by rfl]; exact l0) (by grind), m - k, of_c (e := 1 / 2) ?_ (by grind), of_c (e := 1 / 2) ?_ (by grind)⟩
  · rw [Rat.intCast_add, Rat.intCast_mul, Rat.intCast_sub, show ((21600000 : Int) : Rat) = 21600000 by rfl]
    grind
  · rw [Rat.intCast_add, Rat.intCast_mul, Rat.intCast_sub, Rat.intCast_neg, show ((21600000 : Int) : Rat) = 21600000 by rfl]
    grind
/-- One of the two tries of the common part finds something: arcs u and v (v behind u by s, up to turns). -/
theorem com_some {u1 u2 v1 v2 a0 b0 m i j : Int} (h1 : u1 + 21600000 * m ≤ v2) (h2 : v1 ≤ u2 + 21600000 * m) (ha : a0 = u1 + 21600000 * i) (hb : b0 = v1 + 21600000 * j) :
    (b0 - a0) % 21600000 ≤ u2 - u1 ∨ 0 ≤ (b0 - a0) % 21600000 - 21600000 + (v2 - v1) := by
  have m0 := Int.emod_nonneg (b0 - a0) (show (21600000 : Int) ≠ 0 by omega)
  have m1 := Int.emod_lt_of_pos (b0 - a0) (show (0 : Int) < 21600000 by omega)
  have e := Int.mul_ediv_add_emod (b0 - a0) 21600000
  generalize (b0 - a0) % 21600000 = r at *
  generalize (b0 - a0) / 21600000 = n at *
  subst ha hb
  rcases Int.lt_or_le (n + i - j - m) 0 with g | g
  · right; omega
  · left; omega
/-- **The common part of the longitudes is not empty.** -/
theorem on_com {a b c d e f p q L R : Int} (la : latB a b = true) (kc : LonP c d) (p0 : 0 ≤ e) (ef : e ≤ f) (vu : avalidB p q = true)
    (hk : (wideB a b f ∧ L = -10800000 ∧ R = 10800000) ∨ (¬ wideB a b f ∧ L = lonL (c - (exW a b f).2.1) (d + (exW a b f).2.1) ∧ R = lonH (c - (exW a b f).2.1) (d + (exW a b f).2.1))) (f1 : f ≤ 10800000) :
    (lonL (c + (atB a b e f p q).1) (d + (atB a b e f p q).2.1) = -10800000 ∧ lonH (c + (atB a b e f p q).1) (d + (atB a b e f p q).2.1) = 10800000) ∨ (L = -10800000 ∧ R = 10800000) ∨
    (L - lonL (c + (atB a b e f p q).1) (d + (atB a b e f p q).2.1)) % 21600000 ≤ lonH (c + (atB a b e f p q).1) (d + (atB a b e f p q).2.1) - lonL (c + (atB a b e f p q).1) (d + (atB a b e f p q).2.1) ∨
    0 ≤ (L - lonL (c + (atB a b e f p q).1) (d + (atB a b e f p q).2.1)) % 21600000 - 21600000 + (R - L) := by
  have bc := lonP_bd kc
  have vr : avalidB e f = true := avalid_mk (by omega) ef (by omega)
  obtain ⟨_, B1, B2, _⟩ := at_one la vr vu
  rcases hk with ⟨_, hL, hR⟩ | ⟨hw, hL, hR⟩
  · exact .inr (.inl ⟨hL, hR⟩)
  unfold wideB at hw
  obtain ⟨g3, m, h1, h2⟩ := on_lon la p0 ef vu (by omega) (by omega) (by omega)
  generalize (exW a b f).2.1 = w at *
  generalize atB a b e f p q = B at *
  by_cases g1 : d + B.2.1 - (c + B.1) < 21600000
  · by_cases g2 : d + w - (c - w) < 21600000
    · obtain ⟨i, i1, i2⟩ := lon_rep g1
      obtain ⟨j, j1, j2⟩ := lon_rep g2
      have C := com_some (u1 := c + B.1) (u2 := d + B.2.1) (v1 := c - w) (v2 := d + w) (m := m) (by omega) (by omega) i1 j1
      rw [hL, hR]
      rcases C with C | C
      · exact .inr (.inr (.inl (by omega)))
      · exact .inr (.inr (.inr (by omega)))
    · exact .inr (.inl (by rw [hL, hR]; unfold lonL lonH; rw [if_pos (by omega), if_pos (by omega)]; exact ⟨rfl, rfl⟩))
  · exact .inl (by unfold lonL lonH; rw [if_pos (by omega), if_pos (by omega)]; exact ⟨rfl, rfl⟩)
end Go.Proofs.YtfilgpifiboccaaGreat

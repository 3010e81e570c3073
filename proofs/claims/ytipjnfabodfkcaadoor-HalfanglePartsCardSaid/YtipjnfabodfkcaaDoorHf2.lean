/-
  Half-angles: the altitude's and the azimuth's arcs hold the truth. No program here.
-/
import Derived.Test.YtipjnfabodfkcaaDoorHf1
namespace Go.Proofs.YtipjnfabodfkcaaDoor
open SM TB TA
/-! ### What is computed -/
def fU (a b c d : Int) : Int × Int := ((10800000 - b - d) / 2, -(-(10800000 - a - c) / 2))
def fV (a b c d : Int) : Int × Int := ((a - d) / 2, -(-(b - c) / 2))
def fW (e f : Int) : Int × Int := (turnL e f / 2, -(-turnH e f / 2))
def mulT (r s : Int × Int × Int) : Int × Int × Int := mulR r.1 r.2.1 s.1 s.2.1
def hfP (a b c d e f : Int) : Int × Int × Int := mulT (cosR (fU a b c d).1 (fU a b c d).2) (sinR (fW e f).1 (fW e f).2)
def hfQ (a b c d e f : Int) : Int × Int × Int := mulT (cosR (fV a b c d).1 (fV a b c d).2) (cosR (fW e f).1 (fW e f).2)
def hfR (a b c d e f : Int) : Int × Int × Int := mulT (sinR (fU a b c d).1 (fU a b c d).2) (sinR (fW e f).1 (fW e f).2)
def hfS (a b c d e f : Int) : Int × Int × Int := mulT (sinR (fV a b c d).1 (fV a b c d).2) (cosR (fW e f).1 (fW e f).2)
/-- The length of two numbers. -/
def sumT (r s : Int × Int × Int) : Int × Int × Int := addR (sqrR r.1 r.2.1).1 (sqrR r.1 r.2.1).2.1 (sqrR s.1 s.2.1).1 (sqrR s.1 s.2.1).2.1
def lenT (r s : Int × Int × Int) : Int × Int × Int := sqtR (sumT r s).1 (sumT r s).2.1
def hfY (a b c d e f : Int) : Int × Int × Int := lenT (hfR a b c d e f) (hfS a b c d e f)
def hfX (a b c d e f : Int) : Int × Int × Int := lenT (hfP a b c d e f) (hfQ a b c d e f)
def beaT (r s : Int × Int × Int) : Int × Int × Int := bearR r.1 r.2.1 s.1 s.2.1
/-- All directions. -/
def fullB (r : Int × Int × Int) : Bool := decide (21600000 ≤ r.2.1 - r.1)
def hfB (a b c d e f : Int) : Int × Int × Int := beaT (hfY a b c d e f) (hfX a b c d e f)
def hfH (a b c d e f : Int) : Int × Int × Int := (5400000 - 2 * (hfB a b c d e f).2.1, 5400000 - 2 * (hfB a b c d e f).1, 0)
def hfA (a b c d e f : Int) : Int × Int × Int := beaT (hfQ a b c d e f) (hfP a b c d e f)
def hfC (a b c d e f : Int) : Int × Int × Int := beaT (hfS a b c d e f) (hfR a b c d e f)
/-- The direction form of the opposite of two directions' sum. -/
def oppS (r s : Int × Int × Int) : Int × Int × Int := if fullB r || fullB s then (0, 21600000, 0) else (turnL (-(r.2.1 + s.2.1)) (-(r.1 + s.1)), turnH (-(r.2.1 + s.2.1)) (-(r.1 + s.1)), 0)
def hfZ (a b c d e f : Int) : Int × Int × Int := oppS (hfA a b c d e f) (hfC a b c d e f)
/-! ### Angles -/
theorem turn_in {e f : Int} {t : Rat} (_h : avalidB e f = true) (ht : Hs 0 e f t) : ∃ m : Int, Hs 0 (turnL e f) (turnH e f) (t + 21600000 * (m : Rat)) := by
  unfold turnL turnH
  by_cases c : 21600000 ≤ f - e
  · rw [if_pos c, if_pos c]
    exact Dr.all (by grind) t
  · rw [if_neg c, if_neg c]
    refine ⟨-(e / 21600000), ?_⟩
    have q : e % 21600000 = e + 21600000 * -(e / 21600000) := by omega
    rw [q]
    unfold Hs at *
    rw [Rat.intCast_add, Rat.intCast_add, Rat.intCast_add, Rat.intCast_mul, Rat.intCast_sub, show ((21600000 : Int) : Rat) = 21600000 by rfl]
    generalize ((-(e / 21600000) : Int) : Rat) = k at *
    constructor <;> grind
theorem ang_bd {a b c d e f : Int} (h : triB a b c d e f = true) : avalidB (fU a b c d).1 (fU a b c d).2 = true ∧ avalidB (fV a b c d).1 (fV a b c d).2 = true ∧ avalidB (fW e f).1 (fW e f).2 = true := by
  obtain ⟨h1, h2, h3⟩ := tri_bd h
  have l1 := lat_bd h1
  have l2 := lat_bd h2
  have l3 := aval_bd h3
  have m0 := Int.emod_nonneg e (show (21600000 : Int) ≠ 0 by omega)
  have m1 := Int.emod_lt_of_pos e (show (0 : Int) < 21600000 by omega)
  refine ⟨?_, ?_, ?_⟩
  · unfold fU
    exact avalid_mk (by dsimp only; omega) (by dsimp only; omega) (by dsimp only; omega)
  · unfold fV
    exact avalid_mk (by dsimp only; omega) (by dsimp only; omega) (by dsimp only; omega)
  · unfold fW turnL turnH
    split
    · exact avalid_mk (by dsimp only; omega) (by dsimp only; omega) (by dsimp only; omega)
    · exact avalid_mk (by dsimp only; omega) (by dsimp only; omega) (by dsimp only; omega)
/-- The three half-angles. -/
theorem ang_v {a b c d e f : Int} {x y t : Rat} (h : triB a b c d e f = true) (hx : Hs 0 a b x) (hy : Hs 0 c d y) (ht : Hs 0 e f t) :
    ∃ u v w : Rat, u + u = 10800000 - (x + y) ∧ v + v = x - y ∧ (co (w + w) = co t ∧ si (w + w) = si t) ∧ u + v = 5400000 - y ∧ Hs 0 (fU a b c d).1 (fU a b c d).2 u ∧ Hs 0 (fV a b c d).1 (fV a b c d).2 v ∧ Hs 0 (fW e f).1 (fW e f).2 w := by
  obtain ⟨h1, h2, h3⟩ := tri_bd h
  obtain ⟨m, hm⟩ := turn_in h3 ht
  refine ⟨(10800000 - (x + y)) / 2, (x - y) / 2, (t + 21600000 * (m : Rat)) / 2, by grind, by grind, ?_, by grind, ?_, ?_, ?_⟩
  · rw [show (t + 21600000 * (m : Rat)) / 2 + (t + 21600000 * (m : Rat)) / 2 = t + 21600000 * (m : Rat) by grind]
    exact turn_eq t m
  · refine half_v (by grind) ?_
    rw [show 2 * ((10800000 - (x + y)) / 2) = 10800000 - (x + y) by grind]
    unfold Hs at *
    rw [Rat.intCast_sub, Rat.intCast_sub, Rat.intCast_sub, Rat.intCast_sub, show ((10800000 : Int) : Rat) = 10800000 by rfl]
    constructor <;> grind
  · refine half_v (by grind) ?_
    rw [show 2 * ((x - y) / 2) = x - y by grind]
    unfold Hs at *
    rw [Rat.intCast_sub, Rat.intCast_sub]
    constructor <;> grind
  · refine half_v (by grind) ?_
    rw [show 2 * ((t + 21600000 * (m : Rat)) / 2) = t + 21600000 * (m : Rat) by grind]
    exact hm
theorem one4 {a b c d e f : Int} (h : triB a b c d e f = true) : OneR (hfP a b c d e f) ∧ OneR (hfQ a b c d e f) ∧ OneR (hfR a b c d e f) ∧ OneR (hfS a b c d e f) := by
  obtain ⟨u, v, w⟩ := ang_bd h
  exact ⟨mul_ones (cos_one u) (sin_one w), mul_ones (cos_one v) (cos_one w), mul_ones (sin_one u) (sin_one w), mul_ones (sin_one v) (cos_one w)⟩
/-- The four products. -/
theorem four_v {a b c d e f : Int} {u v w : Rat} (h : triB a b c d e f = true) (hu : Hs 0 (fU a b c d).1 (fU a b c d).2 u) (hv : Hs 0 (fV a b c d).1 (fV a b c d).2 v) (hw : Hs 0 (fW e f).1 (fW e f).2 w) :
    Vl (hfP a b c d e f) (15 * e1) (co u * si w) ∧ Vl (hfQ a b c d e f) (15 * e1) (co v * co w) ∧ Vl (hfR a b c d e f) (15 * e1) (si u * si w) ∧ Vl (hfS a b c d e f) (15 * e1) (si v * co w) := by
  obtain ⟨vu, vv, vw⟩ := ang_bd h
  have e1b := e1_bd
  have q : 5 * e1 ≤ 1 / 4 := by grind
  have q0 : 0 ≤ 5 * e1 := by grind
  have su := sin_at vu hu
  have cu := cos_at vu hu
  have sv := sin_at vv hv
  have cv := cos_at vv hv
  have sw := sin_at vw hw
  have cw := cos_at vw hw
  refine ⟨?_, ?_, ?_, ?_⟩
  · exact (mul_v (cos_one vu) (sin_one vw) q0 q cu sw).wide (by grind)
  · exact (mul_v (cos_one vv) (cos_one vw) q0 q cv cw).wide (by grind)
  · exact (mul_v (sin_one vu) (sin_one vw) q0 q su sw).wide (by grind)
  · exact (mul_v (sin_one vv) (cos_one vw) q0 q sv cw).wide (by grind)
/-! ### Lengths -/
def sF : Rat := pw 570
def tF : Rat := pw 1140
theorem lvF : 1073741824 * (90 * e1 + 1073741824 * (18 * e0)) ≤ tF ∧ 0 ≤ tF ∧ tF ≤ sF * sF ∧ 0 ≤ sF ∧ tF ≤ sF ∧ sF + 1073741824 * eT ≤ 1 / 2 ^ 91 ∧ 2 ^ 64 * (sF + 1073741824 * eT + 2 * e1) ≤ dS / 4 ∧ 15 * e1 + 1073741824 * (2 * eT) ≤ 1 / 2 ^ 91 ∧ 2 ^ 64 * (15 * e1 + 1073741824 * (2 * eT) + 2 * e1) ≤ dS / 8 ∧ 5 * e0 ≤ eT ∧ 15 * e1 ≤ 1 / 4 ∧ dS ≤ 1 / 8 ∧ 2 ^ 64 * eT ≤ 1 / 2 ^ 100 ∧ 0 < eT ∧ 16000000 * (2 ^ 50 * eT + e0) ≤ dS / 8 ∧ 2 ^ 50 * eT ≤ 1 / 2 ^ 40 := by decide +kernel
theorem len_ok {r s : Int × Int × Int} (h : OneR r) (k : OneR s) : sumT r s = ((sqrR r.1 r.2.1).1 + (sqrR s.1 s.2.1).1, (sqrR r.1 r.2.1).2.1 + (sqrR s.1 s.2.1).2.1, 0) ∧ 0 ≤ (sumT r s).1 ∧ validB (sumT r s).1 (sumT r s).2.1 = true ∧ (lenT r s).2.2 = 0 ∧ 0 ≤ (lenT r s).1 ∧ validB (lenT r s).1 (lenT r s).2.1 = true := by
  obtain ⟨_, p2, p3⟩ := sqr_ones h
  obtain ⟨_, q2, q3⟩ := sqr_ones k
  have a := add_ones p2 q2
  have e : sumT r s = ((sqrR r.1 r.2.1).1 + (sqrR s.1 s.2.1).1, (sqrR r.1 r.2.1).2.1 + (sqrR s.1 s.2.1).2.1, 0) := a.1
  have v : validB (sumT r s).1 (sumT r s).2.1 = true := by
    rw [e]
    exact a.2
  have z : 0 ≤ (sumT r s).1 := by
    rw [e]
    dsimp only
    omega
  have b := val_bd v
  have q := sqt_ok z b.2.1 b.2.2
  have e2 : lenT r s = (irt ((sumT r s).1 * 1073741824), iru ((sumT r s).2.1 * 1073741824), 0) := q.1
  refine ⟨e, z, v, ?_, ?_, ?_⟩
  · rw [e2]
  · rw [e2]
    exact q.2.1
  · rw [e2]
    exact val_mk (by dsimp only; omega) q.2.2.1 q.2.2.2
theorem len_v {r s : Int × Int × Int} {X Y ρ : Rat} (h : OneR r) (k : OneR s) (h' : Vl r (15 * e1) X) (k' : Vl s (15 * e1) Y) (hr : 0 ≤ ρ) (hu : Cl (18 * e0) (ρ * ρ) (X * X + Y * Y)) : Vl (lenT r s) sF ρ := by
  obtain ⟨w1, w2, w3, w4, w5, _, _, _, _, _, w11, _⟩ := lvF
  have e1b := e1_bd
  have a := sqr_v h (by grind) w11 h'
  have b := sqr_v k (by grind) w11 k'
  obtain ⟨_, p2, p3⟩ := sqr_ones h
  obtain ⟨_, q2, q3⟩ := sqr_ones k
  have s' := add_v p2 q2 a b
  have l := len_ok h k
  have n : Vl (sumT r s) (90 * e1 + 1073741824 * (18 * e0)) (ρ * ρ) := Vl.near (Vl.wide s' (by grind)) hu
  exact sqt_v l.2.1 n hr w1 w2 w3 w4 w5
/-- A cosine of the first quadrant, or nothing. -/
theorem co_nn {κ : Rat} (h0 : 0 ≤ κ) (h1 : κ ≤ 5400000) : ∃ r : Rat, 0 ≤ r ∧ r ≤ 2 ∧ Cl e0 r (co κ) ∧ Cl (2 * e0) (r * r) (co κ * co κ) := by
  have cl := co_lat (show -5400000 ≤ κ by grind) h1
  have eb := e0_bd
  rcases (Rat.le_total : 0 ≤ co κ ∨ co κ ≤ 0) with c | c
  · exact ⟨co κ, c, cl.2, Cl.refl _ (by grind), Cl.refl _ (by grind)⟩
  · refine ⟨0, by grind, by grind, ?_, ?_⟩
    · unfold Cl; constructor <;> grind
    · have m := mul_abs (a := co κ) (b := co κ) (A := e0) (B := 1) (by grind) (by grind) (by grind) (by grind)
      unfold Cl
      constructor <;> grind
theorem val4 {a b c d e f : Int} (h : triB a b c d e f = true) : validB (hfY a b c d e f).1 (hfY a b c d e f).2.1 = true ∧ validB (hfX a b c d e f).1 (hfX a b c d e f).2.1 = true ∧ 0 ≤ (hfY a b c d e f).1 ∧ 0 ≤ (hfX a b c d e f).1 := by
  obtain ⟨p, q, r, s⟩ := one4 h
  have a := len_ok r s
  have b := len_ok p q
  exact ⟨a.2.2.2.2.2, b.2.2.2.2.2, a.2.2.2.2.1, b.2.2.2.2.1⟩
/-- The altitude. -/
theorem hf_up {a b c d e f : Int} {x y t h' z' : Rat} (h : triB a b c d e f = true) (ho : originB (hfY a b c d e f).1 (hfY a b c d e f).2.1 (hfX a b c d e f).1 (hfX a b c d e f).2.1 = false) (hx : Hs 0 a b x) (hy : Hs 0 c d y) (ht : Hs 0 e f t) (s : Sees x y t h' z') :
    Hs dS (hfH a b c d e f).1 (hfH a b c d e f).2.1 h' := by
  obtain ⟨u, v, w, gu, gv, gw, guv, hu, hv, hw⟩ := ang_v h hx hy ht
  obtain ⟨h0, h1, _, _, k1, _, _⟩ := s
  obtain ⟨G1, G2, _, _, _⟩ := gauss (κ := (5400000 - h') / 2) gu gv gw guv (by grind) k1
  obtain ⟨p, q, r, s⟩ := one4 h
  obtain ⟨P, Q, R, S⟩ := four_v h hu hv hw
  obtain ⟨w1, w2, w3, w4, w5, w6, w7, w8, w9, w10, w11, w12, _⟩ := lvF
  have eb := e0_bd
  have κ0 : 0 ≤ (5400000 - h') / 2 := by grind
  have κ1 : (5400000 - h') / 2 ≤ 5400000 := by grind
  have hh : h' = 5400000 - 2 * ((5400000 - h') / 2) := by grind
  generalize (5400000 - h') / 2 = κ at *
  obtain ⟨ρ, r0, r1, rc, rr⟩ := co_nn κ0 κ1
  have Y := len_v r s R S (si_half κ0 κ1) (G1.symm.wide (by grind))
  have X := len_v p q P Q r0 (ρ := ρ) ((Cl.trans rr G2.symm).wide (by grind))
  have V := val4 h
  have B := bear_v (q := κ) (ρ := 1) (e := sF) (t := eT) Y X (by rw [show 1 * si κ = si κ by grind]; exact Cl.refl _ (by grind)) (by rw [show 1 * co κ = co κ by grind]; exact rc.symm.wide (by grind)) (by grind) (by grind) w4 (by grind) w6
  have F := bear_first V.1 V.2.1 V.2.2.1 V.2.2.2 ho
  obtain ⟨_, m, B⟩ := B
  have fb : hfB a b c d e f = bearR (hfY a b c d e f).1 (hfY a b c d e f).2.1 (hfX a b c d e f).1 (hfX a b c d e f).2.1 := rfl
  have B' : Hs (dS / 4) (hfB a b c d e f).1 (hfB a b c d e f).2.1 (κ + 21600000 * (m : Rat)) := B.wide w7 (Int.le_refl _) (Int.le_refl _)
  rw [← fb] at F
  unfold hfH
  dsimp only
  generalize hfB a b c d e f = T at *
  unfold Hs at B' ⊢
  have f1 : (0 : Rat) ≤ (T.1 : Rat) := le_c (a := 0) F.1
  have f2 : (T.2.1 : Rat) ≤ 5400000 := le_c (b := 5400000) F.2
  have hm : m = 0 := by
    rcases Int.lt_trichotomy m 0 with q | q | q
    · have := le_c (show m ≤ -1 by omega)
      rw [show ((-1 : Int) : Rat) = -1 by rfl] at this
      grind
    · exact q
    · have := le_c (show 1 ≤ m by omega)
      rw [show ((1 : Int) : Rat) = 1 by rfl] at this
      grind
  subst hm
  rw [show ((0 : Int) : Rat) = 0 by rfl] at B'
  rw [Rat.intCast_sub, Rat.intCast_sub, Rat.intCast_mul, Rat.intCast_mul, show ((5400000 : Int) : Rat) = 5400000 by rfl, show ((2 : Int) : Rat) = 2 by rfl]
  constructor <;> grind
end Go.Proofs.YtipjnfabodfkcaaDoor

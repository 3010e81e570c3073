/-
  Haversines: no error comes but that of the pole; the arcs hold the true zenith distance and azimuth. No program here.
-/
import Derived.Test.YtmididlfnajhiaaGreatDoorHd
import Derived.Test.YtmididlfnajhiaaGreatDoorFh
namespace Go.Proofs.YtmididlfnajhiaaGreatDoor
open SM TB TA
open Ev (lt keepE)
theorem bet_ok {a b c d : Int} (h1 : -100000000 ≤ a) (h2 : a ≤ b) (h3 : b ≤ 100000000) (h4 : -100000000 ≤ c) (h5 : c ≤ d) (h6 : d ≤ 100000000) :
    betV a b c d = ((havR (a - d) (b - c)).1, (havR (a - d) (b - c)).2.1) ∧ (∀ k, betC k a b c d = k) ∧ 0 ≤ (betV a b c d).1 ∧ (betV a b c d).1 ≤ (betV a b c d).2 ∧ (betV a b c d).2 ≤ 1073741824 := by
  have hv : avalidB (a - d) (b - c) = true := avalid_mk (by omega) (by omega) (by omega)
  have h := (one_bd hv).2.2
  unfold betV betC
  rw [asub_ok h1 h2 h3 h4 h5 h6]
  refine ⟨rfl, fun k => ?_, h.1, h.2.1, h.2.2.1⟩
  dsimp only
  rw [h.2.2.2]
  unfold keepE
  split <;> simp_all
theorem cosV_ok {a b c d : Int} (h1 : avalidB a b = true) (h2 : avalidB c d = true) :
    cosV a b c d = ((mulR (cosR a b).1 (cosR a b).2.1 (cosR c d).1 (cosR c d).2.1).1, (mulR (cosR a b).1 (cosR a b).2.1 (cosR c d).1 (cosR c d).2.1).2.1) ∧ (∀ k, cosC k a b c d = k) ∧
      -1073741824 ≤ (cosV a b c d).1 ∧ (cosV a b c d).1 ≤ (cosV a b c d).2 ∧ (cosV a b c d).2 ≤ 1073741824 := by
  have p := (one_bd h1).2.1
  have q := (one_bd h2).2.1
  have m := mul_one p.1 p.2.1 p.2.2.1 q.1 q.2.1 q.2.2.1
  refine ⟨rfl, fun k => ?_, m.2.1, m.2.2.1, m.2.2.2⟩
  unfold cosC
  dsimp only
  rw [p.2.2.2, q.2.2.2, m.1]
  unfold keepE
  repeat' split
  all_goals simp_all
def fin23 (r : Int × Int × Int) : Int × Int × Int := (r.1, r.2.1, if r.2.2 = 2 then 23 else r.2.2)
noncomputable def topS (n1 n2 d1 d2 : Int) : Int × Int × Int :=
  if d1 ≤ 0 ∧ 0 ≤ d2 then (0, 0, 21) else
    if (divR n1 n2 d1 d2).2.2 = 5 then fin23 (ahavR 0 1073741824) else if (divR n1 n2 d1 d2).2.2 ≠ 0 then (0, 0, (divR n1 n2 d1 d2).2.2) else fin23 (ahavR (divR n1 n2 d1 d2).1 (divR n1 n2 d1 d2).2.1)
def numN (a b c d u v : Int) : Int × Int × Int := subR (havR (5400000 - d) (5400000 - c)).1 (havR (5400000 - d) (5400000 - c)).2.1 (betV a b (5400000 - v) (5400000 - u)).1 (betV a b (5400000 - v) (5400000 - u)).2
theorem fin_cond (r : Int × Int × Int) : cond (r.2.2 == 2) (r.1, r.2.1, (23 : Int)) (r.1, r.2.1, r.2.2) = fin23 r := by
  unfold fin23
  by_cases h : r.2.2 = 2
  · have : (r.2.2 == 2) = true := beq_iff_eq.2 h
    rw [this, if_pos h]; rfl
  · have : (r.2.2 == 2) = false := beq_eq_false_iff_ne.2 h
    rw [this, if_neg h]; rfl
theorem num_ok {a b c d u v : Int} (h1 : latB a b = true) (h2 : latB c d = true) (hu : 0 ≤ u) (huv : u ≤ v) (hv : v ≤ 10800000) :
    (numN a b c d u v).2.2 = 0 ∧ validB (numN a b c d u v).1 (numN a b c d u v).2.1 = true := by
  have l1 := lat_bd h1
  have l2 := lat_bd h2
  have hh : avalidB (5400000 - d) (5400000 - c) = true := avalid_mk (by omega) (by omega) (by omega)
  have h := (one_bd hh).2.2
  have k := bet_ok (a := a) (b := b) (c := 5400000 - v) (d := 5400000 - u) (by omega) (by omega) (by omega) (by omega) (by omega) (by omega)
  unfold numN subR
  rw [if_pos (both_mk (val_mk (by omega) h.2.1 (by omega)) (val_mk (by omega) k.2.2.2.1 (by omega)))]
  have hv : validB ((havR (5400000 - d) (5400000 - c)).1 - (betV a b (5400000 - v) (5400000 - u)).2) ((havR (5400000 - d) (5400000 - c)).2.1 - (betV a b (5400000 - v) (5400000 - u)).1) = true := val_mk (by omega) (by omega) (by omega)
  rw [fit_mk hv]
  exact ⟨rfl, hv⟩
theorem less_ok {a b : Int} (h1 : -100000000 ≤ a ∧ a ≤ 100000000) (h2 : -100000000 ≤ b ∧ b ≤ 100000000) : lessV a b = (5400000 - b, 5400000 - a) := by
  unfold lessV
  rw [i64w (by omega), i64w (by omega)]
theorem top_eq {a b c d e f u v : Int} (h1 : latB a b = true) (h2 : latB c d = true) (hu : 0 ≤ u) (huv : u ≤ v) (hv : v ≤ 10800000) :
    topM a b c d e f u v = topS (numN a b c d u v).1 (numN a b c d u v).2.1 (cosV a b (5400000 - v) (5400000 - u)).1 (cosV a b (5400000 - v) (5400000 - u)).2 := by
  have l1 := lat_bd h1
  have l2 := lat_bd h2
  have hh : avalidB (5400000 - d) (5400000 - c) = true := avalid_mk (by omega) (by omega) (by omega)
  have hz : avalidB (5400000 - v) (5400000 - u) = true := avalid_mk (by omega) (by omega) (by omega)
  have h := (one_bd hh).2.2
  have k := bet_ok (a := a) (b := b) (c := 5400000 - v) (d := 5400000 - u) (by omega) (by omega) (by omega) (by omega) (by omega) (by omega)
  have q := cosV_ok l1.1 hz
  have n0 := (num_ok h1 h2 hu huv hv).1
  unfold topM
  simp only [lt, hnumV, hnumC]
  rw [less_ok (a := c) (b := d) (by omega) (by omega), less_ok (a := u) (b := v) (by omega) (by omega)]
  simp only []
  have e1 : keepE 0 (havR (5400000 - d) (5400000 - c)).2.2 = 0 := by rw [h.2.2.2]; rfl
  rw [e1, k.2.1]
  have e2 : subR (havR (5400000 - d) (5400000 - c)).1 (havR (5400000 - d) (5400000 - c)).2.1 (betV a b (5400000 - v) (5400000 - u)).1 (betV a b (5400000 - v) (5400000 - u)).2 = numN a b c d u v := rfl
  rw [e2, n0, q.2.1]
  simp only [fin_cond, keepE, if_true]
  generalize numN a b c d u v = N
  generalize (cosV a b (5400000 - v) (5400000 - u)) = D
  unfold topS
  generalize divR N.1 N.2.1 D.1 D.2 = r
  have e3 : ((0 : Int) != 0) = false := rfl
  rw [e3]
  simp only [cond_false]
  by_cases c1 : D.1 ≤ 0
  · have : decide (D.1 ≤ 0) = true := decide_eq_true c1
    rw [this]
    by_cases c2 : D.2 ≥ 0
    · have : decide (D.2 ≥ 0) = true := decide_eq_true c2
      rw [this, if_pos ⟨c1, c2⟩]
      rfl
    · have : decide (D.2 ≥ 0) = false := decide_eq_false c2
      rw [this, if_neg (by omega)]
      simp only [cond_true, cond_false]
      by_cases c3 : r.2.2 = 5
      · rw [if_pos c3]; simp [c3]
      · rw [if_neg c3]
        by_cases c4 : r.2.2 = 0
        · simp [c4]
        · rw [beq_eq_false_iff_ne.2 c3, bne_iff_ne.2 c4]; simp [c4]
  · have : decide (D.1 ≤ 0) = false := decide_eq_false c1
    rw [this, if_neg (by omega)]
    simp only [cond_false]
    by_cases c3 : r.2.2 = 5
    · rw [if_pos c3]; simp [c3]
    · rw [if_neg c3]
      by_cases c4 : r.2.2 = 0
      · simp [c4]
      · rw [beq_eq_false_iff_ne.2 c3, bne_iff_ne.2 c4]; simp [c4]
theorem div_err {a b c d : Int} (h1 : validB a b = true) (h2 : validB c d = true) (hz : ¬ (c ≤ 0 ∧ 0 ≤ d)) : (divR a b c d).2.2 = 0 ∨ (divR a b c d).2.2 = 5 := by
  unfold divR
  rw [if_pos (both_mk h1 h2), if_neg (by simp [zeroB]; omega)]
  unfold fitR
  split <;> simp
theorem div_val {a b c d : Int} (h : (divR a b c d).2.2 = 0) : validB (divR a b c d).1 (divR a b c d).2.1 = true := by
  unfold divR at h ⊢
  obtain ⟨hb, hf⟩ := both_ok h
  rw [if_pos hb]
  split at hf
  · cases hf
  · rename_i hz
    rw [if_neg hz]
    obtain ⟨hv, e⟩ := fit_ok hf
    rw [e]; exact hv
theorem asn_low : asn (-1073741824) = -5400000 := asn_eq (by omega) ⟨by omega, by omega, by decide +kernel, .inr (by decide +kernel)⟩
theorem ahav_all : ahavR 0 1073741824 = (0, 10800000, 0) := by
  unfold ahavR acosR asinR
  simp [validB, asn_low]
def zprod (a b c d e f : Int) : Int × Int × Int := mulR (cosV a b c d).1 (cosV a b c d).2 (havR e f).1 (havR e f).2.1
def zsum (a b c d e f : Int) : Int × Int × Int := addR (betV a b c d).1 (betV a b c d).2 (zprod a b c d e f).1 (zprod a b c d e f).2.1
theorem zsum_ok {a b c d e f : Int} (h : triB a b c d e f = true) : (zprod a b c d e f).2.2 = 0 ∧ zsum a b c d e f = ((betV a b c d).1 + (zprod a b c d e f).1, (betV a b c d).2 + (zprod a b c d e f).2.1, 0) ∧
    validB (zsum a b c d e f).1 (zsum a b c d e f).2.1 = true := by
  obtain ⟨h1, h2, h3⟩ := tri_bd h
  have l1 := lat_bd h1
  have l2 := lat_bd h2
  have k := bet_ok (a := a) (b := b) (c := c) (d := d) (by omega) (by omega) (by omega) (by omega) (by omega) (by omega)
  have q := cosV_ok l1.1 l2.1
  have o := (one_bd h3).2.2
  have m := mul_one q.2.2.1 q.2.2.2.1 q.2.2.2.2 (by omega) o.2.1 o.2.2.1
  have em : (mulR (cosV a b c d).1 (cosV a b c d).2 (havR e f).1 (havR e f).2.1) = zprod a b c d e f := rfl
  rw [em] at m
  have ev : zsum a b c d e f = ((betV a b c d).1 + (zprod a b c d e f).1, (betV a b c d).2 + (zprod a b c d e f).2.1, 0) := by
    unfold zsum addR
    rw [if_pos (both_mk (val_mk (by omega) k.2.2.2.1 (by omega)) (val_mk (by omega) m.2.2.1 (by omega)))]
    exact fit_mk (val_mk (by omega) (by omega) (by omega))
  refine ⟨m.1, ev, ?_⟩
  rw [ev]
  exact val_mk (by dsimp only; omega) (by dsimp only; omega) (by dsimp only; omega)
def turnedS (p q e f : Int) : Int × Int × Int :=
  if turnL e f ≥ 10800000 ∧ turnH e f ≤ 21600000 then (p, q, 0) else if turnH e f ≤ 10800000 then turnR (21600000 - q) (21600000 - p) else if p + q > 10800000 then (p, 21600000 - p, 0) else turnR (-q) q
theorem azi_eq {a b c d e f u v : Int} (ht : triB a b c d e f = true) (hu : 0 ≤ u) (huv : u ≤ v) (hv : v ≤ 10800000) :
    aziM a b c d e f u v = if (topM a b c d e f u v).2.2 ≠ 0 then (0, 0, (topM a b c d e f u v).2.2) else
      (if turnL e f ≥ 10800000 ∧ turnH e f ≤ 21600000 then ((topM a b c d e f u v).1, (topM a b c d e f u v).2.1, 0) else if turnH e f ≤ 10800000 then turnR (IntKind.i64.wrap (21600000 - (topM a b c d e f u v).2.1)) (IntKind.i64.wrap (21600000 - (topM a b c d e f u v).1)) else if IntKind.i64.wrap ((topM a b c d e f u v).1 + (topM a b c d e f u v).2.1) > 10800000 then ((topM a b c d e f u v).1, IntKind.i64.wrap (21600000 - (topM a b c d e f u v).1), 0) else turnR (IntKind.i64.wrap (0 - (topM a b c d e f u v).2.1)) (topM a b c d e f u v).2.1) := by
  obtain ⟨_, _, he⟩ := tri_bd ht
  unfold aziM
  simp only [lt]
  have et : turnR e f = (turnL e f, turnH e f, 0) := by unfold turnR; rw [if_pos he]
  rw [ht, et]
  generalize topM a b c d e f u v = r
  have d1 : decide (u < 0) = false := decide_eq_false (by omega)
  have d2 : decide (u > v) = false := decide_eq_false (by omega)
  have d3 : decide (v > 10800000) = false := decide_eq_false (by omega)
  rw [d1, d2, d3]
  simp only [Bool.not_true, cond_false]
  by_cases c0 : r.2.2 = 0
  · have : (r.2.2 != 0) = false := bne_eq_false_iff_eq.2 c0
    rw [this, if_neg (by simpa using c0)]
    have z : ((0 : Int) != 0) = false := rfl
    simp only [cond_false, z]
    by_cases c1 : turnL e f ≥ 10800000
    · have : decide (turnL e f ≥ 10800000) = true := decide_eq_true c1
      rw [this]
      by_cases c2 : turnH e f ≤ 21600000
      · have : decide (turnH e f ≤ 21600000) = true := decide_eq_true c2
        rw [this, if_pos ⟨c1, c2⟩]; rfl
      · have : decide (turnH e f ≤ 21600000) = false := decide_eq_false c2
        rw [this, if_neg (by omega)]
        simp only [cond_true, cond_false]
        by_cases c3 : turnH e f ≤ 10800000
        · rw [decide_eq_true c3, if_pos c3]; rfl
        · rw [decide_eq_false c3, if_neg c3]
          simp only [cond_false]
          by_cases c4 : IntKind.i64.wrap (r.1 + r.2.1) > 10800000
          · rw [decide_eq_true c4, if_pos c4]; rfl
          · rw [decide_eq_false c4, if_neg c4]; rfl
    · have : decide (turnL e f ≥ 10800000) = false := decide_eq_false c1
      rw [this, if_neg (by omega)]
      simp only [cond_false]
      by_cases c3 : turnH e f ≤ 10800000
      · rw [decide_eq_true c3, if_pos c3]; rfl
      · rw [decide_eq_false c3, if_neg c3]
        simp only [cond_false]
        by_cases c4 : IntKind.i64.wrap (r.1 + r.2.1) > 10800000
        · rw [decide_eq_true c4, if_pos c4]; rfl
        · rw [decide_eq_false c4, if_neg c4]; rfl
  · have : (r.2.2 != 0) = true := bne_iff_ne.2 c0
    rw [this, if_pos c0]; rfl
theorem hav_v {a b : Int} {d q : Rat} (hv : avalidB a b = true) (hd : 0 ≤ d) (hd1 : d ≤ 1) (h : Hs d a b q) : Vl (havR a b) (1000 * d + 3 * e1) ((1 - co q) / 2) := by
  have c := cos_B hv hd hd1 h
  have e1' : (cosR a b).1 = encL (a + 5400000) (b + 5400000) := by simp [cosR, hv]
  have e2' : (cosR a b).2.1 = encH (a + 5400000) (b + 5400000) := by simp [cosR, hv]
  have e3 : (havR a b).1 = (1073741824 - encH (a + 5400000) (b + 5400000)) / 2 := by simp [havR, hv]
  have e4 : (havR a b).2.1 = (1073741824 - encL (a + 5400000) (b + 5400000) + 1) / 2 := by simp [havR, hv]
  refine ⟨(hav_one hv).2.2.2, (hav_one hv).val, ?_⟩
  rw [e1', e2'] at c
  rw [e3, e4]
  have e1b := e1_bd
  have half : ∀ x : Int, ((x / 2 : Int) : Rat) ≤ (x : Rat) / 2 ∧ (x : Rat) / 2 - 1 / 2 ≤ ((x / 2 : Int) : Rat) := fun x => by
    have h1 := le_c (show 2 * (x / 2) ≤ x by omega)
    have h2 := le_c (show x ≤ 2 * (x / 2) + 1 by omega)
    rw [Rat.intCast_mul] at h1
    rw [Rat.intCast_add, Rat.intCast_mul] at h2
    rw [show ((2 : Int) : Rat) = 2 by rfl] at h1 h2
    rw [show ((1 : Int) : Rat) = 1 by rfl] at h2
    constructor <;> grind
  have p := half (1073741824 - encH (a + 5400000) (b + 5400000))
  have r := half (1073741824 - encL (a + 5400000) (b + 5400000) + 1)
  rw [Rat.intCast_sub] at p
  rw [Rat.intCast_add, Rat.intCast_sub] at r
  rw [show ((1073741824 : Int) : Rat) = 1073741824 by rfl] at p r
  rw [show ((1 : Int) : Rat) = 1 by rfl] at r
  unfold Cq at c
  unfold Hs at *
  generalize (encH (a + 5400000) (b + 5400000) : Rat) = u at *
  generalize (encL (a + 5400000) (b + 5400000) : Rat) = v at *
  generalize co q = w at *
  constructor <;> grind
theorem ahav_v {r : Int × Int × Int} {e t d q X : Rat} (h : Vl r e X) (hq : Cl t (si q) (1 - 2 * X)) (q0 : -5400000 ≤ q) (q1 : q ≤ 5400000) (he : 0 ≤ e) (ht : 0 ≤ t) (hd0 : 0 ≤ d) (hs : 2 * e + 2 * e1 + 2147483648 * t ≤ 1 / 4) (hd : 100000 * (2 * e + 2 * e1 + 2147483648 * t + 4 * e1) ≤ d * d) :
    (ahavR r.1 r.2.1).2.2 = 0 ∧ 0 ≤ (ahavR r.1 r.2.1).1 ∧ (ahavR r.1 r.2.1).1 ≤ (ahavR r.1 r.2.1).2.1 ∧ (ahavR r.1 r.2.1).2.1 ≤ 10800000 ∧ Hs d (ahavR r.1 r.2.1).1 (ahavR r.1 r.2.1).2.1 (5400000 - q) := by
  have b := (bdq q).2
  have u := u0_bd
  have e1b := e1_bd
  have ub : 1073741824 * (8192 * u0) ≤ e1 := by decide +kernel
  have v := val_bd h.2.1
  have hv := h.2.1
  have hh := h.2.2
  unfold Hs at hh
  unfold Cl at hq
  have c1 : r.1 ≤ 1073741824 := of_c (e := 1 / 2) (by rw [show ((1073741824 : Int) : Rat) = 1073741824 by rfl]; grind) (by grind)
  have c2 : 0 ≤ r.2.1 := of_c (e := 1 / 2) (by rw [show ((0 : Int) : Rat) = 0 by rfl]; grind) (by grind)
  have lo : ((max r.1 0 : Int) : Rat) ≤ 1073741824 * X + e + e1 + 1073741824 * t := by
    rcases Int.le_total r.1 0 with c | c
    · rw [Int.max_eq_right c, show ((0 : Int) : Rat) = 0 by rfl]; grind
    · rw [Int.max_eq_left c]; grind
  have hi : 1073741824 * X - e - e1 - 1073741824 * t ≤ ((min r.2.1 1073741824 : Int) : Rat) := by
    rcases Int.le_total r.2.1 1073741824 with c | c
    · rw [Int.min_eq_left c]; grind
    · rw [Int.min_eq_right c, show ((1073741824 : Int) : Rat) = 1073741824 by rfl]; grind
  have sv : Vl (1073741824 - 2 * min r.2.1 1073741824, 1073741824 - 2 * max r.1 0, (0 : Int)) (2 * e + 2 * e1 + 2147483648 * t) (1 - 2 * X) := by
    refine ⟨rfl, val_mk (by dsimp only; omega) (by dsimp only; omega) (by dsimp only; omega), ?_⟩
    unfold Hs
    dsimp only
    rw [Rat.intCast_sub, Rat.intCast_sub, Rat.intCast_mul, Rat.intCast_mul, show ((1073741824 : Int) : Rat) = 1073741824 by rfl, show ((2 : Int) : Rat) = 2 by rfl]
    constructor <;> grind
  have sn' : Vl (1073741824 - 2 * min r.2.1 1073741824, 1073741824 - 2 * max r.1 0, (0 : Int)) (2 * e + 2 * e1 + 2147483648 * t) (si q) := by
    refine ⟨rfl, sv.2.1, ?_⟩
    have k := sv.2.2
    unfold Hs
    dsimp only
    rw [Rat.intCast_sub, Rat.intCast_sub, Rat.intCast_mul, Rat.intCast_mul, show ((1073741824 : Int) : Rat) = 1073741824 by rfl, show ((2 : Int) : Rat) = 2 by rfl]
    have lo' : ((max r.1 0 : Int) : Rat) ≤ 1073741824 * X + e ∨ ((max r.1 0 : Int) : Rat) = 0 := by
      rcases Int.le_total r.1 0 with c | c
      · right; rw [Int.max_eq_right c]; rfl
      · left; rw [Int.max_eq_left c]; grind
    have hi' : 1073741824 * X - e ≤ ((min r.2.1 1073741824 : Int) : Rat) ∨ ((min r.2.1 1073741824 : Int) : Rat) = 1073741824 := by
      rcases Int.le_total r.2.1 1073741824 with c | c
      · left; rw [Int.min_eq_left c]; grind
      · right; rw [Int.min_eq_right c]; rfl
    generalize ((max r.1 0 : Int) : Rat) = L at *
    generalize ((min r.2.1 1073741824 : Int) : Rat) = M at *
    constructor
    · rcases hi' with c | c <;> grind
    · rcases lo' with c | c <;> grind
  have k := asin_v sn' (Cl.refl (si q) (e := 0) (by grind)) q0 q1 (by grind) (by grind) hd0 (by grind) (by rw [show 1073741824 * (0 : Rat) = 0 by grind]; grind)
  obtain ⟨k1, k2⟩ := k
  dsimp only at k1 k2
  have a1 := k1.1
  have a2 := k1.2.1
  have a3 := k1.2.2.1
  have a4 := k1.2.2.2
  have ev : ahavR r.1 r.2.1 = (5400000 - (asinR (1073741824 - 2 * min r.2.1 1073741824) (1073741824 - 2 * max r.1 0)).2.1, 5400000 - (asinR (1073741824 - 2 * min r.2.1 1073741824) (1073741824 - 2 * max r.1 0)).1, 0) := by
    unfold ahavR acosR
    rw [hv]
    simp only [Bool.true_eq_false, if_false]
    rw [if_pos (by omega), if_pos a4]
  rw [ev]
  refine ⟨rfl, by dsimp only; omega, by dsimp only; omega, by dsimp only; omega, ?_⟩
  unfold Hs at k2 ⊢
  dsimp only
  rw [Rat.intCast_sub, Rat.intCast_sub, show ((5400000 : Int) : Rat) = 5400000 by rfl]
  constructor <;> grind
theorem div_v {n d : Int × Int × Int} {e δ X : Rat} (hn : Vl n e (δ * X)) (hd : Vl d e δ) (d0 : 1 ≤ d.1) (hX0 : -1 ≤ X) (hX : X ≤ 2) (he : 0 ≤ e) (ok : (divR n.1 n.2.1 d.1 d.2.1).2.2 = 0) : Vl (divR n.1 n.2.1 d.1 d.2.1) (8589934592 * e) X := by
  have vd := div_val ok
  refine ⟨ok, vd, ?_⟩
  have nb := val_bd hn.2.1
  have db := val_bd hd.2.1
  have ev : divR n.1 n.2.1 d.1 d.2.1 = (divL n.1 n.2.1 d.1 d.2.1, divH n.1 n.2.1 d.1 d.2.1, 0) := by
    have q := ok
    unfold divR at q ⊢
    obtain ⟨hb, hf⟩ := both_ok q
    rw [if_pos hb]
    split at hf
    · cases hf
    · rename_i hz
      rw [if_neg hz]
      exact (fit_ok hf).2
  rw [ev]
  obtain ⟨n', n1, n2, n3, n4⟩ := hn.2.2.clamp he nb.2.1
  obtain ⟨t', t1, t2, t3, t4⟩ := hd.2.2.clamp he db.2.1
  have D0 := le_c d0
  rw [show ((1 : Int) : Rat) = 1 by rfl] at D0
  have l1 := (div_has (a := n.1) (b := n.2.1) (c := d.1) (d := d.2.1) (x := n.1) (y := d.1) (.inl (by omega)) (Int.le_refl _) nb.2.1 (Int.le_refl _) db.2.1).1
  have l2 := (div_has (a := n.1) (b := n.2.1) (c := d.1) (d := d.2.1) (x := n.1) (y := d.2.1) (.inl (by omega)) (Int.le_refl _) nb.2.1 db.2.1 (Int.le_refl _)).1
  have u1 := (div_has (a := n.1) (b := n.2.1) (c := d.1) (d := d.2.1) (x := n.2.1) (y := d.1) (.inl (by omega)) nb.2.1 (Int.le_refl _) (Int.le_refl _) db.2.1).2
  have u2 := (div_has (a := n.1) (b := n.2.1) (c := d.1) (d := d.2.1) (x := n.2.1) (y := d.2.1) (.inl (by omega)) nb.2.1 (Int.le_refl _) db.2.1 (Int.le_refl _)).2
  have fl : ∀ x y : Int, 1 ≤ y → flD x y * y ≤ x := fun x y hy => by
    unfold flD
    rw [if_pos (by omega)]
    have := Int.ediv_mul_le x (show y ≠ 0 by omega)
    exact this
  have ce' : ∀ x y : Int, 1 ≤ y → x ≤ ceD x y * y := fun x y hy => by
    have := fl (-x) y hy
    unfold ceD
    have e : -flD (-x) y * y = -(flD (-x) y * y) := Int.neg_mul _ _
    omega
  have L1 : divL n.1 n.2.1 d.1 d.2.1 * d.1 ≤ n.1 * 1073741824 := Int.le_trans (Int.mul_le_mul_of_nonneg_right l1 (by omega)) (fl _ _ d0)
  have L2 : divL n.1 n.2.1 d.1 d.2.1 * d.2.1 ≤ n.1 * 1073741824 := Int.le_trans (Int.mul_le_mul_of_nonneg_right l2 (by omega)) (fl _ _ (by omega))
  have U1 : n.2.1 * 1073741824 ≤ divH n.1 n.2.1 d.1 d.2.1 * d.1 := Int.le_trans (ce' _ _ d0) (Int.mul_le_mul_of_nonneg_right u1 (by omega))
  have U2 : n.2.1 * 1073741824 ≤ divH n.1 n.2.1 d.1 d.2.1 * d.2.1 := Int.le_trans (ce' _ _ (by omega)) (Int.mul_le_mul_of_nonneg_right u2 (by omega))
  have L1 := le_c L1
  have L2 := le_c L2
  have U1 := le_c U1
  have U2 := le_c U2
  rw [Rat.intCast_mul, Rat.intCast_mul, show ((1073741824 : Int) : Rat) = 1073741824 by rfl] at L1 L2 U1 U2
  clear l1 l2 u1 u2 fl ce' ev vd ok
  unfold Hs
  dsimp only
  generalize (divL n.1 n.2.1 d.1 d.2.1 : Rat) = L at *
  generalize (divH n.1 n.2.1 d.1 d.2.1 : Rat) = U at *
  generalize (n.1 : Rat) = a at *
  generalize (n.2.1 : Rat) = b at *
  generalize (d.1 : Rat) = c at *
  generalize (d.2.1 : Rat) = f at *
  have lL := lin_q L t1 t2
  have lU := lin_q U t1 t2
  rw [Rat.mul_comm c, Rat.mul_comm t', Rat.mul_comm f] at lL lU
  have A : L * t' ≤ 1073741824 * n' := by rcases lL with k | k <;> grind
  have B : 1073741824 * n' ≤ U * t' := by rcases lU with k | k <;> grind
  have q1 := mul_abs (a := 1073741824 * δ - t') (b := 1073741824 * X) (A := e) (B := 2147483648) t3 t4 (by grind) (by grind)
  have ex : 1073741824 * (1073741824 * (δ * X)) = (1073741824 * δ - t') * (1073741824 * X) + t' * (1073741824 * X) := by grind
  have t0 : 1 ≤ t' := by grind
  generalize (1073741824 * δ - t') * (1073741824 * X) = w at *
  generalize 1073741824 * (δ * X) = z at *
  generalize 1073741824 * X = P at *
  constructor
  · rcases (Rat.le_total : L - 8589934592 * e ≤ P ∨ P ≤ L - 8589934592 * e) with k | k
    · exact k
    · have m := Rat.mul_nonneg (show 0 ≤ t' - 1 by grind) (show 0 ≤ L - P by grind)
      grind
  · rcases (Rat.le_total : P ≤ U + 8589934592 * e ∨ U + 8589934592 * e ≤ P) with k | k
    · exact k
    · have m := Rat.mul_nonneg (show 0 ≤ t' - 1 by grind) (show 0 ≤ P - U by grind)
      grind
def dZ : Rat := pw 590
def eN : Rat := pw 560
def dA : Rat := pw 250
theorem lvH : 0 ≤ dZ ∧ dZ ≤ 1 ∧ 100000 * (2 * (1000 * e1) + 2 * e1 + 2147483648 * (5 * e0) + 4 * e1) ≤ dZ * dZ ∧ 2 * (1000 * e1) + 2 * e1 + 2147483648 * (5 * e0) ≤ 1 / 4 ∧ dZ ≤ dS ∧ 1073741824 * (8000 * u0) ≤ e1 ∧
    3 * (2000 * dZ + 5 * e1) ≤ eN / 2 ∧ 1000 * dZ + 3 * e1 + (3 * e1) + 1073741824 * (30 * eT) ≤ eN / 2 ∧ 0 < eN ∧ 100000 * (2 * (8589934592 * eN) + 2 * e1 + 2147483648 * (100000 * u0) + 4 * e1) ≤ dA * dA ∧ 2 * (8589934592 * eN) + 2 * e1 + 2147483648 * (100000 * u0) ≤ 1 / 4 ∧ 0 ≤ dA ∧ 4 * dA ≤ dS ∧ eN ≤ 1 / 4 ∧ 1000 * e0 ≤ eT ∧ 8000000 * (4294967296 * (10 * eT) + e0) ≤ dA ∧ 0 < eT := by decide +kernel
theorem zsum_v {a b c d e f : Int} {x y t : Rat} (h : triB a b c d e f = true) (hx : Hs 0 a b x) (hy : Hs 0 c d y) (ht : Hs 0 e f t) : Vl (zsum a b c d e f) (1000 * e1) ((1 - upT x y t) / 2) := by
  obtain ⟨h1, h2, h3⟩ := tri_bd h
  have l1 := lat_bd h1
  have l2 := lat_bd h2
  have e1b := e1_bd
  have w11 := lv.2.2.2.2.2.2.2.2.2.2
  have k := bet_ok (a := a) (b := b) (c := c) (d := d) (by omega) (by omega) (by omega) (by omega) (by omega) (by omega)
  have hv : avalidB (a - d) (b - c) = true := avalid_mk (by omega) (by omega) (by omega)
  have hq : Hs 0 (a - d) (b - c) (x - y) := by
    have := hx.sub hy
    exact this.wide (by grind) (Int.le_refl _) (Int.le_refl _)
  have v1 := hav_v hv (by grind) (by grind) hq
  have v2 := mul_v (cos_one l1.1) (cos_one l2.1) (by grind) (by grind) (cos_at l1.1 hx) (cos_at l2.1 hy)
  have v3 := hav_v h3 (by grind) (by grind) ht
  have o2 := mul_ones (cos_one l1.1) (cos_one l2.1)
  have v4 := mul_v o2 (hav_one h3) (e := 3 * (5 * e1)) (by grind) (by grind) v2 (v3.wide (by grind))
  have q := cosV_ok l1.1 l2.1
  have o4 := mul_ones o2 (hav_one h3)
  have v5 := add_v (hav_one hv) o4 v1 v4
  have ez : zsum a b c d e f = addR (havR (a - d) (b - c)).1 (havR (a - d) (b - c)).2.1 (mulR (mulR (cosR a b).1 (cosR a b).2.1 (cosR c d).1 (cosR c d).2.1).1 (mulR (cosR a b).1 (cosR a b).2.1 (cosR c d).1 (cosR c d).2.1).2.1 (havR e f).1 (havR e f).2.1).1 (mulR (mulR (cosR a b).1 (cosR a b).2.1 (cosR c d).1 (cosR c d).2.1).1 (mulR (cosR a b).1 (cosR a b).2.1 (cosR c d).1 (cosR c d).2.1).2.1 (havR e f).1 (havR e f).2.1).2.1 := by
    unfold zsum zprod
    rw [k.1, q.1]
  rw [← ez] at v5
  have s := (subq x y).1
  have cl : Cl (8000 * u0) ((1 - upT x y t) / 2) ((1 - co (x - y)) / 2 + co x * co y * ((1 - co t) / 2)) := by
    unfold upT
    have u := u0_bd.1
    unfold Cl at *
    rw [show co x * co y * ((1 - co t) / 2) = co x * co y / 2 - co x * co y * co t / 2 by grind]
    generalize co x * co y * co t = p1 at *
    generalize co x * co y = p2 at *
    generalize si x * si y = p3 at *
    generalize co (x - y) = p4 at *
    constructor <;> grind
  have w6 := lvH.2.2.2.2.2.1
  exact (v5.near cl).wide (by grind)
theorem zen_ok {a b c d e f : Int} (h : triB a b c d e f = true) (ok : (ahavR (zsum a b c d e f).1 (zsum a b c d e f).2.1).2.2 = 0) : zenM a b c d e f = ahavR (zsum a b c d e f).1 (zsum a b c d e f).2.1 := by
  have z := zsum_ok h
  obtain ⟨h1, h2, h3⟩ := tri_bd h
  have l1 := lat_bd h1
  have l2 := lat_bd h2
  have k := bet_ok (a := a) (b := b) (c := c) (d := d) (by omega) (by omega) (by omega) (by omega) (by omega) (by omega)
  have q := cosV_ok l1.1 l2.1
  have hh := (one_bd h3).2.2
  unfold zenM
  rw [h]
  simp only [lt, hnumV, hnumC, harcW, harcC, Bool.not_true, cond_false]
  rw [q.2.1, hh.2.2.2, keep0]
  have e1 : (mulR (cosV a b c d).1 (cosV a b c d).2 (havR e f).1 (havR e f).2.1) = zprod a b c d e f := rfl
  rw [e1, z.1, keep0, k.2.1]
  have e2 : (addR (betV a b c d).1 (betV a b c d).2 (zprod a b c d e f).1 (zprod a b c d e f).2.1) = zsum a b c d e f := rfl
  have e3 : (zsum a b c d e f).2.2 = 0 := by rw [z.2.1]
  rw [e2, e3, keep0, ok]
  obtain ⟨p, r, s, hx⟩ : ∃ p r s, ahavR (zsum a b c d e f).1 (zsum a b c d e f).2.1 = (p, r, s) := ⟨_, _, _, rfl⟩
  rw [hx] at ok ⊢
  dsimp only at ok
  rw [ok]
  rfl
theorem zen_v {a b c d e f : Int} {x y t h' z' : Rat} (h : triB a b c d e f = true) (hx : Hs 0 a b x) (hy : Hs 0 c d y) (ht : Hs 0 e f t) (s : Sees x y t h' z') :
    (zenM a b c d e f).2.2 = 0 ∧ 0 ≤ (zenM a b c d e f).1 ∧ (zenM a b c d e f).1 ≤ (zenM a b c d e f).2.1 ∧ (zenM a b c d e f).2.1 ≤ 10800000 ∧ Hs dZ (zenM a b c d e f).1 (zenM a b c d e f).2.1 (5400000 - h') := by
  obtain ⟨w1, w2, w3, w4, w5, w6, w7, w8, w9, w10, w11, w12, w13, w14, w15, w16, w17⟩ := lvH
  have e1b := e1_bd
  have eb := e0_bd
  have v := zsum_v h hx hy ht
  obtain ⟨h0, h1, z0, z1, k1, k2, k3⟩ := s
  have k := ahav_v v (t := 5 * e0) (by rw [show 1 - 2 * ((1 - upT x y t) / 2) = upT x y t by grind]; exact k1) h0 h1 (by grind) (by grind) w1 w4 w3
  rw [zen_ok h k.1]
  exact k
theorem mul_two {p r X e : Rat} (hc : Cl e p r) (hX : -2 ≤ X ∧ X ≤ 2) : Cl (2 * e) (p * X) (r * X) := by
  have m := mul_abs (a := p - r) (b := X) (A := e) (B := 2) hc.1 hc.2 hX.1 hX.2
  unfold Cl
  rw [show p * X - r * X = (p - r) * X by grind]
  generalize (p - r) * X = v at *
  constructor <;> grind
theorem back_c {x y t h z : Rat} (s : Sees x y t h z) : Cl (50 * eT) (si y) (si h * si x + co h * co z * co x) := by
  obtain ⟨h0, h1, z0, z1, k1, k2, k3⟩ := s
  have eb := e0_bd
  have w10 := lv.2.2.2.2.2.2.2.2.2.1
  have t0 := lv.2.1
  have ub := u0_bd.1
  have ee : e0 = 1048576 * u0 := rfl
  have un := unit x
  have bx := bdq2 x
  have bys := bdq2 y
  have a1 := mul_two k1 bx.2
  have a2 := mul_two k2 bx.1
  have a5 := mul_two un bys.2
  have e : upT x y t * si x + noT x y t * co x = (co x * co x + si x * si x) * si y := by unfold upT noT; grind
  unfold Cl at *
  generalize upT x y t * si x = v1 at *
  generalize noT x y t * co x = v2 at *
  generalize (co x * co x + si x * si x) * si y = v3 at *
  generalize si h * si x = v4 at *
  generalize co h * co z * co x = v5 at *
  constructor <;> grind
theorem top_v {a b c d e f : Int} {x y t h' z' A : Rat} (h : triB a b c d e f = true) (hx : Hs 0 a b x) (hy : Hs 0 c d y) (s : Sees x y t h' z') (A0 : 0 ≤ A) (A1 : A ≤ 10800000) (hA : Cl (3000 * u0) (co A) (co z')) {u v : Int} (u0' : 0 ≤ u) (uv : u ≤ v) (v1 : v ≤ 10800000) (hz : Hs dZ u v (5400000 - h')) :
    (topM a b c d e f u v).2.2 = 21 ∨ ((topM a b c d e f u v).2.2 = 0 ∧ 0 ≤ (topM a b c d e f u v).1 ∧ (topM a b c d e f u v).1 ≤ (topM a b c d e f u v).2.1 ∧ (topM a b c d e f u v).2.1 ≤ 10800000 ∧ Hs dA (topM a b c d e f u v).1 (topM a b c d e f u v).2.1 A ∧ 1 / 2147483648 ≤ co h') := by
  obtain ⟨w1, w2, w3, w4, w5, w6, w7, w8, w9, w10, w11, w12, w13, w14, w15, w16, w17⟩ := lvH
  have e1b := e1_bd
  have eb := e0_bd
  have ub := u0_bd
  obtain ⟨h1, h2, h3⟩ := tri_bd h
  have l1 := lat_bd h1
  have l2 := lat_bd h2
  have hzl : latB (5400000 - v) (5400000 - u) = true := lat_mk (by omega) (by omega) (by omega)
  have hva := (lat_bd hzl).1
  have hd : avalidB (5400000 - d) (5400000 - c) = true := avalid_mk (by omega) (by omega) (by omega)
  have hw : avalidB (a - (5400000 - u)) (b - (5400000 - v)) = true := avalid_mk (by omega) (by omega) (by omega)
  have hh : Hs dZ (5400000 - v) (5400000 - u) h' := by
    unfold Hs at hz ⊢
    rw [Rat.intCast_sub, Rat.intCast_sub, show ((5400000 : Int) : Rat) = 5400000 by rfl]
    constructor <;> grind
  have k := bet_ok (a := a) (b := b) (c := 5400000 - v) (d := 5400000 - u) (by omega) (by omega) (by omega) (by omega) (by omega) (by omega)
  have q := cosV_ok l1.1 hva
  have bt := back_c s
  have cx := (cos_at l1.1 hx).wide (f := 2000 * dZ + 5 * e1) (by grind)
  have ch := cos_v hva w1 w2 hh
  have vD := (mul_v (cos_one l1.1) (cos_one hva) (by grind) (by grind) cx ch).wide (f := eN) (by grind)
  have oD := mul_ones (cos_one l1.1) (cos_one hva)
  have p1 := hav_v hd (d := 0) (q := 5400000 - y) (by grind) (by grind) (by
    unfold Hs at hy ⊢
    rw [Rat.intCast_sub, Rat.intCast_sub, show ((5400000 : Int) : Rat) = 5400000 by rfl]
    constructor <;> grind)
  have p2 := hav_v hw w1 w2 (q := x - h') (by
    have := hx.sub hh
    exact this.wide (by grind) (Int.le_refl _) (Int.le_refl _))
  have vN := sub_v (hav_one hd) (hav_one hw) p1 p2
  have sq := (subq x h').1
  have cq := (coq y).2
  have clN : Cl (28 * eT) (co x * co h' * ((1 - co A) / 2)) ((1 - co (5400000 - y)) / 2 - (1 - co (x - h')) / 2) := by
    have ee : e0 = 1048576 * u0 := rfl
    have bx := bdq2 x
    have bh := bdq2 h'
    have bb := mul_abs bx.1.1 bx.1.2 bh.1.1 bh.1.2
    have m := mul_abs (a := co x * co h') (b := co A - co z') (A := 4) (B := 3000 * u0) (by grind) (by grind) hA.1 hA.2
    rw [show co x * co h' * (co A - co z') = co x * co h' * co A - co h' * co z' * co x by grind] at m
    rw [Rat.mul_comm (si x) (si h')] at sq
    clear hA vN vD cx ch p1 p2 q k oD hz hh hx hy
    unfold Cl at *
    rw [show co x * co h' * ((1 - co A) / 2) = co x * co h' / 2 - co x * co h' * co A / 2 by grind]
    generalize co x * co h' * co A = g1 at *
    generalize co h' * co z' * co x = g2 at *
    generalize co x * co h' = g3 at *
    generalize si h' * si x = g4 at *
    generalize co (5400000 - y) = g5 at *
    generalize co (x - h') = g6 at *
    generalize si y = g7 at *
    constructor <;> grind
  have vN' := (vN.near clN).wide (f := eN) (by grind)
  have eN' : subR (havR (5400000 - d) (5400000 - c)).1 (havR (5400000 - d) (5400000 - c)).2.1 (havR (a - (5400000 - u)) (b - (5400000 - v))).1 (havR (a - (5400000 - u)) (b - (5400000 - v))).2.1 = numN a b c d u v := by
    unfold numN
    rw [k.1]
  have eD' : mulR (cosR a b).1 (cosR a b).2.1 (cosR (5400000 - v) (5400000 - u)).1 (cosR (5400000 - v) (5400000 - u)).2.1 = ((cosV a b (5400000 - v) (5400000 - u)).1, (cosV a b (5400000 - v) (5400000 - u)).2, 0) := by
    rw [q.1]
    have := oD.2.2.2
    generalize mulR (cosR a b).1 (cosR a b).2.1 (cosR (5400000 - v) (5400000 - u)).1 (cosR (5400000 - v) (5400000 - u)).2.1 = r at *
    obtain ⟨r1, r2, r3⟩ := r
    dsimp only at this ⊢
    rw [this]
  rw [eN'] at vN'
  rw [eD'] at vD oD
  rw [top_eq h1 h2 u0' uv v1]
  clear eN' eD' vN p1 p2 clN sq cq k q
  generalize numN a b c d u v = N at *
  generalize cosV a b (5400000 - v) (5400000 - u) = D at *
  unfold topS
  by_cases c1 : D.1 ≤ 0 ∧ 0 ≤ D.2
  · left
    rw [if_pos c1]
  · right
    rw [if_neg c1]
    have cx0 := co_lat (h := x) (by have := le_c l1.2.1; unfold Hs at hx; rw [show ((-5400000 : Int) : Rat) = -5400000 by rfl] at this; grind) (by have := le_c l1.2.2.2; unfold Hs at hx; rw [show ((5400000 : Int) : Rat) = 5400000 by rfl] at this; grind)
    have ch0 := co_lat s.1 s.2.1
    have vD2 := vD.2.2
    unfold Hs at vD2
    dsimp only at vD2
    have pos : -(5 * e0) ≤ co x * co h' := by
      have := Rat.mul_nonneg (show 0 ≤ co x + e0 by grind) (show 0 ≤ co h' + e0 by grind)
      have m1 := Rat.mul_nonneg (show 0 ≤ e0 by grind) (show 0 ≤ 2 - co x by grind)
      have m2 := Rat.mul_nonneg (show 0 ≤ e0 by grind) (show 0 ≤ 2 - co h' by grind)
      have m3 : e0 * e0 ≤ e0 / 4 := by
        have := Rat.mul_nonneg (show 0 ≤ e0 by grind) (show 0 ≤ 1 / 4 - e0 by grind)
        grind
      grind
    have hi : 0 ≤ D.2 := of_c (e := 1 / 2) (by rw [show ((0 : Int) : Rat) = 0 by rfl]; grind) (by grind)
    have d1 : 1 ≤ D.1 := by omega
    have D1 := le_c d1
    rw [show ((1 : Int) : Rat) = 1 by rfl] at D1
    have chp : 1 / 2147483648 ≤ co h' := by
      rcases (Rat.le_total : 1 / 2147483648 ≤ co h' ∨ co h' ≤ 1 / 2147483648) with g | g
      · exact g
      · have bx := (bdq x).1
        have := Rat.mul_nonneg (show 0 ≤ 1 / 2147483648 - co h' by grind) (show 0 ≤ co x + e0 by grind)
        have m1 := Rat.mul_nonneg (show 0 ≤ e0 by grind) (show 0 ≤ 1 + co h' by grind)
        have e0s : e0 = 1048576 * u0 := rfl
        have bx2 := bx.2
        have vl := vD2.1
        clear hA bt vN' vD oD cx ch hz hh hx hy
        generalize co x = X at *
        generalize co h' = H at *
        grind
    have ca := (coq A)
    have hq : Cl (100000 * u0) (si (5400000 - A)) (1 - 2 * ((1 - co A) / 2)) := by
      rw [show 1 - 2 * ((1 - co A) / 2) = co A by grind]
      exact ca.1.wide (by grind)
    have bA := (bdq A).1
    by_cases c5 : (divR N.1 N.2.1 D.1 D.2).2.2 = 5
    · rw [if_pos c5, ahav_all]
      refine ⟨rfl, by decide, by decide, by decide, ?_, chp⟩
      unfold Hs fin23
      dsimp only
      rw [show ((0 : Int) : Rat) = 0 by rfl, show ((10800000 : Int) : Rat) = 10800000 by rfl]
      constructor <;> grind
    · have c0 : (divR N.1 N.2.1 D.1 D.2).2.2 = 0 := by
        rcases div_err vN'.2.1 vD.2.1 (fun g => c1 g) with g | g
        · exact g
        · exact absurd g c5
      have vQ := div_v (n := N) (d := (D.1, D.2, (0 : Int))) (e := eN) (δ := co x * co h') (X := (1 - co A) / 2) vN' vD d1 (by grind) (by grind) (by grind) c0
      dsimp only at vQ
      have r := ahav_v vQ hq (by grind) (by grind) (by grind) (by grind) w12 w11 w10
      rw [show 5400000 - (5400000 - A) = A by grind] at r
      rw [if_neg c5, if_neg (by omega)]
      have f23 : fin23 (ahavR (divR N.1 N.2.1 D.1 D.2).1 (divR N.1 N.2.1 D.1 D.2).2.1) = ahavR (divR N.1 N.2.1 D.1 D.2).1 (divR N.1 N.2.1 D.1 D.2).2.1 := by
        unfold fin23
        rw [if_neg (by rw [r.1]; decide)]
      rw [f23]
      exact ⟨r.1, r.2.1, r.2.2.1, r.2.2.2.1, r.2.2.2.2, chp⟩
theorem fold {z : Rat} (z0 : -10800000 ≤ z) (z1 : z ≤ 16200000) : ∃ A : Rat, 0 ≤ A ∧ A ≤ 10800000 ∧ Cl (3000 * u0) (co A) (co z) ∧ ((∃ m : Int, A = z + 21600000 * (m : Rat)) ∨ (∃ m : Int, -A = z + 21600000 * (m : Rat) ∧ Cl (3000 * u0) (si A) (-si z))) := by
  have u := u0_bd.1
  rcases (Rat.le_total : 0 ≤ z ∨ z ≤ 0) with c | c
  · rcases (Rat.le_total : z ≤ 10800000 ∨ 10800000 ≤ z) with c2 | c2
    · exact ⟨z, c, c2, Cl.refl _ (by grind), .inl ⟨0, by rw [show ((0 : Int) : Rat) = 0 by rfl]; grind⟩⟩
    · have n := negq z
      have t := turn_eq (-z) 1
      rw [show ((1 : Int) : Rat) = 1 by rfl, show -z + 21600000 * 1 = 21600000 - z by grind] at t
      rw [← t.1, ← t.2] at n
      exact ⟨21600000 - z, by grind, by grind, n.1.wide (by grind), .inr ⟨-1, by rw [show ((-1 : Int) : Rat) = -1 by rfl]; grind, n.2.wide (by grind)⟩⟩
  · have n := negq z
    exact ⟨-z, by grind, by grind, n.1.wide (by grind), .inr ⟨0, by rw [show ((0 : Int) : Rat) = 0 by rfl]; grind, n.2.wide (by grind)⟩⟩
theorem si_up {q : Rat} (h0 : 0 ≤ q) (h1 : q ≤ 10800000) : -(22000 * u0) ≤ si q := by
  have u := u0_bd.1
  rcases (Rat.le_total : q ≤ 5400000 ∨ 5400000 ≤ q) with c | c
  · have := si_half h0 c
    grind
  · have s := si_half (q := 10800000 - q) (by grind) (by grind)
    have r := reflq q
    unfold Cl at r
    generalize si (10800000 - q) = a at *
    generalize si q = b at *
    grind
theorem si_dn {q : Rat} (h0 : 10800000 ≤ q) (h1 : q ≤ 21600000) : si q ≤ 42000 * u0 := by
  have u := u0_bd.1
  have s := si_up (q := q - 10800000) (by grind) (by grind)
  have o := (oppq (q - 10800000)).2
  rw [show q - 10800000 + 10800000 = q by grind] at o
  unfold Cl at o
  generalize si (q - 10800000) = a at *
  generalize si q = b at *
  grind
theorem si_near {A τ : Rat} (h0 : 0 ≤ A) (h1 : A ≤ 10800000) (hτ : si A ≤ τ) (h2 : 0 ≤ τ) : A ≤ 8000000 * (τ + e0) ∨ 10800000 - A ≤ 8000000 * (τ + e0) := by
  have b := tb_bd
  have u := u0_bd
  have ee : e0 = 1048576 * u0 := rfl
  have eb := e0_bd
  rcases (Rat.le_total : A ≤ 5400000 ∨ 5400000 ≤ A) with c | c
  · left
    have p := (si_pos h0 c).1
    have m : A / 3437750 ≤ tb * A := by
      have := Rat.mul_nonneg (show 0 ≤ tb - 1 / 3437750 by grind) h0
      grind
    generalize si A = s at *
    generalize tb * A = w at *
    grind
  · right
    have p := (si_pos (q := 10800000 - A) (by grind) (by grind)).1
    have r := reflq A
    have m : (10800000 - A) / 3437750 ≤ tb * (10800000 - A) := by
      have := Rat.mul_nonneg (show 0 ≤ tb - 1 / 3437750 by grind) (show 0 ≤ 10800000 - A by grind)
      grind
    unfold Cl at r
    generalize si (10800000 - A) = s' at *
    generalize si A = s at *
    generalize tb * (10800000 - A) = w at *
    grind
theorem side_v {x y t h' z' A : Rat} {p q : Int} (s : Sees x y t h' z') (y0 : -5400000 ≤ y) (y1 : y ≤ 5400000) (ch : 1 / 2147483648 ≤ co h') (A0 : 0 ≤ A) (A1 : A ≤ 10800000)
    (hf : (∃ m : Int, A = z' + 21600000 * (m : Rat)) ∨ (∃ m : Int, -A = z' + 21600000 * (m : Rat) ∧ Cl (3000 * u0) (si A) (-si z'))) (hA : Hs dA p q A) :
    (si t ≤ 42000 * u0 → Dr dS p q z') ∧ (-(42000 * u0) ≤ si t → ∃ m : Int, Hs dS (-q) (-p) (z' + 21600000 * (m : Rat))) ∧ (Dr dS p q z' ∨ ∃ m : Int, Hs dS (-q) (-p) (z' + 21600000 * (m : Rat))) := by
  obtain ⟨w1, w2, w3, w4, w5, w6, w7, w8, w9, w10, w11, w12, w13, w14, w15, w16, w17⟩ := lvH
  obtain ⟨h0, h1, z0, z1, k1, k2, k3⟩ := s
  have eb := e0_bd
  have ub := u0_bd
  have ee : e0 = 1048576 * u0 := rfl
  have cy := co_lat y0 y1
  have bt := bdq2 t
  have hn := hA.neg
  have small : ∀ w : Rat, co h' * w ≤ 5 * eT → w ≤ 4294967296 * (8 * eT) := fun w hw => by
    rcases (Rat.le_total : w ≤ 4294967296 * (8 * eT) ∨ 4294967296 * (8 * eT) ≤ w) with c | c
    · exact c
    · have := Rat.mul_nonneg (show 0 ≤ co h' - 1 / 2147483648 by grind) (show 0 ≤ w by grind)
      grind
  have nearA : si A ≤ 4294967296 * (10 * eT) → A ≤ dA ∨ 10800000 - A ≤ dA := fun hs => by
    rcases si_near A0 A1 hs (by grind) with g | g
    · left; grind
    · right; grind
  have ey : eaT y t = -(co y * si t) := rfl
  refine ⟨fun ht => ?_, fun ht => ?_, ?_⟩
  · rcases hf with ⟨m, hm⟩ | ⟨m, hm, hs⟩
    · exact ⟨m, by rw [← hm]; exact hA.wide (by grind) (Int.le_refl _) (Int.le_refl _)⟩
    · -- east: the sine of the azimuth is not below 0
      have a1 : -(4 * eT) ≤ co h' * si z' := by
        unfold Cl at k3
        have m1 := Rat.mul_nonneg (show 0 ≤ co y + e0 by grind) (show 0 ≤ 42000 * u0 - si t by grind)
        have m2 := Rat.mul_nonneg (show 0 ≤ u0 by grind) (show 0 ≤ 2 - co y by grind)
        have m3 := mul_abs (a := e0) (b := si t) (A := e0) (B := 2) (by grind) (by grind) bt.2.1 bt.2.2
        have m4 : e0 * u0 ≤ u0 := by
          have := Rat.mul_nonneg (show 0 ≤ u0 by grind) (show 0 ≤ 1 - e0 by grind)
          grind
        rw [ey] at k3
        have m1' : 0 ≤ co y * (42000 * u0) - co y * si t + e0 * (42000 * u0) - e0 * si t := by grind
        generalize co y * si t = v1 at *
        generalize e0 * si t = v2 at *
        generalize co h' * si z' = v3 at *
        grind
      have a2 : co h' * si A ≤ 5 * eT := by
        have m1 := mul_abs (a := co h') (b := si A - -si z') (A := 2) (B := 3000 * u0) (by grind) (bdq2 h').1.2 hs.1 hs.2
        rw [show co h' * (si A - -si z') = co h' * si A + co h' * si z' by grind] at m1
        grind
      have a3 := small _ a2
      rcases nearA (by grind) with g | g
      · refine ⟨m, ?_⟩
        rw [← hm]
        unfold Hs at hA ⊢
        constructor <;> grind
      · refine ⟨m + 1, ?_⟩
        rw [Rat.intCast_add, show ((1 : Int) : Rat) = 1 by rfl]
        unfold Hs at hA ⊢
        constructor <;> grind
  · rcases hf with ⟨m, hm⟩ | ⟨m, hm, hs⟩
    · have a1 : co h' * si z' ≤ 4 * eT := by
        unfold Cl at k3
        have m1 := Rat.mul_nonneg (show 0 ≤ co y + e0 by grind) (show 0 ≤ 42000 * u0 + si t by grind)
        have m2 := Rat.mul_nonneg (show 0 ≤ u0 by grind) (show 0 ≤ 2 - co y by grind)
        have m3 := mul_abs (a := e0) (b := si t) (A := e0) (B := 2) (by grind) (by grind) bt.2.1 bt.2.2
        have m4 : e0 * u0 ≤ u0 := by
          have := Rat.mul_nonneg (show 0 ≤ u0 by grind) (show 0 ≤ 1 - e0 by grind)
          grind
        rw [ey] at k3
        have m1' : 0 ≤ co y * (42000 * u0) + co y * si t + e0 * (42000 * u0) + e0 * si t := by grind
        generalize co y * si t = v1 at *
        generalize e0 * si t = v2 at *
        generalize co h' * si z' = v3 at *
        grind
      have es : si A = si z' := by rw [hm]; exact (turn_eq z' m).2
      have a3 := small (si A) (by rw [es]; grind)
      rcases nearA (by grind) with g | g
      · refine ⟨m, ?_⟩
        rw [← hm]
        unfold Hs at hA ⊢
        rw [Rat.intCast_neg, Rat.intCast_neg]
        constructor <;> grind
      · refine ⟨m - 1, ?_⟩
        rw [Rat.intCast_sub, show ((1 : Int) : Rat) = 1 by rfl]
        unfold Hs at hA ⊢
        rw [Rat.intCast_neg, Rat.intCast_neg]
        constructor <;> grind
    · exact ⟨m, by rw [← hm]; exact hn.wide (by grind) (Int.le_refl _) (Int.le_refl _)⟩
  · rcases hf with ⟨m, hm⟩ | ⟨m, hm, hs⟩
    · left
      exact ⟨m, by rw [← hm]; exact hA.wide (by grind) (Int.le_refl _) (Int.le_refl _)⟩
    · right
      exact ⟨m, by rw [← hm]; exact hn.wide (by grind) (Int.le_refl _) (Int.le_refl _)⟩
theorem turn_hold {p q : Int} {d z : Rat} (_hpq : p ≤ q) (h : ∃ m : Int, Hs d p q (z + 21600000 * (m : Rat))) (hd : 0 ≤ d) : Dr d (turnL p q) (turnH p q) z := by
  obtain ⟨m, h⟩ := h
  unfold turnL turnH
  by_cases c : 21600000 ≤ q - p
  · rw [if_pos c, if_pos c]
    exact Dr.all hd z
  · rw [if_neg c, if_neg c]
    obtain ⟨k, hk⟩ : ∃ k : Int, p % 21600000 = p + 21600000 * k := ⟨-(p / 21600000), by omega⟩
    refine ⟨m + k, ?_⟩
    rw [hk]
    unfold Hs at h ⊢
    rw [Rat.intCast_add, Rat.intCast_add, Rat.intCast_add, Rat.intCast_sub, Rat.intCast_mul, show ((21600000 : Int) : Rat) = 21600000 by rfl]
    constructor <;> grind
theorem turn_dir {p q : Int} (h : p ≤ q) : DirR (turnL p q, turnH p q, 0) ∧ ((turnL p q = 0 ∧ turnH p q = 21600000) ∨ turnH p q < turnL p q + 21600000) := by
  unfold DirR turnL turnH
  by_cases c : 21600000 ≤ q - p
  · rw [if_pos c, if_pos c]
    exact ⟨⟨by decide, by decide, by decide, by decide, rfl⟩, .inl ⟨rfl, rfl⟩⟩
  · rw [if_neg c, if_neg c]
    dsimp only
    exact ⟨⟨by omega, by omega, by omega, by omega, rfl⟩, .inr (by omega)⟩
noncomputable def hZ (a b c d e f : Int) : Int × Int × Int := if (topM a b c d e f (zenM a b c d e f).1 (zenM a b c d e f).2.1).2.2 = 0 then turnedS (topM a b c d e f (zenM a b c d e f).1 (zenM a b c d e f).2.1).1 (topM a b c d e f (zenM a b c d e f).1 (zenM a b c d e f).2.1).2.1 e f else (0, 21600000, 0)
noncomputable def hH (a b c d e f : Int) : Int × Int × Int := (5400000 - (zenM a b c d e f).2.1, 5400000 - (zenM a b c d e f).1, 0)
theorem turnR_ok {p q : Int} (h1 : -100000000 ≤ p) (h2 : p ≤ q) (h3 : q ≤ 100000000) : turnR p q = (turnL p q, turnH p q, 0) := by
  unfold turnR
  rw [avalid_mk (by omega) h2 (by omega)]
  rfl
theorem turnedS_eq {p q : Int} (e f : Int) (p0 : 0 ≤ p) (pq : p ≤ q) (q1 : q ≤ 10800000) : turnedS p q e f = if turnL e f ≥ 10800000 ∧ turnH e f ≤ 21600000 then (p, q, 0) else if turnH e f ≤ 10800000 then (turnL (21600000 - q) (21600000 - p), turnH (21600000 - q) (21600000 - p), 0) else if p + q > 10800000 then (p, 21600000 - p, 0) else (turnL (-q) q, turnH (-q) q, 0) := by
  unfold turnedS
  rw [turnR_ok (by omega) (by omega) (by omega), turnR_ok (by omega) (by omega) (by omega)]
theorem haversine_ok {a b c d e f : Int} (h : triB a b c d e f = true) : hsolM a b c d e f = ((hH a b c d e f).1, (hH a b c d e f).2.1, (hZ a b c d e f).1, (hZ a b c d e f).2.1, 0) ∧ Hold a b c d e f (hH a b c d e f) (hZ a b c d e f) ∧ (zenM a b c d e f).2.2 = 0 ∧ 0 ≤ (zenM a b c d e f).1 ∧ (zenM a b c d e f).1 ≤ (zenM a b c d e f).2.1 ∧ (zenM a b c d e f).2.1 ≤ 10800000 := by
  obtain ⟨w1, w2, w3, w4, w5, w6, w7, w8, w9, w10, w11, w12, w13, w14, w15, w16, w17⟩ := lvH
  obtain ⟨h1, h2, h3⟩ := tri_bd h
  have l1 := lat_bd h1
  have l2 := lat_bd h2
  have l3 := aval_bd h3
  obtain ⟨x0, y0, t0⟩ := tri_point h
  have ds := lv.2.2.1
  obtain ⟨h', z', s'⟩ := sees (a : Rat) (c : Rat) (e : Rat)
  obtain ⟨g1, g2, g3, g4, _⟩ := zen_v h x0 y0 t0 s'
  have LH : LatR (hH a b c d e f) := by
    unfold LatR hH
    dsimp only
    exact ⟨by omega, by omega, by omega, rfl⟩
  have top : ∀ x y t : Rat, Hs 0 a b x → Hs 0 c d y → Hs 0 e f t → ∀ h z : Rat, Sees x y t h z → ∃ A : Rat, 0 ≤ A ∧ A ≤ 10800000 ∧ ((∃ m : Int, A = z + 21600000 * (m : Rat)) ∨ (∃ m : Int, -A = z + 21600000 * (m : Rat) ∧ Cl (3000 * u0) (si A) (-si z))) ∧
      ((topM a b c d e f (zenM a b c d e f).1 (zenM a b c d e f).2.1).2.2 = 21 ∨ ((topM a b c d e f (zenM a b c d e f).1 (zenM a b c d e f).2.1).2.2 = 0 ∧ 0 ≤ (topM a b c d e f (zenM a b c d e f).1 (zenM a b c d e f).2.1).1 ∧ (topM a b c d e f (zenM a b c d e f).1 (zenM a b c d e f).2.1).1 ≤ (topM a b c d e f (zenM a b c d e f).1 (zenM a b c d e f).2.1).2.1 ∧ (topM a b c d e f (zenM a b c d e f).1 (zenM a b c d e f).2.1).2.1 ≤ 10800000 ∧ Hs dA (topM a b c d e f (zenM a b c d e f).1 (zenM a b c d e f).2.1).1 (topM a b c d e f (zenM a b c d e f).1 (zenM a b c d e f).2.1).2.1 A ∧ 1 / 2147483648 ≤ co h)) := by
    intro x y t hx hy ht h'' z'' s''
    have zv := zen_v h hx hy ht s''
    obtain ⟨A, A0, A1, cA, hf⟩ := fold s''.2.2.1 s''.2.2.2.1
    exact ⟨A, A0, A1, hf, top_v h hx hy s'' A0 A1 cA g2 g3 g4 zv.2.2.2.2⟩
  obtain ⟨A, A0, A1, hf, tp⟩ := top a c e x0 y0 t0 h' z' s'
  have az := azi_eq (u := (zenM a b c d e f).1) (v := (zenM a b c d e f).2.1) h g2 g3 g4
  have az' : aziM a b c d e f (zenM a b c d e f).1 (zenM a b c d e f).2.1 = if (topM a b c d e f (zenM a b c d e f).1 (zenM a b c d e f).2.1).2.2 = 0 then hZ a b c d e f else (0, 0, 21) := by
    rw [az]
    unfold hZ
    rcases tp with tp | ⟨q1, q2, q3, q4, q5, q6⟩
    · rw [tp]
      rfl
    · rw [q1]
      simp only [ne_eq, not_true_eq_false, if_false, if_true]
      unfold turnedS
      generalize topM a b c d e f (zenM a b c d e f).1 (zenM a b c d e f).2.1 = r at *
      rw [i64w (by omega), i64w (by omega), i64w (by omega), i64w (by omega), Int.zero_sub]
  have val : hsolM a b c d e f = ((hH a b c d e f).1, (hH a b c d e f).2.1, (hZ a b c d e f).1, (hZ a b c d e f).2.1, 0) := by
    have z : ((0 : Int) != 0) = false := rfl
    unfold hsolM
    simp only [lt]
    rw [g1, z, cond_false, az', less_ok (by omega) (by omega)]
    rcases tp with tp | ⟨q1, q2, q3, q4, q5, q6⟩
    · have hz : hZ a b c d e f = (0, 21600000, 0) := by unfold hZ; rw [tp]; rfl
      rw [tp, hz]
      rfl
    · rw [if_pos q1]
      have e0' : (hZ a b c d e f).2.2 = 0 := by
        unfold hZ
        rw [if_pos q1, turnedS_eq e f q2 q3 q4]
        repeat' split
        all_goals rfl
      rw [e0']
      rfl
  have D : DirR (hZ a b c d e f) ∧ (((hZ a b c d e f).1 = 0 ∧ (hZ a b c d e f).2.1 = 21600000) ∨ (hZ a b c d e f).2.1 < (hZ a b c d e f).1 + 21600000) := by
    unfold hZ
    rcases tp with tp | ⟨q1, q2, q3, q4, q5, q6⟩
    · rw [tp, if_neg (by decide)]
      exact ⟨⟨by decide, by decide, by decide, by decide, rfl⟩, .inl ⟨rfl, rfl⟩⟩
    · rw [if_pos q1, turnedS_eq e f q2 q3 q4]
      generalize topM a b c d e f (zenM a b c d e f).1 (zenM a b c d e f).2.1 = r at *
      split
      · exact ⟨⟨q2, q3, by dsimp only; omega, by dsimp only; omega, rfl⟩, .inr (by dsimp only; omega)⟩
      · split
        · exact turn_dir (by omega)
        · split
          · refine ⟨⟨q2, by dsimp only; omega, by dsimp only; omega, by dsimp only; omega, rfl⟩, ?_⟩
            dsimp only
            omega
          · exact turn_dir (by omega)
  refine ⟨val, ⟨LH, D.1, D.2, ?_, ?_⟩, g1, g2, g3, g4⟩
  · intro x y t hx hy ht h'' z'' s''
    have zv := (zen_v h hx hy ht s'').2.2.2.2
    unfold Hs at zv ⊢
    unfold hH
    dsimp only
    rw [Rat.intCast_sub, Rat.intCast_sub, show ((5400000 : Int) : Rat) = 5400000 by rfl]
    constructor <;> grind
  · intro x y t hx hy ht h'' z'' s''
    obtain ⟨A, A0, A1, hf, tp⟩ := top x y t hx hy ht h'' z'' s''
    unfold hZ
    rcases tp with tp | ⟨q1, q2, q3, q4, q5, q6⟩
    · rw [tp, if_neg (by decide)]
      exact Dr.all (by grind) z''
    · rw [if_pos q1, turnedS_eq e f q2 q3 q4]
      have yl := le_c l2.2.1
      have yr := le_c l2.2.2.2
      rw [show ((-5400000 : Int) : Rat) = -5400000 by rfl] at yl
      rw [show ((5400000 : Int) : Rat) = 5400000 by rfl] at yr
      obtain ⟨s1, s2, s3⟩ := side_v s'' (by unfold Hs at hy; grind) (by unfold Hs at hy; grind) q6 A0 A1 hf q5
      generalize topM a b c d e f (zenM a b c d e f).1 (zenM a b c d e f).2.1 = r at *
      have qd : (turnL e f ≥ 10800000 ∧ turnH e f ≤ 21600000 → si t ≤ 42000 * u0) ∧ (turnH e f ≤ 10800000 → -(42000 * u0) ≤ si t) := by
        have ub := u0_bd.1
        unfold turnL turnH
        by_cases c5 : 21600000 ≤ f - e
        · rw [if_pos c5, if_pos c5]
          exact ⟨fun g => by omega, fun g => by omega⟩
        · rw [if_neg c5, if_neg c5]
          obtain ⟨k, hk⟩ : ∃ k : Int, e % 21600000 = e + 21600000 * k := ⟨-(e / 21600000), by omega⟩
          have tt := (turn_eq t k).2
          unfold Hs at ht
          rw [← tt]
          have k0 : 0 ≤ e % 21600000 := Int.emod_nonneg e (by omega)
          constructor
          · intro g
            have a1 := le_c (show 10800000 ≤ e + 21600000 * k by omega)
            have a2 := le_c (show f + 21600000 * k ≤ 21600000 by omega)
            rw [Rat.intCast_add, Rat.intCast_mul, show ((21600000 : Int) : Rat) = 21600000 by rfl] at a1 a2
            rw [show ((10800000 : Int) : Rat) = 10800000 by rfl] at a1
            exact si_dn (by grind) (by grind)
          · intro g
            have a1 := le_c (show 0 ≤ e + 21600000 * k by omega)
            have a2 := le_c (show f + 21600000 * k ≤ 10800000 by omega)
            rw [Rat.intCast_add, Rat.intCast_mul, show ((21600000 : Int) : Rat) = 21600000 by rfl] at a1 a2
            rw [show ((0 : Int) : Rat) = 0 by rfl] at a1
            rw [show ((10800000 : Int) : Rat) = 10800000 by rfl] at a2
            have := si_up (q := t + 21600000 * (k : Rat)) (by grind) (by grind)
            grind
      split
      · rename_i g
        exact s1 (qd.1 g)
      · split
        · rename_i g
          obtain ⟨m, hm⟩ := s2 (qd.2 g)
          refine turn_hold (by omega) ⟨m + 1, ?_⟩ (by grind)
          unfold Hs at hm ⊢
          rw [Rat.intCast_neg, Rat.intCast_neg] at hm
          rw [Rat.intCast_sub, Rat.intCast_sub, Rat.intCast_add, show ((21600000 : Int) : Rat) = 21600000 by rfl, show ((1 : Int) : Rat) = 1 by rfl]
          constructor <;> grind
        · have rl := le_c q4
          have r0 := le_c q2
          have rr := le_c q3
          rw [show ((10800000 : Int) : Rat) = 10800000 by rfl] at rl
          rw [show ((0 : Int) : Rat) = 0 by rfl] at r0
          split
          · rcases s3 with ⟨m, hm⟩ | ⟨m, hm⟩
            · refine ⟨m, hm.wide (Rat.le_refl) (Int.le_refl _) (by dsimp only; omega)⟩
            · refine ⟨m + 1, ?_⟩
              unfold Hs at hm ⊢
              dsimp only
              rw [Rat.intCast_neg, Rat.intCast_neg] at hm
              rw [Rat.intCast_sub, Rat.intCast_add, show ((21600000 : Int) : Rat) = 21600000 by rfl, show ((1 : Int) : Rat) = 1 by rfl]
              constructor <;> grind
          · refine turn_hold (by omega) ?_ (by grind)
            rcases s3 with ⟨m, hm⟩ | ⟨m, hm⟩
            · exact ⟨m, hm.wide (Rat.le_refl) (by omega) (Int.le_refl _)⟩
            · exact ⟨m, hm.wide (Rat.le_refl) (Int.le_refl _) (by omega)⟩
end Go.Proofs.YtmididlfnajhiaaGreatDoor

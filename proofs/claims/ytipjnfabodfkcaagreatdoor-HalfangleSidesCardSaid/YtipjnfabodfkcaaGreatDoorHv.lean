/-
  Haversines and quotients: what they hold; the signs of sines. No program here.
-/
import Derived.Test.YtipjnfabodfkcaaGreatDoorHd
namespace Go.Proofs.YtipjnfabodfkcaaGreatDoor
open SM TB TA
open Ev (lt keepE)
theorem div_err {a b c d : Int} (h1 : validB a b = true) (h2 : validB c d = true) (hz : ¬ (c ≤ 0 ∧ 0 ≤ d)) : (divR a b c d).2.2 = 0 ∨ (divR a b c d).2.2 = 5 := by
  unfold divR
  rw [if_pos (both_mk h1 h2), if_neg (by simp [zeroB]; omega)]
  unfold fitR
  split <;> simp
theorem hav_v {a b : Int} {d q : Rat} (hv : avalidB a b = true) (hd : 0 ≤ d) (hd1 : d ≤ 1) (h : Hs d a b q) : Vl (havR a b) (1000 * d + 3 * e1) ((1 - co q) / 2) := by
  have c := cos_B hv hd hd1 h
  have e1' : (cosR a b).1 = encL (a + 5400000) (b + 5400000) := by simp [cosR, hv]
  have e2' : (cosR a b).2.1 = encH (a + 5400000) (b + 5400000) := by simp [cosR, hv]
  have e3 : (havR a b).1 = (1073741824 - encH (a + 5400000) (b + 5400000)) / 2 := by simp [havR, hv]
  have e4 : (havR a b).2.1 = (1073741824 - encL (a + 5400000) (b + 5400000) + 1) / 2 := by simp [havR, hv]
  refine ⟨(hav_one hv).2.2.2, (hav_one hv).val, ?_⟩
  rw [e1', e2'] at c
  rw [e3, e4]
  have e1b := e1_bd
  have half : ∀ x : Int, ((x / 2 : Int) : Rat) ≤ (x : Rat) / 2 ∧ (x : Rat) / 2 - 1 / 2 ≤ ((x / 2 : Int) : Rat) := fun x => by
    have h1 := le_c (show 2 * (x / 2) ≤ x by omega)
    have h2 := le_c (show x ≤ 2 * (x / 2) + 1 by omega)
    rw [Rat.intCast_mul] at h1
    rw [Rat.intCast_add, Rat.intCast_mul] at h2
    rw [show ((2 : Int) : Rat) = 2 by rfl] at h1 h2
    rw [show ((1 : Int) : Rat) = 1 by rfl] at h2
    constructor <;> grind
  have p := half (1073741824 - encH (a + 5400000) (b + 5400000))
  have r := half (1073741824 - encL (a + 5400000) (b + 5400000) + 1)
  rw [Rat.intCast_sub] at p
  rw [Rat.intCast_add, Rat.intCast_sub] at r
  rw [show ((1073741824 : Int) : Rat) = 1073741824 by rfl] at p r
  rw [show ((1 : Int) : Rat) = 1 by rfl] at r
  unfold Cq at c
  unfold Hs at *
  generalize (encH (a + 5400000) (b + 5400000) : Rat) = u at *
  generalize (encL (a + 5400000) (b + 5400000) : Rat) = v at *
  generalize co q = w at *
  constructor <;> grind
theorem ahav_v {r : Int × Int × Int} {e t d q X : Rat} (h : Vl r e X) (hq : Cl t (si q) (1 - 2 * X)) (q0 : -5400000 ≤ q) (q1 : q ≤ 5400000) (he : 0 ≤ e) (ht : 0 ≤ t) (hd0 : 0 ≤ d) (hs : 2 * e + 2 * e1 + 2147483648 * t ≤ 1 / 4) (hd : 100000 * (2 * e + 2 * e1 + 2147483648 * t + 4 * e1) ≤ d * d) :
    (ahavR r.1 r.2.1).2.2 = 0 ∧ 0 ≤ (ahavR r.1 r.2.1).1 ∧ (ahavR r.1 r.2.1).1 ≤ (ahavR r.1 r.2.1).2.1 ∧ (ahavR r.1 r.2.1).2.1 ≤ 10800000 ∧ Hs d (ahavR r.1 r.2.1).1 (ahavR r.1 r.2.1).2.1 (5400000 - q) := by
  have b := (bdq q).2
  have u := u0_bd
  have e1b := e1_bd
  have ub : 1073741824 * (8192 * u0) ≤ e1 := by decide +kernel
  have v := val_bd h.2.1
  have hv := h.2.1
  have hh := h.2.2
  unfold Hs at hh
  unfold Cl at hq
  have c1 : r.1 ≤ 1073741824 := of_c (e := 1 / 2) (by rw [show ((1073741824 : Int) : Rat) = 1073741824 by rfl]; grind) (by grind)
  have c2 : 0 ≤ r.2.1 := of_c (e := 1 / 2) (by rw [show ((0 : Int) : Rat) = 0 by rfl]; grind) (by grind)
  have lo : ((max r.1 0 : Int) : Rat) ≤ 1073741824 * X + e + e1 + 1073741824 * t := by
    rcases Int.le_total r.1 0 with c | c
    · rw [Int.max_eq_right c, show ((0 : Int) : Rat) = 0 by rfl]; grind
    · rw [Int.max_eq_left c]; grind
  have hi : 1073741824 * X - e - e1 - 1073741824 * t ≤ ((min r.2.1 1073741824 : Int) : Rat) := by
    rcases Int.le_total r.2.1 1073741824 with c | c
    · rw [Int.min_eq_left c]; grind
    · rw [Int.min_eq_right c, show ((1073741824 : Int) : Rat) = 1073741824 by rfl]; grind
  have sv : Vl (1073741824 - 2 * min r.2.1 1073741824, 1073741824 - 2 * max r.1 0, (0 : Int)) (2 * e + 2 * e1 + 2147483648 * t) (1 - 2 * X) := by
    refine ⟨rfl, val_mk (by dsimp only; omega) (by dsimp only; omega) (by dsimp only; omega), ?_⟩
    unfold Hs
    dsimp only
    rw [Rat.intCast_sub, Rat.intCast_sub, Rat.intCast_mul, Rat.intCast_mul, show ((1073741824 : Int) : Rat) = 1073741824 by rfl, show ((2 : Int) : Rat) = 2 by rfl]
    constructor <;> grind
  have sn' : Vl (1073741824 - 2 * min r.2.1 1073741824, 1073741824 - 2 * max r.1 0, (0 : Int)) (2 * e + 2 * e1 + 2147483648 * t) (si q) := by
    refine ⟨rfl, sv.2.1, ?_⟩
    have k := sv.2.2
    unfold Hs
    dsimp only
    rw [Rat.intCast_sub, Rat.intCast_sub, Rat.intCast_mul, Rat.intCast_mul, show ((1073741824 : Int) : Rat) = 1073741824 by rfl, show ((2 : Int) : Rat) = 2 by rfl]
    have lo' : ((max r.1 0 : Int) : Rat) ≤ 1073741824 * X + e ∨ ((max r.1 0 : Int) : Rat) = 0 := by
      rcases Int.le_total r.1 0 with c | c
      · right; rw [Int.max_eq_right c]; rfl
      · left; rw [Int.max_eq_left c]; grind
    have hi' : 1073741824 * X - e ≤ ((min r.2.1 1073741824 : Int) : Rat) ∨ ((min r.2.1 1073741824 : Int) : Rat) = 1073741824 := by
      rcases Int.le_total r.2.1 1073741824 with c | c
      · left; rw [Int.min_eq_left c]; grind
      · right; rw [Int.min_eq_right c]; rfl
    generalize ((max r.1 0 : Int) : Rat) = L at *
    generalize ((min r.2.1 1073741824 : Int) : Rat) = M at *
    constructor
    · rcases hi' with c | c <;> grind
    · rcases lo' with c | c <;> grind
  have k := asin_v sn' (Cl.refl (si q) (e := 0) (by grind)) q0 q1 (by grind) (by grind) hd0 (by grind) (by rw [show 1073741824 * (0 : Rat) = 0 by grind]; grind)
  obtain ⟨k1, k2⟩ := k
  dsimp only at k1 k2
  have a1 := k1.1
  have a2 := k1.2.1
  have a3 := k1.2.2.1
  have a4 := k1.2.2.2
  have ev : ahavR r.1 r.2.1 = (5400000 - (asinR (1073741824 - 2 * min r.2.1 1073741824) (1073741824 - 2 * max r.1 0)).2.1, 5400000 - (asinR (1073741824 - 2 * min r.2.1 1073741824) (1073741824 - 2 * max r.1 0)).1, 0) := by
    unfold ahavR acosR
    rw [hv]
    simp only [Bool.true_eq_false, if_false]
    rw [if_pos (by omega), if_pos a4]
  rw [ev]
  refine ⟨rfl, by dsimp only; omega, by dsimp only; omega, by dsimp only; omega, ?_⟩
  unfold Hs at k2 ⊢
  dsimp only
  rw [Rat.intCast_sub, Rat.intCast_sub, show ((5400000 : Int) : Rat) = 5400000 by rfl]
  constructor <;> grind
end Go.Proofs.YtipjnfabodfkcaaGreatDoor

/-
  Haversines and quotients: what they hold; the signs of sines. No program here.
-/
import Derived.Test.YtkjnheahaimpoaaGreatHd
namespace Go.Proofs.YtkjnheahaimpoaaGreat
open SM TB TA
open Ev (lt keepE)
theorem div_err {a b c d : Int} (h1 : validB a b = true) (h2 : validB c d = true) (hz : ¬ (c ≤ 0 ∧ 0 ≤ d)) : (divR a b c d).2.2 = 0 ∨ (divR a b c d).2.2 = 5 := by
  unfold divR
  rw [if_pos (both_mk h1 h2), if_neg (by simp [zeroB]; omega)]
  unfold fitR
  split <;> simp
theorem div_val {a b c d : Int} (h : (divR a b c d).2.2 = 0) : validB (divR a b c d).1 (divR a b c d).2.1 = true := by
  unfold divR at h ⊢
  obtain ⟨hb, hf⟩ := both_ok h
  rw [if_pos hb]
  split at hf
  · cases hf
  · rename_i hz
    rw [if_neg hz]
    obtain ⟨hv, e⟩ := fit_ok hf
    rw [e]; exact hv
theorem asn_low : asn (-1073741824) = -5400000 := asn_eq (by omega) ⟨by omega, by omega, by decide +kernel, .inr (by decide +kernel)⟩
theorem ahav_all : ahavR 0 1073741824 = (0, 10800000, 0) := by
  unfold ahavR acosR asinR
  simp [validB, asn_low]
theorem hav_v {a b : Int} {d q : Rat} (hv : avalidB a b = true) (hd : 0 ≤ d) (hd1 : d ≤ 1) (h : Hs d a b q) : Vl (havR a b) (1000 * d + 3 * e1) ((1 - co q) / 2) := by
  have c := cos_B hv hd hd1 h
  have e1' : (cosR a b).1 = encL (a + 5400000) (b + 5400000) := by simp [cosR, hv]
  have e2' : (cosR a b).2.1 = encH (a + 5400000) (b + 5400000) := by simp [cosR, hv]
  have e3 : (havR a b).1 = (1073741824 - encH (a + 5400000) (b + 5400000)) / 2 := by simp [havR, hv]
  have e4 : (havR a b).2.1 = (1073741824 - encL (a + 5400000) (b + 5400000) + 1) / 2 := by simp [havR, hv]
  refine ⟨(hav_one hv).2.2.2, (hav_one hv).val, ?_⟩
  rw [e1', e2'] at c
  rw [e3, e4]
  have e1b := e1_bd
  have half : ∀ x : Int, ((x / 2 : Int) : Rat) ≤ (x : Rat) / 2 ∧ (x : Rat) / 2 - 1 / 2 ≤ ((x / 2 : Int) : Rat) := fun x => by
    have h1 := le_c (show 2 * (x / 2) ≤ x by omega)
    have h2 := le_c (show x ≤ 2 * (x / 2) + 1 by omega)
    rw [Rat.intCast_mul] at h1
    rw [Rat.intCast_add, Rat.intCast_mul] at h2
    rw [show ((2 : Int) : Rat) = 2 by rfl] at h1 h2
    rw [show ((1 : Int) : Rat) = 1 by rfl] at h2
    constructor <;> grind
  have p := half (1073741824 - encH (a + 5400000) (b + 5400000))
  have r := half (1073741824 - encL (a + 5400000) (b + 5400000) + 1)
  rw [Rat.intCast_sub] at p
  rw [Rat.intCast_add, Rat.intCast_sub] at r
  rw [show ((1073741824 : Int) : Rat) = 1073741824 by rfl] at p r
  rw [show ((1 : Int) : Rat) = 1 by rfl] at r
  unfold Cq at c
  unfold Hs at *
  generalize (encH (a + 5400000) (b + 5400000) : Rat) = u at *
  generalize (encL (a + 5400000) (b + 5400000) : Rat) = v at *
  generalize co q = w at *
  constructor <;> grind
theorem ahav_v {r : Int × Int × Int} {e t d q X : Rat} (h : Vl r e X) (hq : Cl t (si q) (1 - 2 * X)) (q0 : -5400000 ≤ q) (q1 : q ≤ 5400000) (he : 0 ≤ e) (ht : 0 ≤ t) (hd0 : 0 ≤ d) (hs : 2 * e + 2 * e1 + 2147483648 * t ≤ 1 / 4) (hd : 100000 * (2 * e + 2 * e1 + 2147483648 * t + 4 * e1) ≤ d * d) :
    (ahavR r.1 r.2.1).2.2 = 0 ∧ 0 ≤ (ahavR r.1 r.2.1).1 ∧ (ahavR r.1 r.2.1).1 ≤ (ahavR r.1 r.2.1).2.1 ∧ (ahavR r.1 r.2.1).2.1 ≤ 10800000 ∧ Hs d (ahavR r.1 r.2.1).1 (ahavR r.1 r.2.1).2.1 (5400000 - q) := by
  have b := (bdq q).2
  have u := u0_bd
  have e1b := e1_bd
  have ub : 1073741824 * (8192 * u0) ≤ e1 := by decide +kernel
  have v := val_bd h.2.1
  have hv := h.2.1
  have hh := h.2.2
  unfold Hs at hh
  unfold Cl at hq
  have c1 : r.1 ≤ 1073741824 := of_c (e := 1 / 2) (by rw [show ((1073741824 : Int) : Rat) = 1073741824 by rfl]; grind) (by grind)
  have c2 : 0 ≤ r.2.1 := of_c (e := 1 / 2) (by rw [show ((0 : Int) : Rat) = 0 by rfl]; grind) (by grind)
  have lo : ((max r.1 0 : Int) : Rat) ≤ 1073741824 * X + e + e1 + 1073741824 * t := by
    rcases Int.le_total r.1 0 with c | c
    · rw [Int.max_eq_right c, show ((0 : Int) : Rat) = 0 by rfl]; grind
    · rw [Int.max_eq_left c]; grind
  have hi : 1073741824 * X - e - e1 - 1073741824 * t ≤ ((min r.2.1 1073741824 : Int) : Rat) := by
    rcases Int.le_total r.2.1 1073741824 with c | c
    · rw [Int.min_eq_left c]; grind
    · rw [Int.min_eq_right c, show ((1073741824 : Int) : Rat) = 1073741824 by rfl]; grind
  have sv : Vl (1073741824 - 2 * min r.2.1 1073741824, 1073741824 - 2 * max r.1 0, (0 : Int)) (2 * e + 2 * e1 + 2147483648 * t) (1 - 2 * X) := by
    refine ⟨rfl, val_mk (by dsimp only; omega) (by dsimp only; omega) (by dsimp only; omega), ?_⟩
    unfold Hs
    dsimp only
    rw [Rat.intCast_sub, Rat.intCast_sub, Rat.intCast_mul, Rat.intCast_mul, show ((1073741824 : Int) : Rat) = 1073741824 by rfl, show ((2 : Int) : Rat) = 2 by rfl]
    constructor <;> grind
  have sn' : Vl (1073741824 - 2 * min r.2.1 1073741824, 1073741824 - 2 * max r.1 0, (0 : Int)) (2 * e + 2 * e1 + 2147483648 * t) (si q) := by
    refine ⟨rfl, sv.2.1, ?_⟩
    have k := sv.2.2
    unfold Hs
    dsimp only
    rw [Rat.intCast_sub, Rat.intCast_sub, Rat.intCast_mul, Rat.intCast_mul, show ((1073741824 : Int) : Rat) = 1073741824 by rfl, show ((2 : Int) : Rat) = 2 by rfl]
    have lo' : ((max r.1 0 : Int) : Rat) ≤ 1073741824 * X + e ∨ ((max r.1 0 : Int) : Rat) = 0 := by
      rcases Int.le_total r.1 0 with c | c
      · right; rw [Int.max_eq_right c]; rfl
      · left; rw [Int.max_eq_left c]; grind
    have hi' : 1073741824 * X - e ≤ ((min r.2.1 1073741824 : Int) : Rat) ∨ ((min r.2.1 1073741824 : Int) : Rat) = 1073741824 := by
      rcases Int.le_total r.2.1 1073741824 with c | c
      · left; rw [Int.min_eq_left c]; grind
      · right; rw [Int.min_eq_right c]; rfl
    generalize ((max r.1 0 : Int) : Rat) = L at *
    generalize ((min r.2.1 1073741824 : Int) : Rat) = M at *
    constructor
    · rcases hi' with c | c <;> grind
    · rcases lo' with c | c <;> grind
  have k := asin_v sn' (Cl.refl (si q) (e := 0) (by grind)) q0 q1 (by grind) (by grind) hd0 (by grind) (by rw [show 1073741824 * (0 : Rat) = 0 by grind]; grind)
  obtain ⟨k1, k2⟩ := k
  dsimp only at k1 k2
  have a1 := k1.1
  have a2 := k1.2.1
  have a3 := k1.2.2.1
  have a4 := k1.2.2.2
  have ev : ahavR r.1 r.2.1 = (5400000 - (asinR (1073741824 - 2 * min r.2.1 1073741824) (1073741824 - 2 * max r.1 0)).2.1, 5400000 - (asinR (1073741824 - 2 * min r.2.1 1073741824) (1073741824 - 2 * max r.1 0)).1, 0) := by
    unfold ahavR acosR
    rw [hv]
    simp only [Bool.true_eq_false, if_false]
    rw [if_pos (by omega), if_pos a4]
  rw [ev]
  refine ⟨rfl, by dsimp only; omega, by dsimp only; omega, by dsimp only; omega, ?_⟩
  unfold Hs at k2 ⊢
  dsimp only
  rw [Rat.intCast_sub, Rat.intCast_sub, show ((5400000 : Int) : Rat) = 5400000 by rfl]
  constructor <;> grind
theorem div_v {n d : Int × Int × Int} {e δ X : Rat} (hn : Vl n e (δ * X)) (hd : Vl d e δ) (d0 : 1 ≤ d.1) (hX0 : -1 ≤ X) (hX : X ≤ 2) (he : 0 ≤ e) (ok : (divR n.1 n.2.1 d.1 d.2.1).2.2 = 0) : Vl (divR n.1 n.2.1 d.1 d.2.1) (8589934592 * e) X := by
  have vd := div_val ok
  refine ⟨ok, vd, ?_⟩
  have nb := val_bd hn.2.1
  have db := val_bd hd.2.1
  have ev : divR n.1 n.2.1 d.1 d.2.1 = (divL n.1 n.2.1 d.1 d.2.1, divH n.1 n.2.1 d.1 d.2.1, 0) := by
    have q := ok
    unfold divR at q ⊢
    obtain ⟨hb, hf⟩ := both_ok q
    rw [if_pos hb]
    split at hf
    · cases hf
    · rename_i hz
      rw [if_neg hz]
      exact (fit_ok hf).2
  rw [ev]
  obtain ⟨n', n1, n2, n3, n4⟩ := hn.2.2.clamp he nb.2.1
  obtain ⟨t', t1, t2, t3, t4⟩ := hd.2.2.clamp he db.2.1
  have D0 := le_c d0
  rw [show ((1 : Int) : Rat) = 1 by rfl] at D0
  -- the corners
  have l1 := (div_has (a := n.1) (b := n.2.1) (c := d.1) (d := d.2.1) (x := n.1) (y := d.1) (.inl (by omega)) (Int.le_refl _) nb.2.1 (Int.le_refl _) db.2.1).1
  have l2 := (div_has (a := n.1) (b := n.2.1) (c := d.1) (d := d.2.1) (x := n.1) (y := d.2.1) (.inl (by omega)) (Int.le_refl _) nb.2.1 db.2.1 (Int.le_refl _)).1
  have u1 := (div_has (a := n.1) (b := n.2.1) (c := d.1) (d := d.2.1) (x := n.2.1) (y := d.1) (.inl (by omega)) nb.2.1 (Int.le_refl _) (Int.le_refl _) db.2.1).2
  have u2 := (div_has (a := n.1) (b := n.2.1) (c := d.1) (d := d.2.1) (x := n.2.1) (y := d.2.1) (.inl (by omega)) nb.2.1 (Int.le_refl _) db.2.1 (Int.le_refl _)).2
  have fl : ∀ x y : Int, 1 ≤ y → flD x y * y ≤ x := fun x y hy => by
    unfold flD
    rw [if_pos (by omega)]
    have := Int.ediv_mul_le x (show y ≠ 0 by omega)
    exact this
  have ce' : ∀ x y : Int, 1 ≤ y → x ≤ ceD x y * y := fun x y hy => by
    have := fl (-x) y hy
    unfold ceD
    have e : -flD (-x) y * y = -(flD (-x) y * y) := Int.neg_mul _ _
    omega
  have L1 : divL n.1 n.2.1 d.1 d.2.1 * d.1 ≤ n.1 * 1073741824 := Int.le_trans (Int.mul_le_mul_of_nonneg_right l1 (by omega)) (fl _ _ d0)
  have L2 : divL n.1 n.2.1 d.1 d.2.1 * d.2.1 ≤ n.1 * 1073741824 := Int.le_trans (Int.mul_le_mul_of_nonneg_right l2 (by omega)) (fl _ _ (by omega))
  have U1 : n.2.1 * 1073741824 ≤ divH n.1 n.2.1 d.1 d.2.1 * d.1 := Int.le_trans (ce' _ _ d0) (Int.mul_le_mul_of_nonneg_right u1 (by omega))
  have U2 : n.2.1 * 1073741824 ≤ divH n.1 n.2.1 d.1 d.2.1 * d.2.1 := Int.le_trans (ce' _ _ (by omega)) (Int.mul_le_mul_of_nonneg_right u2 (by omega))
  have L1 := le_c L1
  have L2 := le_c L2
  have U1 := le_c U1
  have U2 := le_c U2
  rw [Rat.intCast_mul, Rat.intCast_mul, show ((1073741824 : Int) : Rat) = 1073741824 by rfl] at L1 L2 U1 U2
  clear l1 l2 u1 u2 fl ce' ev vd ok
  unfold Hs
  dsimp only
  generalize (divL n.1 n.2.1 d.1 d.2.1 : Rat) = L at *
  generalize (divH n.1 n.2.1 d.1 d.2.1 : Rat) = U at *
  generalize (n.1 : Rat) = a at *
  generalize (n.2.1 : Rat) = b at *
  generalize (d.1 : Rat) = c at *
  generalize (d.2.1 : Rat) = f at *
  have lL := lin_q L t1 t2
  have lU := lin_q U t1 t2
  rw [Rat.mul_comm c, Rat.mul_comm t', Rat.mul_comm f] at lL lU
  have A : L * t' ≤ 1073741824 * n' := by rcases lL with k | k <;> grind
  have B : 1073741824 * n' ≤ U * t' := by rcases lU with k | k <;> grind
  have q1 := mul_abs (a := 1073741824 * δ - t') (b := 1073741824 * X) (A := e) (B := 2147483648) t3 t4 (by grind) (by grind)
  have ex : 1073741824 * (1073741824 * (δ * X)) = (1073741824 * δ - t') * (1073741824 * X) + t' * (1073741824 * X) := by grind
  have t0 : 1 ≤ t' := by grind
  generalize (1073741824 * δ - t') * (1073741824 * X) = w at *
  generalize 1073741824 * (δ * X) = z at *
  generalize 1073741824 * X = P at *
  constructor
  · rcases (Rat.le_total : L - 8589934592 * e ≤ P ∨ P ≤ L - 8589934592 * e) with k | k
    · exact k
    · have m := Rat.mul_nonneg (show 0 ≤ t' - 1 by grind) (show 0 ≤ L - P by grind)
      grind
  · rcases (Rat.le_total : P ≤ U + 8589934592 * e ∨ U + 8589934592 * e ≤ P) with k | k
    · exact k
    · have m := Rat.mul_nonneg (show 0 ≤ t' - 1 by grind) (show 0 ≤ P - U by grind)
      grind
theorem fold {z : Rat} (z0 : -10800000 ≤ z) (z1 : z ≤ 16200000) : ∃ A : Rat, 0 ≤ A ∧ A ≤ 10800000 ∧ Cl (3000 * u0) (co A) (co z) ∧ ((∃ m : Int, A = z + 21600000 * (m : Rat)) ∨ (∃ m : Int, -A = z + 21600000 * (m : Rat) ∧ Cl (3000 * u0) (si A) (-si z))) := by
  have u := u0_bd.1
  rcases (Rat.le_total : 0 ≤ z ∨ z ≤ 0) with c | c
  · rcases (Rat.le_total : z ≤ 10800000 ∨ 10800000 ≤ z) with c2 | c2
    · exact ⟨z, c, c2, Cl.refl _ (by grind), .inl ⟨0, by rw [show ((0 : Int) : Rat) = 0 by rfl]; grind⟩⟩
    · have n := negq z
      have t := turn_eq (-z) 1
      rw [show ((1 : Int) : Rat) = 1 by rfl, show -z + 21600000 * 1 = 21600000 - z by grind] at t
      rw [← t.1, ← t.2] at n
      exact ⟨21600000 - z, by grind, by grind, n.1.wide (by grind), .inr ⟨-1, by rw [show ((-1 : Int) : Rat) = -1 by rfl]; grind, n.2.wide (by grind)⟩⟩
  · have n := negq z
    exact ⟨-z, by grind, by grind, n.1.wide (by grind), .inr ⟨0, by rw [show ((0 : Int) : Rat) = 0 by rfl]; grind, n.2.wide (by grind)⟩⟩
theorem si_up {q : Rat} (h0 : 0 ≤ q) (h1 : q ≤ 10800000) : -(22000 * u0) ≤ si q := by
  have u := u0_bd.1
  rcases (Rat.le_total : q ≤ 5400000 ∨ 5400000 ≤ q) with c | c
  · have := si_half h0 c
    grind
  · have s := si_half (q := 10800000 - q) (by grind) (by grind)
    have r := reflq q
    unfold Cl at r
    generalize si (10800000 - q) = a at *
    generalize si q = b at *
    grind
theorem si_dn {q : Rat} (h0 : 10800000 ≤ q) (h1 : q ≤ 21600000) : si q ≤ 42000 * u0 := by
  have u := u0_bd.1
  have s := si_up (q := q - 10800000) (by grind) (by grind)
  have o := (oppq (q - 10800000)).2
  rw [show q - 10800000 + 10800000 = q by grind] at o
  unfold Cl at o
  generalize si (q - 10800000) = a at *
  generalize si q = b at *
  grind
theorem si_near {A τ : Rat} (h0 : 0 ≤ A) (h1 : A ≤ 10800000) (hτ : si A ≤ τ) (h2 : 0 ≤ τ) : A ≤ 8000000 * (τ + e0) ∨ 10800000 - A ≤ 8000000 * (τ + e0) := by
  have b := tb_bd
  have u := u0_bd
  have ee : e0 = 1048576 * u0 := rfl
  have eb := e0_bd
  rcases (Rat.le_total : A ≤ 5400000 ∨ 5400000 ≤ A) with c | c
  · left
    have p := (si_pos h0 c).1
    have m : A / 3437750 ≤ tb * A := by
      have := Rat.mul_nonneg (show 0 ≤ tb - 1 / 3437750 by grind) h0
      grind
    generalize si A = s at *
    generalize tb * A = w at *
    grind
  · right
    have p := (si_pos (q := 10800000 - A) (by grind) (by grind)).1
    have r := reflq A
    have m : (10800000 - A) / 3437750 ≤ tb * (10800000 - A) := by
      have := Rat.mul_nonneg (show 0 ≤ tb - 1 / 3437750 by grind) (show 0 ≤ 10800000 - A by grind)
      grind
    unfold Cl at r
    generalize si (10800000 - A) = s' at *
    generalize si A = s at *
    generalize tb * (10800000 - A) = w at *
    grind
end Go.Proofs.YtkjnheahaimpoaaGreat

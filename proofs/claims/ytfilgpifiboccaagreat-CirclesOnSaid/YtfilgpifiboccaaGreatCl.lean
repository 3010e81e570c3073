/-
  Bounds, lines of position, and crossings: what the program's functions answer, as closed forms. No program here.
-/
import Derived.Test.YtfilgpifiboccaaGreatCk
import Derived.Test.YtfilgpifiboccaaGreatFx
namespace Go.Proofs.YtfilgpifiboccaaGreat
open SM TB TA
open Ev (lt keepE)
theorem mx_max (x y : Int) : mx x y = max x y := by unfold mx; split <;> omega
theorem mn_min (x y : Int) : mn x y = min x y := by unfold mn; split <;> omega
/-- Whether the circle's bounds are of all longitudes. -/
noncomputable def wideB (a b f : Int) : Prop := a - f ≤ -5400000 ∨ b + f ≥ 5400000 ∨ (exQ a b f).2.2 ≠ 0 ∨ (exW a b f).2.2 ≠ 0
theorem cext_ok {a b c d e f : Int} (la : latB a b = true) (kc : LonP c d) (he : 0 ≤ e) (ef : e ≤ f) (f1 : f ≤ 10800000) :
    ∃ L R : Int, cextM a b c d e f = (max (-5400000) (a - f), min 5400000 (b + f), L, R, 0) ∧ LonP L R ∧ ((wideB a b f ∧ L = -10800000 ∧ R = 10800000) ∨ (¬ wideB a b f ∧ L = lonL (c - (exW a b f).2.1) (d + (exW a b f).2.1) ∧ R = lonH (c - (exW a b f).2.1) (d + (exW a b f).2.1))) := by
  have b1 := lonP_bd kc
  have lb := lat_bd la
  have all : LonP (-10800000) 10800000 := .inl ⟨rfl, rfl⟩
  have cv := cval_mk la kc he ef f1
  unfold cextM cextMK
  rw [cv, Bool.not_true, cond_false, i64w (x := a - f) (by omega), i64w (x := b + f) (by omega), mx_max, mn_min]
  by_cases g1 : a - f ≤ -5400000
  · rw [decide_eq_true g1, cond_true]
    exact ⟨_, _, rfl, all, .inl ⟨.inl g1, rfl, rfl⟩⟩
  rw [decide_eq_false g1, cond_false]
  by_cases g2 : b + f ≥ 5400000
  · rw [decide_eq_true g2, cond_true]
    exact ⟨_, _, rfl, all, .inl ⟨.inr (.inl g2), rfl, rfl⟩⟩
  rw [decide_eq_false g2, cond_false]
  have vf : avalidB f f = true := avalid_mk (by omega) (Int.le_refl f) (by omega)
  simp only [lt, ksinV, ksinC, kcosV, kcosC]
  rw [(sin_one vf).2.2.2, (cos_one lb.1).2.2.2]
  simp only [keep0, z0', cond_false]
  have eQ : divR (sinR f f).1 (sinR f f).2.1 (cosR a b).1 (cosR a b).2.1 = exQ a b f := rfl
  have eW : asinR (exQ a b f).1 (exQ a b f).2.1 = exW a b f := rfl
  rw [eQ, eW]
  by_cases g3 : (exQ a b f).2.2 = 0
  · rw [g3, z0', cond_false]
    by_cases g4 : (exW a b f).2.2 = 0
    · have H := ex_hold la (by omega) (by omega) (by omega) g3
      obtain ⟨w1, w2, w3, w4⟩ := H.1
      rw [g4, show ((0 : Int) == 0) = true from rfl, cond_true, i64w (x := c - (exW a b f).2.1) (by omega), i64w (x := d + (exW a b f).2.1) (by omega)]
      have wp : 0 ≤ (exW a b f).2.1 := by
        obtain ⟨X, θ, hX, X0, t0, t1, tc, hW⟩ := H.2
        unfold Hs at hW
        unfold Cl at tc
        have ub := u0_bd
        have eb := e0_bd
        have ee : e0 = 1048576 * u0 := rfl
        have l := lvD
        have st : -1 / 2 ≤ θ := by
          rcases (Rat.le_total : -1 / 2 ≤ θ ∨ θ ≤ -1 / 2) with h | h
          · exact h
          · have s := si_pos (q := -θ) (by grind) (by grind)
            have n := (si_neg (q := θ) (by grind) (by grind)).1
            have tb' := tb_bd
            have m := Rat.mul_nonneg (show 0 ≤ tb by grind) (show 0 ≤ -θ - 1 / 2 by grind)
            grind
        refine of_c (e := 3 / 4) (by rw [show ((0 : Int) : Rat) = 0 by rfl]; grind) (by grind)
      rw [clon_ok (by omega) (by omega) (by omega)]
      exact ⟨_, _, rfl, lon_P (by omega), .inr ⟨by unfold wideB; simp only [g3, g4]; omega, rfl, rfl⟩⟩
    · rw [beq_eq_false_iff_ne.2 g4, cond_false]
      exact ⟨_, _, rfl, all, .inl ⟨.inr (.inr (.inr g4)), rfl, rfl⟩⟩
  · rw [bne_iff_ne.2 g3, cond_true]
    exact ⟨_, _, rfl, all, .inl ⟨.inr (.inr (.inl g3)), rfl, rfl⟩⟩
/-- The solution by the cosine formula. -/
theorem csol_eq {a b c d e f : Int} (h : triB a b c d e f = true) : csolM a b c d e f = ((asinR (cupE a b c d e f).1 (cupE a b c d e f).2.1).1, (asinR (cupE a b c d e f).1 (cupE a b c d e f).2.1).2.1, (bearR (ceaE c d e f).1 (ceaE c d e f).2.1 (cnoE a b c d e f).1 (cnoE a b c d e f).2.1).1, (bearR (ceaE c d e f).1 (ceaE c d e f).2.1 (cnoE a b c d e f).1 (cnoE a b c d e f).2.1).2.1, 0) ∧ LatR (asinR (cupE a b c d e f).1 (cupE a b c d e f).2.1) ∧ DirR (bearR (ceaE c d e f).1 (ceaE c d e f).2.1 (cnoE a b c d e f).1 (cnoE a b c d e f).2.1) ∧ cAltM a b c d e f = asinR (cupE a b c d e f).1 (cupE a b c d e f).2.1 ∧ validB (cupE a b c d e f).1 (cupE a b c d e f).2.1 = true := by
  obtain ⟨h1, h2, h3⟩ := tri_bd h
  have l1 := lat_bd h1
  have l2 := lat_bd h2
  have l3 := aval_bd h3
  obtain ⟨e1, e2⟩ := cosine_ok h
  have v0 := cup_v h (Hs.at (Int.le_refl a) (by omega)) (Hs.at (Int.le_refl c) (by omega)) (Hs.at (Int.le_refl e) (by omega))
  obtain ⟨h', z', s'⟩ := sees (a : Rat) (c : Rat) (e : Rat)
  have L := (up_v v0.1 s').1
  have D := (az_v v0.2.2 v0.2.1 s').1
  have a1 : cAltM a b c d e f = caltM a b c d e f := by
    unfold cAltM cAltMK
    rw [h]
    rfl
  have a2 : cAziM a b c d e f = caziM a b c d e f := by
    unfold cAziM cAziMK
    rw [h]
    rfl
  refine ⟨?_, L, D, by rw [a1, e1], v0.1.2.1⟩
  unfold csolM csolMK
  rw [a1, a2, e1, e2]
  simp only [lt]
  rw [L.2.2.2, D.2.2.2.2, z0']
  rfl
/-- The line of position. -/
theorem ctan_ok {a b c d e f u v : Int} (la : latB a b = true) (kc : LonP c d) (e0 : 0 ≤ e) (ef : e ≤ f) (f1 : f ≤ 10800000) (u0' : -5400000 ≤ u) (u1 : u ≤ 5400000) (v0 : -10800000 ≤ v) (v1 : v < 10800000) :
    ∃ Z : Int × Int × Int, Z = bearR (ceaE a b (v - d) (v - c)).1 (ceaE a b (v - d) (v - c)).2.1 (cnoE u u a b (v - d) (v - c)).1 (cnoE u u a b (v - d) (v - c)).2.1 ∧ DirR Z ∧ LatR (asinR (cupE u u a b (v - d) (v - c)).1 (cupE u u a b (v - d) (v - c)).2.1) ∧ ctanM a b c d e f u v = (u, v, Z.1, Z.2.1, 5400000 - (asinR (cupE u u a b (v - d) (v - c)).1 (cupE u u a b (v - d) (v - c)).2.1).2.1 - f, 5400000 - (asinR (cupE u u a b (v - d) (v - c)).1 (cupE u u a b (v - d) (v - c)).2.1).1 - e, 0) := by
  have b1 := lonP_bd kc
  have lu : latB u u = true := lat_mk u0' (Int.le_refl u) u1
  have vt : avalidB (v - d) (v - c) = true := avalid_mk (by omega) (by omega) (by omega)
  obtain ⟨q1, q2, q3, q4, q5⟩ := csol_eq (tri_mk lu la vt)
  refine ⟨_, rfl, q3, q2, ?_⟩
  have vp : vpntM u v = true := by
    unfold vpntM
    rw [decide_eq_true (show u ≥ -5400000 from u0'), decide_eq_true u1, decide_eq_true (show v ≥ -10800000 from v0), decide_eq_true v1]; rfl
  unfold ctanM ctanMK pofM pofMK
  rw [vp, Bool.not_true, cond_false]
  simp only [lt, klessV, klessC]
  rw [z0', cond_false, cval_mk la kc e0 ef f1, Bool.not_true, cond_false, ctri_ok ⟨by omega, by omega, by omega, by omega⟩ ⟨by omega, by omega, by omega, by omega⟩]
  dsimp only
  rw [q1]
  dsimp only
  generalize asinR (cupE u u a b (v - d) (v - c)).1 (cupE u u a b (v - d) (v - c)).2.1 = H at *
  obtain ⟨l1, l2, l3, l4⟩ := q2
  have er : crgtM = (5400000, 5400000) := rfl
  rw [er, z0', cond_false]
  dsimp only
  have s1 : asubR 5400000 5400000 H.1 H.2.1 = (5400000 - H.2.1, 5400000 - H.1, 0) := asub_ok (by omega) (by omega) (by omega) (by omega) (by omega) (by omega)
  rw [s1]
  dsimp only
  have s2 : asubR (5400000 - H.2.1) (5400000 - H.1) e f = (5400000 - H.2.1 - f, 5400000 - H.1 - e, 0) := asub_ok (by omega) (by omega) (by omega) (by omega) (by omega) (by omega)
  rw [s2]
  simp only [keep0, z0', cond_false]
end Go.Proofs.YtfilgpifiboccaaGreat

/-
  CrossingOn answers true.
-/
import Derived.Test.YtfilgpifiboccaaGreatL35
namespace Go.Proofs.YtfilgpifiboccaaGreat
open Ev

open SM TB TA
open Ev (lt keepE)
theorem ahav_at {x y p q : Int} (h1 : 0 ≤ x) (h2 : x ≤ y) (h3 : y ≤ 1073741824) (hp : IsAsin (2 * x - 1073741824) p) (hq : IsAsin (1073741824 - 2 * y) q) : ahavR x y = (5400000 + p, 5400000 - q, 0) := by
  have e1 : asn (1073741824 - 2 * y) = q := asn_eq (by omega) hq
  have e2 : asn (2 * x - 1073741824) = p := asn_eq (by omega) hp
  unfold ahavR acosR asinR
  rw [val_mk (a := x) (b := y) (by omega) h2 (by omega)]
  simp only [Bool.true_eq_false, if_false]
  have m1 : max x 0 = x := by omega
  have m2 : min y 1073741824 = y := by omega
  rw [m1, m2, if_pos h2, val_mk (a := 1073741824 - 2 * y) (b := 1073741824 - 2 * x) (by omega) (by omega) (by omega)]
  simp only [Bool.true_eq_false, if_false]
  have m3 : max (1073741824 - 2 * y) (-1073741824) = 1073741824 - 2 * y := by omega
  have m4 : min (1073741824 - 2 * x) 1073741824 = 1073741824 - 2 * x := by omega
  rw [m3, m4, if_pos (show 1073741824 - 2 * y ≤ 1073741824 - 2 * x by omega), e1, show -(1073741824 - 2 * x) = 2 * x - 1073741824 by omega, e2]
  simp
theorem ang_x : anglM 5400000 5400000 5400000 5400000 5400000 5400000 = (5399999, 5400001, 0) := by
  have h : ahavR 536870910 536870913 = (5399999, 5400001, 0) := by
    rw [ahav_at (p := -1) (q := -1) (by omega) (by omega) (by omega) ⟨by omega, by omega, by decide +kernel, .inr (by decide +kernel)⟩ ⟨by omega, by omega, by decide +kernel, .inr (by decide +kernel)⟩]
    rfl
  have e : anglM 5400000 5400000 5400000 5400000 5400000 5400000 = lt (ahavR 536870910 536870913) fun x => cond (x.2.2 != 0) (0, 0, 12) (x.1, x.2.1, 0) := by kernel_rfl
  rw [e, h]
  rfl
theorem asin_z : asinR 0 0 = (0, 0, 0) := asin_at (x := 0) (y := 0) (p := 0) (q := 0) (by omega) (by omega) (by omega) ⟨by omega, by omega, by decide +kernel, .inr (by decide +kernel)⟩ ⟨by omega, by omega, by decide +kernel, .inr (by decide +kernel)⟩
theorem asin_top {x : Int} (h0 : -1073741824 ≤ x) (h1 : x ≤ 1073741824) : (asinR x 1073741824).2.1 = 5400000 := by
  unfold asinR
  rw [val_mk (a := x) (b := 1073741824) (by omega) h1 (by omega)]
  simp only [Bool.true_eq_false, if_false]
  have m1 : max x (-1073741824) = x := by omega
  have m2 : min (1073741824 : Int) 1073741824 = 1073741824 := by omega
  rw [m1, m2, if_pos h1, asn_low]
  rfl
theorem asin_bot {y : Int} (h0 : -1073741824 ≤ y) (h1 : y ≤ 1073741824) : (asinR (-1073741824) y).1 = -5400000 := by
  unfold asinR
  rw [val_mk (a := -1073741824) (b := y) (by omega) h0 (by omega)]
  simp only [Bool.true_eq_false, if_false]
  have m1 : max (-1073741824 : Int) (-1073741824) = -1073741824 := by omega
  have m2 : min y 1073741824 = y := by omega
  rw [m1, m2, if_pos h0, asn_low]
theorem con_any {A B L R x y : Int} (la : latB A B = true) (kl : LonP L R) (hv : vpntM x y = true) : (pconM A B L R x y).2 = 0 ∧ (A ≤ x → x ≤ B → (x = 5400000 ∨ x = -5400000) → (pconM A B L R x y).1 = true) := by
  unfold pconM pconMK
  rw [pval_mk la kl, hv, Bool.not_true, cond_false, cond_false]
  by_cases h1 : x < A
  · rw [decide_eq_true h1]
    exact ⟨rfl, fun h _ _ => by omega⟩
  · rw [decide_eq_false h1, cond_false]
    by_cases h2 : x > B
    · rw [decide_eq_true h2]
      exact ⟨rfl, fun _ h _ => by omega⟩
    · rw [decide_eq_false h2, cond_false]
      by_cases h3 : x = 5400000
      · rw [h3]
        exact ⟨rfl, fun _ _ _ => rfl⟩
      · rw [beq_eq_false_iff_ne.2 h3, cond_false]
        by_cases h4 : x = -5400000
        · rw [h4]
          exact ⟨rfl, fun _ _ _ => rfl⟩
        · rw [beq_eq_false_iff_ne.2 h4, cond_false]
          exact ⟨rfl, fun _ _ h => by omega⟩
/-- The example of chapter 36. -/
theorem crs_x : ∃ A B L R A' B' L' R' : Int, xcrsM 0 0 0 0 5400000 5400000 0 0 5400000 5400000 5400000 5400000 = (A, B, L, R, A', B', L', R', 0) ∧ latB A B = true ∧ LonP L R ∧ latB A' B' = true ∧ LonP L' R' ∧ B = 5400000 ∧ A' = -5400000 := by
  have l0 : latB 0 0 = true := by decide +kernel
  have v1 : avalidB (-1) 1 = true := by decide +kernel
  have v2 : avalidB 10799999 10800001 = true := by decide +kernel
  have vq : avalidB 5400000 5400000 = true := by decide +kernel
  have c1 := cat_ok (a := 0) (b := 0) (c := 0) (d := 0) (e := 5400000) (f := 5400000) (u := -1) (v := 1) l0 zeroLon (by omega) (by omega) (by omega) v1
  have c2 := cat_ok (a := 0) (b := 0) (c := 0) (d := 0) (e := 5400000) (f := 5400000) (u := 10799999) (v := 10800001) l0 zeroLon (by omega) (by omega) (by omega) v2
  have o1 := at_one l0 vq v1
  have o2 := at_one l0 vq v2
  have t1 : (atA 0 0 5400000 5400000 (-1) 1).2.1 = 5400000 := by
    have e : (atU 0 0 5400000 5400000 (-1) 1).2.1 = 1073741824 ∧ -1073741824 ≤ (atU 0 0 5400000 5400000 (-1) 1).1 ∧ (atU 0 0 5400000 5400000 (-1) 1).1 ≤ 1073741824 := by decide +kernel
    unfold atA
    rw [e.1]
    exact asin_top e.2.1 e.2.2
  have t2 : (atA 0 0 5400000 5400000 10799999 10800001).1 = -5400000 := by
    have e : (atU 0 0 5400000 5400000 10799999 10800001).1 = -1073741824 ∧ -1073741824 ≤ (atU 0 0 5400000 5400000 10799999 10800001).2.1 ∧ (atU 0 0 5400000 5400000 10799999 10800001).2.1 ≤ 1073741824 := by decide +kernel
    unfold atA
    rw [e.1]
    exact asin_bot e.2.1 e.2.2
  have ht : triB 0 0 0 0 (-5400000) (-5400000) = true := by decide +kernel
  have u : cupE 0 0 0 0 (-5400000) (-5400000) = (0, 0, 0) := by decide +kernel
  have z : bearR (ceaE 0 0 (-5400000) (-5400000)).1 (ceaE 0 0 (-5400000) (-5400000)).2.1 (cnoE 0 0 0 0 (-5400000) (-5400000)).1 (cnoE 0 0 0 0 (-5400000) (-5400000)).2.1 = (5400000, 5400000, 0) := by decide +kernel
  have s := (csol_eq ht).1
  rw [u, z] at s
  dsimp only at s
  rw [asin_z] at s
  dsimp only at s
  have p1 := lat_mk (a := (atA 0 0 5400000 5400000 (-1) 1).1) (b := (atA 0 0 5400000 5400000 (-1) 1).2.1) o1.1.1 o1.1.2.1 o1.1.2.2.1
  have p2 := lat_mk (a := (atA 0 0 5400000 5400000 10799999 10800001).1) (b := (atA 0 0 5400000 5400000 10799999 10800001).2.1) o2.1.1 o2.1.2.1 o2.1.2.2.1
  refine ⟨_, _, _, _, _, _, _, _, ?_, p1, lon_P (show 0 + (atB 0 0 5400000 5400000 (-1) 1).1 ≤ 0 + (atB 0 0 5400000 5400000 (-1) 1).2.1 by have := o1.2.2.1; omega), p2, lon_P (show 0 + (atB 0 0 5400000 5400000 10799999 10800001).1 ≤ 0 + (atB 0 0 5400000 5400000 10799999 10800001).2.1 by have := o2.2.2.1; omega), t1, t2⟩
  have q1 : cvalM 0 0 0 0 5400000 5400000 = true := cval_mk l0 zeroLon (by omega) (by omega) (by omega)
  have q2 : cvalM 0 0 5400000 5400000 5400000 5400000 = true := cval_mk l0 (.inr (by omega)) (by omega) (by omega) (by omega)
  have q3 : xtriM 0 0 0 0 0 0 5400000 5400000 5400000 5400000 = (0, 0, 0, 0, -5400000, -5400000, 0) := by decide +kernel
  have q4 : asubR 5400000 5400000 0 0 = (5400000, 5400000, 0) := by decide +kernel
  have q5 : asubR 5400000 5400000 5399999 5400001 = (-1, 1, 0) := by decide +kernel
  have q6 : aaddR 5400000 5400000 5399999 5400001 = (10799999, 10800001, 0) := by decide +kernel
  unfold xcrsM xcrsMK
  rw [q1, q2]
  simp only [lt, Bool.not_true, cond_false]
  rw [q3]
  dsimp only
  rw [z0', cond_false, s]
  dsimp only
  rw [z0', cond_false, q4]
  dsimp only
  rw [z0', cond_false, ang_x]
  dsimp only
  rw [show ((0 : Int) == 0) = true from rfl, cond_true, q5]
  dsimp only
  rw [z0', cond_false, c1]
  dsimp only
  rw [z0', cond_false, q6]
  dsimp only
  rw [z0', cond_false, c2]
  rfl
noncomputable def kL36o0 : Book := (14, eTT (fun a b c d e f u v w x y z => crsV (xcrsM a b c d e f u v w x y z))) :: (43, eSP (fun a b c d e f => boolV (pconM a b c d e f))) :: []
theorem kL36o0_ok : BookOk Tryz.prog kL36o0 := (bookOk_cons (eTT_ok xcrsM_gives) (bookOk_cons (eSP_ok pconM_gives) bookOk_nil))
theorem awake36_gives  : Gives Tryz.prog 13 [] (.bool (true)) := by
  refine ev6_gives Es_ok kL36o0_ok (t := lt (xcrsM 0 0 0 0 5400000 5400000 0 0 5400000 5400000 5400000 5400000) fun x1 => lt (pconM x1.1 x1.2.1 x1.2.2.1 x1.2.2.2.1 (-5400000) 0) fun x2 => lt (pconM x1.2.2.2.2.1 x1.2.2.2.2.2.1 x1.2.2.2.2.2.2.1 x1.2.2.2.2.2.2.2.1 5400000 0) fun x3 => lt (pconM x1.1 x1.2.1 x1.2.2.1 x1.2.2.2.1 5400000 0) fun x4 => lt (pconM x1.2.2.2.2.1 x1.2.2.2.2.2.1 x1.2.2.2.2.2.2.1 x1.2.2.2.2.2.2.2.1 (-5400000) 0) fun x5 => cond (x1.2.2.2.2.2.2.2.2 == 0) (cond (x2.2 == 0) (cond (x3.2 == 0) (cond (x4.2 == 0) (cond (x5.2 == 0) (cond x2.1 (cond x3.1 (some (.v (.bool true))) (cond x4.1 (some (.v (.bool x5.1))) (some (.v (.bool false))))) (cond x4.1 (some (.v (.bool x5.1))) (some (.v (.bool false))))) (some (.v (.bool false)))) (some (.v (.bool false)))) (some (.v (.bool false)))) (some (.v (.bool false)))) (some (.v (.bool false)))) (by kernel_rfl) ?_
  obtain ⟨A, B, L, R, A', B', L', R', e, l1, k1, l2, k2, rfl, rfl⟩ := crs_x
  simp only [lt]
  rw [e]
  dsimp only
  have b1 := lat_bd l1
  have b2 := lat_bd l2
  have c1 := con_any (x := -5400000) (y := 0) l1 k1 (by decide +kernel)
  have c2 := con_any (x := 5400000) (y := 0) l2 k2 (by decide +kernel)
  have c3 := con_any (x := 5400000) (y := 0) l1 k1 (by decide +kernel)
  have c4 := con_any (x := -5400000) (y := 0) l2 k2 (by decide +kernel)
  have c5 := c3.2 (by omega) (by omega) (by omega)
  have c6 := c4.2 (by omega) (by omega) (by omega)
  rw [c1.1, c2.1, c3.1, c4.1, c5, c6]
  cases (pconM A 5400000 L R (-5400000) 0).1 <;> cases (pconM (-5400000) B' L' R' 5400000 0).1 <;> rfl
end Go.Proofs.YtfilgpifiboccaaGreat

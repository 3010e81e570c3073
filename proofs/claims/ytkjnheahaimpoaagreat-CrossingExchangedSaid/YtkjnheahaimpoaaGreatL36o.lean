/-
  CrossingOn answers true.
-/
import Derived.Test.YtkjnheahaimpoaaGreatL35
namespace Go.Proofs.YtkjnheahaimpoaaGreat
open Ev

open SM TB TA
open Ev (lt keepE)
theorem ahav_at {x y p q : Int} (h1 : 0 ≤ x) (h2 : x ≤ y) (h3 : y ≤ 1073741824) (hp : IsAsin (2 * x - 1073741824) p) (hq : IsAsin (1073741824 - 2 * y) q) : ahavR x y = (5400000 + p, 5400000 - q, 0) := by
  have e1 : asn (1073741824 - 2 * y) = q := asn_eq (by omega) hq
  have e2 : asn (2 * x - 1073741824) = p := asn_eq (by omega) hp
  unfold ahavR acosR asinR
  rw [val_mk (a := x) (b := y) (by omega) h2 (by omega)]
  simp only [Bool.true_eq_false, if_false]
  have m1 : max x 0 = x := by omega
  have m2 : min y 1073741824 = y := by omega
  rw [m1, m2, if_pos h2, val_mk (a := 1073741824 - 2 * y) (b := 1073741824 - 2 * x) (by omega) (by omega) (by omega)]
  simp only [Bool.true_eq_false, if_false]
  have m3 : max (1073741824 - 2 * y) (-1073741824) = 1073741824 - 2 * y := by omega
  have m4 : min (1073741824 - 2 * x) 1073741824 = 1073741824 - 2 * x := by omega
  rw [m3, m4, if_pos (show 1073741824 - 2 * y ≤ 1073741824 - 2 * x by omega), e1, show -(1073741824 - 2 * x) = 2 * x - 1073741824 by omega, e2]
  simp
theorem ang_x : anglM 5400000 5400000 5400000 5400000 5400000 5400000 = (5399999, 5400001, 0) := by
  have h : ahavR 536870910 536870913 = (5399999, 5400001, 0) := by
    rw [ahav_at (p := -1) (q := -1) (by omega) (by omega) (by omega) ⟨by omega, by omega, by decide +kernel, .inr (by decide +kernel)⟩ ⟨by omega, by omega, by decide +kernel, .inr (by decide +kernel)⟩]
    rfl
  have e : anglM 5400000 5400000 5400000 5400000 5400000 5400000 = lt (ahavR 536870910 536870913) fun x => cond (x.2.2 != 0) (0, 0, 12) (x.1, x.2.1, 0) := by kernel_rfl
  rw [e, h]
  rfl
theorem asin_z : asinR 0 0 = (0, 0, 0) := asin_at (x := 0) (y := 0) (p := 0) (q := 0) (by omega) (by omega) (by omega) ⟨by omega, by omega, by decide +kernel, .inr (by decide +kernel)⟩ ⟨by omega, by omega, by decide +kernel, .inr (by decide +kernel)⟩
theorem asin_top {x : Int} (h0 : -1073741824 ≤ x) (h1 : x ≤ 1073741824) : (asinR x 1073741824).2.1 = 5400000 := by
  unfold asinR
  rw [val_mk (a := x) (b := 1073741824) (by omega) h1 (by omega)]
  simp only [Bool.true_eq_false, if_false]
  have m1 : max x (-1073741824) = x := by omega
  have m2 : min (1073741824 : Int) 1073741824 = 1073741824 := by omega
  rw [m1, m2, if_pos h1, asn_low]
  rfl
theorem asin_bot {y : Int} (h0 : -1073741824 ≤ y) (h1 : y ≤ 1073741824) : (asinR (-1073741824) y).1 = -5400000 := by
  unfold asinR
  rw [val_mk (a := -1073741824) (b := y) (by omega) h0 (by omega)]
  simp only [Bool.true_eq_false, if_false]
  have m1 : max (-1073741824 : Int) (-1073741824) = -1073741824 := by omega
  have m2 : min y 1073741824 = y := by omega
  rw [m1, m2, if_pos h0, asn_low]
theorem con_any {A B L R x y : Int} (la : latB A B = true) (kl : LonP L R) (hv : vpntM x y = true) : (pconM A B L R x y).2 = 0 ∧ (A ≤ x → x ≤ B → (x = 5400000 ∨ x = -5400000) → (pconM A B L R x y).1 = true) := by
  unfold pconM
  rw [pval_mk la kl, hv, Bool.not_true, cond_false, cond_false]
  by_cases h1 : x < A
  · rw [decide_eq_true h1]
    exact ⟨rfl, fun h _ _ => by omega⟩
  · rw [decide_eq_false h1, cond_false]
    by_cases h2 : x > B
    · rw [decide_eq_true h2]
      exact ⟨rfl, fun _ h _ => by omega⟩
    · rw [decide_eq_false h2, cond_false]
      by_cases h3 : x = 5400000
      · rw [h3]
        exact ⟨rfl, fun _ _ _ => rfl⟩
      · rw [beq_eq_false_iff_ne.2 h3, cond_false]
        by_cases h4 : x = -5400000
        · rw [h4]
          exact ⟨rfl, fun _ _ _ => rfl⟩
        · rw [beq_eq_false_iff_ne.2 h4, cond_false]
          exact ⟨rfl, fun _ _ h => by omega⟩
/-- The example of chapter 36. -/
theorem crs_x : ∃ A B L R A' B' L' R' : Int, xcrsM 0 0 0 0 5400000 5400000 0 0 5400000 5400000 5400000 5400000 = (A, B, L, R, A', B', L', R', 0) ∧ latB A B = true ∧ LonP L R ∧ latB A' B' = true ∧ LonP L' R' ∧ B = 5400000 ∧ A' = -5400000 := by
  have l0 : latB 0 0 = true := by decide +kernel
  have v1 : avalidB (-1) 1 = true := by decide +kernel
  have v2 : avalidB 10799999 10800001 = true := by decide +kernel
  have vq : avalidB 5400000 5400000 = true := by decide +kernel
  have c1 := cat_ok (a := 0) (b := 0) (c := 0) (d := 0) (e := 5400000) (f := 5400000) (u := -1) (v := 1) l0 zeroLon (by omega) (by omega) (by omega) v1
  have c2 := cat_ok (a := 0) (b := 0) (c := 0) (d := 0) (e := 5400000) (f := 5400000) (u := 10799999) (v := 10800001) l0 zeroLon (by omega) (by omega) (by omega) v2
  have o1 := at_one l0 vq v1
  have o2 := at_one l0 vq v2
  have t1 : (atA 0 0 5400000 5400000 (-1) 1).2.1 = 5400000 := by
    have e : (atU 0 0 5400000 5400000 (-1) 1).2.1 = 1073741824 ∧ -1073741824 ≤ (atU 0 0 5400000 5400000 (-1) 1).1 ∧ (atU 0 0 5400000 5400000 (-1) 1).1 ≤ 1073741824 := by decide +kernel
    unfold atA
    rw [e.1]
    exact asin_top e.2.1 e.2.2
  have t2 : (atA 0 0 5400000 5400000 10799999 10800001).1 = -5400000 := by
    have e : (atU 0 0 5400000 5400000 10799999 10800001).1 = -1073741824 ∧ -1073741824 ≤ (atU 0 0 5400000 5400000 10799999 10800001).2.1 ∧ (atU 0 0 5400000 5400000 10799999 10800001).2.1 ≤ 1073741824 := by decide +kernel
    unfold atA
    rw [e.1]
    exact asin_bot e.2.1 e.2.2
  have ht : triB 0 0 0 0 (-5400000) (-5400000) = true := by decide +kernel
  have u : cupE 0 0 0 0 (-5400000) (-5400000) = (0, 0, 0) := by decide +kernel
  have z : bearR (ceaE 0 0 (-5400000) (-5400000)).1 (ceaE 0 0 (-5400000) (-5400000)).2.1 (cnoE 0 0 0 0 (-5400000) (-5400000)).1 (cnoE 0 0 0 0 (-5400000) (-5400000)).2.1 = (5400000, 5400000, 0) := by decide +kernel
  have s := (csol_eq ht).1
  rw [u, z] at s
  dsimp only at s
  rw [asin_z] at s
  dsimp only at s
  have p1 := lat_mk (a := (atA 0 0 5400000 5400000 (-1) 1).1) (b := (atA 0 0 5400000 5400000 (-1) 1).2.1) o1.1.1 o1.1.2.1 o1.1.2.2.1
  have p2 := lat_mk (a := (atA 0 0 5400000 5400000 10799999 10800001).1) (b := (atA 0 0 5400000 5400000 10799999 10800001).2.1) o2.1.1 o2.1.2.1 o2.1.2.2.1
  refine ⟨_, _, _, _, _, _, _, _, ?_, p1, lon_P (show 0 + (atB 0 0 5400000 5400000 (-1) 1).1 ≤ 0 + (atB 0 0 5400000 5400000 (-1) 1).2.1 by have := o1.2.2.1; omega), p2, lon_P (show 0 + (atB 0 0 5400000 5400000 10799999 10800001).1 ≤ 0 + (atB 0 0 5400000 5400000 10799999 10800001).2.1 by have := o2.2.2.1; omega), t1, t2⟩
  have q1 : cvalM 0 0 0 0 5400000 5400000 = true := cval_mk l0 zeroLon (by omega) (by omega) (by omega)
  have q2 : cvalM 0 0 5400000 5400000 5400000 5400000 = true := cval_mk l0 (.inr (by omega)) (by omega) (by omega) (by omega)
  have q3 : xtriM 0 0 0 0 0 0 5400000 5400000 5400000 5400000 = (0, 0, 0, 0, -5400000, -5400000, 0) := by decide +kernel
  have q4 : asubR 5400000 5400000 0 0 = (5400000, 5400000, 0) := by decide +kernel
  have q5 : asubR 5400000 5400000 5399999 5400001 = (-1, 1, 0) := by decide +kernel
  have q6 : aaddR 5400000 5400000 5399999 5400001 = (10799999, 10800001, 0) := by decide +kernel
  unfold xcrsM
  rw [q1, q2]
  simp only [lt, Bool.not_true, cond_false]
  rw [q3]
  dsimp only
  rw [z0', cond_false, s]
  dsimp only
  rw [z0', cond_false, q4]
  dsimp only
  rw [z0', cond_false, ang_x]
  dsimp only
  rw [show ((0 : Int) == 0) = true from rfl, cond_true, q5]
  dsimp only
  rw [z0', cond_false, c1]
  dsimp only
  rw [z0', cond_false, q6]
  dsimp only
  rw [z0', cond_false, c2]
  rfl
/-- A place at a bearing. -/
theorem on_fin {a b c d e f p q : Int} (la : latB a b = true) (kc : LonP c d) (e0 : 0 ≤ e) (ef : e ≤ f) (f1 : f ≤ 10800000) (vu : avalidB p q = true) :
    pvalM (catM a b c d e f p q).1 (catM a b c d e f p q).2.1 (catM a b c d e f p q).2.2.1 (catM a b c d e f p q).2.2.2.1 = true ∧ csidM a b c d e f (catM a b c d e f p q).1 (catM a b c d e f p q).2.1 (catM a b c d e f p q).2.2.1 (catM a b c d e f p q).2.2.2.1 = (0, 0) ∧ a - f ≤ (catM a b c d e f p q).2.1 ∧ (catM a b c d e f p q).1 ≤ b + f ∧ -5400000 ≤ (catM a b c d e f p q).2.1 ∧ (catM a b c d e f p q).1 ≤ 5400000 := by
  have lb := lat_bd la
  have bc := lonP_bd kc
  have vr : avalidB e f = true := avalid_mk (by omega) ef (by omega)
  have bp := aval_bd vu
  obtain ⟨A, B⟩ := at_one la vr vu
  have V := at_v lb.1 vr vu (Hs.at (Int.le_refl a) lb.2.2.1) (Hs.at (Int.le_refl e) ef) (Hs.at (Int.le_refl p) bp.2.1)
  obtain ⟨h, z, s⟩ := sees (a : Rat) (5400000 - (e : Rat)) (-(p : Rat))
  have kh := (up_v V.1 s).2
  have kz := (az_v V.2.1 V.2.2 s).2
  have eA : asinR (atU a b e f p q).1 (atU a b e f p q).2.1 = atA a b e f p q := rfl
  have eB : bearR (atE e f p q).1 (atE e f p q).2.1 (atN a b e f p q).1 (atN a b e f p q).2.1 = atB a b e f p q := rfl
  rw [eA] at kh
  rw [eB] at kz
  rw [cat_ok la kc e0 ef f1 vu]
  dsimp only
  generalize atA a b e f p q = A' at *
  generalize atB a b e f p q = B' at *
  obtain ⟨a1, a2, a3, a4⟩ := A
  obtain ⟨d1, d2, d3, d4, d5⟩ := B
  have lA : latB A'.1 A'.2.1 = true := lat_mk a1 a2 a3
  have kl : LonP (lonL (c + B'.1) (d + B'.2.1)) (lonH (c + B'.1) (d + B'.2.1)) := lon_P (by omega)
  have bl := lonP_bd kl
  have vt : avalidB (lonL (c + B'.1) (d + B'.2.1) - d) (lonH (c + B'.1) (d + B'.2.1) - c) = true := avalid_mk (by omega) (by omega) (by omega)
  have kt : 21600000 ≤ lonH (c + B'.1) (d + B'.2.1) - c - (lonL (c + B'.1) (d + B'.2.1) - d) ∨ ∃ m : Int, Hs dS (lonL (c + B'.1) (d + B'.2.1) - d) (lonH (c + B'.1) (d + B'.2.1) - c) (z + 21600000 * (m : Rat)) := by
    by_cases g : d + B'.2.1 - (c + B'.1) < 21600000
    · obtain ⟨k, g1, g2⟩ := lon_rep g
      obtain ⟨m, hm⟩ := kz
      right
      refine ⟨m + k, ?_⟩
      rw [g1, g2]
      have x1 := le_c (show c + B'.1 + 21600000 * k - d ≤ B'.1 + 21600000 * k by omega)
      have x2 := le_c (show B'.2.1 + 21600000 * k ≤ d + B'.2.1 + 21600000 * k - c by omega)
      rw [Rat.intCast_add (B'.1), Rat.intCast_mul, show ((21600000 : Int) : Rat) = 21600000 by rfl] at x1
      rw [Rat.intCast_add (B'.2.1) (21600000 * k), Rat.intCast_mul, show ((21600000 : Int) : Rat) = 21600000 by rfl] at x2
      unfold Hs at *
      rw [Rat.intCast_add]
      generalize ((c + B'.1 + 21600000 * k - d : Int) : Rat) = y1 at *
      generalize ((d + B'.2.1 + 21600000 * k - c : Int) : Rat) = y2 at *
      constructor <;> grind
    · left
      unfold lonL lonH
      rw [if_pos (by omega), if_pos (by omega)]
      omega
  have S := at_side lA la vr vt (Hs.at (Int.le_refl a) lb.2.2.1) (Hs.at (Int.le_refl e) ef) kh kt s
  have Lt := at_lat la e0 f1 (Hs.at (Int.le_refl a) lb.2.2.1) (Hs.at (Int.le_refl e) ef) kh s
  refine ⟨pval_mk lA kl, ?_, Lt.1, Lt.2, by omega, by omega⟩
  rw [csid_ok la kc e0 ef f1 lA kl, S]
theorem cext_err {a b c d e f : Int} (h : cvalM a b c d e f = true) : (cextM a b c d e f).2.2.2.2 = 0 := by
  obtain ⟨va, e0, ef, f1⟩ := cval_bd h
  have lb := lat_bd (pval_lat va).1
  have vf : avalidB f f = true := avalid_mk (by omega) (Int.le_refl f) (by omega)
  unfold cextM
  rw [h, Bool.not_true, cond_false]
  simp only [lt, ksinV, ksinC, kcosV, kcosC]
  rw [(sin_one vf).2.2.2, (cos_one lb.1).2.2.2]
  simp only [keep0, z0', cond_false]
  cases decide (IntKind.i64.wrap (a - f) ≤ -5400000) with
  | true => rfl
  | false =>
    cases decide (IntKind.i64.wrap (b + f) ≥ 5400000) with
    | true => rfl
    | false =>
      rw [cond_false, cond_false]
      cases ((divR (sinR f f).1 (sinR f f).2.1 (cosR a b).1 (cosR a b).2.1).2.2 != 0) with
      | true => rfl
      | false =>
        rw [cond_false]
        cases ((asinR (divR (sinR f f).1 (sinR f f).2.1 (cosR a b).1 (cosR a b).2.1).1 (divR (sinR f f).1 (sinR f f).2.1 (cosR a b).1 (cosR a b).2.1).2.1).2.2 == 0) <;> rfl
def all12 (_a _b _c _d _e _f _u _v _w _x _y _z : Int) : Bool := true
noncomputable def book_awake36_gives : Book := [(25, eSP (fun a b c d e f => boolV (pconM a b c d e f))), (33, eTT (fun a b c d e f u v w x y z => crsV (xcrsM a b c d e f u v w x y z)))]
theorem book_awake36_gives_ok : BookOk Tryz.prog book_awake36_gives := (bookOk_cons (eSP_ok pconM_gives) (bookOk_cons (eTT_ok xcrsM_gives) bookOk_nil))
theorem awake36_gives_tree  : evF Tryz.prog Es Cs book_awake36_gives 20 6 30 ([].map AV.v) [] [] last =
  lt (xcrsM 0 0 0 0 5400000 5400000 0 0 5400000 5400000 5400000 5400000) fun x1 =>
  lt (pconM x1.1 x1.2.1 x1.2.2.1 x1.2.2.2.1 (-5400000) 0) fun x2 =>
  lt (pconM x1.2.2.2.2.1 x1.2.2.2.2.2.1 x1.2.2.2.2.2.2.1 x1.2.2.2.2.2.2.2.1 5400000 0) fun x3 =>
  lt (pconM x1.1 x1.2.1 x1.2.2.1 x1.2.2.2.1 5400000 0) fun x4 =>
  lt (pconM x1.2.2.2.2.1 x1.2.2.2.2.2.1 x1.2.2.2.2.2.2.1 x1.2.2.2.2.2.2.2.1 (-5400000) 0) fun x5 =>
  cond (x1.2.2.2.2.2.2.2.2 == 0)
  (cond (x2.2 == 0)
   (cond (x3.2 == 0)
    (cond (x4.2 == 0)
     (cond (x5.2 == 0)
      (cond x2.1
       (cond x3.1
        (some (.v (.bool true)))
        (cond x4.1
         (some (.v (.bool x5.1)))
         (some (.v (.bool false)))))
       (cond x4.1
        (some (.v (.bool x5.1)))
        (some (.v (.bool false)))))
      (some (.v (.bool false))))
     (some (.v (.bool false))))
    (some (.v (.bool false))))
   (some (.v (.bool false))))
  (some (.v (.bool false))) := by kernel_rfl
theorem awake36_gives  : Gives Tryz.prog 30 [] (.bool (true)) := by
  refine evF_gives (E := Es) mixed Es_ok Cs_ok book_awake36_gives_ok (lim := 20) (d := 6) (nm := []) ?_
  rw [awake36_gives_tree]
  obtain ⟨A, B, L, R, A', B', L', R', e, l1, k1, l2, k2, rfl, rfl⟩ := crs_x
  simp only [lt]
  rw [e]
  dsimp only
  have b1 := lat_bd l1
  have b2 := lat_bd l2
  have c1 := con_any (x := -5400000) (y := 0) l1 k1 (by decide +kernel)
  have c2 := con_any (x := 5400000) (y := 0) l2 k2 (by decide +kernel)
  have c3 := con_any (x := 5400000) (y := 0) l1 k1 (by decide +kernel)
  have c4 := con_any (x := -5400000) (y := 0) l2 k2 (by decide +kernel)
  have c5 := c3.2 (by omega) (by omega) (by omega)
  have c6 := c4.2 (by omega) (by omega) (by omega)
  rw [c1.1, c2.1, c3.1, c4.1, c5, c6]
  cases (pconM A 5400000 L R (-5400000) 0).1 <;> cases (pconM (-5400000) B' L' R' 5400000 0).1 <;> rfl
noncomputable def book_c36on_any : Book := [(14, eTS (fun a b c d e f u v w x => twoI (csidM a b c d e f u v w x))), (18, eT (fun a b c d e f => .bool (cvalM a b c d e f))), (24, eT (fun a b c d e f => solV (cextM a b c d e f))), (28, eS (fun a b c d => .bool (pvalM a b c d))), (30, e0 (.bool (true))), (33, eTT (fun a b c d e f u v w x y z => crsV (xcrsM a b c d e f u v w x y z)))]
theorem book_c36on_any_ok : BookOk Tryz.prog book_c36on_any := (bookOk_cons (eTS_ok csidM_gives) (bookOk_cons (eT_ok cvalM_gives) (bookOk_cons (eT_ok cextM_gives) (bookOk_cons (eS_ok pvalM_gives) (bookOk_cons (e0_ok awake36_gives) (bookOk_cons (eTT_ok xcrsM_gives) bookOk_nil))))))
theorem c36on_any_tree (a b c d e f u v w x y z : Int) : evF Tryz.prog Es Cs book_c36on_any 20 6 8 ([.agg ⟨[.int .i64 a, .int .i64 b, .int .i64 c, .int .i64 d, .int .i64 e, .int .i64 f]⟩, .agg ⟨[.int .i64 u, .int .i64 v, .int .i64 w, .int .i64 x, .int .i64 y, .int .i64 z]⟩].map AV.v) [] [] last =
  cond (!(true))
  (some (.v (.bool false)))
  (lt (xcrsM a b c d e f u v w x y z) fun x1 =>
   cond (!(cvalM a b c d e f))
   (some (.v (.bool (x1.2.2.2.2.2.2.2.2 == 1))))
   (cond (!(cvalM u v w x y z))
    (some (.v (.bool (x1.2.2.2.2.2.2.2.2 == 1))))
    (lt (cextM a b c d e f) fun x2 =>
     cond (x2.2.2.2.2 != 0)
     (some (.v (.bool false)))
     (cond (x1.2.2.2.2.2.2.2.2 != 0)
      (cond ((x1.1 == 0) && ((x1.2.1 == 0) && ((x1.2.2.1 == 0) && ((x1.2.2.2.1 == 0) && true))))
       (some (.v (.bool ((x1.2.2.2.2.1 == 0) && ((x1.2.2.2.2.2.1 == 0) && ((x1.2.2.2.2.2.2.1 == 0) && ((x1.2.2.2.2.2.2.2.1 == 0) && true)))))))
       (some (.v (.bool false))))
      (cond (!(pvalM x1.1 x1.2.1 x1.2.2.1 x1.2.2.2.1))
       (some (.v (.bool false)))
       (cond (!(pvalM x1.2.2.2.2.1 x1.2.2.2.2.2.1 x1.2.2.2.2.2.2.1 x1.2.2.2.2.2.2.2.1))
        (some (.v (.bool false)))
        (lt (csidM a b c d e f x1.1 x1.2.1 x1.2.2.1 x1.2.2.2.1) fun x3 =>
         cond (x3.2 != 0)
         (some (.v (.bool false)))
         (cond (x3.1 != 0)
          (some (.v (.bool false)))
          (cond (decide (x1.2.1 < x2.1))
           (some (.v (.bool false)))
           (cond (decide (x1.1 > x2.2.1))
            (some (.v (.bool false)))
            (lt (csidM a b c d e f x1.2.2.2.2.1 x1.2.2.2.2.2.1 x1.2.2.2.2.2.2.1 x1.2.2.2.2.2.2.2.1) fun x4 =>
             cond (x4.2 != 0)
             (some (.v (.bool false)))
             (cond (x4.1 != 0)
              (some (.v (.bool false)))
              (cond (decide (x1.2.2.2.2.2.1 < x2.1))
               (some (.v (.bool false)))
               (cond (decide (x1.2.2.2.2.1 > x2.2.1))
                (some (.v (.bool false)))
                (some (.v (.bool true))))))))))))))))) := by kernel_rfl
theorem c36on_any (a b c d e f u v w x y z : Int) : Gives Tryz.prog 8 [.agg ⟨[.int .i64 a, .int .i64 b, .int .i64 c, .int .i64 d, .int .i64 e, .int .i64 f]⟩, .agg ⟨[.int .i64 u, .int .i64 v, .int .i64 w, .int .i64 x, .int .i64 y, .int .i64 z]⟩] (.bool (all12 a b c d e f u v w x y z)) := by
  refine evF_gives (E := Es) mixed Es_ok Cs_ok book_c36on_any_ok (lim := 20) (d := 6) (nm := []) ?_
  rw [c36on_any_tree a b c d e f u v w x y z]
  simp only [lt, Bool.not_true, cond_false]
  unfold all12
  cases ca : cvalM a b c d e f with
  | false =>
    unfold xcrsM
    rw [ca]
    rfl
  | true =>
  cases cb : cvalM u v w x y z with
  | false =>
    unfold xcrsM
    rw [ca, cb]
    rfl
  | true =>
  rw [Bool.not_true, cond_false, cond_false, cext_err ca, z0', cond_false]
  rcases crs_or ca cb with ⟨g, k, er⟩ | ⟨la, kc, e0, ef, f1, p, q, p', q', vp, vp', er⟩
  · rw [er] at g ⊢
    dsimp only at g ⊢
    rw [bne_iff_ne.2 g]
    rfl
  · rw [er]
    dsimp only
    obtain ⟨m1, m2, m3, m4, m5, m6⟩ := on_fin la kc e0 ef f1 vp
    obtain ⟨n1, n2, n3, n4, n5, n6⟩ := on_fin la kc e0 ef f1 vp'
    obtain ⟨L, R, ex, kl, hk⟩ := cext_ok la kc e0 ef f1
    rw [m1, n1, m2, n2, ex]
    dsimp only
    rw [decide_eq_false (show ¬ (catM a b c d e f p q).2.1 < max (-5400000) (a - f) by omega), decide_eq_false (show ¬ (catM a b c d e f p q).1 > min 5400000 (b + f) by omega), decide_eq_false (show ¬ (catM a b c d e f p' q').2.1 < max (-5400000) (a - f) by omega), decide_eq_false (show ¬ (catM a b c d e f p' q').1 > min 5400000 (b + f) by omega)]
    rfl
end Go.Proofs.YtkjnheahaimpoaaGreat

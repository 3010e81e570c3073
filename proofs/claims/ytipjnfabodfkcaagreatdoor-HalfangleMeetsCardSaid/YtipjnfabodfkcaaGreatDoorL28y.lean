/-
  The cosine formula holds the true altitude and azimuth. No program here. The examples of chapter 28. HalfangleMeets answers true.
-/
import Derived.Test.YtipjnfabodfkcaaGreatDoorHd
import Derived.Test.YtipjnfabodfkcaaGreatDoorFp
namespace Go.Proofs.YtipjnfabodfkcaaGreatDoor
open SM TB TA
open Ev (lt keepE)
/-- The altitude's sine, and the azimuth's vector, by the cosine formula. -/
def cupE (a b c d e f : Int) : Int × Int × Int :=
  let m := mulR (sinR a b).1 (sinR a b).2.1 (sinR c d).1 (sinR c d).2.1
  let k := mulR (cosR a b).1 (cosR a b).2.1 (cosR c d).1 (cosR c d).2.1
  let n := mulR k.1 k.2.1 (cosR e f).1 (cosR e f).2.1
  addR m.1 m.2.1 n.1 n.2.1
def cnoE (a b c d e f : Int) : Int × Int × Int :=
  let m := mulR (sinR c d).1 (sinR c d).2.1 (cosR a b).1 (cosR a b).2.1
  let k := mulR (cosR c d).1 (cosR c d).2.1 (cosR e f).1 (cosR e f).2.1
  let n := mulR k.1 k.2.1 (sinR a b).1 (sinR a b).2.1
  subR m.1 m.2.1 n.1 n.2.1
def ceaE (c d e f : Int) : Int × Int × Int :=
  let m := mulR (cosR c d).1 (cosR c d).2.1 (sinR e f).1 (sinR e f).2.1
  negR m.1 m.2.1
theorem cup_v {a b c d e f : Int} {x y t : Rat} (h : triB a b c d e f = true) (hx : Hs 0 a b x) (hy : Hs 0 c d y) (ht : Hs 0 e f t) :
    Vl (cupE a b c d e f) (1000 * e1) (upT x y t) ∧ Vl (cnoE a b c d e f) (1000 * e1) (noT x y t) ∧ Vl (ceaE c d e f) (1000 * e1) (eaT y t) := by
  obtain ⟨h1, h2, h3⟩ := tri_bd h
  have l1 := (lat_bd h1).1
  have l2 := (lat_bd h2).1
  obtain ⟨w1, w2, w3, w4, w5, w6, w7, w8, w9, w10, w11⟩ := lv
  have s1 := sin_one l1
  have c1 := cos_one l1
  have s2 := sin_one l2
  have c2 := cos_one l2
  have s3 := sin_one h3
  have c3 := cos_one h3
  have S1 := sin_at l1 hx
  have C1 := cos_at l1 hx
  have S2 := sin_at l2 hy
  have C2 := cos_at l2 hy
  have S3 := sin_at h3 ht
  have C3 := cos_at h3 ht
  have m1 := mul_v s1 s2 (by grind) (by grind) S1 S2
  have k1 := mul_v c1 c2 (by grind) (by grind) C1 C2
  have n1 := mul_v (mul_ones c1 c2) c3 (e := 3 * (5 * e1)) (by grind) (by grind) k1 (C3.wide (by grind))
  have m2 := mul_v s2 c1 (by grind) (by grind) S2 C1
  have k2 := mul_v c2 c3 (by grind) (by grind) C2 C3
  have n2 := mul_v (mul_ones c2 c3) s1 (e := 3 * (5 * e1)) (by grind) (by grind) k2 (S1.wide (by grind))
  have m3 := mul_v c2 s3 (by grind) (by grind) C2 S3
  refine ⟨?_, ?_, ?_⟩
  · exact (add_v (mul_ones s1 s2) (mul_ones (mul_ones c1 c2) c3) m1 n1).wide (by grind)
  · exact (sub_v (mul_ones s2 c1) (mul_ones (mul_ones c2 c3) s1) m2 n2).wide (by grind)
  · exact (neg_v (mul_ones c2 s3) m3).wide (by grind)
theorem cosine_ok {a b c d e f : Int} (h : triB a b c d e f = true) :
    caltM a b c d e f = asinR (cupE a b c d e f).1 (cupE a b c d e f).2.1 ∧ caziM a b c d e f = bearR (ceaE c d e f).1 (ceaE c d e f).2.1 (cnoE a b c d e f).1 (cnoE a b c d e f).2.1 := by
  obtain ⟨h1, h2, h3⟩ := tri_bd h
  have l1 := (lat_bd h1).1
  have l2 := (lat_bd h2).1
  have s1 := sin_one l1
  have c1 := cos_one l1
  have s2 := sin_one l2
  have c2 := cos_one l2
  have s3 := sin_one h3
  have c3 := cos_one h3
  have z : ((0 : Int) != 0) = false := rfl
  constructor
  · unfold caltM cupE
    simp only [lt, csinV, csinC, ccosV, ccosC, cmulV, cmulC, caddV, caddC]
    generalize sinR a b = S1 at *
    generalize cosR a b = C1 at *
    generalize sinR c d = S2 at *
    generalize cosR c d = C2 at *
    generalize sinR e f = S3 at *
    generalize cosR e f = C3 at *
    rw [s1.2.2.2, c1.2.2.2, s2.2.2.2, c2.2.2.2, s3.2.2.2, c3.2.2.2]
    have m1 := mul_ones s1 s2
    have k1 := mul_ones c1 c2
    generalize mulR S1.1 S1.2.1 S2.1 S2.2.1 = M at *
    generalize mulR C1.1 C1.2.1 C2.1 C2.2.1 = K at *
    have n1 := mul_ones k1 c3
    generalize mulR K.1 K.2.1 C3.1 C3.2.1 = N at *
    have a1 := add_ones m1 n1
    rw [m1.2.2.2, k1.2.2.2, n1.2.2.2, a1.1]
    simp only [keep0, z, cond_false]
  · unfold caziM cnoE ceaE
    simp only [lt, csinV, csinC, ccosV, ccosC, cmulV, cmulC, cnegV, cnegC, csubV, csubC]
    generalize sinR a b = S1 at *
    generalize cosR a b = C1 at *
    generalize sinR c d = S2 at *
    generalize cosR c d = C2 at *
    generalize sinR e f = S3 at *
    generalize cosR e f = C3 at *
    rw [s1.2.2.2, c1.2.2.2, s2.2.2.2, c2.2.2.2, s3.2.2.2, c3.2.2.2]
    have m1 := mul_ones c2 s3
    have k1 := mul_ones s2 c1
    have p1 := mul_ones c2 c3
    generalize mulR C2.1 C2.2.1 S3.1 S3.2.1 = M at *
    generalize mulR S2.1 S2.2.1 C1.1 C1.2.1 = K at *
    generalize mulR C2.1 C2.2.1 C3.1 C3.2.1 = P at *
    have n1 := mul_ones p1 s1
    generalize mulR P.1 P.2.1 S1.1 S1.2.1 = N at *
    have a1 := sub_ones k1 n1
    have g1 := neg_one m1
    rw [m1.2.2.2, k1.2.2.2, p1.2.2.2, n1.2.2.2, a1.1, g1.1]
    simp only [keep0, z, cond_false]
theorem cosine_hold {a b c d e f : Int} (h : triB a b c d e f = true) : ∃ H Z : Int × Int × Int, csolM a b c d e f = (H.1, H.2.1, Z.1, Z.2.1, 0) ∧ cAltM a b c d e f = H ∧ Hold a b c d e f H Z := by
  obtain ⟨h1, h2, h3⟩ := tri_bd h
  have l1 := lat_bd h1
  have l2 := lat_bd h2
  have l3 := aval_bd h3
  obtain ⟨e1, e2⟩ := cosine_ok h
  have v0 := cup_v h (Hs.at (Int.le_refl a) (by omega)) (Hs.at (Int.le_refl c) (by omega)) (Hs.at (Int.le_refl e) (by omega))
  obtain ⟨h', z', s'⟩ := sees a c e
  have L := (up_v v0.1 s').1
  have D := (az_v v0.2.2 v0.2.1 s').1
  have a1 : cAltM a b c d e f = caltM a b c d e f := by
    unfold cAltM
    rw [h]
    rfl
  have a2 : cAziM a b c d e f = caziM a b c d e f := by
    unfold cAziM
    rw [h]
    rfl
  refine ⟨asinR (cupE a b c d e f).1 (cupE a b c d e f).2.1, bearR (ceaE c d e f).1 (ceaE c d e f).2.1 (cnoE a b c d e f).1 (cnoE a b c d e f).2.1, ?_, ?_, L, D, bear_form v0.2.2.2.1 v0.2.1.2.1, ?_, ?_⟩
  · unfold csolM
    rw [a1, a2, e1, e2]
    have z : ((0 : Int) != 0) = false := rfl
    simp only [lt]
    rw [L.2.2.2, D.2.2.2.2, z]
    rfl
  · rw [a1, e1]
  · intro x y t x0 y0 t0 h' z' s'
    exact (up_v (cup_v h x0 y0 t0).1 s').2
  · intro x y t x0 y0 t0 h' z' s'
    have v := cup_v h x0 y0 t0
    exact (az_v v.2.2 v.2.1 s').2
end Go.Proofs.YtipjnfabodfkcaaGreatDoor
namespace Go.Proofs.YtipjnfabodfkcaaGreatDoor
open Ev
theorem eqInts_inv {x y : Value} {xs ys : List Value} {r : Bool} (h : eqInts (x :: xs) (y :: ys) = some r) : ∃ a b r', x = .int .i64 a ∧ y = .int .i64 b ∧ eqInts xs ys = some r' ∧ r = ((a == b) && r') := by
  unfold eqInts at h
  split at h
  · rename_i he1 he2; cases he1
  · rename_i a l b m he1 he2
    cases he1
    cases he2
    split at h
    · rename_i r' hr
      simp only [Option.some.injEq] at h
      exact ⟨a, b, r', rfl, rfl, hr, h.symm⟩
    · cases h
  · cases h
theorem eqInts_nil : eqInts [] [] = some true := rfl
theorem eqArcAt (k : Nat) (a b c d : Int) (w : World) : (Op.equalIn (k + 2) 23 (.agg #[.int .i64 a, .int .i64 b]) (.agg #[.int .i64 c, .int .i64 d])).run Tryz.prog w = .ok (a == c && b == d) w := by
  have u3 := Tryz.underlying3
  have a3 := Tryz.isAgg3
  have z3 := Tryz.sizeOf3
  have hS : Tryz.prog.underlying 23 = some (.struct (Tryz.prog.fieldsOf 23)) := by kernel_rfl
  have hp : Tryz.prog.stoodInHeld 23 = false := by kernel_rfl
  rw [run_equalIn_agg w (k + 1) 23 _ _ hS hp]
  simp only [Program.fieldsOf, Tryz.underlying23]
  go_simp
  by_cases h1 : a = c <;> by_cases h2 : b = d <;> simp [h1, h2]
theorem fitArc : EqFit Tryz.prog (23, 2) := by
  refine ⟨by kernel_rfl, fun xs ys r hx hy h w => ?_⟩
  match xs, ys, hx, hy with
  | [x0, x1], [y0, y1], _, _ =>
    obtain ⟨a, c, r1, rfl, rfl, h1, rfl⟩ := eqInts_inv h
    obtain ⟨b, d, r2, rfl, rfl, h2, rfl⟩ := eqInts_inv h1
    rw [eqInts_nil] at h2
    cases h2
    rw [Bool.and_true]
    exact eqArcAt 9998 a b c d w
theorem fitSol : EqFit Tryz.prog (28, 4) := by
  refine ⟨by kernel_rfl, fun xs ys r hx hy h w => ?_⟩
  match xs, ys, hx, hy with
  | [x0, x1, x2, x3], [y0, y1, y2, y3], _, _ =>
    obtain ⟨a, c, r1, rfl, rfl, h1, rfl⟩ := eqInts_inv h
    obtain ⟨b, d, r2, rfl, rfl, h2, rfl⟩ := eqInts_inv h1
    obtain ⟨e, f, r3, rfl, rfl, h3, rfl⟩ := eqInts_inv h2
    obtain ⟨i, j, r4, rfl, rfl, h4, rfl⟩ := eqInts_inv h3
    rw [eqInts_nil] at h4
    cases h4
    have hS : Tryz.prog.underlying 28 = some (.struct (Tryz.prog.fieldsOf 28)) := by kernel_rfl
    have hp : Tryz.prog.stoodInHeld 28 = false := by kernel_rfl
    have a25 := Tryz.isAgg23
    have z25 := Tryz.sizeOf23
    have q1 := fun w => eqArcAt 9997 a b c d w
    have q2 := fun w => eqArcAt 9997 e i f j w
    rw [run_equalIn_agg w 9999 28 _ _ hS hp]
    simp only [Program.fieldsOf, Tryz.underlying28, Op.eqFields, part]
    simp [a25, z25, q1, q2]
    by_cases h1 : a = c <;> by_cases h2 : b = d <;> by_cases h3 : e = f <;> by_cases h4 : i = j <;> simp [h1, h2, h3, h4]
def Es : List (TypeId × Nat) := [(23, 2), (28, 4)]
theorem Es_ok : ∀ e ∈ Es, EqFit Tryz.prog e := by
  intro e he
  simp only [Es, List.mem_cons, List.not_mem_nil, or_false] at he
  rcases he with rfl | rfl
  · exact fitArc
  · exact fitSol
open SM TB TA
theorem ahav_at {x y p q : Int} (h1 : 0 ≤ x) (h2 : x ≤ y) (h3 : y ≤ 1073741824) (hp : IsAsin (2 * x - 1073741824) p) (hq : IsAsin (1073741824 - 2 * y) q) : ahavR x y = (5400000 + p, 5400000 - q, 0) := by
  have e1 : asn (1073741824 - 2 * y) = q := asn_eq (by omega) hq
  have e2 : asn (2 * x - 1073741824) = p := asn_eq (by omega) hp
  unfold ahavR acosR asinR
  rw [val_mk (a := x) (b := y) (by omega) h2 (by omega)]
  simp only [Bool.true_eq_false, if_false]
  have m1 : max x 0 = x := by omega
  have m2 : min y 1073741824 = y := by omega
  rw [m1, m2, if_pos h2, val_mk (a := 1073741824 - 2 * y) (b := 1073741824 - 2 * x) (by omega) (by omega) (by omega)]
  simp only [Bool.true_eq_false, if_false]
  have m3 : max (1073741824 - 2 * y) (-1073741824) = 1073741824 - 2 * y := by omega
  have m4 : min (1073741824 - 2 * x) 1073741824 = 1073741824 - 2 * x := by omega
  rw [m3, m4, if_pos (show 1073741824 - 2 * y ≤ 1073741824 - 2 * x by omega), e1, show -(1073741824 - 2 * x) = 2 * x - 1073741824 by omega, e2]
  simp
open Ev (lt keepE)
theorem ang_x : anglM 5400000 5400000 5400000 5400000 5400000 5400000 = (5399999, 5400001, 0) := by
  have h : ahavR 536870910 536870913 = (5399999, 5400001, 0) := by
    rw [ahav_at (p := -1) (q := -1) (by omega) (by omega) (by omega) ⟨by omega, by omega, by decide +kernel, .inr (by decide +kernel)⟩ ⟨by omega, by omega, by decide +kernel, .inr (by decide +kernel)⟩]
    rfl
  have e : anglM 5400000 5400000 5400000 5400000 5400000 5400000 = lt (ahavR 536870910 536870913) fun x => cond (x.2.2 != 0) (0, 0, 12) (x.1, x.2.1, 0) := by kernel_rfl
  rw [e, h]
  rfl
theorem exc_x : (excM 5400000 5400000 5400000 5400000 5400000 5400000).2.2 = 0 ∧ (excM 5400000 5400000 5400000 5400000 5400000 5400000).1 ≤ 5400000 ∧ 5400000 ≤ (excM 5400000 5400000 5400000 5400000 5400000 5400000).2.1 ∧ (excM 5400000 5400000 5400000 5400000 5400000 5400000).2.1 - (excM 5400000 5400000 5400000 5400000 5400000 5400000).1 < 100 := by decide +kernel
theorem hsl_x : (hslM 0 0 0 0 5400000 5400000).2.2.2.2 = 0 ∧ (hslM 0 0 0 0 5400000 5400000).2.2.1 = 16200000 ∧ (hslM 0 0 0 0 5400000 5400000).2.2.2.1 = 16200000 ∧ (hslM 0 0 0 0 5400000 5400000).1 ≤ 0 ∧ (hslM 0 0 0 0 5400000 5400000).2.1 ≥ 0 ∧ (hslM 0 0 0 0 5400000 5400000).2.1 - (hslM 0 0 0 0 5400000 5400000).1 < 100 := by decide +kernel
noncomputable def book_awake28_gives : Book := [(7, eT (fun a b c d e f => solV (hslM a b c d e f))), (10, ePPP (fun a b c d e f => arcV (anglM a b c d e f))), (12, ePPP (fun a b c d e f => arcV (excM a b c d e f)))]
theorem book_awake28_gives_ok : BookOk Tryz.prog book_awake28_gives := (bookOk_cons (eT_ok hslM_gives) (bookOk_cons (ePPP_ok anglM_gives) (bookOk_cons (ePPP_ok excM_gives) bookOk_nil)))
theorem awake28_gives_tree  : evF Tryz.prog Es Cs book_awake28_gives 20 6 6 ([].map AV.v) [] [] last =
  lt (anglM 5400000 5400000 5400000 5400000 5400000 5400000) fun x1 =>
  lt (excM 5400000 5400000 5400000 5400000 5400000 5400000) fun x2 =>
  lt (hslM 0 0 0 0 5400000 5400000) fun x3 =>
  cond (x1.2.2 == 0)
  (cond (decide (x1.1 ≤ 5400000))
   (cond (decide (5400000 ≤ x1.2.1))
    (cond (decide (IntKind.i64.wrap (x1.2.1 - x1.1) < 400))
     (cond (x2.2.2 == 0)
      (cond (decide (x2.1 ≤ 5400000))
       (cond (decide (5400000 ≤ x2.2.1))
        (cond (decide (IntKind.i64.wrap (x2.2.1 - x2.1) < 100))
         (cond (x3.2.2.2.2 == 0)
          (cond ((x3.2.2.1 == 16200000) && ((x3.2.2.2.1 == 16200000) && true))
           (cond (decide (x3.1 ≤ 0))
            (cond (decide (x3.2.1 ≥ 0))
             (some (.v (.bool (decide (IntKind.i64.wrap (x3.2.1 - x3.1) < 100)))))
             (some (.v (.bool false))))
            (some (.v (.bool false))))
           (some (.v (.bool false))))
          (some (.v (.bool false))))
         (some (.v (.bool false))))
        (some (.v (.bool false))))
       (some (.v (.bool false))))
      (some (.v (.bool false))))
     (some (.v (.bool false))))
    (some (.v (.bool false))))
   (some (.v (.bool false))))
  (some (.v (.bool false))) := by kernel_rfl
theorem awake28_gives  : Gives Tryz.prog 6 [] (.bool (true)) := by
  refine evF_gives (E := Es) mixed Es_ok Cs_ok book_awake28_gives_ok (lim := 20) (d := 6) (nm := []) ?_
  rw [awake28_gives_tree]
  have e2 := exc_x
  have e3 := hsl_x
  simp only [lt]
  rw [ang_x]
  generalize excM 5400000 5400000 5400000 5400000 5400000 5400000 = x at *
  generalize hslM 0 0 0 0 5400000 5400000 = y at *
  obtain ⟨a1, a2, a3, a4⟩ := e2
  obtain ⟨b1, b2, b3, b4, b5, b6⟩ := e3
  rw [a1, b1, b2, b3, decide_eq_true a2, decide_eq_true a3, decide_eq_true b4, decide_eq_true b5, i64w (x := x.2.1 - x.1) (by omega), i64w (x := y.2.1 - y.1) (by omega), decide_eq_true a4, decide_eq_true b6]
  rfl
end Go.Proofs.YtipjnfabodfkcaaGreatDoor
namespace Go.Proofs.YtipjnfabodfkcaaGreatDoor
open Ev

open SM TB TA
def all6 (_a _b _c _d _e _f : Int) : Bool := true
theorem csol_no {a b c d e f : Int} (h : triB a b c d e f = false) : csolM a b c d e f = (0, 0, 0, 0, 1) := by
  unfold csolM cAltM
  rw [h]
  rfl
noncomputable def book_h28me_any : Book := [(6, e0 (.bool (true))), (7, eT (fun a b c d e f => solV (hslM a b c d e f))), (19, eT (fun a b c d e f => solV (csolM a b c d e f))), (65, ePP (fun a b c d => boolV (agreeR a b c d)))]
theorem book_h28me_any_ok : BookOk Tryz.prog book_h28me_any := (bookOk_cons (e0_ok awake28_gives) (bookOk_cons (eT_ok hslM_gives) (bookOk_cons (eT_ok csolM_gives) (bookOk_cons (ePP_ok agreeR_gives) bookOk_nil))))
theorem h28me_any_tree (a b c d e f : Int) : evF Tryz.prog Es Cs book_h28me_any 20 6 5 ([.agg ⟨[.int .i64 a, .int .i64 b, .int .i64 c, .int .i64 d, .int .i64 e, .int .i64 f]⟩].map AV.v) [] [] last =
  cond (!(true))
  (some (.v (.bool false)))
  (lt (hslM a b c d e f) fun x1 =>
   lt (csolM a b c d e f) fun x2 =>
   cond (x1.2.2.2.2 != 0)
   (cond ((x1.1 == 0) && ((x1.2.1 == 0) && ((x1.2.2.1 == 0) && ((x1.2.2.2.1 == 0) && true))))
    (cond (x1.2.2.2.2 == 24)
     (some (.v (.bool true)))
     (cond (x1.2.2.2.2 == 1)
      (some (.v (.bool (x2.2.2.2.2 == 1))))
      (some (.v (.bool false)))))
    (some (.v (.bool false))))
   (cond (x2.2.2.2.2 == 0)
    (cond (decide (x1.1 ≤ x2.2.1))
     (cond (decide (x2.1 ≤ x1.2.1))
      (lt (agreeR x1.2.2.1 x1.2.2.2.1 x2.2.2.1 x2.2.2.2.1) fun x3 =>
       cond (x3.2 == 0)
       (cond x3.1
        (cond (decide (x1.1 ≤ x1.2.1))
         (cond (decide (x1.2.2.1 ≥ 0))
          (some (.v (.bool (decide (x1.2.2.1 < 21600000)))))
          (some (.v (.bool false))))
         (some (.v (.bool false))))
        (some (.v (.bool false))))
       (some (.v (.bool false))))
      (some (.v (.bool false))))
     (some (.v (.bool false))))
    (some (.v (.bool false))))) := by kernel_rfl
theorem h28me_any (a b c d e f : Int) : Gives Tryz.prog 5 [.agg ⟨[.int .i64 a, .int .i64 b, .int .i64 c, .int .i64 d, .int .i64 e, .int .i64 f]⟩] (.bool (all6 a b c d e f)) := by
  refine evF_gives (E := Es) mixed Es_ok Cs_ok book_h28me_any_ok (lim := 20) (d := 6) (nm := []) ?_
  rw [h28me_any_tree a b c d e f]
  simp only [lt, Bool.not_true, cond_false]
  unfold all6
  cases ht : triB a b c d e f with
  | false =>
    rw [hsl_no ht, csol_no ht]
    rfl
  | true =>
    obtain ⟨H, Z, ec, _, hc⟩ := cosine_hold ht
    rw [hsl_ok ht, ec]
    cases ho : originB (hfY a b c d e f).1 (hfY a b c d e f).2.1 (hfX a b c d e f).1 (hfX a b c d e f).2.1 with
    | true => rfl
    | false =>
    rw [if_neg (show ¬ (false = true) by simp)]
    dsimp only
    have K := half_hold ht ho
    obtain ⟨p1, p2, p3⟩ := tri_point ht
    obtain ⟨m1, m2, m3, _⟩ := K.meets hc p1 p2 p3 p1 p2 p3
    have L := K.lat
    have R := K.dir
    rw [show ((0 : Int) != 0) = false from rfl, cond_false, decide_eq_true m1, decide_eq_true m2, m3, decide_eq_true L.2.1, decide_eq_true (show (hfZ a b c d e f).1 ≥ 0 from R.1), decide_eq_true R.2.2.1]
    rfl
end Go.Proofs.YtipjnfabodfkcaaGreatDoor

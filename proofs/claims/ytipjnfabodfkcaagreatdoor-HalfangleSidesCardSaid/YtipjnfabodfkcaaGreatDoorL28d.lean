/-
  The examples of chapter 28. HalfangleSides answers true.
-/
import Derived.Test.YtipjnfabodfkcaaGreatDoorFp
import Derived.Test.YtipjnfabodfkcaaGreatDoorR4
import Derived.Test.YtipjnfabodfkcaaGreatDoorXw
namespace Go.Proofs.YtipjnfabodfkcaaGreatDoor
open Ev
theorem eqInts_inv {x y : Value} {xs ys : List Value} {r : Bool} (h : eqInts (x :: xs) (y :: ys) = some r) : ∃ a b r', x = .int .i64 a ∧ y = .int .i64 b ∧ eqInts xs ys = some r' ∧ r = ((a == b) && r') := by
  unfold eqInts at h
  split at h
  · rename_i he1 he2; cases he1
  · rename_i a l b m he1 he2
    cases he1
    cases he2
    split at h
    · rename_i r' hr
      simp only [Option.some.injEq] at h
      exact ⟨a, b, r', rfl, rfl, hr, h.symm⟩
    · cases h
  · cases h
theorem eqInts_nil : eqInts [] [] = some true := rfl
theorem eqArcAt (k : Nat) (a b c d : Int) (w : World) : (Op.equalIn (k + 2) 23 (.agg #[.int .i64 a, .int .i64 b]) (.agg #[.int .i64 c, .int .i64 d])).run Tryz.prog w = .ok (a == c && b == d) w := by
  have u3 := Tryz.underlying3
  have a3 := Tryz.isAgg3
  have z3 := Tryz.sizeOf3
  have hS : Tryz.prog.underlying 23 = some (.struct (Tryz.prog.fieldsOf 23)) := by kernel_rfl
  have hp : Tryz.prog.stoodInHeld 23 = false := by kernel_rfl
  rw [run_equalIn_agg w (k + 1) 23 _ _ hS hp]
  simp only [Program.fieldsOf, Tryz.underlying23]
  go_simp
  by_cases h1 : a = c <;> by_cases h2 : b = d <;> simp [h1, h2]
theorem fitArc : EqFit Tryz.prog (23, 2) := by
  refine ⟨by kernel_rfl, fun xs ys r hx hy h w => ?_⟩
  match xs, ys, hx, hy with
  | [x0, x1], [y0, y1], _, _ =>
    obtain ⟨a, c, r1, rfl, rfl, h1, rfl⟩ := eqInts_inv h
    obtain ⟨b, d, r2, rfl, rfl, h2, rfl⟩ := eqInts_inv h1
    rw [eqInts_nil] at h2
    cases h2
    rw [Bool.and_true]
    exact eqArcAt 9998 a b c d w
theorem fitSol : EqFit Tryz.prog (28, 4) := by
  refine ⟨by kernel_rfl, fun xs ys r hx hy h w => ?_⟩
  match xs, ys, hx, hy with
  | [x0, x1, x2, x3], [y0, y1, y2, y3], _, _ =>
    obtain ⟨a, c, r1, rfl, rfl, h1, rfl⟩ := eqInts_inv h
    obtain ⟨b, d, r2, rfl, rfl, h2, rfl⟩ := eqInts_inv h1
    obtain ⟨e, f, r3, rfl, rfl, h3, rfl⟩ := eqInts_inv h2
    obtain ⟨i, j, r4, rfl, rfl, h4, rfl⟩ := eqInts_inv h3
    rw [eqInts_nil] at h4
    cases h4
    have hS : Tryz.prog.underlying 28 = some (.struct (Tryz.prog.fieldsOf 28)) := by kernel_rfl
    have hp : Tryz.prog.stoodInHeld 28 = false := by kernel_rfl
    have a25 := Tryz.isAgg23
    have z25 := Tryz.sizeOf23
    have q1 := fun w => eqArcAt 9997 a b c d w
    have q2 := fun w => eqArcAt 9997 e i f j w
    rw [run_equalIn_agg w 9999 28 _ _ hS hp]
    simp only [Program.fieldsOf, Tryz.underlying28, Op.eqFields, part]
    simp [a25, z25, q1, q2]
    by_cases h1 : a = c <;> by_cases h2 : b = d <;> by_cases h3 : e = f <;> by_cases h4 : i = j <;> simp [h1, h2, h3, h4]
def Es : List (TypeId × Nat) := [(23, 2), (28, 4)]
theorem Es_ok : ∀ e ∈ Es, EqFit Tryz.prog e := by
  intro e he
  simp only [Es, List.mem_cons, List.not_mem_nil, or_false] at he
  rcases he with rfl | rfl
  · exact fitArc
  · exact fitSol
open SM TB TA
theorem ahav_at {x y p q : Int} (h1 : 0 ≤ x) (h2 : x ≤ y) (h3 : y ≤ 1073741824) (hp : IsAsin (2 * x - 1073741824) p) (hq : IsAsin (1073741824 - 2 * y) q) : ahavR x y = (5400000 + p, 5400000 - q, 0) := by
  have e1 : asn (1073741824 - 2 * y) = q := asn_eq (by omega) hq
  have e2 : asn (2 * x - 1073741824) = p := asn_eq (by omega) hp
  unfold ahavR acosR asinR
  rw [val_mk (a := x) (b := y) (by omega) h2 (by omega)]
  simp only [Bool.true_eq_false, if_false]
  have m1 : max x 0 = x := by omega
  have m2 : min y 1073741824 = y := by omega
  rw [m1, m2, if_pos h2, val_mk (a := 1073741824 - 2 * y) (b := 1073741824 - 2 * x) (by omega) (by omega) (by omega)]
  simp only [Bool.true_eq_false, if_false]
  have m3 : max (1073741824 - 2 * y) (-1073741824) = 1073741824 - 2 * y := by omega
  have m4 : min (1073741824 - 2 * x) 1073741824 = 1073741824 - 2 * x := by omega
  rw [m3, m4, if_pos (show 1073741824 - 2 * y ≤ 1073741824 - 2 * x by omega), e1, show -(1073741824 - 2 * x) = 2 * x - 1073741824 by omega, e2]
  simp
open Ev (lt keepE)
theorem ang_x : anglM 5400000 5400000 5400000 5400000 5400000 5400000 = (5399999, 5400001, 0) := by
  have h : ahavR 536870910 536870913 = (5399999, 5400001, 0) := by
    rw [ahav_at (p := -1) (q := -1) (by omega) (by omega) (by omega) ⟨by omega, by omega, by decide +kernel, .inr (by decide +kernel)⟩ ⟨by omega, by omega, by decide +kernel, .inr (by decide +kernel)⟩]
    rfl
  have e : anglM 5400000 5400000 5400000 5400000 5400000 5400000 = lt (ahavR 536870910 536870913) fun x => cond (x.2.2 != 0) (0, 0, 12) (x.1, x.2.1, 0) := by kernel_rfl
  rw [e, h]
  rfl
theorem exc_x : (excM 5400000 5400000 5400000 5400000 5400000 5400000).2.2 = 0 ∧ (excM 5400000 5400000 5400000 5400000 5400000 5400000).1 ≤ 5400000 ∧ 5400000 ≤ (excM 5400000 5400000 5400000 5400000 5400000 5400000).2.1 ∧ (excM 5400000 5400000 5400000 5400000 5400000 5400000).2.1 - (excM 5400000 5400000 5400000 5400000 5400000 5400000).1 < 100 := by decide +kernel
theorem hsl_x : (hslM 0 0 0 0 5400000 5400000).2.2.2.2 = 0 ∧ (hslM 0 0 0 0 5400000 5400000).2.2.1 = 16200000 ∧ (hslM 0 0 0 0 5400000 5400000).2.2.2.1 = 16200000 ∧ (hslM 0 0 0 0 5400000 5400000).1 ≤ 0 ∧ (hslM 0 0 0 0 5400000 5400000).2.1 ≥ 0 ∧ (hslM 0 0 0 0 5400000 5400000).2.1 - (hslM 0 0 0 0 5400000 5400000).1 < 100 := by decide +kernel
noncomputable def book_awake28_gives : Book := [(7, eT (fun a b c d e f => solV (hslM a b c d e f))), (10, ePPP (fun a b c d e f => arcV (anglM a b c d e f))), (12, ePPP (fun a b c d e f => arcV (excM a b c d e f)))]
theorem book_awake28_gives_ok : BookOk Tryz.prog book_awake28_gives := (bookOk_cons (eT_ok hslM_gives) (bookOk_cons (ePPP_ok anglM_gives) (bookOk_cons (ePPP_ok excM_gives) bookOk_nil)))
theorem awake28_gives_tree  : evF Tryz.prog Es Cs book_awake28_gives 20 6 6 ([].map AV.v) [] [] last =
  lt (anglM 5400000 5400000 5400000 5400000 5400000 5400000) fun x1 =>
  lt (excM 5400000 5400000 5400000 5400000 5400000 5400000) fun x2 =>
  lt (hslM 0 0 0 0 5400000 5400000) fun x3 =>
  cond (x1.2.2 == 0)
  (cond (decide (x1.1 ≤ 5400000))
   (cond (decide (5400000 ≤ x1.2.1))
    (cond (decide (IntKind.i64.wrap (x1.2.1 - x1.1) < 400))
     (cond (x2.2.2 == 0)
      (cond (decide (x2.1 ≤ 5400000))
       (cond (decide (5400000 ≤ x2.2.1))
        (cond (decide (IntKind.i64.wrap (x2.2.1 - x2.1) < 100))
         (cond (x3.2.2.2.2 == 0)
          (cond ((x3.2.2.1 == 16200000) && ((x3.2.2.2.1 == 16200000) && true))
           (cond (decide (x3.1 ≤ 0))
            (cond (decide (x3.2.1 ≥ 0))
             (some (.v (.bool (decide (IntKind.i64.wrap (x3.2.1 - x3.1) < 100)))))
             (some (.v (.bool false))))
            (some (.v (.bool false))))
           (some (.v (.bool false))))
          (some (.v (.bool false))))
         (some (.v (.bool false))))
        (some (.v (.bool false))))
       (some (.v (.bool false))))
      (some (.v (.bool false))))
     (some (.v (.bool false))))
    (some (.v (.bool false))))
   (some (.v (.bool false))))
  (some (.v (.bool false))) := by kernel_rfl
theorem awake28_gives  : Gives Tryz.prog 6 [] (.bool (true)) := by
  refine evF_gives (E := Es) mixed Es_ok Cs_ok book_awake28_gives_ok (lim := 20) (d := 6) (nm := []) ?_
  rw [awake28_gives_tree]
  have e2 := exc_x
  have e3 := hsl_x
  simp only [lt]
  rw [ang_x]
  generalize excM 5400000 5400000 5400000 5400000 5400000 5400000 = x at *
  generalize hslM 0 0 0 0 5400000 5400000 = y at *
  obtain ⟨a1, a2, a3, a4⟩ := e2
  obtain ⟨b1, b2, b3, b4, b5, b6⟩ := e3
  rw [a1, b1, b2, b3, decide_eq_true a2, decide_eq_true a3, decide_eq_true b4, decide_eq_true b5, i64w (x := x.2.1 - x.1) (by omega), i64w (x := y.2.1 - y.1) (by omega), decide_eq_true a4, decide_eq_true b6]
  rfl
end Go.Proofs.YtipjnfabodfkcaaGreatDoor
namespace Go.Proofs.YtipjnfabodfkcaaGreatDoor
open Ev

open SM TB TA
def all8 (_a _b _c _d _e _f _u _v : Int) : Bool := true
theorem rsid_eq (a b c d e f : Int) : rsidM a b c d e f = threeB a b c d e f := by
  unfold rsidM threeB
  rw [ris_eq, ris_eq, ris_eq]
  cases sideM a b <;> cases sideM c d <;> rfl
theorem angl_no {a b c d e f : Int} (h : threeB a b c d e f = false) : anglM a b c d e f = (0, 0, 1) ∧ excM a b c d e f = (0, 0, 1) := by
  unfold threeB at h
  unfold anglM excM
  cases h1 : sideM a b with
  | false => exact ⟨rfl, rfl⟩
  | true =>
    cases h2 : sideM c d with
    | false => exact ⟨rfl, rfl⟩
    | true =>
      cases h3 : sideM e f with
      | false => exact ⟨rfl, rfl⟩
      | true =>
        rw [h1, h2, h3] at h
        cases h
theorem hsid_no3 {a b c d e f : Int} (h : twoB a b c d e f = false) : hsidM a b c d e f = (0, 0, 1) := by
  unfold twoB at h
  unfold hsidM
  cases h1 : sideM a b with
  | false => rfl
  | true =>
    cases h2 : sideM c d with
    | false => rfl
    | true =>
      cases h3 : avalidB e f with
      | false => rfl
      | true =>
        rw [h1, h2, h3] at h
        cases h
theorem side_ok {a b c d e f : Int} (h : twoB a b c d e f = true) : hsidM a b c d e f = ((rsidE a b c d e f).1, (rsidE a b c d e f).2, 0) := by
  obtain ⟨s1, s2, s3⟩ := two_inv h
  obtain ⟨a0, a1, a2, va⟩ := side_bd s1
  obtain ⟨b0, b1, b2, vb⟩ := side_bd s2
  have e' := aval_bd s3
  obtain ⟨h', z, s⟩ := sees (5400000 - (a : Rat)) (5400000 - (c : Rat)) (e : Rat)
  have rA : 0 ≤ 5400000 - h' ∧ 5400000 - h' ≤ 10800000 := by
    obtain ⟨g0, g1, _⟩ := s
    constructor <;> grind
  have S := sid_v ⟨a0, a1, a2⟩ ⟨b0, b1, b2⟩ s3 (Hs.at (Int.le_refl a) (by omega)) (Hs.at (Int.le_refl c) (by omega)) (Hs.at (Int.le_refl e) (by omega)) rA (tri_sees s)
  rw [hsid_ok s1 s2 s3]
  unfold sidE rsidE
  rw [if_neg (by rw [S.1]; simp)]
noncomputable def book_h28si_any : Book := [(6, e0 (.bool (true))), (10, ePPP (fun a b c d e f => arcV (anglM a b c d e f))), (11, ePPP (fun a b c d e f => arcV (hsidM a b c d e f))), (12, ePPP (fun a b c d e f => arcV (excM a b c d e f))), (13, eP (fun a b => .bool (risM a b))), (14, eP (fun a b => .bool (rvalM a b))), (15, ePPPif twoB (fun a b c d e f => pairV (rsidE a b c d e f).1 (rsidE a b c d e f).2)), (16, ePPP (fun a b c d e f => .bool (rsidM a b c d e f))), (17, ePPPif threeB (fun a b c d e f => arcV (anglM a b c d e f))), (18, ePPPif threeB (fun a b c d e f => arcV (excM a b c d e f)))]
theorem book_h28si_any_ok : BookOk Tryz.prog book_h28si_any := (bookOk_cons (e0_ok awake28_gives) (bookOk_cons (ePPP_ok anglM_gives) (bookOk_cons (ePPP_ok hsidM_gives) (bookOk_cons (ePPP_ok excM_gives) (bookOk_cons (eP_ok risM_gives) (bookOk_cons (eP_ok rvalM_gives) (bookOk_cons (ePPPif_ok rsid28_gives) (bookOk_cons (ePPP_ok rsidM_gives) (bookOk_cons (ePPPif_ok rang28_gives) (bookOk_cons (ePPPif_ok rexc28_gives) bookOk_nil))))))))))
theorem h28si_any_tree (a b c d e f u v : Int) : evF Tryz.prog Es Cs book_h28si_any 20 6 4 ([.agg ⟨[.int .i64 a, .int .i64 b]⟩, .agg ⟨[.int .i64 c, .int .i64 d]⟩, .agg ⟨[.int .i64 e, .int .i64 f]⟩, .agg ⟨[.int .i64 u, .int .i64 v]⟩].map AV.v) [] [] last =
  cond (!(true))
  (some (.v (.bool false)))
  (lt (anglM a b c d e f) fun x1 =>
   lt (hsidM c d e f u v) fun x2 =>
   lt (excM a b c d e f) fun x3 =>
   cond (!(risM c d))
   (cond (!((x2.1 == 0) && ((x2.2.1 == 0) && true)))
    (some (.v (.bool false)))
    (cond (x2.2.2 != 1)
     (some (.v (.bool false)))
     (cond (!(rsidM a b c d e f))
      (cond ((x1.1 == 0) && ((x1.2.1 == 0) && true))
       (cond (x1.2.2 == 1)
        (cond ((x3.1 == 0) && ((x3.2.1 == 0) && true))
         (some (.v (.bool (x3.2.2 == 1))))
         (some (.v (.bool false))))
        (some (.v (.bool false))))
       (some (.v (.bool false))))
      (lt (anglM a b c d e f) fun x4 =>
       cond (threeB a b c d e f)
       (lt (excM a b c d e f) fun x5 =>
        cond (threeB a b c d e f)
        (cond ((x1.1 == x4.1) && ((x1.2.1 == x4.2.1) && true))
         (cond (x1.2.2 == x4.2.2)
          (cond ((x3.1 == x5.1) && ((x3.2.1 == x5.2.1) && true))
           (some (.v (.bool (x3.2.2 == x5.2.2))))
           (some (.v (.bool false))))
          (some (.v (.bool false))))
         (some (.v (.bool false))))
        (none))
       (none)))))
   (cond (!(risM e f))
    (cond (!((x2.1 == 0) && ((x2.2.1 == 0) && true)))
     (some (.v (.bool false)))
     (cond (x2.2.2 != 1)
      (some (.v (.bool false)))
      (cond (!(rsidM a b c d e f))
       (cond ((x1.1 == 0) && ((x1.2.1 == 0) && true))
        (cond (x1.2.2 == 1)
         (cond ((x3.1 == 0) && ((x3.2.1 == 0) && true))
          (some (.v (.bool (x3.2.2 == 1))))
          (some (.v (.bool false))))
         (some (.v (.bool false))))
        (some (.v (.bool false))))
       (lt (anglM a b c d e f) fun x6 =>
        cond (threeB a b c d e f)
        (lt (excM a b c d e f) fun x7 =>
         cond (threeB a b c d e f)
         (cond ((x1.1 == x6.1) && ((x1.2.1 == x6.2.1) && true))
          (cond (x1.2.2 == x6.2.2)
           (cond ((x3.1 == x7.1) && ((x3.2.1 == x7.2.1) && true))
            (some (.v (.bool (x3.2.2 == x7.2.2))))
            (some (.v (.bool false))))
           (some (.v (.bool false))))
          (some (.v (.bool false))))
         (none))
        (none)))))
    (cond (!(rvalM u v))
     (cond (!((x2.1 == 0) && ((x2.2.1 == 0) && true)))
      (some (.v (.bool false)))
      (cond (x2.2.2 != 1)
       (some (.v (.bool false)))
       (cond (!(rsidM a b c d e f))
        (cond ((x1.1 == 0) && ((x1.2.1 == 0) && true))
         (cond (x1.2.2 == 1)
          (cond ((x3.1 == 0) && ((x3.2.1 == 0) && true))
           (some (.v (.bool (x3.2.2 == 1))))
           (some (.v (.bool false))))
          (some (.v (.bool false))))
         (some (.v (.bool false))))
        (lt (anglM a b c d e f) fun x8 =>
         cond (threeB a b c d e f)
         (lt (excM a b c d e f) fun x9 =>
          cond (threeB a b c d e f)
          (cond ((x1.1 == x8.1) && ((x1.2.1 == x8.2.1) && true))
           (cond (x1.2.2 == x8.2.2)
            (cond ((x3.1 == x9.1) && ((x3.2.1 == x9.2.1) && true))
             (some (.v (.bool (x3.2.2 == x9.2.2))))
             (some (.v (.bool false))))
            (some (.v (.bool false))))
           (some (.v (.bool false))))
          (none))
         (none)))))
     (cond (x2.2.2 != 0)
      (some (.v (.bool false)))
      (lt (rsidE c d e f u v) fun x10 =>
       cond (twoB c d e f u v)
       (cond (!((x2.1 == x10.1) && ((x2.2.1 == x10.2) && true)))
        (some (.v (.bool false)))
        (cond (!(rsidM a b c d e f))
         (cond ((x1.1 == 0) && ((x1.2.1 == 0) && true))
          (cond (x1.2.2 == 1)
           (cond ((x3.1 == 0) && ((x3.2.1 == 0) && true))
            (some (.v (.bool (x3.2.2 == 1))))
            (some (.v (.bool false))))
           (some (.v (.bool false))))
          (some (.v (.bool false))))
         (lt (anglM a b c d e f) fun x11 =>
          cond (threeB a b c d e f)
          (lt (excM a b c d e f) fun x12 =>
           cond (threeB a b c d e f)
           (cond ((x1.1 == x11.1) && ((x1.2.1 == x11.2.1) && true))
            (cond (x1.2.2 == x11.2.2)
             (cond ((x3.1 == x12.1) && ((x3.2.1 == x12.2.1) && true))
              (some (.v (.bool (x3.2.2 == x12.2.2))))
              (some (.v (.bool false))))
             (some (.v (.bool false))))
            (some (.v (.bool false))))
           (none))
          (none))))
       (none)))))) := by kernel_rfl
theorem h28si_any (a b c d e f u v : Int) : Gives Tryz.prog 4 [.agg ⟨[.int .i64 a, .int .i64 b]⟩, .agg ⟨[.int .i64 c, .int .i64 d]⟩, .agg ⟨[.int .i64 e, .int .i64 f]⟩, .agg ⟨[.int .i64 u, .int .i64 v]⟩] (.bool (all8 a b c d e f u v)) := by
  refine evF_gives (E := Es) mixed Es_ok Cs_ok book_h28si_any_ok (lim := 20) (d := 6) (nm := []) ?_
  rw [h28si_any_tree a b c d e f u v]
  simp only [lt, Bool.not_true, cond_false]
  unfold all8
  rw [ris_eq, ris_eq, rval_eq, rsid_eq]
  have S0 : twoB c d e f u v = true ∨ twoB c d e f u v = false := by cases twoB c d e f u v <;> simp
  have S1 : twoB c d e f u v = (sideM c d && (sideM e f && avalidB u v)) := rfl
  cases ht : threeB a b c d e f with
  | false =>
    obtain ⟨e1, e2⟩ := angl_no ht
    rw [e1, e2]
    rcases S0 with h | h
    · rw [side_ok h, h]
      obtain ⟨t1, t2, t3⟩ := two_inv h
      rw [t1, t2, t3]
      generalize rsidE c d e f u v = w
      simp
    · rw [hsid_no3 h]
      rw [S1] at h
      cases h1 : sideM c d with
      | false => rfl
      | true =>
        cases h2 : sideM e f with
        | false => rfl
        | true =>
          cases h3 : avalidB u v with
          | false => rfl
          | true => rw [h1, h2, h3] at h; cases h
  | true =>
    generalize anglM a b c d e f = y
    generalize excM a b c d e f = w
    rcases S0 with h | h
    · rw [side_ok h, h]
      obtain ⟨t1, t2, t3⟩ := two_inv h
      rw [t1, t2, t3]
      generalize rsidE c d e f u v = w
      simp
    · rw [hsid_no3 h]
      rw [S1] at h
      cases h1 : sideM c d with
      | false => simp
      | true =>
        cases h2 : sideM e f with
        | false => simp
        | true =>
          cases h3 : avalidB u v with
          | false => simp
          | true => rw [h1, h2, h3] at h; cases h
end Go.Proofs.YtipjnfabodfkcaaGreatDoor

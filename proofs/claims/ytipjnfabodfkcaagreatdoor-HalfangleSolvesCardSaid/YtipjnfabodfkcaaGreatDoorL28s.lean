/-
  The examples of chapter 28. HalfangleSolves answers true.
-/
import Derived.Test.YtipjnfabodfkcaaGreatDoorFp
import Derived.Test.YtipjnfabodfkcaaGreatDoorR3
namespace Go.Proofs.YtipjnfabodfkcaaGreatDoor
open Ev
theorem eqInts_inv {x y : Value} {xs ys : List Value} {r : Bool} (h : eqInts (x :: xs) (y :: ys) = some r) : ∃ a b r', x = .int .i64 a ∧ y = .int .i64 b ∧ eqInts xs ys = some r' ∧ r = ((a == b) && r') := by
  unfold eqInts at h
  split at h
  · rename_i he1 he2; cases he1
  · rename_i a l b m he1 he2
    cases he1
    cases he2
    split at h
    · rename_i r' hr
      simp only [Option.some.injEq] at h
      exact ⟨a, b, r', rfl, rfl, hr, h.symm⟩
    · cases h
  · cases h
theorem eqInts_nil : eqInts [] [] = some true := rfl
theorem eqArcAt (k : Nat) (a b c d : Int) (w : World) : (Op.equalIn (k + 2) 23 (.agg #[.int .i64 a, .int .i64 b]) (.agg #[.int .i64 c, .int .i64 d])).run Tryz.prog w = .ok (a == c && b == d) w := by
  have u3 := Tryz.underlying3
  have a3 := Tryz.isAgg3
  have z3 := Tryz.sizeOf3
  have hS : Tryz.prog.underlying 23 = some (.struct (Tryz.prog.fieldsOf 23)) := by kernel_rfl
  have hp : Tryz.prog.stoodInHeld 23 = false := by kernel_rfl
  rw [run_equalIn_agg w (k + 1) 23 _ _ hS hp]
  simp only [Program.fieldsOf, Tryz.underlying23]
  go_simp
  by_cases h1 : a = c <;> by_cases h2 : b = d <;> simp [h1, h2]
theorem fitArc : EqFit Tryz.prog (23, 2) := by
  refine ⟨by kernel_rfl, fun xs ys r hx hy h w => ?_⟩
  match xs, ys, hx, hy with
  | [x0, x1], [y0, y1], _, _ =>
    obtain ⟨a, c, r1, rfl, rfl, h1, rfl⟩ := eqInts_inv h
    obtain ⟨b, d, r2, rfl, rfl, h2, rfl⟩ := eqInts_inv h1
    rw [eqInts_nil] at h2
    cases h2
    rw [Bool.and_true]
    exact eqArcAt 9998 a b c d w
theorem fitSol : EqFit Tryz.prog (28, 4) := by
  refine ⟨by kernel_rfl, fun xs ys r hx hy h w => ?_⟩
  match xs, ys, hx, hy with
  | [x0, x1, x2, x3], [y0, y1, y2, y3], _, _ =>
    obtain ⟨a, c, r1, rfl, rfl, h1, rfl⟩ := eqInts_inv h
    obtain ⟨b, d, r2, rfl, rfl, h2, rfl⟩ := eqInts_inv h1
    obtain ⟨e, f, r3, rfl, rfl, h3, rfl⟩ := eqInts_inv h2
    obtain ⟨i, j, r4, rfl, rfl, h4, rfl⟩ := eqInts_inv h3
    rw [eqInts_nil] at h4
    cases h4
    have hS : Tryz.prog.underlying 28 = some (.struct (Tryz.prog.fieldsOf 28)) := by kernel_rfl
    have hp : Tryz.prog.stoodInHeld 28 = false := by kernel_rfl
    have a25 := Tryz.isAgg23
    have z25 := Tryz.sizeOf23
    have q1 := fun w => eqArcAt 9997 a b c d w
    have q2 := fun w => eqArcAt 9997 e i f j w
    rw [run_equalIn_agg w 9999 28 _ _ hS hp]
    simp only [Program.fieldsOf, Tryz.underlying28, Op.eqFields, part]
    simp [a25, z25, q1, q2]
    by_cases h1 : a = c <;> by_cases h2 : b = d <;> by_cases h3 : e = f <;> by_cases h4 : i = j <;> simp [h1, h2, h3, h4]
def Es : List (TypeId × Nat) := [(23, 2), (28, 4)]
theorem Es_ok : ∀ e ∈ Es, EqFit Tryz.prog e := by
  intro e he
  simp only [Es, List.mem_cons, List.not_mem_nil, or_false] at he
  rcases he with rfl | rfl
  · exact fitArc
  · exact fitSol
open SM TB TA
theorem ahav_at {x y p q : Int} (h1 : 0 ≤ x) (h2 : x ≤ y) (h3 : y ≤ 1073741824) (hp : IsAsin (2 * x - 1073741824) p) (hq : IsAsin (1073741824 - 2 * y) q) : ahavR x y = (5400000 + p, 5400000 - q, 0) := by
  have e1 : asn (1073741824 - 2 * y) = q := asn_eq (by omega) hq
  have e2 : asn (2 * x - 1073741824) = p := asn_eq (by omega) hp
  unfold ahavR acosR asinR
  rw [val_mk (a := x) (b := y) (by omega) h2 (by omega)]
  simp only [Bool.true_eq_false, if_false]
  have m1 : max x 0 = x := by omega
  have m2 : min y 1073741824 = y := by omega
  rw [m1, m2, if_pos h2, val_mk (a := 1073741824 - 2 * y) (b := 1073741824 - 2 * x) (by omega) (by omega) (by omega)]
  simp only [Bool.true_eq_false, if_false]
  have m3 : max (1073741824 - 2 * y) (-1073741824) = 1073741824 - 2 * y := by omega
  have m4 : min (1073741824 - 2 * x) 1073741824 = 1073741824 - 2 * x := by omega
  rw [m3, m4, if_pos (show 1073741824 - 2 * y ≤ 1073741824 - 2 * x by omega), e1, show -(1073741824 - 2 * x) = 2 * x - 1073741824 by omega, e2]
  simp
open Ev (lt keepE)
theorem ang_x : anglM 5400000 5400000 5400000 5400000 5400000 5400000 = (5399999, 5400001, 0) := by
  have h : ahavR 536870910 536870913 = (5399999, 5400001, 0) := by
    rw [ahav_at (p := -1) (q := -1) (by omega) (by omega) (by omega) ⟨by omega, by omega, by decide +kernel, .inr (by decide +kernel)⟩ ⟨by omega, by omega, by decide +kernel, .inr (by decide +kernel)⟩]
    rfl
  have e : anglM 5400000 5400000 5400000 5400000 5400000 5400000 = lt (ahavR 536870910 536870913) fun x => cond (x.2.2 != 0) (0, 0, 12) (x.1, x.2.1, 0) := by kernel_rfl
  rw [e, h]
  rfl
theorem exc_x : (excM 5400000 5400000 5400000 5400000 5400000 5400000).2.2 = 0 ∧ (excM 5400000 5400000 5400000 5400000 5400000 5400000).1 ≤ 5400000 ∧ 5400000 ≤ (excM 5400000 5400000 5400000 5400000 5400000 5400000).2.1 ∧ (excM 5400000 5400000 5400000 5400000 5400000 5400000).2.1 - (excM 5400000 5400000 5400000 5400000 5400000 5400000).1 < 100 := by decide +kernel
theorem hsl_x : (hslM 0 0 0 0 5400000 5400000).2.2.2.2 = 0 ∧ (hslM 0 0 0 0 5400000 5400000).2.2.1 = 16200000 ∧ (hslM 0 0 0 0 5400000 5400000).2.2.2.1 = 16200000 ∧ (hslM 0 0 0 0 5400000 5400000).1 ≤ 0 ∧ (hslM 0 0 0 0 5400000 5400000).2.1 ≥ 0 ∧ (hslM 0 0 0 0 5400000 5400000).2.1 - (hslM 0 0 0 0 5400000 5400000).1 < 100 := by decide +kernel
noncomputable def book_awake28_gives : Book := [(7, eT (fun a b c d e f => solV (hslM a b c d e f))), (10, ePPP (fun a b c d e f => arcV (anglM a b c d e f))), (12, ePPP (fun a b c d e f => arcV (excM a b c d e f)))]
theorem book_awake28_gives_ok : BookOk Tryz.prog book_awake28_gives := (bookOk_cons (eT_ok hslM_gives) (bookOk_cons (ePPP_ok anglM_gives) (bookOk_cons (ePPP_ok excM_gives) bookOk_nil)))
theorem awake28_gives_tree  : evF Tryz.prog Es Cs book_awake28_gives 20 6 6 ([].map AV.v) [] [] last =
  lt (anglM 5400000 5400000 5400000 5400000 5400000 5400000) fun x1 =>
  lt (excM 5400000 5400000 5400000 5400000 5400000 5400000) fun x2 =>
  lt (hslM 0 0 0 0 5400000 5400000) fun x3 =>
  cond (x1.2.2 == 0)
  (cond (decide (x1.1 ≤ 5400000))
   (cond (decide (5400000 ≤ x1.2.1))
    (cond (decide (IntKind.i64.wrap (x1.2.1 - x1.1) < 400))
     (cond (x2.2.2 == 0)
      (cond (decide (x2.1 ≤ 5400000))
       (cond (decide (5400000 ≤ x2.2.1))
        (cond (decide (IntKind.i64.wrap (x2.2.1 - x2.1) < 100))
         (cond (x3.2.2.2.2 == 0)
          (cond ((x3.2.2.1 == 16200000) && ((x3.2.2.2.1 == 16200000) && true))
           (cond (decide (x3.1 ≤ 0))
            (cond (decide (x3.2.1 ≥ 0))
             (some (.v (.bool (decide (IntKind.i64.wrap (x3.2.1 - x3.1) < 100)))))
             (some (.v (.bool false))))
            (some (.v (.bool false))))
           (some (.v (.bool false))))
          (some (.v (.bool false))))
         (some (.v (.bool false))))
        (some (.v (.bool false))))
       (some (.v (.bool false))))
      (some (.v (.bool false))))
     (some (.v (.bool false))))
    (some (.v (.bool false))))
   (some (.v (.bool false))))
  (some (.v (.bool false))) := by kernel_rfl
theorem awake28_gives  : Gives Tryz.prog 6 [] (.bool (true)) := by
  refine evF_gives (E := Es) mixed Es_ok Cs_ok book_awake28_gives_ok (lim := 20) (d := 6) (nm := []) ?_
  rw [awake28_gives_tree]
  have e2 := exc_x
  have e3 := hsl_x
  simp only [lt]
  rw [ang_x]
  generalize excM 5400000 5400000 5400000 5400000 5400000 5400000 = x at *
  generalize hslM 0 0 0 0 5400000 5400000 = y at *
  obtain ⟨a1, a2, a3, a4⟩ := e2
  obtain ⟨b1, b2, b3, b4, b5, b6⟩ := e3
  rw [a1, b1, b2, b3, decide_eq_true a2, decide_eq_true a3, decide_eq_true b4, decide_eq_true b5, i64w (x := x.2.1 - x.1) (by omega), i64w (x := y.2.1 - y.1) (by omega), decide_eq_true a4, decide_eq_true b6]
  rfl
end Go.Proofs.YtipjnfabodfkcaaGreatDoor
namespace Go.Proofs.YtipjnfabodfkcaaGreatDoor
open Ev

open SM TB TA
def all6 (_a _b _c _d _e _f : Int) : Bool := true
noncomputable def book_h28so_any : Book := [(6, e0 (.bool (true))), (7, eT (fun a b c d e f => solV (hslM a b c d e f))), (8, eT (fun a b c d e f => .bool (rv28M a b c d e f))), (9, eTif triB (fun a b c d e f => solV (hslM a b c d e f)))]
theorem book_h28so_any_ok : BookOk Tryz.prog book_h28so_any := (bookOk_cons (e0_ok awake28_gives) (bookOk_cons (eT_ok hslM_gives) (bookOk_cons (eT_ok rv28M_gives) (bookOk_cons (eTif_ok rsol28_gives) bookOk_nil))))
theorem h28so_any_tree (a b c d e f : Int) : evF Tryz.prog Es Cs book_h28so_any 20 6 3 ([.agg ⟨[.int .i64 a, .int .i64 b, .int .i64 c, .int .i64 d, .int .i64 e, .int .i64 f]⟩].map AV.v) [] [] last =
  cond (!(true))
  (some (.v (.bool false)))
  (lt (hslM a b c d e f) fun x1 =>
   cond (!(rv28M a b c d e f))
   (cond ((x1.1 == 0) && ((x1.2.1 == 0) && ((x1.2.2.1 == 0) && ((x1.2.2.2.1 == 0) && true))))
    (some (.v (.bool (x1.2.2.2.2 == 1))))
    (some (.v (.bool false))))
   (lt (hslM a b c d e f) fun x2 =>
    cond (triB a b c d e f)
    (cond ((x1.1 == x2.1) && ((x1.2.1 == x2.2.1) && ((x1.2.2.1 == x2.2.2.1) && ((x1.2.2.2.1 == x2.2.2.2.1) && true))))
     (some (.v (.bool (x1.2.2.2.2 == x2.2.2.2.2))))
     (some (.v (.bool false))))
    (none))) := by kernel_rfl
theorem h28so_any (a b c d e f : Int) : Gives Tryz.prog 3 [.agg ⟨[.int .i64 a, .int .i64 b, .int .i64 c, .int .i64 d, .int .i64 e, .int .i64 f]⟩] (.bool (all6 a b c d e f)) := by
  refine evF_gives (E := Es) mixed Es_ok Cs_ok book_h28so_any_ok (lim := 20) (d := 6) (nm := []) ?_
  rw [h28so_any_tree a b c d e f]
  simp only [lt, Bool.not_true, cond_false]
  unfold all6 rv28M
  rw [rtri_eq]
  cases ht : triB a b c d e f with
  | false =>
    rw [hsl_no ht]
    rfl
  | true =>
    generalize hslM a b c d e f = y
    simp
end Go.Proofs.YtipjnfabodfkcaaGreatDoor

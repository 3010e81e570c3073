/-
  Haversines: what the exported functions give, as plain functions.
-/
import Derived.Test.YtcjkfchjcealbaaF3
namespace Go.Proofs.Ytcjkfchjcealbaa
open Ev
def solV (r : Int × Int × Int × Int × Int) : Value := .tuple ⟨[.agg ⟨[.int .i64 r.1, .int .i64 r.2.1, .int .i64 r.2.2.1, .int .i64 r.2.2.2.1]⟩, .int .i64 r.2.2.2.2]⟩
theorem eqInts_inv {x y : Value} {xs ys : List Value} {r : Bool} (h : eqInts (x :: xs) (y :: ys) = some r) : ∃ a b r', x = .int .i64 a ∧ y = .int .i64 b ∧ eqInts xs ys = some r' ∧ r = ((a == b) && r') := by
  unfold eqInts at h
  split at h
  · rename_i he1 he2; cases he1
  · rename_i a l b m he1 he2
    cases he1
    cases he2
    split at h
    · rename_i r' hr
      simp only [Option.some.injEq] at h
      exact ⟨a, b, r', rfl, rfl, hr, h.symm⟩
    · cases h
  · cases h
theorem eqInts_nil : eqInts [] [] = some true := rfl
theorem eqArcAt (k : Nat) (a b c d : Int) (w : World) : (Op.equalIn (k + 2) 25 (.agg #[.int .i64 a, .int .i64 b]) (.agg #[.int .i64 c, .int .i64 d])).run Try.prog w = .ok (a == c && b == d) w := by
  have u3 := Try.underlying3
  have a3 := Try.isAgg3
  have z3 := Try.sizeOf3
  have hS : Try.prog.underlying 25 = some (.struct (Try.prog.fieldsOf 25)) := by kernel_rfl
  have hp : Try.prog.stoodInHeld 25 = false := by kernel_rfl
  rw [run_equalIn_agg w (k + 1) 25 _ _ hS hp]
  simp only [Program.fieldsOf, Try.underlying25]
  go_simp
  by_cases h1 : a = c <;> by_cases h2 : b = d <;> simp [h1, h2]
theorem fitArc : EqFit Try.prog (25, 2) := by
  refine ⟨by kernel_rfl, fun xs ys r hx hy h w => ?_⟩
  match xs, ys, hx, hy with
  | [x0, x1], [y0, y1], _, _ =>
    obtain ⟨a, c, r1, rfl, rfl, h1, rfl⟩ := eqInts_inv h
    obtain ⟨b, d, r2, rfl, rfl, h2, rfl⟩ := eqInts_inv h1
    rw [eqInts_nil] at h2
    cases h2
    rw [Bool.and_true]
    exact eqArcAt 9998 a b c d w
theorem fitSol : EqFit Try.prog (41, 4) := by
  refine ⟨by kernel_rfl, fun xs ys r hx hy h w => ?_⟩
  match xs, ys, hx, hy with
  | [x0, x1, x2, x3], [y0, y1, y2, y3], _, _ =>
    obtain ⟨a, c, r1, rfl, rfl, h1, rfl⟩ := eqInts_inv h
    obtain ⟨b, d, r2, rfl, rfl, h2, rfl⟩ := eqInts_inv h1
    obtain ⟨e, f, r3, rfl, rfl, h3, rfl⟩ := eqInts_inv h2
    obtain ⟨i, j, r4, rfl, rfl, h4, rfl⟩ := eqInts_inv h3
    rw [eqInts_nil] at h4
    cases h4
    have hS : Try.prog.underlying 41 = some (.struct (Try.prog.fieldsOf 41)) := by kernel_rfl
    have hp : Try.prog.stoodInHeld 41 = false := by kernel_rfl
    have a25 := Try.isAgg25
    have z25 := Try.sizeOf25
    have q1 := fun w => eqArcAt 9997 a b c d w
    have q2 := fun w => eqArcAt 9997 e i f j w
    rw [run_equalIn_agg w 9999 41 _ _ hS hp]
    simp only [Program.fieldsOf, Try.underlying41, Op.eqFields, part]
    simp [a25, z25, q1, q2]
    by_cases h1 : a = c <;> by_cases h2 : b = d <;> by_cases h3 : e = f <;> by_cases h4 : i = j <;> simp [h1, h2, h3, h4]
def Es : List (TypeId × Nat) := [(25, 2), (41, 4)]
theorem Es_ok : ∀ e ∈ Es, EqFit Try.prog e := by
  intro e he
  simp only [Es, List.mem_cons, List.not_mem_nil, or_false] at he
  rcases he with rfl | rfl
  · exact fitArc
  · exact fitSol
noncomputable def lessV (a b : Int) : Int × Int :=
  (IntKind.i64.wrap (5400000 - b), IntKind.i64.wrap (5400000 - a))
noncomputable def book_lessV_gives : Book := []
theorem book_lessV_gives_ok : BookOk Try.prog book_lessV_gives := bookOk_nil
theorem lessV_gives_tree (a b : Int) : evF Try.prog [] Cs book_lessV_gives 20 6 34 ([.agg ⟨[.int .i64 a, .int .i64 b]⟩].map AV.v) [] [] last =
  some (.v (.agg ⟨[.int .i64 (IntKind.i64.wrap (5400000 - b)), .int .i64 (IntKind.i64.wrap (5400000 - a))]⟩)) := by kernel_rfl
theorem lessV_gives (a b : Int) : Gives Try.prog 34 [.agg ⟨[.int .i64 a, .int .i64 b]⟩] (pairV (lessV a b).1 (lessV a b).2) := by
  refine evF_gives (E := []) mixed (by simp) Cs_ok book_lessV_gives_ok (lim := 20) (d := 6) (nm := []) ?_
  rw [lessV_gives_tree a b]
  rfl
noncomputable def zenM (a b c d e f : Int) : Int × Int × Int :=
  cond (!(triB a b c d e f))
  ((0, 0, 1))
  (lt (cosV a b c d) fun x2 =>
   lt (cosC 0 a b c d) fun x1 =>
   lt (havR e f) fun x3 =>
   lt (numV x3.1 x3.2.1 x3.2.2) fun x5 =>
   lt (numC x1 x3.1 x3.2.1 x3.2.2) fun x4 =>
   lt (mulR x2.1 x2.2 x5.1 x5.2) fun x6 =>
   lt (numV x6.1 x6.2.1 x6.2.2) fun x8 =>
   lt (numC x4 x6.1 x6.2.1 x6.2.2) fun x7 =>
   lt (betV a b c d) fun x10 =>
   lt (betC x7 a b c d) fun x9 =>
   lt (addR x10.1 x10.2 x8.1 x8.2) fun x11 =>
   lt (numV x11.1 x11.2.1 x11.2.2) fun x13 =>
   lt (numC x9 x11.1 x11.2.1 x11.2.2) fun x12 =>
   lt (ahavR x13.1 x13.2) fun x14 =>
   lt (arcW x14.1 x14.2.1 x14.2.2) fun x16 =>
   lt (arcC x12 x14.1 x14.2.1 x14.2.2) fun x15 =>
   cond (x15 != 0)
   ((0, 0, x15))
   ((x16.1, x16.2, 0)))
noncomputable def book_zenM_gives : Book := [(20, eT (fun a b c d e f => .bool (triB a b c d e f))), (24, cPI 53 (fun a b c => pairV (numV a b c).1 (numV a b c).2) numC), (25, ePP (fun a b c d => arcV (mulR a b c d))), (26, cPP 53 (fun a b c d => pairV (cosV a b c d).1 (cosV a b c d).2) cosC), (27, eP (fun a b => arcV (havR a b))), (28, cPI 53 (fun a b c => pairV (arcW a b c).1 (arcW a b c).2) arcC), (29, eP (fun a b => arcV (ahavR a b))), (30, ePP (fun a b c d => arcV (addR a b c d))), (31, cPP 53 (fun a b c d => pairV (betV a b c d).1 (betV a b c d).2) betC)]
theorem book_zenM_gives_ok : BookOk Try.prog book_zenM_gives := (bookOk_cons (eT_ok triB_gives) (bookOk_cons (cPI_ok numV_mods) (bookOk_cons (ePP_ok mulR_gives) (bookOk_cons (cPP_ok cosV_mods) (bookOk_cons (eP_ok hav_r) (bookOk_cons (cPI_ok arcW_mods) (bookOk_cons (eP_ok ahav_r) (bookOk_cons (ePP_ok addR_gives) (bookOk_cons (cPP_ok betV_mods) bookOk_nil)))))))))
theorem zenM_gives_tree (a b c d e f : Int) : evF Try.prog [] Cs book_zenM_gives 20 6 9 ([.agg ⟨[.int .i64 a, .int .i64 b, .int .i64 c, .int .i64 d, .int .i64 e, .int .i64 f]⟩].map AV.v) [] [] last =
  cond (!(triB a b c d e f))
  (some (.v (.tuple ⟨[.agg ⟨[.int .i64 0, .int .i64 0]⟩, .int .i64 1]⟩)))
  (lt (cosV a b c d) fun x2 =>
   lt (cosC 0 a b c d) fun x1 =>
   lt (havR e f) fun x3 =>
   lt (numV x3.1 x3.2.1 x3.2.2) fun x5 =>
   lt (numC x1 x3.1 x3.2.1 x3.2.2) fun x4 =>
   lt (mulR x2.1 x2.2 x5.1 x5.2) fun x6 =>
   lt (numV x6.1 x6.2.1 x6.2.2) fun x8 =>
   lt (numC x4 x6.1 x6.2.1 x6.2.2) fun x7 =>
   lt (betV a b c d) fun x10 =>
   lt (betC x7 a b c d) fun x9 =>
   lt (addR x10.1 x10.2 x8.1 x8.2) fun x11 =>
   lt (numV x11.1 x11.2.1 x11.2.2) fun x13 =>
   lt (numC x9 x11.1 x11.2.1 x11.2.2) fun x12 =>
   lt (ahavR x13.1 x13.2) fun x14 =>
   lt (arcW x14.1 x14.2.1 x14.2.2) fun x16 =>
   lt (arcC x12 x14.1 x14.2.1 x14.2.2) fun x15 =>
   cond (x15 != 0)
   (some (.v (.tuple ⟨[.agg ⟨[.int .i64 0, .int .i64 0]⟩, .int .i64 x15]⟩)))
   (some (.v (.tuple ⟨[.agg ⟨[.int .i64 x16.1, .int .i64 x16.2]⟩, .int .i64 0]⟩)))) := by kernel_rfl
theorem zenM_gives (a b c d e f : Int) : Gives Try.prog 9 [.agg ⟨[.int .i64 a, .int .i64 b, .int .i64 c, .int .i64 d, .int .i64 e, .int .i64 f]⟩] (arcV (zenM a b c d e f)) := by
  refine evF_gives (E := []) mixed (by simp) Cs_ok book_zenM_gives_ok (lim := 20) (d := 6) (nm := []) ?_
  rw [zenM_gives_tree a b c d e f]
  unfold zenM
  refine case_cond (fun (r : Int × Int × Int) => AV.v (arcV (r))) ?_ ?_
  · rfl
  · refine case_lt (fun (r : Int × Int × Int) => AV.v (arcV (r))) fun x2 => ?_
    refine case_lt (fun (r : Int × Int × Int) => AV.v (arcV (r))) fun x1 => ?_
    refine case_lt (fun (r : Int × Int × Int) => AV.v (arcV (r))) fun x3 => ?_
    refine case_lt (fun (r : Int × Int × Int) => AV.v (arcV (r))) fun x5 => ?_
    refine case_lt (fun (r : Int × Int × Int) => AV.v (arcV (r))) fun x4 => ?_
    refine case_lt (fun (r : Int × Int × Int) => AV.v (arcV (r))) fun x6 => ?_
    refine case_lt (fun (r : Int × Int × Int) => AV.v (arcV (r))) fun x8 => ?_
    refine case_lt (fun (r : Int × Int × Int) => AV.v (arcV (r))) fun x7 => ?_
    refine case_lt (fun (r : Int × Int × Int) => AV.v (arcV (r))) fun x10 => ?_
    refine case_lt (fun (r : Int × Int × Int) => AV.v (arcV (r))) fun x9 => ?_
    refine case_lt (fun (r : Int × Int × Int) => AV.v (arcV (r))) fun x11 => ?_
    refine case_lt (fun (r : Int × Int × Int) => AV.v (arcV (r))) fun x13 => ?_
    refine case_lt (fun (r : Int × Int × Int) => AV.v (arcV (r))) fun x12 => ?_
    refine case_lt (fun (r : Int × Int × Int) => AV.v (arcV (r))) fun x14 => ?_
    refine case_lt (fun (r : Int × Int × Int) => AV.v (arcV (r))) fun x16 => ?_
    refine case_lt (fun (r : Int × Int × Int) => AV.v (arcV (r))) fun x15 => ?_
    refine case_cond (fun (r : Int × Int × Int) => AV.v (arcV (r))) ?_ ?_
    · rfl
    · rfl
noncomputable def topM (a b c d _e _f u v : Int) : Int × Int × Int :=
  lt (lessV u v) fun x1 =>
  lt (lessV c d) fun x2 =>
  lt (havR x2.1 x2.2) fun x3 =>
  lt (numV x3.1 x3.2.1 x3.2.2) fun x5 =>
  lt (numC 0 x3.1 x3.2.1 x3.2.2) fun x4 =>
  lt (betV a b x1.1 x1.2) fun x7 =>
  lt (betC x4 a b x1.1 x1.2) fun x6 =>
  lt (subR x5.1 x5.2 x7.1 x7.2) fun x8 =>
  lt (numV x8.1 x8.2.1 x8.2.2) fun x10 =>
  lt (numC x6 x8.1 x8.2.1 x8.2.2) fun x9 =>
  lt (cosV a b x1.1 x1.2) fun x12 =>
  lt (cosC x9 a b x1.1 x1.2) fun x11 =>
  cond (x11 != 0)
  ((0, 0, x11))
  (cond (decide (x12.1 ≤ 0))
   (cond (decide (x12.2 ≥ 0))
    ((0, 0, 21))
    (lt (divR x10.1 x10.2 x12.1 x12.2) fun x13 =>
     cond (x13.2.2 == 5)
     (lt (ahavR 0 1073741824) fun x14 =>
      cond (x14.2.2 == 2)
      ((x14.1, x14.2.1, 23))
      ((x14.1, x14.2.1, x14.2.2)))
     (cond (x13.2.2 != 0)
      ((0, 0, x13.2.2))
      (lt (ahavR x13.1 x13.2.1) fun x15 =>
       cond (x15.2.2 == 2)
       ((x15.1, x15.2.1, 23))
       ((x15.1, x15.2.1, x15.2.2))))))
   (lt (divR x10.1 x10.2 x12.1 x12.2) fun x16 =>
    cond (x16.2.2 == 5)
    (lt (ahavR 0 1073741824) fun x17 =>
     cond (x17.2.2 == 2)
     ((x17.1, x17.2.1, 23))
     ((x17.1, x17.2.1, x17.2.2)))
    (cond (x16.2.2 != 0)
     ((0, 0, x16.2.2))
     (lt (ahavR x16.1 x16.2.1) fun x18 =>
      cond (x18.2.2 == 2)
      ((x18.1, x18.2.1, 23))
      ((x18.1, x18.2.1, x18.2.2))))))
noncomputable def book_topM_gives : Book := [(24, cPI 53 (fun a b c => pairV (numV a b c).1 (numV a b c).2) numC), (26, cPP 53 (fun a b c d => pairV (cosV a b c d).1 (cosV a b c d).2) cosC), (27, eP (fun a b => arcV (havR a b))), (29, eP (fun a b => arcV (ahavR a b))), (31, cPP 53 (fun a b c d => pairV (betV a b c d).1 (betV a b c d).2) betC), (34, eP (fun a b => pairV (lessV a b).1 (lessV a b).2)), (52, ePP (fun a b c d => arcV (subR a b c d))), (53, ePP (fun a b c d => arcV (divR a b c d)))]
theorem book_topM_gives_ok : BookOk Try.prog book_topM_gives := (bookOk_cons (cPI_ok numV_mods) (bookOk_cons (cPP_ok cosV_mods) (bookOk_cons (eP_ok hav_r) (bookOk_cons (eP_ok ahav_r) (bookOk_cons (cPP_ok betV_mods) (bookOk_cons (eP_ok lessV_gives) (bookOk_cons (ePP_ok subR_gives) (bookOk_cons (ePP_ok divR_gives) bookOk_nil))))))))
theorem topM_gives_tree (a b c d e f u v : Int) : evF Try.prog [] Cs book_topM_gives 20 6 32 ([.agg ⟨[.int .i64 a, .int .i64 b, .int .i64 c, .int .i64 d, .int .i64 e, .int .i64 f]⟩, .agg ⟨[.int .i64 u, .int .i64 v]⟩].map AV.v) [] [] last =
  lt (lessV u v) fun x1 =>
  lt (lessV c d) fun x2 =>
  lt (havR x2.1 x2.2) fun x3 =>
  lt (numV x3.1 x3.2.1 x3.2.2) fun x5 =>
  lt (numC 0 x3.1 x3.2.1 x3.2.2) fun x4 =>
  lt (betV a b x1.1 x1.2) fun x7 =>
  lt (betC x4 a b x1.1 x1.2) fun x6 =>
  lt (subR x5.1 x5.2 x7.1 x7.2) fun x8 =>
  lt (numV x8.1 x8.2.1 x8.2.2) fun x10 =>
  lt (numC x6 x8.1 x8.2.1 x8.2.2) fun x9 =>
  lt (cosV a b x1.1 x1.2) fun x12 =>
  lt (cosC x9 a b x1.1 x1.2) fun x11 =>
  cond (x11 != 0)
  (some (.v (.tuple ⟨[.agg ⟨[.int .i64 0, .int .i64 0]⟩, .int .i64 x11]⟩)))
  (cond (decide (x12.1 ≤ 0))
   (cond (decide (x12.2 ≥ 0))
    (some (.v (.tuple ⟨[.agg ⟨[.int .i64 0, .int .i64 0]⟩, .int .i64 21]⟩)))
    (lt (divR x10.1 x10.2 x12.1 x12.2) fun x13 =>
     cond (x13.2.2 == 5)
     (lt (ahavR 0 1073741824) fun x14 =>
      cond (x14.2.2 == 2)
      (some (.v (.tuple ⟨[.agg ⟨[.int .i64 x14.1, .int .i64 x14.2.1]⟩, .int .i64 23]⟩)))
      (some (.v (.tuple ⟨[.agg ⟨[.int .i64 x14.1, .int .i64 x14.2.1]⟩, .int .i64 x14.2.2]⟩))))
     (cond (x13.2.2 != 0)
      (some (.v (.tuple ⟨[.agg ⟨[.int .i64 0, .int .i64 0]⟩, .int .i64 x13.2.2]⟩)))
      (lt (ahavR x13.1 x13.2.1) fun x15 =>
       cond (x15.2.2 == 2)
       (some (.v (.tuple ⟨[.agg ⟨[.int .i64 x15.1, .int .i64 x15.2.1]⟩, .int .i64 23]⟩)))
       (some (.v (.tuple ⟨[.agg ⟨[.int .i64 x15.1, .int .i64 x15.2.1]⟩, .int .i64 x15.2.2]⟩)))))))
   (lt (divR x10.1 x10.2 x12.1 x12.2) fun x16 =>
    cond (x16.2.2 == 5)
    (lt (ahavR 0 1073741824) fun x17 =>
     cond (x17.2.2 == 2)
     (some (.v (.tuple ⟨[.agg ⟨[.int .i64 x17.1, .int .i64 x17.2.1]⟩, .int .i64 23]⟩)))
     (some (.v (.tuple ⟨[.agg ⟨[.int .i64 x17.1, .int .i64 x17.2.1]⟩, .int .i64 x17.2.2]⟩))))
    (cond (x16.2.2 != 0)
     (some (.v (.tuple ⟨[.agg ⟨[.int .i64 0, .int .i64 0]⟩, .int .i64 x16.2.2]⟩)))
     (lt (ahavR x16.1 x16.2.1) fun x18 =>
      cond (x18.2.2 == 2)
      (some (.v (.tuple ⟨[.agg ⟨[.int .i64 x18.1, .int .i64 x18.2.1]⟩, .int .i64 23]⟩)))
      (some (.v (.tuple ⟨[.agg ⟨[.int .i64 x18.1, .int .i64 x18.2.1]⟩, .int .i64 x18.2.2]⟩))))))) := by kernel_rfl
theorem topM_gives (a b c d e f u v : Int) : Gives Try.prog 32 [.agg ⟨[.int .i64 a, .int .i64 b, .int .i64 c, .int .i64 d, .int .i64 e, .int .i64 f]⟩, .agg ⟨[.int .i64 u, .int .i64 v]⟩] (arcV (topM a b c d e f u v)) := by
  refine evF_gives (E := []) mixed (by simp) Cs_ok book_topM_gives_ok (lim := 20) (d := 6) (nm := []) ?_
  rw [topM_gives_tree a b c d e f u v]
  unfold topM
  refine case_lt (fun (r : Int × Int × Int) => AV.v (arcV (r))) fun x1 => ?_
  refine case_lt (fun (r : Int × Int × Int) => AV.v (arcV (r))) fun x2 => ?_
  refine case_lt (fun (r : Int × Int × Int) => AV.v (arcV (r))) fun x3 => ?_
  refine case_lt (fun (r : Int × Int × Int) => AV.v (arcV (r))) fun x5 => ?_
  refine case_lt (fun (r : Int × Int × Int) => AV.v (arcV (r))) fun x4 => ?_
  refine case_lt (fun (r : Int × Int × Int) => AV.v (arcV (r))) fun x7 => ?_
  refine case_lt (fun (r : Int × Int × Int) => AV.v (arcV (r))) fun x6 => ?_
  refine case_lt (fun (r : Int × Int × Int) => AV.v (arcV (r))) fun x8 => ?_
  refine case_lt (fun (r : Int × Int × Int) => AV.v (arcV (r))) fun x10 => ?_
  refine case_lt (fun (r : Int × Int × Int) => AV.v (arcV (r))) fun x9 => ?_
  refine case_lt (fun (r : Int × Int × Int) => AV.v (arcV (r))) fun x12 => ?_
  refine case_lt (fun (r : Int × Int × Int) => AV.v (arcV (r))) fun x11 => ?_
  refine case_cond (fun (r : Int × Int × Int) => AV.v (arcV (r))) ?_ ?_
  · rfl
  · refine case_cond (fun (r : Int × Int × Int) => AV.v (arcV (r))) ?_ ?_
    · refine case_cond (fun (r : Int × Int × Int) => AV.v (arcV (r))) ?_ ?_
      · rfl
      · refine case_lt (fun (r : Int × Int × Int) => AV.v (arcV (r))) fun x13 => ?_
        refine case_cond (fun (r : Int × Int × Int) => AV.v (arcV (r))) ?_ ?_
        · refine case_lt (fun (r : Int × Int × Int) => AV.v (arcV (r))) fun x14 => ?_
          refine case_cond (fun (r : Int × Int × Int) => AV.v (arcV (r))) ?_ ?_
          · rfl
          · rfl
        · refine case_cond (fun (r : Int × Int × Int) => AV.v (arcV (r))) ?_ ?_
          · rfl
          · refine case_lt (fun (r : Int × Int × Int) => AV.v (arcV (r))) fun x15 => ?_
            refine case_cond (fun (r : Int × Int × Int) => AV.v (arcV (r))) ?_ ?_
            · rfl
            · rfl
    · refine case_lt (fun (r : Int × Int × Int) => AV.v (arcV (r))) fun x16 => ?_
      refine case_cond (fun (r : Int × Int × Int) => AV.v (arcV (r))) ?_ ?_
      · refine case_lt (fun (r : Int × Int × Int) => AV.v (arcV (r))) fun x17 => ?_
        refine case_cond (fun (r : Int × Int × Int) => AV.v (arcV (r))) ?_ ?_
        · rfl
        · rfl
      · refine case_cond (fun (r : Int × Int × Int) => AV.v (arcV (r))) ?_ ?_
        · rfl
        · refine case_lt (fun (r : Int × Int × Int) => AV.v (arcV (r))) fun x18 => ?_
          refine case_cond (fun (r : Int × Int × Int) => AV.v (arcV (r))) ?_ ?_
          · rfl
          · rfl
noncomputable def aziM (a b c d e f u v : Int) : Int × Int × Int :=
  cond (!(triB a b c d e f))
  ((0, 0, 1))
  (cond (decide (u < 0))
   ((0, 0, 1))
   (cond (decide (u > v))
    ((0, 0, 1))
    (cond (decide (v > 10800000))
     ((0, 0, 1))
     (lt (topM a b c d e f u v) fun x1 =>
      cond (x1.2.2 != 0)
      ((0, 0, x1.2.2))
      (lt (turnR e f) fun x2 =>
       cond (x2.2.2 != 0)
       ((0, 0, x2.2.2))
       (cond (decide (x2.1 ≥ 10800000))
        (cond (decide (x2.2.1 ≤ 21600000))
         ((x1.1, x1.2.1, 0))
         (cond (decide (x2.2.1 ≤ 10800000))
          (lt (turnR (IntKind.i64.wrap (21600000 - x1.2.1)) (IntKind.i64.wrap (21600000 - x1.1))) fun x3 =>
           (x3.1, x3.2.1, x3.2.2))
          (cond (decide (IntKind.i64.wrap (x1.1 + x1.2.1) > 10800000))
           ((x1.1, IntKind.i64.wrap (21600000 - x1.1), 0))
           (lt (turnR (IntKind.i64.wrap (0 - x1.2.1)) x1.2.1) fun x4 =>
            (x4.1, x4.2.1, x4.2.2)))))
        (cond (decide (x2.2.1 ≤ 10800000))
         (lt (turnR (IntKind.i64.wrap (21600000 - x1.2.1)) (IntKind.i64.wrap (21600000 - x1.1))) fun x5 =>
          (x5.1, x5.2.1, x5.2.2))
         (cond (decide (IntKind.i64.wrap (x1.1 + x1.2.1) > 10800000))
          ((x1.1, IntKind.i64.wrap (21600000 - x1.1), 0))
          (lt (turnR (IntKind.i64.wrap (0 - x1.2.1)) x1.2.1) fun x6 =>
           (x6.1, x6.2.1, x6.2.2))))))))))
noncomputable def book_aziM_gives : Book := [(20, eT (fun a b c d e f => .bool (triB a b c d e f))), (32, eTP (fun a b c d e f u v => arcV (topM a b c d e f u v))), (33, eP (fun a b => arcV (turnR a b)))]
theorem book_aziM_gives_ok : BookOk Try.prog book_aziM_gives := (bookOk_cons (eT_ok triB_gives) (bookOk_cons (eTP_ok topM_gives) (bookOk_cons (eP_ok turnR_gives) bookOk_nil)))
theorem aziM_gives_tree (a b c d e f u v : Int) : evF Try.prog [] Cs book_aziM_gives 20 6 13 ([.agg ⟨[.int .i64 a, .int .i64 b, .int .i64 c, .int .i64 d, .int .i64 e, .int .i64 f]⟩, .agg ⟨[.int .i64 u, .int .i64 v]⟩].map AV.v) [] [] last =
  cond (!(triB a b c d e f))
  (some (.v (.tuple ⟨[.agg ⟨[.int .i64 0, .int .i64 0]⟩, .int .i64 1]⟩)))
  (cond (decide (u < 0))
   (some (.v (.tuple ⟨[.agg ⟨[.int .i64 0, .int .i64 0]⟩, .int .i64 1]⟩)))
   (cond (decide (u > v))
    (some (.v (.tuple ⟨[.agg ⟨[.int .i64 0, .int .i64 0]⟩, .int .i64 1]⟩)))
    (cond (decide (v > 10800000))
     (some (.v (.tuple ⟨[.agg ⟨[.int .i64 0, .int .i64 0]⟩, .int .i64 1]⟩)))
     (lt (topM a b c d e f u v) fun x1 =>
      cond (x1.2.2 != 0)
      (some (.v (.tuple ⟨[.agg ⟨[.int .i64 0, .int .i64 0]⟩, .int .i64 x1.2.2]⟩)))
      (lt (turnR e f) fun x2 =>
       cond (x2.2.2 != 0)
       (some (.v (.tuple ⟨[.agg ⟨[.int .i64 0, .int .i64 0]⟩, .int .i64 x2.2.2]⟩)))
       (cond (decide (x2.1 ≥ 10800000))
        (cond (decide (x2.2.1 ≤ 21600000))
         (some (.v (.tuple ⟨[.agg ⟨[.int .i64 x1.1, .int .i64 x1.2.1]⟩, .int .i64 0]⟩)))
         (cond (decide (x2.2.1 ≤ 10800000))
          (lt (turnR (IntKind.i64.wrap (21600000 - x1.2.1)) (IntKind.i64.wrap (21600000 - x1.1))) fun x3 =>
           some (.v (.tuple ⟨[.agg ⟨[.int .i64 x3.1, .int .i64 x3.2.1]⟩, .int .i64 x3.2.2]⟩)))
          (cond (decide (IntKind.i64.wrap (x1.1 + x1.2.1) > 10800000))
           (some (.v (.tuple ⟨[.agg ⟨[.int .i64 x1.1, .int .i64 (IntKind.i64.wrap (21600000 - x1.1))]⟩, .int .i64 0]⟩)))
           (lt (turnR (IntKind.i64.wrap (0 - x1.2.1)) x1.2.1) fun x4 =>
            some (.v (.tuple ⟨[.agg ⟨[.int .i64 x4.1, .int .i64 x4.2.1]⟩, .int .i64 x4.2.2]⟩))))))
        (cond (decide (x2.2.1 ≤ 10800000))
         (lt (turnR (IntKind.i64.wrap (21600000 - x1.2.1)) (IntKind.i64.wrap (21600000 - x1.1))) fun x5 =>
          some (.v (.tuple ⟨[.agg ⟨[.int .i64 x5.1, .int .i64 x5.2.1]⟩, .int .i64 x5.2.2]⟩)))
         (cond (decide (IntKind.i64.wrap (x1.1 + x1.2.1) > 10800000))
          (some (.v (.tuple ⟨[.agg ⟨[.int .i64 x1.1, .int .i64 (IntKind.i64.wrap (21600000 - x1.1))]⟩, .int .i64 0]⟩)))
          (lt (turnR (IntKind.i64.wrap (0 - x1.2.1)) x1.2.1) fun x6 =>
           some (.v (.tuple ⟨[.agg ⟨[.int .i64 x6.1, .int .i64 x6.2.1]⟩, .int .i64 x6.2.2]⟩))))))))))) := by kernel_rfl
theorem aziM_gives (a b c d e f u v : Int) : Gives Try.prog 13 [.agg ⟨[.int .i64 a, .int .i64 b, .int .i64 c, .int .i64 d, .int .i64 e, .int .i64 f]⟩, .agg ⟨[.int .i64 u, .int .i64 v]⟩] (arcV (aziM a b c d e f u v)) := by
  refine evF_gives (E := []) mixed (by simp) Cs_ok book_aziM_gives_ok (lim := 20) (d := 6) (nm := []) ?_
  rw [aziM_gives_tree a b c d e f u v]
  unfold aziM
  refine case_cond (fun (r : Int × Int × Int) => AV.v (arcV (r))) ?_ ?_
  · rfl
  · refine case_cond (fun (r : Int × Int × Int) => AV.v (arcV (r))) ?_ ?_
    · rfl
    · refine case_cond (fun (r : Int × Int × Int) => AV.v (arcV (r))) ?_ ?_
      · rfl
      · refine case_cond (fun (r : Int × Int × Int) => AV.v (arcV (r))) ?_ ?_
        · rfl
        · refine case_lt (fun (r : Int × Int × Int) => AV.v (arcV (r))) fun x1 => ?_
          refine case_cond (fun (r : Int × Int × Int) => AV.v (arcV (r))) ?_ ?_
          · rfl
          · refine case_lt (fun (r : Int × Int × Int) => AV.v (arcV (r))) fun x2 => ?_
            refine case_cond (fun (r : Int × Int × Int) => AV.v (arcV (r))) ?_ ?_
            · rfl
            · refine case_cond (fun (r : Int × Int × Int) => AV.v (arcV (r))) ?_ ?_
              · refine case_cond (fun (r : Int × Int × Int) => AV.v (arcV (r))) ?_ ?_
                · rfl
                · refine case_cond (fun (r : Int × Int × Int) => AV.v (arcV (r))) ?_ ?_
                  · refine case_lt (fun (r : Int × Int × Int) => AV.v (arcV (r))) fun x3 => ?_
                    rfl
                  · refine case_cond (fun (r : Int × Int × Int) => AV.v (arcV (r))) ?_ ?_
                    · rfl
                    · refine case_lt (fun (r : Int × Int × Int) => AV.v (arcV (r))) fun x4 => ?_
                      rfl
              · refine case_cond (fun (r : Int × Int × Int) => AV.v (arcV (r))) ?_ ?_
                · refine case_lt (fun (r : Int × Int × Int) => AV.v (arcV (r))) fun x5 => ?_
                  rfl
                · refine case_cond (fun (r : Int × Int × Int) => AV.v (arcV (r))) ?_ ?_
                  · rfl
                  · refine case_lt (fun (r : Int × Int × Int) => AV.v (arcV (r))) fun x6 => ?_
                    rfl
noncomputable def solM (a b c d e f : Int) : Int × Int × Int × Int × Int :=
  lt (zenM a b c d e f) fun x1 =>
  cond (x1.2.2 != 0)
  ((0, 0, 0, 0, x1.2.2))
  (lt (aziM a b c d e f x1.1 x1.2.1) fun x2 =>
   cond (x2.2.2 == 21)
   (lt (lessV x1.1 x1.2.1) fun x3 =>
    (x3.1, x3.2, 0, 21600000, 0))
   (cond (x2.2.2 != 0)
    ((0, 0, 0, 0, x2.2.2))
    (lt (lessV x1.1 x1.2.1) fun x4 =>
     (x4.1, x4.2, x2.1, x2.2.1, 0))))
noncomputable def book_solM_gives : Book := [(9, eT (fun a b c d e f => arcV (zenM a b c d e f))), (13, eTP (fun a b c d e f u v => arcV (aziM a b c d e f u v))), (34, eP (fun a b => pairV (lessV a b).1 (lessV a b).2))]
theorem book_solM_gives_ok : BookOk Try.prog book_solM_gives := (bookOk_cons (eT_ok zenM_gives) (bookOk_cons (eTP_ok aziM_gives) (bookOk_cons (eP_ok lessV_gives) bookOk_nil)))
theorem solM_gives_tree (a b c d e f : Int) : evF Try.prog [] Cs book_solM_gives 20 6 16 ([.agg ⟨[.int .i64 a, .int .i64 b, .int .i64 c, .int .i64 d, .int .i64 e, .int .i64 f]⟩].map AV.v) [] [] last =
  lt (zenM a b c d e f) fun x1 =>
  cond (x1.2.2 != 0)
  (some (.v (.tuple ⟨[.agg ⟨[.int .i64 0, .int .i64 0, .int .i64 0, .int .i64 0]⟩, .int .i64 x1.2.2]⟩)))
  (lt (aziM a b c d e f x1.1 x1.2.1) fun x2 =>
   cond (x2.2.2 == 21)
   (lt (lessV x1.1 x1.2.1) fun x3 =>
    some (.v (.tuple ⟨[.agg ⟨[.int .i64 x3.1, .int .i64 x3.2, .int .i64 0, .int .i64 21600000]⟩, .int .i64 0]⟩)))
   (cond (x2.2.2 != 0)
    (some (.v (.tuple ⟨[.agg ⟨[.int .i64 0, .int .i64 0, .int .i64 0, .int .i64 0]⟩, .int .i64 x2.2.2]⟩)))
    (lt (lessV x1.1 x1.2.1) fun x4 =>
     some (.v (.tuple ⟨[.agg ⟨[.int .i64 x4.1, .int .i64 x4.2, .int .i64 x2.1, .int .i64 x2.2.1]⟩, .int .i64 0]⟩))))) := by kernel_rfl
theorem solM_gives (a b c d e f : Int) : Gives Try.prog 16 [.agg ⟨[.int .i64 a, .int .i64 b, .int .i64 c, .int .i64 d, .int .i64 e, .int .i64 f]⟩] (solV (solM a b c d e f)) := by
  refine evF_gives (E := []) mixed (by simp) Cs_ok book_solM_gives_ok (lim := 20) (d := 6) (nm := []) ?_
  rw [solM_gives_tree a b c d e f]
  unfold solM
  refine case_lt (fun (r : Int × Int × Int × Int × Int) => AV.v (solV (r))) fun x1 => ?_
  refine case_cond (fun (r : Int × Int × Int × Int × Int) => AV.v (solV (r))) ?_ ?_
  · rfl
  · refine case_lt (fun (r : Int × Int × Int × Int × Int) => AV.v (solV (r))) fun x2 => ?_
    refine case_cond (fun (r : Int × Int × Int × Int × Int) => AV.v (solV (r))) ?_ ?_
    · refine case_lt (fun (r : Int × Int × Int × Int × Int) => AV.v (solV (r))) fun x3 => ?_
      rfl
    · refine case_cond (fun (r : Int × Int × Int × Int × Int) => AV.v (solV (r))) ?_ ?_
      · rfl
      · refine case_lt (fun (r : Int × Int × Int × Int × Int) => AV.v (solV (r))) fun x4 => ?_
        rfl
end Go.Proofs.Ytcjkfchjcealbaa

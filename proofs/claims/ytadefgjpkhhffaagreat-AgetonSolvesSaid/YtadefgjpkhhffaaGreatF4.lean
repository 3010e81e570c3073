/-
  A divided triangle: what Divide and Solve give; equality of arcs and solutions.
-/
import Derived.Test.YtadefgjpkhhffaaGreatF3
namespace Go.Proofs.YtadefgjpkhhffaaGreat
open Ev
def solV (r : Int × Int × Int × Int × Int) : Value := .tuple ⟨[.agg ⟨[.int .i64 r.1, .int .i64 r.2.1, .int .i64 r.2.2.1, .int .i64 r.2.2.2.1]⟩, .int .i64 r.2.2.2.2]⟩
theorem eqInts_inv {x y : Value} {xs ys : List Value} {r : Bool} (h : eqInts (x :: xs) (y :: ys) = some r) : ∃ a b r', x = .int .i64 a ∧ y = .int .i64 b ∧ eqInts xs ys = some r' ∧ r = ((a == b) && r') := by
  unfold eqInts at h
  split at h
  · rename_i he1 he2; cases he1
  · rename_i a l b m he1 he2
    cases he1
    cases he2
    split at h
    · rename_i r' hr
      simp only [Option.some.injEq] at h
      exact ⟨a, b, r', rfl, rfl, hr, h.symm⟩
    · cases h
  · cases h
theorem eqInts_nil : eqInts [] [] = some true := rfl
theorem eqArcAt (k : Nat) (a b c d : Int) (w : World) : (Op.equalIn (k + 2) 23 (.agg #[.int .i64 a, .int .i64 b]) (.agg #[.int .i64 c, .int .i64 d])).run Tryz.prog w = .ok (a == c && b == d) w := by
  have u3 := Tryz.underlying3
  have a3 := Tryz.isAgg3
  have z3 := Tryz.sizeOf3
  have hS : Tryz.prog.underlying 23 = some (.struct (Tryz.prog.fieldsOf 23)) := by kernel_rfl
  have hp : Tryz.prog.stoodInHeld 23 = false := by kernel_rfl
  rw [run_equalIn_agg w (k + 1) 23 _ _ hS hp]
  simp only [Program.fieldsOf, Tryz.underlying23]
  go_simp
  by_cases h1 : a = c <;> by_cases h2 : b = d <;> simp [h1, h2]
theorem fitArc : EqFit Tryz.prog (23, 2) := by
  refine ⟨by kernel_rfl, fun xs ys r hx hy h w => ?_⟩
  match xs, ys, hx, hy with
  | [x0, x1], [y0, y1], _, _ =>
    obtain ⟨a, c, r1, rfl, rfl, h1, rfl⟩ := eqInts_inv h
    obtain ⟨b, d, r2, rfl, rfl, h2, rfl⟩ := eqInts_inv h1
    rw [eqInts_nil] at h2
    cases h2
    rw [Bool.and_true]
    exact eqArcAt 9998 a b c d w
theorem fitSol : EqFit Tryz.prog (34, 4) := by
  refine ⟨by kernel_rfl, fun xs ys r hx hy h w => ?_⟩
  match xs, ys, hx, hy with
  | [x0, x1, x2, x3], [y0, y1, y2, y3], _, _ =>
    obtain ⟨a, c, r1, rfl, rfl, h1, rfl⟩ := eqInts_inv h
    obtain ⟨b, d, r2, rfl, rfl, h2, rfl⟩ := eqInts_inv h1
    obtain ⟨e, f, r3, rfl, rfl, h3, rfl⟩ := eqInts_inv h2
    obtain ⟨i, j, r4, rfl, rfl, h4, rfl⟩ := eqInts_inv h3
    rw [eqInts_nil] at h4
    cases h4
    have hS : Tryz.prog.underlying 34 = some (.struct (Tryz.prog.fieldsOf 34)) := by kernel_rfl
    have hp : Tryz.prog.stoodInHeld 34 = false := by kernel_rfl
    have a25 := Tryz.isAgg23
    have z25 := Tryz.sizeOf23
    have q1 := fun w => eqArcAt 9997 a b c d w
    have q2 := fun w => eqArcAt 9997 e i f j w
    rw [run_equalIn_agg w 9999 34 _ _ hS hp]
    simp only [Program.fieldsOf, Tryz.underlying34, Op.eqFields, part]
    simp [a25, z25, q1, q2]
    by_cases h1 : a = c <;> by_cases h2 : b = d <;> by_cases h3 : e = f <;> by_cases h4 : i = j <;> simp [h1, h2, h3, h4]
def Es : List (TypeId × Nat) := [(23, 2), (34, 4)]
theorem Es_ok : ∀ e ∈ Es, EqFit Tryz.prog e := by
  intro e he
  simp only [Es, List.mem_cons, List.not_mem_nil, or_false] at he
  rcases he with rfl | rfl
  · exact fitArc
  · exact fitSol
def twoV (r : Int × Int × Int × Int × Int) : Value := .tuple ⟨[pairV r.1 r.2.1, pairV r.2.2.1 r.2.2.2.1, .int .i64 r.2.2.2.2]⟩
noncomputable def dvdM (a b c d e f : Int) : Int × Int × Int × Int × Int :=
  cond (!(triB a b c d e f))
  ((0, 0, 0, 0, 1))
  (lt (gcosV c d) fun x2 =>
   lt (gcosC 0 c d) fun x1 =>
   lt (gsinV e f) fun x4 =>
   lt (gsinC x1 e f) fun x3 =>
   lt (gmulV x2.1 x2.2 x4.1 x4.2) fun x6 =>
   lt (gmulC x3 x2.1 x2.2 x4.1 x4.2) fun x5 =>
   lt (gasinV x6.1 x6.2) fun x8 =>
   lt (gasinC x5 x6.1 x6.2) fun x7 =>
   lt (gsinV c d) fun x10 =>
   lt (gsinC x7 c d) fun x9 =>
   lt (gcosV e f) fun x12 =>
   lt (gcosC x9 e f) fun x11 =>
   lt (gmulV x2.1 x2.2 x12.1 x12.2) fun x14 =>
   lt (gmulC x11 x2.1 x2.2 x12.1 x12.2) fun x13 =>
   lt (gbeaV x10.1 x10.2 x14.1 x14.2) fun x16 =>
   lt (gbeaC x13 x10.1 x10.2 x14.1 x14.2) fun x15 =>
   cond (x15 != 0)
   ((0, 0, 0, 0, x15))
   ((x8.1, x8.2, x16.1, x16.2, 0)))
noncomputable def book_dvdM_gives : Book := [(13, eT (fun a b c d e f => .bool (triB a b c d e f))), (25, cP 42 (fun a b => pairV (gcosV a b).1 (gcosV a b).2) gcosC), (26, cP 42 (fun a b => pairV (gasinV a b).1 (gasinV a b).2) gasinC), (27, cPP 42 (fun a b c d => pairV (gmulV a b c d).1 (gmulV a b c d).2) gmulC), (28, cPP 42 (fun a b c d => pairV (gbeaV a b c d).1 (gbeaV a b c d).2) gbeaC), (30, cP 42 (fun a b => pairV (gsinV a b).1 (gsinV a b).2) gsinC)]
theorem book_dvdM_gives_ok : BookOk Tryz.prog book_dvdM_gives := (bookOk_cons (eT_ok triB_gives) (bookOk_cons (cP_ok gcosV_mods) (bookOk_cons (cP_ok gasinV_mods) (bookOk_cons (cPP_ok gmulV_mods) (bookOk_cons (cPP_ok gbeaV_mods) (bookOk_cons (cP_ok gsinV_mods) bookOk_nil))))))
theorem dvdM_gives_tree (a b c d e f : Int) : evF Tryz.prog [] Cs book_dvdM_gives 20 6 6 ([.agg ⟨[.int .i64 a, .int .i64 b, .int .i64 c, .int .i64 d, .int .i64 e, .int .i64 f]⟩].map AV.v) [] [] last =
  cond (!(triB a b c d e f))
  (some (.v (.tuple ⟨[.agg ⟨[.int .i64 0, .int .i64 0]⟩, .agg ⟨[.int .i64 0, .int .i64 0]⟩, .int .i64 1]⟩)))
  (lt (gcosV c d) fun x2 =>
   lt (gcosC 0 c d) fun x1 =>
   lt (gsinV e f) fun x4 =>
   lt (gsinC x1 e f) fun x3 =>
   lt (gmulV x2.1 x2.2 x4.1 x4.2) fun x6 =>
   lt (gmulC x3 x2.1 x2.2 x4.1 x4.2) fun x5 =>
   lt (gasinV x6.1 x6.2) fun x8 =>
   lt (gasinC x5 x6.1 x6.2) fun x7 =>
   lt (gsinV c d) fun x10 =>
   lt (gsinC x7 c d) fun x9 =>
   lt (gcosV e f) fun x12 =>
   lt (gcosC x9 e f) fun x11 =>
   lt (gmulV x2.1 x2.2 x12.1 x12.2) fun x14 =>
   lt (gmulC x11 x2.1 x2.2 x12.1 x12.2) fun x13 =>
   lt (gbeaV x10.1 x10.2 x14.1 x14.2) fun x16 =>
   lt (gbeaC x13 x10.1 x10.2 x14.1 x14.2) fun x15 =>
   cond (x15 != 0)
   (some (.v (.tuple ⟨[.agg ⟨[.int .i64 0, .int .i64 0]⟩, .agg ⟨[.int .i64 0, .int .i64 0]⟩, .int .i64 x15]⟩)))
   (some (.v (.tuple ⟨[.agg ⟨[.int .i64 x8.1, .int .i64 x8.2]⟩, .agg ⟨[.int .i64 x16.1, .int .i64 x16.2]⟩, .int .i64 0]⟩)))) := by kernel_rfl
theorem dvdM_gives (a b c d e f : Int) : Gives Tryz.prog 6 [.agg ⟨[.int .i64 a, .int .i64 b, .int .i64 c, .int .i64 d, .int .i64 e, .int .i64 f]⟩] (twoV (dvdM a b c d e f)) := by
  refine evF_gives (E := []) mixed (by simp) Cs_ok book_dvdM_gives_ok (lim := 20) (d := 6) (nm := []) ?_
  rw [dvdM_gives_tree a b c d e f]
  unfold dvdM
  refine case_cond (fun (r : Int × Int × Int × Int × Int) => AV.v (twoV (r))) ?_ ?_
  · rfl
  · refine case_lt (fun (r : Int × Int × Int × Int × Int) => AV.v (twoV (r))) fun x2 => ?_
    refine case_lt (fun (r : Int × Int × Int × Int × Int) => AV.v (twoV (r))) fun x1 => ?_
    refine case_lt (fun (r : Int × Int × Int × Int × Int) => AV.v (twoV (r))) fun x4 => ?_
    refine case_lt (fun (r : Int × Int × Int × Int × Int) => AV.v (twoV (r))) fun x3 => ?_
    refine case_lt (fun (r : Int × Int × Int × Int × Int) => AV.v (twoV (r))) fun x6 => ?_
    refine case_lt (fun (r : Int × Int × Int × Int × Int) => AV.v (twoV (r))) fun x5 => ?_
    refine case_lt (fun (r : Int × Int × Int × Int × Int) => AV.v (twoV (r))) fun x8 => ?_
    refine case_lt (fun (r : Int × Int × Int × Int × Int) => AV.v (twoV (r))) fun x7 => ?_
    refine case_lt (fun (r : Int × Int × Int × Int × Int) => AV.v (twoV (r))) fun x10 => ?_
    refine case_lt (fun (r : Int × Int × Int × Int × Int) => AV.v (twoV (r))) fun x9 => ?_
    refine case_lt (fun (r : Int × Int × Int × Int × Int) => AV.v (twoV (r))) fun x12 => ?_
    refine case_lt (fun (r : Int × Int × Int × Int × Int) => AV.v (twoV (r))) fun x11 => ?_
    refine case_lt (fun (r : Int × Int × Int × Int × Int) => AV.v (twoV (r))) fun x14 => ?_
    refine case_lt (fun (r : Int × Int × Int × Int × Int) => AV.v (twoV (r))) fun x13 => ?_
    refine case_lt (fun (r : Int × Int × Int × Int × Int) => AV.v (twoV (r))) fun x16 => ?_
    refine case_lt (fun (r : Int × Int × Int × Int × Int) => AV.v (twoV (r))) fun x15 => ?_
    refine case_cond (fun (r : Int × Int × Int × Int × Int) => AV.v (twoV (r))) ?_ ?_
    · rfl
    · rfl
noncomputable def solM (a b c d e f : Int) : Int × Int × Int × Int × Int :=
  cond (!(triB a b c d e f))
  ((0, 0, 0, 0, 1))
  (lt (gcosV c d) fun x2 =>
   lt (gcosC 0 c d) fun x1 =>
   lt (gsinV e f) fun x4 =>
   lt (gsinC x1 e f) fun x3 =>
   lt (gmulV x2.1 x2.2 x4.1 x4.2) fun x6 =>
   lt (gmulC x3 x2.1 x2.2 x4.1 x4.2) fun x5 =>
   lt (gasinV x6.1 x6.2) fun x8 =>
   lt (gasinC x5 x6.1 x6.2) fun x7 =>
   lt (gsinV c d) fun x10 =>
   lt (gsinC x7 c d) fun x9 =>
   lt (gcosV e f) fun x12 =>
   lt (gcosC x9 e f) fun x11 =>
   lt (gmulV x2.1 x2.2 x12.1 x12.2) fun x14 =>
   lt (gmulC x11 x2.1 x2.2 x12.1 x12.2) fun x13 =>
   lt (gbeaV x10.1 x10.2 x14.1 x14.2) fun x16 =>
   lt (gbeaC x13 x10.1 x10.2 x14.1 x14.2) fun x15 =>
   lt (asubR x16.1 x16.2 a b) fun x17 =>
   lt (arcW x17.1 x17.2.1 x17.2.2) fun x19 =>
   lt (arcC x15 x17.1 x17.2.1 x17.2.2) fun x18 =>
   lt (gcosV x8.1 x8.2) fun x21 =>
   lt (gcosC x18 x8.1 x8.2) fun x20 =>
   lt (gcosV x19.1 x19.2) fun x23 =>
   lt (gcosC x20 x19.1 x19.2) fun x22 =>
   lt (gmulV x21.1 x21.2 x23.1 x23.2) fun x25 =>
   lt (gmulC x22 x21.1 x21.2 x23.1 x23.2) fun x24 =>
   lt (gasinV x25.1 x25.2) fun x27 =>
   lt (gasinC x24 x25.1 x25.2) fun x26 =>
   lt (gcosV c d) fun x29 =>
   lt (gcosC x26 c d) fun x28 =>
   lt (gsinV e f) fun x31 =>
   lt (gsinC x28 e f) fun x30 =>
   lt (gmulV x29.1 x29.2 x31.1 x31.2) fun x33 =>
   lt (gmulC x30 x29.1 x29.2 x31.1 x31.2) fun x32 =>
   lt (gnegV x33.1 x33.2) fun x35 =>
   lt (gnegC x32 x33.1 x33.2) fun x34 =>
   lt (gsinV x19.1 x19.2) fun x37 =>
   lt (gsinC x34 x19.1 x19.2) fun x36 =>
   lt (gmulV x21.1 x21.2 x37.1 x37.2) fun x39 =>
   lt (gmulC x36 x21.1 x21.2 x37.1 x37.2) fun x38 =>
   lt (gbeaV x35.1 x35.2 x39.1 x39.2) fun x41 =>
   lt (gbeaC x38 x35.1 x35.2 x39.1 x39.2) fun x40 =>
   cond (x40 != 0)
   ((0, 0, 0, 0, x40))
   ((x27.1, x27.2, x41.1, x41.2, 0)))
noncomputable def book_solM_gives : Book := [(13, eT (fun a b c d e f => .bool (triB a b c d e f))), (23, ePP (fun a b c d => arcV (asubR a b c d))), (24, cPI 42 (fun a b c => pairV (arcW a b c).1 (arcW a b c).2) arcC), (25, cP 42 (fun a b => pairV (gcosV a b).1 (gcosV a b).2) gcosC), (26, cP 42 (fun a b => pairV (gasinV a b).1 (gasinV a b).2) gasinC), (27, cPP 42 (fun a b c d => pairV (gmulV a b c d).1 (gmulV a b c d).2) gmulC), (28, cPP 42 (fun a b c d => pairV (gbeaV a b c d).1 (gbeaV a b c d).2) gbeaC), (29, cP 42 (fun a b => pairV (gnegV a b).1 (gnegV a b).2) gnegC), (30, cP 42 (fun a b => pairV (gsinV a b).1 (gsinV a b).2) gsinC)]
theorem book_solM_gives_ok : BookOk Tryz.prog book_solM_gives := (bookOk_cons (eT_ok triB_gives) (bookOk_cons (ePP_ok asubR_gives) (bookOk_cons (cPI_ok arcW_mods) (bookOk_cons (cP_ok gcosV_mods) (bookOk_cons (cP_ok gasinV_mods) (bookOk_cons (cPP_ok gmulV_mods) (bookOk_cons (cPP_ok gbeaV_mods) (bookOk_cons (cP_ok gnegV_mods) (bookOk_cons (cP_ok gsinV_mods) bookOk_nil)))))))))
theorem solM_gives_tree (a b c d e f : Int) : evF Tryz.prog [] Cs book_solM_gives 20 6 9 ([.agg ⟨[.int .i64 a, .int .i64 b, .int .i64 c, .int .i64 d, .int .i64 e, .int .i64 f]⟩].map AV.v) [] [] last =
  cond (!(triB a b c d e f))
  (some (.v (.tuple ⟨[.agg ⟨[.int .i64 0, .int .i64 0, .int .i64 0, .int .i64 0]⟩, .int .i64 1]⟩)))
  (lt (gcosV c d) fun x2 =>
   lt (gcosC 0 c d) fun x1 =>
   lt (gsinV e f) fun x4 =>
   lt (gsinC x1 e f) fun x3 =>
   lt (gmulV x2.1 x2.2 x4.1 x4.2) fun x6 =>
   lt (gmulC x3 x2.1 x2.2 x4.1 x4.2) fun x5 =>
   lt (gasinV x6.1 x6.2) fun x8 =>
   lt (gasinC x5 x6.1 x6.2) fun x7 =>
   lt (gsinV c d) fun x10 =>
   lt (gsinC x7 c d) fun x9 =>
   lt (gcosV e f) fun x12 =>
   lt (gcosC x9 e f) fun x11 =>
   lt (gmulV x2.1 x2.2 x12.1 x12.2) fun x14 =>
   lt (gmulC x11 x2.1 x2.2 x12.1 x12.2) fun x13 =>
   lt (gbeaV x10.1 x10.2 x14.1 x14.2) fun x16 =>
   lt (gbeaC x13 x10.1 x10.2 x14.1 x14.2) fun x15 =>
   lt (asubR x16.1 x16.2 a b) fun x17 =>
   lt (arcW x17.1 x17.2.1 x17.2.2) fun x19 =>
   lt (arcC x15 x17.1 x17.2.1 x17.2.2) fun x18 =>
   lt (gcosV x8.1 x8.2) fun x21 =>
   lt (gcosC x18 x8.1 x8.2) fun x20 =>
   lt (gcosV x19.1 x19.2) fun x23 =>
   lt (gcosC x20 x19.1 x19.2) fun x22 =>
   lt (gmulV x21.1 x21.2 x23.1 x23.2) fun x25 =>
   lt (gmulC x22 x21.1 x21.2 x23.1 x23.2) fun x24 =>
   lt (gasinV x25.1 x25.2) fun x27 =>
   lt (gasinC x24 x25.1 x25.2) fun x26 =>
   lt (gcosV c d) fun x29 =>
   lt (gcosC x26 c d) fun x28 =>
   lt (gsinV e f) fun x31 =>
   lt (gsinC x28 e f) fun x30 =>
   lt (gmulV x29.1 x29.2 x31.1 x31.2) fun x33 =>
   lt (gmulC x30 x29.1 x29.2 x31.1 x31.2) fun x32 =>
   lt (gnegV x33.1 x33.2) fun x35 =>
   lt (gnegC x32 x33.1 x33.2) fun x34 =>
   lt (gsinV x19.1 x19.2) fun x37 =>
   lt (gsinC x34 x19.1 x19.2) fun x36 =>
   lt (gmulV x21.1 x21.2 x37.1 x37.2) fun x39 =>
   lt (gmulC x36 x21.1 x21.2 x37.1 x37.2) fun x38 =>
   lt (gbeaV x35.1 x35.2 x39.1 x39.2) fun x41 =>
   lt (gbeaC x38 x35.1 x35.2 x39.1 x39.2) fun x40 =>
   cond (x40 != 0)
   (some (.v (.tuple ⟨[.agg ⟨[.int .i64 0, .int .i64 0, .int .i64 0, .int .i64 0]⟩, .int .i64 x40]⟩)))
   (some (.v (.tuple ⟨[.agg ⟨[.int .i64 x27.1, .int .i64 x27.2, .int .i64 x41.1, .int .i64 x41.2]⟩, .int .i64 0]⟩)))) := by kernel_rfl
theorem solM_gives (a b c d e f : Int) : Gives Tryz.prog 9 [.agg ⟨[.int .i64 a, .int .i64 b, .int .i64 c, .int .i64 d, .int .i64 e, .int .i64 f]⟩] (solV (solM a b c d e f)) := by
  refine evF_gives (E := []) mixed (by simp) Cs_ok book_solM_gives_ok (lim := 20) (d := 6) (nm := []) ?_
  rw [solM_gives_tree a b c d e f]
  unfold solM
  refine case_cond (fun (r : Int × Int × Int × Int × Int) => AV.v (solV (r))) ?_ ?_
  · rfl
  · refine case_lt (fun (r : Int × Int × Int × Int × Int) => AV.v (solV (r))) fun x2 => ?_
    refine case_lt (fun (r : Int × Int × Int × Int × Int) => AV.v (solV (r))) fun x1 => ?_
    refine case_lt (fun (r : Int × Int × Int × Int × Int) => AV.v (solV (r))) fun x4 => ?_
    refine case_lt (fun (r : Int × Int × Int × Int × Int) => AV.v (solV (r))) fun x3 => ?_
    refine case_lt (fun (r : Int × Int × Int × Int × Int) => AV.v (solV (r))) fun x6 => ?_
    refine case_lt (fun (r : Int × Int × Int × Int × Int) => AV.v (solV (r))) fun x5 => ?_
    refine case_lt (fun (r : Int × Int × Int × Int × Int) => AV.v (solV (r))) fun x8 => ?_
    refine case_lt (fun (r : Int × Int × Int × Int × Int) => AV.v (solV (r))) fun x7 => ?_
    refine case_lt (fun (r : Int × Int × Int × Int × Int) => AV.v (solV (r))) fun x10 => ?_
    refine case_lt (fun (r : Int × Int × Int × Int × Int) => AV.v (solV (r))) fun x9 => ?_
    refine case_lt (fun (r : Int × Int × Int × Int × Int) => AV.v (solV (r))) fun x12 => ?_
    refine case_lt (fun (r : Int × Int × Int × Int × Int) => AV.v (solV (r))) fun x11 => ?_
    refine case_lt (fun (r : Int × Int × Int × Int × Int) => AV.v (solV (r))) fun x14 => ?_
    refine case_lt (fun (r : Int × Int × Int × Int × Int) => AV.v (solV (r))) fun x13 => ?_
    refine case_lt (fun (r : Int × Int × Int × Int × Int) => AV.v (solV (r))) fun x16 => ?_
    refine case_lt (fun (r : Int × Int × Int × Int × Int) => AV.v (solV (r))) fun x15 => ?_
    refine case_lt (fun (r : Int × Int × Int × Int × Int) => AV.v (solV (r))) fun x17 => ?_
    refine case_lt (fun (r : Int × Int × Int × Int × Int) => AV.v (solV (r))) fun x19 => ?_
    refine case_lt (fun (r : Int × Int × Int × Int × Int) => AV.v (solV (r))) fun x18 => ?_
    refine case_lt (fun (r : Int × Int × Int × Int × Int) => AV.v (solV (r))) fun x21 => ?_
    refine case_lt (fun (r : Int × Int × Int × Int × Int) => AV.v (solV (r))) fun x20 => ?_
    refine case_lt (fun (r : Int × Int × Int × Int × Int) => AV.v (solV (r))) fun x23 => ?_
    refine case_lt (fun (r : Int × Int × Int × Int × Int) => AV.v (solV (r))) fun x22 => ?_
    refine case_lt (fun (r : Int × Int × Int × Int × Int) => AV.v (solV (r))) fun x25 => ?_
    refine case_lt (fun (r : Int × Int × Int × Int × Int) => AV.v (solV (r))) fun x24 => ?_
    refine case_lt (fun (r : Int × Int × Int × Int × Int) => AV.v (solV (r))) fun x27 => ?_
    refine case_lt (fun (r : Int × Int × Int × Int × Int) => AV.v (solV (r))) fun x26 => ?_
    refine case_lt (fun (r : Int × Int × Int × Int × Int) => AV.v (solV (r))) fun x29 => ?_
    refine case_lt (fun (r : Int × Int × Int × Int × Int) => AV.v (solV (r))) fun x28 => ?_
    refine case_lt (fun (r : Int × Int × Int × Int × Int) => AV.v (solV (r))) fun x31 => ?_
    refine case_lt (fun (r : Int × Int × Int × Int × Int) => AV.v (solV (r))) fun x30 => ?_
    refine case_lt (fun (r : Int × Int × Int × Int × Int) => AV.v (solV (r))) fun x33 => ?_
    refine case_lt (fun (r : Int × Int × Int × Int × Int) => AV.v (solV (r))) fun x32 => ?_
    refine case_lt (fun (r : Int × Int × Int × Int × Int) => AV.v (solV (r))) fun x35 => ?_
    refine case_lt (fun (r : Int × Int × Int × Int × Int) => AV.v (solV (r))) fun x34 => ?_
    refine case_lt (fun (r : Int × Int × Int × Int × Int) => AV.v (solV (r))) fun x37 => ?_
    refine case_lt (fun (r : Int × Int × Int × Int × Int) => AV.v (solV (r))) fun x36 => ?_
    refine case_lt (fun (r : Int × Int × Int × Int × Int) => AV.v (solV (r))) fun x39 => ?_
    refine case_lt (fun (r : Int × Int × Int × Int × Int) => AV.v (solV (r))) fun x38 => ?_
    refine case_lt (fun (r : Int × Int × Int × Int × Int) => AV.v (solV (r))) fun x41 => ?_
    refine case_lt (fun (r : Int × Int × Int × Int × Int) => AV.v (solV (r))) fun x40 => ?_
    refine case_cond (fun (r : Int × Int × Int × Int × Int) => AV.v (solV (r))) ?_ ?_
    · rfl
    · rfl
end Go.Proofs.YtadefgjpkhhffaaGreat

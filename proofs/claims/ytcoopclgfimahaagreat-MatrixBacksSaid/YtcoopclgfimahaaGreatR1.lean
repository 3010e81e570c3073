/-
  The reference's operations: what each function gives.
-/
import Derived.Test.YtcoopclgfimahaaGreatFm
import Derived.Test.YtcoopclgfimahaaGreatT50
import Derived.Test.YtcoopclgfimahaaGreatBg
namespace Go.Proofs.YtcoopclgfimahaaGreat
open Ev
theorem eqInts_inv {x y : Value} {xs ys : List Value} {r : Bool} (h : eqInts (x :: xs) (y :: ys) = some r) : ∃ a b r', x = .int .i64 a ∧ y = .int .i64 b ∧ eqInts xs ys = some r' ∧ r = ((a == b) && r') := by
  unfold eqInts at h
  split at h
  · rename_i he1 he2; cases he1
  · rename_i a l b m he1 he2
    cases he1
    cases he2
    split at h
    · rename_i r' hr
      simp only [Option.some.injEq] at h
      exact ⟨a, b, r', rfl, rfl, hr, h.symm⟩
    · cases h
  · cases h
theorem eqInts_nil : eqInts [] [] = some true := rfl
theorem eqArcAt (k : Nat) (a b c d : Int) (w : World) : (Op.equalIn (k + 2) 23 (.agg #[.int .i64 a, .int .i64 b]) (.agg #[.int .i64 c, .int .i64 d])).run Tryz.prog w = .ok (a == c && b == d) w := by
  have u3 := Tryz.underlying3
  have a3 := Tryz.isAgg3
  have z3 := Tryz.sizeOf3
  have hS : Tryz.prog.underlying 23 = some (.struct (Tryz.prog.fieldsOf 23)) := by kernel_rfl
  have hp : Tryz.prog.stoodInHeld 23 = false := by kernel_rfl
  rw [run_equalIn_agg w (k + 1) 23 _ _ hS hp]
  simp only [Program.fieldsOf, Tryz.underlying23]
  go_simp
  by_cases h1 : a = c <;> by_cases h2 : b = d <;> simp [h1, h2]
theorem fitArc : EqFit Tryz.prog (23, 2) := by
  refine ⟨by kernel_rfl, fun xs ys r hx hy h w => ?_⟩
  match xs, ys, hx, hy with
  | [x0, x1], [y0, y1], _, _ =>
    obtain ⟨a, c, r1, rfl, rfl, h1, rfl⟩ := eqInts_inv h
    obtain ⟨b, d, r2, rfl, rfl, h2, rfl⟩ := eqInts_inv h1
    rw [eqInts_nil] at h2
    cases h2
    rw [Bool.and_true]
    exact eqArcAt 9998 a b c d w
theorem fitSol : EqFit Tryz.prog (28, 4) := by
  refine ⟨by kernel_rfl, fun xs ys r hx hy h w => ?_⟩
  match xs, ys, hx, hy with
  | [x0, x1, x2, x3], [y0, y1, y2, y3], _, _ =>
    obtain ⟨a, c, r1, rfl, rfl, h1, rfl⟩ := eqInts_inv h
    obtain ⟨b, d, r2, rfl, rfl, h2, rfl⟩ := eqInts_inv h1
    obtain ⟨e, f, r3, rfl, rfl, h3, rfl⟩ := eqInts_inv h2
    obtain ⟨i, j, r4, rfl, rfl, h4, rfl⟩ := eqInts_inv h3
    rw [eqInts_nil] at h4
    cases h4
    have hS : Tryz.prog.underlying 28 = some (.struct (Tryz.prog.fieldsOf 28)) := by kernel_rfl
    have hp : Tryz.prog.stoodInHeld 28 = false := by kernel_rfl
    have a25 := Tryz.isAgg23
    have z25 := Tryz.sizeOf23
    have q1 := fun w => eqArcAt 9997 a b c d w
    have q2 := fun w => eqArcAt 9997 e i f j w
    rw [run_equalIn_agg w 9999 28 _ _ hS hp]
    simp only [Program.fieldsOf, Tryz.underlying28, Op.eqFields, part]
    simp [a25, z25, q1, q2]
    by_cases h1 : a = c <;> by_cases h2 : b = d <;> by_cases h3 : e = f <;> by_cases h4 : i = j <;> simp [h1, h2, h3, h4]
def Es : List (TypeId × Nat) := [(23, 2), (28, 4)]
theorem Es_ok : ∀ e ∈ Es, EqFit Tryz.prog e := by
  intro e he
  simp only [Es, List.mem_cons, List.not_mem_nil, or_false] at he
  rcases he with rfl | rfl
  · exact fitArc
  · exact fitSol
open SM
def intBoolV (r : Int × Bool) : Value := .tuple ⟨[.int .i64 r.1, .bool r.2]⟩
def intsV (r : Int × Int) : Value := .tuple ⟨[.int .i64 r.1, .int .i64 r.2]⟩
def pairsV (r : Int × Int × Int × Int) : Value := .tuple ⟨[pairV r.1 r.2.1, pairV r.2.2.1 r.2.2.2]⟩
def rflR (n : Int) : Int × Bool := (lob n, exa (red n))
theorem rflR_gives (n : Int) : Gives Tryz.prog 95 [.int .i64 n] (intBoolV (rflR n)) := fun w => rfloor_any n w
noncomputable def rendsM (a : Int) : Int × Int :=
  lt (rflR a) fun x1 =>
  cond x1.2
  ((x1.1, x1.1))
  ((x1.1, IntKind.i64.wrap (x1.1 + 1)))
noncomputable def book_rendsM_gives : Book := [(95, eI (fun a => intBoolV (rflR a)))]
theorem book_rendsM_gives_ok : BookOk Tryz.prog book_rendsM_gives := (bookOk_cons (eI_ok rflR_gives) bookOk_nil)
theorem rendsM_gives_tree (a : Int) : evF Tryz.prog Es Cs book_rendsM_gives 20 6 69 ([.int .i64 a].map AV.v) [] [] last =
  lt (rflR a) fun x1 =>
  cond x1.2
  (some (.v (.tuple ⟨[.int .i64 x1.1, .int .i64 x1.1]⟩)))
  (some (.v (.tuple ⟨[.int .i64 x1.1, .int .i64 (IntKind.i64.wrap (x1.1 + 1))]⟩))) := by kernel_rfl
theorem rendsM_gives (a : Int) : Gives Tryz.prog 69 [.int .i64 a] (intsV (rendsM a)) := by
  refine evF_gives (E := Es) mixed Es_ok Cs_ok book_rendsM_gives_ok (lim := 20) (d := 6) (nm := []) ?_
  rw [rendsM_gives_tree a]
  unfold rendsM
  refine case_lt (fun (r : Int × Int) => AV.v (intsV (r))) fun _ => ?_
  refine case_cond (fun (r : Int × Int) => AV.v (intsV (r))) ?_ ?_
  · rfl
  · rfl
noncomputable def rhasM (a b c : Int) : Bool :=
  cond (decide ((Int.tmod (IntKind.i64.wrap (c - a)) 21600000) < 0))
  ((decide (IntKind.i64.wrap (a + (IntKind.i64.wrap ((Int.tmod (IntKind.i64.wrap (c - a)) 21600000) + 21600000))) ≤ b)))
  ((decide (IntKind.i64.wrap (a + (Int.tmod (IntKind.i64.wrap (c - a)) 21600000)) ≤ b)))
noncomputable def book_rhasM_gives : Book := []
theorem book_rhasM_gives_ok : BookOk Tryz.prog book_rhasM_gives := bookOk_nil
theorem rhasM_gives_tree (a b c : Int) : evF Tryz.prog Es Cs book_rhasM_gives 20 6 70 ([.agg ⟨[.int .i64 a, .int .i64 b]⟩, .int .i64 c].map AV.v) [] [] last =
  cond (decide ((Int.tmod (IntKind.i64.wrap (c - a)) 21600000) < 0))
  (some (.v (.bool (decide (IntKind.i64.wrap (a + (IntKind.i64.wrap ((Int.tmod (IntKind.i64.wrap (c - a)) 21600000) + 21600000))) ≤ b)))))
  (some (.v (.bool (decide (IntKind.i64.wrap (a + (Int.tmod (IntKind.i64.wrap (c - a)) 21600000)) ≤ b))))) := by kernel_rfl
theorem rhasM_gives (a b c : Int) : Gives Tryz.prog 70 [.agg ⟨[.int .i64 a, .int .i64 b]⟩, .int .i64 c] (.bool (rhasM a b c)) := by
  refine evF_gives (E := Es) mixed Es_ok Cs_ok book_rhasM_gives_ok (lim := 20) (d := 6) (nm := []) ?_
  rw [rhasM_gives_tree a b c]
  unfold rhasM
  refine case_cond (fun (r : Bool) => AV.v (.bool (r))) ?_ ?_
  · rfl
  · rfl
noncomputable def rsineM (a b : Int) : Int × Int :=
  lt (rendsM a) fun x1 =>
  lt (rendsM b) fun x2 =>
  cond (rhasM a b 5400000)
  (cond (rhasM a b (-5400000))
   (((-1073741824), 1073741824))
   (((mn x1.1 x2.1), 1073741824)))
  (cond (rhasM a b (-5400000))
   (((-1073741824), (mx x1.2 x2.2)))
   (((mn x1.1 x2.1), (mx x1.2 x2.2))))
noncomputable def book_rsineM_gives : Book := [(69, eI (fun a => intsV (rendsM a))), (70, ePI (fun a b c => .bool (rhasM a b c)))]
theorem book_rsineM_gives_ok : BookOk Tryz.prog book_rsineM_gives := (bookOk_cons (eI_ok rendsM_gives) (bookOk_cons (ePI_ok rhasM_gives) bookOk_nil))
theorem rsineM_gives_tree (a b : Int) : evF Tryz.prog Es Cs book_rsineM_gives 20 6 45 ([.agg ⟨[.int .i64 a, .int .i64 b]⟩].map AV.v) [] [] last =
  lt (rendsM a) fun x1 =>
  lt (rendsM b) fun x2 =>
  cond (rhasM a b 5400000)
  (cond (rhasM a b (-5400000))
   (some (.v (.agg ⟨[.int .i64 (-1073741824), .int .i64 1073741824]⟩)))
   (some (.v (.agg ⟨[.int .i64 (mn x1.1 x2.1), .int .i64 1073741824]⟩))))
  (cond (rhasM a b (-5400000))
   (some (.v (.agg ⟨[.int .i64 (-1073741824), .int .i64 (mx x1.2 x2.2)]⟩)))
   (some (.v (.agg ⟨[.int .i64 (mn x1.1 x2.1), .int .i64 (mx x1.2 x2.2)]⟩)))) := by kernel_rfl
theorem rsineM_gives (a b : Int) : Gives Tryz.prog 45 [.agg ⟨[.int .i64 a, .int .i64 b]⟩] (pairV (rsineM a b).1 (rsineM a b).2) := by
  refine evF_gives (E := Es) mixed Es_ok Cs_ok book_rsineM_gives_ok (lim := 20) (d := 6) (nm := []) ?_
  rw [rsineM_gives_tree a b]
  unfold rsineM
  refine case_lt (fun (r : Int × Int) => AV.v (pairV (r).1 (r).2)) fun _ => ?_
  refine case_lt (fun (r : Int × Int) => AV.v (pairV (r).1 (r).2)) fun _ => ?_
  refine case_cond (fun (r : Int × Int) => AV.v (pairV (r).1 (r).2)) ?_ ?_
  · refine case_cond (fun (r : Int × Int) => AV.v (pairV (r).1 (r).2)) ?_ ?_
    · rfl
    · rfl
  · refine case_cond (fun (r : Int × Int) => AV.v (pairV (r).1 (r).2)) ?_ ?_
    · rfl
    · rfl
noncomputable def rsinM (a b : Int) : Int × Int :=
  lt (rsineM a b) fun x1 =>
  (x1.1, x1.2)
noncomputable def book_rsinM_gives : Book := [(45, eP (fun a b => pairV (rsineM a b).1 (rsineM a b).2))]
theorem book_rsinM_gives_ok : BookOk Tryz.prog book_rsinM_gives := (bookOk_cons (eP_ok rsineM_gives) bookOk_nil)
theorem rsinM_gives_tree (a b : Int) : evF Tryz.prog Es Cs book_rsinM_gives 20 6 21 ([.agg ⟨[.int .i64 a, .int .i64 b]⟩].map AV.v) [] [] last =
  lt (rsineM a b) fun x1 =>
  some (.v (.agg ⟨[.int .i64 x1.1, .int .i64 x1.2]⟩)) := by kernel_rfl
theorem rsinM_gives (a b : Int) : Gives Tryz.prog 21 [.agg ⟨[.int .i64 a, .int .i64 b]⟩] (pairV (rsinM a b).1 (rsinM a b).2) := by
  refine evF_gives (E := Es) mixed Es_ok Cs_ok book_rsinM_gives_ok (lim := 20) (d := 6) (nm := []) ?_
  rw [rsinM_gives_tree a b]
  unfold rsinM
  refine case_lt (fun (r : Int × Int) => AV.v (pairV (r).1 (r).2)) fun _ => ?_
  rfl
noncomputable def rcosM (a b : Int) : Int × Int :=
  lt (rsineM (IntKind.i64.wrap (a + 5400000)) (IntKind.i64.wrap (b + 5400000))) fun x1 =>
  (x1.1, x1.2)
noncomputable def book_rcosM_gives : Book := [(45, eP (fun a b => pairV (rsineM a b).1 (rsineM a b).2))]
theorem book_rcosM_gives_ok : BookOk Tryz.prog book_rcosM_gives := (bookOk_cons (eP_ok rsineM_gives) bookOk_nil)
theorem rcosM_gives_tree (a b : Int) : evF Tryz.prog Es Cs book_rcosM_gives 20 6 20 ([.agg ⟨[.int .i64 a, .int .i64 b]⟩].map AV.v) [] [] last =
  lt (rsineM (IntKind.i64.wrap (a + 5400000)) (IntKind.i64.wrap (b + 5400000))) fun x1 =>
  some (.v (.agg ⟨[.int .i64 x1.1, .int .i64 x1.2]⟩)) := by kernel_rfl
theorem rcosM_gives (a b : Int) : Gives Tryz.prog 20 [.agg ⟨[.int .i64 a, .int .i64 b]⟩] (pairV (rcosM a b).1 (rcosM a b).2) := by
  refine evF_gives (E := Es) mixed Es_ok Cs_ok book_rcosM_gives_ok (lim := 20) (d := 6) (nm := []) ?_
  rw [rcosM_gives_tree a b]
  unfold rcosM
  refine case_lt (fun (r : Int × Int) => AV.v (pairV (r).1 (r).2)) fun _ => ?_
  rfl
noncomputable def rfitM (a b : Int) : Int × Int × Int :=
  cond (decide (a < (-2147483648)))
  ((0, 0, 5))
  (cond (decide (b > 2147483648))
   ((0, 0, 5))
   ((a, b, 0)))
noncomputable def book_rfitM_gives : Book := []
theorem book_rfitM_gives_ok : BookOk Tryz.prog book_rfitM_gives := bookOk_nil
theorem rfitM_gives_tree (a b : Int) : evF Tryz.prog Es Cs book_rfitM_gives 20 6 73 ([.int .i64 a, .int .i64 b].map AV.v) [] [] last =
  cond (decide (a < (-2147483648)))
  (some (.v (.tuple ⟨[.agg ⟨[.int .i64 0, .int .i64 0]⟩, .int .i64 5]⟩)))
  (cond (decide (b > 2147483648))
   (some (.v (.tuple ⟨[.agg ⟨[.int .i64 0, .int .i64 0]⟩, .int .i64 5]⟩)))
   (some (.v (.tuple ⟨[.agg ⟨[.int .i64 a, .int .i64 b]⟩, .int .i64 0]⟩)))) := by kernel_rfl
theorem rfitM_gives (a b : Int) : Gives Tryz.prog 73 [.int .i64 a, .int .i64 b] (arcV (rfitM a b)) := by
  refine evF_gives (E := Es) mixed Es_ok Cs_ok book_rfitM_gives_ok (lim := 20) (d := 6) (nm := []) ?_
  rw [rfitM_gives_tree a b]
  unfold rfitM
  refine case_cond (fun (r : Int × Int × Int) => AV.v (arcV (r))) ?_ ?_
  · rfl
  · refine case_cond (fun (r : Int × Int × Int) => AV.v (arcV (r))) ?_ ?_
    · rfl
    · rfl
noncomputable def rlstM (a b : Int) : Int :=
  cond (decide (b < a))
  (b)
  (a)
noncomputable def book_rlstM_gives : Book := []
theorem book_rlstM_gives_ok : BookOk Tryz.prog book_rlstM_gives := bookOk_nil
theorem rlstM_gives_tree (a b : Int) : evF Tryz.prog Es Cs book_rlstM_gives 20 6 71 ([.int .i64 a, .int .i64 b].map AV.v) [] [] last =
  cond (decide (b < a))
  (some (.v (.int .i64 b)))
  (some (.v (.int .i64 a))) := by kernel_rfl
theorem rlstM_gives (a b : Int) : Gives Tryz.prog 71 [.int .i64 a, .int .i64 b] (.int .i64 (rlstM a b)) := by
  refine evF_gives (E := Es) mixed Es_ok Cs_ok book_rlstM_gives_ok (lim := 20) (d := 6) (nm := []) ?_
  rw [rlstM_gives_tree a b]
  unfold rlstM
  refine case_cond (fun (r : Int) => AV.v (.int .i64 (r))) ?_ ?_
  · rfl
  · rfl
noncomputable def rmstM (a b : Int) : Int :=
  cond (decide (a < b))
  (b)
  (a)
noncomputable def book_rmstM_gives : Book := []
theorem book_rmstM_gives_ok : BookOk Tryz.prog book_rmstM_gives := bookOk_nil
theorem rmstM_gives_tree (a b : Int) : evF Tryz.prog Es Cs book_rmstM_gives 20 6 72 ([.int .i64 a, .int .i64 b].map AV.v) [] [] last =
  cond (decide (a < b))
  (some (.v (.int .i64 b)))
  (some (.v (.int .i64 a))) := by kernel_rfl
theorem rmstM_gives (a b : Int) : Gives Tryz.prog 72 [.int .i64 a, .int .i64 b] (.int .i64 (rmstM a b)) := by
  refine evF_gives (E := Es) mixed Es_ok Cs_ok book_rmstM_gives_ok (lim := 20) (d := 6) (nm := []) ?_
  rw [rmstM_gives_tree a b]
  unfold rmstM
  refine case_cond (fun (r : Int) => AV.v (.int .i64 (r))) ?_ ?_
  · rfl
  · rfl
noncomputable def rnegM (a b : Int) : Int × Int :=
  (IntKind.i64.wrap (0 - b), IntKind.i64.wrap (0 - a))
noncomputable def book_rnegM_gives : Book := []
theorem book_rnegM_gives_ok : BookOk Tryz.prog book_rnegM_gives := bookOk_nil
theorem rnegM_gives_tree (a b : Int) : evF Tryz.prog Es Cs book_rnegM_gives 20 6 26 ([.agg ⟨[.int .i64 a, .int .i64 b]⟩].map AV.v) [] [] last =
  some (.v (.agg ⟨[.int .i64 (IntKind.i64.wrap (0 - b)), .int .i64 (IntKind.i64.wrap (0 - a))]⟩)) := by kernel_rfl
theorem rnegM_gives (a b : Int) : Gives Tryz.prog 26 [.agg ⟨[.int .i64 a, .int .i64 b]⟩] (pairV (rnegM a b).1 (rnegM a b).2) := by
  refine evF_gives (E := Es) mixed Es_ok Cs_ok book_rnegM_gives_ok (lim := 20) (d := 6) (nm := []) ?_
  rw [rnegM_gives_tree a b]
  rfl
noncomputable def raddM (a b c d : Int) : Int × Int × Int :=
  lt (rfitM (IntKind.i64.wrap (a + c)) (IntKind.i64.wrap (b + d))) fun x1 =>
  (x1.1, x1.2.1, x1.2.2)
noncomputable def book_raddM_gives : Book := [(73, eII (fun a b => arcV (rfitM a b)))]
theorem book_raddM_gives_ok : BookOk Tryz.prog book_raddM_gives := (bookOk_cons (eII_ok rfitM_gives) bookOk_nil)
theorem raddM_gives_tree (a b c d : Int) : evF Tryz.prog Es Cs book_raddM_gives 20 6 47 ([.agg ⟨[.int .i64 a, .int .i64 b]⟩, .agg ⟨[.int .i64 c, .int .i64 d]⟩].map AV.v) [] [] last =
  lt (rfitM (IntKind.i64.wrap (a + c)) (IntKind.i64.wrap (b + d))) fun x1 =>
  some (.v (.tuple ⟨[.agg ⟨[.int .i64 x1.1, .int .i64 x1.2.1]⟩, .int .i64 x1.2.2]⟩)) := by kernel_rfl
theorem raddM_gives (a b c d : Int) : Gives Tryz.prog 47 [.agg ⟨[.int .i64 a, .int .i64 b]⟩, .agg ⟨[.int .i64 c, .int .i64 d]⟩] (arcV (raddM a b c d)) := by
  refine evF_gives (E := Es) mixed Es_ok Cs_ok book_raddM_gives_ok (lim := 20) (d := 6) (nm := []) ?_
  rw [raddM_gives_tree a b c d]
  unfold raddM
  refine case_lt (fun (r : Int × Int × Int) => AV.v (arcV (r))) fun _ => ?_
  rfl
noncomputable def rsubM (a b c d : Int) : Int × Int × Int :=
  lt (rfitM (IntKind.i64.wrap (a - d)) (IntKind.i64.wrap (b - c))) fun x1 =>
  (x1.1, x1.2.1, x1.2.2)
noncomputable def book_rsubM_gives : Book := [(73, eII (fun a b => arcV (rfitM a b)))]
theorem book_rsubM_gives_ok : BookOk Tryz.prog book_rsubM_gives := (bookOk_cons (eII_ok rfitM_gives) bookOk_nil)
theorem rsubM_gives_tree (a b c d : Int) : evF Tryz.prog Es Cs book_rsubM_gives 20 6 48 ([.agg ⟨[.int .i64 a, .int .i64 b]⟩, .agg ⟨[.int .i64 c, .int .i64 d]⟩].map AV.v) [] [] last =
  lt (rfitM (IntKind.i64.wrap (a - d)) (IntKind.i64.wrap (b - c))) fun x1 =>
  some (.v (.tuple ⟨[.agg ⟨[.int .i64 x1.1, .int .i64 x1.2.1]⟩, .int .i64 x1.2.2]⟩)) := by kernel_rfl
theorem rsubM_gives (a b c d : Int) : Gives Tryz.prog 48 [.agg ⟨[.int .i64 a, .int .i64 b]⟩, .agg ⟨[.int .i64 c, .int .i64 d]⟩] (arcV (rsubM a b c d)) := by
  refine evF_gives (E := Es) mixed Es_ok Cs_ok book_rsubM_gives_ok (lim := 20) (d := 6) (nm := []) ?_
  rw [rsubM_gives_tree a b c d]
  unfold rsubM
  refine case_lt (fun (r : Int × Int × Int) => AV.v (arcV (r))) fun _ => ?_
  rfl
noncomputable def rmulM (a b c d : Int) : Int × Int × Int :=
  cond (decide ((Int.tmod (rlstM (rlstM (IntKind.i64.wrap (a * c)) (IntKind.i64.wrap (a * d))) (rlstM (IntKind.i64.wrap (b * c)) (IntKind.i64.wrap (b * d)))) 1073741824) < 0))
  (cond (decide ((Int.tmod (IntKind.i64.wrap (0 - (rmstM (rmstM (IntKind.i64.wrap (a * c)) (IntKind.i64.wrap (a * d))) (rmstM (IntKind.i64.wrap (b * c)) (IntKind.i64.wrap (b * d)))))) 1073741824) < 0))
   (lt (rfitM (IntKind.i64.wrap ((IntKind.i64.wrap (Int.tdiv (rlstM (rlstM (IntKind.i64.wrap (a * c)) (IntKind.i64.wrap (a * d))) (rlstM (IntKind.i64.wrap (b * c)) (IntKind.i64.wrap (b * d)))) 1073741824)) - 1)) (IntKind.i64.wrap (0 - (IntKind.i64.wrap ((IntKind.i64.wrap (Int.tdiv (IntKind.i64.wrap (0 - (rmstM (rmstM (IntKind.i64.wrap (a * c)) (IntKind.i64.wrap (a * d))) (rmstM (IntKind.i64.wrap (b * c)) (IntKind.i64.wrap (b * d)))))) 1073741824)) - 1))))) fun x1 =>
    (x1.1, x1.2.1, x1.2.2))
   (lt (rfitM (IntKind.i64.wrap ((IntKind.i64.wrap (Int.tdiv (rlstM (rlstM (IntKind.i64.wrap (a * c)) (IntKind.i64.wrap (a * d))) (rlstM (IntKind.i64.wrap (b * c)) (IntKind.i64.wrap (b * d)))) 1073741824)) - 1)) (IntKind.i64.wrap (0 - (IntKind.i64.wrap (Int.tdiv (IntKind.i64.wrap (0 - (rmstM (rmstM (IntKind.i64.wrap (a * c)) (IntKind.i64.wrap (a * d))) (rmstM (IntKind.i64.wrap (b * c)) (IntKind.i64.wrap (b * d)))))) 1073741824))))) fun x2 =>
    (x2.1, x2.2.1, x2.2.2)))
  (cond (decide ((Int.tmod (IntKind.i64.wrap (0 - (rmstM (rmstM (IntKind.i64.wrap (a * c)) (IntKind.i64.wrap (a * d))) (rmstM (IntKind.i64.wrap (b * c)) (IntKind.i64.wrap (b * d)))))) 1073741824) < 0))
   (lt (rfitM (IntKind.i64.wrap (Int.tdiv (rlstM (rlstM (IntKind.i64.wrap (a * c)) (IntKind.i64.wrap (a * d))) (rlstM (IntKind.i64.wrap (b * c)) (IntKind.i64.wrap (b * d)))) 1073741824)) (IntKind.i64.wrap (0 - (IntKind.i64.wrap ((IntKind.i64.wrap (Int.tdiv (IntKind.i64.wrap (0 - (rmstM (rmstM (IntKind.i64.wrap (a * c)) (IntKind.i64.wrap (a * d))) (rmstM (IntKind.i64.wrap (b * c)) (IntKind.i64.wrap (b * d)))))) 1073741824)) - 1))))) fun x3 =>
    (x3.1, x3.2.1, x3.2.2))
   (lt (rfitM (IntKind.i64.wrap (Int.tdiv (rlstM (rlstM (IntKind.i64.wrap (a * c)) (IntKind.i64.wrap (a * d))) (rlstM (IntKind.i64.wrap (b * c)) (IntKind.i64.wrap (b * d)))) 1073741824)) (IntKind.i64.wrap (0 - (IntKind.i64.wrap (Int.tdiv (IntKind.i64.wrap (0 - (rmstM (rmstM (IntKind.i64.wrap (a * c)) (IntKind.i64.wrap (a * d))) (rmstM (IntKind.i64.wrap (b * c)) (IntKind.i64.wrap (b * d)))))) 1073741824))))) fun x4 =>
    (x4.1, x4.2.1, x4.2.2)))
noncomputable def book_rmulM_gives : Book := [(71, eII (fun a b => .int .i64 (rlstM a b))), (72, eII (fun a b => .int .i64 (rmstM a b))), (73, eII (fun a b => arcV (rfitM a b)))]
theorem book_rmulM_gives_ok : BookOk Tryz.prog book_rmulM_gives := (bookOk_cons (eII_ok rlstM_gives) (bookOk_cons (eII_ok rmstM_gives) (bookOk_cons (eII_ok rfitM_gives) bookOk_nil)))
theorem rmulM_gives_tree (a b c d : Int) : evF Tryz.prog Es Cs book_rmulM_gives 20 6 46 ([.agg ⟨[.int .i64 a, .int .i64 b]⟩, .agg ⟨[.int .i64 c, .int .i64 d]⟩].map AV.v) [] [] last =
  cond (decide ((Int.tmod (rlstM (rlstM (IntKind.i64.wrap (a * c)) (IntKind.i64.wrap (a * d))) (rlstM (IntKind.i64.wrap (b * c)) (IntKind.i64.wrap (b * d)))) 1073741824) < 0))
  (cond (decide ((Int.tmod (IntKind.i64.wrap (0 - (rmstM (rmstM (IntKind.i64.wrap (a * c)) (IntKind.i64.wrap (a * d))) (rmstM (IntKind.i64.wrap (b * c)) (IntKind.i64.wrap (b * d)))))) 1073741824) < 0))
   (lt (rfitM (IntKind.i64.wrap ((IntKind.i64.wrap (Int.tdiv (rlstM (rlstM (IntKind.i64.wrap (a * c)) (IntKind.i64.wrap (a * d))) (rlstM (IntKind.i64.wrap (b * c)) (IntKind.i64.wrap (b * d)))) 1073741824)) - 1)) (IntKind.i64.wrap (0 - (IntKind.i64.wrap ((IntKind.i64.wrap (Int.tdiv (IntKind.i64.wrap (0 - (rmstM (rmstM (IntKind.i64.wrap (a * c)) (IntKind.i64.wrap (a * d))) (rmstM (IntKind.i64.wrap (b * c)) (IntKind.i64.wrap (b * d)))))) 1073741824)) - 1))))) fun x1 =>
    some (.v (.tuple ⟨[.agg ⟨[.int .i64 x1.1, .int .i64 x1.2.1]⟩, .int .i64 x1.2.2]⟩)))
   (lt (rfitM (IntKind.i64.wrap ((IntKind.i64.wrap (Int.tdiv (rlstM (rlstM (IntKind.i64.wrap (a * c)) (IntKind.i64.wrap (a * d))) (rlstM (IntKind.i64.wrap (b * c)) (IntKind.i64.wrap (b * d)))) 1073741824)) - 1)) (IntKind.i64.wrap (0 - (IntKind.i64.wrap (Int.tdiv (IntKind.i64.wrap (0 - (rmstM (rmstM (IntKind.i64.wrap (a * c)) (IntKind.i64.wrap (a * d))) (rmstM (IntKind.i64.wrap (b * c)) (IntKind.i64.wrap (b * d)))))) 1073741824))))) fun x2 =>
    some (.v (.tuple ⟨[.agg ⟨[.int .i64 x2.1, .int .i64 x2.2.1]⟩, .int .i64 x2.2.2]⟩))))
  (cond (decide ((Int.tmod (IntKind.i64.wrap (0 - (rmstM (rmstM (IntKind.i64.wrap (a * c)) (IntKind.i64.wrap (a * d))) (rmstM (IntKind.i64.wrap (b * c)) (IntKind.i64.wrap (b * d)))))) 1073741824) < 0))
   (lt (rfitM (IntKind.i64.wrap (Int.tdiv (rlstM (rlstM (IntKind.i64.wrap (a * c)) (IntKind.i64.wrap (a * d))) (rlstM (IntKind.i64.wrap (b * c)) (IntKind.i64.wrap (b * d)))) 1073741824)) (IntKind.i64.wrap (0 - (IntKind.i64.wrap ((IntKind.i64.wrap (Int.tdiv (IntKind.i64.wrap (0 - (rmstM (rmstM (IntKind.i64.wrap (a * c)) (IntKind.i64.wrap (a * d))) (rmstM (IntKind.i64.wrap (b * c)) (IntKind.i64.wrap (b * d)))))) 1073741824)) - 1))))) fun x3 =>
    some (.v (.tuple ⟨[.agg ⟨[.int .i64 x3.1, .int .i64 x3.2.1]⟩, .int .i64 x3.2.2]⟩)))
   (lt (rfitM (IntKind.i64.wrap (Int.tdiv (rlstM (rlstM (IntKind.i64.wrap (a * c)) (IntKind.i64.wrap (a * d))) (rlstM (IntKind.i64.wrap (b * c)) (IntKind.i64.wrap (b * d)))) 1073741824)) (IntKind.i64.wrap (0 - (IntKind.i64.wrap (Int.tdiv (IntKind.i64.wrap (0 - (rmstM (rmstM (IntKind.i64.wrap (a * c)) (IntKind.i64.wrap (a * d))) (rmstM (IntKind.i64.wrap (b * c)) (IntKind.i64.wrap (b * d)))))) 1073741824))))) fun x4 =>
    some (.v (.tuple ⟨[.agg ⟨[.int .i64 x4.1, .int .i64 x4.2.1]⟩, .int .i64 x4.2.2]⟩)))) := by kernel_rfl
theorem rmulM_gives (a b c d : Int) : Gives Tryz.prog 46 [.agg ⟨[.int .i64 a, .int .i64 b]⟩, .agg ⟨[.int .i64 c, .int .i64 d]⟩] (arcV (rmulM a b c d)) := by
  refine evF_gives (E := Es) mixed Es_ok Cs_ok book_rmulM_gives_ok (lim := 20) (d := 6) (nm := []) ?_
  rw [rmulM_gives_tree a b c d]
  unfold rmulM
  refine case_cond (fun (r : Int × Int × Int) => AV.v (arcV (r))) ?_ ?_
  · refine case_cond (fun (r : Int × Int × Int) => AV.v (arcV (r))) ?_ ?_
    · refine case_lt (fun (r : Int × Int × Int) => AV.v (arcV (r))) fun _ => ?_
      rfl
    · refine case_lt (fun (r : Int × Int × Int) => AV.v (arcV (r))) fun _ => ?_
      rfl
  · refine case_cond (fun (r : Int × Int × Int) => AV.v (arcV (r))) ?_ ?_
    · refine case_lt (fun (r : Int × Int × Int) => AV.v (arcV (r))) fun _ => ?_
      rfl
    · refine case_lt (fun (r : Int × Int × Int) => AV.v (arcV (r))) fun _ => ?_
      rfl
noncomputable def timesM (a b c d : Int) : Int × Int :=
  lt (rmulM a b c d) fun x1 =>
  (x1.1, x1.2.1)
noncomputable def book_timesM_gives : Book := [(46, ePP (fun a b c d => arcV (rmulM a b c d)))]
theorem book_timesM_gives_ok : BookOk Tryz.prog book_timesM_gives := (bookOk_cons (ePP_ok rmulM_gives) bookOk_nil)
theorem timesM_gives_tree (a b c d : Int) : evF Tryz.prog Es Cs book_timesM_gives 20 6 22 ([.agg ⟨[.int .i64 a, .int .i64 b]⟩, .agg ⟨[.int .i64 c, .int .i64 d]⟩].map AV.v) [] [] last =
  lt (rmulM a b c d) fun x1 =>
  some (.v (.agg ⟨[.int .i64 x1.1, .int .i64 x1.2.1]⟩)) := by kernel_rfl
theorem timesM_gives (a b c d : Int) : Gives Tryz.prog 22 [.agg ⟨[.int .i64 a, .int .i64 b]⟩, .agg ⟨[.int .i64 c, .int .i64 d]⟩] (pairV (timesM a b c d).1 (timesM a b c d).2) := by
  refine evF_gives (E := Es) mixed Es_ok Cs_ok book_timesM_gives_ok (lim := 20) (d := 6) (nm := []) ?_
  rw [timesM_gives_tree a b c d]
  unfold timesM
  refine case_lt (fun (r : Int × Int) => AV.v (pairV (r).1 (r).2)) fun _ => ?_
  rfl
noncomputable def plusM (a b c d : Int) : Int × Int :=
  lt (raddM a b c d) fun x1 =>
  (x1.1, x1.2.1)
noncomputable def book_plusM_gives : Book := [(47, ePP (fun a b c d => arcV (raddM a b c d)))]
theorem book_plusM_gives_ok : BookOk Tryz.prog book_plusM_gives := (bookOk_cons (ePP_ok raddM_gives) bookOk_nil)
theorem plusM_gives_tree (a b c d : Int) : evF Tryz.prog Es Cs book_plusM_gives 20 6 23 ([.agg ⟨[.int .i64 a, .int .i64 b]⟩, .agg ⟨[.int .i64 c, .int .i64 d]⟩].map AV.v) [] [] last =
  lt (raddM a b c d) fun x1 =>
  some (.v (.agg ⟨[.int .i64 x1.1, .int .i64 x1.2.1]⟩)) := by kernel_rfl
theorem plusM_gives (a b c d : Int) : Gives Tryz.prog 23 [.agg ⟨[.int .i64 a, .int .i64 b]⟩, .agg ⟨[.int .i64 c, .int .i64 d]⟩] (pairV (plusM a b c d).1 (plusM a b c d).2) := by
  refine evF_gives (E := Es) mixed Es_ok Cs_ok book_plusM_gives_ok (lim := 20) (d := 6) (nm := []) ?_
  rw [plusM_gives_tree a b c d]
  unfold plusM
  refine case_lt (fun (r : Int × Int) => AV.v (pairV (r).1 (r).2)) fun _ => ?_
  rfl
noncomputable def minusM (a b c d : Int) : Int × Int :=
  lt (rsubM a b c d) fun x1 =>
  (x1.1, x1.2.1)
noncomputable def book_minusM_gives : Book := [(48, ePP (fun a b c d => arcV (rsubM a b c d)))]
theorem book_minusM_gives_ok : BookOk Tryz.prog book_minusM_gives := (bookOk_cons (ePP_ok rsubM_gives) bookOk_nil)
theorem minusM_gives_tree (a b c d : Int) : evF Tryz.prog Es Cs book_minusM_gives 20 6 24 ([.agg ⟨[.int .i64 a, .int .i64 b]⟩, .agg ⟨[.int .i64 c, .int .i64 d]⟩].map AV.v) [] [] last =
  lt (rsubM a b c d) fun x1 =>
  some (.v (.agg ⟨[.int .i64 x1.1, .int .i64 x1.2.1]⟩)) := by kernel_rfl
theorem minusM_gives (a b c d : Int) : Gives Tryz.prog 24 [.agg ⟨[.int .i64 a, .int .i64 b]⟩, .agg ⟨[.int .i64 c, .int .i64 d]⟩] (pairV (minusM a b c d).1 (minusM a b c d).2) := by
  refine evF_gives (E := Es) mixed Es_ok Cs_ok book_minusM_gives_ok (lim := 20) (d := 6) (nm := []) ?_
  rw [minusM_gives_tree a b c d]
  unfold minusM
  refine case_lt (fun (r : Int × Int) => AV.v (pairV (r).1 (r).2)) fun _ => ?_
  rfl
noncomputable def rvalM (a b : Int) : Bool :=
  cond (decide (a ≤ b))
  (cond (decide (a ≥ (-1099511627776)))
   ((decide (b ≤ 1099511627776)))
   (false))
  (false)
noncomputable def book_rvalM_gives : Book := []
theorem book_rvalM_gives_ok : BookOk Tryz.prog book_rvalM_gives := bookOk_nil
theorem rvalM_gives_tree (a b : Int) : evF Tryz.prog Es Cs book_rvalM_gives 20 6 19 ([.agg ⟨[.int .i64 a, .int .i64 b]⟩].map AV.v) [] [] last =
  cond (decide (a ≤ b))
  (cond (decide (a ≥ (-1099511627776)))
   (some (.v (.bool (decide (b ≤ 1099511627776)))))
   (some (.v (.bool false))))
  (some (.v (.bool false))) := by kernel_rfl
theorem rvalM_gives (a b : Int) : Gives Tryz.prog 19 [.agg ⟨[.int .i64 a, .int .i64 b]⟩] (.bool (rvalM a b)) := by
  refine evF_gives (E := Es) mixed Es_ok Cs_ok book_rvalM_gives_ok (lim := 20) (d := 6) (nm := []) ?_
  rw [rvalM_gives_tree a b]
  unfold rvalM
  refine case_cond (fun (r : Bool) => AV.v (.bool (r))) ?_ ?_
  · refine case_cond (fun (r : Bool) => AV.v (.bool (r))) ?_ ?_
    · rfl
    · rfl
  · rfl
noncomputable def rmeetM (a b c d : Int) : Int × Int :=
  cond (decide (c > a))
  (cond (decide (d < b))
   ((c, d))
   ((c, b)))
  (cond (decide (d < b))
   ((a, d))
   ((a, b)))
noncomputable def book_rmeetM_gives : Book := []
theorem book_rmeetM_gives_ok : BookOk Tryz.prog book_rmeetM_gives := bookOk_nil
theorem rmeetM_gives_tree (a b c d : Int) : evF Tryz.prog Es Cs book_rmeetM_gives 20 6 54 ([.agg ⟨[.int .i64 a, .int .i64 b]⟩, .agg ⟨[.int .i64 c, .int .i64 d]⟩].map AV.v) [] [] last =
  cond (decide (c > a))
  (cond (decide (d < b))
   (some (.v (.agg ⟨[.int .i64 c, .int .i64 d]⟩)))
   (some (.v (.agg ⟨[.int .i64 c, .int .i64 b]⟩))))
  (cond (decide (d < b))
   (some (.v (.agg ⟨[.int .i64 a, .int .i64 d]⟩)))
   (some (.v (.agg ⟨[.int .i64 a, .int .i64 b]⟩)))) := by kernel_rfl
theorem rmeetM_gives (a b c d : Int) : Gives Tryz.prog 54 [.agg ⟨[.int .i64 a, .int .i64 b]⟩, .agg ⟨[.int .i64 c, .int .i64 d]⟩] (pairV (rmeetM a b c d).1 (rmeetM a b c d).2) := by
  refine evF_gives (E := Es) mixed Es_ok Cs_ok book_rmeetM_gives_ok (lim := 20) (d := 6) (nm := []) ?_
  rw [rmeetM_gives_tree a b c d]
  unfold rmeetM
  refine case_cond (fun (r : Int × Int) => AV.v (pairV (r).1 (r).2)) ?_ ?_
  · refine case_cond (fun (r : Int × Int) => AV.v (pairV (r).1 (r).2)) ?_ ?_
    · rfl
    · rfl
  · refine case_cond (fun (r : Int × Int) => AV.v (pairV (r).1 (r).2)) ?_ ?_
    · rfl
    · rfl
noncomputable def rlatM (a b : Int) : Bool :=
  cond (decide (a ≤ b))
  (cond (decide (a ≥ (-5400000)))
   ((decide (b ≤ 5400000)))
   (false))
  (false)
noncomputable def book_rlatM_gives : Book := []
theorem book_rlatM_gives_ok : BookOk Tryz.prog book_rlatM_gives := bookOk_nil
theorem rlatM_gives_tree (a b : Int) : evF Tryz.prog Es Cs book_rlatM_gives 20 6 18 ([.agg ⟨[.int .i64 a, .int .i64 b]⟩].map AV.v) [] [] last =
  cond (decide (a ≤ b))
  (cond (decide (a ≥ (-5400000)))
   (some (.v (.bool (decide (b ≤ 5400000)))))
   (some (.v (.bool false))))
  (some (.v (.bool false))) := by kernel_rfl
theorem rlatM_gives (a b : Int) : Gives Tryz.prog 18 [.agg ⟨[.int .i64 a, .int .i64 b]⟩] (.bool (rlatM a b)) := by
  refine evF_gives (E := Es) mixed Es_ok Cs_ok book_rlatM_gives_ok (lim := 20) (d := 6) (nm := []) ?_
  rw [rlatM_gives_tree a b]
  unfold rlatM
  refine case_cond (fun (r : Bool) => AV.v (.bool (r))) ?_ ?_
  · refine case_cond (fun (r : Bool) => AV.v (.bool (r))) ?_ ?_
    · rfl
    · rfl
  · rfl
noncomputable def rtriM (a b c d e f : Int) : Bool :=
  cond (rlatM a b)
  (cond (rlatM c d)
   ((rvalM e f))
   (false))
  (false)
noncomputable def book_rtriM_gives : Book := [(18, eP (fun a b => .bool (rlatM a b))), (19, eP (fun a b => .bool (rvalM a b)))]
theorem book_rtriM_gives_ok : BookOk Tryz.prog book_rtriM_gives := (bookOk_cons (eP_ok rlatM_gives) (bookOk_cons (eP_ok rvalM_gives) bookOk_nil))
theorem rtriM_gives_tree (a b c d e f : Int) : evF Tryz.prog Es Cs book_rtriM_gives 20 6 7 ([.agg ⟨[.int .i64 a, .int .i64 b, .int .i64 c, .int .i64 d, .int .i64 e, .int .i64 f]⟩].map AV.v) [] [] last =
  cond (rlatM a b)
  (cond (rlatM c d)
   (some (.v (.bool (rvalM e f))))
   (some (.v (.bool false))))
  (some (.v (.bool false))) := by kernel_rfl
theorem rtriM_gives (a b c d e f : Int) : Gives Tryz.prog 7 [.agg ⟨[.int .i64 a, .int .i64 b, .int .i64 c, .int .i64 d, .int .i64 e, .int .i64 f]⟩] (.bool (rtriM a b c d e f)) := by
  refine evF_gives (E := Es) mixed Es_ok Cs_ok book_rtriM_gives_ok (lim := 20) (d := 6) (nm := []) ?_
  rw [rtriM_gives_tree a b c d e f]
  unfold rtriM
  refine case_cond (fun (r : Bool) => AV.v (.bool (r))) ?_ ?_
  · refine case_cond (fun (r : Bool) => AV.v (.bool (r))) ?_ ?_
    · rfl
    · rfl
  · rfl
noncomputable def rnearM (a b : Int) : Int :=
  cond (decide (a > 0))
  (a)
  (cond (decide (b < 0))
   (IntKind.i64.wrap (0 - b))
   (0))
noncomputable def book_rnearM_gives : Book := []
theorem book_rnearM_gives_ok : BookOk Tryz.prog book_rnearM_gives := bookOk_nil
theorem rnearM_gives_tree (a b : Int) : evF Tryz.prog Es Cs book_rnearM_gives 20 6 78 ([.agg ⟨[.int .i64 a, .int .i64 b]⟩].map AV.v) [] [] last =
  cond (decide (a > 0))
  (some (.v (.int .i64 a)))
  (cond (decide (b < 0))
   (some (.v (.int .i64 (IntKind.i64.wrap (0 - b)))))
   (some (.v (.int .i64 0)))) := by kernel_rfl
theorem rnearM_gives (a b : Int) : Gives Tryz.prog 78 [.agg ⟨[.int .i64 a, .int .i64 b]⟩] (.int .i64 (rnearM a b)) := by
  refine evF_gives (E := Es) mixed Es_ok Cs_ok book_rnearM_gives_ok (lim := 20) (d := 6) (nm := []) ?_
  rw [rnearM_gives_tree a b]
  unfold rnearM
  refine case_cond (fun (r : Int) => AV.v (.int .i64 (r))) ?_ ?_
  · rfl
  · refine case_cond (fun (r : Int) => AV.v (.int .i64 (r))) ?_ ?_
    · rfl
    · rfl
noncomputable def rfarM (a b : Int) : Int :=
  cond (decide (IntKind.i64.wrap (0 - a) > b))
  (IntKind.i64.wrap (0 - a))
  (b)
noncomputable def book_rfarM_gives : Book := []
theorem book_rfarM_gives_ok : BookOk Tryz.prog book_rfarM_gives := bookOk_nil
theorem rfarM_gives_tree (a b : Int) : evF Tryz.prog Es Cs book_rfarM_gives 20 6 79 ([.agg ⟨[.int .i64 a, .int .i64 b]⟩].map AV.v) [] [] last =
  cond (decide (IntKind.i64.wrap (0 - a) > b))
  (some (.v (.int .i64 (IntKind.i64.wrap (0 - a)))))
  (some (.v (.int .i64 b))) := by kernel_rfl
theorem rfarM_gives (a b : Int) : Gives Tryz.prog 79 [.agg ⟨[.int .i64 a, .int .i64 b]⟩] (.int .i64 (rfarM a b)) := by
  refine evF_gives (E := Es) mixed Es_ok Cs_ok book_rfarM_gives_ok (lim := 20) (d := 6) (nm := []) ?_
  rw [rfarM_gives_tree a b]
  unfold rfarM
  refine case_cond (fun (r : Int) => AV.v (.int .i64 (r))) ?_ ?_
  · rfl
  · rfl
noncomputable def rcapM (a : Int) : Int :=
  cond (decide (a > 1073741824))
  (1073741824)
  (a)
noncomputable def book_rcapM_gives : Book := []
theorem book_rcapM_gives_ok : BookOk Tryz.prog book_rcapM_gives := bookOk_nil
theorem rcapM_gives_tree (a : Int) : evF Tryz.prog Es Cs book_rcapM_gives 20 6 77 ([.int .i64 a].map AV.v) [] [] last =
  cond (decide (a > 1073741824))
  (some (.v (.int .i64 1073741824)))
  (some (.v (.int .i64 a))) := by kernel_rfl
theorem rcapM_gives (a : Int) : Gives Tryz.prog 77 [.int .i64 a] (.int .i64 (rcapM a)) := by
  refine evF_gives (E := Es) mixed Es_ok Cs_ok book_rcapM_gives_ok (lim := 20) (d := 6) (nm := []) ?_
  rw [rcapM_gives_tree a]
  unfold rcapM
  refine case_cond (fun (r : Int) => AV.v (.int .i64 (r))) ?_ ?_
  · rfl
  · rfl
noncomputable def rbakM (a b c d e f : Int) : Int × Int × Int × Int × Int :=
  cond (!(rlatM a b))
  ((0, 0, 0, 0, 1))
  (cond (!(rlatM c d))
   ((0, 0, 0, 0, 1))
   (cond (!(rvalM e f))
    ((0, 0, 0, 0, 1))
    (lt (rsinM c d) fun x1 =>
     lt (rcosM c d) fun x2 =>
     lt (rcosM e f) fun x3 =>
     lt (timesM x2.1 x2.2 x3.1 x3.2) fun x4 =>
     lt (rsinM e f) fun x5 =>
     lt (timesM x2.1 x2.2 x5.1 x5.2) fun x6 =>
     lt (rcosM a b) fun x7 =>
     lt (rsinM a b) fun x8 =>
     lt (timesM x1.1 x1.2 x8.1 x8.2) fun x9 =>
     lt (timesM x4.1 x4.2 x7.1 x7.2) fun x10 =>
     lt (plusM x9.1 x9.2 x10.1 x10.2) fun x11 =>
     lt (timesM x1.1 x1.2 x7.1 x7.2) fun x12 =>
     lt (timesM x4.1 x4.2 x8.1 x8.2) fun x13 =>
     lt (minusM x12.1 x12.2 x13.1 x13.2) fun x14 =>
     lt (asinR x11.1 x11.2) fun x15 =>
     lt (rnegM x6.1 x6.2) fun x16 =>
     lt (bearR x16.1 x16.2 x14.1 x14.2) fun x17 =>
     (x15.1, x15.2.1, x17.1, x17.2.1, 0))))
noncomputable def book_rbakM_gives : Book := [(18, eP (fun a b => .bool (rlatM a b))), (19, eP (fun a b => .bool (rvalM a b))), (20, eP (fun a b => pairV (rcosM a b).1 (rcosM a b).2)), (21, eP (fun a b => pairV (rsinM a b).1 (rsinM a b).2)), (22, ePP (fun a b c d => pairV (timesM a b c d).1 (timesM a b c d).2)), (23, ePP (fun a b c d => pairV (plusM a b c d).1 (plusM a b c d).2)), (24, ePP (fun a b c d => pairV (minusM a b c d).1 (minusM a b c d).2)), (25, ePP (fun a b c d => arcV (bearR a b c d))), (26, eP (fun a b => pairV (rnegM a b).1 (rnegM a b).2)), (36, eP (fun a b => arcV (asinR a b)))]
theorem book_rbakM_gives_ok : BookOk Tryz.prog book_rbakM_gives := (bookOk_cons (eP_ok rlatM_gives) (bookOk_cons (eP_ok rvalM_gives) (bookOk_cons (eP_ok rcosM_gives) (bookOk_cons (eP_ok rsinM_gives) (bookOk_cons (ePP_ok timesM_gives) (bookOk_cons (ePP_ok plusM_gives) (bookOk_cons (ePP_ok minusM_gives) (bookOk_cons (ePP_ok rbear) (bookOk_cons (eP_ok rnegM_gives) (bookOk_cons (eP_ok rasin_r) bookOk_nil))))))))))
theorem rbakM_gives_tree (a b c d e f : Int) : evF Tryz.prog Es Cs book_rbakM_gives 20 6 10 ([.agg ⟨[.int .i64 a, .int .i64 b]⟩, .agg ⟨[.int .i64 c, .int .i64 d, .int .i64 e, .int .i64 f]⟩].map AV.v) [] [] last =
  cond (!(rlatM a b))
  (some (.v (.tuple ⟨[.agg ⟨[.int .i64 0, .int .i64 0]⟩, .agg ⟨[.int .i64 0, .int .i64 0]⟩, .int .i64 1]⟩)))
  (cond (!(rlatM c d))
   (some (.v (.tuple ⟨[.agg ⟨[.int .i64 0, .int .i64 0]⟩, .agg ⟨[.int .i64 0, .int .i64 0]⟩, .int .i64 1]⟩)))
   (cond (!(rvalM e f))
    (some (.v (.tuple ⟨[.agg ⟨[.int .i64 0, .int .i64 0]⟩, .agg ⟨[.int .i64 0, .int .i64 0]⟩, .int .i64 1]⟩)))
    (lt (rsinM c d) fun x1 =>
     lt (rcosM c d) fun x2 =>
     lt (rcosM e f) fun x3 =>
     lt (timesM x2.1 x2.2 x3.1 x3.2) fun x4 =>
     lt (rsinM e f) fun x5 =>
     lt (timesM x2.1 x2.2 x5.1 x5.2) fun x6 =>
     lt (rcosM a b) fun x7 =>
     lt (rsinM a b) fun x8 =>
     lt (timesM x1.1 x1.2 x8.1 x8.2) fun x9 =>
     lt (timesM x4.1 x4.2 x7.1 x7.2) fun x10 =>
     lt (plusM x9.1 x9.2 x10.1 x10.2) fun x11 =>
     lt (timesM x1.1 x1.2 x7.1 x7.2) fun x12 =>
     lt (timesM x4.1 x4.2 x8.1 x8.2) fun x13 =>
     lt (minusM x12.1 x12.2 x13.1 x13.2) fun x14 =>
     lt (asinR x11.1 x11.2) fun x15 =>
     lt (rnegM x6.1 x6.2) fun x16 =>
     lt (bearR x16.1 x16.2 x14.1 x14.2) fun x17 =>
     some (.v (.tuple ⟨[.agg ⟨[.int .i64 x15.1, .int .i64 x15.2.1]⟩, .agg ⟨[.int .i64 x17.1, .int .i64 x17.2.1]⟩, .int .i64 0]⟩))))) := by kernel_rfl
theorem rbakM_gives (a b c d e f : Int) : Gives Tryz.prog 10 [.agg ⟨[.int .i64 a, .int .i64 b]⟩, .agg ⟨[.int .i64 c, .int .i64 d, .int .i64 e, .int .i64 f]⟩] (twoV (rbakM a b c d e f)) := by
  refine evF_gives (E := Es) mixed Es_ok Cs_ok book_rbakM_gives_ok (lim := 20) (d := 6) (nm := []) ?_
  rw [rbakM_gives_tree a b c d e f]
  unfold rbakM
  refine case_cond (fun (r : Int × Int × Int × Int × Int) => AV.v (twoV (r))) ?_ ?_
  · rfl
  · refine case_cond (fun (r : Int × Int × Int × Int × Int) => AV.v (twoV (r))) ?_ ?_
    · rfl
    · refine case_cond (fun (r : Int × Int × Int × Int × Int) => AV.v (twoV (r))) ?_ ?_
      · rfl
      · refine case_lt (fun (r : Int × Int × Int × Int × Int) => AV.v (twoV (r))) fun _ => ?_
        refine case_lt (fun (r : Int × Int × Int × Int × Int) => AV.v (twoV (r))) fun _ => ?_
        refine case_lt (fun (r : Int × Int × Int × Int × Int) => AV.v (twoV (r))) fun _ => ?_
        refine case_lt (fun (r : Int × Int × Int × Int × Int) => AV.v (twoV (r))) fun _ => ?_
        refine case_lt (fun (r : Int × Int × Int × Int × Int) => AV.v (twoV (r))) fun _ => ?_
        refine case_lt (fun (r : Int × Int × Int × Int × Int) => AV.v (twoV (r))) fun _ => ?_
        refine case_lt (fun (r : Int × Int × Int × Int × Int) => AV.v (twoV (r))) fun _ => ?_
        refine case_lt (fun (r : Int × Int × Int × Int × Int) => AV.v (twoV (r))) fun _ => ?_
        refine case_lt (fun (r : Int × Int × Int × Int × Int) => AV.v (twoV (r))) fun _ => ?_
        refine case_lt (fun (r : Int × Int × Int × Int × Int) => AV.v (twoV (r))) fun _ => ?_
        refine case_lt (fun (r : Int × Int × Int × Int × Int) => AV.v (twoV (r))) fun _ => ?_
        refine case_lt (fun (r : Int × Int × Int × Int × Int) => AV.v (twoV (r))) fun _ => ?_
        refine case_lt (fun (r : Int × Int × Int × Int × Int) => AV.v (twoV (r))) fun _ => ?_
        refine case_lt (fun (r : Int × Int × Int × Int × Int) => AV.v (twoV (r))) fun _ => ?_
        refine case_lt (fun (r : Int × Int × Int × Int × Int) => AV.v (twoV (r))) fun _ => ?_
        refine case_lt (fun (r : Int × Int × Int × Int × Int) => AV.v (twoV (r))) fun _ => ?_
        refine case_lt (fun (r : Int × Int × Int × Int × Int) => AV.v (twoV (r))) fun _ => ?_
        rfl
def rootP (n : Int) : Bool := decide (0 ≤ n ∧ n < 4611686018427387904)
theorem rroot_gives (n : Int) (h : rootP n = true) : Gives Tryz.prog 80 [.int .i64 n] (.int .i64 (rootR n)) := fun w => by
  obtain ⟨h1, h2⟩ := of_decide_eq_true h
  have := rroot_any n.toNat (by omega) w
  rwa [Int.toNat_of_nonneg h1] at this
end Go.Proofs.YtcoopclgfimahaaGreat

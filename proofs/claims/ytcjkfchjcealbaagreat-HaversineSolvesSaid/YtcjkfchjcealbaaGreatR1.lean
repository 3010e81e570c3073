/-
  The reference's enclosures and fixed-point operations: what each function gives.
-/
import Derived.Test.YtcjkfchjcealbaaGreatF4
import Derived.Test.YtcjkfchjcealbaaGreatT50
namespace Go.Proofs.YtcjkfchjcealbaaGreat
open Ev

open SM
def intBoolV (r : Int × Bool) : Value := .tuple ⟨[.int .i64 r.1, .bool r.2]⟩
def intsV (r : Int × Int) : Value := .tuple ⟨[.int .i64 r.1, .int .i64 r.2]⟩
def pairsV (r : Int × Int × Int × Int) : Value := .tuple ⟨[pairV r.1 r.2.1, pairV r.2.2.1 r.2.2.2]⟩
def rflR (n : Int) : Int × Bool := (lob n, exa (red n))
theorem rflR_gives (n : Int) : Gives Tryz.prog 72 [.int .i64 n] (intBoolV (rflR n)) := fun w => rfloor_any n w
noncomputable def rendsM (a : Int) : Int × Int :=
  lt (rflR a) fun x1 =>
  cond x1.2
  ((x1.1, x1.1))
  ((x1.1, IntKind.i64.wrap (x1.1 + 1)))
noncomputable def book_rendsM_gives : Book := [(72, eI (fun a => intBoolV (rflR a)))]
theorem book_rendsM_gives_ok : BookOk Tryz.prog book_rendsM_gives := (bookOk_cons (eI_ok rflR_gives) bookOk_nil)
theorem rendsM_gives_tree (a : Int) : evF Tryz.prog Es Cs book_rendsM_gives 20 6 78 ([.int .i64 a].map AV.v) [] [] last =
  lt (rflR a) fun x1 =>
  cond x1.2
  (some (.v (.tuple ⟨[.int .i64 x1.1, .int .i64 x1.1]⟩)))
  (some (.v (.tuple ⟨[.int .i64 x1.1, .int .i64 (IntKind.i64.wrap (x1.1 + 1))]⟩))) := by kernel_rfl
theorem rendsM_gives (a : Int) : Gives Tryz.prog 78 [.int .i64 a] (intsV (rendsM a)) := by
  refine evF_gives (E := Es) mixed Es_ok Cs_ok book_rendsM_gives_ok (lim := 20) (d := 6) (nm := []) ?_
  rw [rendsM_gives_tree a]
  unfold rendsM
  refine case_lt (fun (r : Int × Int) => AV.v (intsV (r))) fun x1 => ?_
  refine case_cond (fun (r : Int × Int) => AV.v (intsV (r))) ?_ ?_
  · rfl
  · rfl
noncomputable def rhasM (a b c : Int) : Bool :=
  cond (decide ((Int.tmod (IntKind.i64.wrap (c - a)) 21600000) < 0))
  ((decide (IntKind.i64.wrap (a + (IntKind.i64.wrap ((Int.tmod (IntKind.i64.wrap (c - a)) 21600000) + 21600000))) ≤ b)))
  ((decide (IntKind.i64.wrap (a + (Int.tmod (IntKind.i64.wrap (c - a)) 21600000)) ≤ b)))
noncomputable def book_rhasM_gives : Book := []
theorem book_rhasM_gives_ok : BookOk Tryz.prog book_rhasM_gives := bookOk_nil
theorem rhasM_gives_tree (a b c : Int) : evF Tryz.prog Es Cs book_rhasM_gives 20 6 54 ([.agg ⟨[.int .i64 a, .int .i64 b]⟩, .int .i64 c].map AV.v) [] [] last =
  cond (decide ((Int.tmod (IntKind.i64.wrap (c - a)) 21600000) < 0))
  (some (.v (.bool (decide (IntKind.i64.wrap (a + (IntKind.i64.wrap ((Int.tmod (IntKind.i64.wrap (c - a)) 21600000) + 21600000))) ≤ b)))))
  (some (.v (.bool (decide (IntKind.i64.wrap (a + (Int.tmod (IntKind.i64.wrap (c - a)) 21600000)) ≤ b))))) := by kernel_rfl
theorem rhasM_gives (a b c : Int) : Gives Tryz.prog 54 [.agg ⟨[.int .i64 a, .int .i64 b]⟩, .int .i64 c] (.bool (rhasM a b c)) := by
  refine evF_gives (E := Es) mixed Es_ok Cs_ok book_rhasM_gives_ok (lim := 20) (d := 6) (nm := []) ?_
  rw [rhasM_gives_tree a b c]
  unfold rhasM
  refine case_cond (fun (r : Bool) => AV.v (.bool (r))) ?_ ?_
  · rfl
  · rfl
noncomputable def rsineM (a b : Int) : Int × Int :=
  lt (rendsM a) fun x1 =>
  lt (rendsM b) fun x2 =>
  cond (rhasM a b 5400000)
  (cond (rhasM a b (-5400000))
   (((-1073741824), 1073741824))
   (((mn x1.1 x2.1), 1073741824)))
  (cond (rhasM a b (-5400000))
   (((-1073741824), (mx x1.2 x2.2)))
   (((mn x1.1 x2.1), (mx x1.2 x2.2))))
noncomputable def book_rsineM_gives : Book := [(54, ePI (fun a b c => .bool (rhasM a b c))), (78, eI (fun a => intsV (rendsM a)))]
theorem book_rsineM_gives_ok : BookOk Tryz.prog book_rsineM_gives := (bookOk_cons (ePI_ok rhasM_gives) (bookOk_cons (eI_ok rendsM_gives) bookOk_nil))
theorem rsineM_gives_tree (a b : Int) : evF Tryz.prog Es Cs book_rsineM_gives 20 6 56 ([.agg ⟨[.int .i64 a, .int .i64 b]⟩].map AV.v) [] [] last =
  lt (rendsM a) fun x1 =>
  lt (rendsM b) fun x2 =>
  cond (rhasM a b 5400000)
  (cond (rhasM a b (-5400000))
   (some (.v (.agg ⟨[.int .i64 (-1073741824), .int .i64 1073741824]⟩)))
   (some (.v (.agg ⟨[.int .i64 (mn x1.1 x2.1), .int .i64 1073741824]⟩))))
  (cond (rhasM a b (-5400000))
   (some (.v (.agg ⟨[.int .i64 (-1073741824), .int .i64 (mx x1.2 x2.2)]⟩)))
   (some (.v (.agg ⟨[.int .i64 (mn x1.1 x2.1), .int .i64 (mx x1.2 x2.2)]⟩)))) := by kernel_rfl
theorem rsineM_gives (a b : Int) : Gives Tryz.prog 56 [.agg ⟨[.int .i64 a, .int .i64 b]⟩] (pairV (rsineM a b).1 (rsineM a b).2) := by
  refine evF_gives (E := Es) mixed Es_ok Cs_ok book_rsineM_gives_ok (lim := 20) (d := 6) (nm := []) ?_
  rw [rsineM_gives_tree a b]
  unfold rsineM
  refine case_lt (fun (r : Int × Int) => AV.v (pairV (r).1 (r).2)) fun x1 => ?_
  refine case_lt (fun (r : Int × Int) => AV.v (pairV (r).1 (r).2)) fun x2 => ?_
  refine case_cond (fun (r : Int × Int) => AV.v (pairV (r).1 (r).2)) ?_ ?_
  · refine case_cond (fun (r : Int × Int) => AV.v (pairV (r).1 (r).2)) ?_ ?_
    · rfl
    · rfl
  · refine case_cond (fun (r : Int × Int) => AV.v (pairV (r).1 (r).2)) ?_ ?_
    · rfl
    · rfl
noncomputable def rcosM (a b : Int) : Int × Int :=
  lt (rsineM (IntKind.i64.wrap (a + 5400000)) (IntKind.i64.wrap (b + 5400000))) fun x1 =>
  (x1.1, x1.2)
noncomputable def book_rcosM_gives : Book := [(56, eP (fun a b => pairV (rsineM a b).1 (rsineM a b).2))]
theorem book_rcosM_gives_ok : BookOk Tryz.prog book_rcosM_gives := (bookOk_cons (eP_ok rsineM_gives) bookOk_nil)
theorem rcosM_gives_tree (a b : Int) : evF Tryz.prog Es Cs book_rcosM_gives 20 6 30 ([.agg ⟨[.int .i64 a, .int .i64 b]⟩].map AV.v) [] [] last =
  lt (rsineM (IntKind.i64.wrap (a + 5400000)) (IntKind.i64.wrap (b + 5400000))) fun x1 =>
  some (.v (.agg ⟨[.int .i64 x1.1, .int .i64 x1.2]⟩)) := by kernel_rfl
theorem rcosM_gives (a b : Int) : Gives Tryz.prog 30 [.agg ⟨[.int .i64 a, .int .i64 b]⟩] (pairV (rcosM a b).1 (rcosM a b).2) := by
  refine evF_gives (E := Es) mixed Es_ok Cs_ok book_rcosM_gives_ok (lim := 20) (d := 6) (nm := []) ?_
  rw [rcosM_gives_tree a b]
  unfold rcosM
  refine case_lt (fun (r : Int × Int) => AV.v (pairV (r).1 (r).2)) fun x1 => ?_
  rfl
noncomputable def rhvM (a : Int) : Int × Int :=
  lt (rflR (IntKind.i64.wrap (a + 5400000))) fun x1 =>
  cond x1.2
  ((IntKind.i64.wrap (Int.tdiv (IntKind.i64.wrap (1073741824 - x1.1)) 2), IntKind.i64.wrap (Int.tdiv (IntKind.i64.wrap (1073741824 - x1.1)) 2)))
  ((IntKind.i64.wrap (Int.tdiv (IntKind.i64.wrap ((IntKind.i64.wrap (1073741824 - x1.1)) - 1)) 2), IntKind.i64.wrap ((IntKind.i64.wrap (Int.tdiv (IntKind.i64.wrap ((IntKind.i64.wrap (1073741824 - x1.1)) - 1)) 2)) + 1)))
noncomputable def book_rhvM_gives : Book := [(72, eI (fun a => intBoolV (rflR a)))]
theorem book_rhvM_gives_ok : BookOk Tryz.prog book_rhvM_gives := (bookOk_cons (eI_ok rflR_gives) bookOk_nil)
theorem rhvM_gives_tree (a : Int) : evF Tryz.prog Es Cs book_rhvM_gives 20 6 53 ([.int .i64 a].map AV.v) [] [] last =
  lt (rflR (IntKind.i64.wrap (a + 5400000))) fun x1 =>
  cond x1.2
  (some (.v (.tuple ⟨[.int .i64 (IntKind.i64.wrap (Int.tdiv (IntKind.i64.wrap (1073741824 - x1.1)) 2)), .int .i64 (IntKind.i64.wrap (Int.tdiv (IntKind.i64.wrap (1073741824 - x1.1)) 2))]⟩)))
  (some (.v (.tuple ⟨[.int .i64 (IntKind.i64.wrap (Int.tdiv (IntKind.i64.wrap ((IntKind.i64.wrap (1073741824 - x1.1)) - 1)) 2)), .int .i64 (IntKind.i64.wrap ((IntKind.i64.wrap (Int.tdiv (IntKind.i64.wrap ((IntKind.i64.wrap (1073741824 - x1.1)) - 1)) 2)) + 1))]⟩))) := by kernel_rfl
theorem rhvM_gives (a : Int) : Gives Tryz.prog 53 [.int .i64 a] (intsV (rhvM a)) := by
  refine evF_gives (E := Es) mixed Es_ok Cs_ok book_rhvM_gives_ok (lim := 20) (d := 6) (nm := []) ?_
  rw [rhvM_gives_tree a]
  unfold rhvM
  refine case_lt (fun (r : Int × Int) => AV.v (intsV (r))) fun x1 => ?_
  refine case_cond (fun (r : Int × Int) => AV.v (intsV (r))) ?_ ?_
  · rfl
  · rfl
noncomputable def rhavM (a b : Int) : Int × Int :=
  lt (rhvM a) fun x1 =>
  lt (rhvM b) fun x2 =>
  cond (rhasM a b 10800000)
  (cond (rhasM a b 0)
   ((0, 1073741824))
   (((mn x1.1 x2.1), 1073741824)))
  (cond (rhasM a b 0)
   ((0, (mx x1.2 x2.2)))
   (((mn x1.1 x2.1), (mx x1.2 x2.2))))
noncomputable def book_rhavM_gives : Book := [(53, eI (fun a => intsV (rhvM a))), (54, ePI (fun a b c => .bool (rhasM a b c)))]
theorem book_rhavM_gives_ok : BookOk Tryz.prog book_rhavM_gives := (bookOk_cons (eI_ok rhvM_gives) (bookOk_cons (ePI_ok rhasM_gives) bookOk_nil))
theorem rhavM_gives_tree (a b : Int) : evF Tryz.prog Es Cs book_rhavM_gives 20 6 27 ([.agg ⟨[.int .i64 a, .int .i64 b]⟩].map AV.v) [] [] last =
  lt (rhvM a) fun x1 =>
  lt (rhvM b) fun x2 =>
  cond (rhasM a b 10800000)
  (cond (rhasM a b 0)
   (some (.v (.agg ⟨[.int .i64 0, .int .i64 1073741824]⟩)))
   (some (.v (.agg ⟨[.int .i64 (mn x1.1 x2.1), .int .i64 1073741824]⟩))))
  (cond (rhasM a b 0)
   (some (.v (.agg ⟨[.int .i64 0, .int .i64 (mx x1.2 x2.2)]⟩)))
   (some (.v (.agg ⟨[.int .i64 (mn x1.1 x2.1), .int .i64 (mx x1.2 x2.2)]⟩)))) := by kernel_rfl
theorem rhavM_gives (a b : Int) : Gives Tryz.prog 27 [.agg ⟨[.int .i64 a, .int .i64 b]⟩] (pairV (rhavM a b).1 (rhavM a b).2) := by
  refine evF_gives (E := Es) mixed Es_ok Cs_ok book_rhavM_gives_ok (lim := 20) (d := 6) (nm := []) ?_
  rw [rhavM_gives_tree a b]
  unfold rhavM
  refine case_lt (fun (r : Int × Int) => AV.v (pairV (r).1 (r).2)) fun x1 => ?_
  refine case_lt (fun (r : Int × Int) => AV.v (pairV (r).1 (r).2)) fun x2 => ?_
  refine case_cond (fun (r : Int × Int) => AV.v (pairV (r).1 (r).2)) ?_ ?_
  · refine case_cond (fun (r : Int × Int) => AV.v (pairV (r).1 (r).2)) ?_ ?_
    · rfl
    · rfl
  · refine case_cond (fun (r : Int × Int) => AV.v (pairV (r).1 (r).2)) ?_ ?_
    · rfl
    · rfl
noncomputable def rfitM (a b : Int) : Int × Int × Int :=
  cond (decide (a < (-2147483648)))
  ((0, 0, 5))
  (cond (decide (b > 2147483648))
   ((0, 0, 5))
   ((a, b, 0)))
noncomputable def book_rfitM_gives : Book := []
theorem book_rfitM_gives_ok : BookOk Tryz.prog book_rfitM_gives := bookOk_nil
theorem rfitM_gives_tree (a b : Int) : evF Tryz.prog Es Cs book_rfitM_gives 20 6 75 ([.int .i64 a, .int .i64 b].map AV.v) [] [] last =
  cond (decide (a < (-2147483648)))
  (some (.v (.tuple ⟨[.agg ⟨[.int .i64 0, .int .i64 0]⟩, .int .i64 5]⟩)))
  (cond (decide (b > 2147483648))
   (some (.v (.tuple ⟨[.agg ⟨[.int .i64 0, .int .i64 0]⟩, .int .i64 5]⟩)))
   (some (.v (.tuple ⟨[.agg ⟨[.int .i64 a, .int .i64 b]⟩, .int .i64 0]⟩)))) := by kernel_rfl
theorem rfitM_gives (a b : Int) : Gives Tryz.prog 75 [.int .i64 a, .int .i64 b] (arcV (rfitM a b)) := by
  refine evF_gives (E := Es) mixed Es_ok Cs_ok book_rfitM_gives_ok (lim := 20) (d := 6) (nm := []) ?_
  rw [rfitM_gives_tree a b]
  unfold rfitM
  refine case_cond (fun (r : Int × Int × Int) => AV.v (arcV (r))) ?_ ?_
  · rfl
  · refine case_cond (fun (r : Int × Int × Int) => AV.v (arcV (r))) ?_ ?_
    · rfl
    · rfl
noncomputable def rlstM (a b : Int) : Int :=
  cond (decide (b < a))
  (b)
  (a)
noncomputable def book_rlstM_gives : Book := []
theorem book_rlstM_gives_ok : BookOk Tryz.prog book_rlstM_gives := bookOk_nil
theorem rlstM_gives_tree (a b : Int) : evF Tryz.prog Es Cs book_rlstM_gives 20 6 73 ([.int .i64 a, .int .i64 b].map AV.v) [] [] last =
  cond (decide (b < a))
  (some (.v (.int .i64 b)))
  (some (.v (.int .i64 a))) := by kernel_rfl
theorem rlstM_gives (a b : Int) : Gives Tryz.prog 73 [.int .i64 a, .int .i64 b] (.int .i64 (rlstM a b)) := by
  refine evF_gives (E := Es) mixed Es_ok Cs_ok book_rlstM_gives_ok (lim := 20) (d := 6) (nm := []) ?_
  rw [rlstM_gives_tree a b]
  unfold rlstM
  refine case_cond (fun (r : Int) => AV.v (.int .i64 (r))) ?_ ?_
  · rfl
  · rfl
noncomputable def rmstM (a b : Int) : Int :=
  cond (decide (a < b))
  (b)
  (a)
noncomputable def book_rmstM_gives : Book := []
theorem book_rmstM_gives_ok : BookOk Tryz.prog book_rmstM_gives := bookOk_nil
theorem rmstM_gives_tree (a b : Int) : evF Tryz.prog Es Cs book_rmstM_gives 20 6 74 ([.int .i64 a, .int .i64 b].map AV.v) [] [] last =
  cond (decide (a < b))
  (some (.v (.int .i64 b)))
  (some (.v (.int .i64 a))) := by kernel_rfl
theorem rmstM_gives (a b : Int) : Gives Tryz.prog 74 [.int .i64 a, .int .i64 b] (.int .i64 (rmstM a b)) := by
  refine evF_gives (E := Es) mixed Es_ok Cs_ok book_rmstM_gives_ok (lim := 20) (d := 6) (nm := []) ?_
  rw [rmstM_gives_tree a b]
  unfold rmstM
  refine case_cond (fun (r : Int) => AV.v (.int .i64 (r))) ?_ ?_
  · rfl
  · rfl
noncomputable def rzeroM (a b : Int) : Bool :=
  cond (decide (a ≤ 0))
  ((decide (b ≥ 0)))
  (false)
noncomputable def book_rzeroM_gives : Book := []
theorem book_rzeroM_gives_ok : BookOk Tryz.prog book_rzeroM_gives := bookOk_nil
theorem rzeroM_gives_tree (a b : Int) : evF Tryz.prog Es Cs book_rzeroM_gives 20 6 82 ([.agg ⟨[.int .i64 a, .int .i64 b]⟩].map AV.v) [] [] last =
  cond (decide (a ≤ 0))
  (some (.v (.bool (decide (b ≥ 0)))))
  (some (.v (.bool false))) := by kernel_rfl
theorem rzeroM_gives (a b : Int) : Gives Tryz.prog 82 [.agg ⟨[.int .i64 a, .int .i64 b]⟩] (.bool (rzeroM a b)) := by
  refine evF_gives (E := Es) mixed Es_ok Cs_ok book_rzeroM_gives_ok (lim := 20) (d := 6) (nm := []) ?_
  rw [rzeroM_gives_tree a b]
  unfold rzeroM
  refine case_cond (fun (r : Bool) => AV.v (.bool (r))) ?_ ?_
  · rfl
  · rfl
noncomputable def rnegM (a b : Int) : Int × Int :=
  (IntKind.i64.wrap (0 - b), IntKind.i64.wrap (0 - a))
noncomputable def book_rnegM_gives : Book := []
theorem book_rnegM_gives_ok : BookOk Tryz.prog book_rnegM_gives := bookOk_nil
theorem rnegM_gives_tree (a b : Int) : evF Tryz.prog Es Cs book_rnegM_gives 20 6 102 ([.agg ⟨[.int .i64 a, .int .i64 b]⟩].map AV.v) [] [] last =
  some (.v (.agg ⟨[.int .i64 (IntKind.i64.wrap (0 - b)), .int .i64 (IntKind.i64.wrap (0 - a))]⟩)) := by kernel_rfl
theorem rnegM_gives (a b : Int) : Gives Tryz.prog 102 [.agg ⟨[.int .i64 a, .int .i64 b]⟩] (pairV (rnegM a b).1 (rnegM a b).2) := by
  refine evF_gives (E := Es) mixed Es_ok Cs_ok book_rnegM_gives_ok (lim := 20) (d := 6) (nm := []) ?_
  rw [rnegM_gives_tree a b]
  rfl
noncomputable def raddM (a b c d : Int) : Int × Int × Int :=
  lt (rfitM (IntKind.i64.wrap (a + c)) (IntKind.i64.wrap (b + d))) fun x1 =>
  (x1.1, x1.2.1, x1.2.2)
noncomputable def book_raddM_gives : Book := [(75, eII (fun a b => arcV (rfitM a b)))]
theorem book_raddM_gives_ok : BookOk Tryz.prog book_raddM_gives := (bookOk_cons (eII_ok rfitM_gives) bookOk_nil)
theorem raddM_gives_tree (a b c d : Int) : evF Tryz.prog Es Cs book_raddM_gives 20 6 59 ([.agg ⟨[.int .i64 a, .int .i64 b]⟩, .agg ⟨[.int .i64 c, .int .i64 d]⟩].map AV.v) [] [] last =
  lt (rfitM (IntKind.i64.wrap (a + c)) (IntKind.i64.wrap (b + d))) fun x1 =>
  some (.v (.tuple ⟨[.agg ⟨[.int .i64 x1.1, .int .i64 x1.2.1]⟩, .int .i64 x1.2.2]⟩)) := by kernel_rfl
theorem raddM_gives (a b c d : Int) : Gives Tryz.prog 59 [.agg ⟨[.int .i64 a, .int .i64 b]⟩, .agg ⟨[.int .i64 c, .int .i64 d]⟩] (arcV (raddM a b c d)) := by
  refine evF_gives (E := Es) mixed Es_ok Cs_ok book_raddM_gives_ok (lim := 20) (d := 6) (nm := []) ?_
  rw [raddM_gives_tree a b c d]
  unfold raddM
  refine case_lt (fun (r : Int × Int × Int) => AV.v (arcV (r))) fun x1 => ?_
  rfl
noncomputable def rsubM (a b c d : Int) : Int × Int × Int :=
  lt (rfitM (IntKind.i64.wrap (a - d)) (IntKind.i64.wrap (b - c))) fun x1 =>
  (x1.1, x1.2.1, x1.2.2)
noncomputable def book_rsubM_gives : Book := [(75, eII (fun a b => arcV (rfitM a b)))]
theorem book_rsubM_gives_ok : BookOk Tryz.prog book_rsubM_gives := (bookOk_cons (eII_ok rfitM_gives) bookOk_nil)
theorem rsubM_gives_tree (a b c d : Int) : evF Tryz.prog Es Cs book_rsubM_gives 20 6 81 ([.agg ⟨[.int .i64 a, .int .i64 b]⟩, .agg ⟨[.int .i64 c, .int .i64 d]⟩].map AV.v) [] [] last =
  lt (rfitM (IntKind.i64.wrap (a - d)) (IntKind.i64.wrap (b - c))) fun x1 =>
  some (.v (.tuple ⟨[.agg ⟨[.int .i64 x1.1, .int .i64 x1.2.1]⟩, .int .i64 x1.2.2]⟩)) := by kernel_rfl
theorem rsubM_gives (a b c d : Int) : Gives Tryz.prog 81 [.agg ⟨[.int .i64 a, .int .i64 b]⟩, .agg ⟨[.int .i64 c, .int .i64 d]⟩] (arcV (rsubM a b c d)) := by
  refine evF_gives (E := Es) mixed Es_ok Cs_ok book_rsubM_gives_ok (lim := 20) (d := 6) (nm := []) ?_
  rw [rsubM_gives_tree a b c d]
  unfold rsubM
  refine case_lt (fun (r : Int × Int × Int) => AV.v (arcV (r))) fun x1 => ?_
  rfl
noncomputable def rmulM (a b c d : Int) : Int × Int × Int :=
  cond (decide ((Int.tmod (rlstM (rlstM (IntKind.i64.wrap (a * c)) (IntKind.i64.wrap (a * d))) (rlstM (IntKind.i64.wrap (b * c)) (IntKind.i64.wrap (b * d)))) 1073741824) < 0))
  (cond (decide ((Int.tmod (IntKind.i64.wrap (0 - (rmstM (rmstM (IntKind.i64.wrap (a * c)) (IntKind.i64.wrap (a * d))) (rmstM (IntKind.i64.wrap (b * c)) (IntKind.i64.wrap (b * d)))))) 1073741824) < 0))
   (lt (rfitM (IntKind.i64.wrap ((IntKind.i64.wrap (Int.tdiv (rlstM (rlstM (IntKind.i64.wrap (a * c)) (IntKind.i64.wrap (a * d))) (rlstM (IntKind.i64.wrap (b * c)) (IntKind.i64.wrap (b * d)))) 1073741824)) - 1)) (IntKind.i64.wrap (0 - (IntKind.i64.wrap ((IntKind.i64.wrap (Int.tdiv (IntKind.i64.wrap (0 - (rmstM (rmstM (IntKind.i64.wrap (a * c)) (IntKind.i64.wrap (a * d))) (rmstM (IntKind.i64.wrap (b * c)) (IntKind.i64.wrap (b * d)))))) 1073741824)) - 1))))) fun x1 =>
    (x1.1, x1.2.1, x1.2.2))
   (lt (rfitM (IntKind.i64.wrap ((IntKind.i64.wrap (Int.tdiv (rlstM (rlstM (IntKind.i64.wrap (a * c)) (IntKind.i64.wrap (a * d))) (rlstM (IntKind.i64.wrap (b * c)) (IntKind.i64.wrap (b * d)))) 1073741824)) - 1)) (IntKind.i64.wrap (0 - (IntKind.i64.wrap (Int.tdiv (IntKind.i64.wrap (0 - (rmstM (rmstM (IntKind.i64.wrap (a * c)) (IntKind.i64.wrap (a * d))) (rmstM (IntKind.i64.wrap (b * c)) (IntKind.i64.wrap (b * d)))))) 1073741824))))) fun x2 =>
    (x2.1, x2.2.1, x2.2.2)))
  (cond (decide ((Int.tmod (IntKind.i64.wrap (0 - (rmstM (rmstM (IntKind.i64.wrap (a * c)) (IntKind.i64.wrap (a * d))) (rmstM (IntKind.i64.wrap (b * c)) (IntKind.i64.wrap (b * d)))))) 1073741824) < 0))
   (lt (rfitM (IntKind.i64.wrap (Int.tdiv (rlstM (rlstM (IntKind.i64.wrap (a * c)) (IntKind.i64.wrap (a * d))) (rlstM (IntKind.i64.wrap (b * c)) (IntKind.i64.wrap (b * d)))) 1073741824)) (IntKind.i64.wrap (0 - (IntKind.i64.wrap ((IntKind.i64.wrap (Int.tdiv (IntKind.i64.wrap (0 - (rmstM (rmstM (IntKind.i64.wrap (a * c)) (IntKind.i64.wrap (a * d))) (rmstM (IntKind.i64.wrap (b * c)) (IntKind.i64.wrap (b * d)))))) 1073741824)) - 1))))) fun x3 =>
    (x3.1, x3.2.1, x3.2.2))
   (lt (rfitM (IntKind.i64.wrap (Int.tdiv (rlstM (rlstM (IntKind.i64.wrap (a * c)) (IntKind.i64.wrap (a * d))) (rlstM (IntKind.i64.wrap (b * c)) (IntKind.i64.wrap (b * d)))) 1073741824)) (IntKind.i64.wrap (0 - (IntKind.i64.wrap (Int.tdiv (IntKind.i64.wrap (0 - (rmstM (rmstM (IntKind.i64.wrap (a * c)) (IntKind.i64.wrap (a * d))) (rmstM (IntKind.i64.wrap (b * c)) (IntKind.i64.wrap (b * d)))))) 1073741824))))) fun x4 =>
    (x4.1, x4.2.1, x4.2.2)))
noncomputable def book_rmulM_gives : Book := [(73, eII (fun a b => .int .i64 (rlstM a b))), (74, eII (fun a b => .int .i64 (rmstM a b))), (75, eII (fun a b => arcV (rfitM a b)))]
theorem book_rmulM_gives_ok : BookOk Tryz.prog book_rmulM_gives := (bookOk_cons (eII_ok rlstM_gives) (bookOk_cons (eII_ok rmstM_gives) (bookOk_cons (eII_ok rfitM_gives) bookOk_nil)))
theorem rmulM_gives_tree (a b c d : Int) : evF Tryz.prog Es Cs book_rmulM_gives 20 6 55 ([.agg ⟨[.int .i64 a, .int .i64 b]⟩, .agg ⟨[.int .i64 c, .int .i64 d]⟩].map AV.v) [] [] last =
  cond (decide ((Int.tmod (rlstM (rlstM (IntKind.i64.wrap (a * c)) (IntKind.i64.wrap (a * d))) (rlstM (IntKind.i64.wrap (b * c)) (IntKind.i64.wrap (b * d)))) 1073741824) < 0))
  (cond (decide ((Int.tmod (IntKind.i64.wrap (0 - (rmstM (rmstM (IntKind.i64.wrap (a * c)) (IntKind.i64.wrap (a * d))) (rmstM (IntKind.i64.wrap (b * c)) (IntKind.i64.wrap (b * d)))))) 1073741824) < 0))
   (lt (rfitM (IntKind.i64.wrap ((IntKind.i64.wrap (Int.tdiv (rlstM (rlstM (IntKind.i64.wrap (a * c)) (IntKind.i64.wrap (a * d))) (rlstM (IntKind.i64.wrap (b * c)) (IntKind.i64.wrap (b * d)))) 1073741824)) - 1)) (IntKind.i64.wrap (0 - (IntKind.i64.wrap ((IntKind.i64.wrap (Int.tdiv (IntKind.i64.wrap (0 - (rmstM (rmstM (IntKind.i64.wrap (a * c)) (IntKind.i64.wrap (a * d))) (rmstM (IntKind.i64.wrap (b * c)) (IntKind.i64.wrap (b * d)))))) 1073741824)) - 1))))) fun x1 =>
    some (.v (.tuple ⟨[.agg ⟨[.int .i64 x1.1, .int .i64 x1.2.1]⟩, .int .i64 x1.2.2]⟩)))
   (lt (rfitM (IntKind.i64.wrap ((IntKind.i64.wrap (Int.tdiv (rlstM (rlstM (IntKind.i64.wrap (a * c)) (IntKind.i64.wrap (a * d))) (rlstM (IntKind.i64.wrap (b * c)) (IntKind.i64.wrap (b * d)))) 1073741824)) - 1)) (IntKind.i64.wrap (0 - (IntKind.i64.wrap (Int.tdiv (IntKind.i64.wrap (0 - (rmstM (rmstM (IntKind.i64.wrap (a * c)) (IntKind.i64.wrap (a * d))) (rmstM (IntKind.i64.wrap (b * c)) (IntKind.i64.wrap (b * d)))))) 1073741824))))) fun x2 =>
    some (.v (.tuple ⟨[.agg ⟨[.int .i64 x2.1, .int .i64 x2.2.1]⟩, .int .i64 x2.2.2]⟩))))
  (cond (decide ((Int.tmod (IntKind.i64.wrap (0 - (rmstM (rmstM (IntKind.i64.wrap (a * c)) (IntKind.i64.wrap (a * d))) (rmstM (IntKind.i64.wrap (b * c)) (IntKind.i64.wrap (b * d)))))) 1073741824) < 0))
   (lt (rfitM (IntKind.i64.wrap (Int.tdiv (rlstM (rlstM (IntKind.i64.wrap (a * c)) (IntKind.i64.wrap (a * d))) (rlstM (IntKind.i64.wrap (b * c)) (IntKind.i64.wrap (b * d)))) 1073741824)) (IntKind.i64.wrap (0 - (IntKind.i64.wrap ((IntKind.i64.wrap (Int.tdiv (IntKind.i64.wrap (0 - (rmstM (rmstM (IntKind.i64.wrap (a * c)) (IntKind.i64.wrap (a * d))) (rmstM (IntKind.i64.wrap (b * c)) (IntKind.i64.wrap (b * d)))))) 1073741824)) - 1))))) fun x3 =>
    some (.v (.tuple ⟨[.agg ⟨[.int .i64 x3.1, .int .i64 x3.2.1]⟩, .int .i64 x3.2.2]⟩)))
   (lt (rfitM (IntKind.i64.wrap (Int.tdiv (rlstM (rlstM (IntKind.i64.wrap (a * c)) (IntKind.i64.wrap (a * d))) (rlstM (IntKind.i64.wrap (b * c)) (IntKind.i64.wrap (b * d)))) 1073741824)) (IntKind.i64.wrap (0 - (IntKind.i64.wrap (Int.tdiv (IntKind.i64.wrap (0 - (rmstM (rmstM (IntKind.i64.wrap (a * c)) (IntKind.i64.wrap (a * d))) (rmstM (IntKind.i64.wrap (b * c)) (IntKind.i64.wrap (b * d)))))) 1073741824))))) fun x4 =>
    some (.v (.tuple ⟨[.agg ⟨[.int .i64 x4.1, .int .i64 x4.2.1]⟩, .int .i64 x4.2.2]⟩)))) := by kernel_rfl
theorem rmulM_gives (a b c d : Int) : Gives Tryz.prog 55 [.agg ⟨[.int .i64 a, .int .i64 b]⟩, .agg ⟨[.int .i64 c, .int .i64 d]⟩] (arcV (rmulM a b c d)) := by
  refine evF_gives (E := Es) mixed Es_ok Cs_ok book_rmulM_gives_ok (lim := 20) (d := 6) (nm := []) ?_
  rw [rmulM_gives_tree a b c d]
  unfold rmulM
  refine case_cond (fun (r : Int × Int × Int) => AV.v (arcV (r))) ?_ ?_
  · refine case_cond (fun (r : Int × Int × Int) => AV.v (arcV (r))) ?_ ?_
    · refine case_lt (fun (r : Int × Int × Int) => AV.v (arcV (r))) fun x1 => ?_
      rfl
    · refine case_lt (fun (r : Int × Int × Int) => AV.v (arcV (r))) fun x2 => ?_
      rfl
  · refine case_cond (fun (r : Int × Int × Int) => AV.v (arcV (r))) ?_ ?_
    · refine case_lt (fun (r : Int × Int × Int) => AV.v (arcV (r))) fun x3 => ?_
      rfl
    · refine case_lt (fun (r : Int × Int × Int) => AV.v (arcV (r))) fun x4 => ?_
      rfl
noncomputable def rtrnM (a b c d : Int) : Int × Int × Int × Int :=
  cond (decide (c < 0))
  (lt (rnegM a b) fun x1 =>
   lt (rnegM c d) fun x2 =>
   (x1.1, x1.2, x2.1, x2.2))
  ((a, b, c, d))
noncomputable def book_rtrnM_gives : Book := [(102, eP (fun a b => pairV (rnegM a b).1 (rnegM a b).2))]
theorem book_rtrnM_gives_ok : BookOk Tryz.prog book_rtrnM_gives := (bookOk_cons (eP_ok rnegM_gives) bookOk_nil)
theorem rtrnM_gives_tree (a b c d : Int) : evF Tryz.prog Es Cs book_rtrnM_gives 20 6 83 ([.agg ⟨[.int .i64 a, .int .i64 b]⟩, .agg ⟨[.int .i64 c, .int .i64 d]⟩].map AV.v) [] [] last =
  cond (decide (c < 0))
  (lt (rnegM a b) fun x1 =>
   lt (rnegM c d) fun x2 =>
   some (.v (.tuple ⟨[.agg ⟨[.int .i64 x1.1, .int .i64 x1.2]⟩, .agg ⟨[.int .i64 x2.1, .int .i64 x2.2]⟩]⟩)))
  (some (.v (.tuple ⟨[.agg ⟨[.int .i64 a, .int .i64 b]⟩, .agg ⟨[.int .i64 c, .int .i64 d]⟩]⟩))) := by kernel_rfl
theorem rtrnM_gives (a b c d : Int) : Gives Tryz.prog 83 [.agg ⟨[.int .i64 a, .int .i64 b]⟩, .agg ⟨[.int .i64 c, .int .i64 d]⟩] (pairsV (rtrnM a b c d)) := by
  refine evF_gives (E := Es) mixed Es_ok Cs_ok book_rtrnM_gives_ok (lim := 20) (d := 6) (nm := []) ?_
  rw [rtrnM_gives_tree a b c d]
  unfold rtrnM
  refine case_cond (fun (r : Int × Int × Int × Int) => AV.v (pairsV (r))) ?_ ?_
  · refine case_lt (fun (r : Int × Int × Int × Int) => AV.v (pairsV (r))) fun x1 => ?_
    refine case_lt (fun (r : Int × Int × Int × Int) => AV.v (pairsV (r))) fun x2 => ?_
    rfl
  · rfl
noncomputable def timesM (a b c d : Int) : Int × Int :=
  lt (rmulM a b c d) fun x1 =>
  (x1.1, x1.2.1)
noncomputable def book_timesM_gives : Book := [(55, ePP (fun a b c d => arcV (rmulM a b c d)))]
theorem book_timesM_gives_ok : BookOk Tryz.prog book_timesM_gives := (bookOk_cons (ePP_ok rmulM_gives) bookOk_nil)
theorem timesM_gives_tree (a b c d : Int) : evF Tryz.prog Es Cs book_timesM_gives 20 6 29 ([.agg ⟨[.int .i64 a, .int .i64 b]⟩, .agg ⟨[.int .i64 c, .int .i64 d]⟩].map AV.v) [] [] last =
  lt (rmulM a b c d) fun x1 =>
  some (.v (.agg ⟨[.int .i64 x1.1, .int .i64 x1.2.1]⟩)) := by kernel_rfl
theorem timesM_gives (a b c d : Int) : Gives Tryz.prog 29 [.agg ⟨[.int .i64 a, .int .i64 b]⟩, .agg ⟨[.int .i64 c, .int .i64 d]⟩] (pairV (timesM a b c d).1 (timesM a b c d).2) := by
  refine evF_gives (E := Es) mixed Es_ok Cs_ok book_timesM_gives_ok (lim := 20) (d := 6) (nm := []) ?_
  rw [timesM_gives_tree a b c d]
  unfold timesM
  refine case_lt (fun (r : Int × Int) => AV.v (pairV (r).1 (r).2)) fun x1 => ?_
  rfl
noncomputable def plusM (a b c d : Int) : Int × Int :=
  lt (raddM a b c d) fun x1 =>
  (x1.1, x1.2.1)
noncomputable def book_plusM_gives : Book := [(59, ePP (fun a b c d => arcV (raddM a b c d)))]
theorem book_plusM_gives_ok : BookOk Tryz.prog book_plusM_gives := (bookOk_cons (ePP_ok raddM_gives) bookOk_nil)
theorem plusM_gives_tree (a b c d : Int) : evF Tryz.prog Es Cs book_plusM_gives 20 6 32 ([.agg ⟨[.int .i64 a, .int .i64 b]⟩, .agg ⟨[.int .i64 c, .int .i64 d]⟩].map AV.v) [] [] last =
  lt (raddM a b c d) fun x1 =>
  some (.v (.agg ⟨[.int .i64 x1.1, .int .i64 x1.2.1]⟩)) := by kernel_rfl
theorem plusM_gives (a b c d : Int) : Gives Tryz.prog 32 [.agg ⟨[.int .i64 a, .int .i64 b]⟩, .agg ⟨[.int .i64 c, .int .i64 d]⟩] (pairV (plusM a b c d).1 (plusM a b c d).2) := by
  refine evF_gives (E := Es) mixed Es_ok Cs_ok book_plusM_gives_ok (lim := 20) (d := 6) (nm := []) ?_
  rw [plusM_gives_tree a b c d]
  unfold plusM
  refine case_lt (fun (r : Int × Int) => AV.v (pairV (r).1 (r).2)) fun x1 => ?_
  rfl
noncomputable def minusM (a b c d : Int) : Int × Int :=
  lt (rsubM a b c d) fun x1 =>
  (x1.1, x1.2.1)
noncomputable def book_minusM_gives : Book := [(81, ePP (fun a b c d => arcV (rsubM a b c d)))]
theorem book_minusM_gives_ok : BookOk Tryz.prog book_minusM_gives := (bookOk_cons (ePP_ok rsubM_gives) bookOk_nil)
theorem minusM_gives_tree (a b c d : Int) : evF Tryz.prog Es Cs book_minusM_gives 20 6 63 ([.agg ⟨[.int .i64 a, .int .i64 b]⟩, .agg ⟨[.int .i64 c, .int .i64 d]⟩].map AV.v) [] [] last =
  lt (rsubM a b c d) fun x1 =>
  some (.v (.agg ⟨[.int .i64 x1.1, .int .i64 x1.2.1]⟩)) := by kernel_rfl
theorem minusM_gives (a b c d : Int) : Gives Tryz.prog 63 [.agg ⟨[.int .i64 a, .int .i64 b]⟩, .agg ⟨[.int .i64 c, .int .i64 d]⟩] (pairV (minusM a b c d).1 (minusM a b c d).2) := by
  refine evF_gives (E := Es) mixed Es_ok Cs_ok book_minusM_gives_ok (lim := 20) (d := 6) (nm := []) ?_
  rw [minusM_gives_tree a b c d]
  unfold minusM
  refine case_lt (fun (r : Int × Int) => AV.v (pairV (r).1 (r).2)) fun x1 => ?_
  rfl
noncomputable def rvalM (a b : Int) : Bool :=
  cond (decide (a ≤ b))
  (cond (decide (a ≥ (-1099511627776)))
   ((decide (b ≤ 1099511627776)))
   (false))
  (false)
noncomputable def book_rvalM_gives : Book := []
theorem book_rvalM_gives_ok : BookOk Tryz.prog book_rvalM_gives := bookOk_nil
theorem rvalM_gives_tree (a b : Int) : evF Tryz.prog Es Cs book_rvalM_gives 20 6 26 ([.agg ⟨[.int .i64 a, .int .i64 b]⟩].map AV.v) [] [] last =
  cond (decide (a ≤ b))
  (cond (decide (a ≥ (-1099511627776)))
   (some (.v (.bool (decide (b ≤ 1099511627776)))))
   (some (.v (.bool false))))
  (some (.v (.bool false))) := by kernel_rfl
theorem rvalM_gives (a b : Int) : Gives Tryz.prog 26 [.agg ⟨[.int .i64 a, .int .i64 b]⟩] (.bool (rvalM a b)) := by
  refine evF_gives (E := Es) mixed Es_ok Cs_ok book_rvalM_gives_ok (lim := 20) (d := 6) (nm := []) ?_
  rw [rvalM_gives_tree a b]
  unfold rvalM
  refine case_cond (fun (r : Bool) => AV.v (.bool (r))) ?_ ?_
  · refine case_cond (fun (r : Bool) => AV.v (.bool (r))) ?_ ?_
    · rfl
    · rfl
  · rfl
noncomputable def rasubM (a b c d : Int) : Int × Int :=
  (IntKind.i64.wrap (a - d), IntKind.i64.wrap (b - c))
noncomputable def book_rasubM_gives : Book := []
theorem book_rasubM_gives_ok : BookOk Tryz.prog book_rasubM_gives := bookOk_nil
theorem rasubM_gives_tree (a b c d : Int) : evF Tryz.prog Es Cs book_rasubM_gives 20 6 28 ([.agg ⟨[.int .i64 a, .int .i64 b]⟩, .agg ⟨[.int .i64 c, .int .i64 d]⟩].map AV.v) [] [] last =
  some (.v (.agg ⟨[.int .i64 (IntKind.i64.wrap (a - d)), .int .i64 (IntKind.i64.wrap (b - c))]⟩)) := by kernel_rfl
theorem rasubM_gives (a b c d : Int) : Gives Tryz.prog 28 [.agg ⟨[.int .i64 a, .int .i64 b]⟩, .agg ⟨[.int .i64 c, .int .i64 d]⟩] (pairV (rasubM a b c d).1 (rasubM a b c d).2) := by
  refine evF_gives (E := Es) mixed Es_ok Cs_ok book_rasubM_gives_ok (lim := 20) (d := 6) (nm := []) ?_
  rw [rasubM_gives_tree a b c d]
  rfl
noncomputable def rwrapM (a : Int) : Int :=
  cond (decide ((Int.tmod a 21600000) < 0))
  (IntKind.i64.wrap ((Int.tmod a 21600000) + 21600000))
  ((Int.tmod a 21600000))
noncomputable def book_rwrapM_gives : Book := []
theorem book_rwrapM_gives_ok : BookOk Tryz.prog book_rwrapM_gives := bookOk_nil
theorem rwrapM_gives_tree (a : Int) : evF Tryz.prog Es Cs book_rwrapM_gives 20 6 84 ([.int .i64 a].map AV.v) [] [] last =
  cond (decide ((Int.tmod a 21600000) < 0))
  (some (.v (.int .i64 (IntKind.i64.wrap ((Int.tmod a 21600000) + 21600000)))))
  (some (.v (.int .i64 (Int.tmod a 21600000)))) := by kernel_rfl
theorem rwrapM_gives (a : Int) : Gives Tryz.prog 84 [.int .i64 a] (.int .i64 (rwrapM a)) := by
  refine evF_gives (E := Es) mixed Es_ok Cs_ok book_rwrapM_gives_ok (lim := 20) (d := 6) (nm := []) ?_
  rw [rwrapM_gives_tree a]
  unfold rwrapM
  refine case_cond (fun (r : Int) => AV.v (.int .i64 (r))) ?_ ?_
  · rfl
  · rfl
noncomputable def rturnM (a b : Int) : Int × Int :=
  cond (decide (IntKind.i64.wrap (b - a) ≥ 21600000))
  ((0, 21600000))
  (((rwrapM a), IntKind.i64.wrap ((rwrapM a) + (IntKind.i64.wrap (b - a)))))
noncomputable def book_rturnM_gives : Book := [(84, eI (fun a => .int .i64 (rwrapM a)))]
theorem book_rturnM_gives_ok : BookOk Tryz.prog book_rturnM_gives := (bookOk_cons (eI_ok rwrapM_gives) bookOk_nil)
theorem rturnM_gives_tree (a b : Int) : evF Tryz.prog Es Cs book_rturnM_gives 20 6 65 ([.agg ⟨[.int .i64 a, .int .i64 b]⟩].map AV.v) [] [] last =
  cond (decide (IntKind.i64.wrap (b - a) ≥ 21600000))
  (some (.v (.agg ⟨[.int .i64 0, .int .i64 21600000]⟩)))
  (some (.v (.agg ⟨[.int .i64 (rwrapM a), .int .i64 (IntKind.i64.wrap ((rwrapM a) + (IntKind.i64.wrap (b - a))))]⟩))) := by kernel_rfl
theorem rturnM_gives (a b : Int) : Gives Tryz.prog 65 [.agg ⟨[.int .i64 a, .int .i64 b]⟩] (pairV (rturnM a b).1 (rturnM a b).2) := by
  refine evF_gives (E := Es) mixed Es_ok Cs_ok book_rturnM_gives_ok (lim := 20) (d := 6) (nm := []) ?_
  rw [rturnM_gives_tree a b]
  unfold rturnM
  refine case_cond (fun (r : Int × Int) => AV.v (pairV (r).1 (r).2)) ?_ ?_
  · rfl
  · rfl
noncomputable def rlatM (a b : Int) : Bool :=
  cond (decide (a ≤ b))
  (cond (decide (a ≥ (-5400000)))
   ((decide (b ≤ 5400000)))
   (false))
  (false)
noncomputable def book_rlatM_gives : Book := []
theorem book_rlatM_gives_ok : BookOk Tryz.prog book_rlatM_gives := bookOk_nil
theorem rlatM_gives_tree (a b : Int) : evF Tryz.prog Es Cs book_rlatM_gives 20 6 25 ([.agg ⟨[.int .i64 a, .int .i64 b]⟩].map AV.v) [] [] last =
  cond (decide (a ≤ b))
  (cond (decide (a ≥ (-5400000)))
   (some (.v (.bool (decide (b ≤ 5400000)))))
   (some (.v (.bool false))))
  (some (.v (.bool false))) := by kernel_rfl
theorem rlatM_gives (a b : Int) : Gives Tryz.prog 25 [.agg ⟨[.int .i64 a, .int .i64 b]⟩] (.bool (rlatM a b)) := by
  refine evF_gives (E := Es) mixed Es_ok Cs_ok book_rlatM_gives_ok (lim := 20) (d := 6) (nm := []) ?_
  rw [rlatM_gives_tree a b]
  unfold rlatM
  refine case_cond (fun (r : Bool) => AV.v (.bool (r))) ?_ ?_
  · refine case_cond (fun (r : Bool) => AV.v (.bool (r))) ?_ ?_
    · rfl
    · rfl
  · rfl
noncomputable def rtriM (a b c d e f : Int) : Bool :=
  cond (rlatM a b)
  (cond (rlatM c d)
   ((rvalM e f))
   (false))
  (false)
noncomputable def book_rtriM_gives : Book := [(25, eP (fun a b => .bool (rlatM a b))), (26, eP (fun a b => .bool (rvalM a b)))]
theorem book_rtriM_gives_ok : BookOk Tryz.prog book_rtriM_gives := (bookOk_cons (eP_ok rlatM_gives) (bookOk_cons (eP_ok rvalM_gives) bookOk_nil))
theorem rtriM_gives_tree (a b c d e f : Int) : evF Tryz.prog Es Cs book_rtriM_gives 20 6 8 ([.agg ⟨[.int .i64 a, .int .i64 b, .int .i64 c, .int .i64 d, .int .i64 e, .int .i64 f]⟩].map AV.v) [] [] last =
  cond (rlatM a b)
  (cond (rlatM c d)
   (some (.v (.bool (rvalM e f))))
   (some (.v (.bool false))))
  (some (.v (.bool false))) := by kernel_rfl
theorem rtriM_gives (a b c d e f : Int) : Gives Tryz.prog 8 [.agg ⟨[.int .i64 a, .int .i64 b, .int .i64 c, .int .i64 d, .int .i64 e, .int .i64 f]⟩] (.bool (rtriM a b c d e f)) := by
  refine evF_gives (E := Es) mixed Es_ok Cs_ok book_rtriM_gives_ok (lim := 20) (d := 6) (nm := []) ?_
  rw [rtriM_gives_tree a b c d e f]
  unfold rtriM
  refine case_cond (fun (r : Bool) => AV.v (.bool (r))) ?_ ?_
  · refine case_cond (fun (r : Bool) => AV.v (.bool (r))) ?_ ?_
    · rfl
    · rfl
  · rfl
noncomputable def qtrM (a b : Int) : Int × Int :=
  (IntKind.i64.wrap (5400000 - b), IntKind.i64.wrap (5400000 - a))
noncomputable def book_qtrM_gives : Book := []
theorem book_qtrM_gives_ok : BookOk Tryz.prog book_qtrM_gives := bookOk_nil
theorem qtrM_gives_tree (a b : Int) : evF Tryz.prog Es Cs book_qtrM_gives 20 6 38 ([.agg ⟨[.int .i64 a, .int .i64 b]⟩].map AV.v) [] [] last =
  some (.v (.agg ⟨[.int .i64 (IntKind.i64.wrap (5400000 - b)), .int .i64 (IntKind.i64.wrap (5400000 - a))]⟩)) := by kernel_rfl
theorem qtrM_gives (a b : Int) : Gives Tryz.prog 38 [.agg ⟨[.int .i64 a, .int .i64 b]⟩] (pairV (qtrM a b).1 (qtrM a b).2) := by
  refine evF_gives (E := Es) mixed Es_ok Cs_ok book_qtrM_gives_ok (lim := 20) (d := 6) (nm := []) ?_
  rw [qtrM_gives_tree a b]
  rfl
noncomputable def distM (a b : Int) : Bool :=
  cond (rvalM a b)
  (cond (decide (a ≥ 0))
   ((decide (b ≤ 10800000)))
   (false))
  (false)
noncomputable def book_distM_gives : Book := [(26, eP (fun a b => .bool (rvalM a b)))]
theorem book_distM_gives_ok : BookOk Tryz.prog book_distM_gives := (bookOk_cons (eP_ok rvalM_gives) bookOk_nil)
theorem distM_gives_tree (a b : Int) : evF Tryz.prog Es Cs book_distM_gives 20 6 11 ([.agg ⟨[.int .i64 a, .int .i64 b]⟩].map AV.v) [] [] last =
  cond (rvalM a b)
  (cond (decide (a ≥ 0))
   (some (.v (.bool (decide (b ≤ 10800000)))))
   (some (.v (.bool false))))
  (some (.v (.bool false))) := by kernel_rfl
theorem distM_gives (a b : Int) : Gives Tryz.prog 11 [.agg ⟨[.int .i64 a, .int .i64 b]⟩] (.bool (distM a b)) := by
  refine evF_gives (E := Es) mixed Es_ok Cs_ok book_distM_gives_ok (lim := 20) (d := 6) (nm := []) ?_
  rw [distM_gives_tree a b]
  unfold distM
  refine case_cond (fun (r : Bool) => AV.v (.bool (r))) ?_ ?_
  · refine case_cond (fun (r : Bool) => AV.v (.bool (r))) ?_ ?_
    · rfl
    · rfl
  · rfl
noncomputable def trndM (a b c d : Int) : Int × Int :=
  lt (rturnM c d) fun x1 =>
  cond (decide (x1.1 ≥ 10800000))
  (cond (decide (x1.2 ≤ 21600000))
   ((a, b))
   (cond (decide (x1.2 ≤ 10800000))
    (lt (rturnM (IntKind.i64.wrap (21600000 - b)) (IntKind.i64.wrap (21600000 - a))) fun x2 =>
     (x2.1, x2.2))
    (cond (decide (IntKind.i64.wrap (a + b) > 10800000))
     ((a, IntKind.i64.wrap (21600000 - a)))
     (lt (rturnM (IntKind.i64.wrap (0 - b)) b) fun x3 =>
      (x3.1, x3.2)))))
  (cond (decide (x1.2 ≤ 10800000))
   (lt (rturnM (IntKind.i64.wrap (21600000 - b)) (IntKind.i64.wrap (21600000 - a))) fun x4 =>
    (x4.1, x4.2))
   (cond (decide (IntKind.i64.wrap (a + b) > 10800000))
    ((a, IntKind.i64.wrap (21600000 - a)))
    (lt (rturnM (IntKind.i64.wrap (0 - b)) b) fun x5 =>
     (x5.1, x5.2))))
noncomputable def book_trndM_gives : Book := [(65, eP (fun a b => pairV (rturnM a b).1 (rturnM a b).2))]
theorem book_trndM_gives_ok : BookOk Tryz.prog book_trndM_gives := (bookOk_cons (eP_ok rturnM_gives) bookOk_nil)
theorem trndM_gives_tree (a b c d : Int) : evF Tryz.prog Es Cs book_trndM_gives 20 6 36 ([.agg ⟨[.int .i64 a, .int .i64 b]⟩, .agg ⟨[.int .i64 c, .int .i64 d]⟩].map AV.v) [] [] last =
  lt (rturnM c d) fun x1 =>
  cond (decide (x1.1 ≥ 10800000))
  (cond (decide (x1.2 ≤ 21600000))
   (some (.v (.agg ⟨[.int .i64 a, .int .i64 b]⟩)))
   (cond (decide (x1.2 ≤ 10800000))
    (lt (rturnM (IntKind.i64.wrap (21600000 - b)) (IntKind.i64.wrap (21600000 - a))) fun x2 =>
     some (.v (.agg ⟨[.int .i64 x2.1, .int .i64 x2.2]⟩)))
    (cond (decide (IntKind.i64.wrap (a + b) > 10800000))
     (some (.v (.agg ⟨[.int .i64 a, .int .i64 (IntKind.i64.wrap (21600000 - a))]⟩)))
     (lt (rturnM (IntKind.i64.wrap (0 - b)) b) fun x3 =>
      some (.v (.agg ⟨[.int .i64 x3.1, .int .i64 x3.2]⟩))))))
  (cond (decide (x1.2 ≤ 10800000))
   (lt (rturnM (IntKind.i64.wrap (21600000 - b)) (IntKind.i64.wrap (21600000 - a))) fun x4 =>
    some (.v (.agg ⟨[.int .i64 x4.1, .int .i64 x4.2]⟩)))
   (cond (decide (IntKind.i64.wrap (a + b) > 10800000))
    (some (.v (.agg ⟨[.int .i64 a, .int .i64 (IntKind.i64.wrap (21600000 - a))]⟩)))
    (lt (rturnM (IntKind.i64.wrap (0 - b)) b) fun x5 =>
     some (.v (.agg ⟨[.int .i64 x5.1, .int .i64 x5.2]⟩))))) := by kernel_rfl
theorem trndM_gives (a b c d : Int) : Gives Tryz.prog 36 [.agg ⟨[.int .i64 a, .int .i64 b]⟩, .agg ⟨[.int .i64 c, .int .i64 d]⟩] (pairV (trndM a b c d).1 (trndM a b c d).2) := by
  refine evF_gives (E := Es) mixed Es_ok Cs_ok book_trndM_gives_ok (lim := 20) (d := 6) (nm := []) ?_
  rw [trndM_gives_tree a b c d]
  unfold trndM
  refine case_lt (fun (r : Int × Int) => AV.v (pairV (r).1 (r).2)) fun x1 => ?_
  refine case_cond (fun (r : Int × Int) => AV.v (pairV (r).1 (r).2)) ?_ ?_
  · refine case_cond (fun (r : Int × Int) => AV.v (pairV (r).1 (r).2)) ?_ ?_
    · rfl
    · refine case_cond (fun (r : Int × Int) => AV.v (pairV (r).1 (r).2)) ?_ ?_
      · refine case_lt (fun (r : Int × Int) => AV.v (pairV (r).1 (r).2)) fun x2 => ?_
        rfl
      · refine case_cond (fun (r : Int × Int) => AV.v (pairV (r).1 (r).2)) ?_ ?_
        · rfl
        · refine case_lt (fun (r : Int × Int) => AV.v (pairV (r).1 (r).2)) fun x3 => ?_
          rfl
  · refine case_cond (fun (r : Int × Int) => AV.v (pairV (r).1 (r).2)) ?_ ?_
    · refine case_lt (fun (r : Int × Int) => AV.v (pairV (r).1 (r).2)) fun x4 => ?_
      rfl
    · refine case_cond (fun (r : Int × Int) => AV.v (pairV (r).1 (r).2)) ?_ ?_
      · rfl
      · refine case_lt (fun (r : Int × Int) => AV.v (pairV (r).1 (r).2)) fun x5 => ?_
        rfl
noncomputable def rzenM (a b c d e f : Int) : Int × Int :=
  lt (rasubM a b c d) fun x1 =>
  lt (rhavM x1.1 x1.2) fun x2 =>
  lt (rcosM a b) fun x3 =>
  lt (rcosM c d) fun x4 =>
  lt (timesM x3.1 x3.2 x4.1 x4.2) fun x5 =>
  lt (rhavM e f) fun x6 =>
  lt (timesM x5.1 x5.2 x6.1 x6.2) fun x7 =>
  lt (plusM x2.1 x2.2 x7.1 x7.2) fun x8 =>
  lt (ahavR x8.1 x8.2) fun x9 =>
  (x9.1, x9.2.1)
noncomputable def book_rzenM_gives : Book := [(27, eP (fun a b => pairV (rhavM a b).1 (rhavM a b).2)), (28, ePP (fun a b c d => pairV (rasubM a b c d).1 (rasubM a b c d).2)), (29, ePP (fun a b c d => pairV (timesM a b c d).1 (timesM a b c d).2)), (30, eP (fun a b => pairV (rcosM a b).1 (rcosM a b).2)), (31, eP (fun a b => arcV (ahavR a b))), (32, ePP (fun a b c d => pairV (plusM a b c d).1 (plusM a b c d).2))]
theorem book_rzenM_gives_ok : BookOk Tryz.prog book_rzenM_gives := (bookOk_cons (eP_ok rhavM_gives) (bookOk_cons (ePP_ok rasubM_gives) (bookOk_cons (ePP_ok timesM_gives) (bookOk_cons (eP_ok rcosM_gives) (bookOk_cons (eP_ok rahav_r) (bookOk_cons (ePP_ok plusM_gives) bookOk_nil))))))
theorem rzenM_gives_tree (a b c d e f : Int) : evF Tryz.prog Es Cs book_rzenM_gives 20 6 9 ([.agg ⟨[.int .i64 a, .int .i64 b, .int .i64 c, .int .i64 d, .int .i64 e, .int .i64 f]⟩].map AV.v) [] [] last =
  lt (rasubM a b c d) fun x1 =>
  lt (rhavM x1.1 x1.2) fun x2 =>
  lt (rcosM a b) fun x3 =>
  lt (rcosM c d) fun x4 =>
  lt (timesM x3.1 x3.2 x4.1 x4.2) fun x5 =>
  lt (rhavM e f) fun x6 =>
  lt (timesM x5.1 x5.2 x6.1 x6.2) fun x7 =>
  lt (plusM x2.1 x2.2 x7.1 x7.2) fun x8 =>
  lt (ahavR x8.1 x8.2) fun x9 =>
  some (.v (.agg ⟨[.int .i64 x9.1, .int .i64 x9.2.1]⟩)) := by kernel_rfl
theorem rzenM_gives (a b c d e f : Int) : Gives Tryz.prog 9 [.agg ⟨[.int .i64 a, .int .i64 b, .int .i64 c, .int .i64 d, .int .i64 e, .int .i64 f]⟩] (pairV (rzenM a b c d e f).1 (rzenM a b c d e f).2) := by
  refine evF_gives (E := Es) mixed Es_ok Cs_ok book_rzenM_gives_ok (lim := 20) (d := 6) (nm := []) ?_
  rw [rzenM_gives_tree a b c d e f]
  unfold rzenM
  refine case_lt (fun (r : Int × Int) => AV.v (pairV (r).1 (r).2)) fun x1 => ?_
  refine case_lt (fun (r : Int × Int) => AV.v (pairV (r).1 (r).2)) fun x2 => ?_
  refine case_lt (fun (r : Int × Int) => AV.v (pairV (r).1 (r).2)) fun x3 => ?_
  refine case_lt (fun (r : Int × Int) => AV.v (pairV (r).1 (r).2)) fun x4 => ?_
  refine case_lt (fun (r : Int × Int) => AV.v (pairV (r).1 (r).2)) fun x5 => ?_
  refine case_lt (fun (r : Int × Int) => AV.v (pairV (r).1 (r).2)) fun x6 => ?_
  refine case_lt (fun (r : Int × Int) => AV.v (pairV (r).1 (r).2)) fun x7 => ?_
  refine case_lt (fun (r : Int × Int) => AV.v (pairV (r).1 (r).2)) fun x8 => ?_
  refine case_lt (fun (r : Int × Int) => AV.v (pairV (r).1 (r).2)) fun x9 => ?_
  rfl
end Go.Proofs.YtcjkfchjcealbaaGreat

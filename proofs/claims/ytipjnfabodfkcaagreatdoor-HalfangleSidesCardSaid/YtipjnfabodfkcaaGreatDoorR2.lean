/-
  The reference's operations: what each function gives. The reference's operations are the program's, where all is valid. Quarters and halves of arcs.
-/
import Derived.Test.YtipjnfabodfkcaaGreatDoorFf
import Derived.Test.YtipjnfabodfkcaaGreatDoorT50
import Derived.Test.YtipjnfabodfkcaaGreatDoorBg
import Derived.Test.YtipjnfabodfkcaaGreatDoorRr
import Derived.Test.YtipjnfabodfkcaaGreatDoorFp
namespace Go.Proofs.YtipjnfabodfkcaaGreatDoor
open Ev

open SM
def intBoolV (r : Int × Bool) : Value := .tuple ⟨[.int .i64 r.1, .bool r.2]⟩
def intsV (r : Int × Int) : Value := .tuple ⟨[.int .i64 r.1, .int .i64 r.2]⟩
def pairsV (r : Int × Int × Int × Int) : Value := .tuple ⟨[pairV r.1 r.2.1, pairV r.2.2.1 r.2.2.2]⟩
def rflR (n : Int) : Int × Bool := (lob n, exa (red n))
theorem rflR_gives (n : Int) : Gives Tryz.prog 124 [.int .i64 n] (intBoolV (rflR n)) := gives_of fun w => rfloor_any n w
noncomputable def rendsM (a : Int) : Int × Int :=
  lt (rflR a) fun x1 =>
  cond x1.2
  ((x1.1, x1.1))
  ((x1.1, IntKind.i64.wrap (x1.1 + 1)))
noncomputable def book_rendsM_gives : Book := [(124, eI (fun a => intBoolV (rflR a)))]
theorem book_rendsM_gives_ok : BookOk Tryz.prog book_rendsM_gives := (bookOk_cons (eI_ok rflR_gives) bookOk_nil)
theorem rendsM_gives_tree (a : Int) : evF Tryz.prog [] Cs book_rendsM_gives 20 6 120 ([.int .i64 a].map AV.v) [] [] last =
  lt (rflR a) fun x1 =>
  cond x1.2
  (some (.v (.tuple ⟨[.int .i64 x1.1, .int .i64 x1.1]⟩)))
  (some (.v (.tuple ⟨[.int .i64 x1.1, .int .i64 (IntKind.i64.wrap (x1.1 + 1))]⟩))) := by kernel_rfl
theorem rendsM_gives (a : Int) : Gives Tryz.prog 120 [.int .i64 a] (intsV (rendsM a)) := by
  refine evF_gives (E := []) mixed (by simp) Cs_ok book_rendsM_gives_ok (lim := 20) (d := 6) (nm := []) ?_
  rw [rendsM_gives_tree a]
  unfold rendsM
  refine case_lt (fun (r : Int × Int) => AV.v (intsV (r))) fun _ => ?_
  refine case_cond (fun (r : Int × Int) => AV.v (intsV (r))) ?_ ?_
  · rfl
  · rfl
noncomputable def rhasM (a b c : Int) : Bool :=
  cond (decide ((Int.tmod (IntKind.i64.wrap (c - a)) 21600000) < 0))
  ((decide (IntKind.i64.wrap (a + (IntKind.i64.wrap ((Int.tmod (IntKind.i64.wrap (c - a)) 21600000) + 21600000))) ≤ b)))
  ((decide (IntKind.i64.wrap (a + (Int.tmod (IntKind.i64.wrap (c - a)) 21600000)) ≤ b)))
noncomputable def book_rhasM_gives : Book := []
theorem book_rhasM_gives_ok : BookOk Tryz.prog book_rhasM_gives := bookOk_nil
theorem rhasM_gives_tree (a b c : Int) : evF Tryz.prog [] Cs book_rhasM_gives 20 6 103 ([.agg ⟨[.int .i64 a, .int .i64 b]⟩, .int .i64 c].map AV.v) [] [] last =
  cond (decide ((Int.tmod (IntKind.i64.wrap (c - a)) 21600000) < 0))
  (some (.v (.bool (decide (IntKind.i64.wrap (a + (IntKind.i64.wrap ((Int.tmod (IntKind.i64.wrap (c - a)) 21600000) + 21600000))) ≤ b)))))
  (some (.v (.bool (decide (IntKind.i64.wrap (a + (Int.tmod (IntKind.i64.wrap (c - a)) 21600000)) ≤ b))))) := by kernel_rfl
theorem rhasM_gives (a b c : Int) : Gives Tryz.prog 103 [.agg ⟨[.int .i64 a, .int .i64 b]⟩, .int .i64 c] (.bool (rhasM a b c)) := by
  refine evF_gives (E := []) mixed (by simp) Cs_ok book_rhasM_gives_ok (lim := 20) (d := 6) (nm := []) ?_
  rw [rhasM_gives_tree a b c]
  unfold rhasM
  refine case_cond (fun (r : Bool) => AV.v (.bool (r))) ?_ ?_
  · rfl
  · rfl
noncomputable def rsineM (a b : Int) : Int × Int :=
  lt (rendsM a) fun x1 =>
  lt (rendsM b) fun x2 =>
  cond (rhasM a b 5400000)
  (cond (rhasM a b (-5400000))
   (((-1073741824), 1073741824))
   (((mn x1.1 x2.1), 1073741824)))
  (cond (rhasM a b (-5400000))
   (((-1073741824), (mx x1.2 x2.2)))
   (((mn x1.1 x2.1), (mx x1.2 x2.2))))
noncomputable def book_rsineM_gives : Book := [(103, ePI (fun a b c => .bool (rhasM a b c))), (120, eI (fun a => intsV (rendsM a)))]
theorem book_rsineM_gives_ok : BookOk Tryz.prog book_rsineM_gives := (bookOk_cons (ePI_ok rhasM_gives) (bookOk_cons (eI_ok rendsM_gives) bookOk_nil))
theorem rsineM_gives_tree (a b : Int) : evF Tryz.prog [] Cs book_rsineM_gives 20 6 83 ([.agg ⟨[.int .i64 a, .int .i64 b]⟩].map AV.v) [] [] last =
  lt (rendsM a) fun x1 =>
  lt (rendsM b) fun x2 =>
  cond (rhasM a b 5400000)
  (cond (rhasM a b (-5400000))
   (some (.v (.agg ⟨[.int .i64 (-1073741824), .int .i64 1073741824]⟩)))
   (some (.v (.agg ⟨[.int .i64 (mn x1.1 x2.1), .int .i64 1073741824]⟩))))
  (cond (rhasM a b (-5400000))
   (some (.v (.agg ⟨[.int .i64 (-1073741824), .int .i64 (mx x1.2 x2.2)]⟩)))
   (some (.v (.agg ⟨[.int .i64 (mn x1.1 x2.1), .int .i64 (mx x1.2 x2.2)]⟩)))) := by kernel_rfl
theorem rsineM_gives (a b : Int) : Gives Tryz.prog 83 [.agg ⟨[.int .i64 a, .int .i64 b]⟩] (pairV (rsineM a b).1 (rsineM a b).2) := by
  refine evF_gives (E := []) mixed (by simp) Cs_ok book_rsineM_gives_ok (lim := 20) (d := 6) (nm := []) ?_
  rw [rsineM_gives_tree a b]
  unfold rsineM
  refine case_lt (fun (r : Int × Int) => AV.v (pairV (r).1 (r).2)) fun _ => ?_
  refine case_lt (fun (r : Int × Int) => AV.v (pairV (r).1 (r).2)) fun _ => ?_
  refine case_cond (fun (r : Int × Int) => AV.v (pairV (r).1 (r).2)) ?_ ?_
  · refine case_cond (fun (r : Int × Int) => AV.v (pairV (r).1 (r).2)) ?_ ?_
    · rfl
    · rfl
  · refine case_cond (fun (r : Int × Int) => AV.v (pairV (r).1 (r).2)) ?_ ?_
    · rfl
    · rfl
noncomputable def rsinM (a b : Int) : Int × Int :=
  lt (rsineM a b) fun x1 =>
  (x1.1, x1.2)
noncomputable def book_rsinM_gives : Book := [(83, eP (fun a b => pairV (rsineM a b).1 (rsineM a b).2))]
theorem book_rsinM_gives_ok : BookOk Tryz.prog book_rsinM_gives := (bookOk_cons (eP_ok rsineM_gives) bookOk_nil)
theorem rsinM_gives_tree (a b : Int) : evF Tryz.prog [] Cs book_rsinM_gives 20 6 44 ([.agg ⟨[.int .i64 a, .int .i64 b]⟩].map AV.v) [] [] last =
  lt (rsineM a b) fun x1 =>
  some (.v (.agg ⟨[.int .i64 x1.1, .int .i64 x1.2]⟩)) := by kernel_rfl
theorem rsinM_gives (a b : Int) : Gives Tryz.prog 44 [.agg ⟨[.int .i64 a, .int .i64 b]⟩] (pairV (rsinM a b).1 (rsinM a b).2) := by
  refine evF_gives (E := []) mixed (by simp) Cs_ok book_rsinM_gives_ok (lim := 20) (d := 6) (nm := []) ?_
  rw [rsinM_gives_tree a b]
  unfold rsinM
  refine case_lt (fun (r : Int × Int) => AV.v (pairV (r).1 (r).2)) fun _ => ?_
  rfl
noncomputable def rcosM (a b : Int) : Int × Int :=
  lt (rsineM (IntKind.i64.wrap (a + 5400000)) (IntKind.i64.wrap (b + 5400000))) fun x1 =>
  (x1.1, x1.2)
noncomputable def book_rcosM_gives : Book := [(83, eP (fun a b => pairV (rsineM a b).1 (rsineM a b).2))]
theorem book_rcosM_gives_ok : BookOk Tryz.prog book_rcosM_gives := (bookOk_cons (eP_ok rsineM_gives) bookOk_nil)
theorem rcosM_gives_tree (a b : Int) : evF Tryz.prog [] Cs book_rcosM_gives 20 6 43 ([.agg ⟨[.int .i64 a, .int .i64 b]⟩].map AV.v) [] [] last =
  lt (rsineM (IntKind.i64.wrap (a + 5400000)) (IntKind.i64.wrap (b + 5400000))) fun x1 =>
  some (.v (.agg ⟨[.int .i64 x1.1, .int .i64 x1.2]⟩)) := by kernel_rfl
theorem rcosM_gives (a b : Int) : Gives Tryz.prog 43 [.agg ⟨[.int .i64 a, .int .i64 b]⟩] (pairV (rcosM a b).1 (rcosM a b).2) := by
  refine evF_gives (E := []) mixed (by simp) Cs_ok book_rcosM_gives_ok (lim := 20) (d := 6) (nm := []) ?_
  rw [rcosM_gives_tree a b]
  unfold rcosM
  refine case_lt (fun (r : Int × Int) => AV.v (pairV (r).1 (r).2)) fun _ => ?_
  rfl
noncomputable def rhvM (a : Int) : Int × Int :=
  lt (rflR (IntKind.i64.wrap (a + 5400000))) fun x1 =>
  cond x1.2
  ((IntKind.i64.wrap (Int.tdiv (IntKind.i64.wrap (1073741824 - x1.1)) 2), IntKind.i64.wrap (Int.tdiv (IntKind.i64.wrap (1073741824 - x1.1)) 2)))
  ((IntKind.i64.wrap (Int.tdiv (IntKind.i64.wrap ((IntKind.i64.wrap (1073741824 - x1.1)) - 1)) 2), IntKind.i64.wrap ((IntKind.i64.wrap (Int.tdiv (IntKind.i64.wrap ((IntKind.i64.wrap (1073741824 - x1.1)) - 1)) 2)) + 1)))
noncomputable def book_rhvM_gives : Book := [(124, eI (fun a => intBoolV (rflR a)))]
theorem book_rhvM_gives_ok : BookOk Tryz.prog book_rhvM_gives := (bookOk_cons (eI_ok rflR_gives) bookOk_nil)
theorem rhvM_gives_tree (a : Int) : evF Tryz.prog [] Cs book_rhvM_gives 20 6 102 ([.int .i64 a].map AV.v) [] [] last =
  lt (rflR (IntKind.i64.wrap (a + 5400000))) fun x1 =>
  cond x1.2
  (some (.v (.tuple ⟨[.int .i64 (IntKind.i64.wrap (Int.tdiv (IntKind.i64.wrap (1073741824 - x1.1)) 2)), .int .i64 (IntKind.i64.wrap (Int.tdiv (IntKind.i64.wrap (1073741824 - x1.1)) 2))]⟩)))
  (some (.v (.tuple ⟨[.int .i64 (IntKind.i64.wrap (Int.tdiv (IntKind.i64.wrap ((IntKind.i64.wrap (1073741824 - x1.1)) - 1)) 2)), .int .i64 (IntKind.i64.wrap ((IntKind.i64.wrap (Int.tdiv (IntKind.i64.wrap ((IntKind.i64.wrap (1073741824 - x1.1)) - 1)) 2)) + 1))]⟩))) := by kernel_rfl
theorem rhvM_gives (a : Int) : Gives Tryz.prog 102 [.int .i64 a] (intsV (rhvM a)) := by
  refine evF_gives (E := []) mixed (by simp) Cs_ok book_rhvM_gives_ok (lim := 20) (d := 6) (nm := []) ?_
  rw [rhvM_gives_tree a]
  unfold rhvM
  refine case_lt (fun (r : Int × Int) => AV.v (intsV (r))) fun _ => ?_
  refine case_cond (fun (r : Int × Int) => AV.v (intsV (r))) ?_ ?_
  · rfl
  · rfl
noncomputable def rhavM (a b : Int) : Int × Int :=
  lt (rhvM a) fun x1 =>
  lt (rhvM b) fun x2 =>
  cond (rhasM a b 10800000)
  (cond (rhasM a b 0)
   ((0, 1073741824))
   (((mn x1.1 x2.1), 1073741824)))
  (cond (rhasM a b 0)
   ((0, (mx x1.2 x2.2)))
   (((mn x1.1 x2.1), (mx x1.2 x2.2))))
noncomputable def book_rhavM_gives : Book := [(102, eI (fun a => intsV (rhvM a))), (103, ePI (fun a b c => .bool (rhasM a b c)))]
theorem book_rhavM_gives_ok : BookOk Tryz.prog book_rhavM_gives := (bookOk_cons (eI_ok rhvM_gives) (bookOk_cons (ePI_ok rhasM_gives) bookOk_nil))
theorem rhavM_gives_tree (a b : Int) : evF Tryz.prog [] Cs book_rhavM_gives 20 6 59 ([.agg ⟨[.int .i64 a, .int .i64 b]⟩].map AV.v) [] [] last =
  lt (rhvM a) fun x1 =>
  lt (rhvM b) fun x2 =>
  cond (rhasM a b 10800000)
  (cond (rhasM a b 0)
   (some (.v (.agg ⟨[.int .i64 0, .int .i64 1073741824]⟩)))
   (some (.v (.agg ⟨[.int .i64 (mn x1.1 x2.1), .int .i64 1073741824]⟩))))
  (cond (rhasM a b 0)
   (some (.v (.agg ⟨[.int .i64 0, .int .i64 (mx x1.2 x2.2)]⟩)))
   (some (.v (.agg ⟨[.int .i64 (mn x1.1 x2.1), .int .i64 (mx x1.2 x2.2)]⟩)))) := by kernel_rfl
theorem rhavM_gives (a b : Int) : Gives Tryz.prog 59 [.agg ⟨[.int .i64 a, .int .i64 b]⟩] (pairV (rhavM a b).1 (rhavM a b).2) := by
  refine evF_gives (E := []) mixed (by simp) Cs_ok book_rhavM_gives_ok (lim := 20) (d := 6) (nm := []) ?_
  rw [rhavM_gives_tree a b]
  unfold rhavM
  refine case_lt (fun (r : Int × Int) => AV.v (pairV (r).1 (r).2)) fun _ => ?_
  refine case_lt (fun (r : Int × Int) => AV.v (pairV (r).1 (r).2)) fun _ => ?_
  refine case_cond (fun (r : Int × Int) => AV.v (pairV (r).1 (r).2)) ?_ ?_
  · refine case_cond (fun (r : Int × Int) => AV.v (pairV (r).1 (r).2)) ?_ ?_
    · rfl
    · rfl
  · refine case_cond (fun (r : Int × Int) => AV.v (pairV (r).1 (r).2)) ?_ ?_
    · rfl
    · rfl
noncomputable def rfitM (a b : Int) : Int × Int × Int :=
  cond (decide (a < (-2147483648)))
  ((0, 0, 5))
  (cond (decide (b > 2147483648))
   ((0, 0, 5))
   ((a, b, 0)))
noncomputable def book_rfitM_gives : Book := []
theorem book_rfitM_gives_ok : BookOk Tryz.prog book_rfitM_gives := bookOk_nil
theorem rfitM_gives_tree (a b : Int) : evF Tryz.prog [] Cs book_rfitM_gives 20 6 111 ([.int .i64 a, .int .i64 b].map AV.v) [] [] last =
  cond (decide (a < (-2147483648)))
  (some (.v (.tuple ⟨[.agg ⟨[.int .i64 0, .int .i64 0]⟩, .int .i64 5]⟩)))
  (cond (decide (b > 2147483648))
   (some (.v (.tuple ⟨[.agg ⟨[.int .i64 0, .int .i64 0]⟩, .int .i64 5]⟩)))
   (some (.v (.tuple ⟨[.agg ⟨[.int .i64 a, .int .i64 b]⟩, .int .i64 0]⟩)))) := by kernel_rfl
theorem rfitM_gives (a b : Int) : Gives Tryz.prog 111 [.int .i64 a, .int .i64 b] (arcV (rfitM a b)) := by
  refine evF_gives (E := []) mixed (by simp) Cs_ok book_rfitM_gives_ok (lim := 20) (d := 6) (nm := []) ?_
  rw [rfitM_gives_tree a b]
  unfold rfitM
  refine case_cond (fun (r : Int × Int × Int) => AV.v (arcV (r))) ?_ ?_
  · rfl
  · refine case_cond (fun (r : Int × Int × Int) => AV.v (arcV (r))) ?_ ?_
    · rfl
    · rfl
noncomputable def rlstM (a b : Int) : Int :=
  cond (decide (b < a))
  (b)
  (a)
noncomputable def book_rlstM_gives : Book := []
theorem book_rlstM_gives_ok : BookOk Tryz.prog book_rlstM_gives := bookOk_nil
theorem rlstM_gives_tree (a b : Int) : evF Tryz.prog [] Cs book_rlstM_gives 20 6 107 ([.int .i64 a, .int .i64 b].map AV.v) [] [] last =
  cond (decide (b < a))
  (some (.v (.int .i64 b)))
  (some (.v (.int .i64 a))) := by kernel_rfl
theorem rlstM_gives (a b : Int) : Gives Tryz.prog 107 [.int .i64 a, .int .i64 b] (.int .i64 (rlstM a b)) := by
  refine evF_gives (E := []) mixed (by simp) Cs_ok book_rlstM_gives_ok (lim := 20) (d := 6) (nm := []) ?_
  rw [rlstM_gives_tree a b]
  unfold rlstM
  refine case_cond (fun (r : Int) => AV.v (.int .i64 (r))) ?_ ?_
  · rfl
  · rfl
noncomputable def rmstM (a b : Int) : Int :=
  cond (decide (a < b))
  (b)
  (a)
noncomputable def book_rmstM_gives : Book := []
theorem book_rmstM_gives_ok : BookOk Tryz.prog book_rmstM_gives := bookOk_nil
theorem rmstM_gives_tree (a b : Int) : evF Tryz.prog [] Cs book_rmstM_gives 20 6 109 ([.int .i64 a, .int .i64 b].map AV.v) [] [] last =
  cond (decide (a < b))
  (some (.v (.int .i64 b)))
  (some (.v (.int .i64 a))) := by kernel_rfl
theorem rmstM_gives (a b : Int) : Gives Tryz.prog 109 [.int .i64 a, .int .i64 b] (.int .i64 (rmstM a b)) := by
  refine evF_gives (E := []) mixed (by simp) Cs_ok book_rmstM_gives_ok (lim := 20) (d := 6) (nm := []) ?_
  rw [rmstM_gives_tree a b]
  unfold rmstM
  refine case_cond (fun (r : Int) => AV.v (.int .i64 (r))) ?_ ?_
  · rfl
  · rfl
noncomputable def rzeroM (a b : Int) : Bool :=
  cond (decide (a ≤ 0))
  ((decide (b ≥ 0)))
  (false)
noncomputable def book_rzeroM_gives : Book := []
theorem book_rzeroM_gives_ok : BookOk Tryz.prog book_rzeroM_gives := bookOk_nil
theorem rzeroM_gives_tree (a b : Int) : evF Tryz.prog [] Cs book_rzeroM_gives 20 6 105 ([.agg ⟨[.int .i64 a, .int .i64 b]⟩].map AV.v) [] [] last =
  cond (decide (a ≤ 0))
  (some (.v (.bool (decide (b ≥ 0)))))
  (some (.v (.bool false))) := by kernel_rfl
theorem rzeroM_gives (a b : Int) : Gives Tryz.prog 105 [.agg ⟨[.int .i64 a, .int .i64 b]⟩] (.bool (rzeroM a b)) := by
  refine evF_gives (E := []) mixed (by simp) Cs_ok book_rzeroM_gives_ok (lim := 20) (d := 6) (nm := []) ?_
  rw [rzeroM_gives_tree a b]
  unfold rzeroM
  refine case_cond (fun (r : Bool) => AV.v (.bool (r))) ?_ ?_
  · rfl
  · rfl
noncomputable def rnegM (a b : Int) : Int × Int :=
  (IntKind.i64.wrap (0 - b), IntKind.i64.wrap (0 - a))
noncomputable def book_rnegM_gives : Book := []
theorem book_rnegM_gives_ok : BookOk Tryz.prog book_rnegM_gives := bookOk_nil
theorem rnegM_gives_tree (a b : Int) : evF Tryz.prog [] Cs book_rnegM_gives 20 6 126 ([.agg ⟨[.int .i64 a, .int .i64 b]⟩].map AV.v) [] [] last =
  some (.v (.agg ⟨[.int .i64 (IntKind.i64.wrap (0 - b)), .int .i64 (IntKind.i64.wrap (0 - a))]⟩)) := by kernel_rfl
theorem rnegM_gives (a b : Int) : Gives Tryz.prog 126 [.agg ⟨[.int .i64 a, .int .i64 b]⟩] (pairV (rnegM a b).1 (rnegM a b).2) := by
  refine evF_gives (E := []) mixed (by simp) Cs_ok book_rnegM_gives_ok (lim := 20) (d := 6) (nm := []) ?_
  rw [rnegM_gives_tree a b]
  rfl
noncomputable def raddM (a b c d : Int) : Int × Int × Int :=
  lt (rfitM (IntKind.i64.wrap (a + c)) (IntKind.i64.wrap (b + d))) fun x1 =>
  (x1.1, x1.2.1, x1.2.2)
noncomputable def book_raddM_gives : Book := [(111, eII (fun a b => arcV (rfitM a b)))]
theorem book_raddM_gives_ok : BookOk Tryz.prog book_raddM_gives := (bookOk_cons (eII_ok rfitM_gives) bookOk_nil)
theorem raddM_gives_tree (a b c d : Int) : evF Tryz.prog [] Cs book_raddM_gives 20 6 85 ([.agg ⟨[.int .i64 a, .int .i64 b]⟩, .agg ⟨[.int .i64 c, .int .i64 d]⟩].map AV.v) [] [] last =
  lt (rfitM (IntKind.i64.wrap (a + c)) (IntKind.i64.wrap (b + d))) fun x1 =>
  some (.v (.tuple ⟨[.agg ⟨[.int .i64 x1.1, .int .i64 x1.2.1]⟩, .int .i64 x1.2.2]⟩)) := by kernel_rfl
theorem raddM_gives (a b c d : Int) : Gives Tryz.prog 85 [.agg ⟨[.int .i64 a, .int .i64 b]⟩, .agg ⟨[.int .i64 c, .int .i64 d]⟩] (arcV (raddM a b c d)) := by
  refine evF_gives (E := []) mixed (by simp) Cs_ok book_raddM_gives_ok (lim := 20) (d := 6) (nm := []) ?_
  rw [raddM_gives_tree a b c d]
  unfold raddM
  refine case_lt (fun (r : Int × Int × Int) => AV.v (arcV (r))) fun _ => ?_
  rfl
noncomputable def rmulM (a b c d : Int) : Int × Int × Int :=
  cond (decide ((Int.tmod (rlstM (rlstM (IntKind.i64.wrap (a * c)) (IntKind.i64.wrap (a * d))) (rlstM (IntKind.i64.wrap (b * c)) (IntKind.i64.wrap (b * d)))) 1073741824) < 0))
  (cond (decide ((Int.tmod (IntKind.i64.wrap (0 - (rmstM (rmstM (IntKind.i64.wrap (a * c)) (IntKind.i64.wrap (a * d))) (rmstM (IntKind.i64.wrap (b * c)) (IntKind.i64.wrap (b * d)))))) 1073741824) < 0))
   (lt (rfitM (IntKind.i64.wrap ((IntKind.i64.wrap (Int.tdiv (rlstM (rlstM (IntKind.i64.wrap (a * c)) (IntKind.i64.wrap (a * d))) (rlstM (IntKind.i64.wrap (b * c)) (IntKind.i64.wrap (b * d)))) 1073741824)) - 1)) (IntKind.i64.wrap (0 - (IntKind.i64.wrap ((IntKind.i64.wrap (Int.tdiv (IntKind.i64.wrap (0 - (rmstM (rmstM (IntKind.i64.wrap (a * c)) (IntKind.i64.wrap (a * d))) (rmstM (IntKind.i64.wrap (b * c)) (IntKind.i64.wrap (b * d)))))) 1073741824)) - 1))))) fun x1 =>
    (x1.1, x1.2.1, x1.2.2))
   (lt (rfitM (IntKind.i64.wrap ((IntKind.i64.wrap (Int.tdiv (rlstM (rlstM (IntKind.i64.wrap (a * c)) (IntKind.i64.wrap (a * d))) (rlstM (IntKind.i64.wrap (b * c)) (IntKind.i64.wrap (b * d)))) 1073741824)) - 1)) (IntKind.i64.wrap (0 - (IntKind.i64.wrap (Int.tdiv (IntKind.i64.wrap (0 - (rmstM (rmstM (IntKind.i64.wrap (a * c)) (IntKind.i64.wrap (a * d))) (rmstM (IntKind.i64.wrap (b * c)) (IntKind.i64.wrap (b * d)))))) 1073741824))))) fun x2 =>
    (x2.1, x2.2.1, x2.2.2)))
  (cond (decide ((Int.tmod (IntKind.i64.wrap (0 - (rmstM (rmstM (IntKind.i64.wrap (a * c)) (IntKind.i64.wrap (a * d))) (rmstM (IntKind.i64.wrap (b * c)) (IntKind.i64.wrap (b * d)))))) 1073741824) < 0))
   (lt (rfitM (IntKind.i64.wrap (Int.tdiv (rlstM (rlstM (IntKind.i64.wrap (a * c)) (IntKind.i64.wrap (a * d))) (rlstM (IntKind.i64.wrap (b * c)) (IntKind.i64.wrap (b * d)))) 1073741824)) (IntKind.i64.wrap (0 - (IntKind.i64.wrap ((IntKind.i64.wrap (Int.tdiv (IntKind.i64.wrap (0 - (rmstM (rmstM (IntKind.i64.wrap (a * c)) (IntKind.i64.wrap (a * d))) (rmstM (IntKind.i64.wrap (b * c)) (IntKind.i64.wrap (b * d)))))) 1073741824)) - 1))))) fun x3 =>
    (x3.1, x3.2.1, x3.2.2))
   (lt (rfitM (IntKind.i64.wrap (Int.tdiv (rlstM (rlstM (IntKind.i64.wrap (a * c)) (IntKind.i64.wrap (a * d))) (rlstM (IntKind.i64.wrap (b * c)) (IntKind.i64.wrap (b * d)))) 1073741824)) (IntKind.i64.wrap (0 - (IntKind.i64.wrap (Int.tdiv (IntKind.i64.wrap (0 - (rmstM (rmstM (IntKind.i64.wrap (a * c)) (IntKind.i64.wrap (a * d))) (rmstM (IntKind.i64.wrap (b * c)) (IntKind.i64.wrap (b * d)))))) 1073741824))))) fun x4 =>
    (x4.1, x4.2.1, x4.2.2)))
noncomputable def book_rmulM_gives : Book := [(107, eII (fun a b => .int .i64 (rlstM a b))), (109, eII (fun a b => .int .i64 (rmstM a b))), (111, eII (fun a b => arcV (rfitM a b)))]
theorem book_rmulM_gives_ok : BookOk Tryz.prog book_rmulM_gives := (bookOk_cons (eII_ok rlstM_gives) (bookOk_cons (eII_ok rmstM_gives) (bookOk_cons (eII_ok rfitM_gives) bookOk_nil)))
theorem rmulM_gives_tree (a b c d : Int) : evF Tryz.prog [] Cs book_rmulM_gives 20 6 81 ([.agg ⟨[.int .i64 a, .int .i64 b]⟩, .agg ⟨[.int .i64 c, .int .i64 d]⟩].map AV.v) [] [] last =
  cond (decide ((Int.tmod (rlstM (rlstM (IntKind.i64.wrap (a * c)) (IntKind.i64.wrap (a * d))) (rlstM (IntKind.i64.wrap (b * c)) (IntKind.i64.wrap (b * d)))) 1073741824) < 0))
  (cond (decide ((Int.tmod (IntKind.i64.wrap (0 - (rmstM (rmstM (IntKind.i64.wrap (a * c)) (IntKind.i64.wrap (a * d))) (rmstM (IntKind.i64.wrap (b * c)) (IntKind.i64.wrap (b * d)))))) 1073741824) < 0))
   (lt (rfitM (IntKind.i64.wrap ((IntKind.i64.wrap (Int.tdiv (rlstM (rlstM (IntKind.i64.wrap (a * c)) (IntKind.i64.wrap (a * d))) (rlstM (IntKind.i64.wrap (b * c)) (IntKind.i64.wrap (b * d)))) 1073741824)) - 1)) (IntKind.i64.wrap (0 - (IntKind.i64.wrap ((IntKind.i64.wrap (Int.tdiv (IntKind.i64.wrap (0 - (rmstM (rmstM (IntKind.i64.wrap (a * c)) (IntKind.i64.wrap (a * d))) (rmstM (IntKind.i64.wrap (b * c)) (IntKind.i64.wrap (b * d)))))) 1073741824)) - 1))))) fun x1 =>
    some (.v (.tuple ⟨[.agg ⟨[.int .i64 x1.1, .int .i64 x1.2.1]⟩, .int .i64 x1.2.2]⟩)))
   (lt (rfitM (IntKind.i64.wrap ((IntKind.i64.wrap (Int.tdiv (rlstM (rlstM (IntKind.i64.wrap (a * c)) (IntKind.i64.wrap (a * d))) (rlstM (IntKind.i64.wrap (b * c)) (IntKind.i64.wrap (b * d)))) 1073741824)) - 1)) (IntKind.i64.wrap (0 - (IntKind.i64.wrap (Int.tdiv (IntKind.i64.wrap (0 - (rmstM (rmstM (IntKind.i64.wrap (a * c)) (IntKind.i64.wrap (a * d))) (rmstM (IntKind.i64.wrap (b * c)) (IntKind.i64.wrap (b * d)))))) 1073741824))))) fun x2 =>
    some (.v (.tuple ⟨[.agg ⟨[.int .i64 x2.1, .int .i64 x2.2.1]⟩, .int .i64 x2.2.2]⟩))))
  (cond (decide ((Int.tmod (IntKind.i64.wrap (0 - (rmstM (rmstM (IntKind.i64.wrap (a * c)) (IntKind.i64.wrap (a * d))) (rmstM (IntKind.i64.wrap (b * c)) (IntKind.i64.wrap (b * d)))))) 1073741824) < 0))
   (lt (rfitM (IntKind.i64.wrap (Int.tdiv (rlstM (rlstM (IntKind.i64.wrap (a * c)) (IntKind.i64.wrap (a * d))) (rlstM (IntKind.i64.wrap (b * c)) (IntKind.i64.wrap (b * d)))) 1073741824)) (IntKind.i64.wrap (0 - (IntKind.i64.wrap ((IntKind.i64.wrap (Int.tdiv (IntKind.i64.wrap (0 - (rmstM (rmstM (IntKind.i64.wrap (a * c)) (IntKind.i64.wrap (a * d))) (rmstM (IntKind.i64.wrap (b * c)) (IntKind.i64.wrap (b * d)))))) 1073741824)) - 1))))) fun x3 =>
    some (.v (.tuple ⟨[.agg ⟨[.int .i64 x3.1, .int .i64 x3.2.1]⟩, .int .i64 x3.2.2]⟩)))
   (lt (rfitM (IntKind.i64.wrap (Int.tdiv (rlstM (rlstM (IntKind.i64.wrap (a * c)) (IntKind.i64.wrap (a * d))) (rlstM (IntKind.i64.wrap (b * c)) (IntKind.i64.wrap (b * d)))) 1073741824)) (IntKind.i64.wrap (0 - (IntKind.i64.wrap (Int.tdiv (IntKind.i64.wrap (0 - (rmstM (rmstM (IntKind.i64.wrap (a * c)) (IntKind.i64.wrap (a * d))) (rmstM (IntKind.i64.wrap (b * c)) (IntKind.i64.wrap (b * d)))))) 1073741824))))) fun x4 =>
    some (.v (.tuple ⟨[.agg ⟨[.int .i64 x4.1, .int .i64 x4.2.1]⟩, .int .i64 x4.2.2]⟩)))) := by kernel_rfl
theorem rmulM_gives (a b c d : Int) : Gives Tryz.prog 81 [.agg ⟨[.int .i64 a, .int .i64 b]⟩, .agg ⟨[.int .i64 c, .int .i64 d]⟩] (arcV (rmulM a b c d)) := by
  refine evF_gives (E := []) mixed (by simp) Cs_ok book_rmulM_gives_ok (lim := 20) (d := 6) (nm := []) ?_
  rw [rmulM_gives_tree a b c d]
  unfold rmulM
  refine case_cond (fun (r : Int × Int × Int) => AV.v (arcV (r))) ?_ ?_
  · refine case_cond (fun (r : Int × Int × Int) => AV.v (arcV (r))) ?_ ?_
    · refine case_lt (fun (r : Int × Int × Int) => AV.v (arcV (r))) fun _ => ?_
      rfl
    · refine case_lt (fun (r : Int × Int × Int) => AV.v (arcV (r))) fun _ => ?_
      rfl
  · refine case_cond (fun (r : Int × Int × Int) => AV.v (arcV (r))) ?_ ?_
    · refine case_lt (fun (r : Int × Int × Int) => AV.v (arcV (r))) fun _ => ?_
      rfl
    · refine case_lt (fun (r : Int × Int × Int) => AV.v (arcV (r))) fun _ => ?_
      rfl
noncomputable def rtrnM (a b c d : Int) : Int × Int × Int × Int :=
  cond (decide (c < 0))
  (lt (rnegM a b) fun x1 =>
   lt (rnegM c d) fun x2 =>
   (x1.1, x1.2, x2.1, x2.2))
  ((a, b, c, d))
noncomputable def book_rtrnM_gives : Book := [(126, eP (fun a b => pairV (rnegM a b).1 (rnegM a b).2))]
theorem book_rtrnM_gives_ok : BookOk Tryz.prog book_rtrnM_gives := (bookOk_cons (eP_ok rnegM_gives) bookOk_nil)
theorem rtrnM_gives_tree (a b c d : Int) : evF Tryz.prog [] Cs book_rtrnM_gives 20 6 106 ([.agg ⟨[.int .i64 a, .int .i64 b]⟩, .agg ⟨[.int .i64 c, .int .i64 d]⟩].map AV.v) [] [] last =
  cond (decide (c < 0))
  (lt (rnegM a b) fun x1 =>
   lt (rnegM c d) fun x2 =>
   some (.v (.tuple ⟨[.agg ⟨[.int .i64 x1.1, .int .i64 x1.2]⟩, .agg ⟨[.int .i64 x2.1, .int .i64 x2.2]⟩]⟩)))
  (some (.v (.tuple ⟨[.agg ⟨[.int .i64 a, .int .i64 b]⟩, .agg ⟨[.int .i64 c, .int .i64 d]⟩]⟩))) := by kernel_rfl
theorem rtrnM_gives (a b c d : Int) : Gives Tryz.prog 106 [.agg ⟨[.int .i64 a, .int .i64 b]⟩, .agg ⟨[.int .i64 c, .int .i64 d]⟩] (pairsV (rtrnM a b c d)) := by
  refine evF_gives (E := []) mixed (by simp) Cs_ok book_rtrnM_gives_ok (lim := 20) (d := 6) (nm := []) ?_
  rw [rtrnM_gives_tree a b c d]
  unfold rtrnM
  refine case_cond (fun (r : Int × Int × Int × Int) => AV.v (pairsV (r))) ?_ ?_
  · refine case_lt (fun (r : Int × Int × Int × Int) => AV.v (pairsV (r))) fun _ => ?_
    refine case_lt (fun (r : Int × Int × Int × Int) => AV.v (pairsV (r))) fun _ => ?_
    rfl
  · rfl
noncomputable def rvalM (a b : Int) : Bool :=
  cond (decide (a ≤ b))
  (cond (decide (a ≥ (-1099511627776)))
   ((decide (b ≤ 1099511627776)))
   (false))
  (false)
noncomputable def book_rvalM_gives : Book := []
theorem book_rvalM_gives_ok : BookOk Tryz.prog book_rvalM_gives := bookOk_nil
theorem rvalM_gives_tree (a b : Int) : evF Tryz.prog [] Cs book_rvalM_gives 20 6 14 ([.agg ⟨[.int .i64 a, .int .i64 b]⟩].map AV.v) [] [] last =
  cond (decide (a ≤ b))
  (cond (decide (a ≥ (-1099511627776)))
   (some (.v (.bool (decide (b ≤ 1099511627776)))))
   (some (.v (.bool false))))
  (some (.v (.bool false))) := by kernel_rfl
theorem rvalM_gives (a b : Int) : Gives Tryz.prog 14 [.agg ⟨[.int .i64 a, .int .i64 b]⟩] (.bool (rvalM a b)) := by
  refine evF_gives (E := []) mixed (by simp) Cs_ok book_rvalM_gives_ok (lim := 20) (d := 6) (nm := []) ?_
  rw [rvalM_gives_tree a b]
  unfold rvalM
  refine case_cond (fun (r : Bool) => AV.v (.bool (r))) ?_ ?_
  · refine case_cond (fun (r : Bool) => AV.v (.bool (r))) ?_ ?_
    · rfl
    · rfl
  · rfl
noncomputable def raadM (a b c d : Int) : Int × Int :=
  (IntKind.i64.wrap (a + c), IntKind.i64.wrap (b + d))
noncomputable def book_raadM_gives : Book := []
theorem book_raadM_gives_ok : BookOk Tryz.prog book_raadM_gives := bookOk_nil
theorem raadM_gives_tree (a b c d : Int) : evF Tryz.prog [] Cs book_raadM_gives 20 6 40 ([.agg ⟨[.int .i64 a, .int .i64 b]⟩, .agg ⟨[.int .i64 c, .int .i64 d]⟩].map AV.v) [] [] last =
  some (.v (.agg ⟨[.int .i64 (IntKind.i64.wrap (a + c)), .int .i64 (IntKind.i64.wrap (b + d))]⟩)) := by kernel_rfl
theorem raadM_gives (a b c d : Int) : Gives Tryz.prog 40 [.agg ⟨[.int .i64 a, .int .i64 b]⟩, .agg ⟨[.int .i64 c, .int .i64 d]⟩] (pairV (raadM a b c d).1 (raadM a b c d).2) := by
  refine evF_gives (E := []) mixed (by simp) Cs_ok book_raadM_gives_ok (lim := 20) (d := 6) (nm := []) ?_
  rw [raadM_gives_tree a b c d]
  rfl
noncomputable def rasubM (a b c d : Int) : Int × Int :=
  (IntKind.i64.wrap (a - d), IntKind.i64.wrap (b - c))
noncomputable def book_rasubM_gives : Book := []
theorem book_rasubM_gives_ok : BookOk Tryz.prog book_rasubM_gives := bookOk_nil
theorem rasubM_gives_tree (a b c d : Int) : evF Tryz.prog [] Cs book_rasubM_gives 20 6 37 ([.agg ⟨[.int .i64 a, .int .i64 b]⟩, .agg ⟨[.int .i64 c, .int .i64 d]⟩].map AV.v) [] [] last =
  some (.v (.agg ⟨[.int .i64 (IntKind.i64.wrap (a - d)), .int .i64 (IntKind.i64.wrap (b - c))]⟩)) := by kernel_rfl
theorem rasubM_gives (a b c d : Int) : Gives Tryz.prog 37 [.agg ⟨[.int .i64 a, .int .i64 b]⟩, .agg ⟨[.int .i64 c, .int .i64 d]⟩] (pairV (rasubM a b c d).1 (rasubM a b c d).2) := by
  refine evF_gives (E := []) mixed (by simp) Cs_ok book_rasubM_gives_ok (lim := 20) (d := 6) (nm := []) ?_
  rw [rasubM_gives_tree a b c d]
  rfl
noncomputable def ranegM (a b : Int) : Int × Int :=
  (IntKind.i64.wrap (0 - b), IntKind.i64.wrap (0 - a))
noncomputable def book_ranegM_gives : Book := []
theorem book_ranegM_gives_ok : BookOk Tryz.prog book_ranegM_gives := bookOk_nil
theorem ranegM_gives_tree (a b : Int) : evF Tryz.prog [] Cs book_ranegM_gives 20 6 50 ([.agg ⟨[.int .i64 a, .int .i64 b]⟩].map AV.v) [] [] last =
  some (.v (.agg ⟨[.int .i64 (IntKind.i64.wrap (0 - b)), .int .i64 (IntKind.i64.wrap (0 - a))]⟩)) := by kernel_rfl
theorem ranegM_gives (a b : Int) : Gives Tryz.prog 50 [.agg ⟨[.int .i64 a, .int .i64 b]⟩] (pairV (ranegM a b).1 (ranegM a b).2) := by
  refine evF_gives (E := []) mixed (by simp) Cs_ok book_ranegM_gives_ok (lim := 20) (d := 6) (nm := []) ?_
  rw [ranegM_gives_tree a b]
  rfl
noncomputable def rarM (a b : Int) : Bool :=
  (decide (IntKind.i64.wrap (b - a) ≥ 21600000))
noncomputable def book_rarM_gives : Book := []
theorem book_rarM_gives_ok : BookOk Tryz.prog book_rarM_gives := bookOk_nil
theorem rarM_gives_tree (a b : Int) : evF Tryz.prog [] Cs book_rarM_gives 20 6 49 ([.agg ⟨[.int .i64 a, .int .i64 b]⟩].map AV.v) [] [] last =
  some (.v (.bool (decide (IntKind.i64.wrap (b - a) ≥ 21600000)))) := by kernel_rfl
theorem rarM_gives (a b : Int) : Gives Tryz.prog 49 [.agg ⟨[.int .i64 a, .int .i64 b]⟩] (.bool (rarM a b)) := by
  refine evF_gives (E := []) mixed (by simp) Cs_ok book_rarM_gives_ok (lim := 20) (d := 6) (nm := []) ?_
  rw [rarM_gives_tree a b]
  rfl
noncomputable def risM (a b : Int) : Bool :=
  cond (decide (a ≥ 0))
  (cond (decide (a ≤ b))
   ((decide (b ≤ 10800000)))
   (false))
  (false)
noncomputable def book_risM_gives : Book := []
theorem book_risM_gives_ok : BookOk Tryz.prog book_risM_gives := bookOk_nil
theorem risM_gives_tree (a b : Int) : evF Tryz.prog [] Cs book_risM_gives 20 6 13 ([.agg ⟨[.int .i64 a, .int .i64 b]⟩].map AV.v) [] [] last =
  cond (decide (a ≥ 0))
  (cond (decide (a ≤ b))
   (some (.v (.bool (decide (b ≤ 10800000)))))
   (some (.v (.bool false))))
  (some (.v (.bool false))) := by kernel_rfl
theorem risM_gives (a b : Int) : Gives Tryz.prog 13 [.agg ⟨[.int .i64 a, .int .i64 b]⟩] (.bool (risM a b)) := by
  refine evF_gives (E := []) mixed (by simp) Cs_ok book_risM_gives_ok (lim := 20) (d := 6) (nm := []) ?_
  rw [risM_gives_tree a b]
  unfold risM
  refine case_cond (fun (r : Bool) => AV.v (.bool (r))) ?_ ?_
  · refine case_cond (fun (r : Bool) => AV.v (.bool (r))) ?_ ?_
    · rfl
    · rfl
  · rfl
noncomputable def rsidM (a b c d e f : Int) : Bool :=
  cond (risM a b)
  (cond (risM c d)
   ((risM e f))
   (false))
  (false)
noncomputable def book_rsidM_gives : Book := [(13, eP (fun a b => .bool (risM a b)))]
theorem book_rsidM_gives_ok : BookOk Tryz.prog book_rsidM_gives := (bookOk_cons (eP_ok risM_gives) bookOk_nil)
theorem rsidM_gives_tree (a b c d e f : Int) : evF Tryz.prog [] Cs book_rsidM_gives 20 6 16 ([.agg ⟨[.int .i64 a, .int .i64 b]⟩, .agg ⟨[.int .i64 c, .int .i64 d]⟩, .agg ⟨[.int .i64 e, .int .i64 f]⟩].map AV.v) [] [] last =
  cond (risM a b)
  (cond (risM c d)
   (some (.v (.bool (risM e f))))
   (some (.v (.bool false))))
  (some (.v (.bool false))) := by kernel_rfl
theorem rsidM_gives (a b c d e f : Int) : Gives Tryz.prog 16 [.agg ⟨[.int .i64 a, .int .i64 b]⟩, .agg ⟨[.int .i64 c, .int .i64 d]⟩, .agg ⟨[.int .i64 e, .int .i64 f]⟩] (.bool (rsidM a b c d e f)) := by
  refine evF_gives (E := []) mixed (by simp) Cs_ok book_rsidM_gives_ok (lim := 20) (d := 6) (nm := []) ?_
  rw [rsidM_gives_tree a b c d e f]
  unfold rsidM
  refine case_cond (fun (r : Bool) => AV.v (.bool (r))) ?_ ?_
  · refine case_cond (fun (r : Bool) => AV.v (.bool (r))) ?_ ?_
    · rfl
    · rfl
  · rfl
end Go.Proofs.YtipjnfabodfkcaaGreatDoor
namespace Go.Proofs.YtipjnfabodfkcaaGreatDoor
open Ev

open SM TB TA
open Ev (lt keepE)
theorem decT {p : Prop} [Decidable p] (h : p) : decide p = true := decide_eq_true h
theorem decF {p : Prop} [Decidable p] (h : ¬ p) : decide p = false := decide_eq_false h
theorem hib_of (n : Int) : hib n = if exa (red n) = true then lob n else lob n + 1 := by
  unfold hib lob upf
  split <;> split <;> omega
theorem exa_at {k : Nat} (h : exa k = true) : k = 0 ∨ k = 1800000 ∨ k = 5400000 := by
  unfold exa at h
  simp only [Bool.or_eq_true, beq_iff_eq] at h
  omega
theorem lob_even {n : Int} (h : exa (red n) = true) : lob n % 2 = 0 := by
  have f0 : flo 0 = 0 := rfl
  have f1 : flo 1800000 = 536870912 := rfl
  have f2 : flo 5400000 = 1073741824 := rfl
  unfold lob upf
  rw [if_pos h]
  rcases exa_at h with e | e | e <;> rw [e] <;> first | rw [f0] | rw [f1] | rw [f2]
  all_goals split <;> rfl
theorem tmod_emod (x : Int) : x % 21600000 = (if x.tmod 21600000 < 0 then x.tmod 21600000 + 21600000 else x.tmod 21600000) := by
  have h1 := Int.mul_tdiv_add_tmod x 21600000
  have h2 := tm_sign x 21600000
  have h3 := Int.tmod_lt_of_pos x (show (0 : Int) < 21600000 by omega)
  have h4 := Int.tmod_lt_of_pos (-x) (show (0 : Int) < 21600000 by omega)
  rw [Int.neg_tmod] at h4
  split <;> omega
theorem rends_eq (a : Int) : rendsM a = (lob a, hib a) := by
  have b := lob_hib a
  unfold rendsM
  simp only [lt, rflR]
  rw [hib_of]
  cases h : exa (red a)
  · rw [cond_false, i64w (by omega)]; rfl
  · rfl
theorem rhas_eq {a b c : Int} (h1 : -2000000000000 ≤ a ∧ a ≤ 2000000000000) (_h2 : -2000000000000 ≤ b ∧ b ≤ 2000000000000) (h3 : -20000000 ≤ c ∧ c ≤ 20000000) : rhasM a b c = meetB a b c := by
  have t := tmod_emod (c - a)
  have p := Int.tmod_lt_of_pos (c - a) (show (0 : Int) < 21600000 by omega)
  have q := Int.tmod_lt_of_pos (-(c - a)) (show (0 : Int) < 21600000 by omega)
  rw [Int.neg_tmod] at q
  unfold rhasM meetB
  rw [i64w (x := c - a) (by omega)]
  by_cases h : (c - a).tmod 21600000 < 0
  · rw [if_pos h] at t
    rw [decT h, cond_true, i64w (x := (c - a).tmod 21600000 + 21600000) (by omega), i64w (by omega)]
    exact decide_eq_decide.2 (by omega)
  · rw [if_neg h] at t
    rw [decF h, cond_false, i64w (by omega)]
    exact decide_eq_decide.2 (by omega)
theorem meet_turn (a b : Int) : meetB a b (-5400000) = meetB a b 16200000 := by
  unfold meetB
  rw [show (-5400000 - a) % 21600000 = (16200000 - a) % 21600000 by omega]
theorem rsine_eq {a b : Int} (h1 : -2000000000000 ≤ a ∧ a ≤ 2000000000000) (h2 : -2000000000000 ≤ b ∧ b ≤ 2000000000000) : rsineM a b = (encL a b, encH a b) := by
  unfold rsineM encL encH
  simp only [lt]
  rw [rends_eq, rends_eq, rhas_eq h1 h2 (by omega), rhas_eq h1 h2 (by omega), meet_turn]
  have m1 : mn (lob a) (lob b) = min (lob a) (lob b) := by unfold mn; split <;> omega
  have m2 : mx (hib a) (hib b) = max (hib a) (hib b) := by unfold mx; split <;> omega
  cases meetB a b 5400000 <;> cases meetB a b 16200000 <;> simp only [cond_true, cond_false, m1, m2] <;> simp
theorem rcos_eq {a b : Int} (h : avalidB a b = true) : rcosM a b = ((cosR a b).1, (cosR a b).2.1) := by
  have := aval_bd h
  unfold rcosM cosR
  simp only [lt]
  rw [i64w (x := a + 5400000) (by omega), i64w (x := b + 5400000) (by omega), rsine_eq (by omega) (by omega), h]
  rfl
theorem rhv_eq {n : Int} (h : -2000000000000 ≤ n ∧ n ≤ 2000000000000) : rhvM n = ((1073741824 - hib (n + 5400000)) / 2, (1073741824 - lob (n + 5400000) + 1) / 2) := by
  have b := lob_hib (n + 5400000)
  unfold rhvM
  simp only [lt, rflR]
  rw [i64w (x := n + 5400000) (by omega), hib_of]
  generalize hf : lob (n + 5400000) = f at *
  rw [i64w (x := 1073741824 - f) (by omega)]
  have t : ∀ x : Int, 0 ≤ x → x.tdiv 2 = x / 2 := fun x hx => Int.tdiv_eq_ediv_of_nonneg hx
  cases e : exa (red (n + 5400000))
  · have c : f + 1 ≤ 1073741824 := by
      have := hib_of (n + 5400000)
      rw [e, hf] at this
      simp at this
      omega
    rw [cond_false, i64w (x := 1073741824 - f - 1) (by omega), t _ (by omega), i64w (x := (1073741824 - f - 1) / 2) (by omega), i64w (by omega)]
    simp
    omega
  · have := lob_even e
    rw [hf] at this
    rw [cond_true, t _ (by omega), i64w (x := (1073741824 - f) / 2) (by omega)]
    simp
    omega
theorem rhav_eq {a b : Int} (h : avalidB a b = true) : rhavM a b = ((havR a b).1, (havR a b).2.1) := by
  have := aval_bd h
  unfold rhavM havR encL encH
  simp only [lt]
  rw [rhv_eq (by omega), rhv_eq (by omega), rhas_eq (by omega) (by omega) (by omega), rhas_eq (by omega) (by omega) (by omega), h]
  have e1 : meetB (a + 5400000) (b + 5400000) 16200000 = meetB a b 10800000 := by
    unfold meetB
    rw [show (16200000 - (a + 5400000)) % 21600000 = (10800000 - a) % 21600000 by omega]
    exact decide_eq_decide.2 (by omega)
  have e2 : meetB (a + 5400000) (b + 5400000) 5400000 = meetB a b 0 := by
    unfold meetB
    rw [show (5400000 - (a + 5400000)) % 21600000 = (0 - a) % 21600000 by omega]
    exact decide_eq_decide.2 (by omega)
  rw [e1, e2]
  have p := lob_hib (a + 5400000)
  have q := lob_hib (b + 5400000)
  generalize lob (a + 5400000) = x at *
  generalize lob (b + 5400000) = y at *
  generalize hib (a + 5400000) = u at *
  generalize hib (b + 5400000) = v at *
  have m1 : mn ((1073741824 - u) / 2) ((1073741824 - v) / 2) = (1073741824 - max u v) / 2 := by unfold mn; split <;> omega
  have m2 : mx ((1073741824 - x + 1) / 2) ((1073741824 - y + 1) / 2) = (1073741824 - min x y + 1) / 2 := by unfold mx; split <;> omega
  cases meetB a b 10800000 <;> cases meetB a b 0 <;> simp only [cond_true, cond_false, m1, m2] <;> simp
theorem rfit_eq {a b : Int} (h : a ≤ b) : rfitM a b = fitR a b := by
  unfold rfitM fitR
  by_cases h1 : a < -2147483648
  · rw [decT h1, cond_true, if_neg (by simp [validB]; omega)]
  · rw [decF h1, cond_false]
    by_cases h2 : b > 2147483648
    · rw [decT h2, cond_true, if_neg (by simp [validB]; omega)]
    · rw [decF h2, cond_false, if_pos (by simp [validB]; omega)]
theorem rlst_eq (a b : Int) : rlstM a b = min a b := by
  unfold rlstM
  by_cases h : b < a
  · rw [decT h]; simp; omega
  · rw [decF h]; simp; omega
theorem rmst_eq (a b : Int) : rmstM a b = max a b := by
  unfold rmstM
  by_cases h : a < b
  · rw [decT h]; simp; omega
  · rw [decF h]; simp; omega
theorem radd_eq {a b c d : Int} (h1 : validB a b = true) (h2 : validB c d = true) : raddM a b c d = addR a b c d := by
  have p := val_bd h1
  have q := val_bd h2
  unfold raddM addR
  simp only [lt]
  rw [i64w (x := a + c) (by omega), i64w (x := b + d) (by omega), rfit_eq (by omega), if_pos (both_mk h1 h2)]
theorem fl_one (x : Int) : x / 1073741824 = (if x.tmod 1073741824 < 0 then x.tdiv 1073741824 - 1 else x.tdiv 1073741824) := by
  have t := fl_pos x 1073741824 (by omega)
  have s := tm_sign x 1073741824
  split at t
  · rw [if_pos (by omega)]; exact t
  · rw [if_neg (by omega)]; exact t
theorem rmul_eq {a b c d : Int} (h1 : validB a b = true) (h2 : validB c d = true) : rmulM a b c d = mulR a b c d := by
  have p := val_bd h1
  have q := val_bd h2
  have p1 := pmul_bd (x := a) (y := c) (by omega) (by omega) (by omega) (by omega)
  have p2 := pmul_bd (x := a) (y := d) (by omega) (by omega) (by omega) (by omega)
  have p3 := pmul_bd (x := b) (y := c) (by omega) (by omega) (by omega) (by omega)
  have p4 := pmul_bd (x := b) (y := d) (by omega) (by omega) (by omega) (by omega)
  have mo := mul_order p.2.1 q.2.1
  unfold rmulM mulR
  rw [i64w (x := a * c) (by omega), i64w (x := a * d) (by omega), i64w (x := b * c) (by omega), i64w (x := b * d) (by omega), if_pos (both_mk h1 h2)]
  have eL : rlstM (rlstM (a * c) (a * d)) (rlstM (b * c) (b * d)) = mulL a b c d := by
    rw [rlst_eq, rlst_eq, rlst_eq]
    unfold mulL mn
    repeat' split
    all_goals omega
  have eH : rmstM (rmstM (a * c) (a * d)) (rmstM (b * c) (b * d)) = mulH a b c d := by
    rw [rmst_eq, rmst_eq, rmst_eq]
    unfold mulH mx
    repeat' split
    all_goals omega
  have bL : -4611686018427387904 ≤ mulL a b c d ∧ mulL a b c d ≤ 4611686018427387904 := by
    have := (mn4 (a * c) (a * d) (b * c) (b * d)).2
    unfold mulL
    omega
  have bH : -4611686018427387904 ≤ mulH a b c d ∧ mulH a b c d ≤ 4611686018427387904 := by
    have := (mx4 (a * c) (a * d) (b * c) (b * d)).2
    unfold mulH
    omega
  rw [eL, eH]
  generalize mulL a b c d = L at *
  generalize mulH a b c d = H at *
  rw [i64w (x := 0 - H) (by omega), Int.zero_sub]
  have f1 := fl_one L
  have f2 := fl_one (-H)
  have t1 := tdiv_bd L 1073741824 4611686018427387904 bL.1 bL.2
  have t2 := tdiv_bd (-H) 1073741824 4611686018427387904 (by omega) (by omega)
  rw [i64w (x := L.tdiv 1073741824) (by omega), i64w (x := (-H).tdiv 1073741824) (by omega), i64w (x := L.tdiv 1073741824 - 1) (by omega), i64w (x := (-H).tdiv 1073741824 - 1) (by omega)]
  rw [i64w (x := 0 - (-H).tdiv 1073741824) (by omega), i64w (x := 0 - ((-H).tdiv 1073741824 - 1)) (by omega), Int.zero_sub, Int.zero_sub]
  have mono : L / 1073741824 ≤ -(-H / 1073741824) := by omega
  simp only [lt]
  by_cases c1 : L.tmod 1073741824 < 0 <;> by_cases c2 : (-H).tmod 1073741824 < 0
  · rw [if_pos c1] at f1; rw [if_pos c2] at f2
    rw [decT c1, decT c2, ← f1, ← f2]; exact rfit_eq mono
  · rw [if_pos c1] at f1; rw [if_neg c2] at f2
    rw [decT c1, decF c2, ← f1, ← f2]; exact rfit_eq mono
  · rw [if_neg c1] at f1; rw [if_pos c2] at f2
    rw [decF c1, decT c2, ← f1, ← f2]; exact rfit_eq mono
  · rw [if_neg c1] at f1; rw [if_neg c2] at f2
    rw [decF c1, decF c2, ← f1, ← f2]; exact rfit_eq mono
theorem rval_eq (a b : Int) : rvalM a b = avalidB a b := by
  unfold rvalM avalidB
  by_cases h1 : a ≤ b
  · by_cases h2 : a ≥ -1099511627776
    · rw [decT h1, decT h2, cond_true, cond_true]
      exact decide_eq_decide.2 (by omega)
    · rw [decT h1, decF h2, cond_true, cond_false, decF (by omega)]
  · rw [decF h1, cond_false, decF (by omega)]
theorem rasub_eq {a b c d : Int} (h1 : -100000000 ≤ a) (h2 : a ≤ b) (h3 : b ≤ 100000000) (h4 : -100000000 ≤ c) (h5 : c ≤ d) (h6 : d ≤ 100000000) : rasubM a b c d = (a - d, b - c) := by
  unfold rasubM
  rw [i64w (by omega), i64w (by omega)]
theorem fl_neg2 (x y : Int) (hy : y ≠ 0) : flD (-x) (-y) = flD x y := by
  unfold flD
  by_cases h : 0 < y
  · rw [if_pos h, if_neg (by omega), Int.neg_neg, Int.neg_neg]
  · rw [if_neg h, if_pos (by omega)]
theorem ce_neg2 (x y : Int) (hy : y ≠ 0) : ceD (-x) (-y) = ceD x y := by
  unfold ceD
  rw [fl_neg2 _ _ hy]
theorem div_neg2 {a b c d : Int} (hc : c ≠ 0) (hd : d ≠ 0) : divL (-b) (-a) (-d) (-c) = divL a b c d ∧ divH (-b) (-a) (-d) (-c) = divH a b c d := by
  have n : ∀ x : Int, -x * 1073741824 = -(x * 1073741824) := fun x => by omega
  unfold divL divH
  rw [n, n, fl_neg2 _ _ hd, fl_neg2 _ _ hc, fl_neg2 _ _ hd, fl_neg2 _ _ hc, ce_neg2 _ _ hd, ce_neg2 _ _ hc, ce_neg2 _ _ hd, ce_neg2 _ _ hc]
  generalize flD (a * 1073741824) c = p
  generalize flD (a * 1073741824) d = q
  generalize flD (b * 1073741824) c = r
  generalize flD (b * 1073741824) d = s
  generalize ceD (a * 1073741824) c = p'
  generalize ceD (a * 1073741824) d = q'
  generalize ceD (b * 1073741824) c = r'
  generalize ceD (b * 1073741824) d = s'
  constructor
  · have h1 := mn5 s s r q p rfl
    have h2 := mn5 p p q r s rfl
    omega
  · have h1 := mx5 s' s' r' q' p' rfl
    have h2 := mx5 p' p' q' r' s' rfl
    omega
theorem div_pos {a b c d : Int} (hc : 0 < c) (hd : 0 < d) (ab : a ≤ b) : divL a b c d = min (flD (a * 1073741824) c) (flD (a * 1073741824) d) ∧ divH a b c d = max (ceD (b * 1073741824) c) (ceD (b * 1073741824) d) := by
  have m : a * 1073741824 ≤ b * 1073741824 := by omega
  have f : ∀ y : Int, 0 < y → flD (a * 1073741824) y ≤ flD (b * 1073741824) y ∧ ceD (a * 1073741824) y ≤ ceD (b * 1073741824) y := fun y hy => by
    have p := Int.ediv_le_ediv hy m
    have q := Int.ediv_le_ediv hy (show -(b * 1073741824) ≤ -(a * 1073741824) by omega)
    unfold ceD flD
    rw [if_pos hy, if_pos hy]
    exact ⟨p, by rw [if_pos hy, if_pos hy]; omega⟩
  have f1 := f c hc
  have f2 := f d hd
  unfold divL divH
  have h2 := mn5 (flD (a * 1073741824) c) (flD (a * 1073741824) c) (flD (a * 1073741824) d) (flD (b * 1073741824) c) (flD (b * 1073741824) d) rfl
  have h3 := mx5 (ceD (a * 1073741824) c) (ceD (a * 1073741824) c) (ceD (a * 1073741824) d) (ceD (b * 1073741824) c) (ceD (b * 1073741824) d) rfl
  omega
theorem div_order {a b c d : Int} (hz : 0 < c ∨ d < 0) (ab : a ≤ b) (cd : c ≤ d) : divL a b c d ≤ divH a b c d := by
  have h := div_has (x := a) (y := c) hz (Int.le_refl _) ab (Int.le_refl _) cd
  have := fl_ce (a * 1073741824) c (by omega)
  omega
theorem co_eq {α : Type} {b : Bool} {x y r : α} (h : b = true) (k : x = r) : cond b x y = r := by
  rw [h]
  exact k
theorem both_inv {a b c d : Int} (h : bothB a b c d = true) : validB a b = true ∧ validB c d = true := (Bool.and_eq_true _ _).mp h
theorem rsin_eq {a b : Int} (h : avalidB a b = true) : rsinM a b = ((sinR a b).1, (sinR a b).2.1) := by
  have := aval_bd h
  unfold rsinM sinR
  simp only [lt]
  rw [rsine_eq (by omega) (by omega), h]
  rfl
theorem raad_eq {a b c d : Int} (h1 : -100000000 ≤ a) (h2 : a ≤ b) (h3 : b ≤ 100000000) (h4 : -100000000 ≤ c) (h5 : c ≤ d) (h6 : d ≤ 100000000) : raadM a b c d = (a + c, b + d) := by
  unfold raadM
  rw [i64w (by omega), i64w (by omega)]
theorem rar_eq {x y : Int} (h1 : -100000000 ≤ x) (h2 : x ≤ 100000000) (h3 : -100000000 ≤ y) (h4 : y ≤ 100000000) : rarM x y = decide (21600000 ≤ y - x) := by
  unfold rarM
  rw [i64w (by omega)]
def rkV (a b e : Int) : Int × Int := if e = 0 then (a, b) else (0, 0)
def rkC (k _a _b e : Int) : Int := keepE k e
theorem rk_ok {a b e : Int} (h : e = 0) : rkV a b e = (a, b) := if_pos h
theorem rk_c {a b e : Int} (h : e = 0) : rkC 0 a b e = 0 := k0 h
theorem rmul_gives (a b c d : Int) (hp : bothB a b c d = true) : Gives Tryz.prog 81 [.agg ⟨[.int .i64 a, .int .i64 b]⟩, .agg ⟨[.int .i64 c, .int .i64 d]⟩] (arcV (mulR a b c d)) := by
  have h := rmulM_gives a b c d
  rwa [rmul_eq (both_inv hp).1 (both_inv hp).2] at h
theorem radd_gives (a b c d : Int) (hp : bothB a b c d = true) : Gives Tryz.prog 85 [.agg ⟨[.int .i64 a, .int .i64 b]⟩, .agg ⟨[.int .i64 c, .int .i64 d]⟩] (arcV (addR a b c d)) := by
  have h := raddM_gives a b c d
  rwa [radd_eq (both_inv hp).1 (both_inv hp).2] at h
theorem isq_irt {n : Nat} (h : n < 4611686018427387904) : ((isq n : Nat) : Int) = irt (n : Int) := by
  have a := isq_ok (n := n) (by omega)
  have b := sbs_ok n 32 0 4294967296 (by omega) (by decide) (by omega) (by omega)
  unfold irt
  rw [Int.toNat_natCast, root_uniq a.1 a.2 b.1 b.2]
theorem rroot_gives (n : Int) (hp : rootF n = true) : Gives Tryz.prog 121 [.int .i64 n] (.int .i64 (irt n)) := gives_of fun w => by
  obtain ⟨h1, h2⟩ := of_decide_eq_true hp
  have := rroot_any n.toNat (by omega) w
  rw [isq_irt (by omega), Int.toNat_of_nonneg h1] at this
  exact this
def rflP (a b : Int) : Bool := decide (0 < b ∧ -4611686018427387904 ≤ a ∧ a ≤ 4611686018427387904)
def rflD (a b : Int) : Int := a / b
noncomputable def book_rflD_gives : Book := []
theorem book_rflD_gives_ok : BookOk Tryz.prog book_rflD_gives := bookOk_nil
theorem rflD_gives_tree (a b : Int) : evF Tryz.prog [] Cs book_rflD_gives 20 6 108 ([.int .i64 a, .int .i64 b].map AV.v) [] [] last =
  cond (b == 0)
  (none)
  (cond (b == 0)
   (none)
   (cond (decide ((Int.tmod a b) < 0))
    (some (.v (.int .i64 (IntKind.i64.wrap ((IntKind.i64.wrap (Int.tdiv a b)) - 1)))))
    (some (.v (.int .i64 (IntKind.i64.wrap (Int.tdiv a b))))))) := by kernel_rfl
theorem rflD_gives (a b : Int) (hp : rflP a b = true) : Gives Tryz.prog 108 [.int .i64 a, .int .i64 b] (.int .i64 (rflD a b)) := by
  refine evF_gives (E := []) mixed (by simp) Cs_ok book_rflD_gives_ok (lim := 20) (d := 6) (nm := []) ?_
  rw [rflD_gives_tree a b]
  obtain ⟨hb, ha1, ha2⟩ := of_decide_eq_true hp
  have t := tdiv_bd a b 4611686018427387904 ha1 ha2
  have s := tm_sign a b
  have f := fl_pos a b hb
  have e0 : (b == 0) = false := beq_eq_false_iff_ne.2 (by omega)
  unfold rflD
  rw [e0, i64w (x := Int.tdiv a b) (by omega), i64w (x := Int.tdiv a b - 1) (by omega)]
  simp only [cond_false]
  by_cases c : a.tmod b < 0
  · rw [if_pos (by omega)] at f
    rw [decT c, f]; rfl
  · rw [if_neg (by omega)] at f
    rw [decF c, f]; rfl
def rceD (a b : Int) : Int := -(-a / b)
noncomputable def book_rceD_gives : Book := [(108, eIIif rflP (fun a b => .int .i64 (rflD a b)))]
theorem book_rceD_gives_ok : BookOk Tryz.prog book_rceD_gives := (bookOk_cons (eIIif_ok rflD_gives) bookOk_nil)
theorem rceD_gives_tree (a b : Int) : evF Tryz.prog [] Cs book_rceD_gives 20 6 110 ([.int .i64 a, .int .i64 b].map AV.v) [] [] last =
  cond (rflP (IntKind.i64.wrap (0 - a)) b)
  (some (.v (.int .i64 (IntKind.i64.wrap (0 - (rflD (IntKind.i64.wrap (0 - a)) b))))))
  (none) := by kernel_rfl
theorem rceD_gives (a b : Int) (hp : rflP a b = true) : Gives Tryz.prog 110 [.int .i64 a, .int .i64 b] (.int .i64 (rceD a b)) := by
  refine evF_gives (E := []) mixed (by simp) Cs_ok book_rceD_gives_ok (lim := 20) (d := 6) (nm := []) ?_
  rw [rceD_gives_tree a b]
  obtain ⟨hb, ha1, ha2⟩ := of_decide_eq_true hp
  have e2 : rflP (-a) b = true := decide_eq_true ⟨hb, by omega, by omega⟩
  have e1 : IntKind.i64.wrap (0 - a) = -a := by rw [i64w (by omega)]; omega
  have f := flD_bd (-a) b (by omega) 4611686018427387904 (by omega) (by omega)
  unfold flD at f
  rw [if_pos hb] at f
  simp only [e1, e2, cond_true, rflD]
  rw [i64w (by omega)]
  unfold rceD
  rw [Int.zero_sub]
theorem rdiv_pos {a b c d : Int} (ha : -2147483648 ≤ a) (ab : a ≤ b) (hb : b ≤ 2147483648) (hc : 0 < c) (hd : 0 < d) (hL : divL a b c d ≤ divH a b c d) (X : Int × Int × Int → Option AV) :
    (cond (rflP (IntKind.i64.wrap (a * 1073741824)) c) (cond (rflP (IntKind.i64.wrap (a * 1073741824)) d) (cond (rflP (IntKind.i64.wrap (b * 1073741824)) c) (cond (rflP (IntKind.i64.wrap (b * 1073741824)) d)
      (X (rfitM (rlstM (rflD (IntKind.i64.wrap (a * 1073741824)) c) (rflD (IntKind.i64.wrap (a * 1073741824)) d)) (rmstM (rceD (IntKind.i64.wrap (b * 1073741824)) c) (rceD (IntKind.i64.wrap (b * 1073741824)) d)))) none) none) none) none) = X (fitR (divL a b c d) (divH a b c d)) := by
  rw [i64w (x := a * 1073741824) (by omega), i64w (x := b * 1073741824) (by omega)]
  have f1 : rflP (a * 1073741824) c = true := decide_eq_true ⟨hc, by omega, by omega⟩
  have f2 : rflP (a * 1073741824) d = true := decide_eq_true ⟨hd, by omega, by omega⟩
  have f3 : rflP (b * 1073741824) c = true := decide_eq_true ⟨hc, by omega, by omega⟩
  have f4 : rflP (b * 1073741824) d = true := decide_eq_true ⟨hd, by omega, by omega⟩
  rw [f1, f2, f3, f4]
  simp only [cond_true]
  have g : ∀ x y : Int, 0 < y → rflD x y = flD x y ∧ rceD x y = ceD x y := fun x y hy => by
    unfold rflD rceD ceD flD
    rw [if_pos hy, if_pos hy]; exact ⟨rfl, rfl⟩
  rw [(g _ _ hc).1, (g _ _ hd).1, (g _ _ hc).2, (g _ _ hd).2, rlst_eq, rmst_eq]
  obtain ⟨e1, e2⟩ := div_pos (a := a) (b := b) hc hd ab
  rw [e1, e2] at hL ⊢
  rw [rfit_eq hL]
noncomputable def book_rdiv_gives : Book := [(105, eP (fun a b => .bool (rzeroM a b))), (106, ePP (fun a b c d => pairsV (rtrnM a b c d))), (107, eII (fun a b => .int .i64 (rlstM a b))), (108, eIIif rflP (fun a b => .int .i64 (rflD a b))), (109, eII (fun a b => .int .i64 (rmstM a b))), (110, eIIif rflP (fun a b => .int .i64 (rceD a b))), (111, eII (fun a b => arcV (rfitM a b)))]
theorem book_rdiv_gives_ok : BookOk Tryz.prog book_rdiv_gives := (bookOk_cons (eP_ok rzeroM_gives) (bookOk_cons (ePP_ok rtrnM_gives) (bookOk_cons (eII_ok rlstM_gives) (bookOk_cons (eIIif_ok rflD_gives) (bookOk_cons (eII_ok rmstM_gives) (bookOk_cons (eIIif_ok rceD_gives) (bookOk_cons (eII_ok rfitM_gives) bookOk_nil)))))))
theorem rdiv_gives_tree (a b c d : Int) : evF Tryz.prog [] Cs book_rdiv_gives 20 6 62 ([.agg ⟨[.int .i64 a, .int .i64 b]⟩, .agg ⟨[.int .i64 c, .int .i64 d]⟩].map AV.v) [] [] last =
  cond (rzeroM c d)
  (some (.v (.tuple ⟨[.agg ⟨[.int .i64 0, .int .i64 0]⟩, .int .i64 16]⟩)))
  (lt (rtrnM a b c d) fun x1 =>
   cond (rflP (IntKind.i64.wrap (x1.1 * 1073741824)) x1.2.2.1)
   (cond (rflP (IntKind.i64.wrap (x1.1 * 1073741824)) x1.2.2.2)
    (cond (rflP (IntKind.i64.wrap (x1.2.1 * 1073741824)) x1.2.2.1)
     (cond (rflP (IntKind.i64.wrap (x1.2.1 * 1073741824)) x1.2.2.2)
      (lt (rfitM (rlstM (rflD (IntKind.i64.wrap (x1.1 * 1073741824)) x1.2.2.1) (rflD (IntKind.i64.wrap (x1.1 * 1073741824)) x1.2.2.2)) (rmstM (rceD (IntKind.i64.wrap (x1.2.1 * 1073741824)) x1.2.2.1) (rceD (IntKind.i64.wrap (x1.2.1 * 1073741824)) x1.2.2.2))) fun x2 =>
       some (.v (.tuple ⟨[.agg ⟨[.int .i64 x2.1, .int .i64 x2.2.1]⟩, .int .i64 x2.2.2]⟩)))
      (none))
     (none))
    (none))
   (none)) := by kernel_rfl
theorem rdiv_gives (a b c d : Int) (hp : bothB a b c d = true) : Gives Tryz.prog 62 [.agg ⟨[.int .i64 a, .int .i64 b]⟩, .agg ⟨[.int .i64 c, .int .i64 d]⟩] (arcV (divR a b c d)) := by
  refine evF_gives (E := []) mixed (by simp) Cs_ok book_rdiv_gives_ok (lim := 20) (d := 6) (nm := []) ?_
  rw [rdiv_gives_tree a b c d]
  obtain ⟨a1, a2, a3, c1, c2, c3⟩ := both_bd hp
  have zz : rzeroM c d = zeroB c d := by
    unfold rzeroM zeroB
    by_cases h1 : c ≤ 0
    · rw [decT h1, cond_true]; exact decide_eq_decide.2 (by omega)
    · rw [decF h1, cond_false, decF (by omega)]
  unfold divR
  simp only [lt]
  rw [if_pos hp, zz]
  cases hz : zeroB c d
  · have hz' := of_decide_eq_false hz
    rw [cond_false, if_neg (by simp)]
    have hL := div_order (a := a) (b := b) (c := c) (d := d) (by omega) a2 c2
    by_cases s : c < 0
    · have e : rtrnM a b c d = (-b, -a, -d, -c) := by
        unfold rtrnM rnegM
        simp only [lt]
        rw [decT s, i64w (x := 0 - b) (by omega), i64w (x := 0 - a) (by omega), i64w (x := 0 - d) (by omega), i64w (x := 0 - c) (by omega)]
        simp
      rw [e]
      dsimp only
      obtain ⟨n1, n2⟩ := div_neg2 (a := a) (b := b) (c := c) (d := d) (by omega) (by omega)
      refine (rdiv_pos (a := -b) (b := -a) (c := -d) (d := -c) (by omega) (by omega) (by omega) (by omega) (by omega) (by omega) (fun x => some (.v (.tuple ⟨[.agg ⟨[.int .i64 x.1, .int .i64 x.2.1]⟩, .int .i64 x.2.2]⟩)))).trans ?_
      rw [n1, n2]
      rfl
    · have e : rtrnM a b c d = (a, b, c, d) := by
        unfold rtrnM
        rw [decF s]; rfl
      rw [e]
      dsimp only
      exact rdiv_pos (a := a) (b := b) (c := c) (d := d) (by omega) (by omega) (by omega) (by omega) (by omega) hL (fun x => some (.v (.tuple ⟨[.agg ⟨[.int .i64 x.1, .int .i64 x.2.1]⟩, .int .i64 x.2.2]⟩)))
  · rfl
noncomputable def book_rsqt_gives : Book := [(109, eII (fun a b => .int .i64 (rmstM a b))), (121, eIif rootF (fun a => .int .i64 (irt a)))]
theorem book_rsqt_gives_ok : BookOk Tryz.prog book_rsqt_gives := (bookOk_cons (eII_ok rmstM_gives) (bookOk_cons (eIif_ok rroot_gives) bookOk_nil))
theorem rsqt_gives_tree (a b : Int) : evF Tryz.prog [] Cs book_rsqt_gives 20 6 84 ([.agg ⟨[.int .i64 a, .int .i64 b]⟩].map AV.v) [] [] last =
  cond (decide (b < 0))
  (some (.v (.tuple ⟨[.agg ⟨[.int .i64 0, .int .i64 0]⟩, .int .i64 2]⟩)))
  (cond (rootF (IntKind.i64.wrap ((rmstM a 0) * 1073741824)))
   (cond (rootF (IntKind.i64.wrap (b * 1073741824)))
    (cond (decide (IntKind.i64.wrap ((irt (IntKind.i64.wrap (b * 1073741824))) * (irt (IntKind.i64.wrap (b * 1073741824)))) < IntKind.i64.wrap (b * 1073741824)))
     (some (.v (.tuple ⟨[.agg ⟨[.int .i64 (irt (IntKind.i64.wrap ((rmstM a 0) * 1073741824))), .int .i64 (IntKind.i64.wrap ((irt (IntKind.i64.wrap (b * 1073741824))) + 1))]⟩, .int .i64 0]⟩)))
     (some (.v (.tuple ⟨[.agg ⟨[.int .i64 (irt (IntKind.i64.wrap ((rmstM a 0) * 1073741824))), .int .i64 (irt (IntKind.i64.wrap (b * 1073741824)))]⟩, .int .i64 0]⟩))))
    (none))
   (none)) := by kernel_rfl
theorem rsqt_gives (a b : Int) (hp : validB a b = true) : Gives Tryz.prog 84 [.agg ⟨[.int .i64 a, .int .i64 b]⟩] (arcV (sqtR a b)) := by
  refine evF_gives (E := []) mixed (by simp) Cs_ok book_rsqt_gives_ok (lim := 20) (d := 6) (nm := []) ?_
  rw [rsqt_gives_tree a b]
  have v := val_bd hp
  unfold sqtR
  rw [if_pos hp]
  by_cases c : b < 0
  · rw [decT c, if_pos c]; rfl
  · rw [decF c, if_neg c, rmst_eq, i64w (x := max a 0 * 1073741824) (by omega), i64w (x := b * 1073741824) (by omega), show max a 0 = max 0 a by omega]
    have q1 : rootF (b * 1073741824) = true := decide_eq_true ⟨by omega, by omega⟩
    have q2 : rootF (max 0 a * 1073741824) = true := decide_eq_true ⟨by omega, by omega⟩
    have r := irt_ok (n := b * 1073741824) (by omega) (by omega)
    have s := lt_sq (x := irt (b * 1073741824)) (y := 2147483648) r.1 (by omega) (by omega)
    have z := Int.mul_nonneg r.1 r.1
    have o := sqt_ok (a := max 0 a) (b := b) (by omega) (by omega) v.2.2
    have fit : fitR (irt (max 0 a * 1073741824)) (iru (b * 1073741824)) = (irt (max 0 a * 1073741824), iru (b * 1073741824), 0) := by
      unfold fitR
      rw [if_pos (val_mk (by omega) o.2.2.1 o.2.2.2)]
    rw [q1, q2, i64w (x := irt (b * 1073741824) * irt (b * 1073741824)) (by omega), i64w (x := irt (b * 1073741824) + 1) (by omega), fit]
    unfold iru
    by_cases k : irt (b * 1073741824) * irt (b * 1073741824) < b * 1073741824
    · rw [decT k, if_pos k]; rfl
    · rw [decF k, if_neg k]; rfl
def rfl5 (a b : Int) : Int := a / b
noncomputable def book_rfl5_gives : Book := []
theorem book_rfl5_gives_ok : BookOk Tryz.prog book_rfl5_gives := bookOk_nil
theorem rfl5_gives_tree (a b : Int) : evF Tryz.prog [] Cs book_rfl5_gives 20 6 78 ([.int .i64 a, .int .i64 b].map AV.v) [] [] last =
  cond (b == 0)
  (none)
  (cond (b == 0)
   (none)
   (cond (decide ((Int.tmod a b) < 0))
    (some (.v (.int .i64 (IntKind.i64.wrap ((IntKind.i64.wrap (Int.tdiv a b)) - 1)))))
    (some (.v (.int .i64 (IntKind.i64.wrap (Int.tdiv a b))))))) := by kernel_rfl
theorem rfl5_gives (a b : Int) (hp : aflP a b = true) : Gives Tryz.prog 78 [.int .i64 a, .int .i64 b] (.int .i64 (rfl5 a b)) := by
  refine evF_gives (E := []) mixed (by simp) Cs_ok book_rfl5_gives_ok (lim := 20) (d := 6) (nm := []) ?_
  rw [rfl5_gives_tree a b]
  obtain ⟨hb, ha1, ha2⟩ := of_decide_eq_true hp
  have t := tdiv_bd a b 4611686018427387904 ha1 ha2
  have s := tm_sign a b
  have e0 : (b == 0) = false := beq_eq_false_iff_ne.2 (by omega)
  rw [e0, i64w (x := Int.tdiv a b) (by omega), i64w (x := Int.tdiv a b - 1) (by omega)]
  simp only [cond_false]
  unfold rfl5
  rw [fl_pos a b hb]
  by_cases h1 : a.tmod b < 0
  · rw [decT h1, if_pos (by omega)]; rfl
  · rw [decF h1, if_neg (by omega)]; rfl
def rce5 (a b : Int) : Int := -(-a / b)
noncomputable def book_rce5_gives : Book := []
theorem book_rce5_gives_ok : BookOk Tryz.prog book_rce5_gives := bookOk_nil
theorem rce5_gives_tree (a b : Int) : evF Tryz.prog [] Cs book_rce5_gives 20 6 79 ([.int .i64 a, .int .i64 b].map AV.v) [] [] last =
  cond (b == 0)
  (none)
  (cond (b == 0)
   (none)
   (cond (decide ((Int.tmod a b) > 0))
    (some (.v (.int .i64 (IntKind.i64.wrap ((IntKind.i64.wrap (Int.tdiv a b)) + 1)))))
    (some (.v (.int .i64 (IntKind.i64.wrap (Int.tdiv a b))))))) := by kernel_rfl
theorem rce5_gives (a b : Int) (hp : aflP a b = true) : Gives Tryz.prog 79 [.int .i64 a, .int .i64 b] (.int .i64 (rce5 a b)) := by
  refine evF_gives (E := []) mixed (by simp) Cs_ok book_rce5_gives_ok (lim := 20) (d := 6) (nm := []) ?_
  rw [rce5_gives_tree a b]
  obtain ⟨hb, ha1, ha2⟩ := of_decide_eq_true hp
  have t := tdiv_bd a b 4611686018427387904 ha1 ha2
  have s := tm_sign a b
  have n1 : (-a).tmod b = -(a.tmod b) := Int.neg_tmod a b
  have n2 : (-a).tdiv b = -(a.tdiv b) := Int.neg_tdiv a b
  have e0 : (b == 0) = false := beq_eq_false_iff_ne.2 (by omega)
  rw [e0, i64w (x := Int.tdiv a b) (by omega), i64w (x := Int.tdiv a b + 1) (by omega)]
  simp only [cond_false]
  unfold rce5
  rw [fl_pos (-a) b hb, n1, n2]
  by_cases h1 : a.tmod b > 0
  · rw [decT h1, if_pos (by omega), show -(-a.tdiv b - 1) = a.tdiv b + 1 by omega]; rfl
  · rw [decF h1, if_neg (by omega), Int.neg_neg]; rfl
def rtimP (a b n d : Int) : Bool := decide (-100000000 ≤ a ∧ a ≤ b ∧ b ≤ 100000000 ∧ ((n = 1 ∧ (d = 2 ∨ d = 4)) ∨ (d = 1 ∧ (n = 2 ∨ n = 4))))
def rtimR (a b n d : Int) : Int × Int := ((a * n) / d, -(-(b * n) / d))
noncomputable def book_rtimR_gives : Book := [(50, eP (fun a b => pairV (ranegM a b).1 (ranegM a b).2)), (78, eIIif aflP (fun a b => .int .i64 (rfl5 a b))), (79, eIIif aflP (fun a b => .int .i64 (rce5 a b)))]
theorem book_rtimR_gives_ok : BookOk Tryz.prog book_rtimR_gives := (bookOk_cons (eP_ok ranegM_gives) (bookOk_cons (eIIif_ok rfl5_gives) (bookOk_cons (eIIif_ok rce5_gives) bookOk_nil)))
theorem rtimR_gives_tree (a b c d : Int) : evF Tryz.prog [] Cs book_rtimR_gives 20 2 39 ([.agg ⟨[.int .i64 a, .int .i64 b]⟩, .int .i64 c, .int .i64 d].map AV.v) [] [] last =
  cond (decide (c < 0))
  (lt (ranegM a b) fun _ =>
   cond (decide (IntKind.i64.wrap (0 - c) < 0))
   (none)
   (none))
  (cond (aflP (IntKind.i64.wrap (a * c)) d)
   (cond (aflP (IntKind.i64.wrap (b * c)) d)
    (some (.v (.agg ⟨[.int .i64 (rfl5 (IntKind.i64.wrap (a * c)) d), .int .i64 (rce5 (IntKind.i64.wrap (b * c)) d)]⟩)))
    (none))
   (none)) := by kernel_rfl
theorem rtimR_gives (a b c d : Int) (hp : rtimP a b c d = true) : Gives Tryz.prog 39 [.agg ⟨[.int .i64 a, .int .i64 b]⟩, .int .i64 c, .int .i64 d] (pairV (rtimR a b c d).1 (rtimR a b c d).2) := by
  refine evF_gives (E := []) mixed (by simp) Cs_ok book_rtimR_gives_ok (lim := 20) (d := 2) (nm := []) ?_
  rw [rtimR_gives_tree a b c d]
  obtain ⟨h1, h2, h3, h⟩ := of_decide_eq_true hp
  rw [decF (show ¬ c < 0 by omega), cond_false]
  have q : -1000000000 ≤ a * c ∧ a * c ≤ 1000000000 ∧ -1000000000 ≤ b * c ∧ b * c ≤ 1000000000 := by
    rcases h with ⟨rfl, _⟩ | ⟨_, rfl | rfl⟩ <;> omega
  have q1 : aflP (a * c) d = true := decT ⟨by omega, by omega, by omega⟩
  have q2 : aflP (b * c) d = true := decT ⟨by omega, by omega, by omega⟩
  rw [i64w (x := a * c) (by omega), i64w (x := b * c) (by omega), q1, q2]
  rfl
noncomputable def book_rkV_mods : Book := []
theorem book_rkV_mods_ok : BookOk Tryz.prog book_rkV_mods := bookOk_nil
theorem rkV_mods_tree (k a b c : Int) : evF Tryz.prog [] Cs book_rkV_mods 20 6 82 (.p [] 0 :: [.agg ⟨[.int .i64 a, .int .i64 b]⟩, .int .i64 c].map AV.v) [([], ⟨[.v (.int .i64 k)], 60⟩)] [] lastC =
  cond (k == 0)
  (cond (c != 0)
   (some (.v (.agg ⟨[.int .i64 0, .int .i64 0]⟩), ⟨[.v (.int .i64 c)], 60⟩))
   (some (.v (.agg ⟨[.int .i64 a, .int .i64 b]⟩), ⟨[.v (.int .i64 c)], 60⟩)))
  (cond (c != 0)
   (some (.v (.agg ⟨[.int .i64 0, .int .i64 0]⟩), ⟨[.v (.int .i64 k)], 60⟩))
   (some (.v (.agg ⟨[.int .i64 a, .int .i64 b]⟩), ⟨[.v (.int .i64 k)], 60⟩))) := by kernel_rfl
theorem rkV_mods (k a b c : Int) : Mods Tryz.prog 82 60 k [.agg ⟨[.int .i64 a, .int .i64 b]⟩, .int .i64 c] (pairV (rkV a b c).1 (rkV a b c).2) (rkC k a b c) := by
  refine evF_mods (E := []) mixed (by simp) Cs_ok book_rkV_mods_ok (lim := 20) (d := 6) (nm := []) ?_
  rw [rkV_mods_tree k a b c]
  unfold rkV rkC keepE
  by_cases h : k = 0
  · subst h
    by_cases h2 : c = 0
    · subst h2
      rfl
    · rw [bne_iff_ne.2 h2, if_neg h2, if_pos rfl]
      rfl
  · rw [beq_eq_false_iff_ne.2 h, if_neg h]
    by_cases h2 : c = 0
    · subst h2
      rfl
    · rw [bne_iff_ne.2 h2, if_neg h2]
      rfl
end Go.Proofs.YtipjnfabodfkcaaGreatDoor
namespace Go.Proofs.YtipjnfabodfkcaaGreatDoor
open Ev

open SM TB TA
open Ev (lt keepE)
theorem tim_t {a b n d : Int} (h1 : -100000000 ≤ a) (h2 : a ≤ b) (h3 : b ≤ 100000000) (h : (n = 1 ∧ (d = 2 ∨ d = 4)) ∨ (d = 1 ∧ (n = 2 ∨ n = 4))) : rtimP a b n d = true := decide_eq_true ⟨h1, h2, h3, h⟩
end Go.Proofs.YtipjnfabodfkcaaGreatDoor

/-
  The reference's enclosures and fixed-point operations: what each function gives.
-/
import Derived.Test.YtadefgjpkhhffaaGreatF4
import Derived.Test.YtadefgjpkhhffaaGreatT50
import Derived.Test.YtadefgjpkhhffaaGreatBg
namespace Go.Proofs.YtadefgjpkhhffaaGreat
open Ev

open SM
def intBoolV (r : Int × Bool) : Value := .tuple ⟨[.int .i64 r.1, .bool r.2]⟩
def intsV (r : Int × Int) : Value := .tuple ⟨[.int .i64 r.1, .int .i64 r.2]⟩
def pairsV (r : Int × Int × Int × Int) : Value := .tuple ⟨[pairV r.1 r.2.1, pairV r.2.2.1 r.2.2.2]⟩
def rflR (n : Int) : Int × Bool := (lob n, exa (red n))
def solP (r : Int × Int × Int × Int) : Value := .agg ⟨[.int .i64 r.1, .int .i64 r.2.1, .int .i64 r.2.2.1, .int .i64 r.2.2.2]⟩
theorem rflR_gives (n : Int) : Gives Tryz.prog 77 [.int .i64 n] (intBoolV (rflR n)) := fun w => rfloor_any n w
noncomputable def rendsM (a : Int) : Int × Int :=
  lt (rflR a) fun x1 =>
  cond x1.2
  ((x1.1, x1.1))
  ((x1.1, IntKind.i64.wrap (x1.1 + 1)))
noncomputable def book_rendsM_gives : Book := [(77, eI (fun a => intBoolV (rflR a)))]
theorem book_rendsM_gives_ok : BookOk Tryz.prog book_rendsM_gives := (bookOk_cons (eI_ok rflR_gives) bookOk_nil)
theorem rendsM_gives_tree (a : Int) : evF Tryz.prog Es Cs book_rendsM_gives 20 6 56 ([.int .i64 a].map AV.v) [] [] last =
  lt (rflR a) fun x1 =>
  cond x1.2
  (some (.v (.tuple ⟨[.int .i64 x1.1, .int .i64 x1.1]⟩)))
  (some (.v (.tuple ⟨[.int .i64 x1.1, .int .i64 (IntKind.i64.wrap (x1.1 + 1))]⟩))) := by kernel_rfl
theorem rendsM_gives (a : Int) : Gives Tryz.prog 56 [.int .i64 a] (intsV (rendsM a)) := by
  refine evF_gives (E := Es) mixed Es_ok Cs_ok book_rendsM_gives_ok (lim := 20) (d := 6) (nm := []) ?_
  rw [rendsM_gives_tree a]
  unfold rendsM
  refine case_lt (fun (r : Int × Int) => AV.v (intsV (r))) fun x1 => ?_
  refine case_cond (fun (r : Int × Int) => AV.v (intsV (r))) ?_ ?_
  · rfl
  · rfl
noncomputable def rhasM (a b c : Int) : Bool :=
  cond (decide ((Int.tmod (IntKind.i64.wrap (c - a)) 21600000) < 0))
  ((decide (IntKind.i64.wrap (a + (IntKind.i64.wrap ((Int.tmod (IntKind.i64.wrap (c - a)) 21600000) + 21600000))) ≤ b)))
  ((decide (IntKind.i64.wrap (a + (Int.tmod (IntKind.i64.wrap (c - a)) 21600000)) ≤ b)))
noncomputable def book_rhasM_gives : Book := []
theorem book_rhasM_gives_ok : BookOk Tryz.prog book_rhasM_gives := bookOk_nil
theorem rhasM_gives_tree (a b c : Int) : evF Tryz.prog Es Cs book_rhasM_gives 20 6 57 ([.agg ⟨[.int .i64 a, .int .i64 b]⟩, .int .i64 c].map AV.v) [] [] last =
  cond (decide ((Int.tmod (IntKind.i64.wrap (c - a)) 21600000) < 0))
  (some (.v (.bool (decide (IntKind.i64.wrap (a + (IntKind.i64.wrap ((Int.tmod (IntKind.i64.wrap (c - a)) 21600000) + 21600000))) ≤ b)))))
  (some (.v (.bool (decide (IntKind.i64.wrap (a + (Int.tmod (IntKind.i64.wrap (c - a)) 21600000)) ≤ b))))) := by kernel_rfl
theorem rhasM_gives (a b c : Int) : Gives Tryz.prog 57 [.agg ⟨[.int .i64 a, .int .i64 b]⟩, .int .i64 c] (.bool (rhasM a b c)) := by
  refine evF_gives (E := Es) mixed Es_ok Cs_ok book_rhasM_gives_ok (lim := 20) (d := 6) (nm := []) ?_
  rw [rhasM_gives_tree a b c]
  unfold rhasM
  refine case_cond (fun (r : Bool) => AV.v (.bool (r))) ?_ ?_
  · rfl
  · rfl
noncomputable def rsineM (a b : Int) : Int × Int :=
  lt (rendsM a) fun x1 =>
  lt (rendsM b) fun x2 =>
  cond (rhasM a b 5400000)
  (cond (rhasM a b (-5400000))
   (((-1073741824), 1073741824))
   (((mn x1.1 x2.1), 1073741824)))
  (cond (rhasM a b (-5400000))
   (((-1073741824), (mx x1.2 x2.2)))
   (((mn x1.1 x2.1), (mx x1.2 x2.2))))
noncomputable def book_rsineM_gives : Book := [(56, eI (fun a => intsV (rendsM a))), (57, ePI (fun a b c => .bool (rhasM a b c)))]
theorem book_rsineM_gives_ok : BookOk Tryz.prog book_rsineM_gives := (bookOk_cons (eI_ok rendsM_gives) (bookOk_cons (ePI_ok rhasM_gives) bookOk_nil))
theorem rsineM_gives_tree (a b : Int) : evF Tryz.prog Es Cs book_rsineM_gives 20 6 41 ([.agg ⟨[.int .i64 a, .int .i64 b]⟩].map AV.v) [] [] last =
  lt (rendsM a) fun x1 =>
  lt (rendsM b) fun x2 =>
  cond (rhasM a b 5400000)
  (cond (rhasM a b (-5400000))
   (some (.v (.agg ⟨[.int .i64 (-1073741824), .int .i64 1073741824]⟩)))
   (some (.v (.agg ⟨[.int .i64 (mn x1.1 x2.1), .int .i64 1073741824]⟩))))
  (cond (rhasM a b (-5400000))
   (some (.v (.agg ⟨[.int .i64 (-1073741824), .int .i64 (mx x1.2 x2.2)]⟩)))
   (some (.v (.agg ⟨[.int .i64 (mn x1.1 x2.1), .int .i64 (mx x1.2 x2.2)]⟩)))) := by kernel_rfl
theorem rsineM_gives (a b : Int) : Gives Tryz.prog 41 [.agg ⟨[.int .i64 a, .int .i64 b]⟩] (pairV (rsineM a b).1 (rsineM a b).2) := by
  refine evF_gives (E := Es) mixed Es_ok Cs_ok book_rsineM_gives_ok (lim := 20) (d := 6) (nm := []) ?_
  rw [rsineM_gives_tree a b]
  unfold rsineM
  refine case_lt (fun (r : Int × Int) => AV.v (pairV (r).1 (r).2)) fun x1 => ?_
  refine case_lt (fun (r : Int × Int) => AV.v (pairV (r).1 (r).2)) fun x2 => ?_
  refine case_cond (fun (r : Int × Int) => AV.v (pairV (r).1 (r).2)) ?_ ?_
  · refine case_cond (fun (r : Int × Int) => AV.v (pairV (r).1 (r).2)) ?_ ?_
    · rfl
    · rfl
  · refine case_cond (fun (r : Int × Int) => AV.v (pairV (r).1 (r).2)) ?_ ?_
    · rfl
    · rfl
noncomputable def rsinM (a b : Int) : Int × Int :=
  lt (rsineM a b) fun x1 =>
  (x1.1, x1.2)
noncomputable def book_rsinM_gives : Book := [(41, eP (fun a b => pairV (rsineM a b).1 (rsineM a b).2))]
theorem book_rsinM_gives_ok : BookOk Tryz.prog book_rsinM_gives := (bookOk_cons (eP_ok rsineM_gives) bookOk_nil)
theorem rsinM_gives_tree (a b : Int) : evF Tryz.prog Es Cs book_rsinM_gives 20 6 20 ([.agg ⟨[.int .i64 a, .int .i64 b]⟩].map AV.v) [] [] last =
  lt (rsineM a b) fun x1 =>
  some (.v (.agg ⟨[.int .i64 x1.1, .int .i64 x1.2]⟩)) := by kernel_rfl
theorem rsinM_gives (a b : Int) : Gives Tryz.prog 20 [.agg ⟨[.int .i64 a, .int .i64 b]⟩] (pairV (rsinM a b).1 (rsinM a b).2) := by
  refine evF_gives (E := Es) mixed Es_ok Cs_ok book_rsinM_gives_ok (lim := 20) (d := 6) (nm := []) ?_
  rw [rsinM_gives_tree a b]
  unfold rsinM
  refine case_lt (fun (r : Int × Int) => AV.v (pairV (r).1 (r).2)) fun x1 => ?_
  rfl
noncomputable def rcosM (a b : Int) : Int × Int :=
  lt (rsineM (IntKind.i64.wrap (a + 5400000)) (IntKind.i64.wrap (b + 5400000))) fun x1 =>
  (x1.1, x1.2)
noncomputable def book_rcosM_gives : Book := [(41, eP (fun a b => pairV (rsineM a b).1 (rsineM a b).2))]
theorem book_rcosM_gives_ok : BookOk Tryz.prog book_rcosM_gives := (bookOk_cons (eP_ok rsineM_gives) bookOk_nil)
theorem rcosM_gives_tree (a b : Int) : evF Tryz.prog Es Cs book_rcosM_gives 20 6 22 ([.agg ⟨[.int .i64 a, .int .i64 b]⟩].map AV.v) [] [] last =
  lt (rsineM (IntKind.i64.wrap (a + 5400000)) (IntKind.i64.wrap (b + 5400000))) fun x1 =>
  some (.v (.agg ⟨[.int .i64 x1.1, .int .i64 x1.2]⟩)) := by kernel_rfl
theorem rcosM_gives (a b : Int) : Gives Tryz.prog 22 [.agg ⟨[.int .i64 a, .int .i64 b]⟩] (pairV (rcosM a b).1 (rcosM a b).2) := by
  refine evF_gives (E := Es) mixed Es_ok Cs_ok book_rcosM_gives_ok (lim := 20) (d := 6) (nm := []) ?_
  rw [rcosM_gives_tree a b]
  unfold rcosM
  refine case_lt (fun (r : Int × Int) => AV.v (pairV (r).1 (r).2)) fun x1 => ?_
  rfl
noncomputable def rfitM (a b : Int) : Int × Int × Int :=
  cond (decide (a < (-2147483648)))
  ((0, 0, 5))
  (cond (decide (b > 2147483648))
   ((0, 0, 5))
   ((a, b, 0)))
noncomputable def book_rfitM_gives : Book := []
theorem book_rfitM_gives_ok : BookOk Tryz.prog book_rfitM_gives := bookOk_nil
theorem rfitM_gives_tree (a b : Int) : evF Tryz.prog Es Cs book_rfitM_gives 20 6 60 ([.int .i64 a, .int .i64 b].map AV.v) [] [] last =
  cond (decide (a < (-2147483648)))
  (some (.v (.tuple ⟨[.agg ⟨[.int .i64 0, .int .i64 0]⟩, .int .i64 5]⟩)))
  (cond (decide (b > 2147483648))
   (some (.v (.tuple ⟨[.agg ⟨[.int .i64 0, .int .i64 0]⟩, .int .i64 5]⟩)))
   (some (.v (.tuple ⟨[.agg ⟨[.int .i64 a, .int .i64 b]⟩, .int .i64 0]⟩)))) := by kernel_rfl
theorem rfitM_gives (a b : Int) : Gives Tryz.prog 60 [.int .i64 a, .int .i64 b] (arcV (rfitM a b)) := by
  refine evF_gives (E := Es) mixed Es_ok Cs_ok book_rfitM_gives_ok (lim := 20) (d := 6) (nm := []) ?_
  rw [rfitM_gives_tree a b]
  unfold rfitM
  refine case_cond (fun (r : Int × Int × Int) => AV.v (arcV (r))) ?_ ?_
  · rfl
  · refine case_cond (fun (r : Int × Int × Int) => AV.v (arcV (r))) ?_ ?_
    · rfl
    · rfl
noncomputable def rlstM (a b : Int) : Int :=
  cond (decide (b < a))
  (b)
  (a)
noncomputable def book_rlstM_gives : Book := []
theorem book_rlstM_gives_ok : BookOk Tryz.prog book_rlstM_gives := bookOk_nil
theorem rlstM_gives_tree (a b : Int) : evF Tryz.prog Es Cs book_rlstM_gives 20 6 58 ([.int .i64 a, .int .i64 b].map AV.v) [] [] last =
  cond (decide (b < a))
  (some (.v (.int .i64 b)))
  (some (.v (.int .i64 a))) := by kernel_rfl
theorem rlstM_gives (a b : Int) : Gives Tryz.prog 58 [.int .i64 a, .int .i64 b] (.int .i64 (rlstM a b)) := by
  refine evF_gives (E := Es) mixed Es_ok Cs_ok book_rlstM_gives_ok (lim := 20) (d := 6) (nm := []) ?_
  rw [rlstM_gives_tree a b]
  unfold rlstM
  refine case_cond (fun (r : Int) => AV.v (.int .i64 (r))) ?_ ?_
  · rfl
  · rfl
noncomputable def rmstM (a b : Int) : Int :=
  cond (decide (a < b))
  (b)
  (a)
noncomputable def book_rmstM_gives : Book := []
theorem book_rmstM_gives_ok : BookOk Tryz.prog book_rmstM_gives := bookOk_nil
theorem rmstM_gives_tree (a b : Int) : evF Tryz.prog Es Cs book_rmstM_gives 20 6 59 ([.int .i64 a, .int .i64 b].map AV.v) [] [] last =
  cond (decide (a < b))
  (some (.v (.int .i64 b)))
  (some (.v (.int .i64 a))) := by kernel_rfl
theorem rmstM_gives (a b : Int) : Gives Tryz.prog 59 [.int .i64 a, .int .i64 b] (.int .i64 (rmstM a b)) := by
  refine evF_gives (E := Es) mixed Es_ok Cs_ok book_rmstM_gives_ok (lim := 20) (d := 6) (nm := []) ?_
  rw [rmstM_gives_tree a b]
  unfold rmstM
  refine case_cond (fun (r : Int) => AV.v (.int .i64 (r))) ?_ ?_
  · rfl
  · rfl
noncomputable def rnegM (a b : Int) : Int × Int :=
  (IntKind.i64.wrap (0 - b), IntKind.i64.wrap (0 - a))
noncomputable def book_rnegM_gives : Book := []
theorem book_rnegM_gives_ok : BookOk Tryz.prog book_rnegM_gives := bookOk_nil
theorem rnegM_gives_tree (a b : Int) : evF Tryz.prog Es Cs book_rnegM_gives 20 6 32 ([.agg ⟨[.int .i64 a, .int .i64 b]⟩].map AV.v) [] [] last =
  some (.v (.agg ⟨[.int .i64 (IntKind.i64.wrap (0 - b)), .int .i64 (IntKind.i64.wrap (0 - a))]⟩)) := by kernel_rfl
theorem rnegM_gives (a b : Int) : Gives Tryz.prog 32 [.agg ⟨[.int .i64 a, .int .i64 b]⟩] (pairV (rnegM a b).1 (rnegM a b).2) := by
  refine evF_gives (E := Es) mixed Es_ok Cs_ok book_rnegM_gives_ok (lim := 20) (d := 6) (nm := []) ?_
  rw [rnegM_gives_tree a b]
  rfl
noncomputable def rmulM (a b c d : Int) : Int × Int × Int :=
  cond (decide ((Int.tmod (rlstM (rlstM (IntKind.i64.wrap (a * c)) (IntKind.i64.wrap (a * d))) (rlstM (IntKind.i64.wrap (b * c)) (IntKind.i64.wrap (b * d)))) 1073741824) < 0))
  (cond (decide ((Int.tmod (IntKind.i64.wrap (0 - (rmstM (rmstM (IntKind.i64.wrap (a * c)) (IntKind.i64.wrap (a * d))) (rmstM (IntKind.i64.wrap (b * c)) (IntKind.i64.wrap (b * d)))))) 1073741824) < 0))
   (lt (rfitM (IntKind.i64.wrap ((IntKind.i64.wrap (Int.tdiv (rlstM (rlstM (IntKind.i64.wrap (a * c)) (IntKind.i64.wrap (a * d))) (rlstM (IntKind.i64.wrap (b * c)) (IntKind.i64.wrap (b * d)))) 1073741824)) - 1)) (IntKind.i64.wrap (0 - (IntKind.i64.wrap ((IntKind.i64.wrap (Int.tdiv (IntKind.i64.wrap (0 - (rmstM (rmstM (IntKind.i64.wrap (a * c)) (IntKind.i64.wrap (a * d))) (rmstM (IntKind.i64.wrap (b * c)) (IntKind.i64.wrap (b * d)))))) 1073741824)) - 1))))) fun x1 =>
    (x1.1, x1.2.1, x1.2.2))
   (lt (rfitM (IntKind.i64.wrap ((IntKind.i64.wrap (Int.tdiv (rlstM (rlstM (IntKind.i64.wrap (a * c)) (IntKind.i64.wrap (a * d))) (rlstM (IntKind.i64.wrap (b * c)) (IntKind.i64.wrap (b * d)))) 1073741824)) - 1)) (IntKind.i64.wrap (0 - (IntKind.i64.wrap (Int.tdiv (IntKind.i64.wrap (0 - (rmstM (rmstM (IntKind.i64.wrap (a * c)) (IntKind.i64.wrap (a * d))) (rmstM (IntKind.i64.wrap (b * c)) (IntKind.i64.wrap (b * d)))))) 1073741824))))) fun x2 =>
    (x2.1, x2.2.1, x2.2.2)))
  (cond (decide ((Int.tmod (IntKind.i64.wrap (0 - (rmstM (rmstM (IntKind.i64.wrap (a * c)) (IntKind.i64.wrap (a * d))) (rmstM (IntKind.i64.wrap (b * c)) (IntKind.i64.wrap (b * d)))))) 1073741824) < 0))
   (lt (rfitM (IntKind.i64.wrap (Int.tdiv (rlstM (rlstM (IntKind.i64.wrap (a * c)) (IntKind.i64.wrap (a * d))) (rlstM (IntKind.i64.wrap (b * c)) (IntKind.i64.wrap (b * d)))) 1073741824)) (IntKind.i64.wrap (0 - (IntKind.i64.wrap ((IntKind.i64.wrap (Int.tdiv (IntKind.i64.wrap (0 - (rmstM (rmstM (IntKind.i64.wrap (a * c)) (IntKind.i64.wrap (a * d))) (rmstM (IntKind.i64.wrap (b * c)) (IntKind.i64.wrap (b * d)))))) 1073741824)) - 1))))) fun x3 =>
    (x3.1, x3.2.1, x3.2.2))
   (lt (rfitM (IntKind.i64.wrap (Int.tdiv (rlstM (rlstM (IntKind.i64.wrap (a * c)) (IntKind.i64.wrap (a * d))) (rlstM (IntKind.i64.wrap (b * c)) (IntKind.i64.wrap (b * d)))) 1073741824)) (IntKind.i64.wrap (0 - (IntKind.i64.wrap (Int.tdiv (IntKind.i64.wrap (0 - (rmstM (rmstM (IntKind.i64.wrap (a * c)) (IntKind.i64.wrap (a * d))) (rmstM (IntKind.i64.wrap (b * c)) (IntKind.i64.wrap (b * d)))))) 1073741824))))) fun x4 =>
    (x4.1, x4.2.1, x4.2.2)))
noncomputable def book_rmulM_gives : Book := [(58, eII (fun a b => .int .i64 (rlstM a b))), (59, eII (fun a b => .int .i64 (rmstM a b))), (60, eII (fun a b => arcV (rfitM a b)))]
theorem book_rmulM_gives_ok : BookOk Tryz.prog book_rmulM_gives := (bookOk_cons (eII_ok rlstM_gives) (bookOk_cons (eII_ok rmstM_gives) (bookOk_cons (eII_ok rfitM_gives) bookOk_nil)))
theorem rmulM_gives_tree (a b c d : Int) : evF Tryz.prog Es Cs book_rmulM_gives 20 6 42 ([.agg ⟨[.int .i64 a, .int .i64 b]⟩, .agg ⟨[.int .i64 c, .int .i64 d]⟩].map AV.v) [] [] last =
  cond (decide ((Int.tmod (rlstM (rlstM (IntKind.i64.wrap (a * c)) (IntKind.i64.wrap (a * d))) (rlstM (IntKind.i64.wrap (b * c)) (IntKind.i64.wrap (b * d)))) 1073741824) < 0))
  (cond (decide ((Int.tmod (IntKind.i64.wrap (0 - (rmstM (rmstM (IntKind.i64.wrap (a * c)) (IntKind.i64.wrap (a * d))) (rmstM (IntKind.i64.wrap (b * c)) (IntKind.i64.wrap (b * d)))))) 1073741824) < 0))
   (lt (rfitM (IntKind.i64.wrap ((IntKind.i64.wrap (Int.tdiv (rlstM (rlstM (IntKind.i64.wrap (a * c)) (IntKind.i64.wrap (a * d))) (rlstM (IntKind.i64.wrap (b * c)) (IntKind.i64.wrap (b * d)))) 1073741824)) - 1)) (IntKind.i64.wrap (0 - (IntKind.i64.wrap ((IntKind.i64.wrap (Int.tdiv (IntKind.i64.wrap (0 - (rmstM (rmstM (IntKind.i64.wrap (a * c)) (IntKind.i64.wrap (a * d))) (rmstM (IntKind.i64.wrap (b * c)) (IntKind.i64.wrap (b * d)))))) 1073741824)) - 1))))) fun x1 =>
    some (.v (.tuple ⟨[.agg ⟨[.int .i64 x1.1, .int .i64 x1.2.1]⟩, .int .i64 x1.2.2]⟩)))
   (lt (rfitM (IntKind.i64.wrap ((IntKind.i64.wrap (Int.tdiv (rlstM (rlstM (IntKind.i64.wrap (a * c)) (IntKind.i64.wrap (a * d))) (rlstM (IntKind.i64.wrap (b * c)) (IntKind.i64.wrap (b * d)))) 1073741824)) - 1)) (IntKind.i64.wrap (0 - (IntKind.i64.wrap (Int.tdiv (IntKind.i64.wrap (0 - (rmstM (rmstM (IntKind.i64.wrap (a * c)) (IntKind.i64.wrap (a * d))) (rmstM (IntKind.i64.wrap (b * c)) (IntKind.i64.wrap (b * d)))))) 1073741824))))) fun x2 =>
    some (.v (.tuple ⟨[.agg ⟨[.int .i64 x2.1, .int .i64 x2.2.1]⟩, .int .i64 x2.2.2]⟩))))
  (cond (decide ((Int.tmod (IntKind.i64.wrap (0 - (rmstM (rmstM (IntKind.i64.wrap (a * c)) (IntKind.i64.wrap (a * d))) (rmstM (IntKind.i64.wrap (b * c)) (IntKind.i64.wrap (b * d)))))) 1073741824) < 0))
   (lt (rfitM (IntKind.i64.wrap (Int.tdiv (rlstM (rlstM (IntKind.i64.wrap (a * c)) (IntKind.i64.wrap (a * d))) (rlstM (IntKind.i64.wrap (b * c)) (IntKind.i64.wrap (b * d)))) 1073741824)) (IntKind.i64.wrap (0 - (IntKind.i64.wrap ((IntKind.i64.wrap (Int.tdiv (IntKind.i64.wrap (0 - (rmstM (rmstM (IntKind.i64.wrap (a * c)) (IntKind.i64.wrap (a * d))) (rmstM (IntKind.i64.wrap (b * c)) (IntKind.i64.wrap (b * d)))))) 1073741824)) - 1))))) fun x3 =>
    some (.v (.tuple ⟨[.agg ⟨[.int .i64 x3.1, .int .i64 x3.2.1]⟩, .int .i64 x3.2.2]⟩)))
   (lt (rfitM (IntKind.i64.wrap (Int.tdiv (rlstM (rlstM (IntKind.i64.wrap (a * c)) (IntKind.i64.wrap (a * d))) (rlstM (IntKind.i64.wrap (b * c)) (IntKind.i64.wrap (b * d)))) 1073741824)) (IntKind.i64.wrap (0 - (IntKind.i64.wrap (Int.tdiv (IntKind.i64.wrap (0 - (rmstM (rmstM (IntKind.i64.wrap (a * c)) (IntKind.i64.wrap (a * d))) (rmstM (IntKind.i64.wrap (b * c)) (IntKind.i64.wrap (b * d)))))) 1073741824))))) fun x4 =>
    some (.v (.tuple ⟨[.agg ⟨[.int .i64 x4.1, .int .i64 x4.2.1]⟩, .int .i64 x4.2.2]⟩)))) := by kernel_rfl
theorem rmulM_gives (a b c d : Int) : Gives Tryz.prog 42 [.agg ⟨[.int .i64 a, .int .i64 b]⟩, .agg ⟨[.int .i64 c, .int .i64 d]⟩] (arcV (rmulM a b c d)) := by
  refine evF_gives (E := Es) mixed Es_ok Cs_ok book_rmulM_gives_ok (lim := 20) (d := 6) (nm := []) ?_
  rw [rmulM_gives_tree a b c d]
  unfold rmulM
  refine case_cond (fun (r : Int × Int × Int) => AV.v (arcV (r))) ?_ ?_
  · refine case_cond (fun (r : Int × Int × Int) => AV.v (arcV (r))) ?_ ?_
    · refine case_lt (fun (r : Int × Int × Int) => AV.v (arcV (r))) fun x1 => ?_
      rfl
    · refine case_lt (fun (r : Int × Int × Int) => AV.v (arcV (r))) fun x2 => ?_
      rfl
  · refine case_cond (fun (r : Int × Int × Int) => AV.v (arcV (r))) ?_ ?_
    · refine case_lt (fun (r : Int × Int × Int) => AV.v (arcV (r))) fun x3 => ?_
      rfl
    · refine case_lt (fun (r : Int × Int × Int) => AV.v (arcV (r))) fun x4 => ?_
      rfl
noncomputable def timesM (a b c d : Int) : Int × Int :=
  lt (rmulM a b c d) fun x1 =>
  (x1.1, x1.2.1)
noncomputable def book_timesM_gives : Book := [(42, ePP (fun a b c d => arcV (rmulM a b c d)))]
theorem book_timesM_gives_ok : BookOk Tryz.prog book_timesM_gives := (bookOk_cons (ePP_ok rmulM_gives) bookOk_nil)
theorem timesM_gives_tree (a b c d : Int) : evF Tryz.prog Es Cs book_timesM_gives 20 6 21 ([.agg ⟨[.int .i64 a, .int .i64 b]⟩, .agg ⟨[.int .i64 c, .int .i64 d]⟩].map AV.v) [] [] last =
  lt (rmulM a b c d) fun x1 =>
  some (.v (.agg ⟨[.int .i64 x1.1, .int .i64 x1.2.1]⟩)) := by kernel_rfl
theorem timesM_gives (a b c d : Int) : Gives Tryz.prog 21 [.agg ⟨[.int .i64 a, .int .i64 b]⟩, .agg ⟨[.int .i64 c, .int .i64 d]⟩] (pairV (timesM a b c d).1 (timesM a b c d).2) := by
  refine evF_gives (E := Es) mixed Es_ok Cs_ok book_timesM_gives_ok (lim := 20) (d := 6) (nm := []) ?_
  rw [timesM_gives_tree a b c d]
  unfold timesM
  refine case_lt (fun (r : Int × Int) => AV.v (pairV (r).1 (r).2)) fun x1 => ?_
  rfl
noncomputable def rvalM (a b : Int) : Bool :=
  cond (decide (a ≤ b))
  (cond (decide (a ≥ (-1099511627776)))
   ((decide (b ≤ 1099511627776)))
   (false))
  (false)
noncomputable def book_rvalM_gives : Book := []
theorem book_rvalM_gives_ok : BookOk Tryz.prog book_rvalM_gives := bookOk_nil
theorem rvalM_gives_tree (a b : Int) : evF Tryz.prog Es Cs book_rvalM_gives 20 6 16 ([.agg ⟨[.int .i64 a, .int .i64 b]⟩].map AV.v) [] [] last =
  cond (decide (a ≤ b))
  (cond (decide (a ≥ (-1099511627776)))
   (some (.v (.bool (decide (b ≤ 1099511627776)))))
   (some (.v (.bool false))))
  (some (.v (.bool false))) := by kernel_rfl
theorem rvalM_gives (a b : Int) : Gives Tryz.prog 16 [.agg ⟨[.int .i64 a, .int .i64 b]⟩] (.bool (rvalM a b)) := by
  refine evF_gives (E := Es) mixed Es_ok Cs_ok book_rvalM_gives_ok (lim := 20) (d := 6) (nm := []) ?_
  rw [rvalM_gives_tree a b]
  unfold rvalM
  refine case_cond (fun (r : Bool) => AV.v (.bool (r))) ?_ ?_
  · refine case_cond (fun (r : Bool) => AV.v (.bool (r))) ?_ ?_
    · rfl
    · rfl
  · rfl
noncomputable def rasubM (a b c d : Int) : Int × Int :=
  (IntKind.i64.wrap (a - d), IntKind.i64.wrap (b - c))
noncomputable def book_rasubM_gives : Book := []
theorem book_rasubM_gives_ok : BookOk Tryz.prog book_rasubM_gives := bookOk_nil
theorem rasubM_gives_tree (a b c d : Int) : evF Tryz.prog Es Cs book_rasubM_gives 20 6 31 ([.agg ⟨[.int .i64 a, .int .i64 b]⟩, .agg ⟨[.int .i64 c, .int .i64 d]⟩].map AV.v) [] [] last =
  some (.v (.agg ⟨[.int .i64 (IntKind.i64.wrap (a - d)), .int .i64 (IntKind.i64.wrap (b - c))]⟩)) := by kernel_rfl
theorem rasubM_gives (a b c d : Int) : Gives Tryz.prog 31 [.agg ⟨[.int .i64 a, .int .i64 b]⟩, .agg ⟨[.int .i64 c, .int .i64 d]⟩] (pairV (rasubM a b c d).1 (rasubM a b c d).2) := by
  refine evF_gives (E := Es) mixed Es_ok Cs_ok book_rasubM_gives_ok (lim := 20) (d := 6) (nm := []) ?_
  rw [rasubM_gives_tree a b c d]
  rfl
noncomputable def rlatM (a b : Int) : Bool :=
  cond (decide (a ≤ b))
  (cond (decide (a ≥ (-5400000)))
   ((decide (b ≤ 5400000)))
   (false))
  (false)
noncomputable def book_rlatM_gives : Book := []
theorem book_rlatM_gives_ok : BookOk Tryz.prog book_rlatM_gives := bookOk_nil
theorem rlatM_gives_tree (a b : Int) : evF Tryz.prog Es Cs book_rlatM_gives 20 6 15 ([.agg ⟨[.int .i64 a, .int .i64 b]⟩].map AV.v) [] [] last =
  cond (decide (a ≤ b))
  (cond (decide (a ≥ (-5400000)))
   (some (.v (.bool (decide (b ≤ 5400000)))))
   (some (.v (.bool false))))
  (some (.v (.bool false))) := by kernel_rfl
theorem rlatM_gives (a b : Int) : Gives Tryz.prog 15 [.agg ⟨[.int .i64 a, .int .i64 b]⟩] (.bool (rlatM a b)) := by
  refine evF_gives (E := Es) mixed Es_ok Cs_ok book_rlatM_gives_ok (lim := 20) (d := 6) (nm := []) ?_
  rw [rlatM_gives_tree a b]
  unfold rlatM
  refine case_cond (fun (r : Bool) => AV.v (.bool (r))) ?_ ?_
  · refine case_cond (fun (r : Bool) => AV.v (.bool (r))) ?_ ?_
    · rfl
    · rfl
  · rfl
noncomputable def rtriM (a b c d e f : Int) : Bool :=
  cond (rlatM a b)
  (cond (rlatM c d)
   ((rvalM e f))
   (false))
  (false)
noncomputable def book_rtriM_gives : Book := [(15, eP (fun a b => .bool (rlatM a b))), (16, eP (fun a b => .bool (rvalM a b)))]
theorem book_rtriM_gives_ok : BookOk Tryz.prog book_rtriM_gives := (bookOk_cons (eP_ok rlatM_gives) (bookOk_cons (eP_ok rvalM_gives) bookOk_nil))
theorem rtriM_gives_tree (a b c d e f : Int) : evF Tryz.prog Es Cs book_rtriM_gives 20 6 7 ([.agg ⟨[.int .i64 a, .int .i64 b, .int .i64 c, .int .i64 d, .int .i64 e, .int .i64 f]⟩].map AV.v) [] [] last =
  cond (rlatM a b)
  (cond (rlatM c d)
   (some (.v (.bool (rvalM e f))))
   (some (.v (.bool false))))
  (some (.v (.bool false))) := by kernel_rfl
theorem rtriM_gives (a b c d e f : Int) : Gives Tryz.prog 7 [.agg ⟨[.int .i64 a, .int .i64 b, .int .i64 c, .int .i64 d, .int .i64 e, .int .i64 f]⟩] (.bool (rtriM a b c d e f)) := by
  refine evF_gives (E := Es) mixed Es_ok Cs_ok book_rtriM_gives_ok (lim := 20) (d := 6) (nm := []) ?_
  rw [rtriM_gives_tree a b c d e f]
  unfold rtriM
  refine case_cond (fun (r : Bool) => AV.v (.bool (r))) ?_ ?_
  · refine case_cond (fun (r : Bool) => AV.v (.bool (r))) ?_ ?_
    · rfl
    · rfl
  · rfl
noncomputable def westM (_a _b c d e f : Int) : Int × Int :=
  lt (rcosM c d) fun x1 =>
  lt (rsinM e f) fun x2 =>
  lt (timesM x1.1 x1.2 x2.1 x2.2) fun x3 =>
  (x3.1, x3.2)
noncomputable def book_westM_gives : Book := [(20, eP (fun a b => pairV (rsinM a b).1 (rsinM a b).2)), (21, ePP (fun a b c d => pairV (timesM a b c d).1 (timesM a b c d).2)), (22, eP (fun a b => pairV (rcosM a b).1 (rcosM a b).2))]
theorem book_westM_gives_ok : BookOk Tryz.prog book_westM_gives := (bookOk_cons (eP_ok rsinM_gives) (bookOk_cons (ePP_ok timesM_gives) (bookOk_cons (eP_ok rcosM_gives) bookOk_nil)))
theorem westM_gives_tree (a b c d e f : Int) : evF Tryz.prog Es Cs book_westM_gives 20 6 18 ([.agg ⟨[.int .i64 a, .int .i64 b, .int .i64 c, .int .i64 d, .int .i64 e, .int .i64 f]⟩].map AV.v) [] [] last =
  lt (rcosM c d) fun x1 =>
  lt (rsinM e f) fun x2 =>
  lt (timesM x1.1 x1.2 x2.1 x2.2) fun x3 =>
  some (.v (.agg ⟨[.int .i64 x3.1, .int .i64 x3.2]⟩)) := by kernel_rfl
theorem westM_gives (a b c d e f : Int) : Gives Tryz.prog 18 [.agg ⟨[.int .i64 a, .int .i64 b, .int .i64 c, .int .i64 d, .int .i64 e, .int .i64 f]⟩] (pairV (westM a b c d e f).1 (westM a b c d e f).2) := by
  refine evF_gives (E := Es) mixed Es_ok Cs_ok book_westM_gives_ok (lim := 20) (d := 6) (nm := []) ?_
  rw [westM_gives_tree a b c d e f]
  unfold westM
  refine case_lt (fun (r : Int × Int) => AV.v (pairV (r).1 (r).2)) fun x1 => ?_
  refine case_lt (fun (r : Int × Int) => AV.v (pairV (r).1 (r).2)) fun x2 => ?_
  refine case_lt (fun (r : Int × Int) => AV.v (pairV (r).1 (r).2)) fun x3 => ?_
  rfl
noncomputable def rdvdM (a b c d e f : Int) : Int × Int × Int × Int :=
  lt (westM a b c d e f) fun x1 =>
  lt (asinR x1.1 x1.2) fun x2 =>
  lt (rsinM c d) fun x3 =>
  lt (rcosM c d) fun x4 =>
  lt (rcosM e f) fun x5 =>
  lt (timesM x4.1 x4.2 x5.1 x5.2) fun x6 =>
  lt (bearR x3.1 x3.2 x6.1 x6.2) fun x7 =>
  (x2.1, x2.2.1, x7.1, x7.2.1)
noncomputable def book_rdvdM_gives : Book := [(17, eP (fun a b => arcV (asinR a b))), (18, eT (fun a b c d e f => pairV (westM a b c d e f).1 (westM a b c d e f).2)), (19, ePP (fun a b c d => arcV (bearR a b c d))), (20, eP (fun a b => pairV (rsinM a b).1 (rsinM a b).2)), (21, ePP (fun a b c d => pairV (timesM a b c d).1 (timesM a b c d).2)), (22, eP (fun a b => pairV (rcosM a b).1 (rcosM a b).2))]
theorem book_rdvdM_gives_ok : BookOk Tryz.prog book_rdvdM_gives := (bookOk_cons (eP_ok rasin_r) (bookOk_cons (eT_ok westM_gives) (bookOk_cons (ePP_ok rbear) (bookOk_cons (eP_ok rsinM_gives) (bookOk_cons (ePP_ok timesM_gives) (bookOk_cons (eP_ok rcosM_gives) bookOk_nil))))))
theorem rdvdM_gives_tree (a b c d e f : Int) : evF Tryz.prog Es Cs book_rdvdM_gives 20 6 8 ([.agg ⟨[.int .i64 a, .int .i64 b, .int .i64 c, .int .i64 d, .int .i64 e, .int .i64 f]⟩].map AV.v) [] [] last =
  lt (westM a b c d e f) fun x1 =>
  lt (asinR x1.1 x1.2) fun x2 =>
  lt (rsinM c d) fun x3 =>
  lt (rcosM c d) fun x4 =>
  lt (rcosM e f) fun x5 =>
  lt (timesM x4.1 x4.2 x5.1 x5.2) fun x6 =>
  lt (bearR x3.1 x3.2 x6.1 x6.2) fun x7 =>
  some (.v (.tuple ⟨[.agg ⟨[.int .i64 x2.1, .int .i64 x2.2.1]⟩, .agg ⟨[.int .i64 x7.1, .int .i64 x7.2.1]⟩]⟩)) := by kernel_rfl
theorem rdvdM_gives (a b c d e f : Int) : Gives Tryz.prog 8 [.agg ⟨[.int .i64 a, .int .i64 b, .int .i64 c, .int .i64 d, .int .i64 e, .int .i64 f]⟩] (pairsV (rdvdM a b c d e f)) := by
  refine evF_gives (E := Es) mixed Es_ok Cs_ok book_rdvdM_gives_ok (lim := 20) (d := 6) (nm := []) ?_
  rw [rdvdM_gives_tree a b c d e f]
  unfold rdvdM
  refine case_lt (fun (r : Int × Int × Int × Int) => AV.v (pairsV (r))) fun x1 => ?_
  refine case_lt (fun (r : Int × Int × Int × Int) => AV.v (pairsV (r))) fun x2 => ?_
  refine case_lt (fun (r : Int × Int × Int × Int) => AV.v (pairsV (r))) fun x3 => ?_
  refine case_lt (fun (r : Int × Int × Int × Int) => AV.v (pairsV (r))) fun x4 => ?_
  refine case_lt (fun (r : Int × Int × Int × Int) => AV.v (pairsV (r))) fun x5 => ?_
  refine case_lt (fun (r : Int × Int × Int × Int) => AV.v (pairsV (r))) fun x6 => ?_
  refine case_lt (fun (r : Int × Int × Int × Int) => AV.v (pairsV (r))) fun x7 => ?_
  rfl
noncomputable def rsolM (a b c d e f : Int) : Int × Int × Int × Int :=
  lt (rdvdM a b c d e f) fun x1 =>
  lt (rasubM x1.2.2.1 x1.2.2.2 a b) fun x2 =>
  lt (rcosM x1.1 x1.2.1) fun x3 =>
  lt (rcosM x2.1 x2.2) fun x4 =>
  lt (timesM x3.1 x3.2 x4.1 x4.2) fun x5 =>
  lt (asinR x5.1 x5.2) fun x6 =>
  lt (westM a b c d e f) fun x7 =>
  lt (rnegM x7.1 x7.2) fun x8 =>
  lt (rcosM x1.1 x1.2.1) fun x9 =>
  lt (rsinM x2.1 x2.2) fun x10 =>
  lt (timesM x9.1 x9.2 x10.1 x10.2) fun x11 =>
  lt (bearR x8.1 x8.2 x11.1 x11.2) fun x12 =>
  (x6.1, x6.2.1, x12.1, x12.2.1)
noncomputable def book_rsolM_gives : Book := [(8, eT (fun a b c d e f => pairsV (rdvdM a b c d e f))), (17, eP (fun a b => arcV (asinR a b))), (18, eT (fun a b c d e f => pairV (westM a b c d e f).1 (westM a b c d e f).2)), (19, ePP (fun a b c d => arcV (bearR a b c d))), (20, eP (fun a b => pairV (rsinM a b).1 (rsinM a b).2)), (21, ePP (fun a b c d => pairV (timesM a b c d).1 (timesM a b c d).2)), (22, eP (fun a b => pairV (rcosM a b).1 (rcosM a b).2)), (31, ePP (fun a b c d => pairV (rasubM a b c d).1 (rasubM a b c d).2)), (32, eP (fun a b => pairV (rnegM a b).1 (rnegM a b).2))]
theorem book_rsolM_gives_ok : BookOk Tryz.prog book_rsolM_gives := (bookOk_cons (eT_ok rdvdM_gives) (bookOk_cons (eP_ok rasin_r) (bookOk_cons (eT_ok westM_gives) (bookOk_cons (ePP_ok rbear) (bookOk_cons (eP_ok rsinM_gives) (bookOk_cons (ePP_ok timesM_gives) (bookOk_cons (eP_ok rcosM_gives) (bookOk_cons (ePP_ok rasubM_gives) (bookOk_cons (eP_ok rnegM_gives) bookOk_nil)))))))))
theorem rsolM_gives_tree (a b c d e f : Int) : evF Tryz.prog Es Cs book_rsolM_gives 20 6 10 ([.agg ⟨[.int .i64 a, .int .i64 b, .int .i64 c, .int .i64 d, .int .i64 e, .int .i64 f]⟩].map AV.v) [] [] last =
  lt (rdvdM a b c d e f) fun x1 =>
  lt (rasubM x1.2.2.1 x1.2.2.2 a b) fun x2 =>
  lt (rcosM x1.1 x1.2.1) fun x3 =>
  lt (rcosM x2.1 x2.2) fun x4 =>
  lt (timesM x3.1 x3.2 x4.1 x4.2) fun x5 =>
  lt (asinR x5.1 x5.2) fun x6 =>
  lt (westM a b c d e f) fun x7 =>
  lt (rnegM x7.1 x7.2) fun x8 =>
  lt (rcosM x1.1 x1.2.1) fun x9 =>
  lt (rsinM x2.1 x2.2) fun x10 =>
  lt (timesM x9.1 x9.2 x10.1 x10.2) fun x11 =>
  lt (bearR x8.1 x8.2 x11.1 x11.2) fun x12 =>
  some (.v (.agg ⟨[.int .i64 x6.1, .int .i64 x6.2.1, .int .i64 x12.1, .int .i64 x12.2.1]⟩)) := by kernel_rfl
theorem rsolM_gives (a b c d e f : Int) : Gives Tryz.prog 10 [.agg ⟨[.int .i64 a, .int .i64 b, .int .i64 c, .int .i64 d, .int .i64 e, .int .i64 f]⟩] (solP (rsolM a b c d e f)) := by
  refine evF_gives (E := Es) mixed Es_ok Cs_ok book_rsolM_gives_ok (lim := 20) (d := 6) (nm := []) ?_
  rw [rsolM_gives_tree a b c d e f]
  unfold rsolM
  refine case_lt (fun (r : Int × Int × Int × Int) => AV.v (solP (r))) fun x1 => ?_
  refine case_lt (fun (r : Int × Int × Int × Int) => AV.v (solP (r))) fun x2 => ?_
  refine case_lt (fun (r : Int × Int × Int × Int) => AV.v (solP (r))) fun x3 => ?_
  refine case_lt (fun (r : Int × Int × Int × Int) => AV.v (solP (r))) fun x4 => ?_
  refine case_lt (fun (r : Int × Int × Int × Int) => AV.v (solP (r))) fun x5 => ?_
  refine case_lt (fun (r : Int × Int × Int × Int) => AV.v (solP (r))) fun x6 => ?_
  refine case_lt (fun (r : Int × Int × Int × Int) => AV.v (solP (r))) fun x7 => ?_
  refine case_lt (fun (r : Int × Int × Int × Int) => AV.v (solP (r))) fun x8 => ?_
  refine case_lt (fun (r : Int × Int × Int × Int) => AV.v (solP (r))) fun x9 => ?_
  refine case_lt (fun (r : Int × Int × Int × Int) => AV.v (solP (r))) fun x10 => ?_
  refine case_lt (fun (r : Int × Int × Int × Int) => AV.v (solP (r))) fun x11 => ?_
  refine case_lt (fun (r : Int × Int × Int × Int) => AV.v (solP (r))) fun x12 => ?_
  rfl
end Go.Proofs.YtadefgjpkhhffaaGreat

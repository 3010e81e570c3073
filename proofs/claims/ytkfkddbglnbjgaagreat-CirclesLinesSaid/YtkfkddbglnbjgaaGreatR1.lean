/-
  The reference's operations: what each function gives.
-/
import Derived.Test.YtkfkddbglnbjgaaGreatFk
import Derived.Test.YtkfkddbglnbjgaaGreatT50
import Derived.Test.YtkfkddbglnbjgaaGreatBg
namespace Go.Proofs.YtkfkddbglnbjgaaGreat
open Ev

open SM
def intBoolV (r : Int × Bool) : Value := .tuple ⟨[.int .i64 r.1, .bool r.2]⟩
def intsV (r : Int × Int) : Value := .tuple ⟨[.int .i64 r.1, .int .i64 r.2]⟩
def pairsV (r : Int × Int × Int × Int) : Value := .tuple ⟨[pairV r.1 r.2.1, pairV r.2.2.1 r.2.2.2]⟩
def rflR (n : Int) : Int × Bool := (lob n, exa (red n))
theorem rflR_gives (n : Int) : Gives Tryz.prog 124 [.int .i64 n] (intBoolV (rflR n)) := fun w => rfloor_any n w
noncomputable def rendsM (a : Int) : Int × Int :=
  lt (rflR a) fun x1 =>
  cond x1.2
  ((x1.1, x1.1))
  ((x1.1, IntKind.i64.wrap (x1.1 + 1)))
noncomputable def book_rendsM_gives : Book := [(124, eI (fun a => intBoolV (rflR a)))]
theorem book_rendsM_gives_ok : BookOk Tryz.prog book_rendsM_gives := (bookOk_cons (eI_ok rflR_gives) bookOk_nil)
theorem rendsM_gives_tree (a : Int) : evF Tryz.prog Es Cs book_rendsM_gives 20 6 110 ([.int .i64 a].map AV.v) [] [] last =
  lt (rflR a) fun x1 =>
  cond x1.2
  (some (.v (.tuple ⟨[.int .i64 x1.1, .int .i64 x1.1]⟩)))
  (some (.v (.tuple ⟨[.int .i64 x1.1, .int .i64 (IntKind.i64.wrap (x1.1 + 1))]⟩))) := by kernel_rfl
theorem rendsM_gives (a : Int) : Gives Tryz.prog 110 [.int .i64 a] (intsV (rendsM a)) := by
  refine evF_gives (E := Es) mixed Es_ok Cs_ok book_rendsM_gives_ok (lim := 20) (d := 6) (nm := []) ?_
  rw [rendsM_gives_tree a]
  unfold rendsM
  refine case_lt (fun (r : Int × Int) => AV.v (intsV (r))) fun _ => ?_
  refine case_cond (fun (r : Int × Int) => AV.v (intsV (r))) ?_ ?_
  · rfl
  · rfl
noncomputable def rhasM (a b c : Int) : Bool :=
  cond (decide ((Int.tmod (IntKind.i64.wrap (c - a)) 21600000) < 0))
  ((decide (IntKind.i64.wrap (a + (IntKind.i64.wrap ((Int.tmod (IntKind.i64.wrap (c - a)) 21600000) + 21600000))) ≤ b)))
  ((decide (IntKind.i64.wrap (a + (Int.tmod (IntKind.i64.wrap (c - a)) 21600000)) ≤ b)))
noncomputable def book_rhasM_gives : Book := []
theorem book_rhasM_gives_ok : BookOk Tryz.prog book_rhasM_gives := bookOk_nil
theorem rhasM_gives_tree (a b c : Int) : evF Tryz.prog Es Cs book_rhasM_gives 20 6 111 ([.agg ⟨[.int .i64 a, .int .i64 b]⟩, .int .i64 c].map AV.v) [] [] last =
  cond (decide ((Int.tmod (IntKind.i64.wrap (c - a)) 21600000) < 0))
  (some (.v (.bool (decide (IntKind.i64.wrap (a + (IntKind.i64.wrap ((Int.tmod (IntKind.i64.wrap (c - a)) 21600000) + 21600000))) ≤ b)))))
  (some (.v (.bool (decide (IntKind.i64.wrap (a + (Int.tmod (IntKind.i64.wrap (c - a)) 21600000)) ≤ b))))) := by kernel_rfl
theorem rhasM_gives (a b c : Int) : Gives Tryz.prog 111 [.agg ⟨[.int .i64 a, .int .i64 b]⟩, .int .i64 c] (.bool (rhasM a b c)) := by
  refine evF_gives (E := Es) mixed Es_ok Cs_ok book_rhasM_gives_ok (lim := 20) (d := 6) (nm := []) ?_
  rw [rhasM_gives_tree a b c]
  unfold rhasM
  refine case_cond (fun (r : Bool) => AV.v (.bool (r))) ?_ ?_
  · rfl
  · rfl
noncomputable def rsineM (a b : Int) : Int × Int :=
  lt (rendsM a) fun x1 =>
  lt (rendsM b) fun x2 =>
  cond (rhasM a b 5400000)
  (cond (rhasM a b (-5400000))
   (((-1073741824), 1073741824))
   (((mn x1.1 x2.1), 1073741824)))
  (cond (rhasM a b (-5400000))
   (((-1073741824), (mx x1.2 x2.2)))
   (((mn x1.1 x2.1), (mx x1.2 x2.2))))
noncomputable def book_rsineM_gives : Book := [(110, eI (fun a => intsV (rendsM a))), (111, ePI (fun a b c => .bool (rhasM a b c)))]
theorem book_rsineM_gives_ok : BookOk Tryz.prog book_rsineM_gives := (bookOk_cons (eI_ok rendsM_gives) (bookOk_cons (ePI_ok rhasM_gives) bookOk_nil))
theorem rsineM_gives_tree (a b : Int) : evF Tryz.prog Es Cs book_rsineM_gives 20 6 83 ([.agg ⟨[.int .i64 a, .int .i64 b]⟩].map AV.v) [] [] last =
  lt (rendsM a) fun x1 =>
  lt (rendsM b) fun x2 =>
  cond (rhasM a b 5400000)
  (cond (rhasM a b (-5400000))
   (some (.v (.agg ⟨[.int .i64 (-1073741824), .int .i64 1073741824]⟩)))
   (some (.v (.agg ⟨[.int .i64 (mn x1.1 x2.1), .int .i64 1073741824]⟩))))
  (cond (rhasM a b (-5400000))
   (some (.v (.agg ⟨[.int .i64 (-1073741824), .int .i64 (mx x1.2 x2.2)]⟩)))
   (some (.v (.agg ⟨[.int .i64 (mn x1.1 x2.1), .int .i64 (mx x1.2 x2.2)]⟩)))) := by kernel_rfl
theorem rsineM_gives (a b : Int) : Gives Tryz.prog 83 [.agg ⟨[.int .i64 a, .int .i64 b]⟩] (pairV (rsineM a b).1 (rsineM a b).2) := by
  refine evF_gives (E := Es) mixed Es_ok Cs_ok book_rsineM_gives_ok (lim := 20) (d := 6) (nm := []) ?_
  rw [rsineM_gives_tree a b]
  unfold rsineM
  refine case_lt (fun (r : Int × Int) => AV.v (pairV (r).1 (r).2)) fun _ => ?_
  refine case_lt (fun (r : Int × Int) => AV.v (pairV (r).1 (r).2)) fun _ => ?_
  refine case_cond (fun (r : Int × Int) => AV.v (pairV (r).1 (r).2)) ?_ ?_
  · refine case_cond (fun (r : Int × Int) => AV.v (pairV (r).1 (r).2)) ?_ ?_
    · rfl
    · rfl
  · refine case_cond (fun (r : Int × Int) => AV.v (pairV (r).1 (r).2)) ?_ ?_
    · rfl
    · rfl
noncomputable def rsinM (a b : Int) : Int × Int :=
  lt (rsineM a b) fun x1 =>
  (x1.1, x1.2)
noncomputable def book_rsinM_gives : Book := [(83, eP (fun a b => pairV (rsineM a b).1 (rsineM a b).2))]
theorem book_rsinM_gives_ok : BookOk Tryz.prog book_rsinM_gives := (bookOk_cons (eP_ok rsineM_gives) bookOk_nil)
theorem rsinM_gives_tree (a b : Int) : evF Tryz.prog Es Cs book_rsinM_gives 20 6 50 ([.agg ⟨[.int .i64 a, .int .i64 b]⟩].map AV.v) [] [] last =
  lt (rsineM a b) fun x1 =>
  some (.v (.agg ⟨[.int .i64 x1.1, .int .i64 x1.2]⟩)) := by kernel_rfl
theorem rsinM_gives (a b : Int) : Gives Tryz.prog 50 [.agg ⟨[.int .i64 a, .int .i64 b]⟩] (pairV (rsinM a b).1 (rsinM a b).2) := by
  refine evF_gives (E := Es) mixed Es_ok Cs_ok book_rsinM_gives_ok (lim := 20) (d := 6) (nm := []) ?_
  rw [rsinM_gives_tree a b]
  unfold rsinM
  refine case_lt (fun (r : Int × Int) => AV.v (pairV (r).1 (r).2)) fun _ => ?_
  rfl
noncomputable def rcosM (a b : Int) : Int × Int :=
  lt (rsineM (IntKind.i64.wrap (a + 5400000)) (IntKind.i64.wrap (b + 5400000))) fun x1 =>
  (x1.1, x1.2)
noncomputable def book_rcosM_gives : Book := [(83, eP (fun a b => pairV (rsineM a b).1 (rsineM a b).2))]
theorem book_rcosM_gives_ok : BookOk Tryz.prog book_rcosM_gives := (bookOk_cons (eP_ok rsineM_gives) bookOk_nil)
theorem rcosM_gives_tree (a b : Int) : evF Tryz.prog Es Cs book_rcosM_gives 20 6 49 ([.agg ⟨[.int .i64 a, .int .i64 b]⟩].map AV.v) [] [] last =
  lt (rsineM (IntKind.i64.wrap (a + 5400000)) (IntKind.i64.wrap (b + 5400000))) fun x1 =>
  some (.v (.agg ⟨[.int .i64 x1.1, .int .i64 x1.2]⟩)) := by kernel_rfl
theorem rcosM_gives (a b : Int) : Gives Tryz.prog 49 [.agg ⟨[.int .i64 a, .int .i64 b]⟩] (pairV (rcosM a b).1 (rcosM a b).2) := by
  refine evF_gives (E := Es) mixed Es_ok Cs_ok book_rcosM_gives_ok (lim := 20) (d := 6) (nm := []) ?_
  rw [rcosM_gives_tree a b]
  unfold rcosM
  refine case_lt (fun (r : Int × Int) => AV.v (pairV (r).1 (r).2)) fun _ => ?_
  rfl
noncomputable def rfitM (a b : Int) : Int × Int × Int :=
  cond (decide (a < (-2147483648)))
  ((0, 0, 5))
  (cond (decide (b > 2147483648))
   ((0, 0, 5))
   ((a, b, 0)))
noncomputable def book_rfitM_gives : Book := []
theorem book_rfitM_gives_ok : BookOk Tryz.prog book_rfitM_gives := bookOk_nil
theorem rfitM_gives_tree (a b : Int) : evF Tryz.prog Es Cs book_rfitM_gives 20 6 107 ([.int .i64 a, .int .i64 b].map AV.v) [] [] last =
  cond (decide (a < (-2147483648)))
  (some (.v (.tuple ⟨[.agg ⟨[.int .i64 0, .int .i64 0]⟩, .int .i64 5]⟩)))
  (cond (decide (b > 2147483648))
   (some (.v (.tuple ⟨[.agg ⟨[.int .i64 0, .int .i64 0]⟩, .int .i64 5]⟩)))
   (some (.v (.tuple ⟨[.agg ⟨[.int .i64 a, .int .i64 b]⟩, .int .i64 0]⟩)))) := by kernel_rfl
theorem rfitM_gives (a b : Int) : Gives Tryz.prog 107 [.int .i64 a, .int .i64 b] (arcV (rfitM a b)) := by
  refine evF_gives (E := Es) mixed Es_ok Cs_ok book_rfitM_gives_ok (lim := 20) (d := 6) (nm := []) ?_
  rw [rfitM_gives_tree a b]
  unfold rfitM
  refine case_cond (fun (r : Int × Int × Int) => AV.v (arcV (r))) ?_ ?_
  · rfl
  · refine case_cond (fun (r : Int × Int × Int) => AV.v (arcV (r))) ?_ ?_
    · rfl
    · rfl
noncomputable def rlstM (a b : Int) : Int :=
  cond (decide (b < a))
  (b)
  (a)
noncomputable def book_rlstM_gives : Book := []
theorem book_rlstM_gives_ok : BookOk Tryz.prog book_rlstM_gives := bookOk_nil
theorem rlstM_gives_tree (a b : Int) : evF Tryz.prog Es Cs book_rlstM_gives 20 6 105 ([.int .i64 a, .int .i64 b].map AV.v) [] [] last =
  cond (decide (b < a))
  (some (.v (.int .i64 b)))
  (some (.v (.int .i64 a))) := by kernel_rfl
theorem rlstM_gives (a b : Int) : Gives Tryz.prog 105 [.int .i64 a, .int .i64 b] (.int .i64 (rlstM a b)) := by
  refine evF_gives (E := Es) mixed Es_ok Cs_ok book_rlstM_gives_ok (lim := 20) (d := 6) (nm := []) ?_
  rw [rlstM_gives_tree a b]
  unfold rlstM
  refine case_cond (fun (r : Int) => AV.v (.int .i64 (r))) ?_ ?_
  · rfl
  · rfl
noncomputable def rmstM (a b : Int) : Int :=
  cond (decide (a < b))
  (b)
  (a)
noncomputable def book_rmstM_gives : Book := []
theorem book_rmstM_gives_ok : BookOk Tryz.prog book_rmstM_gives := bookOk_nil
theorem rmstM_gives_tree (a b : Int) : evF Tryz.prog Es Cs book_rmstM_gives 20 6 106 ([.int .i64 a, .int .i64 b].map AV.v) [] [] last =
  cond (decide (a < b))
  (some (.v (.int .i64 b)))
  (some (.v (.int .i64 a))) := by kernel_rfl
theorem rmstM_gives (a b : Int) : Gives Tryz.prog 106 [.int .i64 a, .int .i64 b] (.int .i64 (rmstM a b)) := by
  refine evF_gives (E := Es) mixed Es_ok Cs_ok book_rmstM_gives_ok (lim := 20) (d := 6) (nm := []) ?_
  rw [rmstM_gives_tree a b]
  unfold rmstM
  refine case_cond (fun (r : Int) => AV.v (.int .i64 (r))) ?_ ?_
  · rfl
  · rfl
noncomputable def rnegM (a b : Int) : Int × Int :=
  (IntKind.i64.wrap (0 - b), IntKind.i64.wrap (0 - a))
noncomputable def book_rnegM_gives : Book := []
theorem book_rnegM_gives_ok : BookOk Tryz.prog book_rnegM_gives := bookOk_nil
theorem rnegM_gives_tree (a b : Int) : evF Tryz.prog Es Cs book_rnegM_gives 20 6 47 ([.agg ⟨[.int .i64 a, .int .i64 b]⟩].map AV.v) [] [] last =
  some (.v (.agg ⟨[.int .i64 (IntKind.i64.wrap (0 - b)), .int .i64 (IntKind.i64.wrap (0 - a))]⟩)) := by kernel_rfl
theorem rnegM_gives (a b : Int) : Gives Tryz.prog 47 [.agg ⟨[.int .i64 a, .int .i64 b]⟩] (pairV (rnegM a b).1 (rnegM a b).2) := by
  refine evF_gives (E := Es) mixed Es_ok Cs_ok book_rnegM_gives_ok (lim := 20) (d := 6) (nm := []) ?_
  rw [rnegM_gives_tree a b]
  rfl
noncomputable def raddM (a b c d : Int) : Int × Int × Int :=
  lt (rfitM (IntKind.i64.wrap (a + c)) (IntKind.i64.wrap (b + d))) fun x1 =>
  (x1.1, x1.2.1, x1.2.2)
noncomputable def book_raddM_gives : Book := [(107, eII (fun a b => arcV (rfitM a b)))]
theorem book_raddM_gives_ok : BookOk Tryz.prog book_raddM_gives := (bookOk_cons (eII_ok rfitM_gives) bookOk_nil)
theorem raddM_gives_tree (a b c d : Int) : evF Tryz.prog Es Cs book_raddM_gives 20 6 104 ([.agg ⟨[.int .i64 a, .int .i64 b]⟩, .agg ⟨[.int .i64 c, .int .i64 d]⟩].map AV.v) [] [] last =
  lt (rfitM (IntKind.i64.wrap (a + c)) (IntKind.i64.wrap (b + d))) fun x1 =>
  some (.v (.tuple ⟨[.agg ⟨[.int .i64 x1.1, .int .i64 x1.2.1]⟩, .int .i64 x1.2.2]⟩)) := by kernel_rfl
theorem raddM_gives (a b c d : Int) : Gives Tryz.prog 104 [.agg ⟨[.int .i64 a, .int .i64 b]⟩, .agg ⟨[.int .i64 c, .int .i64 d]⟩] (arcV (raddM a b c d)) := by
  refine evF_gives (E := Es) mixed Es_ok Cs_ok book_raddM_gives_ok (lim := 20) (d := 6) (nm := []) ?_
  rw [raddM_gives_tree a b c d]
  unfold raddM
  refine case_lt (fun (r : Int × Int × Int) => AV.v (arcV (r))) fun _ => ?_
  rfl
noncomputable def rsubM (a b c d : Int) : Int × Int × Int :=
  lt (rfitM (IntKind.i64.wrap (a - d)) (IntKind.i64.wrap (b - c))) fun x1 =>
  (x1.1, x1.2.1, x1.2.2)
noncomputable def book_rsubM_gives : Book := [(107, eII (fun a b => arcV (rfitM a b)))]
theorem book_rsubM_gives_ok : BookOk Tryz.prog book_rsubM_gives := (bookOk_cons (eII_ok rfitM_gives) bookOk_nil)
theorem rsubM_gives_tree (a b c d : Int) : evF Tryz.prog Es Cs book_rsubM_gives 20 6 84 ([.agg ⟨[.int .i64 a, .int .i64 b]⟩, .agg ⟨[.int .i64 c, .int .i64 d]⟩].map AV.v) [] [] last =
  lt (rfitM (IntKind.i64.wrap (a - d)) (IntKind.i64.wrap (b - c))) fun x1 =>
  some (.v (.tuple ⟨[.agg ⟨[.int .i64 x1.1, .int .i64 x1.2.1]⟩, .int .i64 x1.2.2]⟩)) := by kernel_rfl
theorem rsubM_gives (a b c d : Int) : Gives Tryz.prog 84 [.agg ⟨[.int .i64 a, .int .i64 b]⟩, .agg ⟨[.int .i64 c, .int .i64 d]⟩] (arcV (rsubM a b c d)) := by
  refine evF_gives (E := Es) mixed Es_ok Cs_ok book_rsubM_gives_ok (lim := 20) (d := 6) (nm := []) ?_
  rw [rsubM_gives_tree a b c d]
  unfold rsubM
  refine case_lt (fun (r : Int × Int × Int) => AV.v (arcV (r))) fun _ => ?_
  rfl
noncomputable def rmulM (a b c d : Int) : Int × Int × Int :=
  cond (decide ((Int.tmod (rlstM (rlstM (IntKind.i64.wrap (a * c)) (IntKind.i64.wrap (a * d))) (rlstM (IntKind.i64.wrap (b * c)) (IntKind.i64.wrap (b * d)))) 1073741824) < 0))
  (cond (decide ((Int.tmod (IntKind.i64.wrap (0 - (rmstM (rmstM (IntKind.i64.wrap (a * c)) (IntKind.i64.wrap (a * d))) (rmstM (IntKind.i64.wrap (b * c)) (IntKind.i64.wrap (b * d)))))) 1073741824) < 0))
   (lt (rfitM (IntKind.i64.wrap ((IntKind.i64.wrap (Int.tdiv (rlstM (rlstM (IntKind.i64.wrap (a * c)) (IntKind.i64.wrap (a * d))) (rlstM (IntKind.i64.wrap (b * c)) (IntKind.i64.wrap (b * d)))) 1073741824)) - 1)) (IntKind.i64.wrap (0 - (IntKind.i64.wrap ((IntKind.i64.wrap (Int.tdiv (IntKind.i64.wrap (0 - (rmstM (rmstM (IntKind.i64.wrap (a * c)) (IntKind.i64.wrap (a * d))) (rmstM (IntKind.i64.wrap (b * c)) (IntKind.i64.wrap (b * d)))))) 1073741824)) - 1))))) fun x1 =>
    (x1.1, x1.2.1, x1.2.2))
   (lt (rfitM (IntKind.i64.wrap ((IntKind.i64.wrap (Int.tdiv (rlstM (rlstM (IntKind.i64.wrap (a * c)) (IntKind.i64.wrap (a * d))) (rlstM (IntKind.i64.wrap (b * c)) (IntKind.i64.wrap (b * d)))) 1073741824)) - 1)) (IntKind.i64.wrap (0 - (IntKind.i64.wrap (Int.tdiv (IntKind.i64.wrap (0 - (rmstM (rmstM (IntKind.i64.wrap (a * c)) (IntKind.i64.wrap (a * d))) (rmstM (IntKind.i64.wrap (b * c)) (IntKind.i64.wrap (b * d)))))) 1073741824))))) fun x2 =>
    (x2.1, x2.2.1, x2.2.2)))
  (cond (decide ((Int.tmod (IntKind.i64.wrap (0 - (rmstM (rmstM (IntKind.i64.wrap (a * c)) (IntKind.i64.wrap (a * d))) (rmstM (IntKind.i64.wrap (b * c)) (IntKind.i64.wrap (b * d)))))) 1073741824) < 0))
   (lt (rfitM (IntKind.i64.wrap (Int.tdiv (rlstM (rlstM (IntKind.i64.wrap (a * c)) (IntKind.i64.wrap (a * d))) (rlstM (IntKind.i64.wrap (b * c)) (IntKind.i64.wrap (b * d)))) 1073741824)) (IntKind.i64.wrap (0 - (IntKind.i64.wrap ((IntKind.i64.wrap (Int.tdiv (IntKind.i64.wrap (0 - (rmstM (rmstM (IntKind.i64.wrap (a * c)) (IntKind.i64.wrap (a * d))) (rmstM (IntKind.i64.wrap (b * c)) (IntKind.i64.wrap (b * d)))))) 1073741824)) - 1))))) fun x3 =>
    (x3.1, x3.2.1, x3.2.2))
   (lt (rfitM (IntKind.i64.wrap (Int.tdiv (rlstM (rlstM (IntKind.i64.wrap (a * c)) (IntKind.i64.wrap (a * d))) (rlstM (IntKind.i64.wrap (b * c)) (IntKind.i64.wrap (b * d)))) 1073741824)) (IntKind.i64.wrap (0 - (IntKind.i64.wrap (Int.tdiv (IntKind.i64.wrap (0 - (rmstM (rmstM (IntKind.i64.wrap (a * c)) (IntKind.i64.wrap (a * d))) (rmstM (IntKind.i64.wrap (b * c)) (IntKind.i64.wrap (b * d)))))) 1073741824))))) fun x4 =>
    (x4.1, x4.2.1, x4.2.2)))
noncomputable def book_rmulM_gives : Book := [(105, eII (fun a b => .int .i64 (rlstM a b))), (106, eII (fun a b => .int .i64 (rmstM a b))), (107, eII (fun a b => arcV (rfitM a b)))]
theorem book_rmulM_gives_ok : BookOk Tryz.prog book_rmulM_gives := (bookOk_cons (eII_ok rlstM_gives) (bookOk_cons (eII_ok rmstM_gives) (bookOk_cons (eII_ok rfitM_gives) bookOk_nil)))
theorem rmulM_gives_tree (a b c d : Int) : evF Tryz.prog Es Cs book_rmulM_gives 20 6 82 ([.agg ⟨[.int .i64 a, .int .i64 b]⟩, .agg ⟨[.int .i64 c, .int .i64 d]⟩].map AV.v) [] [] last =
  cond (decide ((Int.tmod (rlstM (rlstM (IntKind.i64.wrap (a * c)) (IntKind.i64.wrap (a * d))) (rlstM (IntKind.i64.wrap (b * c)) (IntKind.i64.wrap (b * d)))) 1073741824) < 0))
  (cond (decide ((Int.tmod (IntKind.i64.wrap (0 - (rmstM (rmstM (IntKind.i64.wrap (a * c)) (IntKind.i64.wrap (a * d))) (rmstM (IntKind.i64.wrap (b * c)) (IntKind.i64.wrap (b * d)))))) 1073741824) < 0))
   (lt (rfitM (IntKind.i64.wrap ((IntKind.i64.wrap (Int.tdiv (rlstM (rlstM (IntKind.i64.wrap (a * c)) (IntKind.i64.wrap (a * d))) (rlstM (IntKind.i64.wrap (b * c)) (IntKind.i64.wrap (b * d)))) 1073741824)) - 1)) (IntKind.i64.wrap (0 - (IntKind.i64.wrap ((IntKind.i64.wrap (Int.tdiv (IntKind.i64.wrap (0 - (rmstM (rmstM (IntKind.i64.wrap (a * c)) (IntKind.i64.wrap (a * d))) (rmstM (IntKind.i64.wrap (b * c)) (IntKind.i64.wrap (b * d)))))) 1073741824)) - 1))))) fun x1 =>
    some (.v (.tuple ⟨[.agg ⟨[.int .i64 x1.1, .int .i64 x1.2.1]⟩, .int .i64 x1.2.2]⟩)))
   (lt (rfitM (IntKind.i64.wrap ((IntKind.i64.wrap (Int.tdiv (rlstM (rlstM (IntKind.i64.wrap (a * c)) (IntKind.i64.wrap (a * d))) (rlstM (IntKind.i64.wrap (b * c)) (IntKind.i64.wrap (b * d)))) 1073741824)) - 1)) (IntKind.i64.wrap (0 - (IntKind.i64.wrap (Int.tdiv (IntKind.i64.wrap (0 - (rmstM (rmstM (IntKind.i64.wrap (a * c)) (IntKind.i64.wrap (a * d))) (rmstM (IntKind.i64.wrap (b * c)) (IntKind.i64.wrap (b * d)))))) 1073741824))))) fun x2 =>
    some (.v (.tuple ⟨[.agg ⟨[.int .i64 x2.1, .int .i64 x2.2.1]⟩, .int .i64 x2.2.2]⟩))))
  (cond (decide ((Int.tmod (IntKind.i64.wrap (0 - (rmstM (rmstM (IntKind.i64.wrap (a * c)) (IntKind.i64.wrap (a * d))) (rmstM (IntKind.i64.wrap (b * c)) (IntKind.i64.wrap (b * d)))))) 1073741824) < 0))
   (lt (rfitM (IntKind.i64.wrap (Int.tdiv (rlstM (rlstM (IntKind.i64.wrap (a * c)) (IntKind.i64.wrap (a * d))) (rlstM (IntKind.i64.wrap (b * c)) (IntKind.i64.wrap (b * d)))) 1073741824)) (IntKind.i64.wrap (0 - (IntKind.i64.wrap ((IntKind.i64.wrap (Int.tdiv (IntKind.i64.wrap (0 - (rmstM (rmstM (IntKind.i64.wrap (a * c)) (IntKind.i64.wrap (a * d))) (rmstM (IntKind.i64.wrap (b * c)) (IntKind.i64.wrap (b * d)))))) 1073741824)) - 1))))) fun x3 =>
    some (.v (.tuple ⟨[.agg ⟨[.int .i64 x3.1, .int .i64 x3.2.1]⟩, .int .i64 x3.2.2]⟩)))
   (lt (rfitM (IntKind.i64.wrap (Int.tdiv (rlstM (rlstM (IntKind.i64.wrap (a * c)) (IntKind.i64.wrap (a * d))) (rlstM (IntKind.i64.wrap (b * c)) (IntKind.i64.wrap (b * d)))) 1073741824)) (IntKind.i64.wrap (0 - (IntKind.i64.wrap (Int.tdiv (IntKind.i64.wrap (0 - (rmstM (rmstM (IntKind.i64.wrap (a * c)) (IntKind.i64.wrap (a * d))) (rmstM (IntKind.i64.wrap (b * c)) (IntKind.i64.wrap (b * d)))))) 1073741824))))) fun x4 =>
    some (.v (.tuple ⟨[.agg ⟨[.int .i64 x4.1, .int .i64 x4.2.1]⟩, .int .i64 x4.2.2]⟩)))) := by kernel_rfl
theorem rmulM_gives (a b c d : Int) : Gives Tryz.prog 82 [.agg ⟨[.int .i64 a, .int .i64 b]⟩, .agg ⟨[.int .i64 c, .int .i64 d]⟩] (arcV (rmulM a b c d)) := by
  refine evF_gives (E := Es) mixed Es_ok Cs_ok book_rmulM_gives_ok (lim := 20) (d := 6) (nm := []) ?_
  rw [rmulM_gives_tree a b c d]
  unfold rmulM
  refine case_cond (fun (r : Int × Int × Int) => AV.v (arcV (r))) ?_ ?_
  · refine case_cond (fun (r : Int × Int × Int) => AV.v (arcV (r))) ?_ ?_
    · refine case_lt (fun (r : Int × Int × Int) => AV.v (arcV (r))) fun _ => ?_
      rfl
    · refine case_lt (fun (r : Int × Int × Int) => AV.v (arcV (r))) fun _ => ?_
      rfl
  · refine case_cond (fun (r : Int × Int × Int) => AV.v (arcV (r))) ?_ ?_
    · refine case_lt (fun (r : Int × Int × Int) => AV.v (arcV (r))) fun _ => ?_
      rfl
    · refine case_lt (fun (r : Int × Int × Int) => AV.v (arcV (r))) fun _ => ?_
      rfl
noncomputable def timesM (a b c d : Int) : Int × Int :=
  lt (rmulM a b c d) fun x1 =>
  (x1.1, x1.2.1)
noncomputable def book_timesM_gives : Book := [(82, ePP (fun a b c d => arcV (rmulM a b c d)))]
theorem book_timesM_gives_ok : BookOk Tryz.prog book_timesM_gives := (bookOk_cons (ePP_ok rmulM_gives) bookOk_nil)
theorem timesM_gives_tree (a b c d : Int) : evF Tryz.prog Es Cs book_timesM_gives 20 6 48 ([.agg ⟨[.int .i64 a, .int .i64 b]⟩, .agg ⟨[.int .i64 c, .int .i64 d]⟩].map AV.v) [] [] last =
  lt (rmulM a b c d) fun x1 =>
  some (.v (.agg ⟨[.int .i64 x1.1, .int .i64 x1.2.1]⟩)) := by kernel_rfl
theorem timesM_gives (a b c d : Int) : Gives Tryz.prog 48 [.agg ⟨[.int .i64 a, .int .i64 b]⟩, .agg ⟨[.int .i64 c, .int .i64 d]⟩] (pairV (timesM a b c d).1 (timesM a b c d).2) := by
  refine evF_gives (E := Es) mixed Es_ok Cs_ok book_timesM_gives_ok (lim := 20) (d := 6) (nm := []) ?_
  rw [timesM_gives_tree a b c d]
  unfold timesM
  refine case_lt (fun (r : Int × Int) => AV.v (pairV (r).1 (r).2)) fun _ => ?_
  rfl
noncomputable def plusM (a b c d : Int) : Int × Int :=
  lt (raddM a b c d) fun x1 =>
  (x1.1, x1.2.1)
noncomputable def book_plusM_gives : Book := [(104, ePP (fun a b c d => arcV (raddM a b c d)))]
theorem book_plusM_gives_ok : BookOk Tryz.prog book_plusM_gives := (bookOk_cons (ePP_ok raddM_gives) bookOk_nil)
theorem plusM_gives_tree (a b c d : Int) : evF Tryz.prog Es Cs book_plusM_gives 20 6 81 ([.agg ⟨[.int .i64 a, .int .i64 b]⟩, .agg ⟨[.int .i64 c, .int .i64 d]⟩].map AV.v) [] [] last =
  lt (raddM a b c d) fun x1 =>
  some (.v (.agg ⟨[.int .i64 x1.1, .int .i64 x1.2.1]⟩)) := by kernel_rfl
theorem plusM_gives (a b c d : Int) : Gives Tryz.prog 81 [.agg ⟨[.int .i64 a, .int .i64 b]⟩, .agg ⟨[.int .i64 c, .int .i64 d]⟩] (pairV (plusM a b c d).1 (plusM a b c d).2) := by
  refine evF_gives (E := Es) mixed Es_ok Cs_ok book_plusM_gives_ok (lim := 20) (d := 6) (nm := []) ?_
  rw [plusM_gives_tree a b c d]
  unfold plusM
  refine case_lt (fun (r : Int × Int) => AV.v (pairV (r).1 (r).2)) fun _ => ?_
  rfl
noncomputable def minusM (a b c d : Int) : Int × Int :=
  lt (rsubM a b c d) fun x1 =>
  (x1.1, x1.2.1)
noncomputable def book_minusM_gives : Book := [(84, ePP (fun a b c d => arcV (rsubM a b c d)))]
theorem book_minusM_gives_ok : BookOk Tryz.prog book_minusM_gives := (bookOk_cons (ePP_ok rsubM_gives) bookOk_nil)
theorem minusM_gives_tree (a b c d : Int) : evF Tryz.prog Es Cs book_minusM_gives 20 6 51 ([.agg ⟨[.int .i64 a, .int .i64 b]⟩, .agg ⟨[.int .i64 c, .int .i64 d]⟩].map AV.v) [] [] last =
  lt (rsubM a b c d) fun x1 =>
  some (.v (.agg ⟨[.int .i64 x1.1, .int .i64 x1.2.1]⟩)) := by kernel_rfl
theorem minusM_gives (a b c d : Int) : Gives Tryz.prog 51 [.agg ⟨[.int .i64 a, .int .i64 b]⟩, .agg ⟨[.int .i64 c, .int .i64 d]⟩] (pairV (minusM a b c d).1 (minusM a b c d).2) := by
  refine evF_gives (E := Es) mixed Es_ok Cs_ok book_minusM_gives_ok (lim := 20) (d := 6) (nm := []) ?_
  rw [minusM_gives_tree a b c d]
  unfold minusM
  refine case_lt (fun (r : Int × Int) => AV.v (pairV (r).1 (r).2)) fun _ => ?_
  rfl
noncomputable def rsneM (a b c d e f : Int) : Int × Int :=
  lt (rsinM a b) fun x1 =>
  lt (rsinM c d) fun x2 =>
  lt (timesM x1.1 x1.2 x2.1 x2.2) fun x3 =>
  lt (rcosM a b) fun x4 =>
  lt (rcosM c d) fun x5 =>
  lt (timesM x4.1 x4.2 x5.1 x5.2) fun x6 =>
  lt (rcosM e f) fun x7 =>
  lt (timesM x6.1 x6.2 x7.1 x7.2) fun x8 =>
  lt (plusM x3.1 x3.2 x8.1 x8.2) fun x9 =>
  (x9.1, x9.2)
noncomputable def book_rsneM_gives : Book := [(48, ePP (fun a b c d => pairV (timesM a b c d).1 (timesM a b c d).2)), (49, eP (fun a b => pairV (rcosM a b).1 (rcosM a b).2)), (50, eP (fun a b => pairV (rsinM a b).1 (rsinM a b).2)), (81, ePP (fun a b c d => pairV (plusM a b c d).1 (plusM a b c d).2))]
theorem book_rsneM_gives_ok : BookOk Tryz.prog book_rsneM_gives := (bookOk_cons (ePP_ok timesM_gives) (bookOk_cons (eP_ok rcosM_gives) (bookOk_cons (eP_ok rsinM_gives) (bookOk_cons (ePP_ok plusM_gives) bookOk_nil))))
theorem rsneM_gives_tree (a b c d e f : Int) : evF Tryz.prog Es Cs book_rsneM_gives 20 6 46 ([.agg ⟨[.int .i64 a, .int .i64 b, .int .i64 c, .int .i64 d, .int .i64 e, .int .i64 f]⟩].map AV.v) [] [] last =
  lt (rsinM a b) fun x1 =>
  lt (rsinM c d) fun x2 =>
  lt (timesM x1.1 x1.2 x2.1 x2.2) fun x3 =>
  lt (rcosM a b) fun x4 =>
  lt (rcosM c d) fun x5 =>
  lt (timesM x4.1 x4.2 x5.1 x5.2) fun x6 =>
  lt (rcosM e f) fun x7 =>
  lt (timesM x6.1 x6.2 x7.1 x7.2) fun x8 =>
  lt (plusM x3.1 x3.2 x8.1 x8.2) fun x9 =>
  some (.v (.agg ⟨[.int .i64 x9.1, .int .i64 x9.2]⟩)) := by kernel_rfl
theorem rsneM_gives (a b c d e f : Int) : Gives Tryz.prog 46 [.agg ⟨[.int .i64 a, .int .i64 b, .int .i64 c, .int .i64 d, .int .i64 e, .int .i64 f]⟩] (pairV (rsneM a b c d e f).1 (rsneM a b c d e f).2) := by
  refine evF_gives (E := Es) mixed Es_ok Cs_ok book_rsneM_gives_ok (lim := 20) (d := 6) (nm := []) ?_
  rw [rsneM_gives_tree a b c d e f]
  unfold rsneM
  refine case_lt (fun (r : Int × Int) => AV.v (pairV (r).1 (r).2)) fun _ => ?_
  refine case_lt (fun (r : Int × Int) => AV.v (pairV (r).1 (r).2)) fun _ => ?_
  refine case_lt (fun (r : Int × Int) => AV.v (pairV (r).1 (r).2)) fun _ => ?_
  refine case_lt (fun (r : Int × Int) => AV.v (pairV (r).1 (r).2)) fun _ => ?_
  refine case_lt (fun (r : Int × Int) => AV.v (pairV (r).1 (r).2)) fun _ => ?_
  refine case_lt (fun (r : Int × Int) => AV.v (pairV (r).1 (r).2)) fun _ => ?_
  refine case_lt (fun (r : Int × Int) => AV.v (pairV (r).1 (r).2)) fun _ => ?_
  refine case_lt (fun (r : Int × Int) => AV.v (pairV (r).1 (r).2)) fun _ => ?_
  refine case_lt (fun (r : Int × Int) => AV.v (pairV (r).1 (r).2)) fun _ => ?_
  rfl
noncomputable def raltM (a b c d e f : Int) : Int × Int :=
  lt (rsneM a b c d e f) fun x1 =>
  lt (asinR x1.1 x1.2) fun x2 =>
  (x2.1, x2.2.1)
noncomputable def book_raltM_gives : Book := [(45, eP (fun a b => arcV (asinR a b))), (46, eT (fun a b c d e f => pairV (rsneM a b c d e f).1 (rsneM a b c d e f).2))]
theorem book_raltM_gives_ok : BookOk Tryz.prog book_raltM_gives := (bookOk_cons (eP_ok rasin_r) (bookOk_cons (eT_ok rsneM_gives) bookOk_nil))
theorem raltM_gives_tree (a b c d e f : Int) : evF Tryz.prog Es Cs book_raltM_gives 20 6 24 ([.agg ⟨[.int .i64 a, .int .i64 b, .int .i64 c, .int .i64 d, .int .i64 e, .int .i64 f]⟩].map AV.v) [] [] last =
  lt (rsneM a b c d e f) fun x1 =>
  lt (asinR x1.1 x1.2) fun x2 =>
  some (.v (.agg ⟨[.int .i64 x2.1, .int .i64 x2.2.1]⟩)) := by kernel_rfl
theorem raltM_gives (a b c d e f : Int) : Gives Tryz.prog 24 [.agg ⟨[.int .i64 a, .int .i64 b, .int .i64 c, .int .i64 d, .int .i64 e, .int .i64 f]⟩] (pairV (raltM a b c d e f).1 (raltM a b c d e f).2) := by
  refine evF_gives (E := Es) mixed Es_ok Cs_ok book_raltM_gives_ok (lim := 20) (d := 6) (nm := []) ?_
  rw [raltM_gives_tree a b c d e f]
  unfold raltM
  refine case_lt (fun (r : Int × Int) => AV.v (pairV (r).1 (r).2)) fun _ => ?_
  refine case_lt (fun (r : Int × Int) => AV.v (pairV (r).1 (r).2)) fun _ => ?_
  rfl
noncomputable def raziM (a b c d e f : Int) : Int × Int :=
  lt (rcosM c d) fun x1 =>
  lt (rsinM e f) fun x2 =>
  lt (timesM x1.1 x1.2 x2.1 x2.2) fun x3 =>
  lt (rnegM x3.1 x3.2) fun x4 =>
  lt (rsinM c d) fun x5 =>
  lt (rcosM a b) fun x6 =>
  lt (timesM x5.1 x5.2 x6.1 x6.2) fun x7 =>
  lt (rcosM c d) fun x8 =>
  lt (rcosM e f) fun x9 =>
  lt (timesM x8.1 x8.2 x9.1 x9.2) fun x10 =>
  lt (rsinM a b) fun x11 =>
  lt (timesM x10.1 x10.2 x11.1 x11.2) fun x12 =>
  lt (minusM x7.1 x7.2 x12.1 x12.2) fun x13 =>
  lt (bearR x4.1 x4.2 x13.1 x13.2) fun x14 =>
  (x14.1, x14.2.1)
noncomputable def book_raziM_gives : Book := [(47, eP (fun a b => pairV (rnegM a b).1 (rnegM a b).2)), (48, ePP (fun a b c d => pairV (timesM a b c d).1 (timesM a b c d).2)), (49, eP (fun a b => pairV (rcosM a b).1 (rcosM a b).2)), (50, eP (fun a b => pairV (rsinM a b).1 (rsinM a b).2)), (51, ePP (fun a b c d => pairV (minusM a b c d).1 (minusM a b c d).2)), (52, ePP (fun a b c d => arcV (bearR a b c d)))]
theorem book_raziM_gives_ok : BookOk Tryz.prog book_raziM_gives := (bookOk_cons (eP_ok rnegM_gives) (bookOk_cons (ePP_ok timesM_gives) (bookOk_cons (eP_ok rcosM_gives) (bookOk_cons (eP_ok rsinM_gives) (bookOk_cons (ePP_ok minusM_gives) (bookOk_cons (ePP_ok rbear) bookOk_nil))))))
theorem raziM_gives_tree (a b c d e f : Int) : evF Tryz.prog Es Cs book_raziM_gives 20 6 25 ([.agg ⟨[.int .i64 a, .int .i64 b, .int .i64 c, .int .i64 d, .int .i64 e, .int .i64 f]⟩].map AV.v) [] [] last =
  lt (rcosM c d) fun x1 =>
  lt (rsinM e f) fun x2 =>
  lt (timesM x1.1 x1.2 x2.1 x2.2) fun x3 =>
  lt (rnegM x3.1 x3.2) fun x4 =>
  lt (rsinM c d) fun x5 =>
  lt (rcosM a b) fun x6 =>
  lt (timesM x5.1 x5.2 x6.1 x6.2) fun x7 =>
  lt (rcosM c d) fun x8 =>
  lt (rcosM e f) fun x9 =>
  lt (timesM x8.1 x8.2 x9.1 x9.2) fun x10 =>
  lt (rsinM a b) fun x11 =>
  lt (timesM x10.1 x10.2 x11.1 x11.2) fun x12 =>
  lt (minusM x7.1 x7.2 x12.1 x12.2) fun x13 =>
  lt (bearR x4.1 x4.2 x13.1 x13.2) fun x14 =>
  some (.v (.agg ⟨[.int .i64 x14.1, .int .i64 x14.2.1]⟩)) := by kernel_rfl
theorem raziM_gives (a b c d e f : Int) : Gives Tryz.prog 25 [.agg ⟨[.int .i64 a, .int .i64 b, .int .i64 c, .int .i64 d, .int .i64 e, .int .i64 f]⟩] (pairV (raziM a b c d e f).1 (raziM a b c d e f).2) := by
  refine evF_gives (E := Es) mixed Es_ok Cs_ok book_raziM_gives_ok (lim := 20) (d := 6) (nm := []) ?_
  rw [raziM_gives_tree a b c d e f]
  unfold raziM
  refine case_lt (fun (r : Int × Int) => AV.v (pairV (r).1 (r).2)) fun _ => ?_
  refine case_lt (fun (r : Int × Int) => AV.v (pairV (r).1 (r).2)) fun _ => ?_
  refine case_lt (fun (r : Int × Int) => AV.v (pairV (r).1 (r).2)) fun _ => ?_
  refine case_lt (fun (r : Int × Int) => AV.v (pairV (r).1 (r).2)) fun _ => ?_
  refine case_lt (fun (r : Int × Int) => AV.v (pairV (r).1 (r).2)) fun _ => ?_
  refine case_lt (fun (r : Int × Int) => AV.v (pairV (r).1 (r).2)) fun _ => ?_
  refine case_lt (fun (r : Int × Int) => AV.v (pairV (r).1 (r).2)) fun _ => ?_
  refine case_lt (fun (r : Int × Int) => AV.v (pairV (r).1 (r).2)) fun _ => ?_
  refine case_lt (fun (r : Int × Int) => AV.v (pairV (r).1 (r).2)) fun _ => ?_
  refine case_lt (fun (r : Int × Int) => AV.v (pairV (r).1 (r).2)) fun _ => ?_
  refine case_lt (fun (r : Int × Int) => AV.v (pairV (r).1 (r).2)) fun _ => ?_
  refine case_lt (fun (r : Int × Int) => AV.v (pairV (r).1 (r).2)) fun _ => ?_
  refine case_lt (fun (r : Int × Int) => AV.v (pairV (r).1 (r).2)) fun _ => ?_
  refine case_lt (fun (r : Int × Int) => AV.v (pairV (r).1 (r).2)) fun _ => ?_
  rfl
noncomputable def ra5M (a b c d : Int) : Int × Int :=
  (IntKind.i64.wrap (a - d), IntKind.i64.wrap (b - c))
noncomputable def book_ra5M_gives : Book := []
theorem book_ra5M_gives_ok : BookOk Tryz.prog book_ra5M_gives := bookOk_nil
theorem ra5M_gives_tree (a b c d : Int) : evF Tryz.prog Es Cs book_ra5M_gives 20 6 26 ([.agg ⟨[.int .i64 a, .int .i64 b]⟩, .agg ⟨[.int .i64 c, .int .i64 d]⟩].map AV.v) [] [] last =
  some (.v (.agg ⟨[.int .i64 (IntKind.i64.wrap (a - d)), .int .i64 (IntKind.i64.wrap (b - c))]⟩)) := by kernel_rfl
theorem ra5M_gives (a b c d : Int) : Gives Tryz.prog 26 [.agg ⟨[.int .i64 a, .int .i64 b]⟩, .agg ⟨[.int .i64 c, .int .i64 d]⟩] (pairV (ra5M a b c d).1 (ra5M a b c d).2) := by
  refine evF_gives (E := Es) mixed Es_ok Cs_ok book_ra5M_gives_ok (lim := 20) (d := 6) (nm := []) ?_
  rw [ra5M_gives_tree a b c d]
  rfl
noncomputable def rplM (a b : Int) : Int × Int × Int × Int :=
  (a, a, b, b)
noncomputable def book_rplM_gives : Book := []
theorem book_rplM_gives_ok : BookOk Tryz.prog book_rplM_gives := bookOk_nil
theorem rplM_gives_tree (a b : Int) : evF Tryz.prog Es Cs book_rplM_gives 20 6 23 ([.agg ⟨[.int .i64 a, .int .i64 b]⟩].map AV.v) [] [] last =
  some (.v (.agg ⟨[.int .i64 a, .int .i64 a, .int .i64 b, .int .i64 b]⟩)) := by kernel_rfl
theorem rplM_gives (a b : Int) : Gives Tryz.prog 23 [.agg ⟨[.int .i64 a, .int .i64 b]⟩] (solP (rplM a b)) := by
  refine evF_gives (E := Es) mixed Es_ok Cs_ok book_rplM_gives_ok (lim := 20) (d := 6) (nm := []) ?_
  rw [rplM_gives_tree a b]
  rfl
noncomputable def rtrM (a b c d _e _f u v w x : Int) : Int × Int × Int × Int × Int × Int :=
  lt (ra5M w x c d) fun x1 =>
  (u, v, a, b, x1.1, x1.2)
noncomputable def book_rtrM_gives : Book := [(26, ePP (fun a b c d => pairV (ra5M a b c d).1 (ra5M a b c d).2))]
theorem book_rtrM_gives_ok : BookOk Tryz.prog book_rtrM_gives := (bookOk_cons (ePP_ok ra5M_gives) bookOk_nil)
theorem rtrM_gives_tree (a b c d e f u v w x : Int) : evF Tryz.prog Es Cs book_rtrM_gives 20 6 22 ([.agg ⟨[.int .i64 a, .int .i64 b, .int .i64 c, .int .i64 d, .int .i64 e, .int .i64 f]⟩, .agg ⟨[.int .i64 u, .int .i64 v, .int .i64 w, .int .i64 x]⟩].map AV.v) [] [] last =
  lt (ra5M w x c d) fun x1 =>
  some (.v (.agg ⟨[.int .i64 u, .int .i64 v, .int .i64 a, .int .i64 b, .int .i64 x1.1, .int .i64 x1.2]⟩)) := by kernel_rfl
theorem rtrM_gives (a b c d e f u v w x : Int) : Gives Tryz.prog 22 [.agg ⟨[.int .i64 a, .int .i64 b, .int .i64 c, .int .i64 d, .int .i64 e, .int .i64 f]⟩, .agg ⟨[.int .i64 u, .int .i64 v, .int .i64 w, .int .i64 x]⟩] (triP (rtrM a b c d e f u v w x)) := by
  refine evF_gives (E := Es) mixed Es_ok Cs_ok book_rtrM_gives_ok (lim := 20) (d := 6) (nm := []) ?_
  rw [rtrM_gives_tree a b c d e f u v w x]
  unfold rtrM
  refine case_lt (fun (r : Int × Int × Int × Int × Int × Int) => AV.v (triP (r))) fun _ => ?_
  rfl
noncomputable def rtanM (a b c d e f u v : Int) : Int × Int × Int × Int × Int × Int :=
  lt (rplM u v) fun x1 =>
  lt (rtrM a b c d e f x1.1 x1.2.1 x1.2.2.1 x1.2.2.2) fun x2 =>
  lt (raltM x2.1 x2.2.1 x2.2.2.1 x2.2.2.2.1 x2.2.2.2.2.1 x2.2.2.2.2.2) fun x3 =>
  lt (raziM x2.1 x2.2.1 x2.2.2.1 x2.2.2.2.1 x2.2.2.2.2.1 x2.2.2.2.2.2) fun x4 =>
  lt (ra5M (IntKind.i64.wrap (5400000 - x3.2)) (IntKind.i64.wrap (5400000 - x3.1)) e f) fun x5 =>
  (u, v, x4.1, x4.2, x5.1, x5.2)
noncomputable def book_rtanM_gives : Book := [(22, eTS (fun a b c d e f u v w x => triP (rtrM a b c d e f u v w x))), (23, eP (fun a b => solP (rplM a b))), (24, eT (fun a b c d e f => pairV (raltM a b c d e f).1 (raltM a b c d e f).2)), (25, eT (fun a b c d e f => pairV (raziM a b c d e f).1 (raziM a b c d e f).2)), (26, ePP (fun a b c d => pairV (ra5M a b c d).1 (ra5M a b c d).2))]
theorem book_rtanM_gives_ok : BookOk Tryz.prog book_rtanM_gives := (bookOk_cons (eTS_ok rtrM_gives) (bookOk_cons (eP_ok rplM_gives) (bookOk_cons (eT_ok raltM_gives) (bookOk_cons (eT_ok raziM_gives) (bookOk_cons (ePP_ok ra5M_gives) bookOk_nil)))))
theorem rtanM_gives_tree (a b c d e f u v : Int) : evF Tryz.prog Es Cs book_rtanM_gives 20 6 8 ([.agg ⟨[.int .i64 a, .int .i64 b, .int .i64 c, .int .i64 d, .int .i64 e, .int .i64 f]⟩, .agg ⟨[.int .i64 u, .int .i64 v]⟩].map AV.v) [] [] last =
  lt (rplM u v) fun x1 =>
  lt (rtrM a b c d e f x1.1 x1.2.1 x1.2.2.1 x1.2.2.2) fun x2 =>
  lt (raltM x2.1 x2.2.1 x2.2.2.1 x2.2.2.2.1 x2.2.2.2.2.1 x2.2.2.2.2.2) fun x3 =>
  lt (raziM x2.1 x2.2.1 x2.2.2.1 x2.2.2.2.1 x2.2.2.2.2.1 x2.2.2.2.2.2) fun x4 =>
  lt (ra5M (IntKind.i64.wrap (5400000 - x3.2)) (IntKind.i64.wrap (5400000 - x3.1)) e f) fun x5 =>
  some (.v (.agg ⟨[.int .i64 u, .int .i64 v, .int .i64 x4.1, .int .i64 x4.2, .int .i64 x5.1, .int .i64 x5.2]⟩)) := by kernel_rfl
theorem rtanM_gives (a b c d e f u v : Int) : Gives Tryz.prog 8 [.agg ⟨[.int .i64 a, .int .i64 b, .int .i64 c, .int .i64 d, .int .i64 e, .int .i64 f]⟩, .agg ⟨[.int .i64 u, .int .i64 v]⟩] (triP (rtanM a b c d e f u v)) := by
  refine evF_gives (E := Es) mixed Es_ok Cs_ok book_rtanM_gives_ok (lim := 20) (d := 6) (nm := []) ?_
  rw [rtanM_gives_tree a b c d e f u v]
  unfold rtanM
  refine case_lt (fun (r : Int × Int × Int × Int × Int × Int) => AV.v (triP (r))) fun _ => ?_
  refine case_lt (fun (r : Int × Int × Int × Int × Int × Int) => AV.v (triP (r))) fun _ => ?_
  refine case_lt (fun (r : Int × Int × Int × Int × Int × Int) => AV.v (triP (r))) fun _ => ?_
  refine case_lt (fun (r : Int × Int × Int × Int × Int × Int) => AV.v (triP (r))) fun _ => ?_
  refine case_lt (fun (r : Int × Int × Int × Int × Int × Int) => AV.v (triP (r))) fun _ => ?_
  rfl
noncomputable def rcvM (a b c d e f : Int) : Bool :=
  cond (decide (a ≥ (-5400000)))
  (cond (decide (a ≤ b))
   (cond (decide (b ≤ 5400000))
    (cond ((c == (-10800000)) && ((d == 10800000) && true))
     (cond (decide (e ≥ 0))
      (cond (decide (e ≤ f))
       ((decide (f ≤ 10800000)))
       (false))
      (false))
     (cond (decide (c ≥ (-10800000)))
      (cond (decide (c < 10800000))
       (cond (decide (c ≤ d))
        (cond (decide (d < IntKind.i64.wrap (c + 21600000)))
         (cond (decide (e ≥ 0))
          (cond (decide (e ≤ f))
           ((decide (f ≤ 10800000)))
           (false))
          (false))
         (false))
        (false))
       (false))
      (false)))
    (false))
   (false))
  (false)
noncomputable def book_rcvM_gives : Book := []
theorem book_rcvM_gives_ok : BookOk Tryz.prog book_rcvM_gives := bookOk_nil
theorem rcvM_gives_tree (a b c d e f : Int) : evF Tryz.prog Es Cs book_rcvM_gives 20 6 6 ([.agg ⟨[.int .i64 a, .int .i64 b, .int .i64 c, .int .i64 d, .int .i64 e, .int .i64 f]⟩].map AV.v) [] [] last =
  cond (decide (a ≥ (-5400000)))
  (cond (decide (a ≤ b))
   (cond (decide (b ≤ 5400000))
    (cond ((c == (-10800000)) && ((d == 10800000) && true))
     (cond (decide (e ≥ 0))
      (cond (decide (e ≤ f))
       (some (.v (.bool (decide (f ≤ 10800000)))))
       (some (.v (.bool false))))
      (some (.v (.bool false))))
     (cond (decide (c ≥ (-10800000)))
      (cond (decide (c < 10800000))
       (cond (decide (c ≤ d))
        (cond (decide (d < IntKind.i64.wrap (c + 21600000)))
         (cond (decide (e ≥ 0))
          (cond (decide (e ≤ f))
           (some (.v (.bool (decide (f ≤ 10800000)))))
           (some (.v (.bool false))))
          (some (.v (.bool false))))
         (some (.v (.bool false))))
        (some (.v (.bool false))))
       (some (.v (.bool false))))
      (some (.v (.bool false)))))
    (some (.v (.bool false))))
   (some (.v (.bool false))))
  (some (.v (.bool false))) := by kernel_rfl
theorem rcvM_gives (a b c d e f : Int) : Gives Tryz.prog 6 [.agg ⟨[.int .i64 a, .int .i64 b, .int .i64 c, .int .i64 d, .int .i64 e, .int .i64 f]⟩] (.bool (rcvM a b c d e f)) := by
  refine evF_gives (E := Es) mixed Es_ok Cs_ok book_rcvM_gives_ok (lim := 20) (d := 6) (nm := []) ?_
  rw [rcvM_gives_tree a b c d e f]
  unfold rcvM
  refine case_cond (fun (r : Bool) => AV.v (.bool (r))) ?_ ?_
  · refine case_cond (fun (r : Bool) => AV.v (.bool (r))) ?_ ?_
    · refine case_cond (fun (r : Bool) => AV.v (.bool (r))) ?_ ?_
      · refine case_cond (fun (r : Bool) => AV.v (.bool (r))) ?_ ?_
        · refine case_cond (fun (r : Bool) => AV.v (.bool (r))) ?_ ?_
          · refine case_cond (fun (r : Bool) => AV.v (.bool (r))) ?_ ?_
            · rfl
            · rfl
          · rfl
        · refine case_cond (fun (r : Bool) => AV.v (.bool (r))) ?_ ?_
          · refine case_cond (fun (r : Bool) => AV.v (.bool (r))) ?_ ?_
            · refine case_cond (fun (r : Bool) => AV.v (.bool (r))) ?_ ?_
              · refine case_cond (fun (r : Bool) => AV.v (.bool (r))) ?_ ?_
                · refine case_cond (fun (r : Bool) => AV.v (.bool (r))) ?_ ?_
                  · refine case_cond (fun (r : Bool) => AV.v (.bool (r))) ?_ ?_
                    · rfl
                    · rfl
                  · rfl
                · rfl
              · rfl
            · rfl
          · rfl
      · rfl
    · rfl
  · rfl
noncomputable def rvpM (a b : Int) : Bool :=
  cond (decide (a ≥ (-5400000)))
  (cond (decide (a ≤ 5400000))
   (cond (decide (b ≥ (-10800000)))
    ((decide (b < 10800000)))
    (false))
   (false))
  (false)
noncomputable def book_rvpM_gives : Book := []
theorem book_rvpM_gives_ok : BookOk Tryz.prog book_rvpM_gives := bookOk_nil
theorem rvpM_gives_tree (a b : Int) : evF Tryz.prog Es Cs book_rvpM_gives 20 6 7 ([.agg ⟨[.int .i64 a, .int .i64 b]⟩].map AV.v) [] [] last =
  cond (decide (a ≥ (-5400000)))
  (cond (decide (a ≤ 5400000))
   (cond (decide (b ≥ (-10800000)))
    (some (.v (.bool (decide (b < 10800000)))))
    (some (.v (.bool false))))
   (some (.v (.bool false))))
  (some (.v (.bool false))) := by kernel_rfl
theorem rvpM_gives (a b : Int) : Gives Tryz.prog 7 [.agg ⟨[.int .i64 a, .int .i64 b]⟩] (.bool (rvpM a b)) := by
  refine evF_gives (E := Es) mixed Es_ok Cs_ok book_rvpM_gives_ok (lim := 20) (d := 6) (nm := []) ?_
  rw [rvpM_gives_tree a b]
  unfold rvpM
  refine case_cond (fun (r : Bool) => AV.v (.bool (r))) ?_ ?_
  · refine case_cond (fun (r : Bool) => AV.v (.bool (r))) ?_ ?_
    · refine case_cond (fun (r : Bool) => AV.v (.bool (r))) ?_ ?_
      · rfl
      · rfl
    · rfl
  · rfl
end Go.Proofs.YtkfkddbglnbjgaaGreat

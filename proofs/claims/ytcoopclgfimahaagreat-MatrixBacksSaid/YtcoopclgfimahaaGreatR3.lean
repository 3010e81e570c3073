/-
  The examples of the chapter; MatrixSolves and MatrixBacks answer true.
-/
import Derived.Test.YtcoopclgfimahaaGreatR2
namespace Go.Proofs.YtcoopclgfimahaaGreat
open Ev

open SM TB TA
open Ev (lt keepE)
def ePS (F : Int → Int → Int → Int → Int → Int → Value) : Ent
  | [.v (.agg ⟨[.int .i64 a, .int .i64 b]⟩), .v (.agg ⟨[.int .i64 c, .int .i64 d, .int .i64 e, .int .i64 f]⟩)], [] => some (true, .v (F a b c d e f), [])
  | _, _ => none
theorem ePS_ok {P : Program} {g : FuncId} {F : Int → Int → Int → Int → Int → Int → Value} (h : ∀ a b c d e f, Gives P g [.agg ⟨[.int .i64 a, .int .i64 b]⟩, .agg ⟨[.int .i64 c, .int .i64 d, .int .i64 e, .int .i64 f]⟩] (F a b c d e f)) (args : List AV) (L : Ev.Loc) (z : Bool) (r : AV) (L' : Ev.Loc) (q : ePS F args L = some (z, r, L')) (_ : z = true) : Runs P g args L r L' := by
  unfold ePS at q
  split at q
  · cases q
    exact gives_runs (h _ _ _ _ _ _)
  · cases q
noncomputable def book_awake29_gives : Book := [(6, eT (fun a b c d e f => solV (msolM a b c d e f))), (9, ePS (fun a b c d e f => twoV (bakM a b c d e f)))]
theorem book_awake29_gives_ok : BookOk Tryz.prog book_awake29_gives := (bookOk_cons (eT_ok msolM_gives) (bookOk_cons (ePS_ok bakM_gives) bookOk_nil))
theorem awake29_gives_tree  : evF Tryz.prog Es Cs book_awake29_gives 20 6 5 ([].map AV.v) [] [] last =
  lt (msolM 2700000 2700000 2700000 2700000 0 0) fun x1 =>
  lt (bakM 0 0 1800000 1800000 5400000 5400000) fun x2 =>
  cond (x1.2.2.2.2 == 0)
  (cond (decide (x1.1 ≤ 5400000))
   (cond (decide (x1.2.1 ≥ 5400000))
    (cond (decide (IntKind.i64.wrap (x1.2.1 - x1.1) ≤ 4))
     (cond (x2.2.2.2.2 == 0)
      (cond ((x2.1 == 0) && ((x2.2.1 == 0) && true))
       (cond (decide (x2.2.2.1 ≤ 18000000))
        (cond (decide (x2.2.2.2.1 ≥ 18000000))
         (some (.v (.bool (decide (IntKind.i64.wrap (x2.2.2.2.1 - x2.2.2.1) ≤ 4)))))
         (some (.v (.bool false))))
        (some (.v (.bool false))))
       (some (.v (.bool false))))
      (some (.v (.bool false))))
     (some (.v (.bool false))))
    (some (.v (.bool false))))
   (some (.v (.bool false))))
  (some (.v (.bool false))) := by kernel_rfl
theorem awake29_gives  : Gives Tryz.prog 5 [] (.bool (true)) := by
  refine evF_gives (E := Es) mixed Es_ok Cs_ok book_awake29_gives_ok (lim := 20) (d := 6) (nm := []) ?_
  rw [awake29_gives_tree]
  have ht : triB 2700000 2700000 2700000 2700000 0 0 = true := by decide +kernel
  have z := malt_zen ht
  have n := malt_narrow ht
  have L := (matrix_ok ht).2.lat
  simp only [lt]
  rw [bak_x, (matrix_ok ht).1]
  dsimp only
  obtain ⟨q1, q2, q3, q4⟩ := L
  rw [i64w (by omega), decide_eq_true z.1, decide_eq_true (show (maltE 2700000 2700000 2700000 2700000 0 0).2.1 ≥ 5400000 from z.2), decide_eq_true n]
  rfl
noncomputable def book_mso_any : Book := [(5, e0 (.bool (true))), (6, eT (fun a b c d e f => solV (msolM a b c d e f))), (7, eT (fun a b c d e f => .bool (rtriM a b c d e f))), (8, eTif triB (fun a b c d e f => solP (rsolQ a b c d e f)))]
theorem book_mso_any_ok : BookOk Tryz.prog book_mso_any := (bookOk_cons (e0_ok awake29_gives) (bookOk_cons (eT_ok msolM_gives) (bookOk_cons (eT_ok rtriM_gives) (bookOk_cons (eTif_ok rsol_gives) bookOk_nil))))
theorem mso_any_tree (a b c d e f : Int) : evF Tryz.prog Es Cs book_mso_any 20 6 3 ([.agg ⟨[.int .i64 a, .int .i64 b, .int .i64 c, .int .i64 d, .int .i64 e, .int .i64 f]⟩].map AV.v) [] [] last =
  cond (!(true))
  (some (.v (.bool false)))
  (lt (msolM a b c d e f) fun x1 =>
   cond (!(rtriM a b c d e f))
   (cond ((x1.1 == 0) && ((x1.2.1 == 0) && ((x1.2.2.1 == 0) && ((x1.2.2.2.1 == 0) && true))))
    (some (.v (.bool (x1.2.2.2.2 == 1))))
    (some (.v (.bool false))))
   (cond (x1.2.2.2.2 == 0)
    (lt (rsolQ a b c d e f) fun x2 =>
     cond (triB a b c d e f)
     (some (.v (.bool ((x1.1 == x2.1) && ((x1.2.1 == x2.2.1) && ((x1.2.2.1 == x2.2.2.1) && ((x1.2.2.2.1 == x2.2.2.2) && true)))))))
     (none))
    (some (.v (.bool false))))) := by kernel_rfl
theorem mso_any (a b c d e f : Int) : Gives Tryz.prog 3 [.agg ⟨[.int .i64 a, .int .i64 b, .int .i64 c, .int .i64 d, .int .i64 e, .int .i64 f]⟩] (.bool (allT a b c d e f)) := by
  refine evF_gives (E := Es) mixed Es_ok Cs_ok book_mso_any_ok (lim := 20) (d := 6) (nm := []) ?_
  rw [mso_any_tree a b c d e f]
  simp only [lt, Bool.not_true, cond_false]
  rw [rtri_eq]
  unfold allT
  cases ht : triB a b c d e f with
  | false =>
    rw [msol_no ht]
    rfl
  | true =>
    rw [(matrix_ok ht).1]
    unfold rsolQ
    dsimp only
    simp
noncomputable def book_mba_any : Book := [(5, e0 (.bool (true))), (9, ePS (fun a b c d e f => twoV (bakM a b c d e f))), (10, ePS (fun a b c d e f => twoV (rbakM a b c d e f)))]
theorem book_mba_any_ok : BookOk Tryz.prog book_mba_any := (bookOk_cons (e0_ok awake29_gives) (bookOk_cons (ePS_ok bakM_gives) (bookOk_cons (ePS_ok rbakM_gives) bookOk_nil)))
theorem mba_any_tree (a b c d e f : Int) : evF Tryz.prog Es Cs book_mba_any 20 6 4 ([.agg ⟨[.int .i64 a, .int .i64 b]⟩, .agg ⟨[.int .i64 c, .int .i64 d, .int .i64 e, .int .i64 f]⟩].map AV.v) [] [] last =
  cond (!(true))
  (some (.v (.bool false)))
  (lt (bakM a b c d e f) fun x1 =>
   lt (rbakM a b c d e f) fun x2 =>
   cond ((x1.1 == x2.1) && ((x1.2.1 == x2.2.1) && true))
   (cond ((x1.2.2.1 == x2.2.2.1) && ((x1.2.2.2.1 == x2.2.2.2.1) && true))
    (some (.v (.bool (x1.2.2.2.2 == x2.2.2.2.2))))
    (some (.v (.bool false))))
   (some (.v (.bool false)))) := by kernel_rfl
theorem mba_any (a b c d e f : Int) : Gives Tryz.prog 4 [.agg ⟨[.int .i64 a, .int .i64 b]⟩, .agg ⟨[.int .i64 c, .int .i64 d, .int .i64 e, .int .i64 f]⟩] (.bool (allPS a b c d e f)) := by
  refine evF_gives (E := Es) mixed Es_ok Cs_ok book_mba_any_ok (lim := 20) (d := 6) (nm := []) ?_
  rw [mba_any_tree a b c d e f]
  simp only [lt, Bool.not_true, cond_false]
  rw [rbak_eq]
  unfold allPS
  simp
end Go.Proofs.YtcoopclgfimahaaGreat

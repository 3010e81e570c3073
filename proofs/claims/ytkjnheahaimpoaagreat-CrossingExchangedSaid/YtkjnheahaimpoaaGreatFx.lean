/-
  Crossings: what each function gives.
-/
import Derived.Test.YtkjnheahaimpoaaGreatFa
namespace Go.Proofs.YtkjnheahaimpoaaGreat
open Ev

def crsV (r : Int × Int × Int × Int × Int × Int × Int × Int × Int) : Value := .tuple ⟨[.agg ⟨[.int .i64 r.1, .int .i64 r.2.1, .int .i64 r.2.2.1, .int .i64 r.2.2.2.1]⟩, .agg ⟨[.int .i64 r.2.2.2.2.1, .int .i64 r.2.2.2.2.2.1, .int .i64 r.2.2.2.2.2.2.1, .int .i64 r.2.2.2.2.2.2.2.1]⟩, .int .i64 r.2.2.2.2.2.2.2.2]⟩
noncomputable def xtriM (a b c d e f u v _w _x : Int) : Int × Int × Int × Int × Int × Int × Int :=
  lt (asubR c d u v) fun x1 =>
  (a, b, e, f, x1.1, x1.2.1, x1.2.2)
noncomputable def book_xtriM_gives : Book := [(69, ePP (fun a b c d => arcV (asubR a b c d)))]
theorem book_xtriM_gives_ok : BookOk Tryz.prog book_xtriM_gives := (bookOk_cons (ePP_ok asubR_gives) bookOk_nil)
theorem xtriM_gives_tree (a b c d e f u v w x : Int) : evF Tryz.prog Es Cs book_xtriM_gives 20 6 68 ([.agg ⟨[.int .i64 a, .int .i64 b]⟩, .agg ⟨[.int .i64 c, .int .i64 d]⟩, .agg ⟨[.int .i64 e, .int .i64 f, .int .i64 u, .int .i64 v, .int .i64 w, .int .i64 x]⟩].map AV.v) [] [] last =
  lt (asubR c d u v) fun x1 =>
  some (.v (.tuple ⟨[.agg ⟨[.int .i64 a, .int .i64 b, .int .i64 e, .int .i64 f, .int .i64 x1.1, .int .i64 x1.2.1]⟩, .int .i64 x1.2.2]⟩)) := by kernel_rfl
theorem xtriM_gives (a b c d e f u v w x : Int) : Gives Tryz.prog 68 [.agg ⟨[.int .i64 a, .int .i64 b]⟩, .agg ⟨[.int .i64 c, .int .i64 d]⟩, .agg ⟨[.int .i64 e, .int .i64 f, .int .i64 u, .int .i64 v, .int .i64 w, .int .i64 x]⟩] (cirV (xtriM a b c d e f u v w x)) := by
  refine evF_gives (E := Es) mixed Es_ok Cs_ok book_xtriM_gives_ok (lim := 20) (d := 6) (nm := []) ?_
  rw [xtriM_gives_tree a b c d e f u v w x]
  unfold xtriM
  refine case_lt (fun (r : Int × Int × Int × Int × Int × Int × Int) => AV.v (cirV (r))) fun _ => ?_
  rfl
noncomputable def xcrsM (a b c d e f u v w x y z : Int) : Int × Int × Int × Int × Int × Int × Int × Int × Int :=
  cond (!(cvalM a b c d e f))
  ((0, 0, 0, 0, 0, 0, 0, 0, 1))
  (cond (!(cvalM u v w x y z))
   ((0, 0, 0, 0, 0, 0, 0, 0, 1))
   (lt (xtriM a b c d u v w x y z) fun x1 =>
    cond (x1.2.2.2.2.2.2 != 0)
    ((0, 0, 0, 0, 0, 0, 0, 0, x1.2.2.2.2.2.2))
    (lt (csolM x1.1 x1.2.1 x1.2.2.1 x1.2.2.2.1 x1.2.2.2.2.1 x1.2.2.2.2.2.1) fun x2 =>
     cond (x2.2.2.2.2 != 0)
     ((0, 0, 0, 0, 0, 0, 0, 0, x2.2.2.2.2))
     (lt (asubR 5400000 5400000 x2.1 x2.2.1) fun x3 =>
      cond (x3.2.2 != 0)
      ((0, 0, 0, 0, 0, 0, 0, 0, x3.2.2))
      (lt (anglM y z e f x3.1 x3.2.1) fun x4 =>
       cond (x4.2.2 == 0)
       (lt (asubR x2.2.2.1 x2.2.2.2.1 x4.1 x4.2.1) fun x5 =>
        cond (x5.2.2 != 0)
        ((0, 0, 0, 0, 0, 0, 0, 0, x5.2.2))
        (lt (catM a b c d e f x5.1 x5.2.1) fun x6 =>
         cond (x6.2.2.2.2 != 0)
         ((0, 0, 0, 0, 0, 0, 0, 0, x6.2.2.2.2))
         (lt (aaddR x2.2.2.1 x2.2.2.2.1 x4.1 x4.2.1) fun x7 =>
          cond (x7.2.2 != 0)
          ((0, 0, 0, 0, 0, 0, 0, 0, x7.2.2))
          (lt (catM a b c d e f x7.1 x7.2.1) fun x8 =>
           cond (x8.2.2.2.2 != 0)
           ((0, 0, 0, 0, 0, 0, 0, 0, x8.2.2.2.2))
           ((x6.1, x6.2.1, x6.2.2.1, x6.2.2.2.1, x8.1, x8.2.1, x8.2.2.1, x8.2.2.2.1, 0))))))
       (cond (x4.2.2 == 12)
        ((0, 0, 0, 0, 0, 0, 0, 0, 23))
        ((0, 0, 0, 0, 0, 0, 0, 0, x4.2.2))))))))
noncomputable def book_xcrsM_gives : Book := [(18, eT (fun a b c d e f => .bool (cvalM a b c d e f))), (21, ePP (fun a b c d => arcV (aaddR a b c d))), (27, eTP (fun a b c d e f u v => solV (catM a b c d e f u v))), (50, eT (fun a b c d e f => solV (csolM a b c d e f))), (68, ePPT (fun a b c d e f u v w x => cirV (xtriM a b c d e f u v w x))), (69, ePP (fun a b c d => arcV (asubR a b c d))), (70, ePPP (fun a b c d e f => arcV (anglM a b c d e f)))]
theorem book_xcrsM_gives_ok : BookOk Tryz.prog book_xcrsM_gives := (bookOk_cons (eT_ok cvalM_gives) (bookOk_cons (ePP_ok aaddR_gives) (bookOk_cons (eTP_ok catM_gives) (bookOk_cons (eT_ok csolM_gives) (bookOk_cons (ePPT_ok xtriM_gives) (bookOk_cons (ePP_ok asubR_gives) (bookOk_cons (ePPP_ok anglM_gives) bookOk_nil)))))))
theorem xcrsM_gives_tree (a b c d e f u v w x y z : Int) : evF Tryz.prog Es Cs book_xcrsM_gives 20 6 33 ([.agg ⟨[.int .i64 a, .int .i64 b, .int .i64 c, .int .i64 d, .int .i64 e, .int .i64 f]⟩, .agg ⟨[.int .i64 u, .int .i64 v, .int .i64 w, .int .i64 x, .int .i64 y, .int .i64 z]⟩].map AV.v) [] [] last =
  cond (!(cvalM a b c d e f))
  (some (.v (.tuple ⟨[.agg ⟨[.int .i64 0, .int .i64 0, .int .i64 0, .int .i64 0]⟩, .agg ⟨[.int .i64 0, .int .i64 0, .int .i64 0, .int .i64 0]⟩, .int .i64 1]⟩)))
  (cond (!(cvalM u v w x y z))
   (some (.v (.tuple ⟨[.agg ⟨[.int .i64 0, .int .i64 0, .int .i64 0, .int .i64 0]⟩, .agg ⟨[.int .i64 0, .int .i64 0, .int .i64 0, .int .i64 0]⟩, .int .i64 1]⟩)))
   (lt (xtriM a b c d u v w x y z) fun x1 =>
    cond (x1.2.2.2.2.2.2 != 0)
    (some (.v (.tuple ⟨[.agg ⟨[.int .i64 0, .int .i64 0, .int .i64 0, .int .i64 0]⟩, .agg ⟨[.int .i64 0, .int .i64 0, .int .i64 0, .int .i64 0]⟩, .int .i64 x1.2.2.2.2.2.2]⟩)))
    (lt (csolM x1.1 x1.2.1 x1.2.2.1 x1.2.2.2.1 x1.2.2.2.2.1 x1.2.2.2.2.2.1) fun x2 =>
     cond (x2.2.2.2.2 != 0)
     (some (.v (.tuple ⟨[.agg ⟨[.int .i64 0, .int .i64 0, .int .i64 0, .int .i64 0]⟩, .agg ⟨[.int .i64 0, .int .i64 0, .int .i64 0, .int .i64 0]⟩, .int .i64 x2.2.2.2.2]⟩)))
     (lt (asubR 5400000 5400000 x2.1 x2.2.1) fun x3 =>
      cond (x3.2.2 != 0)
      (some (.v (.tuple ⟨[.agg ⟨[.int .i64 0, .int .i64 0, .int .i64 0, .int .i64 0]⟩, .agg ⟨[.int .i64 0, .int .i64 0, .int .i64 0, .int .i64 0]⟩, .int .i64 x3.2.2]⟩)))
      (lt (anglM y z e f x3.1 x3.2.1) fun x4 =>
       cond (x4.2.2 == 0)
       (lt (asubR x2.2.2.1 x2.2.2.2.1 x4.1 x4.2.1) fun x5 =>
        cond (x5.2.2 != 0)
        (some (.v (.tuple ⟨[.agg ⟨[.int .i64 0, .int .i64 0, .int .i64 0, .int .i64 0]⟩, .agg ⟨[.int .i64 0, .int .i64 0, .int .i64 0, .int .i64 0]⟩, .int .i64 x5.2.2]⟩)))
        (lt (catM a b c d e f x5.1 x5.2.1) fun x6 =>
         cond (x6.2.2.2.2 != 0)
         (some (.v (.tuple ⟨[.agg ⟨[.int .i64 0, .int .i64 0, .int .i64 0, .int .i64 0]⟩, .agg ⟨[.int .i64 0, .int .i64 0, .int .i64 0, .int .i64 0]⟩, .int .i64 x6.2.2.2.2]⟩)))
         (lt (aaddR x2.2.2.1 x2.2.2.2.1 x4.1 x4.2.1) fun x7 =>
          cond (x7.2.2 != 0)
          (some (.v (.tuple ⟨[.agg ⟨[.int .i64 0, .int .i64 0, .int .i64 0, .int .i64 0]⟩, .agg ⟨[.int .i64 0, .int .i64 0, .int .i64 0, .int .i64 0]⟩, .int .i64 x7.2.2]⟩)))
          (lt (catM a b c d e f x7.1 x7.2.1) fun x8 =>
           cond (x8.2.2.2.2 != 0)
           (some (.v (.tuple ⟨[.agg ⟨[.int .i64 0, .int .i64 0, .int .i64 0, .int .i64 0]⟩, .agg ⟨[.int .i64 0, .int .i64 0, .int .i64 0, .int .i64 0]⟩, .int .i64 x8.2.2.2.2]⟩)))
           (some (.v (.tuple ⟨[.agg ⟨[.int .i64 x6.1, .int .i64 x6.2.1, .int .i64 x6.2.2.1, .int .i64 x6.2.2.2.1]⟩, .agg ⟨[.int .i64 x8.1, .int .i64 x8.2.1, .int .i64 x8.2.2.1, .int .i64 x8.2.2.2.1]⟩, .int .i64 0]⟩)))))))
       (cond (x4.2.2 == 12)
        (some (.v (.tuple ⟨[.agg ⟨[.int .i64 0, .int .i64 0, .int .i64 0, .int .i64 0]⟩, .agg ⟨[.int .i64 0, .int .i64 0, .int .i64 0, .int .i64 0]⟩, .int .i64 23]⟩)))
        (some (.v (.tuple ⟨[.agg ⟨[.int .i64 0, .int .i64 0, .int .i64 0, .int .i64 0]⟩, .agg ⟨[.int .i64 0, .int .i64 0, .int .i64 0, .int .i64 0]⟩, .int .i64 x4.2.2]⟩))))))))) := by kernel_rfl
theorem xcrsM_gives (a b c d e f u v w x y z : Int) : Gives Tryz.prog 33 [.agg ⟨[.int .i64 a, .int .i64 b, .int .i64 c, .int .i64 d, .int .i64 e, .int .i64 f]⟩, .agg ⟨[.int .i64 u, .int .i64 v, .int .i64 w, .int .i64 x, .int .i64 y, .int .i64 z]⟩] (crsV (xcrsM a b c d e f u v w x y z)) := by
  refine evF_gives (E := Es) mixed Es_ok Cs_ok book_xcrsM_gives_ok (lim := 20) (d := 6) (nm := []) ?_
  rw [xcrsM_gives_tree a b c d e f u v w x y z]
  unfold xcrsM
  refine case_cond (fun (r : Int × Int × Int × Int × Int × Int × Int × Int × Int) => AV.v (crsV (r))) ?_ ?_
  · rfl
  · refine case_cond (fun (r : Int × Int × Int × Int × Int × Int × Int × Int × Int) => AV.v (crsV (r))) ?_ ?_
    · rfl
    · refine case_lt (fun (r : Int × Int × Int × Int × Int × Int × Int × Int × Int) => AV.v (crsV (r))) fun _ => ?_
      refine case_cond (fun (r : Int × Int × Int × Int × Int × Int × Int × Int × Int) => AV.v (crsV (r))) ?_ ?_
      · rfl
      · refine case_lt (fun (r : Int × Int × Int × Int × Int × Int × Int × Int × Int) => AV.v (crsV (r))) fun _ => ?_
        refine case_cond (fun (r : Int × Int × Int × Int × Int × Int × Int × Int × Int) => AV.v (crsV (r))) ?_ ?_
        · rfl
        · refine case_lt (fun (r : Int × Int × Int × Int × Int × Int × Int × Int × Int) => AV.v (crsV (r))) fun _ => ?_
          refine case_cond (fun (r : Int × Int × Int × Int × Int × Int × Int × Int × Int) => AV.v (crsV (r))) ?_ ?_
          · rfl
          · refine case_lt (fun (r : Int × Int × Int × Int × Int × Int × Int × Int × Int) => AV.v (crsV (r))) fun _ => ?_
            refine case_cond (fun (r : Int × Int × Int × Int × Int × Int × Int × Int × Int) => AV.v (crsV (r))) ?_ ?_
            · refine case_lt (fun (r : Int × Int × Int × Int × Int × Int × Int × Int × Int) => AV.v (crsV (r))) fun _ => ?_
              refine case_cond (fun (r : Int × Int × Int × Int × Int × Int × Int × Int × Int) => AV.v (crsV (r))) ?_ ?_
              · rfl
              · refine case_lt (fun (r : Int × Int × Int × Int × Int × Int × Int × Int × Int) => AV.v (crsV (r))) fun _ => ?_
                refine case_cond (fun (r : Int × Int × Int × Int × Int × Int × Int × Int × Int) => AV.v (crsV (r))) ?_ ?_
                · rfl
                · refine case_lt (fun (r : Int × Int × Int × Int × Int × Int × Int × Int × Int) => AV.v (crsV (r))) fun _ => ?_
                  refine case_cond (fun (r : Int × Int × Int × Int × Int × Int × Int × Int × Int) => AV.v (crsV (r))) ?_ ?_
                  · rfl
                  · refine case_lt (fun (r : Int × Int × Int × Int × Int × Int × Int × Int × Int) => AV.v (crsV (r))) fun _ => ?_
                    refine case_cond (fun (r : Int × Int × Int × Int × Int × Int × Int × Int × Int) => AV.v (crsV (r))) ?_ ?_
                    · rfl
                    · rfl
            · refine case_cond (fun (r : Int × Int × Int × Int × Int × Int × Int × Int × Int) => AV.v (crsV (r))) ?_ ?_
              · rfl
              · rfl
noncomputable def xnerM (a b c d e f u v w x y z i j : Int) : Int × Int × Int × Int × Int :=
  cond (!(vpntM i j))
  ((0, 0, 0, 0, 1))
  (lt (xcrsM a b c d e f u v w x y z) fun x1 =>
   cond (x1.2.2.2.2.2.2.2.2 != 0)
   ((0, 0, 0, 0, x1.2.2.2.2.2.2.2.2))
   (lt (xtriM x1.1 x1.2.1 x1.2.2.1 x1.2.2.2.1 i i j j 0 0) fun x2 =>
    cond (x2.2.2.2.2.2.2 != 0)
    ((0, 0, 0, 0, x2.2.2.2.2.2.2))
    (lt (cAltM x2.1 x2.2.1 x2.2.2.1 x2.2.2.2.1 x2.2.2.2.2.1 x2.2.2.2.2.2.1) fun x3 =>
     cond (x3.2.2 != 0)
     ((0, 0, 0, 0, x3.2.2))
     (lt (xtriM x1.2.2.2.2.1 x1.2.2.2.2.2.1 x1.2.2.2.2.2.2.1 x1.2.2.2.2.2.2.2.1 i i j j 0 0) fun x4 =>
      cond (x4.2.2.2.2.2.2 != 0)
      ((0, 0, 0, 0, x4.2.2.2.2.2.2))
      (lt (cAltM x4.1 x4.2.1 x4.2.2.1 x4.2.2.2.1 x4.2.2.2.2.1 x4.2.2.2.2.2.1) fun x5 =>
       cond (x5.2.2 != 0)
       ((0, 0, 0, 0, x5.2.2))
       (cond (decide (x3.1 > x5.2.1))
        ((x1.1, x1.2.1, x1.2.2.1, x1.2.2.2.1, 0))
        (cond (decide (x5.1 > x3.2.1))
         ((x1.2.2.2.2.1, x1.2.2.2.2.2.1, x1.2.2.2.2.2.2.1, x1.2.2.2.2.2.2.2.1, 0))
         ((0, 0, 0, 0, 24)))))))))
noncomputable def book_xnerM_gives : Book := [(23, eT (fun a b c d e f => arcV (cAltM a b c d e f))), (31, eP (fun a b => .bool (vpntM a b))), (33, eTT (fun a b c d e f u v w x y z => crsV (xcrsM a b c d e f u v w x y z))), (68, ePPT (fun a b c d e f u v w x => cirV (xtriM a b c d e f u v w x)))]
theorem book_xnerM_gives_ok : BookOk Tryz.prog book_xnerM_gives := (bookOk_cons (eT_ok cAltM_gives) (bookOk_cons (eP_ok vpntM_gives) (bookOk_cons (eTT_ok xcrsM_gives) (bookOk_cons (ePPT_ok xtriM_gives) bookOk_nil))))
theorem xnerM_gives_tree (a b c d e f u v w x y z i j : Int) : evF Tryz.prog Es Cs book_xnerM_gives 20 6 34 ([.agg ⟨[.int .i64 a, .int .i64 b, .int .i64 c, .int .i64 d, .int .i64 e, .int .i64 f]⟩, .agg ⟨[.int .i64 u, .int .i64 v, .int .i64 w, .int .i64 x, .int .i64 y, .int .i64 z]⟩, .agg ⟨[.int .i64 i, .int .i64 j]⟩].map AV.v) [] [] last =
  cond (!(vpntM i j))
  (some (.v (.tuple ⟨[.agg ⟨[.int .i64 0, .int .i64 0, .int .i64 0, .int .i64 0]⟩, .int .i64 1]⟩)))
  (lt (xcrsM a b c d e f u v w x y z) fun x1 =>
   cond (x1.2.2.2.2.2.2.2.2 != 0)
   (some (.v (.tuple ⟨[.agg ⟨[.int .i64 0, .int .i64 0, .int .i64 0, .int .i64 0]⟩, .int .i64 x1.2.2.2.2.2.2.2.2]⟩)))
   (lt (xtriM x1.1 x1.2.1 x1.2.2.1 x1.2.2.2.1 i i j j 0 0) fun x2 =>
    cond (x2.2.2.2.2.2.2 != 0)
    (some (.v (.tuple ⟨[.agg ⟨[.int .i64 0, .int .i64 0, .int .i64 0, .int .i64 0]⟩, .int .i64 x2.2.2.2.2.2.2]⟩)))
    (lt (cAltM x2.1 x2.2.1 x2.2.2.1 x2.2.2.2.1 x2.2.2.2.2.1 x2.2.2.2.2.2.1) fun x3 =>
     cond (x3.2.2 != 0)
     (some (.v (.tuple ⟨[.agg ⟨[.int .i64 0, .int .i64 0, .int .i64 0, .int .i64 0]⟩, .int .i64 x3.2.2]⟩)))
     (lt (xtriM x1.2.2.2.2.1 x1.2.2.2.2.2.1 x1.2.2.2.2.2.2.1 x1.2.2.2.2.2.2.2.1 i i j j 0 0) fun x4 =>
      cond (x4.2.2.2.2.2.2 != 0)
      (some (.v (.tuple ⟨[.agg ⟨[.int .i64 0, .int .i64 0, .int .i64 0, .int .i64 0]⟩, .int .i64 x4.2.2.2.2.2.2]⟩)))
      (lt (cAltM x4.1 x4.2.1 x4.2.2.1 x4.2.2.2.1 x4.2.2.2.2.1 x4.2.2.2.2.2.1) fun x5 =>
       cond (x5.2.2 != 0)
       (some (.v (.tuple ⟨[.agg ⟨[.int .i64 0, .int .i64 0, .int .i64 0, .int .i64 0]⟩, .int .i64 x5.2.2]⟩)))
       (cond (decide (x3.1 > x5.2.1))
        (some (.v (.tuple ⟨[.agg ⟨[.int .i64 x1.1, .int .i64 x1.2.1, .int .i64 x1.2.2.1, .int .i64 x1.2.2.2.1]⟩, .int .i64 0]⟩)))
        (cond (decide (x5.1 > x3.2.1))
         (some (.v (.tuple ⟨[.agg ⟨[.int .i64 x1.2.2.2.2.1, .int .i64 x1.2.2.2.2.2.1, .int .i64 x1.2.2.2.2.2.2.1, .int .i64 x1.2.2.2.2.2.2.2.1]⟩, .int .i64 0]⟩)))
         (some (.v (.tuple ⟨[.agg ⟨[.int .i64 0, .int .i64 0, .int .i64 0, .int .i64 0]⟩, .int .i64 24]⟩)))))))))) := by kernel_rfl
theorem xnerM_gives (a b c d e f u v w x y z i j : Int) : Gives Tryz.prog 34 [.agg ⟨[.int .i64 a, .int .i64 b, .int .i64 c, .int .i64 d, .int .i64 e, .int .i64 f]⟩, .agg ⟨[.int .i64 u, .int .i64 v, .int .i64 w, .int .i64 x, .int .i64 y, .int .i64 z]⟩, .agg ⟨[.int .i64 i, .int .i64 j]⟩] (solV (xnerM a b c d e f u v w x y z i j)) := by
  refine evF_gives (E := Es) mixed Es_ok Cs_ok book_xnerM_gives_ok (lim := 20) (d := 6) (nm := []) ?_
  rw [xnerM_gives_tree a b c d e f u v w x y z i j]
  unfold xnerM
  refine case_cond (fun (r : Int × Int × Int × Int × Int) => AV.v (solV (r))) ?_ ?_
  · rfl
  · refine case_lt (fun (r : Int × Int × Int × Int × Int) => AV.v (solV (r))) fun _ => ?_
    refine case_cond (fun (r : Int × Int × Int × Int × Int) => AV.v (solV (r))) ?_ ?_
    · rfl
    · refine case_lt (fun (r : Int × Int × Int × Int × Int) => AV.v (solV (r))) fun _ => ?_
      refine case_cond (fun (r : Int × Int × Int × Int × Int) => AV.v (solV (r))) ?_ ?_
      · rfl
      · refine case_lt (fun (r : Int × Int × Int × Int × Int) => AV.v (solV (r))) fun _ => ?_
        refine case_cond (fun (r : Int × Int × Int × Int × Int) => AV.v (solV (r))) ?_ ?_
        · rfl
        · refine case_lt (fun (r : Int × Int × Int × Int × Int) => AV.v (solV (r))) fun _ => ?_
          refine case_cond (fun (r : Int × Int × Int × Int × Int) => AV.v (solV (r))) ?_ ?_
          · rfl
          · refine case_lt (fun (r : Int × Int × Int × Int × Int) => AV.v (solV (r))) fun _ => ?_
            refine case_cond (fun (r : Int × Int × Int × Int × Int) => AV.v (solV (r))) ?_ ?_
            · rfl
            · refine case_cond (fun (r : Int × Int × Int × Int × Int) => AV.v (solV (r))) ?_ ?_
              · rfl
              · refine case_cond (fun (r : Int × Int × Int × Int × Int) => AV.v (solV (r))) ?_ ?_
                · rfl
                · rfl
end Go.Proofs.YtkjnheahaimpoaaGreat

/-
  What solutions have in common: the reference's answer is the program's.
-/
import Derived.Test.YtmididlfnajhiaaGreatDoorA30
namespace Go.Proofs.YtmididlfnajhiaaGreatDoor
open Ev

open Ev (lt)
def pbV (r : Int × Int × Bool) : Value := .tuple ⟨[pairV r.1 r.2.1, .bool r.2.2]⟩
noncomputable def rvalM (a b : Int) : Bool :=
  cond (decide (a ≤ b))
  (cond (decide (a ≥ (-1099511627776)))
   ((decide (b ≤ 1099511627776)))
   (false))
  (false)
noncomputable def book_rvalM_gives : Book := []
theorem book_rvalM_gives_ok : BookOk Tryz.prog book_rvalM_gives := bookOk_nil
theorem rvalM_gives_tree (a b : Int) : evF Tryz.prog Es Cs book_rvalM_gives 20 6 49 ([.agg ⟨[.int .i64 a, .int .i64 b]⟩].map AV.v) [] [] last =
  cond (decide (a ≤ b))
  (cond (decide (a ≥ (-1099511627776)))
   (some (.v (.bool (decide (b ≤ 1099511627776)))))
   (some (.v (.bool false))))
  (some (.v (.bool false))) := by kernel_rfl
theorem rvalM_gives (a b : Int) : Gives Tryz.prog 49 [.agg ⟨[.int .i64 a, .int .i64 b]⟩] (.bool (rvalM a b)) := by
  refine evF_gives (E := Es) mixed Es_ok Cs_ok book_rvalM_gives_ok (lim := 20) (d := 6) (nm := []) ?_
  rw [rvalM_gives_tree a b]
  unfold rvalM
  refine case_cond (fun (r : Bool) => AV.v (.bool (r))) ?_ ?_
  · refine case_cond (fun (r : Bool) => AV.v (.bool (r))) ?_ ?_
    · rfl
    · rfl
  · rfl
noncomputable def rwrapM (a : Int) : Int :=
  cond (decide ((Int.tmod a 21600000) < 0))
  (IntKind.i64.wrap ((Int.tmod a 21600000) + 21600000))
  ((Int.tmod a 21600000))
noncomputable def book_rwrapM_gives : Book := []
theorem book_rwrapM_gives_ok : BookOk Tryz.prog book_rwrapM_gives := bookOk_nil
theorem rwrapM_gives_tree (a : Int) : evF Tryz.prog Es Cs book_rwrapM_gives 20 6 170 ([.int .i64 a].map AV.v) [] [] last =
  cond (decide ((Int.tmod a 21600000) < 0))
  (some (.v (.int .i64 (IntKind.i64.wrap ((Int.tmod a 21600000) + 21600000)))))
  (some (.v (.int .i64 (Int.tmod a 21600000)))) := by kernel_rfl
theorem rwrapM_gives (a : Int) : Gives Tryz.prog 170 [.int .i64 a] (.int .i64 (rwrapM a)) := by
  refine evF_gives (E := Es) mixed Es_ok Cs_ok book_rwrapM_gives_ok (lim := 20) (d := 6) (nm := []) ?_
  rw [rwrapM_gives_tree a]
  unfold rwrapM
  refine case_cond (fun (r : Int) => AV.v (.int .i64 (r))) ?_ ?_
  · rfl
  · rfl
noncomputable def rturnM (a b : Int) : Int × Int :=
  cond (decide (IntKind.i64.wrap (b - a) ≥ 21600000))
  ((0, 21600000))
  (((rwrapM a), IntKind.i64.wrap ((rwrapM a) + (IntKind.i64.wrap (b - a)))))
noncomputable def book_rturnM_gives : Book := [(170, eI (fun a => .int .i64 (rwrapM a)))]
theorem book_rturnM_gives_ok : BookOk Tryz.prog book_rturnM_gives := (bookOk_cons (eI_ok rwrapM_gives) bookOk_nil)
theorem rturnM_gives_tree (a b : Int) : evF Tryz.prog Es Cs book_rturnM_gives 20 6 109 ([.agg ⟨[.int .i64 a, .int .i64 b]⟩].map AV.v) [] [] last =
  cond (decide (IntKind.i64.wrap (b - a) ≥ 21600000))
  (some (.v (.agg ⟨[.int .i64 0, .int .i64 21600000]⟩)))
  (some (.v (.agg ⟨[.int .i64 (rwrapM a), .int .i64 (IntKind.i64.wrap ((rwrapM a) + (IntKind.i64.wrap (b - a))))]⟩))) := by kernel_rfl
theorem rturnM_gives (a b : Int) : Gives Tryz.prog 109 [.agg ⟨[.int .i64 a, .int .i64 b]⟩] (pairV (rturnM a b).1 (rturnM a b).2) := by
  refine evF_gives (E := Es) mixed Es_ok Cs_ok book_rturnM_gives_ok (lim := 20) (d := 6) (nm := []) ?_
  rw [rturnM_gives_tree a b]
  unfold rturnM
  refine case_cond (fun (r : Int × Int) => AV.v (pairV (r).1 (r).2)) ?_ ?_
  · rfl
  · rfl
noncomputable def rwhoM (a b : Int) : Bool :=
  (decide (IntKind.i64.wrap (b - a) ≥ 21600000))
noncomputable def book_rwhoM_gives : Book := []
theorem book_rwhoM_gives_ok : BookOk Tryz.prog book_rwhoM_gives := bookOk_nil
theorem rwhoM_gives_tree (a b : Int) : evF Tryz.prog Es Cs book_rwhoM_gives 20 6 121 ([.agg ⟨[.int .i64 a, .int .i64 b]⟩].map AV.v) [] [] last =
  some (.v (.bool (decide (IntKind.i64.wrap (b - a) ≥ 21600000)))) := by kernel_rfl
theorem rwhoM_gives (a b : Int) : Gives Tryz.prog 121 [.agg ⟨[.int .i64 a, .int .i64 b]⟩] (.bool (rwhoM a b)) := by
  refine evF_gives (E := Es) mixed Es_ok Cs_ok book_rwhoM_gives_ok (lim := 20) (d := 6) (nm := []) ?_
  rw [rwhoM_gives_tree a b]
  rfl
noncomputable def rforM (a b : Int) : Bool :=
  cond ((a == 0) && ((b == 21600000) && true))
  (true)
  (cond (rvalM a b)
   (cond (decide (a ≥ 0))
    (cond (decide (a < 21600000))
     ((!(rwhoM a b)))
     (false))
    (false))
   (false))
noncomputable def book_rforM_gives : Book := [(49, eP (fun a b => .bool (rvalM a b))), (121, eP (fun a b => .bool (rwhoM a b)))]
theorem book_rforM_gives_ok : BookOk Tryz.prog book_rforM_gives := (bookOk_cons (eP_ok rvalM_gives) (bookOk_cons (eP_ok rwhoM_gives) bookOk_nil))
theorem rforM_gives_tree (a b : Int) : evF Tryz.prog Es Cs book_rforM_gives 20 6 54 ([.agg ⟨[.int .i64 a, .int .i64 b]⟩].map AV.v) [] [] last =
  cond ((a == 0) && ((b == 21600000) && true))
  (some (.v (.bool true)))
  (cond (rvalM a b)
   (cond (decide (a ≥ 0))
    (cond (decide (a < 21600000))
     (some (.v (.bool (!(rwhoM a b)))))
     (some (.v (.bool false))))
    (some (.v (.bool false))))
   (some (.v (.bool false)))) := by kernel_rfl
theorem rforM_gives (a b : Int) : Gives Tryz.prog 54 [.agg ⟨[.int .i64 a, .int .i64 b]⟩] (.bool (rforM a b)) := by
  refine evF_gives (E := Es) mixed Es_ok Cs_ok book_rforM_gives_ok (lim := 20) (d := 6) (nm := []) ?_
  rw [rforM_gives_tree a b]
  unfold rforM
  refine case_cond (fun (r : Bool) => AV.v (.bool (r))) ?_ ?_
  · rfl
  · refine case_cond (fun (r : Bool) => AV.v (.bool (r))) ?_ ?_
    · refine case_cond (fun (r : Bool) => AV.v (.bool (r))) ?_ ?_
      · refine case_cond (fun (r : Bool) => AV.v (.bool (r))) ?_ ?_
        · rfl
        · rfl
      · rfl
    · rfl
noncomputable def rsvM (a b c d : Int) : Bool :=
  cond (rvalM a b)
  ((rforM c d))
  (false)
noncomputable def book_rsvM_gives : Book := [(49, eP (fun a b => .bool (rvalM a b))), (54, eP (fun a b => .bool (rforM a b)))]
theorem book_rsvM_gives_ok : BookOk Tryz.prog book_rsvM_gives := (bookOk_cons (eP_ok rvalM_gives) (bookOk_cons (eP_ok rforM_gives) bookOk_nil))
theorem rsvM_gives_tree (a b c d : Int) : evF Tryz.prog Es Cs book_rsvM_gives 20 6 22 ([.agg ⟨[.int .i64 a, .int .i64 b, .int .i64 c, .int .i64 d]⟩].map AV.v) [] [] last =
  cond (rvalM a b)
  (some (.v (.bool (rforM c d))))
  (some (.v (.bool false))) := by kernel_rfl
theorem rsvM_gives (a b c d : Int) : Gives Tryz.prog 22 [.agg ⟨[.int .i64 a, .int .i64 b, .int .i64 c, .int .i64 d]⟩] (.bool (rsvM a b c d)) := by
  refine evF_gives (E := Es) mixed Es_ok Cs_ok book_rsvM_gives_ok (lim := 20) (d := 6) (nm := []) ?_
  rw [rsvM_gives_tree a b c d]
  unfold rsvM
  refine case_cond (fun (r : Bool) => AV.v (.bool (r))) ?_ ?_
  · rfl
  · rfl
noncomputable def rsnM (a b c d : Int) : Bool :=
  (!(rsvM a b c d))
noncomputable def book_rsnM_gives : Book := [(22, eS (fun a b c d => .bool (rsvM a b c d)))]
theorem book_rsnM_gives_ok : BookOk Tryz.prog book_rsnM_gives := (bookOk_cons (eS_ok rsvM_gives) bookOk_nil)
theorem rsnM_gives_tree (a b c d : Int) : evF Tryz.prog Es Cs book_rsnM_gives 20 6 21 ([.agg ⟨[.int .i64 a, .int .i64 b, .int .i64 c, .int .i64 d]⟩].map AV.v) [] [] last =
  some (.v (.bool (!(rsvM a b c d)))) := by kernel_rfl
theorem rsnM_gives (a b c d : Int) : Gives Tryz.prog 21 [.agg ⟨[.int .i64 a, .int .i64 b, .int .i64 c, .int .i64 d]⟩] (.bool (rsnM a b c d)) := by
  refine evF_gives (E := Es) mixed Es_ok Cs_ok book_rsnM_gives_ok (lim := 20) (d := 6) (nm := []) ?_
  rw [rsnM_gives_tree a b c d]
  rfl
noncomputable def rcomM (a b c d : Int) : Int × Int × Bool :=
  cond (rwhoM a b)
  ((c, d, true))
  (cond (rwhoM c d)
   ((a, b, true))
   (cond (decide ((mx a (IntKind.i64.wrap (c + (-21600000)))) ≤ (mn b (IntKind.i64.wrap (d + (-21600000))))))
    (lt (rturnM (mx a (IntKind.i64.wrap (c + (-21600000)))) (mn b (IntKind.i64.wrap (d + (-21600000))))) fun x1 =>
     cond (decide ((mx a (IntKind.i64.wrap (c + 0))) ≤ (mn b (IntKind.i64.wrap (d + 0)))))
     (lt (rturnM (mx a (IntKind.i64.wrap (c + 0))) (mn b (IntKind.i64.wrap (d + 0)))) fun _ =>
      cond (decide ((mx a (IntKind.i64.wrap (c + 21600000))) ≤ (mn b (IntKind.i64.wrap (d + 21600000)))))
      (lt (rturnM (mx a (IntKind.i64.wrap (c + 21600000))) (mn b (IntKind.i64.wrap (d + 21600000)))) fun _ =>
       cond (decide (IntKind.i64.wrap (d - c) < IntKind.i64.wrap (b - a)))
       ((c, d, true))
       ((a, b, true)))
      (cond (decide (IntKind.i64.wrap (d - c) < IntKind.i64.wrap (b - a)))
       ((c, d, true))
       ((a, b, true))))
     (cond (decide ((mx a (IntKind.i64.wrap (c + 21600000))) ≤ (mn b (IntKind.i64.wrap (d + 21600000)))))
      (lt (rturnM (mx a (IntKind.i64.wrap (c + 21600000))) (mn b (IntKind.i64.wrap (d + 21600000)))) fun _ =>
       cond (decide (IntKind.i64.wrap (d - c) < IntKind.i64.wrap (b - a)))
       ((c, d, true))
       ((a, b, true)))
      ((x1.1, x1.2, true))))
    (cond (decide ((mx a (IntKind.i64.wrap (c + 0))) ≤ (mn b (IntKind.i64.wrap (d + 0)))))
     (lt (rturnM (mx a (IntKind.i64.wrap (c + 0))) (mn b (IntKind.i64.wrap (d + 0)))) fun x5 =>
      cond (decide ((mx a (IntKind.i64.wrap (c + 21600000))) ≤ (mn b (IntKind.i64.wrap (d + 21600000)))))
      (lt (rturnM (mx a (IntKind.i64.wrap (c + 21600000))) (mn b (IntKind.i64.wrap (d + 21600000)))) fun _ =>
       cond (decide (IntKind.i64.wrap (d - c) < IntKind.i64.wrap (b - a)))
       ((c, d, true))
       ((a, b, true)))
      ((x5.1, x5.2, true)))
     (cond (decide ((mx a (IntKind.i64.wrap (c + 21600000))) ≤ (mn b (IntKind.i64.wrap (d + 21600000)))))
      (lt (rturnM (mx a (IntKind.i64.wrap (c + 21600000))) (mn b (IntKind.i64.wrap (d + 21600000)))) fun x7 =>
       (x7.1, x7.2, true))
      ((0, 0, false))))))
noncomputable def book_rcomM_gives : Book := [(109, eP (fun a b => pairV (rturnM a b).1 (rturnM a b).2)), (121, eP (fun a b => .bool (rwhoM a b)))]
theorem book_rcomM_gives_ok : BookOk Tryz.prog book_rcomM_gives := (bookOk_cons (eP_ok rturnM_gives) (bookOk_cons (eP_ok rwhoM_gives) bookOk_nil))
theorem rcomM_gives_tree (a b c d : Int) : evF Tryz.prog Es Cs book_rcomM_gives 20 6 55 ([.agg ⟨[.int .i64 a, .int .i64 b]⟩, .agg ⟨[.int .i64 c, .int .i64 d]⟩].map AV.v) [] [] last =
  cond (rwhoM a b)
  (some (.v (.tuple ⟨[.agg ⟨[.int .i64 c, .int .i64 d]⟩, .bool true]⟩)))
  (cond (rwhoM c d)
   (some (.v (.tuple ⟨[.agg ⟨[.int .i64 a, .int .i64 b]⟩, .bool true]⟩)))
   (cond (decide ((mx a (IntKind.i64.wrap (c + (-21600000)))) ≤ (mn b (IntKind.i64.wrap (d + (-21600000))))))
    (lt (rturnM (mx a (IntKind.i64.wrap (c + (-21600000)))) (mn b (IntKind.i64.wrap (d + (-21600000))))) fun x1 =>
     cond (decide ((mx a (IntKind.i64.wrap (c + 0))) ≤ (mn b (IntKind.i64.wrap (d + 0)))))
     (lt (rturnM (mx a (IntKind.i64.wrap (c + 0))) (mn b (IntKind.i64.wrap (d + 0)))) fun _ =>
      cond (decide ((mx a (IntKind.i64.wrap (c + 21600000))) ≤ (mn b (IntKind.i64.wrap (d + 21600000)))))
      (lt (rturnM (mx a (IntKind.i64.wrap (c + 21600000))) (mn b (IntKind.i64.wrap (d + 21600000)))) fun _ =>
       cond (decide (IntKind.i64.wrap (d - c) < IntKind.i64.wrap (b - a)))
       (some (.v (.tuple ⟨[.agg ⟨[.int .i64 c, .int .i64 d]⟩, .bool true]⟩)))
       (some (.v (.tuple ⟨[.agg ⟨[.int .i64 a, .int .i64 b]⟩, .bool true]⟩))))
      (cond (decide (IntKind.i64.wrap (d - c) < IntKind.i64.wrap (b - a)))
       (some (.v (.tuple ⟨[.agg ⟨[.int .i64 c, .int .i64 d]⟩, .bool true]⟩)))
       (some (.v (.tuple ⟨[.agg ⟨[.int .i64 a, .int .i64 b]⟩, .bool true]⟩)))))
     (cond (decide ((mx a (IntKind.i64.wrap (c + 21600000))) ≤ (mn b (IntKind.i64.wrap (d + 21600000)))))
      (lt (rturnM (mx a (IntKind.i64.wrap (c + 21600000))) (mn b (IntKind.i64.wrap (d + 21600000)))) fun _ =>
       cond (decide (IntKind.i64.wrap (d - c) < IntKind.i64.wrap (b - a)))
       (some (.v (.tuple ⟨[.agg ⟨[.int .i64 c, .int .i64 d]⟩, .bool true]⟩)))
       (some (.v (.tuple ⟨[.agg ⟨[.int .i64 a, .int .i64 b]⟩, .bool true]⟩))))
      (some (.v (.tuple ⟨[.agg ⟨[.int .i64 x1.1, .int .i64 x1.2]⟩, .bool true]⟩)))))
    (cond (decide ((mx a (IntKind.i64.wrap (c + 0))) ≤ (mn b (IntKind.i64.wrap (d + 0)))))
     (lt (rturnM (mx a (IntKind.i64.wrap (c + 0))) (mn b (IntKind.i64.wrap (d + 0)))) fun x5 =>
      cond (decide ((mx a (IntKind.i64.wrap (c + 21600000))) ≤ (mn b (IntKind.i64.wrap (d + 21600000)))))
      (lt (rturnM (mx a (IntKind.i64.wrap (c + 21600000))) (mn b (IntKind.i64.wrap (d + 21600000)))) fun _ =>
       cond (decide (IntKind.i64.wrap (d - c) < IntKind.i64.wrap (b - a)))
       (some (.v (.tuple ⟨[.agg ⟨[.int .i64 c, .int .i64 d]⟩, .bool true]⟩)))
       (some (.v (.tuple ⟨[.agg ⟨[.int .i64 a, .int .i64 b]⟩, .bool true]⟩))))
      (some (.v (.tuple ⟨[.agg ⟨[.int .i64 x5.1, .int .i64 x5.2]⟩, .bool true]⟩))))
     (cond (decide ((mx a (IntKind.i64.wrap (c + 21600000))) ≤ (mn b (IntKind.i64.wrap (d + 21600000)))))
      (lt (rturnM (mx a (IntKind.i64.wrap (c + 21600000))) (mn b (IntKind.i64.wrap (d + 21600000)))) fun x7 =>
       some (.v (.tuple ⟨[.agg ⟨[.int .i64 x7.1, .int .i64 x7.2]⟩, .bool true]⟩)))
      (some (.v (.tuple ⟨[.agg ⟨[.int .i64 0, .int .i64 0]⟩, .bool false]⟩))))))) := by kernel_rfl
theorem rcomM_gives (a b c d : Int) : Gives Tryz.prog 55 [.agg ⟨[.int .i64 a, .int .i64 b]⟩, .agg ⟨[.int .i64 c, .int .i64 d]⟩] (pbV (rcomM a b c d)) := by
  refine evF_gives (E := Es) mixed Es_ok Cs_ok book_rcomM_gives_ok (lim := 20) (d := 6) (nm := []) ?_
  rw [rcomM_gives_tree a b c d]
  unfold rcomM
  refine case_cond (fun (r : Int × Int × Bool) => AV.v (pbV (r))) ?_ ?_
  · rfl
  · refine case_cond (fun (r : Int × Int × Bool) => AV.v (pbV (r))) ?_ ?_
    · rfl
    · refine case_cond (fun (r : Int × Int × Bool) => AV.v (pbV (r))) ?_ ?_
      · refine case_lt (fun (r : Int × Int × Bool) => AV.v (pbV (r))) fun _ => ?_
        refine case_cond (fun (r : Int × Int × Bool) => AV.v (pbV (r))) ?_ ?_
        · refine case_lt (fun (r : Int × Int × Bool) => AV.v (pbV (r))) fun _ => ?_
          refine case_cond (fun (r : Int × Int × Bool) => AV.v (pbV (r))) ?_ ?_
          · refine case_lt (fun (r : Int × Int × Bool) => AV.v (pbV (r))) fun _ => ?_
            refine case_cond (fun (r : Int × Int × Bool) => AV.v (pbV (r))) ?_ ?_
            · rfl
            · rfl
          · refine case_cond (fun (r : Int × Int × Bool) => AV.v (pbV (r))) ?_ ?_
            · rfl
            · rfl
        · refine case_cond (fun (r : Int × Int × Bool) => AV.v (pbV (r))) ?_ ?_
          · refine case_lt (fun (r : Int × Int × Bool) => AV.v (pbV (r))) fun _ => ?_
            refine case_cond (fun (r : Int × Int × Bool) => AV.v (pbV (r))) ?_ ?_
            · rfl
            · rfl
          · rfl
      · refine case_cond (fun (r : Int × Int × Bool) => AV.v (pbV (r))) ?_ ?_
        · refine case_lt (fun (r : Int × Int × Bool) => AV.v (pbV (r))) fun _ => ?_
          refine case_cond (fun (r : Int × Int × Bool) => AV.v (pbV (r))) ?_ ?_
          · refine case_lt (fun (r : Int × Int × Bool) => AV.v (pbV (r))) fun _ => ?_
            refine case_cond (fun (r : Int × Int × Bool) => AV.v (pbV (r))) ?_ ?_
            · rfl
            · rfl
          · rfl
        · refine case_cond (fun (r : Int × Int × Bool) => AV.v (pbV (r))) ?_ ?_
          · refine case_lt (fun (r : Int × Int × Bool) => AV.v (pbV (r))) fun _ => ?_
            rfl
          · rfl
theorem decT {p : Prop} [Decidable p] (h : p) : decide p = true := decide_eq_true h
theorem decF {p : Prop} [Decidable p] (h : ¬ p) : decide p = false := decide_eq_false h
theorem tmod_emod (x : Int) : x % 21600000 = (if x.tmod 21600000 < 0 then x.tmod 21600000 + 21600000 else x.tmod 21600000) := by
  have h1 := Int.mul_tdiv_add_tmod x 21600000
  have h2 := tm_sign x 21600000
  have h3 := Int.tmod_lt_of_pos x (show (0 : Int) < 21600000 by omega)
  have h4 := Int.tmod_lt_of_pos (-x) (show (0 : Int) < 21600000 by omega)
  rw [Int.neg_tmod] at h4
  split <;> omega
theorem rval_eq (a b : Int) : rvalM a b = avalidB a b := by
  unfold rvalM avalidB
  by_cases h1 : a ≤ b
  · by_cases h2 : a ≥ -1099511627776
    · rw [decT h1, decT h2, cond_true, cond_true]
      exact decide_eq_decide.2 (by omega)
    · rw [decT h1, decF h2, cond_true, cond_false, decF (by omega)]
  · rw [decF h1, cond_false, decF (by omega)]
theorem rwrap_eq (x : Int) : rwrapM x = x % 21600000 := by
  have t := tmod_emod x
  have q := Int.tmod_lt_of_pos (-x) (show (0 : Int) < 21600000 by omega)
  rw [Int.neg_tmod] at q
  unfold rwrapM
  by_cases c : x.tmod 21600000 < 0
  · rw [if_pos c] at t
    rw [decT c, cond_true, i64w (by omega)]; omega
  · rw [if_neg c] at t
    rw [decF c, cond_false]; omega
theorem rturn_eq {a b : Int} (h : avalidB a b = true) : rturnM a b = (turnL a b, turnH a b) := by
  have := aval_bd h
  unfold rturnM turnL turnH
  rw [i64w (x := b - a) (by omega), rwrap_eq]
  by_cases c : 21600000 ≤ b - a
  · rw [decT c, if_pos c, if_pos c]
    rfl
  · rw [decF c, if_neg c, if_neg c, i64w (by omega)]
    rfl
theorem rsv_eq (a b c d : Int) : rsvM a b c d = svalB (a, b, c, d) := by
  unfold rsvM rforM svalB rwhoM
  rw [rval_eq, rval_eq]
  dsimp only
  cases h1 : avalidB a b with
  | false => rfl
  | true =>
    cases h2 : avalidB c d with
    | false =>
      have e : ((c == 0) && (d == 21600000)) = false := by
        rw [Bool.and_eq_false_iff, beq_eq_false_iff_ne, beq_eq_false_iff_ne]
        by_cases c0 : c = 0
        · right
          intro d0
          rw [c0, d0] at h2
          cases h2
        · exact .inl c0
      rw [Bool.and_true, e]; rfl
    | true =>
      have bd := aval_bd h2
      rw [i64w (x := d - c) (by omega), Bool.and_true]
      cases (c == 0) && (d == 21600000) with
      | true => rfl
      | false =>
        simp only [cond_true, cond_false, Bool.false_or, Bool.true_and]
        by_cases h4 : c ≥ 0
        · rw [decide_eq_true h4]
          by_cases h5 : c < 21600000
          · rw [decide_eq_true h5]
            by_cases h6 : d - c ≥ 21600000
            · rw [decide_eq_true h6, decide_eq_false (show ¬ d - c < 21600000 by omega)]; simp
            · rw [decide_eq_false h6, decide_eq_true (show d - c < 21600000 by omega)]; simp
          · rw [decide_eq_false h5]; simp
        · rw [decide_eq_false h4]; simp
theorem rsn_gives (a b c d : Int) : Gives Tryz.prog 21 [.agg ⟨[.int .i64 a, .int .i64 b, .int .i64 c, .int .i64 d]⟩] (.bool (!svalB (a, b, c, d))) := by
  have := rsnM_gives a b c d
  unfold rsnM at this
  rwa [rsv_eq] at this
/-- The two answers on directions in common. -/
theorem rcom_eq {a b c d : Int} (fa : (a = 0 ∧ b = 21600000) ∨ (0 ≤ a ∧ a < 21600000 ∧ a ≤ b ∧ b - a < 21600000)) (fc : (c = 0 ∧ d = 21600000) ∨ (0 ≤ c ∧ c < 21600000 ∧ c ≤ d ∧ d - c < 21600000)) :
    rcomM a b c d = if (dirsR a b c d).2.2 = 0 then ((dirsR a b c d).1, (dirsR a b c d).2.1, true) else (0, 0, false) := by
  unfold rcomM rwhoM
  rw [i64w (x := b - a) (by omega), i64w (x := d - c) (by omega), i64w (x := c + -21600000) (by omega), i64w (x := d + -21600000) (by omega), i64w (x := c + 0) (by omega), i64w (x := d + 0) (by omega), i64w (x := c + 21600000) (by omega), i64w (x := d + 21600000) (by omega)]
  unfold dirsR
  by_cases h1 : a = 0 ∧ b = 21600000
  · rw [if_pos h1, decide_eq_true (show b - a ≥ 21600000 by omega)]
    rfl
  rw [if_neg h1, decide_eq_false (show ¬ b - a ≥ 21600000 by omega)]
  by_cases h2 : c = 0 ∧ d = 21600000
  · rw [if_pos h2, decide_eq_true (show d - c ≥ 21600000 by omega)]
    rfl
  rw [if_neg h2, decide_eq_false (show ¬ d - c ≥ 21600000 by omega)]
  have e : dirL a b c d 3 = (dirP a b c d (-21600000)).toList ++ (dirP a b c d 0).toList ++ (dirP a b c d 21600000).toList := by
    rw [dirL_succ a b c d 2 (by omega), dirL_succ a b c d 1 (by omega), dirL_succ a b c d 0 (by omega)]
    rfl
  rw [e]
  have tv : ∀ k : Int, mx a (c + k) ≤ mn b (d + k) → rturnM (mx a (c + k)) (mn b (d + k)) = (turnL (mx a (c + k)) (mn b (d + k)), turnH (mx a (c + k)) (mn b (d + k))) ∧ turnR (mx a (c + k)) (mn b (d + k)) = (turnL (mx a (c + k)) (mn b (d + k)), turnH (mx a (c + k)) (mn b (d + k)), 0) := by
    intro k hk
    have v : avalidB (mx a (c + k)) (mn b (d + k)) = true := by
      have m1 : a ≤ mx a (c + k) ∧ mn b (d + k) ≤ b := by unfold mx mn; constructor <;> split <;> omega
      exact avm (by omega) hk (by omega)
    exact ⟨rturn_eq v, by unfold turnR; rw [if_pos v]⟩
  unfold dirP
  simp only [cond_false]
  by_cases p1 : mx a (c + -21600000) ≤ mn b (d + -21600000)
  · have q1 := tv _ p1
    rw [decide_eq_true p1, if_neg (show ¬ mx a (c + -21600000) > mn b (d + -21600000) by omega), q1.1]
    by_cases p2 : mx a (c + 0) ≤ mn b (d + 0)
    · rw [decide_eq_true p2, if_neg (show ¬ mx a (c + 0) > mn b (d + 0) by omega)]
      by_cases p3 : mx a (c + 21600000) ≤ mn b (d + 21600000)
      · rw [decide_eq_true p3, if_neg (show ¬ mx a (c + 21600000) > mn b (d + 21600000) by omega)]
        by_cases p4 : d - c < b - a <;> simp [lt, dirF, p4]
      · rw [decide_eq_false p3, if_pos (show mx a (c + 21600000) > mn b (d + 21600000) by omega)]
        by_cases p4 : d - c < b - a <;> simp [lt, dirF, p4]
    · rw [decide_eq_false p2, if_pos (show mx a (c + 0) > mn b (d + 0) by omega)]
      by_cases p3 : mx a (c + 21600000) ≤ mn b (d + 21600000)
      · rw [decide_eq_true p3, if_neg (show ¬ mx a (c + 21600000) > mn b (d + 21600000) by omega)]
        by_cases p4 : d - c < b - a <;> simp [lt, dirF, p4]
      · rw [decide_eq_false p3, if_pos (show mx a (c + 21600000) > mn b (d + 21600000) by omega)]
        simp [lt, dirF, q1.2]
  · rw [decide_eq_false p1, if_pos (show mx a (c + -21600000) > mn b (d + -21600000) by omega)]
    by_cases p2 : mx a (c + 0) ≤ mn b (d + 0)
    · have q2 := tv _ p2
      rw [decide_eq_true p2, if_neg (show ¬ mx a (c + 0) > mn b (d + 0) by omega), q2.1]
      by_cases p3 : mx a (c + 21600000) ≤ mn b (d + 21600000)
      · rw [decide_eq_true p3, if_neg (show ¬ mx a (c + 21600000) > mn b (d + 21600000) by omega)]
        by_cases p4 : d - c < b - a <;> simp [lt, dirF, p4]
      · rw [decide_eq_false p3, if_pos (show mx a (c + 21600000) > mn b (d + 21600000) by omega)]
        have := q2.2
        simp only [Int.add_zero] at this
        simp [lt, dirF, this]
    · rw [decide_eq_false p2, if_pos (show mx a (c + 0) > mn b (d + 0) by omega)]
      by_cases p3 : mx a (c + 21600000) ≤ mn b (d + 21600000)
      · have q3 := tv _ p3
        rw [decide_eq_true p3, if_neg (show ¬ mx a (c + 21600000) > mn b (d + 21600000) by omega), q3.1]
        simp [lt, dirF, q3.2]
      · rw [decide_eq_false p3, if_pos (show mx a (c + 21600000) > mn b (d + 21600000) by omega)]
        simp [dirF]

end Go.Proofs.YtmididlfnajhiaaGreatDoor

/-
  Equality of arcs and solutions; small functions of the laws.
-/
import Derived.Test.YtcoopclgfimahaaFc
namespace Go.Proofs.Ytcoopclgfimahaa
open Ev
theorem eqInts_inv {x y : Value} {xs ys : List Value} {r : Bool} (h : eqInts (x :: xs) (y :: ys) = some r) : ∃ a b r', x = .int .i64 a ∧ y = .int .i64 b ∧ eqInts xs ys = some r' ∧ r = ((a == b) && r') := by
  unfold eqInts at h
  split at h
  · rename_i he1 he2; cases he1
  · rename_i a l b m he1 he2
    cases he1
    cases he2
    split at h
    · rename_i r' hr
      simp only [Option.some.injEq] at h
      exact ⟨a, b, r', rfl, rfl, hr, h.symm⟩
    · cases h
  · cases h
theorem eqInts_nil : eqInts [] [] = some true := rfl
theorem eqArcAt (k : Nat) (a b c d : Int) (w : World) : (Op.equalIn (k + 2) 23 (.agg #[.int .i64 a, .int .i64 b]) (.agg #[.int .i64 c, .int .i64 d])).run Try.prog w = .ok (a == c && b == d) w := by
  have u3 := Try.underlying3
  have a3 := Try.isAgg3
  have z3 := Try.sizeOf3
  have hS : Try.prog.underlying 23 = some (.struct (Try.prog.fieldsOf 23)) := by kernel_rfl
  have hp : Try.prog.stoodInHeld 23 = false := by kernel_rfl
  rw [run_equalIn_agg w (k + 1) 23 _ _ hS hp]
  simp only [Program.fieldsOf, Try.underlying23]
  go_simp
  by_cases h1 : a = c <;> by_cases h2 : b = d <;> simp [h1, h2]
theorem fitArc : EqFit Try.prog (23, 2) := by
  refine ⟨by kernel_rfl, fun xs ys r hx hy h w => ?_⟩
  match xs, ys, hx, hy with
  | [x0, x1], [y0, y1], _, _ =>
    obtain ⟨a, c, r1, rfl, rfl, h1, rfl⟩ := eqInts_inv h
    obtain ⟨b, d, r2, rfl, rfl, h2, rfl⟩ := eqInts_inv h1
    rw [eqInts_nil] at h2
    cases h2
    rw [Bool.and_true]
    exact eqArcAt 9998 a b c d w
theorem fitSol : EqFit Try.prog (30, 4) := by
  refine ⟨by kernel_rfl, fun xs ys r hx hy h w => ?_⟩
  match xs, ys, hx, hy with
  | [x0, x1, x2, x3], [y0, y1, y2, y3], _, _ =>
    obtain ⟨a, c, r1, rfl, rfl, h1, rfl⟩ := eqInts_inv h
    obtain ⟨b, d, r2, rfl, rfl, h2, rfl⟩ := eqInts_inv h1
    obtain ⟨e, f, r3, rfl, rfl, h3, rfl⟩ := eqInts_inv h2
    obtain ⟨i, j, r4, rfl, rfl, h4, rfl⟩ := eqInts_inv h3
    rw [eqInts_nil] at h4
    cases h4
    have hS : Try.prog.underlying 30 = some (.struct (Try.prog.fieldsOf 30)) := by kernel_rfl
    have hp : Try.prog.stoodInHeld 30 = false := by kernel_rfl
    have a25 := Try.isAgg23
    have z25 := Try.sizeOf23
    have q1 := fun w => eqArcAt 9997 a b c d w
    have q2 := fun w => eqArcAt 9997 e i f j w
    rw [run_equalIn_agg w 9999 30 _ _ hS hp]
    simp only [Program.fieldsOf, Try.underlying30, Op.eqFields, part]
    simp [a25, z25, q1, q2]
    by_cases h1 : a = c <;> by_cases h2 : b = d <;> by_cases h3 : e = f <;> by_cases h4 : i = j <;> simp [h1, h2, h3, h4]
def Es : List (TypeId × Nat) := [(23, 2), (30, 4)]
theorem Es_ok : ∀ e ∈ Es, EqFit Try.prog e := by
  intro e he
  simp only [Es, List.mem_cons, List.not_mem_nil, or_false] at he
  rcases he with rfl | rfl
  · exact fitArc
  · exact fitSol
def fmeetR (a b c d : Int) : Int × Int × Int := if bothB a b c d = true then (if mx a c > mn b d then (0, 0, 23) else (mx a c, mn b d, 0)) else (0, 0, 1)
noncomputable def book_fmeetR_gives : Book := [(62, ePP (fun a b c d => .bool (bothB a b c d)))]
theorem book_fmeetR_gives_ok : BookOk Try.prog book_fmeetR_gives := (bookOk_cons (ePP_ok bothB_gives) bookOk_nil)
theorem fmeetR_gives_tree (a b c d : Int) : evF Try.prog Es Cs book_fmeetR_gives 20 6 24 ([.agg ⟨[.int .i64 a, .int .i64 b]⟩, .agg ⟨[.int .i64 c, .int .i64 d]⟩].map AV.v) [] [] last =
  cond (!(bothB a b c d))
  (some (.v (.tuple ⟨[.agg ⟨[.int .i64 0, .int .i64 0]⟩, .int .i64 1]⟩)))
  (cond (decide ((mx a c) > (mn b d)))
   (some (.v (.tuple ⟨[.agg ⟨[.int .i64 0, .int .i64 0]⟩, .int .i64 23]⟩)))
   (some (.v (.tuple ⟨[.agg ⟨[.int .i64 (mx a c), .int .i64 (mn b d)]⟩, .int .i64 0]⟩)))) := by kernel_rfl
theorem fmeetR_gives (a b c d : Int) : Gives Try.prog 24 [.agg ⟨[.int .i64 a, .int .i64 b]⟩, .agg ⟨[.int .i64 c, .int .i64 d]⟩] (arcV (fmeetR a b c d)) := by
  refine evF_gives (E := Es) mixed Es_ok Cs_ok book_fmeetR_gives_ok (lim := 20) (d := 6) (nm := []) ?_
  rw [fmeetR_gives_tree a b c d]
  cases h1 : (bothB a b c d)
  · rw [Bool.not_false, cond_true]
    simp [fmeetR, arcV, pairV, *]
  · rw [Bool.not_true, cond_false]
    cases h2 : (decide ((mx a c) > (mn b d)))
    · rw [cond_false]
      replace h2 := of_decide_eq_false h2
      simp [fmeetR, arcV, pairV, *]
    · rw [cond_true]
      replace h2 := of_decide_eq_true h2
      simp [fmeetR, arcV, pairV, *]
noncomputable def rvalM (a b : Int) : Bool :=
  cond (decide (a ≤ b))
  (cond (decide (a ≥ (-1099511627776)))
   ((decide (b ≤ 1099511627776)))
   (false))
  (false)
noncomputable def book_rvalM_gives : Book := []
theorem book_rvalM_gives_ok : BookOk Try.prog book_rvalM_gives := bookOk_nil
theorem rvalM_gives_tree (a b : Int) : evF Try.prog Es Cs book_rvalM_gives 20 6 35 ([.agg ⟨[.int .i64 a, .int .i64 b]⟩].map AV.v) [] [] last =
  cond (decide (a ≤ b))
  (cond (decide (a ≥ (-1099511627776)))
   (some (.v (.bool (decide (b ≤ 1099511627776)))))
   (some (.v (.bool false))))
  (some (.v (.bool false))) := by kernel_rfl
theorem rvalM_gives (a b : Int) : Gives Try.prog 35 [.agg ⟨[.int .i64 a, .int .i64 b]⟩] (.bool (rvalM a b)) := by
  refine evF_gives (E := Es) mixed Es_ok Cs_ok book_rvalM_gives_ok (lim := 20) (d := 6) (nm := []) ?_
  rw [rvalM_gives_tree a b]
  unfold rvalM
  refine case_cond (fun (r : Bool) => AV.v (.bool (r))) ?_ ?_
  · refine case_cond (fun (r : Bool) => AV.v (.bool (r))) ?_ ?_
    · rfl
    · rfl
  · rfl
noncomputable def rinsM (a b c d : Int) : Bool :=
  cond (decide (c ≤ a))
  ((decide (b ≤ d)))
  (false)
noncomputable def book_rinsM_gives : Book := []
theorem book_rinsM_gives_ok : BookOk Try.prog book_rinsM_gives := bookOk_nil
theorem rinsM_gives_tree (a b c d : Int) : evF Try.prog Es Cs book_rinsM_gives 20 6 31 ([.agg ⟨[.int .i64 a, .int .i64 b]⟩, .agg ⟨[.int .i64 c, .int .i64 d]⟩].map AV.v) [] [] last =
  cond (decide (c ≤ a))
  (some (.v (.bool (decide (b ≤ d)))))
  (some (.v (.bool false))) := by kernel_rfl
theorem rinsM_gives (a b c d : Int) : Gives Try.prog 31 [.agg ⟨[.int .i64 a, .int .i64 b]⟩, .agg ⟨[.int .i64 c, .int .i64 d]⟩] (.bool (rinsM a b c d)) := by
  refine evF_gives (E := Es) mixed Es_ok Cs_ok book_rinsM_gives_ok (lim := 20) (d := 6) (nm := []) ?_
  rw [rinsM_gives_tree a b c d]
  unfold rinsM
  refine case_cond (fun (r : Bool) => AV.v (.bool (r))) ?_ ?_
  · rfl
  · rfl
noncomputable def rwrapM (a : Int) : Int :=
  cond (decide ((Int.tmod a 21600000) < 0))
  (IntKind.i64.wrap ((Int.tmod a 21600000) + 21600000))
  ((Int.tmod a 21600000))
noncomputable def book_rwrapM_gives : Book := []
theorem book_rwrapM_gives_ok : BookOk Try.prog book_rwrapM_gives := bookOk_nil
theorem rwrapM_gives_tree (a : Int) : evF Try.prog Es Cs book_rwrapM_gives 20 6 79 ([.int .i64 a].map AV.v) [] [] last =
  cond (decide ((Int.tmod a 21600000) < 0))
  (some (.v (.int .i64 (IntKind.i64.wrap ((Int.tmod a 21600000) + 21600000)))))
  (some (.v (.int .i64 (Int.tmod a 21600000)))) := by kernel_rfl
theorem rwrapM_gives (a : Int) : Gives Try.prog 79 [.int .i64 a] (.int .i64 (rwrapM a)) := by
  refine evF_gives (E := Es) mixed Es_ok Cs_ok book_rwrapM_gives_ok (lim := 20) (d := 6) (nm := []) ?_
  rw [rwrapM_gives_tree a]
  unfold rwrapM
  refine case_cond (fun (r : Int) => AV.v (.int .i64 (r))) ?_ ?_
  · rfl
  · rfl
noncomputable def rturnM (a b : Int) : Int × Int :=
  cond (decide (IntKind.i64.wrap (b - a) ≥ 21600000))
  ((0, 21600000))
  (((rwrapM a), IntKind.i64.wrap ((rwrapM a) + (IntKind.i64.wrap (b - a)))))
noncomputable def book_rturnM_gives : Book := [(79, eI (fun a => .int .i64 (rwrapM a)))]
theorem book_rturnM_gives_ok : BookOk Try.prog book_rturnM_gives := (bookOk_cons (eI_ok rwrapM_gives) bookOk_nil)
theorem rturnM_gives_tree (a b : Int) : evF Try.prog Es Cs book_rturnM_gives 20 6 36 ([.agg ⟨[.int .i64 a, .int .i64 b]⟩].map AV.v) [] [] last =
  cond (decide (IntKind.i64.wrap (b - a) ≥ 21600000))
  (some (.v (.agg ⟨[.int .i64 0, .int .i64 21600000]⟩)))
  (some (.v (.agg ⟨[.int .i64 (rwrapM a), .int .i64 (IntKind.i64.wrap ((rwrapM a) + (IntKind.i64.wrap (b - a))))]⟩))) := by kernel_rfl
theorem rturnM_gives (a b : Int) : Gives Try.prog 36 [.agg ⟨[.int .i64 a, .int .i64 b]⟩] (pairV (rturnM a b).1 (rturnM a b).2) := by
  refine evF_gives (E := Es) mixed Es_ok Cs_ok book_rturnM_gives_ok (lim := 20) (d := 6) (nm := []) ?_
  rw [rturnM_gives_tree a b]
  unfold rturnM
  refine case_cond (fun (r : Int × Int) => AV.v (pairV (r).1 (r).2)) ?_ ?_
  · rfl
  · rfl
noncomputable def rlatM (a b : Int) : Bool :=
  cond (decide (a ≤ b))
  (cond (decide (a ≥ (-5400000)))
   ((decide (b ≤ 5400000)))
   (false))
  (false)
noncomputable def book_rlatM_gives : Book := []
theorem book_rlatM_gives_ok : BookOk Try.prog book_rlatM_gives := bookOk_nil
theorem rlatM_gives_tree (a b : Int) : evF Try.prog Es Cs book_rlatM_gives 20 6 34 ([.agg ⟨[.int .i64 a, .int .i64 b]⟩].map AV.v) [] [] last =
  cond (decide (a ≤ b))
  (cond (decide (a ≥ (-5400000)))
   (some (.v (.bool (decide (b ≤ 5400000)))))
   (some (.v (.bool false))))
  (some (.v (.bool false))) := by kernel_rfl
theorem rlatM_gives (a b : Int) : Gives Try.prog 34 [.agg ⟨[.int .i64 a, .int .i64 b]⟩] (.bool (rlatM a b)) := by
  refine evF_gives (E := Es) mixed Es_ok Cs_ok book_rlatM_gives_ok (lim := 20) (d := 6) (nm := []) ?_
  rw [rlatM_gives_tree a b]
  unfold rlatM
  refine case_cond (fun (r : Bool) => AV.v (.bool (r))) ?_ ?_
  · refine case_cond (fun (r : Bool) => AV.v (.bool (r))) ?_ ?_
    · rfl
    · rfl
  · rfl
noncomputable def rtriM (a b c d e f : Int) : Bool :=
  cond (rlatM a b)
  (cond (rlatM c d)
   ((rvalM e f))
   (false))
  (false)
noncomputable def book_rtriM_gives : Book := [(34, eP (fun a b => .bool (rlatM a b))), (35, eP (fun a b => .bool (rvalM a b)))]
theorem book_rtriM_gives_ok : BookOk Try.prog book_rtriM_gives := (bookOk_cons (eP_ok rlatM_gives) (bookOk_cons (eP_ok rvalM_gives) bookOk_nil))
theorem rtriM_gives_tree (a b c d e f : Int) : evF Try.prog Es Cs book_rtriM_gives 20 6 15 ([.agg ⟨[.int .i64 a, .int .i64 b, .int .i64 c, .int .i64 d, .int .i64 e, .int .i64 f]⟩].map AV.v) [] [] last =
  cond (rlatM a b)
  (cond (rlatM c d)
   (some (.v (.bool (rvalM e f))))
   (some (.v (.bool false))))
  (some (.v (.bool false))) := by kernel_rfl
theorem rtriM_gives (a b c d e f : Int) : Gives Try.prog 15 [.agg ⟨[.int .i64 a, .int .i64 b, .int .i64 c, .int .i64 d, .int .i64 e, .int .i64 f]⟩] (.bool (rtriM a b c d e f)) := by
  refine evF_gives (E := Es) mixed Es_ok Cs_ok book_rtriM_gives_ok (lim := 20) (d := 6) (nm := []) ?_
  rw [rtriM_gives_tree a b c d e f]
  unfold rtriM
  refine case_cond (fun (r : Bool) => AV.v (.bool (r))) ?_ ?_
  · refine case_cond (fun (r : Bool) => AV.v (.bool (r))) ?_ ?_
    · rfl
    · rfl
  · rfl
theorem decT {p : Prop} [Decidable p] (h : p) : decide p = true := decide_eq_true h
theorem decF {p : Prop} [Decidable p] (h : ¬ p) : decide p = false := decide_eq_false h
theorem tmod_emod (x : Int) : x % 21600000 = (if x.tmod 21600000 < 0 then x.tmod 21600000 + 21600000 else x.tmod 21600000) := by
  have h1 := Int.mul_tdiv_add_tmod x 21600000
  have h2 := tm_sign x 21600000
  have h3 := Int.tmod_lt_of_pos x (show (0 : Int) < 21600000 by omega)
  have h4 := Int.tmod_lt_of_pos (-x) (show (0 : Int) < 21600000 by omega)
  rw [Int.neg_tmod] at h4
  split <;> omega
theorem rval_eq (a b : Int) : rvalM a b = avalidB a b := by
  unfold rvalM avalidB
  by_cases h1 : a ≤ b
  · by_cases h2 : a ≥ -1099511627776
    · rw [decT h1, decT h2, cond_true, cond_true]
      exact decide_eq_decide.2 (by omega)
    · rw [decT h1, decF h2, cond_true, cond_false, decF (by omega)]
  · rw [decF h1, cond_false, decF (by omega)]
theorem rlat_eq (a b : Int) : rlatM a b = latB a b := by
  unfold rlatM latB avalidB
  by_cases h1 : a ≤ b
  · by_cases h2 : a ≥ -5400000
    · rw [decT h1, decT h2, cond_true, cond_true]
      by_cases h3 : b ≤ 5400000
      · rw [decT h3, decT (by omega)]; rfl
      · rw [decF h3]; simp
    · rw [decT h1, decF h2, cond_true, cond_false]; simp
  · rw [decF h1, cond_false, decF (by omega)]; rfl
theorem rtri_eq (a b c d e f : Int) : rtriM a b c d e f = triB a b c d e f := by
  unfold rtriM triB
  rw [rlat_eq, rlat_eq, rval_eq]
  cases latB a b <;> cases latB c d <;> rfl
theorem rwrap_eq (x : Int) : rwrapM x = x % 21600000 := by
  have t := tmod_emod x
  have q := Int.tmod_lt_of_pos (-x) (show (0 : Int) < 21600000 by omega)
  rw [Int.neg_tmod] at q
  unfold rwrapM
  by_cases c : x.tmod 21600000 < 0
  · rw [if_pos c] at t
    rw [decT c, cond_true, i64w (by omega)]; omega
  · rw [if_neg c] at t
    rw [decF c, cond_false]; omega
theorem rturn_eq {a b : Int} (h : avalidB a b = true) : rturnM a b = (turnL a b, turnH a b) := by
  have := aval_bd h
  unfold rturnM turnL turnH
  rw [i64w (x := b - a) (by omega), rwrap_eq]
  by_cases c : 21600000 ≤ b - a
  · rw [decT c, if_pos c, if_pos c]
    rfl
  · rw [decF c, if_neg c, if_neg c, i64w (by omega)]
    rfl
def allT (_a _b _c _d _e _f : Int) : Bool := true
end Go.Proofs.Ytcoopclgfimahaa

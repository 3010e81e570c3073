/-
  Sight reduction by a method: what By gives.
-/
import Derived.Test.YtmididlfnajhiaaGreatDoorFf
import Derived.Test.YtmididlfnajhiaaGreatDoorFm
import Derived.Test.YtmididlfnajhiaaGreatDoorFa
import Derived.Test.YtmididlfnajhiaaGreatDoorFh
namespace Go.Proofs.YtmididlfnajhiaaGreatDoor
open Ev
theorem eqInts_inv {x y : Value} {xs ys : List Value} {r : Bool} (h : eqInts (x :: xs) (y :: ys) = some r) : ∃ a b r', x = .int .i64 a ∧ y = .int .i64 b ∧ eqInts xs ys = some r' ∧ r = ((a == b) && r') := by
  unfold eqInts at h
  split at h
  · rename_i he1 he2; cases he1
  · rename_i a l b m he1 he2
    cases he1
    cases he2
    split at h
    · rename_i r' hr
      simp only [Option.some.injEq] at h
      exact ⟨a, b, r', rfl, rfl, hr, h.symm⟩
    · cases h
  · cases h
theorem eqInts_nil : eqInts [] [] = some true := rfl
theorem eqArcAt (k : Nat) (a b c d : Int) (w : World) : (Op.equalIn (k + 2) 23 (.agg #[.int .i64 a, .int .i64 b]) (.agg #[.int .i64 c, .int .i64 d])).run Tryz.prog w = .ok (a == c && b == d) w := by
  have u3 := Tryz.underlying3
  have a3 := Tryz.isAgg3
  have z3 := Tryz.sizeOf3
  have hS : Tryz.prog.underlying 23 = some (.struct (Tryz.prog.fieldsOf 23)) := by kernel_rfl
  have hp : Tryz.prog.stoodInHeld 23 = false := by kernel_rfl
  rw [run_equalIn_agg w (k + 1) 23 _ _ hS hp]
  simp only [Program.fieldsOf, Tryz.underlying23]
  go_simp
  by_cases h1 : a = c <;> by_cases h2 : b = d <;> simp [h1, h2]
theorem fitArc : EqFit Tryz.prog (23, 2) := by
  refine ⟨by kernel_rfl, fun xs ys r hx hy h w => ?_⟩
  match xs, ys, hx, hy with
  | [x0, x1], [y0, y1], _, _ =>
    obtain ⟨a, c, r1, rfl, rfl, h1, rfl⟩ := eqInts_inv h
    obtain ⟨b, d, r2, rfl, rfl, h2, rfl⟩ := eqInts_inv h1
    rw [eqInts_nil] at h2
    cases h2
    rw [Bool.and_true]
    exact eqArcAt 9998 a b c d w
theorem fitSol : EqFit Tryz.prog (28, 4) := by
  refine ⟨by kernel_rfl, fun xs ys r hx hy h w => ?_⟩
  match xs, ys, hx, hy with
  | [x0, x1, x2, x3], [y0, y1, y2, y3], _, _ =>
    obtain ⟨a, c, r1, rfl, rfl, h1, rfl⟩ := eqInts_inv h
    obtain ⟨b, d, r2, rfl, rfl, h2, rfl⟩ := eqInts_inv h1
    obtain ⟨e, f, r3, rfl, rfl, h3, rfl⟩ := eqInts_inv h2
    obtain ⟨i, j, r4, rfl, rfl, h4, rfl⟩ := eqInts_inv h3
    rw [eqInts_nil] at h4
    cases h4
    have hS : Tryz.prog.underlying 28 = some (.struct (Tryz.prog.fieldsOf 28)) := by kernel_rfl
    have hp : Tryz.prog.stoodInHeld 28 = false := by kernel_rfl
    have a25 := Tryz.isAgg23
    have z25 := Tryz.sizeOf23
    have q1 := fun w => eqArcAt 9997 a b c d w
    have q2 := fun w => eqArcAt 9997 e i f j w
    rw [run_equalIn_agg w 9999 28 _ _ hS hp]
    simp only [Program.fieldsOf, Tryz.underlying28, Op.eqFields, part]
    simp [a25, z25, q1, q2]
    by_cases h1 : a = c <;> by_cases h2 : b = d <;> by_cases h3 : e = f <;> by_cases h4 : i = j <;> simp [h1, h2, h3, h4]
def Es : List (TypeId × Nat) := [(23, 2), (28, 4)]
theorem Es_ok : ∀ e ∈ Es, EqFit Tryz.prog e := by
  intro e he
  simp only [Es, List.mem_cons, List.not_mem_nil, or_false] at he
  rcases he with rfl | rfl
  · exact fitArc
  · exact fitSol
open Ev (lt)
def byE (r : Int × Int × Int × Int × Int) : Int × Int × Int × Int × Int := if r.2.2.2.2 = 0 then r else (0, 0, 0, 0, r.2.2.2.2)
theorem byE_eq (r : Int × Int × Int × Int × Int) : (lt r fun x => cond (x.2.2.2.2 != 0) (some (AV.v (.tuple ⟨[.agg ⟨[.int .i64 0, .int .i64 0, .int .i64 0, .int .i64 0]⟩, .int .i64 x.2.2.2.2]⟩))) (some (.v (.tuple ⟨[.agg ⟨[.int .i64 x.1, .int .i64 x.2.1, .int .i64 x.2.2.1, .int .i64 x.2.2.2.1]⟩, .int .i64 0]⟩)))) = some (.v (solV (byE r))) := by
  obtain ⟨x1, x2, x3, x4, xe⟩ := r
  unfold lt byE
  by_cases h : xe = 0
  · subst h; rfl
  · have e : (xe != 0) = true := by simpa using h
    dsimp only
    rw [e, if_neg h]
    rfl
noncomputable def by1 (a b c d e f : Int) : Int × Int × Int × Int × Int := byE (csolM a b c d e f)
noncomputable def book_by1_gives : Book := [(26, eT (fun a b c d e f => solV (csolM a b c d e f)))]
theorem book_by1_gives_ok : BookOk Tryz.prog book_by1_gives := (bookOk_cons (eT_ok csolM_gives) bookOk_nil)
theorem by1_gives_tree (a b c d e f : Int) : evF Tryz.prog Es Cs book_by1_gives 20 6 11 ([.int .i64 1, .agg ⟨[.int .i64 a, .int .i64 b, .int .i64 c, .int .i64 d, .int .i64 e, .int .i64 f]⟩].map AV.v) [] [] last =
  lt (csolM a b c d e f) fun x1 =>
  cond (x1.2.2.2.2 != 0)
  (some (.v (.tuple ⟨[.agg ⟨[.int .i64 0, .int .i64 0, .int .i64 0, .int .i64 0]⟩, .int .i64 x1.2.2.2.2]⟩)))
  (some (.v (.tuple ⟨[.agg ⟨[.int .i64 x1.1, .int .i64 x1.2.1, .int .i64 x1.2.2.1, .int .i64 x1.2.2.2.1]⟩, .int .i64 0]⟩))) := by kernel_rfl
theorem by1_gives (a b c d e f : Int) : Gives Tryz.prog 11 [.int .i64 1, .agg ⟨[.int .i64 a, .int .i64 b, .int .i64 c, .int .i64 d, .int .i64 e, .int .i64 f]⟩] (solV (by1 a b c d e f)) := by
  refine evF_gives (E := Es) mixed Es_ok Cs_ok book_by1_gives_ok (lim := 20) (d := 6) (nm := []) ?_
  rw [by1_gives_tree a b c d e f]
  exact byE_eq _
noncomputable def by2 (a b c d e f : Int) : Int × Int × Int × Int × Int := byE (hsolM a b c d e f)
noncomputable def book_by2_gives : Book := [(38, eT (fun a b c d e f => solV (hsolM a b c d e f)))]
theorem book_by2_gives_ok : BookOk Tryz.prog book_by2_gives := (bookOk_cons (eT_ok hsolM_gives) bookOk_nil)
theorem by2_gives_tree (a b c d e f : Int) : evF Tryz.prog Es Cs book_by2_gives 20 6 11 ([.int .i64 2, .agg ⟨[.int .i64 a, .int .i64 b, .int .i64 c, .int .i64 d, .int .i64 e, .int .i64 f]⟩].map AV.v) [] [] last =
  lt (hsolM a b c d e f) fun x1 =>
  cond (x1.2.2.2.2 != 0)
  (some (.v (.tuple ⟨[.agg ⟨[.int .i64 0, .int .i64 0, .int .i64 0, .int .i64 0]⟩, .int .i64 x1.2.2.2.2]⟩)))
  (some (.v (.tuple ⟨[.agg ⟨[.int .i64 x1.1, .int .i64 x1.2.1, .int .i64 x1.2.2.1, .int .i64 x1.2.2.2.1]⟩, .int .i64 0]⟩))) := by kernel_rfl
theorem by2_gives (a b c d e f : Int) : Gives Tryz.prog 11 [.int .i64 2, .agg ⟨[.int .i64 a, .int .i64 b, .int .i64 c, .int .i64 d, .int .i64 e, .int .i64 f]⟩] (solV (by2 a b c d e f)) := by
  refine evF_gives (E := Es) mixed Es_ok Cs_ok book_by2_gives_ok (lim := 20) (d := 6) (nm := []) ?_
  rw [by2_gives_tree a b c d e f]
  exact byE_eq _
noncomputable def by3 (a b c d e f : Int) : Int × Int × Int × Int × Int := byE (solM a b c d e f)
noncomputable def book_by3_gives : Book := [(39, eT (fun a b c d e f => solV (solM a b c d e f)))]
theorem book_by3_gives_ok : BookOk Tryz.prog book_by3_gives := (bookOk_cons (eT_ok solM_gives) bookOk_nil)
theorem by3_gives_tree (a b c d e f : Int) : evF Tryz.prog Es Cs book_by3_gives 20 6 11 ([.int .i64 3, .agg ⟨[.int .i64 a, .int .i64 b, .int .i64 c, .int .i64 d, .int .i64 e, .int .i64 f]⟩].map AV.v) [] [] last =
  lt (solM a b c d e f) fun x1 =>
  cond (x1.2.2.2.2 != 0)
  (some (.v (.tuple ⟨[.agg ⟨[.int .i64 0, .int .i64 0, .int .i64 0, .int .i64 0]⟩, .int .i64 x1.2.2.2.2]⟩)))
  (some (.v (.tuple ⟨[.agg ⟨[.int .i64 x1.1, .int .i64 x1.2.1, .int .i64 x1.2.2.1, .int .i64 x1.2.2.2.1]⟩, .int .i64 0]⟩))) := by kernel_rfl
theorem by3_gives (a b c d e f : Int) : Gives Tryz.prog 11 [.int .i64 3, .agg ⟨[.int .i64 a, .int .i64 b, .int .i64 c, .int .i64 d, .int .i64 e, .int .i64 f]⟩] (solV (by3 a b c d e f)) := by
  refine evF_gives (E := Es) mixed Es_ok Cs_ok book_by3_gives_ok (lim := 20) (d := 6) (nm := []) ?_
  rw [by3_gives_tree a b c d e f]
  exact byE_eq _
noncomputable def by4 (a b c d e f : Int) : Int × Int × Int × Int × Int := byE (hslM a b c d e f)
noncomputable def book_by4_gives : Book := [(40, eT (fun a b c d e f => solV (hslM a b c d e f)))]
theorem book_by4_gives_ok : BookOk Tryz.prog book_by4_gives := (bookOk_cons (eT_ok hslM_gives) bookOk_nil)
theorem by4_gives_tree (a b c d e f : Int) : evF Tryz.prog Es Cs book_by4_gives 20 6 11 ([.int .i64 4, .agg ⟨[.int .i64 a, .int .i64 b, .int .i64 c, .int .i64 d, .int .i64 e, .int .i64 f]⟩].map AV.v) [] [] last =
  lt (hslM a b c d e f) fun x1 =>
  cond (x1.2.2.2.2 != 0)
  (some (.v (.tuple ⟨[.agg ⟨[.int .i64 0, .int .i64 0, .int .i64 0, .int .i64 0]⟩, .int .i64 x1.2.2.2.2]⟩)))
  (some (.v (.tuple ⟨[.agg ⟨[.int .i64 x1.1, .int .i64 x1.2.1, .int .i64 x1.2.2.1, .int .i64 x1.2.2.2.1]⟩, .int .i64 0]⟩))) := by kernel_rfl
theorem by4_gives (a b c d e f : Int) : Gives Tryz.prog 11 [.int .i64 4, .agg ⟨[.int .i64 a, .int .i64 b, .int .i64 c, .int .i64 d, .int .i64 e, .int .i64 f]⟩] (solV (by4 a b c d e f)) := by
  refine evF_gives (E := Es) mixed Es_ok Cs_ok book_by4_gives_ok (lim := 20) (d := 6) (nm := []) ?_
  rw [by4_gives_tree a b c d e f]
  exact byE_eq _
noncomputable def by5 (a b c d e f : Int) : Int × Int × Int × Int × Int := byE (msolM a b c d e f)
noncomputable def book_by5_gives : Book := [(41, eT (fun a b c d e f => solV (msolM a b c d e f)))]
theorem book_by5_gives_ok : BookOk Tryz.prog book_by5_gives := (bookOk_cons (eT_ok msolM_gives) bookOk_nil)
theorem by5_gives_tree (a b c d e f : Int) : evF Tryz.prog Es Cs book_by5_gives 20 6 11 ([.int .i64 5, .agg ⟨[.int .i64 a, .int .i64 b, .int .i64 c, .int .i64 d, .int .i64 e, .int .i64 f]⟩].map AV.v) [] [] last =
  lt (msolM a b c d e f) fun x1 =>
  cond (x1.2.2.2.2 != 0)
  (some (.v (.tuple ⟨[.agg ⟨[.int .i64 0, .int .i64 0, .int .i64 0, .int .i64 0]⟩, .int .i64 x1.2.2.2.2]⟩)))
  (some (.v (.tuple ⟨[.agg ⟨[.int .i64 x1.1, .int .i64 x1.2.1, .int .i64 x1.2.2.1, .int .i64 x1.2.2.2.1]⟩, .int .i64 0]⟩))) := by kernel_rfl
theorem by5_gives (a b c d e f : Int) : Gives Tryz.prog 11 [.int .i64 5, .agg ⟨[.int .i64 a, .int .i64 b, .int .i64 c, .int .i64 d, .int .i64 e, .int .i64 f]⟩] (solV (by5 a b c d e f)) := by
  refine evF_gives (E := Es) mixed Es_ok Cs_ok book_by5_gives_ok (lim := 20) (d := 6) (nm := []) ?_
  rw [by5_gives_tree a b c d e f]
  exact byE_eq _
def eS (F : Int → Int → Int → Int → Value) : Ent
  | [.v (.agg ⟨[.int .i64 a, .int .i64 b, .int .i64 c, .int .i64 d]⟩)], [] => some (true, .v (F a b c d), [])
  | _, _ => none
theorem eS_ok {P : Program} {g : FuncId} {F : Int → Int → Int → Int → Value} (h : ∀ a b c d, Gives P g [.agg ⟨[.int .i64 a, .int .i64 b, .int .i64 c, .int .i64 d]⟩] (F a b c d)) (args : List AV) (L : Ev.Loc) (z : Bool) (r : AV) (L' : Ev.Loc) (q : eS F args L = some (z, r, L')) (_ : z = true) : Runs P g args L r L' := by
  unfold eS at q
  split at q
  · cases q
    exact gives_runs (h _ _ _ _)
  · cases q
noncomputable def everM  : Int × Int :=
  (0, 21600000)
noncomputable def book_everM_gives : Book := []
theorem book_everM_gives_ok : BookOk Tryz.prog book_everM_gives := bookOk_nil
theorem everM_gives_tree  : evF Tryz.prog Es Cs book_everM_gives 20 6 120 ([].map AV.v) [] [] last =
  some (.v (.agg ⟨[.int .i64 0, .int .i64 21600000]⟩)) := by kernel_rfl
theorem everM_gives  : Gives Tryz.prog 120 [] (pairV (everM).1 (everM).2) := by
  refine evF_gives (E := Es) mixed Es_ok Cs_ok book_everM_gives_ok (lim := 20) (d := 6) (nm := []) ?_
  rw [everM_gives_tree]
  rfl
noncomputable def svalM (a b c d : Int) : Bool :=
  cond (!(avalidB a b))
  (false)
  (cond (!(avalidB c d))
   (false)
   (lt (everM) fun x1 =>
    cond ((c == x1.1) && ((d == x1.2) && true))
    (true)
    (cond (decide (c ≥ 0))
     (cond (decide (c < 21600000))
      ((decide (IntKind.i64.wrap (d - c) < 21600000)))
      (false))
     (false))))
noncomputable def book_svalM_gives : Book := [(58, eP (fun a b => .bool (avalidB a b))), (120, e0 (pairV (everM).1 (everM).2))]
theorem book_svalM_gives_ok : BookOk Tryz.prog book_svalM_gives := (bookOk_cons (eP_ok (fun a b W _ => gvalid_any a b W)) (bookOk_cons (e0_ok everM_gives) bookOk_nil))
theorem svalM_gives_tree (a b c d : Int) : evF Tryz.prog Es Cs book_svalM_gives 20 6 51 ([.agg ⟨[.int .i64 a, .int .i64 b, .int .i64 c, .int .i64 d]⟩].map AV.v) [] [] last =
  cond (!(avalidB a b))
  (some (.v (.bool false)))
  (cond (!(avalidB c d))
   (some (.v (.bool false)))
   (lt (everM) fun x1 =>
    cond ((c == x1.1) && ((d == x1.2) && true))
    (some (.v (.bool true)))
    (cond (decide (c ≥ 0))
     (cond (decide (c < 21600000))
      (some (.v (.bool (decide (IntKind.i64.wrap (d - c) < 21600000)))))
      (some (.v (.bool false))))
     (some (.v (.bool false)))))) := by kernel_rfl
theorem svalM_gives (a b c d : Int) : Gives Tryz.prog 51 [.agg ⟨[.int .i64 a, .int .i64 b, .int .i64 c, .int .i64 d]⟩] (.bool (svalM a b c d)) := by
  refine evF_gives (E := Es) mixed Es_ok Cs_ok book_svalM_gives_ok (lim := 20) (d := 6) (nm := []) ?_
  rw [svalM_gives_tree a b c d]
  unfold svalM
  refine case_cond (fun (r : Bool) => AV.v (.bool (r))) ?_ ?_
  · rfl
  · refine case_cond (fun (r : Bool) => AV.v (.bool (r))) ?_ ?_
    · rfl
    · refine case_lt (fun (r : Bool) => AV.v (.bool (r))) fun _ => ?_
      refine case_cond (fun (r : Bool) => AV.v (.bool (r))) ?_ ?_
      · rfl
      · refine case_cond (fun (r : Bool) => AV.v (.bool (r))) ?_ ?_
        · refine case_cond (fun (r : Bool) => AV.v (.bool (r))) ?_ ?_
          · rfl
          · rfl
        · rfl
noncomputable def rnvM (a b c d : Int) : Bool :=
  (!(svalM a b c d))
noncomputable def book_rnvM_gives : Book := [(51, eS (fun a b c d => .bool (svalM a b c d)))]
theorem book_rnvM_gives_ok : BookOk Tryz.prog book_rnvM_gives := (bookOk_cons (eS_ok svalM_gives) bookOk_nil)
theorem rnvM_gives_tree (a b c d : Int) : evF Tryz.prog Es Cs book_rnvM_gives 20 6 50 ([.agg ⟨[.int .i64 a, .int .i64 b, .int .i64 c, .int .i64 d]⟩].map AV.v) [] [] last =
  some (.v (.bool (!(svalM a b c d)))) := by kernel_rfl
theorem rnvM_gives (a b c d : Int) : Gives Tryz.prog 50 [.agg ⟨[.int .i64 a, .int .i64 b, .int .i64 c, .int .i64 d]⟩] (.bool (rnvM a b c d)) := by
  refine evF_gives (E := Es) mixed Es_ok Cs_ok book_rnvM_gives_ok (lim := 20) (d := 6) (nm := []) ?_
  rw [rnvM_gives_tree a b c d]
  rfl
noncomputable def atM (a : Int) : Int × Int :=
  (a, a)
noncomputable def book_atM_gives : Book := []
theorem book_atM_gives_ok : BookOk Tryz.prog book_atM_gives := bookOk_nil
theorem atM_gives_tree (a : Int) : evF Tryz.prog Es Cs book_atM_gives 20 6 25 ([.int .i64 a].map AV.v) [] [] last =
  some (.v (.agg ⟨[.int .i64 a, .int .i64 a]⟩)) := by kernel_rfl
theorem atM_gives (a : Int) : Gives Tryz.prog 25 [.int .i64 a] (pairV (atM a).1 (atM a).2) := by
  refine evF_gives (E := Es) mixed Es_ok Cs_ok book_atM_gives_ok (lim := 20) (d := 6) (nm := []) ?_
  rw [atM_gives_tree a]
  rfl
end Go.Proofs.YtmididlfnajhiaaGreatDoor

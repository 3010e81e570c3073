/-
  Circles and places: what each function gives.
-/
import Derived.Test.YtkfkddbglnbjgaaGreatFc
namespace Go.Proofs.YtkfkddbglnbjgaaGreat
open Ev

theorem eqInts_inv {x y : Value} {xs ys : List Value} {r : Bool} (h : eqInts (x :: xs) (y :: ys) = some r) : ∃ a b r', x = .int .i64 a ∧ y = .int .i64 b ∧ eqInts xs ys = some r' ∧ r = ((a == b) && r') := by
  unfold eqInts at h
  split at h
  · rename_i he1 he2; cases he1
  · rename_i a l b m he1 he2
    cases he1
    cases he2
    split at h
    · rename_i r' hr
      simp only [Option.some.injEq] at h
      exact ⟨a, b, r', rfl, rfl, hr, h.symm⟩
    · cases h
  · cases h
theorem eqInts_nil : eqInts [] [] = some true := rfl
theorem eqArcAt (k : Nat) (a b c d : Int) (w : World) : (Op.equalIn (k + 2) 23 (.agg #[.int .i64 a, .int .i64 b]) (.agg #[.int .i64 c, .int .i64 d])).run Tryz.prog w = .ok (a == c && b == d) w := by
  have u3 := Tryz.underlying3
  have a3 := Tryz.isAgg3
  have z3 := Tryz.sizeOf3
  have hS : Tryz.prog.underlying 23 = some (.struct (Tryz.prog.fieldsOf 23)) := by kernel_rfl
  have hp : Tryz.prog.stoodInHeld 23 = false := by kernel_rfl
  rw [run_equalIn_agg w (k + 1) 23 _ _ hS hp]
  simp only [Program.fieldsOf, Tryz.underlying23]
  go_simp
  by_cases h1 : a = c <;> by_cases h2 : b = d <;> simp [h1, h2]
theorem fitArc : EqFit Tryz.prog (23, 2) := by
  refine ⟨by kernel_rfl, fun xs ys r hx hy h w => ?_⟩
  match xs, ys, hx, hy with
  | [x0, x1], [y0, y1], _, _ =>
    obtain ⟨a, c, r1, rfl, rfl, h1, rfl⟩ := eqInts_inv h
    obtain ⟨b, d, r2, rfl, rfl, h2, rfl⟩ := eqInts_inv h1
    rw [eqInts_nil] at h2
    cases h2
    rw [Bool.and_true]
    exact eqArcAt 9998 a b c d w
theorem fit40 : EqFit Tryz.prog (40, 4) := by
  refine ⟨by kernel_rfl, fun xs ys r hx hy h w => ?_⟩
  match xs, ys, hx, hy with
  | [x0, x1, x2, x3], [y0, y1, y2, y3], _, _ =>
    obtain ⟨a, c, r1, rfl, rfl, h1, rfl⟩ := eqInts_inv h
    obtain ⟨b, d, r2, rfl, rfl, h2, rfl⟩ := eqInts_inv h1
    obtain ⟨e, f, r3, rfl, rfl, h3, rfl⟩ := eqInts_inv h2
    obtain ⟨i, j, r4, rfl, rfl, h4, rfl⟩ := eqInts_inv h3
    rw [eqInts_nil] at h4
    cases h4
    have hS : Tryz.prog.underlying 40 = some (.struct (Tryz.prog.fieldsOf 40)) := by kernel_rfl
    have hp : Tryz.prog.stoodInHeld 40 = false := by kernel_rfl
    have a25 := Tryz.isAgg23
    have z25 := Tryz.sizeOf23
    have q1 := fun w => eqArcAt 9997 a b c d w
    have q2 := fun w => eqArcAt 9997 e i f j w
    rw [run_equalIn_agg w 9999 40 _ _ hS hp]
    simp only [Program.fieldsOf, Tryz.underlying40, Op.eqFields, part]
    simp [a25, z25, q1, q2]
    by_cases h1 : a = c <;> by_cases h2 : b = d <;> by_cases h3 : e = f <;> by_cases h4 : i = j <;> simp [h1, h2, h3, h4]
def Es : List (TypeId × Nat) := [(23, 2), (40, 4)]
theorem Es_ok : ∀ e ∈ Es, EqFit Tryz.prog e := by
  intro e he
  simp only [Es, List.mem_cons, List.not_mem_nil, or_false] at he
  rcases he with rfl | rfl
  · exact fitArc
  · exact fit40
def knumV (a b _e : Int) : Int × Int := (a, b)
def knumC (k _a _b e : Int) : Int := keepE k e
noncomputable def book_knumV_mods : Book := []
theorem book_knumV_mods_ok : BookOk Tryz.prog book_knumV_mods := bookOk_nil
theorem knumV_mods_tree (k a b c : Int) : evF Tryz.prog Es Cs book_knumV_mods 20 6 55 (.p [] 0 :: [.agg ⟨[.int .i64 a, .int .i64 b]⟩, .int .i64 c].map AV.v) [([], ⟨[.v (.int .i64 k)], 57⟩)] [] lastC =
  cond (k == 0)
  (some (.v (.agg ⟨[.int .i64 a, .int .i64 b]⟩), ⟨[.v (.int .i64 c)], 57⟩))
  (some (.v (.agg ⟨[.int .i64 a, .int .i64 b]⟩), ⟨[.v (.int .i64 k)], 57⟩)) := by kernel_rfl
theorem knumV_mods (k a b c : Int) : Mods Tryz.prog 55 57 k [.agg ⟨[.int .i64 a, .int .i64 b]⟩, .int .i64 c] (pairV (knumV a b c).1 (knumV a b c).2) (knumC k a b c) := by
  refine evF_mods (E := Es) mixed Es_ok Cs_ok book_knumV_mods_ok (lim := 20) (d := 6) (nm := []) ?_
  rw [knumV_mods_tree k a b c]
  unfold knumC keepE
  by_cases h : k = 0
  · simp [h]; rfl
  · have e : (k == 0) = false := beq_eq_false_iff_ne.2 h
    rw [e]
    simp [h]; rfl
def arcW (a b _e : Int) : Int × Int := (a, b)
def arcC (k _a _b e : Int) : Int := keepE k e
noncomputable def book_arcW_mods : Book := []
theorem book_arcW_mods_ok : BookOk Tryz.prog book_arcW_mods := bookOk_nil
theorem arcW_mods_tree (k a b c : Int) : evF Tryz.prog Es Cs book_arcW_mods 20 6 33 (.p [] 0 :: [.agg ⟨[.int .i64 a, .int .i64 b]⟩, .int .i64 c].map AV.v) [([], ⟨[.v (.int .i64 k)], 57⟩)] [] lastC =
  cond (k == 0)
  (some (.v (.agg ⟨[.int .i64 a, .int .i64 b]⟩), ⟨[.v (.int .i64 c)], 57⟩))
  (some (.v (.agg ⟨[.int .i64 a, .int .i64 b]⟩), ⟨[.v (.int .i64 k)], 57⟩)) := by kernel_rfl
theorem arcW_mods (k a b c : Int) : Mods Tryz.prog 33 57 k [.agg ⟨[.int .i64 a, .int .i64 b]⟩, .int .i64 c] (pairV (arcW a b c).1 (arcW a b c).2) (arcC k a b c) := by
  refine evF_mods (E := Es) mixed Es_ok Cs_ok book_arcW_mods_ok (lim := 20) (d := 6) (nm := []) ?_
  rw [arcW_mods_tree k a b c]
  unfold arcC keepE
  by_cases h : k = 0
  · simp [h]; rfl
  · have e : (k == 0) = false := beq_eq_false_iff_ne.2 h
    rw [e]
    simp [h]; rfl
noncomputable def ksinV (a b : Int) : Int × Int := ((sinR a b).1, (sinR a b).2.1)
noncomputable def ksinC (k a b : Int) : Int := keepE k (sinR a b).2.2
noncomputable def book_ksinV_mods : Book := [(54, eP (fun a b => arcV (sinR a b))), (55, cPI 57 (fun a b c => pairV (knumV a b c).1 (knumV a b c).2) knumC)]
theorem book_ksinV_mods_ok : BookOk Tryz.prog book_ksinV_mods := (bookOk_cons (eP_ok sin_r) (bookOk_cons (cPI_ok knumV_mods) bookOk_nil))
theorem ksinV_mods_tree (k a b : Int) : evF Tryz.prog Es Cs book_ksinV_mods 20 6 28 (.p [] 0 :: [.agg ⟨[.int .i64 a, .int .i64 b]⟩].map AV.v) [([], ⟨[.v (.int .i64 k)], 57⟩)] [] lastC =
  lt (sinR a b) fun x1 =>
  lt (knumV x1.1 x1.2.1 x1.2.2) fun x3 =>
  lt (knumC k x1.1 x1.2.1 x1.2.2) fun x2 =>
  some (.v (.agg ⟨[.int .i64 x3.1, .int .i64 x3.2]⟩), ⟨[.v (.int .i64 x2)], 57⟩) := by kernel_rfl
theorem ksinV_mods (k a b : Int) : Mods Tryz.prog 28 57 k [.agg ⟨[.int .i64 a, .int .i64 b]⟩] (pairV (ksinV a b).1 (ksinV a b).2) (ksinC k a b) := by
  refine evF_mods (E := Es) mixed Es_ok Cs_ok book_ksinV_mods_ok (lim := 20) (d := 6) (nm := []) ?_
  rw [ksinV_mods_tree k a b]
  rfl
noncomputable def kcosV (a b : Int) : Int × Int := ((cosR a b).1, (cosR a b).2.1)
noncomputable def kcosC (k a b : Int) : Int := keepE k (cosR a b).2.2
noncomputable def book_kcosV_mods : Book := [(55, cPI 57 (fun a b c => pairV (knumV a b c).1 (knumV a b c).2) knumC), (56, eP (fun a b => arcV (cosR a b)))]
theorem book_kcosV_mods_ok : BookOk Tryz.prog book_kcosV_mods := (bookOk_cons (cPI_ok knumV_mods) (bookOk_cons (eP_ok cos_r) bookOk_nil))
theorem kcosV_mods_tree (k a b : Int) : evF Tryz.prog Es Cs book_kcosV_mods 20 6 29 (.p [] 0 :: [.agg ⟨[.int .i64 a, .int .i64 b]⟩].map AV.v) [([], ⟨[.v (.int .i64 k)], 57⟩)] [] lastC =
  lt (cosR a b) fun x1 =>
  lt (knumV x1.1 x1.2.1 x1.2.2) fun x3 =>
  lt (knumC k x1.1 x1.2.1 x1.2.2) fun x2 =>
  some (.v (.agg ⟨[.int .i64 x3.1, .int .i64 x3.2]⟩), ⟨[.v (.int .i64 x2)], 57⟩) := by kernel_rfl
theorem kcosV_mods (k a b : Int) : Mods Tryz.prog 29 57 k [.agg ⟨[.int .i64 a, .int .i64 b]⟩] (pairV (kcosV a b).1 (kcosV a b).2) (kcosC k a b) := by
  refine evF_mods (E := Es) mixed Es_ok Cs_ok book_kcosV_mods_ok (lim := 20) (d := 6) (nm := []) ?_
  rw [kcosV_mods_tree k a b]
  rfl
noncomputable def kmulV (a b c d : Int) : Int × Int := ((mulR a b c d).1, (mulR a b c d).2.1)
noncomputable def kmulC (k a b c d : Int) : Int := keepE k (mulR a b c d).2.2
noncomputable def book_kmulV_mods : Book := [(55, cPI 57 (fun a b c => pairV (knumV a b c).1 (knumV a b c).2) knumC), (61, ePP (fun a b c d => arcV (mulR a b c d)))]
theorem book_kmulV_mods_ok : BookOk Tryz.prog book_kmulV_mods := (bookOk_cons (cPI_ok knumV_mods) (bookOk_cons (ePP_ok mulR_gives) bookOk_nil))
theorem kmulV_mods_tree (k a b c d : Int) : evF Tryz.prog Es Cs book_kmulV_mods 20 6 32 (.p [] 0 :: [.agg ⟨[.int .i64 a, .int .i64 b]⟩, .agg ⟨[.int .i64 c, .int .i64 d]⟩].map AV.v) [([], ⟨[.v (.int .i64 k)], 57⟩)] [] lastC =
  lt (mulR a b c d) fun x1 =>
  lt (knumV x1.1 x1.2.1 x1.2.2) fun x3 =>
  lt (knumC k x1.1 x1.2.1 x1.2.2) fun x2 =>
  some (.v (.agg ⟨[.int .i64 x3.1, .int .i64 x3.2]⟩), ⟨[.v (.int .i64 x2)], 57⟩) := by kernel_rfl
theorem kmulV_mods (k a b c d : Int) : Mods Tryz.prog 32 57 k [.agg ⟨[.int .i64 a, .int .i64 b]⟩, .agg ⟨[.int .i64 c, .int .i64 d]⟩] (pairV (kmulV a b c d).1 (kmulV a b c d).2) (kmulC k a b c d) := by
  refine evF_mods (E := Es) mixed Es_ok Cs_ok book_kmulV_mods_ok (lim := 20) (d := 6) (nm := []) ?_
  rw [kmulV_mods_tree k a b c d]
  rfl
noncomputable def kplusV (a b c d : Int) : Int × Int := ((addR a b c d).1, (addR a b c d).2.1)
noncomputable def kplusC (k a b c d : Int) : Int := keepE k (addR a b c d).2.2
noncomputable def book_kplusV_mods : Book := [(55, cPI 57 (fun a b c => pairV (knumV a b c).1 (knumV a b c).2) knumC), (60, ePP (fun a b c d => arcV (addR a b c d)))]
theorem book_kplusV_mods_ok : BookOk Tryz.prog book_kplusV_mods := (bookOk_cons (cPI_ok knumV_mods) (bookOk_cons (ePP_ok addR_gives) bookOk_nil))
theorem kplusV_mods_tree (k a b c d : Int) : evF Tryz.prog Es Cs book_kplusV_mods 20 6 31 (.p [] 0 :: [.agg ⟨[.int .i64 a, .int .i64 b]⟩, .agg ⟨[.int .i64 c, .int .i64 d]⟩].map AV.v) [([], ⟨[.v (.int .i64 k)], 57⟩)] [] lastC =
  lt (addR a b c d) fun x1 =>
  lt (knumV x1.1 x1.2.1 x1.2.2) fun x3 =>
  lt (knumC k x1.1 x1.2.1 x1.2.2) fun x2 =>
  some (.v (.agg ⟨[.int .i64 x3.1, .int .i64 x3.2]⟩), ⟨[.v (.int .i64 x2)], 57⟩) := by kernel_rfl
theorem kplusV_mods (k a b c d : Int) : Mods Tryz.prog 31 57 k [.agg ⟨[.int .i64 a, .int .i64 b]⟩, .agg ⟨[.int .i64 c, .int .i64 d]⟩] (pairV (kplusV a b c d).1 (kplusV a b c d).2) (kplusC k a b c d) := by
  refine evF_mods (E := Es) mixed Es_ok Cs_ok book_kplusV_mods_ok (lim := 20) (d := 6) (nm := []) ?_
  rw [kplusV_mods_tree k a b c d]
  rfl
noncomputable def kminusV (a b c d : Int) : Int × Int := ((subR a b c d).1, (subR a b c d).2.1)
noncomputable def kminusC (k a b c d : Int) : Int := keepE k (subR a b c d).2.2
noncomputable def book_kminusV_mods : Book := [(55, cPI 57 (fun a b c => pairV (knumV a b c).1 (knumV a b c).2) knumC), (64, ePP (fun a b c d => arcV (subR a b c d)))]
theorem book_kminusV_mods_ok : BookOk Tryz.prog book_kminusV_mods := (bookOk_cons (cPI_ok knumV_mods) (bookOk_cons (ePP_ok subR_gives) bookOk_nil))
theorem kminusV_mods_tree (k a b c d : Int) : evF Tryz.prog Es Cs book_kminusV_mods 20 6 35 (.p [] 0 :: [.agg ⟨[.int .i64 a, .int .i64 b]⟩, .agg ⟨[.int .i64 c, .int .i64 d]⟩].map AV.v) [([], ⟨[.v (.int .i64 k)], 57⟩)] [] lastC =
  lt (subR a b c d) fun x1 =>
  lt (knumV x1.1 x1.2.1 x1.2.2) fun x3 =>
  lt (knumC k x1.1 x1.2.1 x1.2.2) fun x2 =>
  some (.v (.agg ⟨[.int .i64 x3.1, .int .i64 x3.2]⟩), ⟨[.v (.int .i64 x2)], 57⟩) := by kernel_rfl
theorem kminusV_mods (k a b c d : Int) : Mods Tryz.prog 35 57 k [.agg ⟨[.int .i64 a, .int .i64 b]⟩, .agg ⟨[.int .i64 c, .int .i64 d]⟩] (pairV (kminusV a b c d).1 (kminusV a b c d).2) (kminusC k a b c d) := by
  refine evF_mods (E := Es) mixed Es_ok Cs_ok book_kminusV_mods_ok (lim := 20) (d := 6) (nm := []) ?_
  rw [kminusV_mods_tree k a b c d]
  rfl
noncomputable def ksumV (a b c d : Int) : Int × Int := ((aaddR a b c d).1, (aaddR a b c d).2.1)
noncomputable def ksumC (k a b c d : Int) : Int := keepE k (aaddR a b c d).2.2
noncomputable def book_ksumV_mods : Book := [(33, cPI 57 (fun a b c => pairV (arcW a b c).1 (arcW a b c).2) arcC), (65, ePP (fun a b c d => arcV (aaddR a b c d)))]
theorem book_ksumV_mods_ok : BookOk Tryz.prog book_ksumV_mods := (bookOk_cons (cPI_ok arcW_mods) (bookOk_cons (ePP_ok aaddR_gives) bookOk_nil))
theorem ksumV_mods_tree (k a b c d : Int) : evF Tryz.prog Es Cs book_ksumV_mods 20 6 36 (.p [] 0 :: [.agg ⟨[.int .i64 a, .int .i64 b]⟩, .agg ⟨[.int .i64 c, .int .i64 d]⟩].map AV.v) [([], ⟨[.v (.int .i64 k)], 57⟩)] [] lastC =
  lt (aaddR a b c d) fun x1 =>
  lt (arcW x1.1 x1.2.1 x1.2.2) fun x3 =>
  lt (arcC k x1.1 x1.2.1 x1.2.2) fun x2 =>
  some (.v (.agg ⟨[.int .i64 x3.1, .int .i64 x3.2]⟩), ⟨[.v (.int .i64 x2)], 57⟩) := by kernel_rfl
theorem ksumV_mods (k a b c d : Int) : Mods Tryz.prog 36 57 k [.agg ⟨[.int .i64 a, .int .i64 b]⟩, .agg ⟨[.int .i64 c, .int .i64 d]⟩] (pairV (ksumV a b c d).1 (ksumV a b c d).2) (ksumC k a b c d) := by
  refine evF_mods (E := Es) mixed Es_ok Cs_ok book_ksumV_mods_ok (lim := 20) (d := 6) (nm := []) ?_
  rw [ksumV_mods_tree k a b c d]
  rfl
noncomputable def klessV (a b c d : Int) : Int × Int := ((asubR a b c d).1, (asubR a b c d).2.1)
noncomputable def klessC (k a b c d : Int) : Int := keepE k (asubR a b c d).2.2
noncomputable def book_klessV_mods : Book := [(33, cPI 57 (fun a b c => pairV (arcW a b c).1 (arcW a b c).2) arcC), (43, ePP (fun a b c d => arcV (asubR a b c d)))]
theorem book_klessV_mods_ok : BookOk Tryz.prog book_klessV_mods := (bookOk_cons (cPI_ok arcW_mods) (bookOk_cons (ePP_ok asubR_gives) bookOk_nil))
theorem klessV_mods_tree (k a b c d : Int) : evF Tryz.prog Es Cs book_klessV_mods 20 6 18 (.p [] 0 :: [.agg ⟨[.int .i64 a, .int .i64 b]⟩, .agg ⟨[.int .i64 c, .int .i64 d]⟩].map AV.v) [([], ⟨[.v (.int .i64 k)], 57⟩)] [] lastC =
  lt (asubR a b c d) fun x1 =>
  lt (arcW x1.1 x1.2.1 x1.2.2) fun x3 =>
  lt (arcC k x1.1 x1.2.1 x1.2.2) fun x2 =>
  some (.v (.agg ⟨[.int .i64 x3.1, .int .i64 x3.2]⟩), ⟨[.v (.int .i64 x2)], 57⟩) := by kernel_rfl
theorem klessV_mods (k a b c d : Int) : Mods Tryz.prog 18 57 k [.agg ⟨[.int .i64 a, .int .i64 b]⟩, .agg ⟨[.int .i64 c, .int .i64 d]⟩] (pairV (klessV a b c d).1 (klessV a b c d).2) (klessC k a b c d) := by
  refine evF_mods (E := Es) mixed Es_ok Cs_ok book_klessV_mods_ok (lim := 20) (d := 6) (nm := []) ?_
  rw [klessV_mods_tree k a b c d]
  rfl
def triP (r : Int × Int × Int × Int × Int × Int) : Value := .agg ⟨[.int .i64 r.1, .int .i64 r.2.1, .int .i64 r.2.2.1, .int .i64 r.2.2.2.1, .int .i64 r.2.2.2.2.1, .int .i64 r.2.2.2.2.2]⟩
def cirV (r : Int × Int × Int × Int × Int × Int × Int) : Value := .tuple ⟨[.agg ⟨[.int .i64 r.1, .int .i64 r.2.1, .int .i64 r.2.2.1, .int .i64 r.2.2.2.1, .int .i64 r.2.2.2.2.1, .int .i64 r.2.2.2.2.2.1]⟩, .int .i64 r.2.2.2.2.2.2]⟩
def twoI (r : Int × Int) : Value := .tuple ⟨[.int .i64 r.1, .int .i64 r.2]⟩
def eS (F : Int → Int → Int → Int → Value) : Ent
  | [.v (.agg ⟨[.int .i64 a, .int .i64 b, .int .i64 c, .int .i64 d]⟩)], [] => some (true, .v (F a b c d), [])
  | _, _ => none
theorem eS_ok {P : Program} {g : FuncId} {F : Int → Int → Int → Int → Value} (h : ∀ a b c d, Gives P g [.agg ⟨[.int .i64 a, .int .i64 b, .int .i64 c, .int .i64 d]⟩] (F a b c d)) (args : List AV) (L : Ev.Loc) (z : Bool) (r : AV) (L' : Ev.Loc) (q : eS F args L = some (z, r, L')) (_ : z = true) : Runs P g args L r L' := by
  unfold eS at q
  split at q
  · cases q
    exact gives_runs (h _ _ _ _)
  · cases q
def eTS (F : Int → Int → Int → Int → Int → Int → Int → Int → Int → Int → Value) : Ent
  | [.v (.agg ⟨[.int .i64 a, .int .i64 b, .int .i64 c, .int .i64 d, .int .i64 e, .int .i64 f]⟩), .v (.agg ⟨[.int .i64 u, .int .i64 v, .int .i64 w, .int .i64 x]⟩)], [] => some (true, .v (F a b c d e f u v w x), [])
  | _, _ => none
theorem eTS_ok {P : Program} {g : FuncId} {F : Int → Int → Int → Int → Int → Int → Int → Int → Int → Int → Value} (h : ∀ a b c d e f u v w x, Gives P g [.agg ⟨[.int .i64 a, .int .i64 b, .int .i64 c, .int .i64 d, .int .i64 e, .int .i64 f]⟩, .agg ⟨[.int .i64 u, .int .i64 v, .int .i64 w, .int .i64 x]⟩] (F a b c d e f u v w x)) (args : List AV) (L : Ev.Loc) (z : Bool) (r : AV) (L' : Ev.Loc) (q : eTS F args L = some (z, r, L')) (_ : z = true) : Runs P g args L r L' := by
  unfold eTS at q
  split at q
  · cases q
    exact gives_runs (h _ _ _ _ _ _ _ _ _ _)
  · cases q
noncomputable def signM (a : Int) : Int :=
  cond (decide ((wrapN a) ≥ 10800000))
  (IntKind.i64.wrap ((wrapN a) - 21600000))
  ((wrapN a))
noncomputable def book_signM_gives : Book := [(94, eI (fun a => .int .i64 (wrapN a)))]
theorem book_signM_gives_ok : BookOk Tryz.prog book_signM_gives := (bookOk_cons (eI_ok wrap_any) bookOk_nil)
theorem signM_gives_tree (a : Int) : evF Tryz.prog Es Cs book_signM_gives 20 6 66 ([.int .i64 a].map AV.v) [] [] last =
  cond (decide ((wrapN a) ≥ 10800000))
  (some (.v (.int .i64 (IntKind.i64.wrap ((wrapN a) - 21600000)))))
  (some (.v (.int .i64 (wrapN a)))) := by kernel_rfl
theorem signM_gives (a : Int) : Gives Tryz.prog 66 [.int .i64 a] (.int .i64 (signM a)) := by
  refine evF_gives (E := Es) mixed Es_ok Cs_ok book_signM_gives_ok (lim := 20) (d := 6) (nm := []) ?_
  rw [signM_gives_tree a]
  unfold signM
  refine case_cond (fun (r : Int) => AV.v (.int .i64 (r))) ?_ ?_
  · rfl
  · rfl
noncomputable def evwM  : Int × Int :=
  ((-10800000), 10800000)
noncomputable def book_evwM_gives : Book := []
theorem book_evwM_gives_ok : BookOk Tryz.prog book_evwM_gives := bookOk_nil
theorem evwM_gives_tree  : evF Tryz.prog Es Cs book_evwM_gives 20 6 118 ([].map AV.v) [] [] last =
  some (.v (.agg ⟨[.int .i64 (-10800000), .int .i64 10800000]⟩)) := by kernel_rfl
theorem evwM_gives  : Gives Tryz.prog 118 [] (pairV (evwM).1 (evwM).2) := by
  refine evF_gives (E := Es) mixed Es_ok Cs_ok book_evwM_gives_ok (lim := 20) (d := 6) (nm := []) ?_
  rw [evwM_gives_tree]
  rfl
noncomputable def pallM (a b : Int) : Bool :=
  lt (evwM) fun x1 =>
  ((a == x1.1) && ((b == x1.2) && true))
noncomputable def book_pallM_gives : Book := [(118, e0 (pairV (evwM).1 (evwM).2))]
theorem book_pallM_gives_ok : BookOk Tryz.prog book_pallM_gives := (bookOk_cons (e0_ok evwM_gives) bookOk_nil)
theorem pallM_gives_tree (a b : Int) : evF Tryz.prog Es Cs book_pallM_gives 20 6 95 ([.agg ⟨[.int .i64 a, .int .i64 b]⟩].map AV.v) [] [] last =
  lt (evwM) fun x1 =>
  some (.v (.bool ((a == x1.1) && ((b == x1.2) && true)))) := by kernel_rfl
theorem pallM_gives (a b : Int) : Gives Tryz.prog 95 [.agg ⟨[.int .i64 a, .int .i64 b]⟩] (.bool (pallM a b)) := by
  refine evF_gives (E := Es) mixed Es_ok Cs_ok book_pallM_gives_ok (lim := 20) (d := 6) (nm := []) ?_
  rw [pallM_gives_tree a b]
  unfold pallM
  refine case_lt (fun (r : Bool) => AV.v (.bool (r))) fun _ => ?_
  rfl
noncomputable def vlatM (a b : Int) : Bool :=
  cond (decide (a ≤ b))
  (cond (decide (a ≥ (-5400000)))
   ((decide (b ≤ 5400000)))
   (false))
  (false)
noncomputable def book_vlatM_gives : Book := []
theorem book_vlatM_gives_ok : BookOk Tryz.prog book_vlatM_gives := bookOk_nil
theorem vlatM_gives_tree (a b : Int) : evF Tryz.prog Es Cs book_vlatM_gives 20 6 72 ([.agg ⟨[.int .i64 a, .int .i64 b]⟩].map AV.v) [] [] last =
  cond (decide (a ≤ b))
  (cond (decide (a ≥ (-5400000)))
   (some (.v (.bool (decide (b ≤ 5400000)))))
   (some (.v (.bool false))))
  (some (.v (.bool false))) := by kernel_rfl
theorem vlatM_gives (a b : Int) : Gives Tryz.prog 72 [.agg ⟨[.int .i64 a, .int .i64 b]⟩] (.bool (vlatM a b)) := by
  refine evF_gives (E := Es) mixed Es_ok Cs_ok book_vlatM_gives_ok (lim := 20) (d := 6) (nm := []) ?_
  rw [vlatM_gives_tree a b]
  unfold vlatM
  refine case_cond (fun (r : Bool) => AV.v (.bool (r))) ?_ ?_
  · refine case_cond (fun (r : Bool) => AV.v (.bool (r))) ?_ ?_
    · rfl
    · rfl
  · rfl
noncomputable def vlonM (a b : Int) : Bool :=
  cond (pallM a b)
  (true)
  (cond (decide (a ≥ (-10800000)))
   (cond (decide (a < 10800000))
    (cond (decide (a ≤ b))
     ((decide (IntKind.i64.wrap (b - a) < 21600000)))
     (false))
    (false))
   (false))
noncomputable def book_vlonM_gives : Book := [(95, eP (fun a b => .bool (pallM a b)))]
theorem book_vlonM_gives_ok : BookOk Tryz.prog book_vlonM_gives := (bookOk_cons (eP_ok pallM_gives) bookOk_nil)
theorem vlonM_gives_tree (a b : Int) : evF Tryz.prog Es Cs book_vlonM_gives 20 6 73 ([.agg ⟨[.int .i64 a, .int .i64 b]⟩].map AV.v) [] [] last =
  cond (pallM a b)
  (some (.v (.bool true)))
  (cond (decide (a ≥ (-10800000)))
   (cond (decide (a < 10800000))
    (cond (decide (a ≤ b))
     (some (.v (.bool (decide (IntKind.i64.wrap (b - a) < 21600000)))))
     (some (.v (.bool false))))
    (some (.v (.bool false))))
   (some (.v (.bool false)))) := by kernel_rfl
theorem vlonM_gives (a b : Int) : Gives Tryz.prog 73 [.agg ⟨[.int .i64 a, .int .i64 b]⟩] (.bool (vlonM a b)) := by
  refine evF_gives (E := Es) mixed Es_ok Cs_ok book_vlonM_gives_ok (lim := 20) (d := 6) (nm := []) ?_
  rw [vlonM_gives_tree a b]
  unfold vlonM
  refine case_cond (fun (r : Bool) => AV.v (.bool (r))) ?_ ?_
  · rfl
  · refine case_cond (fun (r : Bool) => AV.v (.bool (r))) ?_ ?_
    · refine case_cond (fun (r : Bool) => AV.v (.bool (r))) ?_ ?_
      · refine case_cond (fun (r : Bool) => AV.v (.bool (r))) ?_ ?_
        · rfl
        · rfl
      · rfl
    · rfl
noncomputable def pvalM (a b c d : Int) : Bool :=
  cond (vlatM a b)
  ((vlonM c d))
  (false)
noncomputable def book_pvalM_gives : Book := [(72, eP (fun a b => .bool (vlatM a b))), (73, eP (fun a b => .bool (vlonM a b)))]
theorem book_pvalM_gives_ok : BookOk Tryz.prog book_pvalM_gives := (bookOk_cons (eP_ok vlatM_gives) (bookOk_cons (eP_ok vlonM_gives) bookOk_nil))
theorem pvalM_gives_tree (a b c d : Int) : evF Tryz.prog Es Cs book_pvalM_gives 20 6 39 ([.agg ⟨[.int .i64 a, .int .i64 b, .int .i64 c, .int .i64 d]⟩].map AV.v) [] [] last =
  cond (vlatM a b)
  (some (.v (.bool (vlonM c d))))
  (some (.v (.bool false))) := by kernel_rfl
theorem pvalM_gives (a b c d : Int) : Gives Tryz.prog 39 [.agg ⟨[.int .i64 a, .int .i64 b, .int .i64 c, .int .i64 d]⟩] (.bool (pvalM a b c d)) := by
  refine evF_gives (E := Es) mixed Es_ok Cs_ok book_pvalM_gives_ok (lim := 20) (d := 6) (nm := []) ?_
  rw [pvalM_gives_tree a b c d]
  unfold pvalM
  refine case_cond (fun (r : Bool) => AV.v (.bool (r))) ?_ ?_
  · rfl
  · rfl
noncomputable def vpntM (a b : Int) : Bool :=
  cond (decide (a ≥ (-5400000)))
  (cond (decide (a ≤ 5400000))
   (cond (decide (b ≥ (-10800000)))
    ((decide (b < 10800000)))
    (false))
   (false))
  (false)
noncomputable def book_vpntM_gives : Book := []
theorem book_vpntM_gives_ok : BookOk Tryz.prog book_vpntM_gives := bookOk_nil
theorem vpntM_gives_tree (a b : Int) : evF Tryz.prog Es Cs book_vpntM_gives 20 6 40 ([.agg ⟨[.int .i64 a, .int .i64 b]⟩].map AV.v) [] [] last =
  cond (decide (a ≥ (-5400000)))
  (cond (decide (a ≤ 5400000))
   (cond (decide (b ≥ (-10800000)))
    (some (.v (.bool (decide (b < 10800000)))))
    (some (.v (.bool false))))
   (some (.v (.bool false))))
  (some (.v (.bool false))) := by kernel_rfl
theorem vpntM_gives (a b : Int) : Gives Tryz.prog 40 [.agg ⟨[.int .i64 a, .int .i64 b]⟩] (.bool (vpntM a b)) := by
  refine evF_gives (E := Es) mixed Es_ok Cs_ok book_vpntM_gives_ok (lim := 20) (d := 6) (nm := []) ?_
  rw [vpntM_gives_tree a b]
  unfold vpntM
  refine case_cond (fun (r : Bool) => AV.v (.bool (r))) ?_ ?_
  · refine case_cond (fun (r : Bool) => AV.v (.bool (r))) ?_ ?_
    · refine case_cond (fun (r : Bool) => AV.v (.bool (r))) ?_ ?_
      · rfl
      · rfl
    · rfl
  · rfl
noncomputable def pofM (a b : Int) : Int × Int × Int × Int × Int :=
  cond (!(vpntM a b))
  ((0, 0, 0, 0, 1))
  ((a, a, b, b, 0))
noncomputable def book_pofM_gives : Book := [(40, eP (fun a b => .bool (vpntM a b)))]
theorem book_pofM_gives_ok : BookOk Tryz.prog book_pofM_gives := (bookOk_cons (eP_ok vpntM_gives) bookOk_nil)
theorem pofM_gives_tree (a b : Int) : evF Tryz.prog Es Cs book_pofM_gives 20 6 14 ([.agg ⟨[.int .i64 a, .int .i64 b]⟩].map AV.v) [] [] last =
  cond (!(vpntM a b))
  (some (.v (.tuple ⟨[.agg ⟨[.int .i64 0, .int .i64 0, .int .i64 0, .int .i64 0]⟩, .int .i64 1]⟩)))
  (some (.v (.tuple ⟨[.agg ⟨[.int .i64 a, .int .i64 a, .int .i64 b, .int .i64 b]⟩, .int .i64 0]⟩))) := by kernel_rfl
theorem pofM_gives (a b : Int) : Gives Tryz.prog 14 [.agg ⟨[.int .i64 a, .int .i64 b]⟩] (solV (pofM a b)) := by
  refine evF_gives (E := Es) mixed Es_ok Cs_ok book_pofM_gives_ok (lim := 20) (d := 6) (nm := []) ?_
  rw [pofM_gives_tree a b]
  unfold pofM
  refine case_cond (fun (r : Int × Int × Int × Int × Int) => AV.v (solV (r))) ?_ ?_
  · rfl
  · rfl
noncomputable def clonM (a b : Int) : Int × Int :=
  cond (decide (IntKind.i64.wrap (b - a) ≥ 21600000))
  (((-10800000), 10800000))
  (((signM a), IntKind.i64.wrap ((IntKind.i64.wrap ((signM a) + b)) - a)))
noncomputable def book_clonM_gives : Book := [(66, eI (fun a => .int .i64 (signM a)))]
theorem book_clonM_gives_ok : BookOk Tryz.prog book_clonM_gives := (bookOk_cons (eI_ok signM_gives) bookOk_nil)
theorem clonM_gives_tree (a b : Int) : evF Tryz.prog Es Cs book_clonM_gives 20 6 37 ([.agg ⟨[.int .i64 a, .int .i64 b]⟩].map AV.v) [] [] last =
  cond (decide (IntKind.i64.wrap (b - a) ≥ 21600000))
  (some (.v (.agg ⟨[.int .i64 (-10800000), .int .i64 10800000]⟩)))
  (some (.v (.agg ⟨[.int .i64 (signM a), .int .i64 (IntKind.i64.wrap ((IntKind.i64.wrap ((signM a) + b)) - a))]⟩))) := by kernel_rfl
theorem clonM_gives (a b : Int) : Gives Tryz.prog 37 [.agg ⟨[.int .i64 a, .int .i64 b]⟩] (pairV (clonM a b).1 (clonM a b).2) := by
  refine evF_gives (E := Es) mixed Es_ok Cs_ok book_clonM_gives_ok (lim := 20) (d := 6) (nm := []) ?_
  rw [clonM_gives_tree a b]
  unfold clonM
  refine case_cond (fun (r : Int × Int) => AV.v (pairV (r).1 (r).2)) ?_ ?_
  · rfl
  · rfl
noncomputable def crgtM  : Int × Int :=
  (5400000, 5400000)
noncomputable def book_crgtM_gives : Book := []
theorem book_crgtM_gives_ok : BookOk Tryz.prog book_crgtM_gives := bookOk_nil
theorem crgtM_gives_tree  : evF Tryz.prog Es Cs book_crgtM_gives 20 6 19 ([].map AV.v) [] [] last =
  some (.v (.agg ⟨[.int .i64 5400000, .int .i64 5400000]⟩)) := by kernel_rfl
theorem crgtM_gives  : Gives Tryz.prog 19 [] (pairV (crgtM).1 (crgtM).2) := by
  refine evF_gives (E := Es) mixed Es_ok Cs_ok book_crgtM_gives_ok (lim := 20) (d := 6) (nm := []) ?_
  rw [crgtM_gives_tree]
  rfl
noncomputable def cvalM (a b c d e f : Int) : Bool :=
  cond (pvalM a b c d)
  (cond (avalidB e f)
   (cond (decide (e ≥ 0))
    ((decide (f ≤ 10800000)))
    (false))
   (false))
  (false)
noncomputable def book_cvalM_gives : Book := [(27, eP (fun a b => .bool (avalidB a b))), (39, eS (fun a b c d => .bool (pvalM a b c d)))]
theorem book_cvalM_gives_ok : BookOk Tryz.prog book_cvalM_gives := (bookOk_cons (eP_ok gvalid_any) (bookOk_cons (eS_ok pvalM_gives) bookOk_nil))
theorem cvalM_gives_tree (a b c d e f : Int) : evF Tryz.prog Es Cs book_cvalM_gives 20 6 15 ([.agg ⟨[.int .i64 a, .int .i64 b, .int .i64 c, .int .i64 d, .int .i64 e, .int .i64 f]⟩].map AV.v) [] [] last =
  cond (pvalM a b c d)
  (cond (avalidB e f)
   (cond (decide (e ≥ 0))
    (some (.v (.bool (decide (f ≤ 10800000)))))
    (some (.v (.bool false))))
   (some (.v (.bool false))))
  (some (.v (.bool false))) := by kernel_rfl
theorem cvalM_gives (a b c d e f : Int) : Gives Tryz.prog 15 [.agg ⟨[.int .i64 a, .int .i64 b, .int .i64 c, .int .i64 d, .int .i64 e, .int .i64 f]⟩] (.bool (cvalM a b c d e f)) := by
  refine evF_gives (E := Es) mixed Es_ok Cs_ok book_cvalM_gives_ok (lim := 20) (d := 6) (nm := []) ?_
  rw [cvalM_gives_tree a b c d e f]
  unfold cvalM
  refine case_cond (fun (r : Bool) => AV.v (.bool (r))) ?_ ?_
  · refine case_cond (fun (r : Bool) => AV.v (.bool (r))) ?_ ?_
    · refine case_cond (fun (r : Bool) => AV.v (.bool (r))) ?_ ?_
      · rfl
      · rfl
    · rfl
  · rfl
noncomputable def ctriM (a b c d _e _f u v w x : Int) : Int × Int × Int × Int × Int × Int :=
  (u, v, a, b, IntKind.i64.wrap (w - d), IntKind.i64.wrap (x - c))
noncomputable def book_ctriM_gives : Book := []
theorem book_ctriM_gives_ok : BookOk Tryz.prog book_ctriM_gives := bookOk_nil
theorem ctriM_gives_tree (a b c d e f u v w x : Int) : evF Tryz.prog Es Cs book_ctriM_gives 20 6 17 ([.agg ⟨[.int .i64 a, .int .i64 b, .int .i64 c, .int .i64 d, .int .i64 e, .int .i64 f]⟩, .agg ⟨[.int .i64 u, .int .i64 v, .int .i64 w, .int .i64 x]⟩].map AV.v) [] [] last =
  some (.v (.agg ⟨[.int .i64 u, .int .i64 v, .int .i64 a, .int .i64 b, .int .i64 (IntKind.i64.wrap (w - d)), .int .i64 (IntKind.i64.wrap (x - c))]⟩)) := by kernel_rfl
theorem ctriM_gives (a b c d e f u v w x : Int) : Gives Tryz.prog 17 [.agg ⟨[.int .i64 a, .int .i64 b, .int .i64 c, .int .i64 d, .int .i64 e, .int .i64 f]⟩, .agg ⟨[.int .i64 u, .int .i64 v, .int .i64 w, .int .i64 x]⟩] (triP (ctriM a b c d e f u v w x)) := by
  refine evF_gives (E := Es) mixed Es_ok Cs_ok book_ctriM_gives_ok (lim := 20) (d := 6) (nm := []) ?_
  rw [ctriM_gives_tree a b c d e f u v w x]
  rfl
noncomputable def csidM (a b c d e f u v w x : Int) : Int × Int :=
  cond (!(cvalM a b c d e f))
  ((0, 1))
  (cond (!(pvalM u v w x))
   ((0, 1))
   (lt (ctriM a b c d e f u v w x) fun x1 =>
    lt (ksinV x1.1 x1.2.1) fun x3 =>
    lt (ksinC 0 x1.1 x1.2.1) fun x2 =>
    lt (ksinV x1.2.2.1 x1.2.2.2.1) fun x5 =>
    lt (ksinC x2 x1.2.2.1 x1.2.2.2.1) fun x4 =>
    lt (kmulV x3.1 x3.2 x5.1 x5.2) fun x7 =>
    lt (kmulC x4 x3.1 x3.2 x5.1 x5.2) fun x6 =>
    lt (kcosV x1.1 x1.2.1) fun x9 =>
    lt (kcosC x6 x1.1 x1.2.1) fun x8 =>
    lt (kcosV x1.2.2.1 x1.2.2.2.1) fun x11 =>
    lt (kcosC x8 x1.2.2.1 x1.2.2.2.1) fun x10 =>
    lt (kmulV x9.1 x9.2 x11.1 x11.2) fun x13 =>
    lt (kmulC x10 x9.1 x9.2 x11.1 x11.2) fun x12 =>
    lt (kcosV x1.2.2.2.2.1 x1.2.2.2.2.2) fun x15 =>
    lt (kcosC x12 x1.2.2.2.2.1 x1.2.2.2.2.2) fun x14 =>
    lt (kmulV x13.1 x13.2 x15.1 x15.2) fun x17 =>
    lt (kmulC x14 x13.1 x13.2 x15.1 x15.2) fun x16 =>
    lt (kplusV x7.1 x7.2 x17.1 x17.2) fun x19 =>
    lt (kplusC x16 x7.1 x7.2 x17.1 x17.2) fun x18 =>
    lt (kcosV e f) fun x21 =>
    lt (kcosC x18 e f) fun x20 =>
    cond (x20 != 0)
    ((0, x20))
    (cond (decide (x19.1 > x21.2))
     ((1, 0))
     (cond (decide (x19.2 < x21.1))
      (((-1), 0))
      ((0, 0))))))
noncomputable def book_csidM_gives : Book := [(15, eT (fun a b c d e f => .bool (cvalM a b c d e f))), (17, eTS (fun a b c d e f u v w x => triP (ctriM a b c d e f u v w x))), (28, cP 57 (fun a b => pairV (ksinV a b).1 (ksinV a b).2) ksinC), (29, cP 57 (fun a b => pairV (kcosV a b).1 (kcosV a b).2) kcosC), (31, cPP 57 (fun a b c d => pairV (kplusV a b c d).1 (kplusV a b c d).2) kplusC), (32, cPP 57 (fun a b c d => pairV (kmulV a b c d).1 (kmulV a b c d).2) kmulC), (39, eS (fun a b c d => .bool (pvalM a b c d)))]
theorem book_csidM_gives_ok : BookOk Tryz.prog book_csidM_gives := (bookOk_cons (eT_ok cvalM_gives) (bookOk_cons (eTS_ok ctriM_gives) (bookOk_cons (cP_ok ksinV_mods) (bookOk_cons (cP_ok kcosV_mods) (bookOk_cons (cPP_ok kplusV_mods) (bookOk_cons (cPP_ok kmulV_mods) (bookOk_cons (eS_ok pvalM_gives) bookOk_nil)))))))
theorem csidM_gives_tree (a b c d e f u v w x : Int) : evF Tryz.prog Es Cs book_csidM_gives 20 6 12 ([.agg ⟨[.int .i64 a, .int .i64 b, .int .i64 c, .int .i64 d, .int .i64 e, .int .i64 f]⟩, .agg ⟨[.int .i64 u, .int .i64 v, .int .i64 w, .int .i64 x]⟩].map AV.v) [] [] last =
  cond (!(cvalM a b c d e f))
  (some (.v (.tuple ⟨[.int .i64 0, .int .i64 1]⟩)))
  (cond (!(pvalM u v w x))
   (some (.v (.tuple ⟨[.int .i64 0, .int .i64 1]⟩)))
   (lt (ctriM a b c d e f u v w x) fun x1 =>
    lt (ksinV x1.1 x1.2.1) fun x3 =>
    lt (ksinC 0 x1.1 x1.2.1) fun x2 =>
    lt (ksinV x1.2.2.1 x1.2.2.2.1) fun x5 =>
    lt (ksinC x2 x1.2.2.1 x1.2.2.2.1) fun x4 =>
    lt (kmulV x3.1 x3.2 x5.1 x5.2) fun x7 =>
    lt (kmulC x4 x3.1 x3.2 x5.1 x5.2) fun x6 =>
    lt (kcosV x1.1 x1.2.1) fun x9 =>
    lt (kcosC x6 x1.1 x1.2.1) fun x8 =>
    lt (kcosV x1.2.2.1 x1.2.2.2.1) fun x11 =>
    lt (kcosC x8 x1.2.2.1 x1.2.2.2.1) fun x10 =>
    lt (kmulV x9.1 x9.2 x11.1 x11.2) fun x13 =>
    lt (kmulC x10 x9.1 x9.2 x11.1 x11.2) fun x12 =>
    lt (kcosV x1.2.2.2.2.1 x1.2.2.2.2.2) fun x15 =>
    lt (kcosC x12 x1.2.2.2.2.1 x1.2.2.2.2.2) fun x14 =>
    lt (kmulV x13.1 x13.2 x15.1 x15.2) fun x17 =>
    lt (kmulC x14 x13.1 x13.2 x15.1 x15.2) fun x16 =>
    lt (kplusV x7.1 x7.2 x17.1 x17.2) fun x19 =>
    lt (kplusC x16 x7.1 x7.2 x17.1 x17.2) fun x18 =>
    lt (kcosV e f) fun x21 =>
    lt (kcosC x18 e f) fun x20 =>
    cond (x20 != 0)
    (some (.v (.tuple ⟨[.int .i64 0, .int .i64 x20]⟩)))
    (cond (decide (x19.1 > x21.2))
     (some (.v (.tuple ⟨[.int .i64 1, .int .i64 0]⟩)))
     (cond (decide (x19.2 < x21.1))
      (some (.v (.tuple ⟨[.int .i64 (-1), .int .i64 0]⟩)))
      (some (.v (.tuple ⟨[.int .i64 0, .int .i64 0]⟩))))))) := by kernel_rfl
theorem csidM_gives (a b c d e f u v w x : Int) : Gives Tryz.prog 12 [.agg ⟨[.int .i64 a, .int .i64 b, .int .i64 c, .int .i64 d, .int .i64 e, .int .i64 f]⟩, .agg ⟨[.int .i64 u, .int .i64 v, .int .i64 w, .int .i64 x]⟩] (twoI (csidM a b c d e f u v w x)) := by
  refine evF_gives (E := Es) mixed Es_ok Cs_ok book_csidM_gives_ok (lim := 20) (d := 6) (nm := []) ?_
  rw [csidM_gives_tree a b c d e f u v w x]
  unfold csidM
  refine case_cond (fun (r : Int × Int) => AV.v (twoI (r))) ?_ ?_
  · rfl
  · refine case_cond (fun (r : Int × Int) => AV.v (twoI (r))) ?_ ?_
    · rfl
    · refine case_lt (fun (r : Int × Int) => AV.v (twoI (r))) fun _ => ?_
      refine case_lt (fun (r : Int × Int) => AV.v (twoI (r))) fun _ => ?_
      refine case_lt (fun (r : Int × Int) => AV.v (twoI (r))) fun _ => ?_
      refine case_lt (fun (r : Int × Int) => AV.v (twoI (r))) fun _ => ?_
      refine case_lt (fun (r : Int × Int) => AV.v (twoI (r))) fun _ => ?_
      refine case_lt (fun (r : Int × Int) => AV.v (twoI (r))) fun _ => ?_
      refine case_lt (fun (r : Int × Int) => AV.v (twoI (r))) fun _ => ?_
      refine case_lt (fun (r : Int × Int) => AV.v (twoI (r))) fun _ => ?_
      refine case_lt (fun (r : Int × Int) => AV.v (twoI (r))) fun _ => ?_
      refine case_lt (fun (r : Int × Int) => AV.v (twoI (r))) fun _ => ?_
      refine case_lt (fun (r : Int × Int) => AV.v (twoI (r))) fun _ => ?_
      refine case_lt (fun (r : Int × Int) => AV.v (twoI (r))) fun _ => ?_
      refine case_lt (fun (r : Int × Int) => AV.v (twoI (r))) fun _ => ?_
      refine case_lt (fun (r : Int × Int) => AV.v (twoI (r))) fun _ => ?_
      refine case_lt (fun (r : Int × Int) => AV.v (twoI (r))) fun _ => ?_
      refine case_lt (fun (r : Int × Int) => AV.v (twoI (r))) fun _ => ?_
      refine case_lt (fun (r : Int × Int) => AV.v (twoI (r))) fun _ => ?_
      refine case_lt (fun (r : Int × Int) => AV.v (twoI (r))) fun _ => ?_
      refine case_lt (fun (r : Int × Int) => AV.v (twoI (r))) fun _ => ?_
      refine case_lt (fun (r : Int × Int) => AV.v (twoI (r))) fun _ => ?_
      refine case_lt (fun (r : Int × Int) => AV.v (twoI (r))) fun _ => ?_
      refine case_cond (fun (r : Int × Int) => AV.v (twoI (r))) ?_ ?_
      · rfl
      · refine case_cond (fun (r : Int × Int) => AV.v (twoI (r))) ?_ ?_
        · rfl
        · refine case_cond (fun (r : Int × Int) => AV.v (twoI (r))) ?_ ?_
          · rfl
          · rfl
noncomputable def catM (a b c d e f u v : Int) : Int × Int × Int × Int × Int :=
  cond (!(cvalM a b c d e f))
  ((0, 0, 0, 0, 1))
  (cond (!(avalidB u v))
   ((0, 0, 0, 0, 1))
   (lt (ksinV a b) fun x2 =>
    lt (ksinC 0 a b) fun x1 =>
    lt (kcosV a b) fun x4 =>
    lt (kcosC x1 a b) fun x3 =>
    lt (ksinV e f) fun x6 =>
    lt (ksinC x3 e f) fun x5 =>
    lt (kcosV e f) fun x8 =>
    lt (kcosC x5 e f) fun x7 =>
    lt (ksinV u v) fun x10 =>
    lt (ksinC x7 u v) fun x9 =>
    lt (kcosV u v) fun x12 =>
    lt (kcosC x9 u v) fun x11 =>
    lt (kmulV x2.1 x2.2 x8.1 x8.2) fun x14 =>
    lt (kmulC x11 x2.1 x2.2 x8.1 x8.2) fun x13 =>
    lt (kmulV x4.1 x4.2 x6.1 x6.2) fun x16 =>
    lt (kmulC x13 x4.1 x4.2 x6.1 x6.2) fun x15 =>
    lt (kmulV x16.1 x16.2 x12.1 x12.2) fun x18 =>
    lt (kmulC x15 x16.1 x16.2 x12.1 x12.2) fun x17 =>
    lt (kplusV x14.1 x14.2 x18.1 x18.2) fun x20 =>
    lt (kplusC x17 x14.1 x14.2 x18.1 x18.2) fun x19 =>
    lt (asinR x20.1 x20.2) fun x21 =>
    lt (arcW x21.1 x21.2.1 x21.2.2) fun x23 =>
    lt (arcC x19 x21.1 x21.2.1 x21.2.2) fun x22 =>
    lt (kmulV x6.1 x6.2 x10.1 x10.2) fun x25 =>
    lt (kmulC x22 x6.1 x6.2 x10.1 x10.2) fun x24 =>
    lt (kmulV x8.1 x8.2 x4.1 x4.2) fun x27 =>
    lt (kmulC x24 x8.1 x8.2 x4.1 x4.2) fun x26 =>
    lt (kmulV x6.1 x6.2 x2.1 x2.2) fun x29 =>
    lt (kmulC x26 x6.1 x6.2 x2.1 x2.2) fun x28 =>
    lt (kmulV x29.1 x29.2 x12.1 x12.2) fun x31 =>
    lt (kmulC x28 x29.1 x29.2 x12.1 x12.2) fun x30 =>
    lt (kminusV x27.1 x27.2 x31.1 x31.2) fun x33 =>
    lt (kminusC x30 x27.1 x27.2 x31.1 x31.2) fun x32 =>
    lt (bearR x25.1 x25.2 x33.1 x33.2) fun x34 =>
    lt (arcW x34.1 x34.2.1 x34.2.2) fun x36 =>
    lt (arcC x32 x34.1 x34.2.1 x34.2.2) fun x35 =>
    lt (ksumV c d x36.1 x36.2) fun x38 =>
    lt (ksumC x35 c d x36.1 x36.2) fun x37 =>
    cond (x37 != 0)
    ((0, 0, 0, 0, x37))
    (lt (clonM x38.1 x38.2) fun x39 =>
     (x23.1, x23.2, x39.1, x39.2, 0))))
noncomputable def book_catM_gives : Book := [(15, eT (fun a b c d e f => .bool (cvalM a b c d e f))), (27, eP (fun a b => .bool (avalidB a b))), (28, cP 57 (fun a b => pairV (ksinV a b).1 (ksinV a b).2) ksinC), (29, cP 57 (fun a b => pairV (kcosV a b).1 (kcosV a b).2) kcosC), (30, eP (fun a b => arcV (asinR a b))), (31, cPP 57 (fun a b c d => pairV (kplusV a b c d).1 (kplusV a b c d).2) kplusC), (32, cPP 57 (fun a b c d => pairV (kmulV a b c d).1 (kmulV a b c d).2) kmulC), (33, cPI 57 (fun a b c => pairV (arcW a b c).1 (arcW a b c).2) arcC), (34, ePP (fun a b c d => arcV (bearR a b c d))), (35, cPP 57 (fun a b c d => pairV (kminusV a b c d).1 (kminusV a b c d).2) kminusC), (36, cPP 57 (fun a b c d => pairV (ksumV a b c d).1 (ksumV a b c d).2) ksumC), (37, eP (fun a b => pairV (clonM a b).1 (clonM a b).2))]
theorem book_catM_gives_ok : BookOk Tryz.prog book_catM_gives := (bookOk_cons (eT_ok cvalM_gives) (bookOk_cons (eP_ok gvalid_any) (bookOk_cons (cP_ok ksinV_mods) (bookOk_cons (cP_ok kcosV_mods) (bookOk_cons (eP_ok asin_r) (bookOk_cons (cPP_ok kplusV_mods) (bookOk_cons (cPP_ok kmulV_mods) (bookOk_cons (cPI_ok arcW_mods) (bookOk_cons (ePP_ok bear_any) (bookOk_cons (cPP_ok kminusV_mods) (bookOk_cons (cPP_ok ksumV_mods) (bookOk_cons (eP_ok clonM_gives) bookOk_nil))))))))))))
theorem catM_gives_tree (a b c d e f u v : Int) : evF Tryz.prog Es Cs book_catM_gives 20 6 10 ([.agg ⟨[.int .i64 a, .int .i64 b, .int .i64 c, .int .i64 d, .int .i64 e, .int .i64 f]⟩, .agg ⟨[.int .i64 u, .int .i64 v]⟩].map AV.v) [] [] last =
  cond (!(cvalM a b c d e f))
  (some (.v (.tuple ⟨[.agg ⟨[.int .i64 0, .int .i64 0, .int .i64 0, .int .i64 0]⟩, .int .i64 1]⟩)))
  (cond (!(avalidB u v))
   (some (.v (.tuple ⟨[.agg ⟨[.int .i64 0, .int .i64 0, .int .i64 0, .int .i64 0]⟩, .int .i64 1]⟩)))
   (lt (ksinV a b) fun x2 =>
    lt (ksinC 0 a b) fun x1 =>
    lt (kcosV a b) fun x4 =>
    lt (kcosC x1 a b) fun x3 =>
    lt (ksinV e f) fun x6 =>
    lt (ksinC x3 e f) fun x5 =>
    lt (kcosV e f) fun x8 =>
    lt (kcosC x5 e f) fun x7 =>
    lt (ksinV u v) fun x10 =>
    lt (ksinC x7 u v) fun x9 =>
    lt (kcosV u v) fun x12 =>
    lt (kcosC x9 u v) fun x11 =>
    lt (kmulV x2.1 x2.2 x8.1 x8.2) fun x14 =>
    lt (kmulC x11 x2.1 x2.2 x8.1 x8.2) fun x13 =>
    lt (kmulV x4.1 x4.2 x6.1 x6.2) fun x16 =>
    lt (kmulC x13 x4.1 x4.2 x6.1 x6.2) fun x15 =>
    lt (kmulV x16.1 x16.2 x12.1 x12.2) fun x18 =>
    lt (kmulC x15 x16.1 x16.2 x12.1 x12.2) fun x17 =>
    lt (kplusV x14.1 x14.2 x18.1 x18.2) fun x20 =>
    lt (kplusC x17 x14.1 x14.2 x18.1 x18.2) fun x19 =>
    lt (asinR x20.1 x20.2) fun x21 =>
    lt (arcW x21.1 x21.2.1 x21.2.2) fun x23 =>
    lt (arcC x19 x21.1 x21.2.1 x21.2.2) fun x22 =>
    lt (kmulV x6.1 x6.2 x10.1 x10.2) fun x25 =>
    lt (kmulC x22 x6.1 x6.2 x10.1 x10.2) fun x24 =>
    lt (kmulV x8.1 x8.2 x4.1 x4.2) fun x27 =>
    lt (kmulC x24 x8.1 x8.2 x4.1 x4.2) fun x26 =>
    lt (kmulV x6.1 x6.2 x2.1 x2.2) fun x29 =>
    lt (kmulC x26 x6.1 x6.2 x2.1 x2.2) fun x28 =>
    lt (kmulV x29.1 x29.2 x12.1 x12.2) fun x31 =>
    lt (kmulC x28 x29.1 x29.2 x12.1 x12.2) fun x30 =>
    lt (kminusV x27.1 x27.2 x31.1 x31.2) fun x33 =>
    lt (kminusC x30 x27.1 x27.2 x31.1 x31.2) fun x32 =>
    lt (bearR x25.1 x25.2 x33.1 x33.2) fun x34 =>
    lt (arcW x34.1 x34.2.1 x34.2.2) fun x36 =>
    lt (arcC x32 x34.1 x34.2.1 x34.2.2) fun x35 =>
    lt (ksumV c d x36.1 x36.2) fun x38 =>
    lt (ksumC x35 c d x36.1 x36.2) fun x37 =>
    cond (x37 != 0)
    (some (.v (.tuple ⟨[.agg ⟨[.int .i64 0, .int .i64 0, .int .i64 0, .int .i64 0]⟩, .int .i64 x37]⟩)))
    (lt (clonM x38.1 x38.2) fun x39 =>
     some (.v (.tuple ⟨[.agg ⟨[.int .i64 x23.1, .int .i64 x23.2, .int .i64 x39.1, .int .i64 x39.2]⟩, .int .i64 0]⟩))))) := by kernel_rfl
theorem catM_gives (a b c d e f u v : Int) : Gives Tryz.prog 10 [.agg ⟨[.int .i64 a, .int .i64 b, .int .i64 c, .int .i64 d, .int .i64 e, .int .i64 f]⟩, .agg ⟨[.int .i64 u, .int .i64 v]⟩] (solV (catM a b c d e f u v)) := by
  refine evF_gives (E := Es) mixed Es_ok Cs_ok book_catM_gives_ok (lim := 20) (d := 6) (nm := []) ?_
  rw [catM_gives_tree a b c d e f u v]
  unfold catM
  refine case_cond (fun (r : Int × Int × Int × Int × Int) => AV.v (solV (r))) ?_ ?_
  · rfl
  · refine case_cond (fun (r : Int × Int × Int × Int × Int) => AV.v (solV (r))) ?_ ?_
    · rfl
    · refine case_lt (fun (r : Int × Int × Int × Int × Int) => AV.v (solV (r))) fun _ => ?_
      refine case_lt (fun (r : Int × Int × Int × Int × Int) => AV.v (solV (r))) fun _ => ?_
      refine case_lt (fun (r : Int × Int × Int × Int × Int) => AV.v (solV (r))) fun _ => ?_
      refine case_lt (fun (r : Int × Int × Int × Int × Int) => AV.v (solV (r))) fun _ => ?_
      refine case_lt (fun (r : Int × Int × Int × Int × Int) => AV.v (solV (r))) fun _ => ?_
      refine case_lt (fun (r : Int × Int × Int × Int × Int) => AV.v (solV (r))) fun _ => ?_
      refine case_lt (fun (r : Int × Int × Int × Int × Int) => AV.v (solV (r))) fun _ => ?_
      refine case_lt (fun (r : Int × Int × Int × Int × Int) => AV.v (solV (r))) fun _ => ?_
      refine case_lt (fun (r : Int × Int × Int × Int × Int) => AV.v (solV (r))) fun _ => ?_
      refine case_lt (fun (r : Int × Int × Int × Int × Int) => AV.v (solV (r))) fun _ => ?_
      refine case_lt (fun (r : Int × Int × Int × Int × Int) => AV.v (solV (r))) fun _ => ?_
      refine case_lt (fun (r : Int × Int × Int × Int × Int) => AV.v (solV (r))) fun _ => ?_
      refine case_lt (fun (r : Int × Int × Int × Int × Int) => AV.v (solV (r))) fun _ => ?_
      refine case_lt (fun (r : Int × Int × Int × Int × Int) => AV.v (solV (r))) fun _ => ?_
      refine case_lt (fun (r : Int × Int × Int × Int × Int) => AV.v (solV (r))) fun _ => ?_
      refine case_lt (fun (r : Int × Int × Int × Int × Int) => AV.v (solV (r))) fun _ => ?_
      refine case_lt (fun (r : Int × Int × Int × Int × Int) => AV.v (solV (r))) fun _ => ?_
      refine case_lt (fun (r : Int × Int × Int × Int × Int) => AV.v (solV (r))) fun _ => ?_
      refine case_lt (fun (r : Int × Int × Int × Int × Int) => AV.v (solV (r))) fun _ => ?_
      refine case_lt (fun (r : Int × Int × Int × Int × Int) => AV.v (solV (r))) fun _ => ?_
      refine case_lt (fun (r : Int × Int × Int × Int × Int) => AV.v (solV (r))) fun _ => ?_
      refine case_lt (fun (r : Int × Int × Int × Int × Int) => AV.v (solV (r))) fun _ => ?_
      refine case_lt (fun (r : Int × Int × Int × Int × Int) => AV.v (solV (r))) fun _ => ?_
      refine case_lt (fun (r : Int × Int × Int × Int × Int) => AV.v (solV (r))) fun _ => ?_
      refine case_lt (fun (r : Int × Int × Int × Int × Int) => AV.v (solV (r))) fun _ => ?_
      refine case_lt (fun (r : Int × Int × Int × Int × Int) => AV.v (solV (r))) fun _ => ?_
      refine case_lt (fun (r : Int × Int × Int × Int × Int) => AV.v (solV (r))) fun _ => ?_
      refine case_lt (fun (r : Int × Int × Int × Int × Int) => AV.v (solV (r))) fun _ => ?_
      refine case_lt (fun (r : Int × Int × Int × Int × Int) => AV.v (solV (r))) fun _ => ?_
      refine case_lt (fun (r : Int × Int × Int × Int × Int) => AV.v (solV (r))) fun _ => ?_
      refine case_lt (fun (r : Int × Int × Int × Int × Int) => AV.v (solV (r))) fun _ => ?_
      refine case_lt (fun (r : Int × Int × Int × Int × Int) => AV.v (solV (r))) fun _ => ?_
      refine case_lt (fun (r : Int × Int × Int × Int × Int) => AV.v (solV (r))) fun _ => ?_
      refine case_lt (fun (r : Int × Int × Int × Int × Int) => AV.v (solV (r))) fun _ => ?_
      refine case_lt (fun (r : Int × Int × Int × Int × Int) => AV.v (solV (r))) fun _ => ?_
      refine case_lt (fun (r : Int × Int × Int × Int × Int) => AV.v (solV (r))) fun _ => ?_
      refine case_lt (fun (r : Int × Int × Int × Int × Int) => AV.v (solV (r))) fun _ => ?_
      refine case_lt (fun (r : Int × Int × Int × Int × Int) => AV.v (solV (r))) fun _ => ?_
      refine case_cond (fun (r : Int × Int × Int × Int × Int) => AV.v (solV (r))) ?_ ?_
      · rfl
      · refine case_lt (fun (r : Int × Int × Int × Int × Int) => AV.v (solV (r))) fun _ => ?_
        rfl
noncomputable def cextM (a b c d e f : Int) : Int × Int × Int × Int × Int :=
  cond (!(cvalM a b c d e f))
  ((0, 0, 0, 0, 1))
  (cond (decide (IntKind.i64.wrap (a - f) ≤ (-5400000)))
   (((mx (-5400000) (IntKind.i64.wrap (a - f))), (mn 5400000 (IntKind.i64.wrap (b + f))), (-10800000), 10800000, 0))
   (cond (decide (IntKind.i64.wrap (b + f) ≥ 5400000))
    (((mx (-5400000) (IntKind.i64.wrap (a - f))), (mn 5400000 (IntKind.i64.wrap (b + f))), (-10800000), 10800000, 0))
    (lt (ksinV f f) fun x2 =>
     lt (ksinC 0 f f) fun x1 =>
     lt (kcosV a b) fun x4 =>
     lt (kcosC x1 a b) fun x3 =>
     lt (divR x2.1 x2.2 x4.1 x4.2) fun x5 =>
     cond (x3 != 0)
     (((mx (-5400000) (IntKind.i64.wrap (a - f))), (mn 5400000 (IntKind.i64.wrap (b + f))), (-10800000), 10800000, 0))
     (cond (x5.2.2 != 0)
      (((mx (-5400000) (IntKind.i64.wrap (a - f))), (mn 5400000 (IntKind.i64.wrap (b + f))), (-10800000), 10800000, 0))
      (lt (asinR x5.1 x5.2.1) fun x6 =>
       cond (x6.2.2 == 0)
       (lt (clonM (IntKind.i64.wrap (c - x6.2.1)) (IntKind.i64.wrap (d + x6.2.1))) fun x7 =>
        ((mx (-5400000) (IntKind.i64.wrap (a - f))), (mn 5400000 (IntKind.i64.wrap (b + f))), x7.1, x7.2, 0))
       (((mx (-5400000) (IntKind.i64.wrap (a - f))), (mn 5400000 (IntKind.i64.wrap (b + f))), (-10800000), 10800000, 0)))))))
noncomputable def book_cextM_gives : Book := [(15, eT (fun a b c d e f => .bool (cvalM a b c d e f))), (28, cP 57 (fun a b => pairV (ksinV a b).1 (ksinV a b).2) ksinC), (29, cP 57 (fun a b => pairV (kcosV a b).1 (kcosV a b).2) kcosC), (30, eP (fun a b => arcV (asinR a b))), (37, eP (fun a b => pairV (clonM a b).1 (clonM a b).2)), (38, ePP (fun a b c d => arcV (divR a b c d)))]
theorem book_cextM_gives_ok : BookOk Tryz.prog book_cextM_gives := (bookOk_cons (eT_ok cvalM_gives) (bookOk_cons (cP_ok ksinV_mods) (bookOk_cons (cP_ok kcosV_mods) (bookOk_cons (eP_ok asin_r) (bookOk_cons (eP_ok clonM_gives) (bookOk_cons (ePP_ok divR_gives) bookOk_nil))))))
theorem cextM_gives_tree (a b c d e f : Int) : evF Tryz.prog Es Cs book_cextM_gives 20 6 11 ([.agg ⟨[.int .i64 a, .int .i64 b, .int .i64 c, .int .i64 d, .int .i64 e, .int .i64 f]⟩].map AV.v) [] [] last =
  cond (!(cvalM a b c d e f))
  (some (.v (.tuple ⟨[.agg ⟨[.int .i64 0, .int .i64 0, .int .i64 0, .int .i64 0]⟩, .int .i64 1]⟩)))
  (cond (decide (IntKind.i64.wrap (a - f) ≤ (-5400000)))
   (some (.v (.tuple ⟨[.agg ⟨[.int .i64 (mx (-5400000) (IntKind.i64.wrap (a - f))), .int .i64 (mn 5400000 (IntKind.i64.wrap (b + f))), .int .i64 (-10800000), .int .i64 10800000]⟩, .int .i64 0]⟩)))
   (cond (decide (IntKind.i64.wrap (b + f) ≥ 5400000))
    (some (.v (.tuple ⟨[.agg ⟨[.int .i64 (mx (-5400000) (IntKind.i64.wrap (a - f))), .int .i64 (mn 5400000 (IntKind.i64.wrap (b + f))), .int .i64 (-10800000), .int .i64 10800000]⟩, .int .i64 0]⟩)))
    (lt (ksinV f f) fun x2 =>
     lt (ksinC 0 f f) fun x1 =>
     lt (kcosV a b) fun x4 =>
     lt (kcosC x1 a b) fun x3 =>
     lt (divR x2.1 x2.2 x4.1 x4.2) fun x5 =>
     cond (x3 != 0)
     (some (.v (.tuple ⟨[.agg ⟨[.int .i64 (mx (-5400000) (IntKind.i64.wrap (a - f))), .int .i64 (mn 5400000 (IntKind.i64.wrap (b + f))), .int .i64 (-10800000), .int .i64 10800000]⟩, .int .i64 0]⟩)))
     (cond (x5.2.2 != 0)
      (some (.v (.tuple ⟨[.agg ⟨[.int .i64 (mx (-5400000) (IntKind.i64.wrap (a - f))), .int .i64 (mn 5400000 (IntKind.i64.wrap (b + f))), .int .i64 (-10800000), .int .i64 10800000]⟩, .int .i64 0]⟩)))
      (lt (asinR x5.1 x5.2.1) fun x6 =>
       cond (x6.2.2 == 0)
       (lt (clonM (IntKind.i64.wrap (c - x6.2.1)) (IntKind.i64.wrap (d + x6.2.1))) fun x7 =>
        some (.v (.tuple ⟨[.agg ⟨[.int .i64 (mx (-5400000) (IntKind.i64.wrap (a - f))), .int .i64 (mn 5400000 (IntKind.i64.wrap (b + f))), .int .i64 x7.1, .int .i64 x7.2]⟩, .int .i64 0]⟩)))
       (some (.v (.tuple ⟨[.agg ⟨[.int .i64 (mx (-5400000) (IntKind.i64.wrap (a - f))), .int .i64 (mn 5400000 (IntKind.i64.wrap (b + f))), .int .i64 (-10800000), .int .i64 10800000]⟩, .int .i64 0]⟩)))))))) := by kernel_rfl
theorem cextM_gives (a b c d e f : Int) : Gives Tryz.prog 11 [.agg ⟨[.int .i64 a, .int .i64 b, .int .i64 c, .int .i64 d, .int .i64 e, .int .i64 f]⟩] (solV (cextM a b c d e f)) := by
  refine evF_gives (E := Es) mixed Es_ok Cs_ok book_cextM_gives_ok (lim := 20) (d := 6) (nm := []) ?_
  rw [cextM_gives_tree a b c d e f]
  unfold cextM
  refine case_cond (fun (r : Int × Int × Int × Int × Int) => AV.v (solV (r))) ?_ ?_
  · rfl
  · refine case_cond (fun (r : Int × Int × Int × Int × Int) => AV.v (solV (r))) ?_ ?_
    · rfl
    · refine case_cond (fun (r : Int × Int × Int × Int × Int) => AV.v (solV (r))) ?_ ?_
      · rfl
      · refine case_lt (fun (r : Int × Int × Int × Int × Int) => AV.v (solV (r))) fun _ => ?_
        refine case_lt (fun (r : Int × Int × Int × Int × Int) => AV.v (solV (r))) fun _ => ?_
        refine case_lt (fun (r : Int × Int × Int × Int × Int) => AV.v (solV (r))) fun _ => ?_
        refine case_lt (fun (r : Int × Int × Int × Int × Int) => AV.v (solV (r))) fun _ => ?_
        refine case_lt (fun (r : Int × Int × Int × Int × Int) => AV.v (solV (r))) fun _ => ?_
        refine case_cond (fun (r : Int × Int × Int × Int × Int) => AV.v (solV (r))) ?_ ?_
        · rfl
        · refine case_cond (fun (r : Int × Int × Int × Int × Int) => AV.v (solV (r))) ?_ ?_
          · rfl
          · refine case_lt (fun (r : Int × Int × Int × Int × Int) => AV.v (solV (r))) fun _ => ?_
            refine case_cond (fun (r : Int × Int × Int × Int × Int) => AV.v (solV (r))) ?_ ?_
            · refine case_lt (fun (r : Int × Int × Int × Int × Int) => AV.v (solV (r))) fun _ => ?_
              rfl
            · rfl
noncomputable def ctanM (a b c d e f u v : Int) : Int × Int × Int × Int × Int × Int × Int :=
  lt (pofM u v) fun x1 =>
  cond (x1.2.2.2.2 != 0)
  ((0, 0, 0, 0, 0, 0, 1))
  (cond (!(cvalM a b c d e f))
   ((0, 0, 0, 0, 0, 0, 1))
   (lt (ctriM a b c d e f x1.1 x1.2.1 x1.2.2.1 x1.2.2.2.1) fun x2 =>
    lt (csolM x2.1 x2.2.1 x2.2.2.1 x2.2.2.2.1 x2.2.2.2.2.1 x2.2.2.2.2.2) fun x3 =>
    cond (x3.2.2.2.2 != 0)
    ((0, 0, 0, 0, 0, 0, x3.2.2.2.2))
    (lt (crgtM) fun x4 =>
     lt (klessV x4.1 x4.2 x3.1 x3.2.1) fun x6 =>
     lt (klessC 0 x4.1 x4.2 x3.1 x3.2.1) fun x5 =>
     lt (klessV x6.1 x6.2 e f) fun x8 =>
     lt (klessC x5 x6.1 x6.2 e f) fun x7 =>
     cond (x7 != 0)
     ((0, 0, 0, 0, 0, 0, x7))
     ((u, v, x3.2.2.1, x3.2.2.2.1, x8.1, x8.2, 0)))))
noncomputable def book_ctanM_gives : Book := [(14, eP (fun a b => solV (pofM a b))), (15, eT (fun a b c d e f => .bool (cvalM a b c d e f))), (16, eT (fun a b c d e f => solV (csolM a b c d e f))), (17, eTS (fun a b c d e f u v w x => triP (ctriM a b c d e f u v w x))), (18, cPP 57 (fun a b c d => pairV (klessV a b c d).1 (klessV a b c d).2) klessC), (19, e0 (pairV (crgtM).1 (crgtM).2))]
theorem book_ctanM_gives_ok : BookOk Tryz.prog book_ctanM_gives := (bookOk_cons (eP_ok pofM_gives) (bookOk_cons (eT_ok cvalM_gives) (bookOk_cons (eT_ok csolM_gives) (bookOk_cons (eTS_ok ctriM_gives) (bookOk_cons (cPP_ok klessV_mods) (bookOk_cons (e0_ok crgtM_gives) bookOk_nil))))))
theorem ctanM_gives_tree (a b c d e f u v : Int) : evF Tryz.prog Es Cs book_ctanM_gives 20 6 5 ([.agg ⟨[.int .i64 a, .int .i64 b, .int .i64 c, .int .i64 d, .int .i64 e, .int .i64 f]⟩, .agg ⟨[.int .i64 u, .int .i64 v]⟩].map AV.v) [] [] last =
  lt (pofM u v) fun x1 =>
  cond (x1.2.2.2.2 != 0)
  (some (.v (.tuple ⟨[.agg ⟨[.int .i64 0, .int .i64 0, .int .i64 0, .int .i64 0, .int .i64 0, .int .i64 0]⟩, .int .i64 1]⟩)))
  (cond (!(cvalM a b c d e f))
   (some (.v (.tuple ⟨[.agg ⟨[.int .i64 0, .int .i64 0, .int .i64 0, .int .i64 0, .int .i64 0, .int .i64 0]⟩, .int .i64 1]⟩)))
   (lt (ctriM a b c d e f x1.1 x1.2.1 x1.2.2.1 x1.2.2.2.1) fun x2 =>
    lt (csolM x2.1 x2.2.1 x2.2.2.1 x2.2.2.2.1 x2.2.2.2.2.1 x2.2.2.2.2.2) fun x3 =>
    cond (x3.2.2.2.2 != 0)
    (some (.v (.tuple ⟨[.agg ⟨[.int .i64 0, .int .i64 0, .int .i64 0, .int .i64 0, .int .i64 0, .int .i64 0]⟩, .int .i64 x3.2.2.2.2]⟩)))
    (lt (crgtM) fun x4 =>
     lt (klessV x4.1 x4.2 x3.1 x3.2.1) fun x6 =>
     lt (klessC 0 x4.1 x4.2 x3.1 x3.2.1) fun x5 =>
     lt (klessV x6.1 x6.2 e f) fun x8 =>
     lt (klessC x5 x6.1 x6.2 e f) fun x7 =>
     cond (x7 != 0)
     (some (.v (.tuple ⟨[.agg ⟨[.int .i64 0, .int .i64 0, .int .i64 0, .int .i64 0, .int .i64 0, .int .i64 0]⟩, .int .i64 x7]⟩)))
     (some (.v (.tuple ⟨[.agg ⟨[.int .i64 u, .int .i64 v, .int .i64 x3.2.2.1, .int .i64 x3.2.2.2.1, .int .i64 x8.1, .int .i64 x8.2]⟩, .int .i64 0]⟩)))))) := by kernel_rfl
theorem ctanM_gives (a b c d e f u v : Int) : Gives Tryz.prog 5 [.agg ⟨[.int .i64 a, .int .i64 b, .int .i64 c, .int .i64 d, .int .i64 e, .int .i64 f]⟩, .agg ⟨[.int .i64 u, .int .i64 v]⟩] (cirV (ctanM a b c d e f u v)) := by
  refine evF_gives (E := Es) mixed Es_ok Cs_ok book_ctanM_gives_ok (lim := 20) (d := 6) (nm := []) ?_
  rw [ctanM_gives_tree a b c d e f u v]
  unfold ctanM
  refine case_lt (fun (r : Int × Int × Int × Int × Int × Int × Int) => AV.v (cirV (r))) fun _ => ?_
  refine case_cond (fun (r : Int × Int × Int × Int × Int × Int × Int) => AV.v (cirV (r))) ?_ ?_
  · rfl
  · refine case_cond (fun (r : Int × Int × Int × Int × Int × Int × Int) => AV.v (cirV (r))) ?_ ?_
    · rfl
    · refine case_lt (fun (r : Int × Int × Int × Int × Int × Int × Int) => AV.v (cirV (r))) fun _ => ?_
      refine case_lt (fun (r : Int × Int × Int × Int × Int × Int × Int) => AV.v (cirV (r))) fun _ => ?_
      refine case_cond (fun (r : Int × Int × Int × Int × Int × Int × Int) => AV.v (cirV (r))) ?_ ?_
      · rfl
      · refine case_lt (fun (r : Int × Int × Int × Int × Int × Int × Int) => AV.v (cirV (r))) fun _ => ?_
        refine case_lt (fun (r : Int × Int × Int × Int × Int × Int × Int) => AV.v (cirV (r))) fun _ => ?_
        refine case_lt (fun (r : Int × Int × Int × Int × Int × Int × Int) => AV.v (cirV (r))) fun _ => ?_
        refine case_lt (fun (r : Int × Int × Int × Int × Int × Int × Int) => AV.v (cirV (r))) fun _ => ?_
        refine case_lt (fun (r : Int × Int × Int × Int × Int × Int × Int) => AV.v (cirV (r))) fun _ => ?_
        refine case_cond (fun (r : Int × Int × Int × Int × Int × Int × Int) => AV.v (cirV (r))) ?_ ?_
        · rfl
        · rfl
end Go.Proofs.YtkfkddbglnbjgaaGreat

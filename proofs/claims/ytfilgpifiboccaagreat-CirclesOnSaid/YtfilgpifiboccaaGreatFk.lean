/-
  Circles and places: what each function gives.
-/
import Derived.Test.YtfilgpifiboccaaGreatFc
namespace Go.Proofs.YtfilgpifiboccaaGreat
open Ev

theorem eqInts_inv {x y : Value} {xs ys : List Value} {r : Bool} (h : eqInts (x :: xs) (y :: ys) = some r) : ∃ a b r', x = .int .i64 a ∧ y = .int .i64 b ∧ eqInts xs ys = some r' ∧ r = ((a == b) && r') := by
  unfold eqInts at h
  split at h
  · rename_i he1 he2; cases he1
  · rename_i a l b m he1 he2
    cases he1
    cases he2
    split at h
    · rename_i r' hr
      simp only [Option.some.injEq] at h
      exact ⟨a, b, r', rfl, rfl, hr, h.symm⟩
    · cases h
  · cases h
theorem eqInts_nil : eqInts [] [] = some true := rfl
theorem eqArcAt (k : Nat) (a b c d : Int) (w : World) : (Op.equalIn (k + 2) 23 (.agg #[.int .i64 a, .int .i64 b]) (.agg #[.int .i64 c, .int .i64 d])).run Tryz.prog w = .ok (a == c && b == d) w := by
  have u3 := Tryz.underlying3
  have a3 := Tryz.isAgg3
  have z3 := Tryz.sizeOf3
  have hS : Tryz.prog.underlying 23 = some (.struct (Tryz.prog.fieldsOf 23)) := by kernel_rfl
  have hp : Tryz.prog.stoodInHeld 23 = false := by kernel_rfl
  rw [run_equalIn_agg w (k + 1) 23 _ _ hS hp]
  simp only [Program.fieldsOf, Tryz.underlying23]
  go_simp
  by_cases h1 : a = c <;> by_cases h2 : b = d <;> simp [h1, h2]
theorem fitArc : EqFit Tryz.prog (23, 2) := by
  refine ⟨by kernel_rfl, fun xs ys r hx hy h w => ?_⟩
  match xs, ys, hx, hy with
  | [x0, x1], [y0, y1], _, _ =>
    obtain ⟨a, c, r1, rfl, rfl, h1, rfl⟩ := eqInts_inv h
    obtain ⟨b, d, r2, rfl, rfl, h2, rfl⟩ := eqInts_inv h1
    rw [eqInts_nil] at h2
    cases h2
    rw [Bool.and_true]
    exact eqArcAt 9998 a b c d w
theorem fit30 : EqFit Tryz.prog (30, 4) := by
  refine ⟨by kernel_rfl, fun xs ys r hx hy h w => ?_⟩
  match xs, ys, hx, hy with
  | [x0, x1, x2, x3], [y0, y1, y2, y3], _, _ =>
    obtain ⟨a, c, r1, rfl, rfl, h1, rfl⟩ := eqInts_inv h
    obtain ⟨b, d, r2, rfl, rfl, h2, rfl⟩ := eqInts_inv h1
    obtain ⟨e, f, r3, rfl, rfl, h3, rfl⟩ := eqInts_inv h2
    obtain ⟨i, j, r4, rfl, rfl, h4, rfl⟩ := eqInts_inv h3
    rw [eqInts_nil] at h4
    cases h4
    have hS : Tryz.prog.underlying 30 = some (.struct (Tryz.prog.fieldsOf 30)) := by kernel_rfl
    have hp : Tryz.prog.stoodInHeld 30 = false := by kernel_rfl
    have a25 := Tryz.isAgg23
    have z25 := Tryz.sizeOf23
    have q1 := fun w => eqArcAt 9997 a b c d w
    have q2 := fun w => eqArcAt 9997 e i f j w
    rw [run_equalIn_agg w 9999 30 _ _ hS hp]
    simp only [Program.fieldsOf, Tryz.underlying30, Op.eqFields, part]
    simp [a25, z25, q1, q2]
    by_cases h1 : a = c <;> by_cases h2 : b = d <;> by_cases h3 : e = f <;> by_cases h4 : i = j <;> simp [h1, h2, h3, h4]
def Es : List (TypeId × Nat) := [(23, 2), (30, 4)]
theorem Es_ok : ∀ e ∈ Es, EqFit Tryz.prog e := by
  intro e he
  simp only [Es, List.mem_cons, List.not_mem_nil, or_false] at he
  rcases he with rfl | rfl
  · exact fitArc
  · exact fit30
def knumV (a b _e : Int) : Int × Int := (a, b)
def knumC (k _a _b e : Int) : Int := keepE k e
noncomputable def kFk0 : Book := (25, eP (fun a b => .bool (avalidB a b))) :: (28, eP (fun a b => arcV (asinR a b))) :: (32, ePP (fun a b c d => arcV (bearR a b c d))) :: (39, ePP (fun a b c d => arcV (divR a b c d))) :: (45, eT (fun a b c d e f => solV (csolM a b c d e f))) :: (46, ePP (fun a b c d => arcV (asubR a b c d))) :: (48, ePP (fun a b c d => arcV (aaddR a b c d))) :: (62, eP (fun a b => arcV (sinR a b))) :: (64, eP (fun a b => arcV (cosR a b))) :: (68, ePP (fun a b c d => arcV (addR a b c d))) :: (69, ePP (fun a b c d => arcV (mulR a b c d))) :: (72, ePP (fun a b c d => arcV (subR a b c d))) :: (115, eI (fun a => .int .i64 (wrapN a))) :: []
theorem kFk0_ok : BookOk Tryz.prog kFk0 := (bookOk_cons (eP_ok gvalid_any) (bookOk_cons (eP_ok asin_r) (bookOk_cons (ePP_ok bear_any) (bookOk_cons (ePP_ok divR_gives) (bookOk_cons (eT_ok csolM_gives) (bookOk_cons (ePP_ok asubR_gives) (bookOk_cons (ePP_ok aaddR_gives) (bookOk_cons (eP_ok sin_r) (bookOk_cons (eP_ok cos_r) (bookOk_cons (ePP_ok addR_gives) (bookOk_cons (ePP_ok mulR_gives) (bookOk_cons (ePP_ok subR_gives) (bookOk_cons (eI_ok wrap_any) bookOk_nil)))))))))))))
theorem knumV_mods (k a b c : Int) : Mods Tryz.prog 63 59 k [.agg ⟨[.int .i64 a, .int .i64 b]⟩, .int .i64 c] (pairV (knumV a b c).1 (knumV a b c).2) (knumC k a b c) := by
  refine evm_mods Es_ok kFk0_ok (t := cond (k == 0) (some (.v (.agg ⟨[.int .i64 a, .int .i64 b]⟩), ⟨[.v (.int .i64 c)], 59⟩)) (some (.v (.agg ⟨[.int .i64 a, .int .i64 b]⟩), ⟨[.v (.int .i64 k)], 59⟩))) (by kernel_rfl) ?_
  unfold knumC keepE
  by_cases h : k = 0
  · simp [h]; rfl
  · have e : (k == 0) = false := beq_eq_false_iff_ne.2 h
    rw [e]
    simp [h]; rfl
def arcW (a b _e : Int) : Int × Int := (a, b)
def arcC (k _a _b e : Int) : Int := keepE k e
noncomputable def kFk1 : Book := (63, cPI 59 (fun a b c => pairV (knumV a b c).1 (knumV a b c).2) knumC) :: kFk0
theorem kFk1_ok : BookOk Tryz.prog kFk1 := (bookOk_cons (cPI_ok knumV_mods) kFk0_ok)
theorem arcW_mods (k a b c : Int) : Mods Tryz.prog 31 59 k [.agg ⟨[.int .i64 a, .int .i64 b]⟩, .int .i64 c] (pairV (arcW a b c).1 (arcW a b c).2) (arcC k a b c) := by
  refine evm_mods Es_ok kFk1_ok (t := cond (k == 0) (some (.v (.agg ⟨[.int .i64 a, .int .i64 b]⟩), ⟨[.v (.int .i64 c)], 59⟩)) (some (.v (.agg ⟨[.int .i64 a, .int .i64 b]⟩), ⟨[.v (.int .i64 k)], 59⟩))) (by kernel_rfl) ?_
  unfold arcC keepE
  by_cases h : k = 0
  · simp [h]; rfl
  · have e : (k == 0) = false := beq_eq_false_iff_ne.2 h
    rw [e]
    simp [h]; rfl
noncomputable def ksinV (a b : Int) : Int × Int := ((sinR a b).1, (sinR a b).2.1)
noncomputable def ksinC (k a b : Int) : Int := keepE k (sinR a b).2.2
noncomputable def kFk2 : Book := (31, cPI 59 (fun a b c => pairV (arcW a b c).1 (arcW a b c).2) arcC) :: kFk1
theorem kFk2_ok : BookOk Tryz.prog kFk2 := (bookOk_cons (cPI_ok arcW_mods) kFk1_ok)
theorem ksinV_mods (k a b : Int) : Mods Tryz.prog 26 59 k [.agg ⟨[.int .i64 a, .int .i64 b]⟩] (pairV (ksinV a b).1 (ksinV a b).2) (ksinC k a b) := by
  refine evm_mods Es_ok kFk2_ok (t := lt (sinR a b) fun x1 => lt (knumV x1.1 x1.2.1 x1.2.2) fun x3 => lt (knumC k x1.1 x1.2.1 x1.2.2) fun x2 => some (.v (.agg ⟨[.int .i64 x3.1, .int .i64 x3.2]⟩), ⟨[.v (.int .i64 x2)], 59⟩)) (by kernel_rfl) ?_
  rfl
noncomputable def kcosV (a b : Int) : Int × Int := ((cosR a b).1, (cosR a b).2.1)
noncomputable def kcosC (k a b : Int) : Int := keepE k (cosR a b).2.2
noncomputable def kFk3 : Book := (26, cP 59 (fun a b => pairV (ksinV a b).1 (ksinV a b).2) ksinC) :: kFk2
theorem kFk3_ok : BookOk Tryz.prog kFk3 := (bookOk_cons (cP_ok ksinV_mods) kFk2_ok)
theorem kcosV_mods (k a b : Int) : Mods Tryz.prog 27 59 k [.agg ⟨[.int .i64 a, .int .i64 b]⟩] (pairV (kcosV a b).1 (kcosV a b).2) (kcosC k a b) := by
  refine evm_mods Es_ok kFk3_ok (t := lt (cosR a b) fun x1 => lt (knumV x1.1 x1.2.1 x1.2.2) fun x3 => lt (knumC k x1.1 x1.2.1 x1.2.2) fun x2 => some (.v (.agg ⟨[.int .i64 x3.1, .int .i64 x3.2]⟩), ⟨[.v (.int .i64 x2)], 59⟩)) (by kernel_rfl) ?_
  rfl
noncomputable def kmulV (a b c d : Int) : Int × Int := ((mulR a b c d).1, (mulR a b c d).2.1)
noncomputable def kmulC (k a b c d : Int) : Int := keepE k (mulR a b c d).2.2
noncomputable def kFk4 : Book := (27, cP 59 (fun a b => pairV (kcosV a b).1 (kcosV a b).2) kcosC) :: kFk3
theorem kFk4_ok : BookOk Tryz.prog kFk4 := (bookOk_cons (cP_ok kcosV_mods) kFk3_ok)
theorem kmulV_mods (k a b c d : Int) : Mods Tryz.prog 30 59 k [.agg ⟨[.int .i64 a, .int .i64 b]⟩, .agg ⟨[.int .i64 c, .int .i64 d]⟩] (pairV (kmulV a b c d).1 (kmulV a b c d).2) (kmulC k a b c d) := by
  refine evm_mods Es_ok kFk4_ok (t := lt (mulR a b c d) fun x1 => lt (knumV x1.1 x1.2.1 x1.2.2) fun x3 => lt (knumC k x1.1 x1.2.1 x1.2.2) fun x2 => some (.v (.agg ⟨[.int .i64 x3.1, .int .i64 x3.2]⟩), ⟨[.v (.int .i64 x2)], 59⟩)) (by kernel_rfl) ?_
  rfl
noncomputable def kplusV (a b c d : Int) : Int × Int := ((addR a b c d).1, (addR a b c d).2.1)
noncomputable def kplusC (k a b c d : Int) : Int := keepE k (addR a b c d).2.2
noncomputable def kFk5 : Book := (30, cPP 59 (fun a b c d => pairV (kmulV a b c d).1 (kmulV a b c d).2) kmulC) :: kFk4
theorem kFk5_ok : BookOk Tryz.prog kFk5 := (bookOk_cons (cPP_ok kmulV_mods) kFk4_ok)
theorem kplusV_mods (k a b c d : Int) : Mods Tryz.prog 29 59 k [.agg ⟨[.int .i64 a, .int .i64 b]⟩, .agg ⟨[.int .i64 c, .int .i64 d]⟩] (pairV (kplusV a b c d).1 (kplusV a b c d).2) (kplusC k a b c d) := by
  refine evm_mods Es_ok kFk5_ok (t := lt (addR a b c d) fun x1 => lt (knumV x1.1 x1.2.1 x1.2.2) fun x3 => lt (knumC k x1.1 x1.2.1 x1.2.2) fun x2 => some (.v (.agg ⟨[.int .i64 x3.1, .int .i64 x3.2]⟩), ⟨[.v (.int .i64 x2)], 59⟩)) (by kernel_rfl) ?_
  rfl
noncomputable def kminusV (a b c d : Int) : Int × Int := ((subR a b c d).1, (subR a b c d).2.1)
noncomputable def kminusC (k a b c d : Int) : Int := keepE k (subR a b c d).2.2
noncomputable def kFk6 : Book := (29, cPP 59 (fun a b c d => pairV (kplusV a b c d).1 (kplusV a b c d).2) kplusC) :: kFk5
theorem kFk6_ok : BookOk Tryz.prog kFk6 := (bookOk_cons (cPP_ok kplusV_mods) kFk5_ok)
theorem kminusV_mods (k a b c d : Int) : Mods Tryz.prog 33 59 k [.agg ⟨[.int .i64 a, .int .i64 b]⟩, .agg ⟨[.int .i64 c, .int .i64 d]⟩] (pairV (kminusV a b c d).1 (kminusV a b c d).2) (kminusC k a b c d) := by
  refine evm_mods Es_ok kFk6_ok (t := lt (subR a b c d) fun x1 => lt (knumV x1.1 x1.2.1 x1.2.2) fun x3 => lt (knumC k x1.1 x1.2.1 x1.2.2) fun x2 => some (.v (.agg ⟨[.int .i64 x3.1, .int .i64 x3.2]⟩), ⟨[.v (.int .i64 x2)], 59⟩)) (by kernel_rfl) ?_
  rfl
noncomputable def ksumV (a b c d : Int) : Int × Int := ((aaddR a b c d).1, (aaddR a b c d).2.1)
noncomputable def ksumC (k a b c d : Int) : Int := keepE k (aaddR a b c d).2.2
noncomputable def kFk7 : Book := (33, cPP 59 (fun a b c d => pairV (kminusV a b c d).1 (kminusV a b c d).2) kminusC) :: kFk6
theorem kFk7_ok : BookOk Tryz.prog kFk7 := (bookOk_cons (cPP_ok kminusV_mods) kFk6_ok)
theorem ksumV_mods (k a b c d : Int) : Mods Tryz.prog 34 59 k [.agg ⟨[.int .i64 a, .int .i64 b]⟩, .agg ⟨[.int .i64 c, .int .i64 d]⟩] (pairV (ksumV a b c d).1 (ksumV a b c d).2) (ksumC k a b c d) := by
  refine evm_mods Es_ok kFk7_ok (t := lt (aaddR a b c d) fun x1 => lt (arcW x1.1 x1.2.1 x1.2.2) fun x3 => lt (arcC k x1.1 x1.2.1 x1.2.2) fun x2 => some (.v (.agg ⟨[.int .i64 x3.1, .int .i64 x3.2]⟩), ⟨[.v (.int .i64 x2)], 59⟩)) (by kernel_rfl) ?_
  rfl
noncomputable def klessV (a b c d : Int) : Int × Int := ((asubR a b c d).1, (asubR a b c d).2.1)
noncomputable def klessC (k a b c d : Int) : Int := keepE k (asubR a b c d).2.2
noncomputable def kFk8 : Book := (34, cPP 59 (fun a b c d => pairV (ksumV a b c d).1 (ksumV a b c d).2) ksumC) :: kFk7
theorem kFk8_ok : BookOk Tryz.prog kFk8 := (bookOk_cons (cPP_ok ksumV_mods) kFk7_ok)
theorem klessV_mods (k a b c d : Int) : Mods Tryz.prog 58 59 k [.agg ⟨[.int .i64 a, .int .i64 b]⟩, .agg ⟨[.int .i64 c, .int .i64 d]⟩] (pairV (klessV a b c d).1 (klessV a b c d).2) (klessC k a b c d) := by
  refine evm_mods Es_ok kFk8_ok (t := lt (asubR a b c d) fun x1 => lt (arcW x1.1 x1.2.1 x1.2.2) fun x3 => lt (arcC k x1.1 x1.2.1 x1.2.2) fun x2 => some (.v (.agg ⟨[.int .i64 x3.1, .int .i64 x3.2]⟩), ⟨[.v (.int .i64 x2)], 59⟩)) (by kernel_rfl) ?_
  rfl
def triP (r : Int × Int × Int × Int × Int × Int) : Value := .agg ⟨[.int .i64 r.1, .int .i64 r.2.1, .int .i64 r.2.2.1, .int .i64 r.2.2.2.1, .int .i64 r.2.2.2.2.1, .int .i64 r.2.2.2.2.2]⟩
def cirV (r : Int × Int × Int × Int × Int × Int × Int) : Value := .tuple ⟨[.agg ⟨[.int .i64 r.1, .int .i64 r.2.1, .int .i64 r.2.2.1, .int .i64 r.2.2.2.1, .int .i64 r.2.2.2.2.1, .int .i64 r.2.2.2.2.2.1]⟩, .int .i64 r.2.2.2.2.2.2]⟩
def twoI (r : Int × Int) : Value := .tuple ⟨[.int .i64 r.1, .int .i64 r.2]⟩
def eS (F : Int → Int → Int → Int → Value) : Ent
  | [.v (.agg ⟨[.int .i64 a, .int .i64 b, .int .i64 c, .int .i64 d]⟩)], [] => some (true, .v (F a b c d), [])
  | _, _ => none
theorem eS_ok {P : Program} {g : FuncId} {F : Int → Int → Int → Int → Value} (h : ∀ a b c d, Gives P g [.agg ⟨[.int .i64 a, .int .i64 b, .int .i64 c, .int .i64 d]⟩] (F a b c d)) (args : List AV) (L : Ev.Loc) (z : Bool) (r : AV) (L' : Ev.Loc) (q : eS F args L = some (z, r, L')) (_ : z = true) : Runs P g args L r L' := by
  unfold eS at q
  split at q
  · cases q
    exact gives_runs (h _ _ _ _)
  · cases q
def eTS (F : Int → Int → Int → Int → Int → Int → Int → Int → Int → Int → Value) : Ent
  | [.v (.agg ⟨[.int .i64 a, .int .i64 b, .int .i64 c, .int .i64 d, .int .i64 e, .int .i64 f]⟩), .v (.agg ⟨[.int .i64 u, .int .i64 v, .int .i64 w, .int .i64 x]⟩)], [] => some (true, .v (F a b c d e f u v w x), [])
  | _, _ => none
theorem eTS_ok {P : Program} {g : FuncId} {F : Int → Int → Int → Int → Int → Int → Int → Int → Int → Int → Value} (h : ∀ a b c d e f u v w x, Gives P g [.agg ⟨[.int .i64 a, .int .i64 b, .int .i64 c, .int .i64 d, .int .i64 e, .int .i64 f]⟩, .agg ⟨[.int .i64 u, .int .i64 v, .int .i64 w, .int .i64 x]⟩] (F a b c d e f u v w x)) (args : List AV) (L : Ev.Loc) (z : Bool) (r : AV) (L' : Ev.Loc) (q : eTS F args L = some (z, r, L')) (_ : z = true) : Runs P g args L r L' := by
  unfold eTS at q
  split at q
  · cases q
    exact gives_runs (h _ _ _ _ _ _ _ _ _ _)
  · cases q
noncomputable def signM (a : Int) : Int := cond (decide ((wrapN a) ≥ 10800000)) (IntKind.i64.wrap ((wrapN a) - 21600000)) ((wrapN a))
noncomputable def kFk9 : Book := (58, cPP 59 (fun a b c d => pairV (klessV a b c d).1 (klessV a b c d).2) klessC) :: kFk8
theorem kFk9_ok : BookOk Tryz.prog kFk9 := (bookOk_cons (cPP_ok klessV_mods) kFk8_ok)
theorem signM_gives (a : Int) : Gives Tryz.prog 73 [.int .i64 a] (.int .i64 (signM a)) := by
  refine ev6_gives Es_ok kFk9_ok (t := cond (decide ((wrapN a) ≥ 10800000)) (some (.v (.int .i64 (IntKind.i64.wrap ((wrapN a) - 21600000))))) (some (.v (.int .i64 (wrapN a))))) (by kernel_rfl) ?_
  unfold signM
  repeat' first | (with_reducible refine case_cond (fun r : Int => AV.v (.int .i64 (r))) ?_ ?_) | (with_reducible refine case_lt (fun r : Int => AV.v (.int .i64 (r))) fun _ => ?_) | rfl
noncomputable def evwM  : Int × Int := ((-10800000), 10800000)
noncomputable def kFk10 : Book := (73, eI (fun a => .int .i64 (signM a))) :: kFk9
theorem kFk10_ok : BookOk Tryz.prog kFk10 := (bookOk_cons (eI_ok signM_gives) kFk9_ok)
theorem evwM_gives  : Gives Tryz.prog 81 [] (pairV (evwM).1 (evwM).2) := ev6_gives Es_ok kFk10_ok (by kernel_rfl) rfl
noncomputable def pallM (a b : Int) : Bool := lt (evwM) fun x1 => ((a == x1.1) && ((b == x1.2) && true))
noncomputable def kFk11 : Book := (81, e0 (pairV (evwM).1 (evwM).2)) :: kFk10
theorem kFk11_ok : BookOk Tryz.prog kFk11 := (bookOk_cons (e0_ok evwM_gives) kFk10_ok)
theorem pallM_gives (a b : Int) : Gives Tryz.prog 74 [.agg ⟨[.int .i64 a, .int .i64 b]⟩] (.bool (pallM a b)) := ev6_gives Es_ok kFk11_ok (by kernel_rfl) rfl
noncomputable def vlatM (a b : Int) : Bool := cond (decide (a ≤ b)) (cond (decide (a ≥ (-5400000))) ((decide (b ≤ 5400000))) (false)) (false)
noncomputable def kFk12 : Book := (74, eP (fun a b => .bool (pallM a b))) :: kFk11
theorem kFk12_ok : BookOk Tryz.prog kFk12 := (bookOk_cons (eP_ok pallM_gives) kFk11_ok)
theorem vlatM_gives (a b : Int) : Gives Tryz.prog 36 [.agg ⟨[.int .i64 a, .int .i64 b]⟩] (.bool (vlatM a b)) := by
  refine ev6_gives Es_ok kFk12_ok (t := cond (decide (a ≤ b)) (cond (decide (a ≥ (-5400000))) (some (.v (.bool (decide (b ≤ 5400000))))) (some (.v (.bool false)))) (some (.v (.bool false)))) (by kernel_rfl) ?_
  unfold vlatM
  repeat' first | (with_reducible refine case_cond (fun r : Bool => AV.v (.bool (r))) ?_ ?_) | (with_reducible refine case_lt (fun r : Bool => AV.v (.bool (r))) fun _ => ?_) | rfl
noncomputable def vlonM (a b : Int) : Bool := cond (pallM a b) (true) (cond (decide (a ≥ (-10800000))) (cond (decide (a < 10800000)) (cond (decide (a ≤ b)) ((decide (IntKind.i64.wrap (b - a) < 21600000))) (false)) (false)) (false))
noncomputable def kFk13 : Book := (36, eP (fun a b => .bool (vlatM a b))) :: kFk12
theorem kFk13_ok : BookOk Tryz.prog kFk13 := (bookOk_cons (eP_ok vlatM_gives) kFk12_ok)
theorem vlonM_gives (a b : Int) : Gives Tryz.prog 37 [.agg ⟨[.int .i64 a, .int .i64 b]⟩] (.bool (vlonM a b)) := by
  refine ev6_gives Es_ok kFk13_ok (t := cond (pallM a b) (some (.v (.bool true))) (cond (decide (a ≥ (-10800000))) (cond (decide (a < 10800000)) (cond (decide (a ≤ b)) (some (.v (.bool (decide (IntKind.i64.wrap (b - a) < 21600000))))) (some (.v (.bool false)))) (some (.v (.bool false)))) (some (.v (.bool false))))) (by kernel_rfl) ?_
  unfold vlonM
  repeat' first | (with_reducible refine case_cond (fun r : Bool => AV.v (.bool (r))) ?_ ?_) | (with_reducible refine case_lt (fun r : Bool => AV.v (.bool (r))) fun _ => ?_) | rfl
noncomputable def pvalM (a b c d : Int) : Bool := cond (vlatM a b) ((vlonM c d)) (false)
noncomputable def kFk14 : Book := (37, eP (fun a b => .bool (vlonM a b))) :: kFk13
theorem kFk14_ok : BookOk Tryz.prog kFk14 := (bookOk_cons (eP_ok vlonM_gives) kFk13_ok)
theorem pvalM_gives (a b c d : Int) : Gives Tryz.prog 9 [.agg ⟨[.int .i64 a, .int .i64 b, .int .i64 c, .int .i64 d]⟩] (.bool (pvalM a b c d)) := by
  refine ev6_gives Es_ok kFk14_ok (t := cond (vlatM a b) (some (.v (.bool (vlonM c d)))) (some (.v (.bool false)))) (by kernel_rfl) ?_
  unfold pvalM
  repeat' first | (with_reducible refine case_cond (fun r : Bool => AV.v (.bool (r))) ?_ ?_) | (with_reducible refine case_lt (fun r : Bool => AV.v (.bool (r))) fun _ => ?_) | rfl
noncomputable def vpntM (a b : Int) : Bool := cond (decide (a ≥ (-5400000))) (cond (decide (a ≤ 5400000)) (cond (decide (b ≥ (-10800000))) ((decide (b < 10800000))) (false)) (false)) (false)
noncomputable def kFk15 : Book := (9, eS (fun a b c d => .bool (pvalM a b c d))) :: kFk14
theorem kFk15_ok : BookOk Tryz.prog kFk15 := (bookOk_cons (eS_ok pvalM_gives) kFk14_ok)
theorem vpntM_gives (a b : Int) : Gives Tryz.prog 49 [.agg ⟨[.int .i64 a, .int .i64 b]⟩] (.bool (vpntM a b)) := by
  refine ev6_gives Es_ok kFk15_ok (t := cond (decide (a ≥ (-5400000))) (cond (decide (a ≤ 5400000)) (cond (decide (b ≥ (-10800000))) (some (.v (.bool (decide (b < 10800000))))) (some (.v (.bool false)))) (some (.v (.bool false)))) (some (.v (.bool false)))) (by kernel_rfl) ?_
  unfold vpntM
  repeat' first | (with_reducible refine case_cond (fun r : Bool => AV.v (.bool (r))) ?_ ?_) | (with_reducible refine case_lt (fun r : Bool => AV.v (.bool (r))) fun _ => ?_) | rfl
noncomputable def pofMK {α : Type} (K : Int → Int → Int → Int → Int → α) (a b : Int) : α := cond (!(vpntM a b)) (K 0 0 0 0 1) (K a a b b 0)
noncomputable def pofM (a b : Int) : Int × Int × Int × Int × Int := pofMK (fun p0 p1 p2 p3 p4 => (p0, p1, p2, p3, p4)) a b
noncomputable def kFk16 : Book := (49, eP (fun a b => .bool (vpntM a b))) :: kFk15
theorem kFk16_ok : BookOk Tryz.prog kFk16 := (bookOk_cons (eP_ok vpntM_gives) kFk15_ok)
theorem pofM_gives (a b : Int) : Gives Tryz.prog 57 [.agg ⟨[.int .i64 a, .int .i64 b]⟩] (solV (pofM a b)) := by
  refine ev6_gives Es_ok kFk16_ok (t := pofMK (fun p0 p1 p2 p3 p4 => some (.v (solV ((p0, p1, p2, p3, p4))))) a b) (by kernel_rfl) ?_
  unfold pofM pofMK
  repeat' first | (with_reducible refine case_cond (fun r : Int × Int × Int × Int × Int => AV.v (solV (r))) ?_ ?_) | (with_reducible refine case_lt (fun r : Int × Int × Int × Int × Int => AV.v (solV (r))) fun _ => ?_) | rfl
noncomputable def beyM (a _b c : Int) : Int := (wrapN (IntKind.i64.wrap (c - a)))
noncomputable def kFk17 : Book := (57, eP (fun a b => solV (pofM a b))) :: kFk16
theorem kFk17_ok : BookOk Tryz.prog kFk17 := (bookOk_cons (eP_ok pofM_gives) kFk16_ok)
theorem beyM_gives (a b c : Int) : Gives Tryz.prog 80 [.agg ⟨[.int .i64 a, .int .i64 b]⟩, .int .i64 c] (.int .i64 (beyM a b c)) := ev6_gives Es_ok kFk17_ok (by kernel_rfl) rfl
noncomputable def phasM (a b c : Int) : Bool := cond (pallM a b) (true) ((decide ((beyM a b c) ≤ IntKind.i64.wrap (b - a))))
noncomputable def kFk18 : Book := (80, ePI (fun a b c => .int .i64 (beyM a b c))) :: kFk17
theorem kFk18_ok : BookOk Tryz.prog kFk18 := (bookOk_cons (ePI_ok beyM_gives) kFk17_ok)
theorem phasM_gives (a b c : Int) : Gives Tryz.prog 82 [.agg ⟨[.int .i64 a, .int .i64 b]⟩, .int .i64 c] (.bool (phasM a b c)) := by
  refine ev6_gives Es_ok kFk18_ok (t := cond (pallM a b) (some (.v (.bool true))) (some (.v (.bool (decide ((beyM a b c) ≤ IntKind.i64.wrap (b - a))))))) (by kernel_rfl) ?_
  unfold phasM
  repeat' first | (with_reducible refine case_cond (fun r : Bool => AV.v (.bool (r))) ?_ ?_) | (with_reducible refine case_lt (fun r : Bool => AV.v (.bool (r))) fun _ => ?_) | rfl
noncomputable def kFk19 : Book := (82, ePI (fun a b c => .bool (phasM a b c))) :: kFk18
theorem kFk19_ok : BookOk Tryz.prog kFk19 := (bookOk_cons (ePI_ok phasM_gives) kFk18_ok)
noncomputable def clonMK {α : Type} (K : Int → Int → α) (a b : Int) : α := cond (decide (IntKind.i64.wrap (b - a) ≥ 21600000)) (K (-10800000) 10800000) (K (signM a) (IntKind.i64.wrap ((IntKind.i64.wrap ((signM a) + b)) - a)))
noncomputable def clonM (a b : Int) : Int × Int := clonMK (fun p0 p1 => (p0, p1)) a b
theorem clonM_gives (a b : Int) : Gives Tryz.prog 35 [.agg ⟨[.int .i64 a, .int .i64 b]⟩] (pairV (clonM a b).1 (clonM a b).2) := by
  refine ev6_gives Es_ok kFk19_ok (t := clonMK (fun p0 p1 => some (.v (pairV ((p0, p1)).1 ((p0, p1)).2))) a b) (by kernel_rfl) ?_
  unfold clonM clonMK
  repeat' first | (with_reducible refine case_cond (fun r : Int × Int => AV.v (pairV (r).1 (r).2)) ?_ ?_) | (with_reducible refine case_lt (fun r : Int × Int => AV.v (pairV (r).1 (r).2)) fun _ => ?_) | rfl
noncomputable def crgtM  : Int × Int := (5400000, 5400000)
noncomputable def kFk20 : Book := (35, eP (fun a b => pairV (clonM a b).1 (clonM a b).2)) :: kFk19
theorem kFk20_ok : BookOk Tryz.prog kFk20 := (bookOk_cons (eP_ok clonM_gives) kFk19_ok)
theorem crgtM_gives  : Gives Tryz.prog 59 [] (pairV (crgtM).1 (crgtM).2) := ev6_gives Es_ok kFk20_ok (by kernel_rfl) rfl
noncomputable def cvalM (a b c d e f : Int) : Bool := cond (pvalM a b c d) (cond (avalidB e f) (cond (decide (e ≥ 0)) ((decide (f ≤ 10800000))) (false)) (false)) (false)
noncomputable def kFk21 : Book := (59, e0 (pairV (crgtM).1 (crgtM).2)) :: kFk20
theorem kFk21_ok : BookOk Tryz.prog kFk21 := (bookOk_cons (e0_ok crgtM_gives) kFk20_ok)
theorem cvalM_gives (a b c d e f : Int) : Gives Tryz.prog 24 [.agg ⟨[.int .i64 a, .int .i64 b, .int .i64 c, .int .i64 d, .int .i64 e, .int .i64 f]⟩] (.bool (cvalM a b c d e f)) := by
  refine ev6_gives Es_ok kFk21_ok (t := cond (pvalM a b c d) (cond (avalidB e f) (cond (decide (e ≥ 0)) (some (.v (.bool (decide (f ≤ 10800000))))) (some (.v (.bool false)))) (some (.v (.bool false)))) (some (.v (.bool false)))) (by kernel_rfl) ?_
  unfold cvalM
  repeat' first | (with_reducible refine case_cond (fun r : Bool => AV.v (.bool (r))) ?_ ?_) | (with_reducible refine case_lt (fun r : Bool => AV.v (.bool (r))) fun _ => ?_) | rfl
noncomputable def ctriM (a b c d _e _f u v w x : Int) : Int × Int × Int × Int × Int × Int := (u, v, a, b, IntKind.i64.wrap (w - d), IntKind.i64.wrap (x - c))
noncomputable def kFk22 : Book := (24, eT (fun a b c d e f => .bool (cvalM a b c d e f))) :: kFk21
theorem kFk22_ok : BookOk Tryz.prog kFk22 := (bookOk_cons (eT_ok cvalM_gives) kFk21_ok)
theorem ctriM_gives (a b c d e f u v w x : Int) : Gives Tryz.prog 38 [.agg ⟨[.int .i64 a, .int .i64 b, .int .i64 c, .int .i64 d, .int .i64 e, .int .i64 f]⟩, .agg ⟨[.int .i64 u, .int .i64 v, .int .i64 w, .int .i64 x]⟩] (triP (ctriM a b c d e f u v w x)) := ev6_gives Es_ok kFk22_ok (by kernel_rfl) rfl
noncomputable def csidMK {α : Type} (K : Int → Int → α) (a b c d e f u v w x : Int) : α := cond (!(cvalM a b c d e f)) (K 0 1) (cond (!(pvalM u v w x)) (K 0 1) (lt (ctriM a b c d e f u v w x) fun x1 => lt (ksinV x1.1 x1.2.1) fun x3 => lt (ksinC 0 x1.1 x1.2.1) fun x2 => lt (ksinV x1.2.2.1 x1.2.2.2.1) fun x5 => lt (ksinC x2 x1.2.2.1 x1.2.2.2.1) fun x4 => lt (kmulV x3.1 x3.2 x5.1 x5.2) fun x7 => lt (kmulC x4 x3.1 x3.2 x5.1 x5.2) fun x6 => lt (kcosV x1.1 x1.2.1) fun x9 => lt (kcosC x6 x1.1 x1.2.1) fun x8 => lt (kcosV x1.2.2.1 x1.2.2.2.1) fun x11 => lt (kcosC x8 x1.2.2.1 x1.2.2.2.1) fun x10 => lt (kmulV x9.1 x9.2 x11.1 x11.2) fun x13 => lt (kmulC x10 x9.1 x9.2 x11.1 x11.2) fun x12 => lt (kcosV x1.2.2.2.2.1 x1.2.2.2.2.2) fun x15 => lt (kcosC x12 x1.2.2.2.2.1 x1.2.2.2.2.2) fun x14 => lt (kmulV x13.1 x13.2 x15.1 x15.2) fun x17 => lt (kmulC x14 x13.1 x13.2 x15.1 x15.2) fun x16 => lt (kplusV x7.1 x7.2 x17.1 x17.2) fun x19 => lt (kplusC x16 x7.1 x7.2 x17.1 x17.2) fun x18 => lt (kcosV e f) fun x21 => lt (kcosC x18 e f) fun x20 => cond (x20 != 0) (K 0 x20) (cond (decide (x19.1 > x21.2)) (K 1 0) (cond (decide (x19.2 < x21.1)) (K (-1) 0) (K 0 0)))))
noncomputable def csidM (a b c d e f u v w x : Int) : Int × Int := csidMK (fun p0 p1 => (p0, p1)) a b c d e f u v w x
noncomputable def kFk23 : Book := (38, eTS (fun a b c d e f u v w x => triP (ctriM a b c d e f u v w x))) :: kFk22
theorem kFk23_ok : BookOk Tryz.prog kFk23 := (bookOk_cons (eTS_ok ctriM_gives) kFk22_ok)
theorem csidM_gives (a b c d e f u v w x : Int) : Gives Tryz.prog 10 [.agg ⟨[.int .i64 a, .int .i64 b, .int .i64 c, .int .i64 d, .int .i64 e, .int .i64 f]⟩, .agg ⟨[.int .i64 u, .int .i64 v, .int .i64 w, .int .i64 x]⟩] (twoI (csidM a b c d e f u v w x)) := by
  refine ev6_gives Es_ok kFk23_ok (t := csidMK (fun p0 p1 => some (.v (twoI ((p0, p1))))) a b c d e f u v w x) (by kernel_rfl) ?_
  unfold csidM csidMK
  repeat' first | (with_reducible refine case_cond (fun r : Int × Int => AV.v (twoI (r))) ?_ ?_) | (with_reducible refine case_lt (fun r : Int × Int => AV.v (twoI (r))) fun _ => ?_) | rfl
noncomputable def catMK {α : Type} (K : Int → Int → Int → Int → Int → α) (a b c d e f u v : Int) : α := cond (!(cvalM a b c d e f)) (K 0 0 0 0 1) (cond (!(avalidB u v)) (K 0 0 0 0 1) (lt (ksinV a b) fun x2 => lt (ksinC 0 a b) fun x1 => lt (kcosV a b) fun x4 => lt (kcosC x1 a b) fun x3 => lt (ksinV e f) fun x6 => lt (ksinC x3 e f) fun x5 => lt (kcosV e f) fun x8 => lt (kcosC x5 e f) fun x7 => lt (ksinV u v) fun x10 => lt (ksinC x7 u v) fun x9 => lt (kcosV u v) fun x12 => lt (kcosC x9 u v) fun x11 => lt (kmulV x2.1 x2.2 x8.1 x8.2) fun x14 => lt (kmulC x11 x2.1 x2.2 x8.1 x8.2) fun x13 => lt (kmulV x4.1 x4.2 x6.1 x6.2) fun x16 => lt (kmulC x13 x4.1 x4.2 x6.1 x6.2) fun x15 => lt (kmulV x16.1 x16.2 x12.1 x12.2) fun x18 => lt (kmulC x15 x16.1 x16.2 x12.1 x12.2) fun x17 => lt (kplusV x14.1 x14.2 x18.1 x18.2) fun x20 => lt (kplusC x17 x14.1 x14.2 x18.1 x18.2) fun x19 => lt (asinR x20.1 x20.2) fun x21 => lt (arcW x21.1 x21.2.1 x21.2.2) fun x23 => lt (arcC x19 x21.1 x21.2.1 x21.2.2) fun x22 => lt (kmulV x6.1 x6.2 x10.1 x10.2) fun x25 => lt (kmulC x22 x6.1 x6.2 x10.1 x10.2) fun x24 => lt (kmulV x8.1 x8.2 x4.1 x4.2) fun x27 => lt (kmulC x24 x8.1 x8.2 x4.1 x4.2) fun x26 => lt (kmulV x6.1 x6.2 x2.1 x2.2) fun x29 => lt (kmulC x26 x6.1 x6.2 x2.1 x2.2) fun x28 => lt (kmulV x29.1 x29.2 x12.1 x12.2) fun x31 => lt (kmulC x28 x29.1 x29.2 x12.1 x12.2) fun x30 => lt (kminusV x27.1 x27.2 x31.1 x31.2) fun x33 => lt (kminusC x30 x27.1 x27.2 x31.1 x31.2) fun x32 => lt (bearR x25.1 x25.2 x33.1 x33.2) fun x34 => lt (arcW x34.1 x34.2.1 x34.2.2) fun x36 => lt (arcC x32 x34.1 x34.2.1 x34.2.2) fun x35 => lt (ksumV c d x36.1 x36.2) fun x38 => lt (ksumC x35 c d x36.1 x36.2) fun x37 => cond (x37 != 0) (K 0 0 0 0 x37) (lt (clonM x38.1 x38.2) fun x39 => K x23.1 x23.2 x39.1 x39.2 0)))
noncomputable def catM (a b c d e f u v : Int) : Int × Int × Int × Int × Int := catMK (fun p0 p1 p2 p3 p4 => (p0, p1, p2, p3, p4)) a b c d e f u v
theorem catM_gives (a b c d e f u v : Int) : Gives Tryz.prog 8 [.agg ⟨[.int .i64 a, .int .i64 b, .int .i64 c, .int .i64 d, .int .i64 e, .int .i64 f]⟩, .agg ⟨[.int .i64 u, .int .i64 v]⟩] (solV (catM a b c d e f u v)) := by
  refine ev6_gives Es_ok kFk23_ok (t := catMK (fun p0 p1 p2 p3 p4 => some (.v (solV ((p0, p1, p2, p3, p4))))) a b c d e f u v) (by kernel_rfl) ?_
  unfold catM catMK
  repeat' first | (with_reducible refine case_cond (fun r : Int × Int × Int × Int × Int => AV.v (solV (r))) ?_ ?_) | (with_reducible refine case_lt (fun r : Int × Int × Int × Int × Int => AV.v (solV (r))) fun _ => ?_) | rfl
noncomputable def cextMK {α : Type} (K : Int → Int → Int → Int → Int → α) (a b c d e f : Int) : α := cond (!(cvalM a b c d e f)) (K 0 0 0 0 1) (cond (decide (IntKind.i64.wrap (a - f) ≤ (-5400000))) (K (mx (-5400000) (IntKind.i64.wrap (a - f))) (mn 5400000 (IntKind.i64.wrap (b + f))) (-10800000) 10800000 0) (cond (decide (IntKind.i64.wrap (b + f) ≥ 5400000)) (K (mx (-5400000) (IntKind.i64.wrap (a - f))) (mn 5400000 (IntKind.i64.wrap (b + f))) (-10800000) 10800000 0) (lt (ksinV f f) fun x2 => lt (ksinC 0 f f) fun x1 => lt (kcosV a b) fun x4 => lt (kcosC x1 a b) fun x3 => lt (divR x2.1 x2.2 x4.1 x4.2) fun x5 => cond (x3 != 0) (K (mx (-5400000) (IntKind.i64.wrap (a - f))) (mn 5400000 (IntKind.i64.wrap (b + f))) (-10800000) 10800000 0) (cond (x5.2.2 != 0) (K (mx (-5400000) (IntKind.i64.wrap (a - f))) (mn 5400000 (IntKind.i64.wrap (b + f))) (-10800000) 10800000 0) (lt (asinR x5.1 x5.2.1) fun x6 => cond (x6.2.2 == 0) (lt (clonM (IntKind.i64.wrap (c - x6.2.1)) (IntKind.i64.wrap (d + x6.2.1))) fun x7 => K (mx (-5400000) (IntKind.i64.wrap (a - f))) (mn 5400000 (IntKind.i64.wrap (b + f))) x7.1 x7.2 0) (K (mx (-5400000) (IntKind.i64.wrap (a - f))) (mn 5400000 (IntKind.i64.wrap (b + f))) (-10800000) 10800000 0))))))
noncomputable def cextM (a b c d e f : Int) : Int × Int × Int × Int × Int := cextMK (fun p0 p1 p2 p3 p4 => (p0, p1, p2, p3, p4)) a b c d e f
theorem cextM_gives (a b c d e f : Int) : Gives Tryz.prog 11 [.agg ⟨[.int .i64 a, .int .i64 b, .int .i64 c, .int .i64 d, .int .i64 e, .int .i64 f]⟩] (solV (cextM a b c d e f)) := by
  refine ev6_gives Es_ok kFk23_ok (t := cextMK (fun p0 p1 p2 p3 p4 => some (.v (solV ((p0, p1, p2, p3, p4))))) a b c d e f) (by kernel_rfl) ?_
  unfold cextM cextMK
  repeat' first | (with_reducible refine case_cond (fun r : Int × Int × Int × Int × Int => AV.v (solV (r))) ?_ ?_) | (with_reducible refine case_lt (fun r : Int × Int × Int × Int × Int => AV.v (solV (r))) fun _ => ?_) | rfl
noncomputable def ctanMK {α : Type} (K : Int → Int → Int → Int → Int → Int → Int → α) (a b c d e f u v : Int) : α := lt (pofM u v) fun x1 => cond (x1.2.2.2.2 != 0) (K 0 0 0 0 0 0 1) (cond (!(cvalM a b c d e f)) (K 0 0 0 0 0 0 1) (lt (ctriM a b c d e f x1.1 x1.2.1 x1.2.2.1 x1.2.2.2.1) fun x2 => lt (csolM x2.1 x2.2.1 x2.2.2.1 x2.2.2.2.1 x2.2.2.2.2.1 x2.2.2.2.2.2) fun x3 => cond (x3.2.2.2.2 != 0) (K 0 0 0 0 0 0 x3.2.2.2.2) (lt (crgtM) fun x4 => lt (klessV x4.1 x4.2 x3.1 x3.2.1) fun x6 => lt (klessC 0 x4.1 x4.2 x3.1 x3.2.1) fun x5 => lt (klessV x6.1 x6.2 e f) fun x8 => lt (klessC x5 x6.1 x6.2 e f) fun x7 => cond (x7 != 0) (K 0 0 0 0 0 0 x7) (K u v x3.2.2.1 x3.2.2.2.1 x8.1 x8.2 0))))
noncomputable def ctanM (a b c d e f u v : Int) : Int × Int × Int × Int × Int × Int × Int := ctanMK (fun p0 p1 p2 p3 p4 p5 p6 => (p0, p1, p2, p3, p4, p5, p6)) a b c d e f u v
theorem ctanM_gives (a b c d e f u v : Int) : Gives Tryz.prog 20 [.agg ⟨[.int .i64 a, .int .i64 b, .int .i64 c, .int .i64 d, .int .i64 e, .int .i64 f]⟩, .agg ⟨[.int .i64 u, .int .i64 v]⟩] (cirV (ctanM a b c d e f u v)) := by
  refine ev6_gives Es_ok kFk23_ok (t := ctanMK (fun p0 p1 p2 p3 p4 p5 p6 => some (.v (cirV ((p0, p1, p2, p3, p4, p5, p6))))) a b c d e f u v) (by kernel_rfl) ?_
  unfold ctanM ctanMK
  repeat' first | (with_reducible refine case_cond (fun r : Int × Int × Int × Int × Int × Int × Int => AV.v (cirV (r))) ?_ ?_) | (with_reducible refine case_lt (fun r : Int × Int × Int × Int × Int × Int × Int => AV.v (cirV (r))) fun _ => ?_) | rfl
end Go.Proofs.YtfilgpifiboccaaGreat

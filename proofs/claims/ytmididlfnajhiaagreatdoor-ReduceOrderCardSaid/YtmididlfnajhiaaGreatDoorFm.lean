/-
  Rotated vectors: what each function gives.
-/
import Derived.Test.YtmididlfnajhiaaGreatDoorFc
import Derived.Test.YtmididlfnajhiaaGreatDoorRt
namespace Go.Proofs.YtmididlfnajhiaaGreatDoor
open Ev

def xkeepV (a b _e : Int) : Int × Int := (a, b)
def xkeepC (k _a _b e : Int) : Int := keepE k e
noncomputable def book_xkeepV_mods : Book := []
theorem book_xkeepV_mods_ok : BookOk Tryz.prog book_xkeepV_mods := bookOk_nil
theorem xkeepV_mods_tree (k a b c : Int) : evF Tryz.prog [] Cs book_xkeepV_mods 20 6 150 (.p [] 0 :: [.agg ⟨[.int .i64 a, .int .i64 b]⟩, .int .i64 c].map AV.v) [([], ⟨[.v (.int .i64 k)], 103⟩)] [] lastC =
  cond (k == 0)
  (some (.v (.agg ⟨[.int .i64 a, .int .i64 b]⟩), ⟨[.v (.int .i64 c)], 103⟩))
  (some (.v (.agg ⟨[.int .i64 a, .int .i64 b]⟩), ⟨[.v (.int .i64 k)], 103⟩)) := by kernel_rfl
theorem xkeepV_mods (k a b c : Int) : Mods Tryz.prog 150 103 k [.agg ⟨[.int .i64 a, .int .i64 b]⟩, .int .i64 c] (pairV (xkeepV a b c).1 (xkeepV a b c).2) (xkeepC k a b c) := by
  refine evF_mods (E := []) mixed (by simp) Cs_ok book_xkeepV_mods_ok (lim := 20) (d := 6) (nm := []) ?_
  rw [xkeepV_mods_tree k a b c]
  unfold xkeepC keepE
  by_cases h : k = 0
  · simp [h]; rfl
  · have e : (k == 0) = false := beq_eq_false_iff_ne.2 h
    rw [e]
    simp [h]; rfl
noncomputable def xsinV (a b : Int) : Int × Int := ((sinR a b).1, (sinR a b).2.1)
noncomputable def xsinC (k a b : Int) : Int := keepE k (sinR a b).2.2
noncomputable def book_xsinV_mods : Book := [(139, eP (fun a b => arcV (sinR a b))), (150, cPI 103 (fun a b c => pairV (xkeepV a b c).1 (xkeepV a b c).2) xkeepC)]
theorem book_xsinV_mods_ok : BookOk Tryz.prog book_xsinV_mods := (bookOk_cons (eP_ok (fun a b W _ => sin_r a b W)) (bookOk_cons (cPI_ok xkeepV_mods) bookOk_nil))
theorem xsinV_mods_tree (k a b : Int) : evF Tryz.prog [] Cs book_xsinV_mods 20 6 145 (.p [] 0 :: [.agg ⟨[.int .i64 a, .int .i64 b]⟩].map AV.v) [([], ⟨[.v (.int .i64 k)], 103⟩)] [] lastC =
  lt (sinR a b) fun x1 =>
  lt (xkeepV x1.1 x1.2.1 x1.2.2) fun x3 =>
  lt (xkeepC k x1.1 x1.2.1 x1.2.2) fun x2 =>
  some (.v (.agg ⟨[.int .i64 x3.1, .int .i64 x3.2]⟩), ⟨[.v (.int .i64 x2)], 103⟩) := by kernel_rfl
theorem xsinV_mods (k a b : Int) : Mods Tryz.prog 145 103 k [.agg ⟨[.int .i64 a, .int .i64 b]⟩] (pairV (xsinV a b).1 (xsinV a b).2) (xsinC k a b) := by
  refine evF_mods (E := []) mixed (by simp) Cs_ok book_xsinV_mods_ok (lim := 20) (d := 6) (nm := []) ?_
  rw [xsinV_mods_tree k a b]
  rfl
noncomputable def xcosV (a b : Int) : Int × Int := ((cosR a b).1, (cosR a b).2.1)
noncomputable def xcosC (k a b : Int) : Int := keepE k (cosR a b).2.2
noncomputable def book_xcosV_mods : Book := [(135, eP (fun a b => arcV (cosR a b))), (150, cPI 103 (fun a b c => pairV (xkeepV a b c).1 (xkeepV a b c).2) xkeepC)]
theorem book_xcosV_mods_ok : BookOk Tryz.prog book_xcosV_mods := (bookOk_cons (eP_ok (fun a b W _ => cos_r a b W)) (bookOk_cons (cPI_ok xkeepV_mods) bookOk_nil))
theorem xcosV_mods_tree (k a b : Int) : evF Tryz.prog [] Cs book_xcosV_mods 20 6 146 (.p [] 0 :: [.agg ⟨[.int .i64 a, .int .i64 b]⟩].map AV.v) [([], ⟨[.v (.int .i64 k)], 103⟩)] [] lastC =
  lt (cosR a b) fun x1 =>
  lt (xkeepV x1.1 x1.2.1 x1.2.2) fun x3 =>
  lt (xkeepC k x1.1 x1.2.1 x1.2.2) fun x2 =>
  some (.v (.agg ⟨[.int .i64 x3.1, .int .i64 x3.2]⟩), ⟨[.v (.int .i64 x2)], 103⟩) := by kernel_rfl
theorem xcosV_mods (k a b : Int) : Mods Tryz.prog 146 103 k [.agg ⟨[.int .i64 a, .int .i64 b]⟩] (pairV (xcosV a b).1 (xcosV a b).2) (xcosC k a b) := by
  refine evF_mods (E := []) mixed (by simp) Cs_ok book_xcosV_mods_ok (lim := 20) (d := 6) (nm := []) ?_
  rw [xcosV_mods_tree k a b]
  rfl
noncomputable def xmulV (a b c d : Int) : Int × Int := ((mulR a b c d).1, (mulR a b c d).2.1)
noncomputable def xmulC (k a b c d : Int) : Int := keepE k (mulR a b c d).2.2
noncomputable def book_xmulV_mods : Book := [(127, ePP (fun a b c d => arcV (mulR a b c d))), (150, cPI 103 (fun a b c => pairV (xkeepV a b c).1 (xkeepV a b c).2) xkeepC)]
theorem book_xmulV_mods_ok : BookOk Tryz.prog book_xmulV_mods := (bookOk_cons (ePP_ok mulR_gives) (bookOk_cons (cPI_ok xkeepV_mods) bookOk_nil))
theorem xmulV_mods_tree (k a b c d : Int) : evF Tryz.prog [] Cs book_xmulV_mods 20 6 148 (.p [] 0 :: [.agg ⟨[.int .i64 a, .int .i64 b]⟩, .agg ⟨[.int .i64 c, .int .i64 d]⟩].map AV.v) [([], ⟨[.v (.int .i64 k)], 103⟩)] [] lastC =
  lt (mulR a b c d) fun x1 =>
  lt (xkeepV x1.1 x1.2.1 x1.2.2) fun x3 =>
  lt (xkeepC k x1.1 x1.2.1 x1.2.2) fun x2 =>
  some (.v (.agg ⟨[.int .i64 x3.1, .int .i64 x3.2]⟩), ⟨[.v (.int .i64 x2)], 103⟩) := by kernel_rfl
theorem xmulV_mods (k a b c d : Int) : Mods Tryz.prog 148 103 k [.agg ⟨[.int .i64 a, .int .i64 b]⟩, .agg ⟨[.int .i64 c, .int .i64 d]⟩] (pairV (xmulV a b c d).1 (xmulV a b c d).2) (xmulC k a b c d) := by
  refine evF_mods (E := []) mixed (by simp) Cs_ok book_xmulV_mods_ok (lim := 20) (d := 6) (nm := []) ?_
  rw [xmulV_mods_tree k a b c d]
  rfl
noncomputable def xaddV (a b c d : Int) : Int × Int := ((addR a b c d).1, (addR a b c d).2.1)
noncomputable def xaddC (k a b c d : Int) : Int := keepE k (addR a b c d).2.2
noncomputable def book_xaddV_mods : Book := [(132, ePP (fun a b c d => arcV (addR a b c d))), (150, cPI 103 (fun a b c => pairV (xkeepV a b c).1 (xkeepV a b c).2) xkeepC)]
theorem book_xaddV_mods_ok : BookOk Tryz.prog book_xaddV_mods := (bookOk_cons (ePP_ok addR_gives) (bookOk_cons (cPI_ok xkeepV_mods) bookOk_nil))
theorem xaddV_mods_tree (k a b c d : Int) : evF Tryz.prog [] Cs book_xaddV_mods 20 6 147 (.p [] 0 :: [.agg ⟨[.int .i64 a, .int .i64 b]⟩, .agg ⟨[.int .i64 c, .int .i64 d]⟩].map AV.v) [([], ⟨[.v (.int .i64 k)], 103⟩)] [] lastC =
  lt (addR a b c d) fun x1 =>
  lt (xkeepV x1.1 x1.2.1 x1.2.2) fun x3 =>
  lt (xkeepC k x1.1 x1.2.1 x1.2.2) fun x2 =>
  some (.v (.agg ⟨[.int .i64 x3.1, .int .i64 x3.2]⟩), ⟨[.v (.int .i64 x2)], 103⟩) := by kernel_rfl
theorem xaddV_mods (k a b c d : Int) : Mods Tryz.prog 147 103 k [.agg ⟨[.int .i64 a, .int .i64 b]⟩, .agg ⟨[.int .i64 c, .int .i64 d]⟩] (pairV (xaddV a b c d).1 (xaddV a b c d).2) (xaddC k a b c d) := by
  refine evF_mods (E := []) mixed (by simp) Cs_ok book_xaddV_mods_ok (lim := 20) (d := 6) (nm := []) ?_
  rw [xaddV_mods_tree k a b c d]
  rfl
noncomputable def xsubV (a b c d : Int) : Int × Int := ((subR a b c d).1, (subR a b c d).2.1)
noncomputable def xsubC (k a b c d : Int) : Int := keepE k (subR a b c d).2.2
noncomputable def book_xsubV_mods : Book := [(150, cPI 103 (fun a b c => pairV (xkeepV a b c).1 (xkeepV a b c).2) xkeepC), (192, ePP (fun a b c d => arcV (subR a b c d)))]
theorem book_xsubV_mods_ok : BookOk Tryz.prog book_xsubV_mods := (bookOk_cons (cPI_ok xkeepV_mods) (bookOk_cons (ePP_ok subR_gives) bookOk_nil))
theorem xsubV_mods_tree (k a b c d : Int) : evF Tryz.prog [] Cs book_xsubV_mods 20 6 149 (.p [] 0 :: [.agg ⟨[.int .i64 a, .int .i64 b]⟩, .agg ⟨[.int .i64 c, .int .i64 d]⟩].map AV.v) [([], ⟨[.v (.int .i64 k)], 103⟩)] [] lastC =
  lt (subR a b c d) fun x1 =>
  lt (xkeepV x1.1 x1.2.1 x1.2.2) fun x3 =>
  lt (xkeepC k x1.1 x1.2.1 x1.2.2) fun x2 =>
  some (.v (.agg ⟨[.int .i64 x3.1, .int .i64 x3.2]⟩), ⟨[.v (.int .i64 x2)], 103⟩) := by kernel_rfl
theorem xsubV_mods (k a b c d : Int) : Mods Tryz.prog 149 103 k [.agg ⟨[.int .i64 a, .int .i64 b]⟩, .agg ⟨[.int .i64 c, .int .i64 d]⟩] (pairV (xsubV a b c d).1 (xsubV a b c d).2) (xsubC k a b c d) := by
  refine evF_mods (E := []) mixed (by simp) Cs_ok book_xsubV_mods_ok (lim := 20) (d := 6) (nm := []) ?_
  rw [xsubV_mods_tree k a b c d]
  rfl
noncomputable def xnegV (a b : Int) : Int × Int := ((negR a b).1, (negR a b).2.1)
noncomputable def xnegC (k a b : Int) : Int := keepE k (negR a b).2.2
noncomputable def book_xnegV_mods : Book := [(138, eP (fun a b => arcV (negR a b))), (150, cPI 103 (fun a b c => pairV (xkeepV a b c).1 (xkeepV a b c).2) xkeepC)]
theorem book_xnegV_mods_ok : BookOk Tryz.prog book_xnegV_mods := (bookOk_cons (eP_ok negR_gives) (bookOk_cons (cPI_ok xkeepV_mods) bookOk_nil))
theorem xnegV_mods_tree (k a b : Int) : evF Tryz.prog [] Cs book_xnegV_mods 20 6 88 (.p [] 0 :: [.agg ⟨[.int .i64 a, .int .i64 b]⟩].map AV.v) [([], ⟨[.v (.int .i64 k)], 103⟩)] [] lastC =
  lt (negR a b) fun x1 =>
  lt (xkeepV x1.1 x1.2.1 x1.2.2) fun x3 =>
  lt (xkeepC k x1.1 x1.2.1 x1.2.2) fun x2 =>
  some (.v (.agg ⟨[.int .i64 x3.1, .int .i64 x3.2]⟩), ⟨[.v (.int .i64 x2)], 103⟩) := by kernel_rfl
theorem xnegV_mods (k a b : Int) : Mods Tryz.prog 88 103 k [.agg ⟨[.int .i64 a, .int .i64 b]⟩] (pairV (xnegV a b).1 (xnegV a b).2) (xnegC k a b) := by
  refine evF_mods (E := []) mixed (by simp) Cs_ok book_xnegV_mods_ok (lim := 20) (d := 6) (nm := []) ?_
  rw [xnegV_mods_tree k a b]
  rfl
def u64V (x : Int) : Value := .int .u64 x
def eUif (p : Int → Bool) (F : Int → Value) : Ent
  | [.v (.int .u64 a)], [] => some (p a, .v (F a), [])
  | _, _ => none
theorem eUif_ok {P : Program} {g : FuncId} {p : Int → Bool} {F : Int → Value} (h : ∀ a, p a = true → Gives P g [.int .u64 a] (F a)) (args : List AV) (L : Ev.Loc) (z : Bool) (r : AV) (L' : Ev.Loc) (q : eUif p F args L = some (z, r, L')) (hz : z = true) : Runs P g args L r L' := by
  unfold eUif at q
  split at q
  · cases q
    exact gives_runs (h _ hz)
  · cases q
def rootR (n : Int) : Int := (isq n.toNat : Int)
def rootQ (n : Int) : Bool := decide (0 ≤ n ∧ n < 18446744073709551616)
theorem rootQ_wrap (x : Int) : rootQ (IntKind.u64.wrap x) = true := decide_eq_true ⟨by unfold IntKind.wrap; simp [IntKind.signed, IntKind.bits]; omega, by unfold IntKind.wrap; simp [IntKind.signed, IntKind.bits]; omega⟩
theorem root_gives (n : Int) (h : rootQ n = true) : Gives Tryz.prog 197 [.int .u64 n] (u64V (rootR n)) := gives_of fun w => by
  obtain ⟨h1, h2⟩ := of_decide_eq_true h
  have := root_any n.toNat (by omega) w
  rwa [Int.toNat_of_nonneg h1] at this
noncomputable def nearM (a b : Int) : Int :=
  cond (decide (a ≤ 0))
  (cond (decide (b ≥ 0))
   (0)
   (IntKind.u64.wrap ((mn (mx a (IntKind.i64.wrap (0 - a))) (mx b (IntKind.i64.wrap (0 - b)))))))
  (IntKind.u64.wrap ((mn (mx a (IntKind.i64.wrap (0 - a))) (mx b (IntKind.i64.wrap (0 - b))))))
noncomputable def book_nearM_gives : Book := []
theorem book_nearM_gives_ok : BookOk Tryz.prog book_nearM_gives := bookOk_nil
theorem nearM_gives_tree (a b : Int) : evF Tryz.prog [] Cs book_nearM_gives 20 6 198 ([.agg ⟨[.int .i64 a, .int .i64 b]⟩].map AV.v) [] [] last =
  cond (decide (a ≤ 0))
  (cond (decide (b ≥ 0))
   (some (.v (.int .u64 0)))
   (some (.v (.int .u64 (IntKind.u64.wrap ((mn (mx a (IntKind.i64.wrap (0 - a))) (mx b (IntKind.i64.wrap (0 - b))))))))))
  (some (.v (.int .u64 (IntKind.u64.wrap ((mn (mx a (IntKind.i64.wrap (0 - a))) (mx b (IntKind.i64.wrap (0 - b))))))))) := by kernel_rfl
theorem nearM_gives (a b : Int) : Gives Tryz.prog 198 [.agg ⟨[.int .i64 a, .int .i64 b]⟩] (u64V (nearM a b)) := by
  refine evF_gives (E := []) mixed (by simp) Cs_ok book_nearM_gives_ok (lim := 20) (d := 6) (nm := []) ?_
  rw [nearM_gives_tree a b]
  unfold nearM
  refine case_cond (fun (r : Int) => AV.v (u64V (r))) ?_ ?_
  · refine case_cond (fun (r : Int) => AV.v (u64V (r))) ?_ ?_
    · rfl
    · rfl
  · rfl
noncomputable def farM (a b : Int) : Int :=
  IntKind.u64.wrap ((mx (mx (mx a (IntKind.i64.wrap (0 - a))) b) (IntKind.i64.wrap (0 - b))))
noncomputable def book_farM_gives : Book := []
theorem book_farM_gives_ok : BookOk Tryz.prog book_farM_gives := bookOk_nil
theorem farM_gives_tree (a b : Int) : evF Tryz.prog [] Cs book_farM_gives 20 6 199 ([.agg ⟨[.int .i64 a, .int .i64 b]⟩].map AV.v) [] [] last =
  some (.v (.int .u64 (IntKind.u64.wrap ((mx (mx (mx a (IntKind.i64.wrap (0 - a))) b) (IntKind.i64.wrap (0 - b))))))) := by kernel_rfl
theorem farM_gives (a b : Int) : Gives Tryz.prog 199 [.agg ⟨[.int .i64 a, .int .i64 b]⟩] (u64V (farM a b)) := by
  refine evF_gives (E := []) mixed (by simp) Cs_ok book_farM_gives_ok (lim := 20) (d := 6) (nm := []) ?_
  rw [farM_gives_tree a b]
  rfl
noncomputable def sumN (a b c d : Int) : Int := (IntKind.u64.wrap ((IntKind.u64.wrap ((nearM a b) * (nearM a b))) + (IntKind.u64.wrap ((nearM c d) * (nearM c d)))))
noncomputable def sumF (a b c d : Int) : Int := (IntKind.u64.wrap ((IntKind.u64.wrap ((farM a b) * (farM a b))) + (IntKind.u64.wrap ((farM c d) * (farM c d)))))
noncomputable def hypM (a b c d : Int) : Int × Int := (IntKind.i64.wrap (mn (rootR (sumN a b c d)) 1073741824), IntKind.i64.wrap (mn (cond (decide (IntKind.u64.wrap (rootR (sumF a b c d) * rootR (sumF a b c d)) < sumF a b c d)) (IntKind.u64.wrap (rootR (sumF a b c d) + 1)) (rootR (sumF a b c d))) 1073741824))
noncomputable def book_hypM_gives : Book := [(197, eUif rootQ (fun a => u64V (rootR a))), (198, eP (fun a b => u64V (nearM a b))), (199, eP (fun a b => u64V (farM a b)))]
theorem book_hypM_gives_ok : BookOk Tryz.prog book_hypM_gives := (bookOk_cons (eUif_ok root_gives) (bookOk_cons (eP_ok nearM_gives) (bookOk_cons (eP_ok farM_gives) bookOk_nil)))
theorem hypM_gives_tree (a b c d : Int) : evF Tryz.prog [] Cs book_hypM_gives 20 6 151 ([.agg ⟨[.int .i64 a, .int .i64 b]⟩, .agg ⟨[.int .i64 c, .int .i64 d]⟩].map AV.v) [] [] last =
  cond (rootQ (IntKind.u64.wrap ((IntKind.u64.wrap ((nearM a b) * (nearM a b))) + (IntKind.u64.wrap ((nearM c d) * (nearM c d))))))
  (cond (rootQ (IntKind.u64.wrap ((IntKind.u64.wrap ((farM a b) * (farM a b))) + (IntKind.u64.wrap ((farM c d) * (farM c d))))))
   (cond (decide (IntKind.u64.wrap ((rootR (IntKind.u64.wrap ((IntKind.u64.wrap ((farM a b) * (farM a b))) + (IntKind.u64.wrap ((farM c d) * (farM c d)))))) * (rootR (IntKind.u64.wrap ((IntKind.u64.wrap ((farM a b) * (farM a b))) + (IntKind.u64.wrap ((farM c d) * (farM c d))))))) < IntKind.u64.wrap ((IntKind.u64.wrap ((farM a b) * (farM a b))) + (IntKind.u64.wrap ((farM c d) * (farM c d))))))
    (some (.v (.agg ⟨[.int .i64 (IntKind.i64.wrap ((mn (rootR (IntKind.u64.wrap ((IntKind.u64.wrap ((nearM a b) * (nearM a b))) + (IntKind.u64.wrap ((nearM c d) * (nearM c d)))))) 1073741824))), .int .i64 (IntKind.i64.wrap ((mn (IntKind.u64.wrap ((rootR (IntKind.u64.wrap ((IntKind.u64.wrap ((farM a b) * (farM a b))) + (IntKind.u64.wrap ((farM c d) * (farM c d)))))) + 1)) 1073741824)))]⟩)))
    (some (.v (.agg ⟨[.int .i64 (IntKind.i64.wrap ((mn (rootR (IntKind.u64.wrap ((IntKind.u64.wrap ((nearM a b) * (nearM a b))) + (IntKind.u64.wrap ((nearM c d) * (nearM c d)))))) 1073741824))), .int .i64 (IntKind.i64.wrap ((mn (rootR (IntKind.u64.wrap ((IntKind.u64.wrap ((farM a b) * (farM a b))) + (IntKind.u64.wrap ((farM c d) * (farM c d)))))) 1073741824)))]⟩))))
   (none))
  (none) := by kernel_rfl
theorem hypM_gives (a b c d : Int) : Gives Tryz.prog 151 [.agg ⟨[.int .i64 a, .int .i64 b]⟩, .agg ⟨[.int .i64 c, .int .i64 d]⟩] (pairV (hypM a b c d).1 (hypM a b c d).2) := by
  refine evF_gives (E := []) mixed (by simp) Cs_ok book_hypM_gives_ok (lim := 20) (d := 6) (nm := []) ?_
  rw [hypM_gives_tree a b c d]
  have e1 : (IntKind.u64.wrap ((IntKind.u64.wrap ((nearM a b) * (nearM a b))) + (IntKind.u64.wrap ((nearM c d) * (nearM c d))))) = sumN a b c d := rfl
  have e2 : (IntKind.u64.wrap ((IntKind.u64.wrap ((farM a b) * (farM a b))) + (IntKind.u64.wrap ((farM c d) * (farM c d))))) = sumF a b c d := rfl
  have q1 : rootQ (sumN a b c d) = true := rootQ_wrap _
  have q2 : rootQ (sumF a b c d) = true := rootQ_wrap _
  rw [e1, e2, q1, q2]
  simp only [cond_true]
  unfold hypM
  cases decide (IntKind.u64.wrap (rootR (sumF a b c d) * rootR (sumF a b c d)) < sumF a b c d) <;> rfl
noncomputable def altM (a b c d e f : Int) : Int × Int × Int :=
  lt (asinR a b) fun x1 =>
  cond (x1.2.2 != 0)
  ((0, 0, x1.2.2))
  (lt (hypM c d e f) fun x2 =>
   cond (x2.1 == 0)
   (cond (decide (a ≤ 0))
    (cond (decide (b ≥ 0))
     ((x1.1, x1.2.1, 0))
     (lt (bearR a b x2.1 x2.2) fun x3 =>
      cond (x3.2.2 != 0)
      ((0, 0, x3.2.2))
      (cond (decide (x3.1 ≥ 10800000))
       (lt (ameetR (IntKind.i64.wrap (x3.1 - 21600000)) (IntKind.i64.wrap (x3.2.1 - 21600000)) x1.1 x1.2.1) fun x4 =>
        (x4.1, x4.2.1, x4.2.2))
       (lt (ameetR x3.1 x3.2.1 x1.1 x1.2.1) fun x5 =>
        (x5.1, x5.2.1, x5.2.2)))))
    (lt (bearR a b x2.1 x2.2) fun x6 =>
     cond (x6.2.2 != 0)
     ((0, 0, x6.2.2))
     (cond (decide (x6.1 ≥ 10800000))
      (lt (ameetR (IntKind.i64.wrap (x6.1 - 21600000)) (IntKind.i64.wrap (x6.2.1 - 21600000)) x1.1 x1.2.1) fun x7 =>
       (x7.1, x7.2.1, x7.2.2))
      (lt (ameetR x6.1 x6.2.1 x1.1 x1.2.1) fun x8 =>
       (x8.1, x8.2.1, x8.2.2)))))
   (lt (bearR a b x2.1 x2.2) fun x9 =>
    cond (x9.2.2 != 0)
    ((0, 0, x9.2.2))
    (cond (decide (x9.1 ≥ 10800000))
     (lt (ameetR (IntKind.i64.wrap (x9.1 - 21600000)) (IntKind.i64.wrap (x9.2.1 - 21600000)) x1.1 x1.2.1) fun x10 =>
      (x10.1, x10.2.1, x10.2.2))
     (lt (ameetR x9.1 x9.2.1 x1.1 x1.2.1) fun x11 =>
      (x11.1, x11.2.1, x11.2.2)))))
noncomputable def book_altM_gives : Book := [(28, ePP (fun a b c d => arcV (ameetR a b c d))), (90, ePP (fun a b c d => arcV (bearR a b c d))), (137, eP (fun a b => arcV (asinR a b))), (151, ePP (fun a b c d => pairV (hypM a b c d).1 (hypM a b c d).2))]
theorem book_altM_gives_ok : BookOk Tryz.prog book_altM_gives := (bookOk_cons (ePP_ok ameetR_gives) (bookOk_cons (ePP_ok (fun a b c d W _ => bear_any a b c d W)) (bookOk_cons (eP_ok (fun a b W _ => asin_r a b W)) (bookOk_cons (ePP_ok hypM_gives) bookOk_nil))))
theorem altM_gives_tree (a b c d e f : Int) : evF Tryz.prog [] Cs book_altM_gives 20 6 89 ([.agg ⟨[.int .i64 a, .int .i64 b, .int .i64 c, .int .i64 d, .int .i64 e, .int .i64 f]⟩].map AV.v) [] [] last =
  lt (asinR a b) fun x1 =>
  cond (x1.2.2 != 0)
  (some (.v (.tuple ⟨[.agg ⟨[.int .i64 0, .int .i64 0]⟩, .int .i64 x1.2.2]⟩)))
  (lt (hypM c d e f) fun x2 =>
   cond (x2.1 == 0)
   (cond (decide (a ≤ 0))
    (cond (decide (b ≥ 0))
     (some (.v (.tuple ⟨[.agg ⟨[.int .i64 x1.1, .int .i64 x1.2.1]⟩, .int .i64 0]⟩)))
     (lt (bearR a b x2.1 x2.2) fun x3 =>
      cond (x3.2.2 != 0)
      (some (.v (.tuple ⟨[.agg ⟨[.int .i64 0, .int .i64 0]⟩, .int .i64 x3.2.2]⟩)))
      (cond (decide (x3.1 ≥ 10800000))
       (lt (ameetR (IntKind.i64.wrap (x3.1 - 21600000)) (IntKind.i64.wrap (x3.2.1 - 21600000)) x1.1 x1.2.1) fun x4 =>
        some (.v (.tuple ⟨[.agg ⟨[.int .i64 x4.1, .int .i64 x4.2.1]⟩, .int .i64 x4.2.2]⟩)))
       (lt (ameetR x3.1 x3.2.1 x1.1 x1.2.1) fun x5 =>
        some (.v (.tuple ⟨[.agg ⟨[.int .i64 x5.1, .int .i64 x5.2.1]⟩, .int .i64 x5.2.2]⟩))))))
    (lt (bearR a b x2.1 x2.2) fun x6 =>
     cond (x6.2.2 != 0)
     (some (.v (.tuple ⟨[.agg ⟨[.int .i64 0, .int .i64 0]⟩, .int .i64 x6.2.2]⟩)))
     (cond (decide (x6.1 ≥ 10800000))
      (lt (ameetR (IntKind.i64.wrap (x6.1 - 21600000)) (IntKind.i64.wrap (x6.2.1 - 21600000)) x1.1 x1.2.1) fun x7 =>
       some (.v (.tuple ⟨[.agg ⟨[.int .i64 x7.1, .int .i64 x7.2.1]⟩, .int .i64 x7.2.2]⟩)))
      (lt (ameetR x6.1 x6.2.1 x1.1 x1.2.1) fun x8 =>
       some (.v (.tuple ⟨[.agg ⟨[.int .i64 x8.1, .int .i64 x8.2.1]⟩, .int .i64 x8.2.2]⟩))))))
   (lt (bearR a b x2.1 x2.2) fun x9 =>
    cond (x9.2.2 != 0)
    (some (.v (.tuple ⟨[.agg ⟨[.int .i64 0, .int .i64 0]⟩, .int .i64 x9.2.2]⟩)))
    (cond (decide (x9.1 ≥ 10800000))
     (lt (ameetR (IntKind.i64.wrap (x9.1 - 21600000)) (IntKind.i64.wrap (x9.2.1 - 21600000)) x1.1 x1.2.1) fun x10 =>
      some (.v (.tuple ⟨[.agg ⟨[.int .i64 x10.1, .int .i64 x10.2.1]⟩, .int .i64 x10.2.2]⟩)))
     (lt (ameetR x9.1 x9.2.1 x1.1 x1.2.1) fun x11 =>
      some (.v (.tuple ⟨[.agg ⟨[.int .i64 x11.1, .int .i64 x11.2.1]⟩, .int .i64 x11.2.2]⟩)))))) := by kernel_rfl
theorem altM_gives (a b c d e f : Int) : Gives Tryz.prog 89 [.agg ⟨[.int .i64 a, .int .i64 b, .int .i64 c, .int .i64 d, .int .i64 e, .int .i64 f]⟩] (arcV (altM a b c d e f)) := by
  refine evF_gives (E := []) mixed (by simp) Cs_ok book_altM_gives_ok (lim := 20) (d := 6) (nm := []) ?_
  rw [altM_gives_tree a b c d e f]
  unfold altM
  refine case_lt (fun (r : Int × Int × Int) => AV.v (arcV (r))) fun _ => ?_
  refine case_cond (fun (r : Int × Int × Int) => AV.v (arcV (r))) ?_ ?_
  · rfl
  · refine case_lt (fun (r : Int × Int × Int) => AV.v (arcV (r))) fun _ => ?_
    refine case_cond (fun (r : Int × Int × Int) => AV.v (arcV (r))) ?_ ?_
    · refine case_cond (fun (r : Int × Int × Int) => AV.v (arcV (r))) ?_ ?_
      · refine case_cond (fun (r : Int × Int × Int) => AV.v (arcV (r))) ?_ ?_
        · rfl
        · refine case_lt (fun (r : Int × Int × Int) => AV.v (arcV (r))) fun _ => ?_
          refine case_cond (fun (r : Int × Int × Int) => AV.v (arcV (r))) ?_ ?_
          · rfl
          · refine case_cond (fun (r : Int × Int × Int) => AV.v (arcV (r))) ?_ ?_
            · refine case_lt (fun (r : Int × Int × Int) => AV.v (arcV (r))) fun _ => ?_
              rfl
            · refine case_lt (fun (r : Int × Int × Int) => AV.v (arcV (r))) fun _ => ?_
              rfl
      · refine case_lt (fun (r : Int × Int × Int) => AV.v (arcV (r))) fun _ => ?_
        refine case_cond (fun (r : Int × Int × Int) => AV.v (arcV (r))) ?_ ?_
        · rfl
        · refine case_cond (fun (r : Int × Int × Int) => AV.v (arcV (r))) ?_ ?_
          · refine case_lt (fun (r : Int × Int × Int) => AV.v (arcV (r))) fun _ => ?_
            rfl
          · refine case_lt (fun (r : Int × Int × Int) => AV.v (arcV (r))) fun _ => ?_
            rfl
    · refine case_lt (fun (r : Int × Int × Int) => AV.v (arcV (r))) fun _ => ?_
      refine case_cond (fun (r : Int × Int × Int) => AV.v (arcV (r))) ?_ ?_
      · rfl
      · refine case_cond (fun (r : Int × Int × Int) => AV.v (arcV (r))) ?_ ?_
        · refine case_lt (fun (r : Int × Int × Int) => AV.v (arcV (r))) fun _ => ?_
          rfl
        · refine case_lt (fun (r : Int × Int × Int) => AV.v (arcV (r))) fun _ => ?_
          rfl
noncomputable def msolM (a b c d e f : Int) : Int × Int × Int × Int × Int :=
  cond (!(triB a b c d e f))
  ((0, 0, 0, 0, 1))
  (lt (xcosV c d) fun x2 =>
   lt (xcosC 0 c d) fun x1 =>
   lt (xcosV e f) fun x4 =>
   lt (xcosC x1 e f) fun x3 =>
   lt (xmulV x2.1 x2.2 x4.1 x4.2) fun x6 =>
   lt (xmulC x3 x2.1 x2.2 x4.1 x4.2) fun x5 =>
   lt (xsinV e f) fun x8 =>
   lt (xsinC x5 e f) fun x7 =>
   lt (xmulV x2.1 x2.2 x8.1 x8.2) fun x10 =>
   lt (xmulC x7 x2.1 x2.2 x8.1 x8.2) fun x9 =>
   lt (xsinV c d) fun x12 =>
   lt (xsinC x9 c d) fun x11 =>
   lt (xsinV a b) fun x14 =>
   lt (xsinC x11 a b) fun x13 =>
   lt (xcosV a b) fun x16 =>
   lt (xcosC x13 a b) fun x15 =>
   lt (xmulV x6.1 x6.2 x16.1 x16.2) fun x18 =>
   lt (xmulC x15 x6.1 x6.2 x16.1 x16.2) fun x17 =>
   lt (xmulV x12.1 x12.2 x14.1 x14.2) fun x20 =>
   lt (xmulC x17 x12.1 x12.2 x14.1 x14.2) fun x19 =>
   lt (xaddV x18.1 x18.2 x20.1 x20.2) fun x22 =>
   lt (xaddC x19 x18.1 x18.2 x20.1 x20.2) fun x21 =>
   lt (xmulV x12.1 x12.2 x16.1 x16.2) fun x24 =>
   lt (xmulC x21 x12.1 x12.2 x16.1 x16.2) fun x23 =>
   lt (xmulV x6.1 x6.2 x14.1 x14.2) fun x26 =>
   lt (xmulC x23 x6.1 x6.2 x14.1 x14.2) fun x25 =>
   lt (xsubV x24.1 x24.2 x26.1 x26.2) fun x28 =>
   lt (xsubC x25 x24.1 x24.2 x26.1 x26.2) fun x27 =>
   lt (xnegV x10.1 x10.2) fun x30 =>
   lt (xnegC x27 x10.1 x10.2) fun x29 =>
   cond (x29 != 0)
   ((0, 0, 0, 0, x29))
   (lt (altM x22.1 x22.2 x28.1 x28.2 x10.1 x10.2) fun x31 =>
    cond (x31.2.2 != 0)
    ((0, 0, 0, 0, x31.2.2))
    (lt (bearR x30.1 x30.2 x28.1 x28.2) fun x32 =>
     cond (x32.2.2 != 0)
     ((0, 0, 0, 0, x32.2.2))
     ((x31.1, x31.2.1, x32.1, x32.2.1, 0)))))
noncomputable def book_msolM_gives : Book := [(48, eT (fun a b c d e f => .bool (triB a b c d e f))), (88, cP 103 (fun a b => pairV (xnegV a b).1 (xnegV a b).2) xnegC), (89, eT (fun a b c d e f => arcV (altM a b c d e f))), (90, ePP (fun a b c d => arcV (bearR a b c d))), (145, cP 103 (fun a b => pairV (xsinV a b).1 (xsinV a b).2) xsinC), (146, cP 103 (fun a b => pairV (xcosV a b).1 (xcosV a b).2) xcosC), (147, cPP 103 (fun a b c d => pairV (xaddV a b c d).1 (xaddV a b c d).2) xaddC), (148, cPP 103 (fun a b c d => pairV (xmulV a b c d).1 (xmulV a b c d).2) xmulC), (149, cPP 103 (fun a b c d => pairV (xsubV a b c d).1 (xsubV a b c d).2) xsubC)]
theorem book_msolM_gives_ok : BookOk Tryz.prog book_msolM_gives := (bookOk_cons (eT_ok triB_gives) (bookOk_cons (cP_ok xnegV_mods) (bookOk_cons (eT_ok altM_gives) (bookOk_cons (ePP_ok (fun a b c d W _ => bear_any a b c d W)) (bookOk_cons (cP_ok xsinV_mods) (bookOk_cons (cP_ok xcosV_mods) (bookOk_cons (cPP_ok xaddV_mods) (bookOk_cons (cPP_ok xmulV_mods) (bookOk_cons (cPP_ok xsubV_mods) bookOk_nil)))))))))
theorem msolM_gives_tree (a b c d e f : Int) : evF Tryz.prog [] Cs book_msolM_gives 20 6 41 ([.agg ⟨[.int .i64 a, .int .i64 b, .int .i64 c, .int .i64 d, .int .i64 e, .int .i64 f]⟩].map AV.v) [] [] last =
  cond (!(triB a b c d e f))
  (some (.v (.tuple ⟨[.agg ⟨[.int .i64 0, .int .i64 0, .int .i64 0, .int .i64 0]⟩, .int .i64 1]⟩)))
  (lt (xcosV c d) fun x2 =>
   lt (xcosC 0 c d) fun x1 =>
   lt (xcosV e f) fun x4 =>
   lt (xcosC x1 e f) fun x3 =>
   lt (xmulV x2.1 x2.2 x4.1 x4.2) fun x6 =>
   lt (xmulC x3 x2.1 x2.2 x4.1 x4.2) fun x5 =>
   lt (xsinV e f) fun x8 =>
   lt (xsinC x5 e f) fun x7 =>
   lt (xmulV x2.1 x2.2 x8.1 x8.2) fun x10 =>
   lt (xmulC x7 x2.1 x2.2 x8.1 x8.2) fun x9 =>
   lt (xsinV c d) fun x12 =>
   lt (xsinC x9 c d) fun x11 =>
   lt (xsinV a b) fun x14 =>
   lt (xsinC x11 a b) fun x13 =>
   lt (xcosV a b) fun x16 =>
   lt (xcosC x13 a b) fun x15 =>
   lt (xmulV x6.1 x6.2 x16.1 x16.2) fun x18 =>
   lt (xmulC x15 x6.1 x6.2 x16.1 x16.2) fun x17 =>
   lt (xmulV x12.1 x12.2 x14.1 x14.2) fun x20 =>
   lt (xmulC x17 x12.1 x12.2 x14.1 x14.2) fun x19 =>
   lt (xaddV x18.1 x18.2 x20.1 x20.2) fun x22 =>
   lt (xaddC x19 x18.1 x18.2 x20.1 x20.2) fun x21 =>
   lt (xmulV x12.1 x12.2 x16.1 x16.2) fun x24 =>
   lt (xmulC x21 x12.1 x12.2 x16.1 x16.2) fun x23 =>
   lt (xmulV x6.1 x6.2 x14.1 x14.2) fun x26 =>
   lt (xmulC x23 x6.1 x6.2 x14.1 x14.2) fun x25 =>
   lt (xsubV x24.1 x24.2 x26.1 x26.2) fun x28 =>
   lt (xsubC x25 x24.1 x24.2 x26.1 x26.2) fun x27 =>
   lt (xnegV x10.1 x10.2) fun x30 =>
   lt (xnegC x27 x10.1 x10.2) fun x29 =>
   cond (x29 != 0)
   (some (.v (.tuple ⟨[.agg ⟨[.int .i64 0, .int .i64 0, .int .i64 0, .int .i64 0]⟩, .int .i64 x29]⟩)))
   (lt (altM x22.1 x22.2 x28.1 x28.2 x10.1 x10.2) fun x31 =>
    cond (x31.2.2 != 0)
    (some (.v (.tuple ⟨[.agg ⟨[.int .i64 0, .int .i64 0, .int .i64 0, .int .i64 0]⟩, .int .i64 x31.2.2]⟩)))
    (lt (bearR x30.1 x30.2 x28.1 x28.2) fun x32 =>
     cond (x32.2.2 != 0)
     (some (.v (.tuple ⟨[.agg ⟨[.int .i64 0, .int .i64 0, .int .i64 0, .int .i64 0]⟩, .int .i64 x32.2.2]⟩)))
     (some (.v (.tuple ⟨[.agg ⟨[.int .i64 x31.1, .int .i64 x31.2.1, .int .i64 x32.1, .int .i64 x32.2.1]⟩, .int .i64 0]⟩)))))) := by kernel_rfl
theorem msolM_gives (a b c d e f : Int) : Gives Tryz.prog 41 [.agg ⟨[.int .i64 a, .int .i64 b, .int .i64 c, .int .i64 d, .int .i64 e, .int .i64 f]⟩] (solV (msolM a b c d e f)) := by
  refine evF_gives (E := []) mixed (by simp) Cs_ok book_msolM_gives_ok (lim := 20) (d := 6) (nm := []) ?_
  rw [msolM_gives_tree a b c d e f]
  unfold msolM
  refine case_cond (fun (r : Int × Int × Int × Int × Int) => AV.v (solV (r))) ?_ ?_
  · rfl
  · refine case_lt (fun (r : Int × Int × Int × Int × Int) => AV.v (solV (r))) fun _ => ?_
    refine case_lt (fun (r : Int × Int × Int × Int × Int) => AV.v (solV (r))) fun _ => ?_
    refine case_lt (fun (r : Int × Int × Int × Int × Int) => AV.v (solV (r))) fun _ => ?_
    refine case_lt (fun (r : Int × Int × Int × Int × Int) => AV.v (solV (r))) fun _ => ?_
    refine case_lt (fun (r : Int × Int × Int × Int × Int) => AV.v (solV (r))) fun _ => ?_
    refine case_lt (fun (r : Int × Int × Int × Int × Int) => AV.v (solV (r))) fun _ => ?_
    refine case_lt (fun (r : Int × Int × Int × Int × Int) => AV.v (solV (r))) fun _ => ?_
    refine case_lt (fun (r : Int × Int × Int × Int × Int) => AV.v (solV (r))) fun _ => ?_
    refine case_lt (fun (r : Int × Int × Int × Int × Int) => AV.v (solV (r))) fun _ => ?_
    refine case_lt (fun (r : Int × Int × Int × Int × Int) => AV.v (solV (r))) fun _ => ?_
    refine case_lt (fun (r : Int × Int × Int × Int × Int) => AV.v (solV (r))) fun _ => ?_
    refine case_lt (fun (r : Int × Int × Int × Int × Int) => AV.v (solV (r))) fun _ => ?_
    refine case_lt (fun (r : Int × Int × Int × Int × Int) => AV.v (solV (r))) fun _ => ?_
    refine case_lt (fun (r : Int × Int × Int × Int × Int) => AV.v (solV (r))) fun _ => ?_
    refine case_lt (fun (r : Int × Int × Int × Int × Int) => AV.v (solV (r))) fun _ => ?_
    refine case_lt (fun (r : Int × Int × Int × Int × Int) => AV.v (solV (r))) fun _ => ?_
    refine case_lt (fun (r : Int × Int × Int × Int × Int) => AV.v (solV (r))) fun _ => ?_
    refine case_lt (fun (r : Int × Int × Int × Int × Int) => AV.v (solV (r))) fun _ => ?_
    refine case_lt (fun (r : Int × Int × Int × Int × Int) => AV.v (solV (r))) fun _ => ?_
    refine case_lt (fun (r : Int × Int × Int × Int × Int) => AV.v (solV (r))) fun _ => ?_
    refine case_lt (fun (r : Int × Int × Int × Int × Int) => AV.v (solV (r))) fun _ => ?_
    refine case_lt (fun (r : Int × Int × Int × Int × Int) => AV.v (solV (r))) fun _ => ?_
    refine case_lt (fun (r : Int × Int × Int × Int × Int) => AV.v (solV (r))) fun _ => ?_
    refine case_lt (fun (r : Int × Int × Int × Int × Int) => AV.v (solV (r))) fun _ => ?_
    refine case_lt (fun (r : Int × Int × Int × Int × Int) => AV.v (solV (r))) fun _ => ?_
    refine case_lt (fun (r : Int × Int × Int × Int × Int) => AV.v (solV (r))) fun _ => ?_
    refine case_lt (fun (r : Int × Int × Int × Int × Int) => AV.v (solV (r))) fun _ => ?_
    refine case_lt (fun (r : Int × Int × Int × Int × Int) => AV.v (solV (r))) fun _ => ?_
    refine case_lt (fun (r : Int × Int × Int × Int × Int) => AV.v (solV (r))) fun _ => ?_
    refine case_lt (fun (r : Int × Int × Int × Int × Int) => AV.v (solV (r))) fun _ => ?_
    refine case_cond (fun (r : Int × Int × Int × Int × Int) => AV.v (solV (r))) ?_ ?_
    · rfl
    · refine case_lt (fun (r : Int × Int × Int × Int × Int) => AV.v (solV (r))) fun _ => ?_
      refine case_cond (fun (r : Int × Int × Int × Int × Int) => AV.v (solV (r))) ?_ ?_
      · rfl
      · refine case_lt (fun (r : Int × Int × Int × Int × Int) => AV.v (solV (r))) fun _ => ?_
        refine case_cond (fun (r : Int × Int × Int × Int × Int) => AV.v (solV (r))) ?_ ?_
        · rfl
        · rfl
end Go.Proofs.YtmididlfnajhiaaGreatDoor

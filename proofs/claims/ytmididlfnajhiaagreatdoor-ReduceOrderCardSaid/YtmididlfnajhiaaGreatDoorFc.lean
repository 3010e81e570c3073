/-
  The cosine formula: what each function gives.
-/
import Derived.Test.YtmididlfnajhiaaGreatDoorF2
namespace Go.Proofs.YtmididlfnajhiaaGreatDoor
open Ev

def solV (r : Int × Int × Int × Int × Int) : Value := .tuple ⟨[.agg ⟨[.int .i64 r.1, .int .i64 r.2.1, .int .i64 r.2.2.1, .int .i64 r.2.2.2.1]⟩, .int .i64 r.2.2.2.2]⟩
def latB (a b : Int) : Bool := avalidB a b && (decide (a ≥ -5400000) && decide (b ≤ 5400000))
noncomputable def book_latB_gives : Book := [(58, eP (fun a b => .bool (avalidB a b)))]
theorem book_latB_gives_ok : BookOk Tryz.prog book_latB_gives := (bookOk_cons (eP_ok (fun a b W _ => gvalid_any a b W)) bookOk_nil)
theorem latB_gives_tree (a b : Int) : evF Tryz.prog [] Cs book_latB_gives 20 6 119 ([.agg ⟨[.int .i64 a, .int .i64 b]⟩].map AV.v) [] [] last =
  cond (avalidB a b)
  (cond (decide (a ≥ (-5400000)))
   (some (.v (.bool (decide (b ≤ 5400000)))))
   (some (.v (.bool false))))
  (some (.v (.bool false))) := by kernel_rfl
theorem latB_gives (a b : Int) : Gives Tryz.prog 119 [.agg ⟨[.int .i64 a, .int .i64 b]⟩] (.bool (latB a b)) := by
  refine evF_gives (E := []) mixed (by simp) Cs_ok book_latB_gives_ok (lim := 20) (d := 6) (nm := []) ?_
  rw [latB_gives_tree a b]
  cases h1 : (avalidB a b)
  · rw [cond_false]
    simp [latB, *]
  · rw [cond_true]
    cases h2 : (decide (a ≥ (-5400000)))
    · rw [cond_false]
      replace h2 := of_decide_eq_false h2
      simp [latB, *]
    · rw [cond_true]
      replace h2 := of_decide_eq_true h2
      simp [latB, *]
def triB (a b c d e f : Int) : Bool := latB a b && (latB c d && avalidB e f)
noncomputable def book_triB_gives : Book := [(58, eP (fun a b => .bool (avalidB a b))), (119, eP (fun a b => .bool (latB a b)))]
theorem book_triB_gives_ok : BookOk Tryz.prog book_triB_gives := (bookOk_cons (eP_ok (fun a b W _ => gvalid_any a b W)) (bookOk_cons (eP_ok latB_gives) bookOk_nil))
theorem triB_gives_tree (a b c d e f : Int) : evF Tryz.prog [] Cs book_triB_gives 20 6 48 ([.agg ⟨[.int .i64 a, .int .i64 b, .int .i64 c, .int .i64 d, .int .i64 e, .int .i64 f]⟩].map AV.v) [] [] last =
  cond (latB a b)
  (cond (latB c d)
   (some (.v (.bool (avalidB e f))))
   (some (.v (.bool false))))
  (some (.v (.bool false))) := by kernel_rfl
theorem triB_gives (a b c d e f : Int) : Gives Tryz.prog 48 [.agg ⟨[.int .i64 a, .int .i64 b, .int .i64 c, .int .i64 d, .int .i64 e, .int .i64 f]⟩] (.bool (triB a b c d e f)) := by
  refine evF_gives (E := []) mixed (by simp) Cs_ok book_triB_gives_ok (lim := 20) (d := 6) (nm := []) ?_
  rw [triB_gives_tree a b c d e f]
  cases h1 : (latB a b)
  · rw [cond_false]
    simp [triB, *]
  · rw [cond_true]
    cases h2 : (latB c d)
    · rw [cond_false]
      simp [triB, *]
    · rw [cond_true]
      simp [triB, *]
def ckeepV (a b _e : Int) : Int × Int := (a, b)
def ckeepC (k _a _b e : Int) : Int := keepE k e
noncomputable def book_ckeepV_mods : Book := []
theorem book_ckeepV_mods_ok : BookOk Tryz.prog book_ckeepV_mods := bookOk_nil
theorem ckeepV_mods_tree (k a b c : Int) : evF Tryz.prog [] Cs book_ckeepV_mods 20 6 220 (.p [] 0 :: [.agg ⟨[.int .i64 a, .int .i64 b]⟩, .int .i64 c].map AV.v) [([], ⟨[.v (.int .i64 k)], 156⟩)] [] lastC =
  cond (k == 0)
  (some (.v (.agg ⟨[.int .i64 a, .int .i64 b]⟩), ⟨[.v (.int .i64 c)], 156⟩))
  (some (.v (.agg ⟨[.int .i64 a, .int .i64 b]⟩), ⟨[.v (.int .i64 k)], 156⟩)) := by kernel_rfl
theorem ckeepV_mods (k a b c : Int) : Mods Tryz.prog 220 156 k [.agg ⟨[.int .i64 a, .int .i64 b]⟩, .int .i64 c] (pairV (ckeepV a b c).1 (ckeepV a b c).2) (ckeepC k a b c) := by
  refine evF_mods (E := []) mixed (by simp) Cs_ok book_ckeepV_mods_ok (lim := 20) (d := 6) (nm := []) ?_
  rw [ckeepV_mods_tree k a b c]
  unfold ckeepC keepE
  by_cases h : k = 0
  · simp [h]; rfl
  · have e : (k == 0) = false := beq_eq_false_iff_ne.2 h
    rw [e]
    simp [h]; rfl
noncomputable def csinV (a b : Int) : Int × Int := ((sinR a b).1, (sinR a b).2.1)
noncomputable def csinC (k a b : Int) : Int := keepE k (sinR a b).2.2
noncomputable def book_csinV_mods : Book := [(139, eP (fun a b => arcV (sinR a b))), (220, cPI 156 (fun a b c => pairV (ckeepV a b c).1 (ckeepV a b c).2) ckeepC)]
theorem book_csinV_mods_ok : BookOk Tryz.prog book_csinV_mods := (bookOk_cons (eP_ok (fun a b W _ => sin_r a b W)) (bookOk_cons (cPI_ok ckeepV_mods) bookOk_nil))
theorem csinV_mods_tree (k a b : Int) : evF Tryz.prog [] Cs book_csinV_mods 20 6 218 (.p [] 0 :: [.agg ⟨[.int .i64 a, .int .i64 b]⟩].map AV.v) [([], ⟨[.v (.int .i64 k)], 156⟩)] [] lastC =
  lt (sinR a b) fun x1 =>
  lt (ckeepV x1.1 x1.2.1 x1.2.2) fun x3 =>
  lt (ckeepC k x1.1 x1.2.1 x1.2.2) fun x2 =>
  some (.v (.agg ⟨[.int .i64 x3.1, .int .i64 x3.2]⟩), ⟨[.v (.int .i64 x2)], 156⟩) := by kernel_rfl
theorem csinV_mods (k a b : Int) : Mods Tryz.prog 218 156 k [.agg ⟨[.int .i64 a, .int .i64 b]⟩] (pairV (csinV a b).1 (csinV a b).2) (csinC k a b) := by
  refine evF_mods (E := []) mixed (by simp) Cs_ok book_csinV_mods_ok (lim := 20) (d := 6) (nm := []) ?_
  rw [csinV_mods_tree k a b]
  rfl
noncomputable def ccosV (a b : Int) : Int × Int := ((cosR a b).1, (cosR a b).2.1)
noncomputable def ccosC (k a b : Int) : Int := keepE k (cosR a b).2.2
noncomputable def book_ccosV_mods : Book := [(135, eP (fun a b => arcV (cosR a b))), (220, cPI 156 (fun a b c => pairV (ckeepV a b c).1 (ckeepV a b c).2) ckeepC)]
theorem book_ccosV_mods_ok : BookOk Tryz.prog book_ccosV_mods := (bookOk_cons (eP_ok (fun a b W _ => cos_r a b W)) (bookOk_cons (cPI_ok ckeepV_mods) bookOk_nil))
theorem ccosV_mods_tree (k a b : Int) : evF Tryz.prog [] Cs book_ccosV_mods 20 6 219 (.p [] 0 :: [.agg ⟨[.int .i64 a, .int .i64 b]⟩].map AV.v) [([], ⟨[.v (.int .i64 k)], 156⟩)] [] lastC =
  lt (cosR a b) fun x1 =>
  lt (ckeepV x1.1 x1.2.1 x1.2.2) fun x3 =>
  lt (ckeepC k x1.1 x1.2.1 x1.2.2) fun x2 =>
  some (.v (.agg ⟨[.int .i64 x3.1, .int .i64 x3.2]⟩), ⟨[.v (.int .i64 x2)], 156⟩) := by kernel_rfl
theorem ccosV_mods (k a b : Int) : Mods Tryz.prog 219 156 k [.agg ⟨[.int .i64 a, .int .i64 b]⟩] (pairV (ccosV a b).1 (ccosV a b).2) (ccosC k a b) := by
  refine evF_mods (E := []) mixed (by simp) Cs_ok book_ccosV_mods_ok (lim := 20) (d := 6) (nm := []) ?_
  rw [ccosV_mods_tree k a b]
  rfl
noncomputable def cmulV (a b c d : Int) : Int × Int := ((mulR a b c d).1, (mulR a b c d).2.1)
noncomputable def cmulC (k a b c d : Int) : Int := keepE k (mulR a b c d).2.2
noncomputable def book_cmulV_mods : Book := [(127, ePP (fun a b c d => arcV (mulR a b c d))), (220, cPI 156 (fun a b c => pairV (ckeepV a b c).1 (ckeepV a b c).2) ckeepC)]
theorem book_cmulV_mods_ok : BookOk Tryz.prog book_cmulV_mods := (bookOk_cons (ePP_ok mulR_gives) (bookOk_cons (cPI_ok ckeepV_mods) bookOk_nil))
theorem cmulV_mods_tree (k a b c d : Int) : evF Tryz.prog [] Cs book_cmulV_mods 20 6 180 (.p [] 0 :: [.agg ⟨[.int .i64 a, .int .i64 b]⟩, .agg ⟨[.int .i64 c, .int .i64 d]⟩].map AV.v) [([], ⟨[.v (.int .i64 k)], 156⟩)] [] lastC =
  lt (mulR a b c d) fun x1 =>
  lt (ckeepV x1.1 x1.2.1 x1.2.2) fun x3 =>
  lt (ckeepC k x1.1 x1.2.1 x1.2.2) fun x2 =>
  some (.v (.agg ⟨[.int .i64 x3.1, .int .i64 x3.2]⟩), ⟨[.v (.int .i64 x2)], 156⟩) := by kernel_rfl
theorem cmulV_mods (k a b c d : Int) : Mods Tryz.prog 180 156 k [.agg ⟨[.int .i64 a, .int .i64 b]⟩, .agg ⟨[.int .i64 c, .int .i64 d]⟩] (pairV (cmulV a b c d).1 (cmulV a b c d).2) (cmulC k a b c d) := by
  refine evF_mods (E := []) mixed (by simp) Cs_ok book_cmulV_mods_ok (lim := 20) (d := 6) (nm := []) ?_
  rw [cmulV_mods_tree k a b c d]
  rfl
noncomputable def caddV (a b c d : Int) : Int × Int := ((addR a b c d).1, (addR a b c d).2.1)
noncomputable def caddC (k a b c d : Int) : Int := keepE k (addR a b c d).2.2
noncomputable def book_caddV_mods : Book := [(132, ePP (fun a b c d => arcV (addR a b c d))), (220, cPI 156 (fun a b c => pairV (ckeepV a b c).1 (ckeepV a b c).2) ckeepC)]
theorem book_caddV_mods_ok : BookOk Tryz.prog book_caddV_mods := (bookOk_cons (ePP_ok addR_gives) (bookOk_cons (cPI_ok ckeepV_mods) bookOk_nil))
theorem caddV_mods_tree (k a b c d : Int) : evF Tryz.prog [] Cs book_caddV_mods 20 6 179 (.p [] 0 :: [.agg ⟨[.int .i64 a, .int .i64 b]⟩, .agg ⟨[.int .i64 c, .int .i64 d]⟩].map AV.v) [([], ⟨[.v (.int .i64 k)], 156⟩)] [] lastC =
  lt (addR a b c d) fun x1 =>
  lt (ckeepV x1.1 x1.2.1 x1.2.2) fun x3 =>
  lt (ckeepC k x1.1 x1.2.1 x1.2.2) fun x2 =>
  some (.v (.agg ⟨[.int .i64 x3.1, .int .i64 x3.2]⟩), ⟨[.v (.int .i64 x2)], 156⟩) := by kernel_rfl
theorem caddV_mods (k a b c d : Int) : Mods Tryz.prog 179 156 k [.agg ⟨[.int .i64 a, .int .i64 b]⟩, .agg ⟨[.int .i64 c, .int .i64 d]⟩] (pairV (caddV a b c d).1 (caddV a b c d).2) (caddC k a b c d) := by
  refine evF_mods (E := []) mixed (by simp) Cs_ok book_caddV_mods_ok (lim := 20) (d := 6) (nm := []) ?_
  rw [caddV_mods_tree k a b c d]
  rfl
noncomputable def csubV (a b c d : Int) : Int × Int := ((subR a b c d).1, (subR a b c d).2.1)
noncomputable def csubC (k a b c d : Int) : Int := keepE k (subR a b c d).2.2
noncomputable def book_csubV_mods : Book := [(192, ePP (fun a b c d => arcV (subR a b c d))), (220, cPI 156 (fun a b c => pairV (ckeepV a b c).1 (ckeepV a b c).2) ckeepC)]
theorem book_csubV_mods_ok : BookOk Tryz.prog book_csubV_mods := (bookOk_cons (ePP_ok subR_gives) (bookOk_cons (cPI_ok ckeepV_mods) bookOk_nil))
theorem csubV_mods_tree (k a b c d : Int) : evF Tryz.prog [] Cs book_csubV_mods 20 6 182 (.p [] 0 :: [.agg ⟨[.int .i64 a, .int .i64 b]⟩, .agg ⟨[.int .i64 c, .int .i64 d]⟩].map AV.v) [([], ⟨[.v (.int .i64 k)], 156⟩)] [] lastC =
  lt (subR a b c d) fun x1 =>
  lt (ckeepV x1.1 x1.2.1 x1.2.2) fun x3 =>
  lt (ckeepC k x1.1 x1.2.1 x1.2.2) fun x2 =>
  some (.v (.agg ⟨[.int .i64 x3.1, .int .i64 x3.2]⟩), ⟨[.v (.int .i64 x2)], 156⟩) := by kernel_rfl
theorem csubV_mods (k a b c d : Int) : Mods Tryz.prog 182 156 k [.agg ⟨[.int .i64 a, .int .i64 b]⟩, .agg ⟨[.int .i64 c, .int .i64 d]⟩] (pairV (csubV a b c d).1 (csubV a b c d).2) (csubC k a b c d) := by
  refine evF_mods (E := []) mixed (by simp) Cs_ok book_csubV_mods_ok (lim := 20) (d := 6) (nm := []) ?_
  rw [csubV_mods_tree k a b c d]
  rfl
noncomputable def cnegV (a b : Int) : Int × Int := ((negR a b).1, (negR a b).2.1)
noncomputable def cnegC (k a b : Int) : Int := keepE k (negR a b).2.2
noncomputable def book_cnegV_mods : Book := [(138, eP (fun a b => arcV (negR a b))), (220, cPI 156 (fun a b c => pairV (ckeepV a b c).1 (ckeepV a b c).2) ckeepC)]
theorem book_cnegV_mods_ok : BookOk Tryz.prog book_cnegV_mods := (bookOk_cons (eP_ok negR_gives) (bookOk_cons (cPI_ok ckeepV_mods) bookOk_nil))
theorem cnegV_mods_tree (k a b : Int) : evF Tryz.prog [] Cs book_cnegV_mods 20 6 181 (.p [] 0 :: [.agg ⟨[.int .i64 a, .int .i64 b]⟩].map AV.v) [([], ⟨[.v (.int .i64 k)], 156⟩)] [] lastC =
  lt (negR a b) fun x1 =>
  lt (ckeepV x1.1 x1.2.1 x1.2.2) fun x3 =>
  lt (ckeepC k x1.1 x1.2.1 x1.2.2) fun x2 =>
  some (.v (.agg ⟨[.int .i64 x3.1, .int .i64 x3.2]⟩), ⟨[.v (.int .i64 x2)], 156⟩) := by kernel_rfl
theorem cnegV_mods (k a b : Int) : Mods Tryz.prog 181 156 k [.agg ⟨[.int .i64 a, .int .i64 b]⟩] (pairV (cnegV a b).1 (cnegV a b).2) (cnegC k a b) := by
  refine evF_mods (E := []) mixed (by simp) Cs_ok book_cnegV_mods_ok (lim := 20) (d := 6) (nm := []) ?_
  rw [cnegV_mods_tree k a b]
  rfl
noncomputable def caltM (a b c d e f : Int) : Int × Int × Int :=
  lt (csinV a b) fun x2 =>
  lt (csinC 0 a b) fun x1 =>
  lt (ccosV a b) fun x4 =>
  lt (ccosC x1 a b) fun x3 =>
  lt (csinV c d) fun x6 =>
  lt (csinC x3 c d) fun x5 =>
  lt (ccosV c d) fun x8 =>
  lt (ccosC x5 c d) fun x7 =>
  lt (csinV e f) fun _ =>
  lt (csinC x7 e f) fun x9 =>
  lt (ccosV e f) fun x12 =>
  lt (ccosC x9 e f) fun x11 =>
  lt (cmulV x2.1 x2.2 x6.1 x6.2) fun x14 =>
  lt (cmulC x11 x2.1 x2.2 x6.1 x6.2) fun x13 =>
  lt (cmulV x4.1 x4.2 x8.1 x8.2) fun x16 =>
  lt (cmulC x13 x4.1 x4.2 x8.1 x8.2) fun x15 =>
  lt (cmulV x16.1 x16.2 x12.1 x12.2) fun x18 =>
  lt (cmulC x15 x16.1 x16.2 x12.1 x12.2) fun x17 =>
  lt (caddV x14.1 x14.2 x18.1 x18.2) fun x20 =>
  lt (caddC x17 x14.1 x14.2 x18.1 x18.2) fun x19 =>
  cond (x19 != 0)
  ((0, 0, x19))
  (lt (asinR x20.1 x20.2) fun x21 =>
   (x21.1, x21.2.1, x21.2.2))
noncomputable def book_caltM_gives : Book := [(137, eP (fun a b => arcV (asinR a b))), (179, cPP 156 (fun a b c d => pairV (caddV a b c d).1 (caddV a b c d).2) caddC), (180, cPP 156 (fun a b c d => pairV (cmulV a b c d).1 (cmulV a b c d).2) cmulC), (218, cP 156 (fun a b => pairV (csinV a b).1 (csinV a b).2) csinC), (219, cP 156 (fun a b => pairV (ccosV a b).1 (ccosV a b).2) ccosC)]
theorem book_caltM_gives_ok : BookOk Tryz.prog book_caltM_gives := (bookOk_cons (eP_ok (fun a b W _ => asin_r a b W)) (bookOk_cons (cPP_ok caddV_mods) (bookOk_cons (cPP_ok cmulV_mods) (bookOk_cons (cP_ok csinV_mods) (bookOk_cons (cP_ok ccosV_mods) bookOk_nil)))))
theorem caltM_gives_tree (a b c d e f : Int) : evF Tryz.prog [] Cs book_caltM_gives 20 6 122 ([.agg ⟨[.int .i64 a, .int .i64 b, .int .i64 c, .int .i64 d, .int .i64 e, .int .i64 f]⟩].map AV.v) [] [] last =
  lt (csinV a b) fun x2 =>
  lt (csinC 0 a b) fun x1 =>
  lt (ccosV a b) fun x4 =>
  lt (ccosC x1 a b) fun x3 =>
  lt (csinV c d) fun x6 =>
  lt (csinC x3 c d) fun x5 =>
  lt (ccosV c d) fun x8 =>
  lt (ccosC x5 c d) fun x7 =>
  lt (csinV e f) fun _ =>
  lt (csinC x7 e f) fun x9 =>
  lt (ccosV e f) fun x12 =>
  lt (ccosC x9 e f) fun x11 =>
  lt (cmulV x2.1 x2.2 x6.1 x6.2) fun x14 =>
  lt (cmulC x11 x2.1 x2.2 x6.1 x6.2) fun x13 =>
  lt (cmulV x4.1 x4.2 x8.1 x8.2) fun x16 =>
  lt (cmulC x13 x4.1 x4.2 x8.1 x8.2) fun x15 =>
  lt (cmulV x16.1 x16.2 x12.1 x12.2) fun x18 =>
  lt (cmulC x15 x16.1 x16.2 x12.1 x12.2) fun x17 =>
  lt (caddV x14.1 x14.2 x18.1 x18.2) fun x20 =>
  lt (caddC x17 x14.1 x14.2 x18.1 x18.2) fun x19 =>
  cond (x19 != 0)
  (some (.v (.tuple ⟨[.agg ⟨[.int .i64 0, .int .i64 0]⟩, .int .i64 x19]⟩)))
  (lt (asinR x20.1 x20.2) fun x21 =>
   some (.v (.tuple ⟨[.agg ⟨[.int .i64 x21.1, .int .i64 x21.2.1]⟩, .int .i64 x21.2.2]⟩))) := by kernel_rfl
theorem caltM_gives (a b c d e f : Int) : Gives Tryz.prog 122 [.agg ⟨[.int .i64 a, .int .i64 b, .int .i64 c, .int .i64 d, .int .i64 e, .int .i64 f]⟩] (arcV (caltM a b c d e f)) := by
  refine evF_gives (E := []) mixed (by simp) Cs_ok book_caltM_gives_ok (lim := 20) (d := 6) (nm := []) ?_
  rw [caltM_gives_tree a b c d e f]
  unfold caltM
  refine case_lt (fun (r : Int × Int × Int) => AV.v (arcV (r))) fun _ => ?_
  refine case_lt (fun (r : Int × Int × Int) => AV.v (arcV (r))) fun _ => ?_
  refine case_lt (fun (r : Int × Int × Int) => AV.v (arcV (r))) fun _ => ?_
  refine case_lt (fun (r : Int × Int × Int) => AV.v (arcV (r))) fun _ => ?_
  refine case_lt (fun (r : Int × Int × Int) => AV.v (arcV (r))) fun _ => ?_
  refine case_lt (fun (r : Int × Int × Int) => AV.v (arcV (r))) fun _ => ?_
  refine case_lt (fun (r : Int × Int × Int) => AV.v (arcV (r))) fun _ => ?_
  refine case_lt (fun (r : Int × Int × Int) => AV.v (arcV (r))) fun _ => ?_
  refine case_lt (fun (r : Int × Int × Int) => AV.v (arcV (r))) fun _ => ?_
  refine case_lt (fun (r : Int × Int × Int) => AV.v (arcV (r))) fun _ => ?_
  refine case_lt (fun (r : Int × Int × Int) => AV.v (arcV (r))) fun _ => ?_
  refine case_lt (fun (r : Int × Int × Int) => AV.v (arcV (r))) fun _ => ?_
  refine case_lt (fun (r : Int × Int × Int) => AV.v (arcV (r))) fun _ => ?_
  refine case_lt (fun (r : Int × Int × Int) => AV.v (arcV (r))) fun _ => ?_
  refine case_lt (fun (r : Int × Int × Int) => AV.v (arcV (r))) fun _ => ?_
  refine case_lt (fun (r : Int × Int × Int) => AV.v (arcV (r))) fun _ => ?_
  refine case_lt (fun (r : Int × Int × Int) => AV.v (arcV (r))) fun _ => ?_
  refine case_lt (fun (r : Int × Int × Int) => AV.v (arcV (r))) fun _ => ?_
  refine case_lt (fun (r : Int × Int × Int) => AV.v (arcV (r))) fun _ => ?_
  refine case_lt (fun (r : Int × Int × Int) => AV.v (arcV (r))) fun _ => ?_
  refine case_cond (fun (r : Int × Int × Int) => AV.v (arcV (r))) ?_ ?_
  · rfl
  · refine case_lt (fun (r : Int × Int × Int) => AV.v (arcV (r))) fun _ => ?_
    rfl
noncomputable def caziM (a b c d e f : Int) : Int × Int × Int :=
  lt (csinV a b) fun x2 =>
  lt (csinC 0 a b) fun x1 =>
  lt (ccosV a b) fun x4 =>
  lt (ccosC x1 a b) fun x3 =>
  lt (csinV c d) fun x6 =>
  lt (csinC x3 c d) fun x5 =>
  lt (ccosV c d) fun x8 =>
  lt (ccosC x5 c d) fun x7 =>
  lt (csinV e f) fun x10 =>
  lt (csinC x7 e f) fun x9 =>
  lt (ccosV e f) fun x12 =>
  lt (ccosC x9 e f) fun x11 =>
  lt (cmulV x8.1 x8.2 x10.1 x10.2) fun x14 =>
  lt (cmulC x11 x8.1 x8.2 x10.1 x10.2) fun x13 =>
  lt (cnegV x14.1 x14.2) fun x16 =>
  lt (cnegC x13 x14.1 x14.2) fun x15 =>
  lt (cmulV x6.1 x6.2 x4.1 x4.2) fun x18 =>
  lt (cmulC x15 x6.1 x6.2 x4.1 x4.2) fun x17 =>
  lt (cmulV x8.1 x8.2 x12.1 x12.2) fun x20 =>
  lt (cmulC x17 x8.1 x8.2 x12.1 x12.2) fun x19 =>
  lt (cmulV x20.1 x20.2 x2.1 x2.2) fun x22 =>
  lt (cmulC x19 x20.1 x20.2 x2.1 x2.2) fun x21 =>
  lt (csubV x18.1 x18.2 x22.1 x22.2) fun x24 =>
  lt (csubC x21 x18.1 x18.2 x22.1 x22.2) fun x23 =>
  cond (x23 != 0)
  ((0, 0, x23))
  (lt (bearR x16.1 x16.2 x24.1 x24.2) fun x25 =>
   (x25.1, x25.2.1, x25.2.2))
noncomputable def book_caziM_gives : Book := [(90, ePP (fun a b c d => arcV (bearR a b c d))), (180, cPP 156 (fun a b c d => pairV (cmulV a b c d).1 (cmulV a b c d).2) cmulC), (181, cP 156 (fun a b => pairV (cnegV a b).1 (cnegV a b).2) cnegC), (182, cPP 156 (fun a b c d => pairV (csubV a b c d).1 (csubV a b c d).2) csubC), (218, cP 156 (fun a b => pairV (csinV a b).1 (csinV a b).2) csinC), (219, cP 156 (fun a b => pairV (ccosV a b).1 (ccosV a b).2) ccosC)]
theorem book_caziM_gives_ok : BookOk Tryz.prog book_caziM_gives := (bookOk_cons (ePP_ok (fun a b c d W _ => bear_any a b c d W)) (bookOk_cons (cPP_ok cmulV_mods) (bookOk_cons (cP_ok cnegV_mods) (bookOk_cons (cPP_ok csubV_mods) (bookOk_cons (cP_ok csinV_mods) (bookOk_cons (cP_ok ccosV_mods) bookOk_nil))))))
theorem caziM_gives_tree (a b c d e f : Int) : evF Tryz.prog [] Cs book_caziM_gives 20 6 123 ([.agg ⟨[.int .i64 a, .int .i64 b, .int .i64 c, .int .i64 d, .int .i64 e, .int .i64 f]⟩].map AV.v) [] [] last =
  lt (csinV a b) fun x2 =>
  lt (csinC 0 a b) fun x1 =>
  lt (ccosV a b) fun x4 =>
  lt (ccosC x1 a b) fun x3 =>
  lt (csinV c d) fun x6 =>
  lt (csinC x3 c d) fun x5 =>
  lt (ccosV c d) fun x8 =>
  lt (ccosC x5 c d) fun x7 =>
  lt (csinV e f) fun x10 =>
  lt (csinC x7 e f) fun x9 =>
  lt (ccosV e f) fun x12 =>
  lt (ccosC x9 e f) fun x11 =>
  lt (cmulV x8.1 x8.2 x10.1 x10.2) fun x14 =>
  lt (cmulC x11 x8.1 x8.2 x10.1 x10.2) fun x13 =>
  lt (cnegV x14.1 x14.2) fun x16 =>
  lt (cnegC x13 x14.1 x14.2) fun x15 =>
  lt (cmulV x6.1 x6.2 x4.1 x4.2) fun x18 =>
  lt (cmulC x15 x6.1 x6.2 x4.1 x4.2) fun x17 =>
  lt (cmulV x8.1 x8.2 x12.1 x12.2) fun x20 =>
  lt (cmulC x17 x8.1 x8.2 x12.1 x12.2) fun x19 =>
  lt (cmulV x20.1 x20.2 x2.1 x2.2) fun x22 =>
  lt (cmulC x19 x20.1 x20.2 x2.1 x2.2) fun x21 =>
  lt (csubV x18.1 x18.2 x22.1 x22.2) fun x24 =>
  lt (csubC x21 x18.1 x18.2 x22.1 x22.2) fun x23 =>
  cond (x23 != 0)
  (some (.v (.tuple ⟨[.agg ⟨[.int .i64 0, .int .i64 0]⟩, .int .i64 x23]⟩)))
  (lt (bearR x16.1 x16.2 x24.1 x24.2) fun x25 =>
   some (.v (.tuple ⟨[.agg ⟨[.int .i64 x25.1, .int .i64 x25.2.1]⟩, .int .i64 x25.2.2]⟩))) := by kernel_rfl
theorem caziM_gives (a b c d e f : Int) : Gives Tryz.prog 123 [.agg ⟨[.int .i64 a, .int .i64 b, .int .i64 c, .int .i64 d, .int .i64 e, .int .i64 f]⟩] (arcV (caziM a b c d e f)) := by
  refine evF_gives (E := []) mixed (by simp) Cs_ok book_caziM_gives_ok (lim := 20) (d := 6) (nm := []) ?_
  rw [caziM_gives_tree a b c d e f]
  unfold caziM
  refine case_lt (fun (r : Int × Int × Int) => AV.v (arcV (r))) fun _ => ?_
  refine case_lt (fun (r : Int × Int × Int) => AV.v (arcV (r))) fun _ => ?_
  refine case_lt (fun (r : Int × Int × Int) => AV.v (arcV (r))) fun _ => ?_
  refine case_lt (fun (r : Int × Int × Int) => AV.v (arcV (r))) fun _ => ?_
  refine case_lt (fun (r : Int × Int × Int) => AV.v (arcV (r))) fun _ => ?_
  refine case_lt (fun (r : Int × Int × Int) => AV.v (arcV (r))) fun _ => ?_
  refine case_lt (fun (r : Int × Int × Int) => AV.v (arcV (r))) fun _ => ?_
  refine case_lt (fun (r : Int × Int × Int) => AV.v (arcV (r))) fun _ => ?_
  refine case_lt (fun (r : Int × Int × Int) => AV.v (arcV (r))) fun _ => ?_
  refine case_lt (fun (r : Int × Int × Int) => AV.v (arcV (r))) fun _ => ?_
  refine case_lt (fun (r : Int × Int × Int) => AV.v (arcV (r))) fun _ => ?_
  refine case_lt (fun (r : Int × Int × Int) => AV.v (arcV (r))) fun _ => ?_
  refine case_lt (fun (r : Int × Int × Int) => AV.v (arcV (r))) fun _ => ?_
  refine case_lt (fun (r : Int × Int × Int) => AV.v (arcV (r))) fun _ => ?_
  refine case_lt (fun (r : Int × Int × Int) => AV.v (arcV (r))) fun _ => ?_
  refine case_lt (fun (r : Int × Int × Int) => AV.v (arcV (r))) fun _ => ?_
  refine case_lt (fun (r : Int × Int × Int) => AV.v (arcV (r))) fun _ => ?_
  refine case_lt (fun (r : Int × Int × Int) => AV.v (arcV (r))) fun _ => ?_
  refine case_lt (fun (r : Int × Int × Int) => AV.v (arcV (r))) fun _ => ?_
  refine case_lt (fun (r : Int × Int × Int) => AV.v (arcV (r))) fun _ => ?_
  refine case_lt (fun (r : Int × Int × Int) => AV.v (arcV (r))) fun _ => ?_
  refine case_lt (fun (r : Int × Int × Int) => AV.v (arcV (r))) fun _ => ?_
  refine case_lt (fun (r : Int × Int × Int) => AV.v (arcV (r))) fun _ => ?_
  refine case_lt (fun (r : Int × Int × Int) => AV.v (arcV (r))) fun _ => ?_
  refine case_cond (fun (r : Int × Int × Int) => AV.v (arcV (r))) ?_ ?_
  · rfl
  · refine case_lt (fun (r : Int × Int × Int) => AV.v (arcV (r))) fun _ => ?_
    rfl
noncomputable def cAltM (a b c d e f : Int) : Int × Int × Int :=
  cond (!(triB a b c d e f))
  ((0, 0, 1))
  (lt (caltM a b c d e f) fun x1 =>
   (x1.1, x1.2.1, x1.2.2))
noncomputable def book_cAltM_gives : Book := [(48, eT (fun a b c d e f => .bool (triB a b c d e f))), (122, eT (fun a b c d e f => arcV (caltM a b c d e f)))]
theorem book_cAltM_gives_ok : BookOk Tryz.prog book_cAltM_gives := (bookOk_cons (eT_ok triB_gives) (bookOk_cons (eT_ok caltM_gives) bookOk_nil))
theorem cAltM_gives_tree (a b c d e f : Int) : evF Tryz.prog [] Cs book_cAltM_gives 20 6 56 ([.agg ⟨[.int .i64 a, .int .i64 b, .int .i64 c, .int .i64 d, .int .i64 e, .int .i64 f]⟩].map AV.v) [] [] last =
  cond (!(triB a b c d e f))
  (some (.v (.tuple ⟨[.agg ⟨[.int .i64 0, .int .i64 0]⟩, .int .i64 1]⟩)))
  (lt (caltM a b c d e f) fun x1 =>
   some (.v (.tuple ⟨[.agg ⟨[.int .i64 x1.1, .int .i64 x1.2.1]⟩, .int .i64 x1.2.2]⟩))) := by kernel_rfl
theorem cAltM_gives (a b c d e f : Int) : Gives Tryz.prog 56 [.agg ⟨[.int .i64 a, .int .i64 b, .int .i64 c, .int .i64 d, .int .i64 e, .int .i64 f]⟩] (arcV (cAltM a b c d e f)) := by
  refine evF_gives (E := []) mixed (by simp) Cs_ok book_cAltM_gives_ok (lim := 20) (d := 6) (nm := []) ?_
  rw [cAltM_gives_tree a b c d e f]
  unfold cAltM
  refine case_cond (fun (r : Int × Int × Int) => AV.v (arcV (r))) ?_ ?_
  · rfl
  · refine case_lt (fun (r : Int × Int × Int) => AV.v (arcV (r))) fun _ => ?_
    rfl
noncomputable def cAziM (a b c d e f : Int) : Int × Int × Int :=
  cond (!(triB a b c d e f))
  ((0, 0, 1))
  (lt (caziM a b c d e f) fun x1 =>
   (x1.1, x1.2.1, x1.2.2))
noncomputable def book_cAziM_gives : Book := [(48, eT (fun a b c d e f => .bool (triB a b c d e f))), (123, eT (fun a b c d e f => arcV (caziM a b c d e f)))]
theorem book_cAziM_gives_ok : BookOk Tryz.prog book_cAziM_gives := (bookOk_cons (eT_ok triB_gives) (bookOk_cons (eT_ok caziM_gives) bookOk_nil))
theorem cAziM_gives_tree (a b c d e f : Int) : evF Tryz.prog [] Cs book_cAziM_gives 20 6 57 ([.agg ⟨[.int .i64 a, .int .i64 b, .int .i64 c, .int .i64 d, .int .i64 e, .int .i64 f]⟩].map AV.v) [] [] last =
  cond (!(triB a b c d e f))
  (some (.v (.tuple ⟨[.agg ⟨[.int .i64 0, .int .i64 0]⟩, .int .i64 1]⟩)))
  (lt (caziM a b c d e f) fun x1 =>
   some (.v (.tuple ⟨[.agg ⟨[.int .i64 x1.1, .int .i64 x1.2.1]⟩, .int .i64 x1.2.2]⟩))) := by kernel_rfl
theorem cAziM_gives (a b c d e f : Int) : Gives Tryz.prog 57 [.agg ⟨[.int .i64 a, .int .i64 b, .int .i64 c, .int .i64 d, .int .i64 e, .int .i64 f]⟩] (arcV (cAziM a b c d e f)) := by
  refine evF_gives (E := []) mixed (by simp) Cs_ok book_cAziM_gives_ok (lim := 20) (d := 6) (nm := []) ?_
  rw [cAziM_gives_tree a b c d e f]
  unfold cAziM
  refine case_cond (fun (r : Int × Int × Int) => AV.v (arcV (r))) ?_ ?_
  · rfl
  · refine case_lt (fun (r : Int × Int × Int) => AV.v (arcV (r))) fun _ => ?_
    rfl
noncomputable def csolM (a b c d e f : Int) : Int × Int × Int × Int × Int :=
  lt (cAltM a b c d e f) fun x1 =>
  cond (x1.2.2 != 0)
  ((0, 0, 0, 0, x1.2.2))
  (lt (cAziM a b c d e f) fun x2 =>
   cond (x2.2.2 != 0)
   ((0, 0, 0, 0, x2.2.2))
   ((x1.1, x1.2.1, x2.1, x2.2.1, 0)))
noncomputable def book_csolM_gives : Book := [(56, eT (fun a b c d e f => arcV (cAltM a b c d e f))), (57, eT (fun a b c d e f => arcV (cAziM a b c d e f)))]
theorem book_csolM_gives_ok : BookOk Tryz.prog book_csolM_gives := (bookOk_cons (eT_ok cAltM_gives) (bookOk_cons (eT_ok cAziM_gives) bookOk_nil))
theorem csolM_gives_tree (a b c d e f : Int) : evF Tryz.prog [] Cs book_csolM_gives 20 6 26 ([.agg ⟨[.int .i64 a, .int .i64 b, .int .i64 c, .int .i64 d, .int .i64 e, .int .i64 f]⟩].map AV.v) [] [] last =
  lt (cAltM a b c d e f) fun x1 =>
  cond (x1.2.2 != 0)
  (some (.v (.tuple ⟨[.agg ⟨[.int .i64 0, .int .i64 0, .int .i64 0, .int .i64 0]⟩, .int .i64 x1.2.2]⟩)))
  (lt (cAziM a b c d e f) fun x2 =>
   cond (x2.2.2 != 0)
   (some (.v (.tuple ⟨[.agg ⟨[.int .i64 0, .int .i64 0, .int .i64 0, .int .i64 0]⟩, .int .i64 x2.2.2]⟩)))
   (some (.v (.tuple ⟨[.agg ⟨[.int .i64 x1.1, .int .i64 x1.2.1, .int .i64 x2.1, .int .i64 x2.2.1]⟩, .int .i64 0]⟩)))) := by kernel_rfl
theorem csolM_gives (a b c d e f : Int) : Gives Tryz.prog 26 [.agg ⟨[.int .i64 a, .int .i64 b, .int .i64 c, .int .i64 d, .int .i64 e, .int .i64 f]⟩] (solV (csolM a b c d e f)) := by
  refine evF_gives (E := []) mixed (by simp) Cs_ok book_csolM_gives_ok (lim := 20) (d := 6) (nm := []) ?_
  rw [csolM_gives_tree a b c d e f]
  unfold csolM
  refine case_lt (fun (r : Int × Int × Int × Int × Int) => AV.v (solV (r))) fun _ => ?_
  refine case_cond (fun (r : Int × Int × Int × Int × Int) => AV.v (solV (r))) ?_ ?_
  · rfl
  · refine case_lt (fun (r : Int × Int × Int × Int × Int) => AV.v (solV (r))) fun _ => ?_
    refine case_cond (fun (r : Int × Int × Int × Int × Int) => AV.v (solV (r))) ?_ ?_
    · rfl
    · rfl
end Go.Proofs.YtmididlfnajhiaaGreatDoor

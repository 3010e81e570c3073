/-
  Half-angles: what each function gives.
-/
import Derived.Test.YtipjnfabodfkcaaGreatDoorFs
namespace Go.Proofs.YtipjnfabodfkcaaGreatDoor
open Ev

def wfixV (a b _e : Int) : Int × Int := (a, b)
def wfixC (k _a _b e : Int) : Int := keepE k e
noncomputable def book_wfixV_mods : Book := []
theorem book_wfixV_mods_ok : BookOk Tryz.prog book_wfixV_mods := bookOk_nil
theorem wfixV_mods_tree (k a b c : Int) : evF Tryz.prog [] Cs book_wfixV_mods 20 6 55 (.p [] 0 :: [.agg ⟨[.int .i64 a, .int .i64 b]⟩, .int .i64 c].map AV.v) [([], ⟨[.v (.int .i64 k)], 47⟩)] [] lastC =
  cond (k == 0)
  (some (.v (.agg ⟨[.int .i64 a, .int .i64 b]⟩), ⟨[.v (.int .i64 c)], 47⟩))
  (some (.v (.agg ⟨[.int .i64 a, .int .i64 b]⟩), ⟨[.v (.int .i64 k)], 47⟩)) := by kernel_rfl
theorem wfixV_mods (k a b c : Int) : Mods Tryz.prog 55 47 k [.agg ⟨[.int .i64 a, .int .i64 b]⟩, .int .i64 c] (pairV (wfixV a b c).1 (wfixV a b c).2) (wfixC k a b c) := by
  refine evF_mods (E := []) mixed (by simp) Cs_ok book_wfixV_mods_ok (lim := 20) (d := 6) (nm := []) ?_
  rw [wfixV_mods_tree k a b c]
  unfold wfixC keepE
  by_cases h : k = 0
  · simp [h]; rfl
  · have e : (k == 0) = false := beq_eq_false_iff_ne.2 h
    rw [e]
    simp [h]; rfl
def arcW (a b _e : Int) : Int × Int := (a, b)
def arcC (k _a _b e : Int) : Int := keepE k e
noncomputable def book_arcW_mods : Book := []
theorem book_arcW_mods_ok : BookOk Tryz.prog book_arcW_mods := bookOk_nil
theorem arcW_mods_tree (k a b c : Int) : evF Tryz.prog [] Cs book_arcW_mods 20 6 27 (.p [] 0 :: [.agg ⟨[.int .i64 a, .int .i64 b]⟩, .int .i64 c].map AV.v) [([], ⟨[.v (.int .i64 k)], 47⟩)] [] lastC =
  cond (k == 0)
  (some (.v (.agg ⟨[.int .i64 a, .int .i64 b]⟩), ⟨[.v (.int .i64 c)], 47⟩))
  (some (.v (.agg ⟨[.int .i64 a, .int .i64 b]⟩), ⟨[.v (.int .i64 k)], 47⟩)) := by kernel_rfl
theorem arcW_mods (k a b c : Int) : Mods Tryz.prog 27 47 k [.agg ⟨[.int .i64 a, .int .i64 b]⟩, .int .i64 c] (pairV (arcW a b c).1 (arcW a b c).2) (arcC k a b c) := by
  refine evF_mods (E := []) mixed (by simp) Cs_ok book_arcW_mods_ok (lim := 20) (d := 6) (nm := []) ?_
  rw [arcW_mods_tree k a b c]
  unfold arcC keepE
  by_cases h : k = 0
  · simp [h]; rfl
  · have e : (k == 0) = false := beq_eq_false_iff_ne.2 h
    rw [e]
    simp [h]; rfl
noncomputable def wsinV (a b : Int) : Int × Int := ((sinR a b).1, (sinR a b).2.1)
noncomputable def wsinC (k a b : Int) : Int := keepE k (sinR a b).2.2
noncomputable def book_wsinV_mods : Book := [(55, cPI 47 (fun a b c => pairV (wfixV a b c).1 (wfixV a b c).2) wfixC), (71, eP (fun a b => arcV (sinR a b)))]
theorem book_wsinV_mods_ok : BookOk Tryz.prog book_wsinV_mods := (bookOk_cons (cPI_ok wfixV_mods) (bookOk_cons (eP_ok (fun a b W _ => sin_r a b W)) bookOk_nil))
theorem wsinV_mods_tree (k a b : Int) : evF Tryz.prog [] Cs book_wsinV_mods 20 6 29 (.p [] 0 :: [.agg ⟨[.int .i64 a, .int .i64 b]⟩].map AV.v) [([], ⟨[.v (.int .i64 k)], 47⟩)] [] lastC =
  lt (sinR a b) fun x1 =>
  lt (wfixV x1.1 x1.2.1 x1.2.2) fun x3 =>
  lt (wfixC k x1.1 x1.2.1 x1.2.2) fun x2 =>
  some (.v (.agg ⟨[.int .i64 x3.1, .int .i64 x3.2]⟩), ⟨[.v (.int .i64 x2)], 47⟩) := by kernel_rfl
theorem wsinV_mods (k a b : Int) : Mods Tryz.prog 29 47 k [.agg ⟨[.int .i64 a, .int .i64 b]⟩] (pairV (wsinV a b).1 (wsinV a b).2) (wsinC k a b) := by
  refine evF_mods (E := []) mixed (by simp) Cs_ok book_wsinV_mods_ok (lim := 20) (d := 6) (nm := []) ?_
  rw [wsinV_mods_tree k a b]
  rfl
noncomputable def wcosV (a b : Int) : Int × Int := ((cosR a b).1, (cosR a b).2.1)
noncomputable def wcosC (k a b : Int) : Int := keepE k (cosR a b).2.2
noncomputable def book_wcosV_mods : Book := [(55, cPI 47 (fun a b c => pairV (wfixV a b c).1 (wfixV a b c).2) wfixC), (72, eP (fun a b => arcV (cosR a b)))]
theorem book_wcosV_mods_ok : BookOk Tryz.prog book_wcosV_mods := (bookOk_cons (cPI_ok wfixV_mods) (bookOk_cons (eP_ok (fun a b W _ => cos_r a b W)) bookOk_nil))
theorem wcosV_mods_tree (k a b : Int) : evF Tryz.prog [] Cs book_wcosV_mods 20 6 30 (.p [] 0 :: [.agg ⟨[.int .i64 a, .int .i64 b]⟩].map AV.v) [([], ⟨[.v (.int .i64 k)], 47⟩)] [] lastC =
  lt (cosR a b) fun x1 =>
  lt (wfixV x1.1 x1.2.1 x1.2.2) fun x3 =>
  lt (wfixC k x1.1 x1.2.1 x1.2.2) fun x2 =>
  some (.v (.agg ⟨[.int .i64 x3.1, .int .i64 x3.2]⟩), ⟨[.v (.int .i64 x2)], 47⟩) := by kernel_rfl
theorem wcosV_mods (k a b : Int) : Mods Tryz.prog 30 47 k [.agg ⟨[.int .i64 a, .int .i64 b]⟩] (pairV (wcosV a b).1 (wcosV a b).2) (wcosC k a b) := by
  refine evF_mods (E := []) mixed (by simp) Cs_ok book_wcosV_mods_ok (lim := 20) (d := 6) (nm := []) ?_
  rw [wcosV_mods_tree k a b]
  rfl
noncomputable def whavV (a b : Int) : Int × Int := ((havR a b).1, (havR a b).2.1)
noncomputable def whavC (k a b : Int) : Int := keepE k (havR a b).2.2
noncomputable def book_whavV_mods : Book := [(55, cPI 47 (fun a b c => pairV (wfixV a b c).1 (wfixV a b c).2) wfixC), (100, eP (fun a b => arcV (havR a b)))]
theorem book_whavV_mods_ok : BookOk Tryz.prog book_whavV_mods := (bookOk_cons (cPI_ok wfixV_mods) (bookOk_cons (eP_ok (fun a b W _ => hav_r a b W)) bookOk_nil))
theorem whavV_mods_tree (k a b : Int) : evF Tryz.prog [] Cs book_whavV_mods 20 6 57 (.p [] 0 :: [.agg ⟨[.int .i64 a, .int .i64 b]⟩].map AV.v) [([], ⟨[.v (.int .i64 k)], 47⟩)] [] lastC =
  lt (havR a b) fun x1 =>
  lt (wfixV x1.1 x1.2.1 x1.2.2) fun x3 =>
  lt (wfixC k x1.1 x1.2.1 x1.2.2) fun x2 =>
  some (.v (.agg ⟨[.int .i64 x3.1, .int .i64 x3.2]⟩), ⟨[.v (.int .i64 x2)], 47⟩) := by kernel_rfl
theorem whavV_mods (k a b : Int) : Mods Tryz.prog 57 47 k [.agg ⟨[.int .i64 a, .int .i64 b]⟩] (pairV (whavV a b).1 (whavV a b).2) (whavC k a b) := by
  refine evF_mods (E := []) mixed (by simp) Cs_ok book_whavV_mods_ok (lim := 20) (d := 6) (nm := []) ?_
  rw [whavV_mods_tree k a b]
  rfl
noncomputable def wmulV (a b c d : Int) : Int × Int := ((mulR a b c d).1, (mulR a b c d).2.1)
noncomputable def wmulC (k a b c d : Int) : Int := keepE k (mulR a b c d).2.2
noncomputable def book_wmulV_mods : Book := [(55, cPI 47 (fun a b c => pairV (wfixV a b c).1 (wfixV a b c).2) wfixC), (73, ePP (fun a b c d => arcV (mulR a b c d)))]
theorem book_wmulV_mods_ok : BookOk Tryz.prog book_wmulV_mods := (bookOk_cons (cPI_ok wfixV_mods) (bookOk_cons (ePP_ok mulR_gives) bookOk_nil))
theorem wmulV_mods_tree (k a b c d : Int) : evF Tryz.prog [] Cs book_wmulV_mods 20 6 31 (.p [] 0 :: [.agg ⟨[.int .i64 a, .int .i64 b]⟩, .agg ⟨[.int .i64 c, .int .i64 d]⟩].map AV.v) [([], ⟨[.v (.int .i64 k)], 47⟩)] [] lastC =
  lt (mulR a b c d) fun x1 =>
  lt (wfixV x1.1 x1.2.1 x1.2.2) fun x3 =>
  lt (wfixC k x1.1 x1.2.1 x1.2.2) fun x2 =>
  some (.v (.agg ⟨[.int .i64 x3.1, .int .i64 x3.2]⟩), ⟨[.v (.int .i64 x2)], 47⟩) := by kernel_rfl
theorem wmulV_mods (k a b c d : Int) : Mods Tryz.prog 31 47 k [.agg ⟨[.int .i64 a, .int .i64 b]⟩, .agg ⟨[.int .i64 c, .int .i64 d]⟩] (pairV (wmulV a b c d).1 (wmulV a b c d).2) (wmulC k a b c d) := by
  refine evF_mods (E := []) mixed (by simp) Cs_ok book_wmulV_mods_ok (lim := 20) (d := 6) (nm := []) ?_
  rw [wmulV_mods_tree k a b c d]
  rfl
noncomputable def wplusV (a b c d : Int) : Int × Int := ((aaddR a b c d).1, (aaddR a b c d).2.1)
noncomputable def wplusC (k a b c d : Int) : Int := keepE k (aaddR a b c d).2.2
noncomputable def book_wplusV_mods : Book := [(27, cPI 47 (fun a b c => pairV (arcW a b c).1 (arcW a b c).2) arcC), (69, ePP (fun a b c d => arcV (aaddR a b c d)))]
theorem book_wplusV_mods_ok : BookOk Tryz.prog book_wplusV_mods := (bookOk_cons (cPI_ok arcW_mods) (bookOk_cons (ePP_ok aaddR_gives) bookOk_nil))
theorem wplusV_mods_tree (k a b c d : Int) : evF Tryz.prog [] Cs book_wplusV_mods 20 6 26 (.p [] 0 :: [.agg ⟨[.int .i64 a, .int .i64 b]⟩, .agg ⟨[.int .i64 c, .int .i64 d]⟩].map AV.v) [([], ⟨[.v (.int .i64 k)], 47⟩)] [] lastC =
  lt (aaddR a b c d) fun x1 =>
  lt (arcW x1.1 x1.2.1 x1.2.2) fun x3 =>
  lt (arcC k x1.1 x1.2.1 x1.2.2) fun x2 =>
  some (.v (.agg ⟨[.int .i64 x3.1, .int .i64 x3.2]⟩), ⟨[.v (.int .i64 x2)], 47⟩) := by kernel_rfl
theorem wplusV_mods (k a b c d : Int) : Mods Tryz.prog 26 47 k [.agg ⟨[.int .i64 a, .int .i64 b]⟩, .agg ⟨[.int .i64 c, .int .i64 d]⟩] (pairV (wplusV a b c d).1 (wplusV a b c d).2) (wplusC k a b c d) := by
  refine evF_mods (E := []) mixed (by simp) Cs_ok book_wplusV_mods_ok (lim := 20) (d := 6) (nm := []) ?_
  rw [wplusV_mods_tree k a b c d]
  rfl
noncomputable def wminV (a b c d : Int) : Int × Int := ((asubR a b c d).1, (asubR a b c d).2.1)
noncomputable def wminC (k a b c d : Int) : Int := keepE k (asubR a b c d).2.2
noncomputable def book_wminV_mods : Book := [(27, cPI 47 (fun a b c => pairV (arcW a b c).1 (arcW a b c).2) arcC), (67, ePP (fun a b c d => arcV (asubR a b c d)))]
theorem book_wminV_mods_ok : BookOk Tryz.prog book_wminV_mods := (bookOk_cons (cPI_ok arcW_mods) (bookOk_cons (ePP_ok asubR_gives) bookOk_nil))
theorem wminV_mods_tree (k a b c d : Int) : evF Tryz.prog [] Cs book_wminV_mods 20 6 24 (.p [] 0 :: [.agg ⟨[.int .i64 a, .int .i64 b]⟩, .agg ⟨[.int .i64 c, .int .i64 d]⟩].map AV.v) [([], ⟨[.v (.int .i64 k)], 47⟩)] [] lastC =
  lt (asubR a b c d) fun x1 =>
  lt (arcW x1.1 x1.2.1 x1.2.2) fun x3 =>
  lt (arcC k x1.1 x1.2.1 x1.2.2) fun x2 =>
  some (.v (.agg ⟨[.int .i64 x3.1, .int .i64 x3.2]⟩), ⟨[.v (.int .i64 x2)], 47⟩) := by kernel_rfl
theorem wminV_mods (k a b c d : Int) : Mods Tryz.prog 24 47 k [.agg ⟨[.int .i64 a, .int .i64 b]⟩, .agg ⟨[.int .i64 c, .int .i64 d]⟩] (pairV (wminV a b c d).1 (wminV a b c d).2) (wminC k a b c d) := by
  refine evF_mods (E := []) mixed (by simp) Cs_ok book_wminV_mods_ok (lim := 20) (d := 6) (nm := []) ?_
  rw [wminV_mods_tree k a b c d]
  rfl
noncomputable def wpartV (a b c d : Int) : Int × Int := ((timR a b c d).1, (timR a b c d).2.1)
noncomputable def wpartC (k a b c d : Int) : Int := keepE k (timR a b c d).2.2
noncomputable def book_wpartV_mods : Book := [(27, cPI 47 (fun a b c => pairV (arcW a b c).1 (arcW a b c).2) arcC), (68, ePII (fun a b c d => arcV (timR a b c d)))]
theorem book_wpartV_mods_ok : BookOk Tryz.prog book_wpartV_mods := (bookOk_cons (cPI_ok arcW_mods) (bookOk_cons (ePII_ok timR_gives) bookOk_nil))
theorem wpartV_mods_tree (k a b c d : Int) : evF Tryz.prog [] Cs book_wpartV_mods 20 6 25 (.p [] 0 :: [.agg ⟨[.int .i64 a, .int .i64 b]⟩, .int .i64 c, .int .i64 d].map AV.v) [([], ⟨[.v (.int .i64 k)], 47⟩)] [] lastC =
  lt (timR a b c d) fun x1 =>
  lt (arcW x1.1 x1.2.1 x1.2.2) fun x3 =>
  lt (arcC k x1.1 x1.2.1 x1.2.2) fun x2 =>
  some (.v (.agg ⟨[.int .i64 x3.1, .int .i64 x3.2]⟩), ⟨[.v (.int .i64 x2)], 47⟩) := by kernel_rfl
theorem wpartV_mods (k a b c d : Int) : Mods Tryz.prog 25 47 k [.agg ⟨[.int .i64 a, .int .i64 b]⟩, .int .i64 c, .int .i64 d] (pairV (wpartV a b c d).1 (wpartV a b c d).2) (wpartC k a b c d) := by
  refine evF_mods (E := []) mixed (by simp) Cs_ok book_wpartV_mods_ok (lim := 20) (d := 6) (nm := []) ?_
  rw [wpartV_mods_tree k a b c d]
  rfl
noncomputable def wbeaV (a b c d : Int) : Int × Int := ((bearR a b c d).1, (bearR a b c d).2.1)
noncomputable def wbeaC (k a b c d : Int) : Int := keepE k (bearR a b c d).2.2
noncomputable def book_wbeaV_mods : Book := [(27, cPI 47 (fun a b c => pairV (arcW a b c).1 (arcW a b c).2) arcC), (74, ePP (fun a b c d => arcV (bearR a b c d)))]
theorem book_wbeaV_mods_ok : BookOk Tryz.prog book_wbeaV_mods := (bookOk_cons (cPI_ok arcW_mods) (bookOk_cons (ePP_ok (fun a b c d W _ => bear_any a b c d W)) bookOk_nil))
theorem wbeaV_mods_tree (k a b c d : Int) : evF Tryz.prog [] Cs book_wbeaV_mods 20 6 32 (.p [] 0 :: [.agg ⟨[.int .i64 a, .int .i64 b]⟩, .agg ⟨[.int .i64 c, .int .i64 d]⟩].map AV.v) [([], ⟨[.v (.int .i64 k)], 47⟩)] [] lastC =
  lt (bearR a b c d) fun x1 =>
  lt (arcW x1.1 x1.2.1 x1.2.2) fun x3 =>
  lt (arcC k x1.1 x1.2.1 x1.2.2) fun x2 =>
  some (.v (.agg ⟨[.int .i64 x3.1, .int .i64 x3.2]⟩), ⟨[.v (.int .i64 x2)], 47⟩) := by kernel_rfl
theorem wbeaV_mods (k a b c d : Int) : Mods Tryz.prog 32 47 k [.agg ⟨[.int .i64 a, .int .i64 b]⟩, .agg ⟨[.int .i64 c, .int .i64 d]⟩] (pairV (wbeaV a b c d).1 (wbeaV a b c d).2) (wbeaC k a b c d) := by
  refine evF_mods (E := []) mixed (by simp) Cs_ok book_wbeaV_mods_ok (lim := 20) (d := 6) (nm := []) ?_
  rw [wbeaV_mods_tree k a b c d]
  rfl
noncomputable def whypV (a b c d : Int) : Int × Int := ((sqtR (addR (sqrR a b).1 (sqrR a b).2.1 (sqrR c d).1 (sqrR c d).2.1).1 (addR (sqrR a b).1 (sqrR a b).2.1 (sqrR c d).1 (sqrR c d).2.1).2.1).1, (sqtR (addR (sqrR a b).1 (sqrR a b).2.1 (sqrR c d).1 (sqrR c d).2.1).1 (addR (sqrR a b).1 (sqrR a b).2.1 (sqrR c d).1 (sqrR c d).2.1).2.1).2.1)
noncomputable def whypC (k a b c d : Int) : Int := keepE (keepE (keepE (keepE k (sqrR a b).2.2) (sqrR c d).2.2) (addR (sqrR a b).1 (sqrR a b).2.1 (sqrR c d).1 (sqrR c d).2.1).2.2) (sqtR (addR (sqrR a b).1 (sqrR a b).2.1 (sqrR c d).1 (sqrR c d).2.1).1 (addR (sqrR a b).1 (sqrR a b).2.1 (sqrR c d).1 (sqrR c d).2.1).2.1).2.2
noncomputable def book_whypV_mods : Book := [(55, cPI 47 (fun a b c => pairV (wfixV a b c).1 (wfixV a b c).2) wfixC), (56, ePP (fun a b c d => arcV (addR a b c d))), (58, eP (fun a b => arcV (sqtR a b))), (75, eP (fun a b => arcV (sqrR a b)))]
theorem book_whypV_mods_ok : BookOk Tryz.prog book_whypV_mods := (bookOk_cons (cPI_ok wfixV_mods) (bookOk_cons (ePP_ok addR_gives) (bookOk_cons (eP_ok sqtR_gives) (bookOk_cons (eP_ok sqrR_gives) bookOk_nil))))
theorem whypV_mods_tree (k a b c d : Int) : evF Tryz.prog [] Cs book_whypV_mods 20 6 33 (.p [] 0 :: [.agg ⟨[.int .i64 a, .int .i64 b]⟩, .agg ⟨[.int .i64 c, .int .i64 d]⟩].map AV.v) [([], ⟨[.v (.int .i64 k)], 47⟩)] [] lastC =
  lt (sqrR a b) fun x1 =>
  lt (wfixV x1.1 x1.2.1 x1.2.2) fun x3 =>
  lt (wfixC k x1.1 x1.2.1 x1.2.2) fun x2 =>
  lt (sqrR c d) fun x4 =>
  lt (wfixV x4.1 x4.2.1 x4.2.2) fun x6 =>
  lt (wfixC x2 x4.1 x4.2.1 x4.2.2) fun x5 =>
  lt (addR x3.1 x3.2 x6.1 x6.2) fun x7 =>
  lt (wfixV x7.1 x7.2.1 x7.2.2) fun x9 =>
  lt (wfixC x5 x7.1 x7.2.1 x7.2.2) fun x8 =>
  lt (sqtR x9.1 x9.2) fun x10 =>
  lt (wfixV x10.1 x10.2.1 x10.2.2) fun x12 =>
  lt (wfixC x8 x10.1 x10.2.1 x10.2.2) fun x11 =>
  some (.v (.agg ⟨[.int .i64 x12.1, .int .i64 x12.2]⟩), ⟨[.v (.int .i64 x11)], 47⟩) := by kernel_rfl
theorem whypV_mods (k a b c d : Int) : Mods Tryz.prog 33 47 k [.agg ⟨[.int .i64 a, .int .i64 b]⟩, .agg ⟨[.int .i64 c, .int .i64 d]⟩] (pairV (whypV a b c d).1 (whypV a b c d).2) (whypC k a b c d) := by
  refine evF_mods (E := []) mixed (by simp) Cs_ok book_whypV_mods_ok (lim := 20) (d := 6) (nm := []) ?_
  rw [whypV_mods_tree k a b c d]
  rfl
noncomputable def wallM (a b : Int) : Bool :=
  (decide (IntKind.i64.wrap (b - a) ≥ 21600000))
noncomputable def book_wallM_gives : Book := []
theorem book_wallM_gives_ok : BookOk Tryz.prog book_wallM_gives := bookOk_nil
theorem wallM_gives_tree (a b : Int) : evF Tryz.prog [] Cs book_wallM_gives 20 6 34 ([.agg ⟨[.int .i64 a, .int .i64 b]⟩].map AV.v) [] [] last =
  some (.v (.bool (decide (IntKind.i64.wrap (b - a) ≥ 21600000)))) := by kernel_rfl
theorem wallM_gives (a b : Int) : Gives Tryz.prog 34 [.agg ⟨[.int .i64 a, .int .i64 b]⟩] (.bool (wallM a b)) := by
  refine evF_gives (E := []) mixed (by simp) Cs_ok book_wallM_gives_ok (lim := 20) (d := 6) (nm := []) ?_
  rw [wallM_gives_tree a b]
  rfl
noncomputable def hslM (a b c d e f : Int) : Int × Int × Int × Int × Int :=
  cond (!(triB a b c d e f))
  ((0, 0, 0, 0, 1))
  (lt (wminV 5400000 5400000 c d) fun x2 =>
   lt (wminC 0 5400000 5400000 c d) fun x1 =>
   lt (wminV 5400000 5400000 a b) fun x4 =>
   lt (wminC x1 5400000 5400000 a b) fun x3 =>
   lt (wplusV x2.1 x2.2 x4.1 x4.2) fun x6 =>
   lt (wplusC x3 x2.1 x2.2 x4.1 x4.2) fun x5 =>
   lt (wpartV x6.1 x6.2 1 2) fun x8 =>
   lt (wpartC x5 x6.1 x6.2 1 2) fun x7 =>
   lt (wminV x2.1 x2.2 x4.1 x4.2) fun x10 =>
   lt (wminC x7 x2.1 x2.2 x4.1 x4.2) fun x9 =>
   lt (wpartV x10.1 x10.2 1 2) fun x12 =>
   lt (wpartC x9 x10.1 x10.2 1 2) fun x11 =>
   lt (turnR e f) fun x13 =>
   lt (arcW x13.1 x13.2.1 x13.2.2) fun x15 =>
   lt (arcC x11 x13.1 x13.2.1 x13.2.2) fun x14 =>
   lt (wpartV x15.1 x15.2 1 2) fun x17 =>
   lt (wpartC x14 x15.1 x15.2 1 2) fun x16 =>
   lt (wcosV x8.1 x8.2) fun x19 =>
   lt (wcosC x16 x8.1 x8.2) fun x18 =>
   lt (wsinV x17.1 x17.2) fun x21 =>
   lt (wsinC x18 x17.1 x17.2) fun x20 =>
   lt (wmulV x19.1 x19.2 x21.1 x21.2) fun x23 =>
   lt (wmulC x20 x19.1 x19.2 x21.1 x21.2) fun x22 =>
   lt (wcosV x12.1 x12.2) fun x25 =>
   lt (wcosC x22 x12.1 x12.2) fun x24 =>
   lt (wcosV x17.1 x17.2) fun x27 =>
   lt (wcosC x24 x17.1 x17.2) fun x26 =>
   lt (wmulV x25.1 x25.2 x27.1 x27.2) fun x29 =>
   lt (wmulC x26 x25.1 x25.2 x27.1 x27.2) fun x28 =>
   lt (wsinV x8.1 x8.2) fun x31 =>
   lt (wsinC x28 x8.1 x8.2) fun x30 =>
   lt (wsinV x17.1 x17.2) fun x33 =>
   lt (wsinC x30 x17.1 x17.2) fun x32 =>
   lt (wmulV x31.1 x31.2 x33.1 x33.2) fun x35 =>
   lt (wmulC x32 x31.1 x31.2 x33.1 x33.2) fun x34 =>
   lt (wsinV x12.1 x12.2) fun x37 =>
   lt (wsinC x34 x12.1 x12.2) fun x36 =>
   lt (wcosV x17.1 x17.2) fun x39 =>
   lt (wcosC x36 x17.1 x17.2) fun x38 =>
   lt (wmulV x37.1 x37.2 x39.1 x39.2) fun x41 =>
   lt (wmulC x38 x37.1 x37.2 x39.1 x39.2) fun x40 =>
   lt (whypV x35.1 x35.2 x41.1 x41.2) fun x43 =>
   lt (whypC x40 x35.1 x35.2 x41.1 x41.2) fun x42 =>
   lt (whypV x23.1 x23.2 x29.1 x29.2) fun x45 =>
   lt (whypC x42 x23.1 x23.2 x29.1 x29.2) fun x44 =>
   lt (wbeaV x43.1 x43.2 x45.1 x45.2) fun x47 =>
   lt (wbeaC x44 x43.1 x43.2 x45.1 x45.2) fun x46 =>
   cond (x46 != 0)
   ((0, 0, 0, 0, x46))
   (cond (wallM x47.1 x47.2)
    ((0, 0, 0, 0, 24))
    (lt (wpartV x47.1 x47.2 2 1) fun x49 =>
     lt (wpartC x46 x47.1 x47.2 2 1) fun x48 =>
     lt (wminV 5400000 5400000 x49.1 x49.2) fun x51 =>
     lt (wminC x48 5400000 5400000 x49.1 x49.2) fun x50 =>
     lt (wbeaV x29.1 x29.2 x23.1 x23.2) fun x53 =>
     lt (wbeaC x50 x29.1 x29.2 x23.1 x23.2) fun x52 =>
     lt (wbeaV x41.1 x41.2 x35.1 x35.2) fun x55 =>
     lt (wbeaC x52 x41.1 x41.2 x35.1 x35.2) fun x54 =>
     cond (!(wallM x53.1 x53.2))
     (cond (!(wallM x55.1 x55.2))
      (lt (wplusV x53.1 x53.2 x55.1 x55.2) fun x57 =>
       lt (wplusC x54 x53.1 x53.2 x55.1 x55.2) fun x56 =>
       lt (anegR x57.1 x57.2) fun x58 =>
       lt (arcW x58.1 x58.2.1 x58.2.2) fun x60 =>
       lt (arcC x56 x58.1 x58.2.1 x58.2.2) fun x59 =>
       lt (turnR x60.1 x60.2) fun x61 =>
       lt (arcW x61.1 x61.2.1 x61.2.2) fun x63 =>
       lt (arcC x59 x61.1 x61.2.1 x61.2.2) fun x62 =>
       cond (x62 != 0)
       ((0, 0, 0, 0, x62))
       ((x51.1, x51.2, x63.1, x63.2, 0)))
      (cond (x54 != 0)
       ((0, 0, 0, 0, x54))
       ((x51.1, x51.2, 0, 21600000, 0))))
     (cond (x54 != 0)
      ((0, 0, 0, 0, x54))
      ((x51.1, x51.2, 0, 21600000, 0))))))
noncomputable def book_hslM_gives : Book := [(23, eT (fun a b c d e f => .bool (triB a b c d e f))), (24, cPP 47 (fun a b c d => pairV (wminV a b c d).1 (wminV a b c d).2) wminC), (25, cPII 47 (fun a b c d => pairV (wpartV a b c d).1 (wpartV a b c d).2) wpartC), (26, cPP 47 (fun a b c d => pairV (wplusV a b c d).1 (wplusV a b c d).2) wplusC), (27, cPI 47 (fun a b c => pairV (arcW a b c).1 (arcW a b c).2) arcC), (28, eP (fun a b => arcV (turnR a b))), (29, cP 47 (fun a b => pairV (wsinV a b).1 (wsinV a b).2) wsinC), (30, cP 47 (fun a b => pairV (wcosV a b).1 (wcosV a b).2) wcosC), (31, cPP 47 (fun a b c d => pairV (wmulV a b c d).1 (wmulV a b c d).2) wmulC), (32, cPP 47 (fun a b c d => pairV (wbeaV a b c d).1 (wbeaV a b c d).2) wbeaC), (33, cPP 47 (fun a b c d => pairV (whypV a b c d).1 (whypV a b c d).2) whypC), (34, eP (fun a b => .bool (wallM a b))), (35, eP (fun a b => arcV (anegR a b)))]
theorem book_hslM_gives_ok : BookOk Tryz.prog book_hslM_gives := (bookOk_cons (eT_ok triB_gives) (bookOk_cons (cPP_ok wminV_mods) (bookOk_cons (cPII_ok wpartV_mods) (bookOk_cons (cPP_ok wplusV_mods) (bookOk_cons (cPI_ok arcW_mods) (bookOk_cons (eP_ok turnR_gives) (bookOk_cons (cP_ok wsinV_mods) (bookOk_cons (cP_ok wcosV_mods) (bookOk_cons (cPP_ok wmulV_mods) (bookOk_cons (cPP_ok wbeaV_mods) (bookOk_cons (cPP_ok whypV_mods) (bookOk_cons (eP_ok wallM_gives) (bookOk_cons (eP_ok anegR_gives) bookOk_nil)))))))))))))
theorem hslM_gives_tree (a b c d e f : Int) : evF Tryz.prog [] Cs book_hslM_gives 20 6 7 ([.agg ⟨[.int .i64 a, .int .i64 b, .int .i64 c, .int .i64 d, .int .i64 e, .int .i64 f]⟩].map AV.v) [] [] last =
  cond (!(triB a b c d e f))
  (some (.v (.tuple ⟨[.agg ⟨[.int .i64 0, .int .i64 0, .int .i64 0, .int .i64 0]⟩, .int .i64 1]⟩)))
  (lt (wminV 5400000 5400000 c d) fun x2 =>
   lt (wminC 0 5400000 5400000 c d) fun x1 =>
   lt (wminV 5400000 5400000 a b) fun x4 =>
   lt (wminC x1 5400000 5400000 a b) fun x3 =>
   lt (wplusV x2.1 x2.2 x4.1 x4.2) fun x6 =>
   lt (wplusC x3 x2.1 x2.2 x4.1 x4.2) fun x5 =>
   lt (wpartV x6.1 x6.2 1 2) fun x8 =>
   lt (wpartC x5 x6.1 x6.2 1 2) fun x7 =>
   lt (wminV x2.1 x2.2 x4.1 x4.2) fun x10 =>
   lt (wminC x7 x2.1 x2.2 x4.1 x4.2) fun x9 =>
   lt (wpartV x10.1 x10.2 1 2) fun x12 =>
   lt (wpartC x9 x10.1 x10.2 1 2) fun x11 =>
   lt (turnR e f) fun x13 =>
   lt (arcW x13.1 x13.2.1 x13.2.2) fun x15 =>
   lt (arcC x11 x13.1 x13.2.1 x13.2.2) fun x14 =>
   lt (wpartV x15.1 x15.2 1 2) fun x17 =>
   lt (wpartC x14 x15.1 x15.2 1 2) fun x16 =>
   lt (wcosV x8.1 x8.2) fun x19 =>
   lt (wcosC x16 x8.1 x8.2) fun x18 =>
   lt (wsinV x17.1 x17.2) fun x21 =>
   lt (wsinC x18 x17.1 x17.2) fun x20 =>
   lt (wmulV x19.1 x19.2 x21.1 x21.2) fun x23 =>
   lt (wmulC x20 x19.1 x19.2 x21.1 x21.2) fun x22 =>
   lt (wcosV x12.1 x12.2) fun x25 =>
   lt (wcosC x22 x12.1 x12.2) fun x24 =>
   lt (wcosV x17.1 x17.2) fun x27 =>
   lt (wcosC x24 x17.1 x17.2) fun x26 =>
   lt (wmulV x25.1 x25.2 x27.1 x27.2) fun x29 =>
   lt (wmulC x26 x25.1 x25.2 x27.1 x27.2) fun x28 =>
   lt (wsinV x8.1 x8.2) fun x31 =>
   lt (wsinC x28 x8.1 x8.2) fun x30 =>
   lt (wsinV x17.1 x17.2) fun x33 =>
   lt (wsinC x30 x17.1 x17.2) fun x32 =>
   lt (wmulV x31.1 x31.2 x33.1 x33.2) fun x35 =>
   lt (wmulC x32 x31.1 x31.2 x33.1 x33.2) fun x34 =>
   lt (wsinV x12.1 x12.2) fun x37 =>
   lt (wsinC x34 x12.1 x12.2) fun x36 =>
   lt (wcosV x17.1 x17.2) fun x39 =>
   lt (wcosC x36 x17.1 x17.2) fun x38 =>
   lt (wmulV x37.1 x37.2 x39.1 x39.2) fun x41 =>
   lt (wmulC x38 x37.1 x37.2 x39.1 x39.2) fun x40 =>
   lt (whypV x35.1 x35.2 x41.1 x41.2) fun x43 =>
   lt (whypC x40 x35.1 x35.2 x41.1 x41.2) fun x42 =>
   lt (whypV x23.1 x23.2 x29.1 x29.2) fun x45 =>
   lt (whypC x42 x23.1 x23.2 x29.1 x29.2) fun x44 =>
   lt (wbeaV x43.1 x43.2 x45.1 x45.2) fun x47 =>
   lt (wbeaC x44 x43.1 x43.2 x45.1 x45.2) fun x46 =>
   cond (x46 != 0)
   (some (.v (.tuple ⟨[.agg ⟨[.int .i64 0, .int .i64 0, .int .i64 0, .int .i64 0]⟩, .int .i64 x46]⟩)))
   (cond (wallM x47.1 x47.2)
    (some (.v (.tuple ⟨[.agg ⟨[.int .i64 0, .int .i64 0, .int .i64 0, .int .i64 0]⟩, .int .i64 24]⟩)))
    (lt (wpartV x47.1 x47.2 2 1) fun x49 =>
     lt (wpartC x46 x47.1 x47.2 2 1) fun x48 =>
     lt (wminV 5400000 5400000 x49.1 x49.2) fun x51 =>
     lt (wminC x48 5400000 5400000 x49.1 x49.2) fun x50 =>
     lt (wbeaV x29.1 x29.2 x23.1 x23.2) fun x53 =>
     lt (wbeaC x50 x29.1 x29.2 x23.1 x23.2) fun x52 =>
     lt (wbeaV x41.1 x41.2 x35.1 x35.2) fun x55 =>
     lt (wbeaC x52 x41.1 x41.2 x35.1 x35.2) fun x54 =>
     cond (!(wallM x53.1 x53.2))
     (cond (!(wallM x55.1 x55.2))
      (lt (wplusV x53.1 x53.2 x55.1 x55.2) fun x57 =>
       lt (wplusC x54 x53.1 x53.2 x55.1 x55.2) fun x56 =>
       lt (anegR x57.1 x57.2) fun x58 =>
       lt (arcW x58.1 x58.2.1 x58.2.2) fun x60 =>
       lt (arcC x56 x58.1 x58.2.1 x58.2.2) fun x59 =>
       lt (turnR x60.1 x60.2) fun x61 =>
       lt (arcW x61.1 x61.2.1 x61.2.2) fun x63 =>
       lt (arcC x59 x61.1 x61.2.1 x61.2.2) fun x62 =>
       cond (x62 != 0)
       (some (.v (.tuple ⟨[.agg ⟨[.int .i64 0, .int .i64 0, .int .i64 0, .int .i64 0]⟩, .int .i64 x62]⟩)))
       (some (.v (.tuple ⟨[.agg ⟨[.int .i64 x51.1, .int .i64 x51.2, .int .i64 x63.1, .int .i64 x63.2]⟩, .int .i64 0]⟩))))
      (cond (x54 != 0)
       (some (.v (.tuple ⟨[.agg ⟨[.int .i64 0, .int .i64 0, .int .i64 0, .int .i64 0]⟩, .int .i64 x54]⟩)))
       (some (.v (.tuple ⟨[.agg ⟨[.int .i64 x51.1, .int .i64 x51.2, .int .i64 0, .int .i64 21600000]⟩, .int .i64 0]⟩)))))
     (cond (x54 != 0)
      (some (.v (.tuple ⟨[.agg ⟨[.int .i64 0, .int .i64 0, .int .i64 0, .int .i64 0]⟩, .int .i64 x54]⟩)))
      (some (.v (.tuple ⟨[.agg ⟨[.int .i64 x51.1, .int .i64 x51.2, .int .i64 0, .int .i64 21600000]⟩, .int .i64 0]⟩))))))) := by kernel_rfl
theorem hslM_gives (a b c d e f : Int) : Gives Tryz.prog 7 [.agg ⟨[.int .i64 a, .int .i64 b, .int .i64 c, .int .i64 d, .int .i64 e, .int .i64 f]⟩] (solV (hslM a b c d e f)) := by
  refine evF_gives (E := []) mixed (by simp) Cs_ok book_hslM_gives_ok (lim := 20) (d := 6) (nm := []) ?_
  rw [hslM_gives_tree a b c d e f]
  unfold hslM
  refine case_cond (fun (r : Int × Int × Int × Int × Int) => AV.v (solV (r))) ?_ ?_
  · rfl
  · refine case_lt (fun (r : Int × Int × Int × Int × Int) => AV.v (solV (r))) fun _ => ?_
    refine case_lt (fun (r : Int × Int × Int × Int × Int) => AV.v (solV (r))) fun _ => ?_
    refine case_lt (fun (r : Int × Int × Int × Int × Int) => AV.v (solV (r))) fun _ => ?_
    refine case_lt (fun (r : Int × Int × Int × Int × Int) => AV.v (solV (r))) fun _ => ?_
    refine case_lt (fun (r : Int × Int × Int × Int × Int) => AV.v (solV (r))) fun _ => ?_
    refine case_lt (fun (r : Int × Int × Int × Int × Int) => AV.v (solV (r))) fun _ => ?_
    refine case_lt (fun (r : Int × Int × Int × Int × Int) => AV.v (solV (r))) fun _ => ?_
    refine case_lt (fun (r : Int × Int × Int × Int × Int) => AV.v (solV (r))) fun _ => ?_
    refine case_lt (fun (r : Int × Int × Int × Int × Int) => AV.v (solV (r))) fun _ => ?_
    refine case_lt (fun (r : Int × Int × Int × Int × Int) => AV.v (solV (r))) fun _ => ?_
    refine case_lt (fun (r : Int × Int × Int × Int × Int) => AV.v (solV (r))) fun _ => ?_
    refine case_lt (fun (r : Int × Int × Int × Int × Int) => AV.v (solV (r))) fun _ => ?_
    refine case_lt (fun (r : Int × Int × Int × Int × Int) => AV.v (solV (r))) fun _ => ?_
    refine case_lt (fun (r : Int × Int × Int × Int × Int) => AV.v (solV (r))) fun _ => ?_
    refine case_lt (fun (r : Int × Int × Int × Int × Int) => AV.v (solV (r))) fun _ => ?_
    refine case_lt (fun (r : Int × Int × Int × Int × Int) => AV.v (solV (r))) fun _ => ?_
    refine case_lt (fun (r : Int × Int × Int × Int × Int) => AV.v (solV (r))) fun _ => ?_
    refine case_lt (fun (r : Int × Int × Int × Int × Int) => AV.v (solV (r))) fun _ => ?_
    refine case_lt (fun (r : Int × Int × Int × Int × Int) => AV.v (solV (r))) fun _ => ?_
    refine case_lt (fun (r : Int × Int × Int × Int × Int) => AV.v (solV (r))) fun _ => ?_
    refine case_lt (fun (r : Int × Int × Int × Int × Int) => AV.v (solV (r))) fun _ => ?_
    refine case_lt (fun (r : Int × Int × Int × Int × Int) => AV.v (solV (r))) fun _ => ?_
    refine case_lt (fun (r : Int × Int × Int × Int × Int) => AV.v (solV (r))) fun _ => ?_
    refine case_lt (fun (r : Int × Int × Int × Int × Int) => AV.v (solV (r))) fun _ => ?_
    refine case_lt (fun (r : Int × Int × Int × Int × Int) => AV.v (solV (r))) fun _ => ?_
    refine case_lt (fun (r : Int × Int × Int × Int × Int) => AV.v (solV (r))) fun _ => ?_
    refine case_lt (fun (r : Int × Int × Int × Int × Int) => AV.v (solV (r))) fun _ => ?_
    refine case_lt (fun (r : Int × Int × Int × Int × Int) => AV.v (solV (r))) fun _ => ?_
    refine case_lt (fun (r : Int × Int × Int × Int × Int) => AV.v (solV (r))) fun _ => ?_
    refine case_lt (fun (r : Int × Int × Int × Int × Int) => AV.v (solV (r))) fun _ => ?_
    refine case_lt (fun (r : Int × Int × Int × Int × Int) => AV.v (solV (r))) fun _ => ?_
    refine case_lt (fun (r : Int × Int × Int × Int × Int) => AV.v (solV (r))) fun _ => ?_
    refine case_lt (fun (r : Int × Int × Int × Int × Int) => AV.v (solV (r))) fun _ => ?_
    refine case_lt (fun (r : Int × Int × Int × Int × Int) => AV.v (solV (r))) fun _ => ?_
    refine case_lt (fun (r : Int × Int × Int × Int × Int) => AV.v (solV (r))) fun _ => ?_
    refine case_lt (fun (r : Int × Int × Int × Int × Int) => AV.v (solV (r))) fun _ => ?_
    refine case_lt (fun (r : Int × Int × Int × Int × Int) => AV.v (solV (r))) fun _ => ?_
    refine case_lt (fun (r : Int × Int × Int × Int × Int) => AV.v (solV (r))) fun _ => ?_
    refine case_lt (fun (r : Int × Int × Int × Int × Int) => AV.v (solV (r))) fun _ => ?_
    refine case_lt (fun (r : Int × Int × Int × Int × Int) => AV.v (solV (r))) fun _ => ?_
    refine case_lt (fun (r : Int × Int × Int × Int × Int) => AV.v (solV (r))) fun _ => ?_
    refine case_lt (fun (r : Int × Int × Int × Int × Int) => AV.v (solV (r))) fun _ => ?_
    refine case_lt (fun (r : Int × Int × Int × Int × Int) => AV.v (solV (r))) fun _ => ?_
    refine case_lt (fun (r : Int × Int × Int × Int × Int) => AV.v (solV (r))) fun _ => ?_
    refine case_lt (fun (r : Int × Int × Int × Int × Int) => AV.v (solV (r))) fun _ => ?_
    refine case_lt (fun (r : Int × Int × Int × Int × Int) => AV.v (solV (r))) fun _ => ?_
    refine case_lt (fun (r : Int × Int × Int × Int × Int) => AV.v (solV (r))) fun _ => ?_
    refine case_cond (fun (r : Int × Int × Int × Int × Int) => AV.v (solV (r))) ?_ ?_
    · rfl
    · refine case_cond (fun (r : Int × Int × Int × Int × Int) => AV.v (solV (r))) ?_ ?_
      · rfl
      · refine case_lt (fun (r : Int × Int × Int × Int × Int) => AV.v (solV (r))) fun _ => ?_
        refine case_lt (fun (r : Int × Int × Int × Int × Int) => AV.v (solV (r))) fun _ => ?_
        refine case_lt (fun (r : Int × Int × Int × Int × Int) => AV.v (solV (r))) fun _ => ?_
        refine case_lt (fun (r : Int × Int × Int × Int × Int) => AV.v (solV (r))) fun _ => ?_
        refine case_lt (fun (r : Int × Int × Int × Int × Int) => AV.v (solV (r))) fun _ => ?_
        refine case_lt (fun (r : Int × Int × Int × Int × Int) => AV.v (solV (r))) fun _ => ?_
        refine case_lt (fun (r : Int × Int × Int × Int × Int) => AV.v (solV (r))) fun _ => ?_
        refine case_lt (fun (r : Int × Int × Int × Int × Int) => AV.v (solV (r))) fun _ => ?_
        refine case_cond (fun (r : Int × Int × Int × Int × Int) => AV.v (solV (r))) ?_ ?_
        · refine case_cond (fun (r : Int × Int × Int × Int × Int) => AV.v (solV (r))) ?_ ?_
          · refine case_lt (fun (r : Int × Int × Int × Int × Int) => AV.v (solV (r))) fun _ => ?_
            refine case_lt (fun (r : Int × Int × Int × Int × Int) => AV.v (solV (r))) fun _ => ?_
            refine case_lt (fun (r : Int × Int × Int × Int × Int) => AV.v (solV (r))) fun _ => ?_
            refine case_lt (fun (r : Int × Int × Int × Int × Int) => AV.v (solV (r))) fun _ => ?_
            refine case_lt (fun (r : Int × Int × Int × Int × Int) => AV.v (solV (r))) fun _ => ?_
            refine case_lt (fun (r : Int × Int × Int × Int × Int) => AV.v (solV (r))) fun _ => ?_
            refine case_lt (fun (r : Int × Int × Int × Int × Int) => AV.v (solV (r))) fun _ => ?_
            refine case_lt (fun (r : Int × Int × Int × Int × Int) => AV.v (solV (r))) fun _ => ?_
            refine case_cond (fun (r : Int × Int × Int × Int × Int) => AV.v (solV (r))) ?_ ?_
            · rfl
            · rfl
          · refine case_cond (fun (r : Int × Int × Int × Int × Int) => AV.v (solV (r))) ?_ ?_
            · rfl
            · rfl
        · refine case_cond (fun (r : Int × Int × Int × Int × Int) => AV.v (solV (r))) ?_ ?_
          · rfl
          · rfl
noncomputable def sideM (a b : Int) : Bool :=
  cond (avalidB a b)
  (cond (decide (a ≥ 0))
   ((decide (b ≤ 10800000)))
   (false))
  (false)
noncomputable def book_sideM_gives : Book := [(54, eP (fun a b => .bool (avalidB a b)))]
theorem book_sideM_gives_ok : BookOk Tryz.prog book_sideM_gives := (bookOk_cons (eP_ok (fun a b W _ => gvalid_any a b W)) bookOk_nil)
theorem sideM_gives_tree (a b : Int) : evF Tryz.prog [] Cs book_sideM_gives 20 6 51 ([.agg ⟨[.int .i64 a, .int .i64 b]⟩].map AV.v) [] [] last =
  cond (avalidB a b)
  (cond (decide (a ≥ 0))
   (some (.v (.bool (decide (b ≤ 10800000)))))
   (some (.v (.bool false))))
  (some (.v (.bool false))) := by kernel_rfl
theorem sideM_gives (a b : Int) : Gives Tryz.prog 51 [.agg ⟨[.int .i64 a, .int .i64 b]⟩] (.bool (sideM a b)) := by
  refine evF_gives (E := []) mixed (by simp) Cs_ok book_sideM_gives_ok (lim := 20) (d := 6) (nm := []) ?_
  rw [sideM_gives_tree a b]
  unfold sideM
  refine case_cond (fun (r : Bool) => AV.v (.bool (r))) ?_ ?_
  · refine case_cond (fun (r : Bool) => AV.v (.bool (r))) ?_ ?_
    · rfl
    · rfl
  · rfl
noncomputable def anglM (a b c d e f : Int) : Int × Int × Int :=
  cond (!(sideM a b))
  ((0, 0, 1))
  (cond (!(sideM c d))
   ((0, 0, 1))
   (cond (!(sideM e f))
    ((0, 0, 1))
    (lt (wplusV a b e f) fun x2 =>
     lt (wplusC 0 a b e f) fun x1 =>
     lt (wminV x2.1 x2.2 c d) fun x4 =>
     lt (wminC x1 x2.1 x2.2 c d) fun x3 =>
     lt (wpartV x4.1 x4.2 1 2) fun x6 =>
     lt (wpartC x3 x4.1 x4.2 1 2) fun x5 =>
     lt (wplusV a b c d) fun x8 =>
     lt (wplusC x5 a b c d) fun x7 =>
     lt (wminV x8.1 x8.2 e f) fun x10 =>
     lt (wminC x7 x8.1 x8.2 e f) fun x9 =>
     lt (wpartV x10.1 x10.2 1 2) fun x12 =>
     lt (wpartC x9 x10.1 x10.2 1 2) fun x11 =>
     lt (wsinV x6.1 x6.2) fun x14 =>
     lt (wsinC x11 x6.1 x6.2) fun x13 =>
     lt (wsinV x12.1 x12.2) fun x16 =>
     lt (wsinC x13 x12.1 x12.2) fun x15 =>
     lt (wmulV x14.1 x14.2 x16.1 x16.2) fun x18 =>
     lt (wmulC x15 x14.1 x14.2 x16.1 x16.2) fun x17 =>
     lt (wsinV c d) fun x20 =>
     lt (wsinC x17 c d) fun x19 =>
     lt (wsinV e f) fun x22 =>
     lt (wsinC x19 e f) fun x21 =>
     lt (wmulV x20.1 x20.2 x22.1 x22.2) fun x24 =>
     lt (wmulC x21 x20.1 x20.2 x22.1 x22.2) fun x23 =>
     cond (x23 != 0)
     ((0, 0, x23))
     (lt (divR x18.1 x18.2 x24.1 x24.2) fun x25 =>
      cond (x25.2.2 == 16)
      ((0, 0, 21))
      (cond (x25.2.2 == 5)
       ((0, 0, 24))
       (lt (ahavR x25.1 x25.2.1) fun x26 =>
        cond (x26.2.2 != 0)
        ((0, 0, 12))
        ((x26.1, x26.2.1, 0))))))))
noncomputable def book_anglM_gives : Book := [(24, cPP 47 (fun a b c d => pairV (wminV a b c d).1 (wminV a b c d).2) wminC), (25, cPII 47 (fun a b c d => pairV (wpartV a b c d).1 (wpartV a b c d).2) wpartC), (26, cPP 47 (fun a b c d => pairV (wplusV a b c d).1 (wplusV a b c d).2) wplusC), (29, cP 47 (fun a b => pairV (wsinV a b).1 (wsinV a b).2) wsinC), (31, cPP 47 (fun a b c d => pairV (wmulV a b c d).1 (wmulV a b c d).2) wmulC), (51, eP (fun a b => .bool (sideM a b))), (52, ePP (fun a b c d => arcV (divR a b c d))), (53, eP (fun a b => arcV (ahavR a b)))]
theorem book_anglM_gives_ok : BookOk Tryz.prog book_anglM_gives := (bookOk_cons (cPP_ok wminV_mods) (bookOk_cons (cPII_ok wpartV_mods) (bookOk_cons (cPP_ok wplusV_mods) (bookOk_cons (cP_ok wsinV_mods) (bookOk_cons (cPP_ok wmulV_mods) (bookOk_cons (eP_ok sideM_gives) (bookOk_cons (ePP_ok divR_gives) (bookOk_cons (eP_ok (fun a b W _ => ahav_r a b W)) bookOk_nil))))))))
theorem anglM_gives_tree (a b c d e f : Int) : evF Tryz.prog [] Cs book_anglM_gives 20 6 10 ([.agg ⟨[.int .i64 a, .int .i64 b]⟩, .agg ⟨[.int .i64 c, .int .i64 d]⟩, .agg ⟨[.int .i64 e, .int .i64 f]⟩].map AV.v) [] [] last =
  cond (!(sideM a b))
  (some (.v (.tuple ⟨[.agg ⟨[.int .i64 0, .int .i64 0]⟩, .int .i64 1]⟩)))
  (cond (!(sideM c d))
   (some (.v (.tuple ⟨[.agg ⟨[.int .i64 0, .int .i64 0]⟩, .int .i64 1]⟩)))
   (cond (!(sideM e f))
    (some (.v (.tuple ⟨[.agg ⟨[.int .i64 0, .int .i64 0]⟩, .int .i64 1]⟩)))
    (lt (wplusV a b e f) fun x2 =>
     lt (wplusC 0 a b e f) fun x1 =>
     lt (wminV x2.1 x2.2 c d) fun x4 =>
     lt (wminC x1 x2.1 x2.2 c d) fun x3 =>
     lt (wpartV x4.1 x4.2 1 2) fun x6 =>
     lt (wpartC x3 x4.1 x4.2 1 2) fun x5 =>
     lt (wplusV a b c d) fun x8 =>
     lt (wplusC x5 a b c d) fun x7 =>
     lt (wminV x8.1 x8.2 e f) fun x10 =>
     lt (wminC x7 x8.1 x8.2 e f) fun x9 =>
     lt (wpartV x10.1 x10.2 1 2) fun x12 =>
     lt (wpartC x9 x10.1 x10.2 1 2) fun x11 =>
     lt (wsinV x6.1 x6.2) fun x14 =>
     lt (wsinC x11 x6.1 x6.2) fun x13 =>
     lt (wsinV x12.1 x12.2) fun x16 =>
     lt (wsinC x13 x12.1 x12.2) fun x15 =>
     lt (wmulV x14.1 x14.2 x16.1 x16.2) fun x18 =>
     lt (wmulC x15 x14.1 x14.2 x16.1 x16.2) fun x17 =>
     lt (wsinV c d) fun x20 =>
     lt (wsinC x17 c d) fun x19 =>
     lt (wsinV e f) fun x22 =>
     lt (wsinC x19 e f) fun x21 =>
     lt (wmulV x20.1 x20.2 x22.1 x22.2) fun x24 =>
     lt (wmulC x21 x20.1 x20.2 x22.1 x22.2) fun x23 =>
     cond (x23 != 0)
     (some (.v (.tuple ⟨[.agg ⟨[.int .i64 0, .int .i64 0]⟩, .int .i64 x23]⟩)))
     (lt (divR x18.1 x18.2 x24.1 x24.2) fun x25 =>
      cond (x25.2.2 == 16)
      (some (.v (.tuple ⟨[.agg ⟨[.int .i64 0, .int .i64 0]⟩, .int .i64 21]⟩)))
      (cond (x25.2.2 == 5)
       (some (.v (.tuple ⟨[.agg ⟨[.int .i64 0, .int .i64 0]⟩, .int .i64 24]⟩)))
       (lt (ahavR x25.1 x25.2.1) fun x26 =>
        cond (x26.2.2 != 0)
        (some (.v (.tuple ⟨[.agg ⟨[.int .i64 0, .int .i64 0]⟩, .int .i64 12]⟩)))
        (some (.v (.tuple ⟨[.agg ⟨[.int .i64 x26.1, .int .i64 x26.2.1]⟩, .int .i64 0]⟩))))))))) := by kernel_rfl
theorem anglM_gives (a b c d e f : Int) : Gives Tryz.prog 10 [.agg ⟨[.int .i64 a, .int .i64 b]⟩, .agg ⟨[.int .i64 c, .int .i64 d]⟩, .agg ⟨[.int .i64 e, .int .i64 f]⟩] (arcV (anglM a b c d e f)) := by
  refine evF_gives (E := []) mixed (by simp) Cs_ok book_anglM_gives_ok (lim := 20) (d := 6) (nm := []) ?_
  rw [anglM_gives_tree a b c d e f]
  unfold anglM
  refine case_cond (fun (r : Int × Int × Int) => AV.v (arcV (r))) ?_ ?_
  · rfl
  · refine case_cond (fun (r : Int × Int × Int) => AV.v (arcV (r))) ?_ ?_
    · rfl
    · refine case_cond (fun (r : Int × Int × Int) => AV.v (arcV (r))) ?_ ?_
      · rfl
      · refine case_lt (fun (r : Int × Int × Int) => AV.v (arcV (r))) fun _ => ?_
        refine case_lt (fun (r : Int × Int × Int) => AV.v (arcV (r))) fun _ => ?_
        refine case_lt (fun (r : Int × Int × Int) => AV.v (arcV (r))) fun _ => ?_
        refine case_lt (fun (r : Int × Int × Int) => AV.v (arcV (r))) fun _ => ?_
        refine case_lt (fun (r : Int × Int × Int) => AV.v (arcV (r))) fun _ => ?_
        refine case_lt (fun (r : Int × Int × Int) => AV.v (arcV (r))) fun _ => ?_
        refine case_lt (fun (r : Int × Int × Int) => AV.v (arcV (r))) fun _ => ?_
        refine case_lt (fun (r : Int × Int × Int) => AV.v (arcV (r))) fun _ => ?_
        refine case_lt (fun (r : Int × Int × Int) => AV.v (arcV (r))) fun _ => ?_
        refine case_lt (fun (r : Int × Int × Int) => AV.v (arcV (r))) fun _ => ?_
        refine case_lt (fun (r : Int × Int × Int) => AV.v (arcV (r))) fun _ => ?_
        refine case_lt (fun (r : Int × Int × Int) => AV.v (arcV (r))) fun _ => ?_
        refine case_lt (fun (r : Int × Int × Int) => AV.v (arcV (r))) fun _ => ?_
        refine case_lt (fun (r : Int × Int × Int) => AV.v (arcV (r))) fun _ => ?_
        refine case_lt (fun (r : Int × Int × Int) => AV.v (arcV (r))) fun _ => ?_
        refine case_lt (fun (r : Int × Int × Int) => AV.v (arcV (r))) fun _ => ?_
        refine case_lt (fun (r : Int × Int × Int) => AV.v (arcV (r))) fun _ => ?_
        refine case_lt (fun (r : Int × Int × Int) => AV.v (arcV (r))) fun _ => ?_
        refine case_lt (fun (r : Int × Int × Int) => AV.v (arcV (r))) fun _ => ?_
        refine case_lt (fun (r : Int × Int × Int) => AV.v (arcV (r))) fun _ => ?_
        refine case_lt (fun (r : Int × Int × Int) => AV.v (arcV (r))) fun _ => ?_
        refine case_lt (fun (r : Int × Int × Int) => AV.v (arcV (r))) fun _ => ?_
        refine case_lt (fun (r : Int × Int × Int) => AV.v (arcV (r))) fun _ => ?_
        refine case_lt (fun (r : Int × Int × Int) => AV.v (arcV (r))) fun _ => ?_
        refine case_cond (fun (r : Int × Int × Int) => AV.v (arcV (r))) ?_ ?_
        · rfl
        · refine case_lt (fun (r : Int × Int × Int) => AV.v (arcV (r))) fun _ => ?_
          refine case_cond (fun (r : Int × Int × Int) => AV.v (arcV (r))) ?_ ?_
          · rfl
          · refine case_cond (fun (r : Int × Int × Int) => AV.v (arcV (r))) ?_ ?_
            · rfl
            · refine case_lt (fun (r : Int × Int × Int) => AV.v (arcV (r))) fun _ => ?_
              refine case_cond (fun (r : Int × Int × Int) => AV.v (arcV (r))) ?_ ?_
              · rfl
              · rfl
noncomputable def hsidM (a b c d e f : Int) : Int × Int × Int :=
  cond (!(sideM a b))
  ((0, 0, 1))
  (cond (!(sideM c d))
   ((0, 0, 1))
   (cond (!(avalidB e f))
    ((0, 0, 1))
    (lt (wminV a b c d) fun x2 =>
     lt (wminC 0 a b c d) fun x1 =>
     lt (whavV x2.1 x2.2) fun x4 =>
     lt (whavC x1 x2.1 x2.2) fun x3 =>
     lt (wsinV a b) fun x6 =>
     lt (wsinC x3 a b) fun x5 =>
     lt (wsinV c d) fun x8 =>
     lt (wsinC x5 c d) fun x7 =>
     lt (wmulV x6.1 x6.2 x8.1 x8.2) fun x10 =>
     lt (wmulC x7 x6.1 x6.2 x8.1 x8.2) fun x9 =>
     lt (whavV e f) fun x12 =>
     lt (whavC x9 e f) fun x11 =>
     lt (wmulV x10.1 x10.2 x12.1 x12.2) fun x14 =>
     lt (wmulC x11 x10.1 x10.2 x12.1 x12.2) fun x13 =>
     lt (addR x4.1 x4.2 x14.1 x14.2) fun x15 =>
     lt (wfixV x15.1 x15.2.1 x15.2.2) fun x17 =>
     lt (wfixC x13 x15.1 x15.2.1 x15.2.2) fun x16 =>
     lt (ahavR x17.1 x17.2) fun x18 =>
     lt (arcW x18.1 x18.2.1 x18.2.2) fun x20 =>
     lt (arcC x16 x18.1 x18.2.1 x18.2.2) fun x19 =>
     cond (x19 != 0)
     ((0, 0, x19))
     ((x20.1, x20.2, 0)))))
noncomputable def book_hsidM_gives : Book := [(24, cPP 47 (fun a b c d => pairV (wminV a b c d).1 (wminV a b c d).2) wminC), (27, cPI 47 (fun a b c => pairV (arcW a b c).1 (arcW a b c).2) arcC), (29, cP 47 (fun a b => pairV (wsinV a b).1 (wsinV a b).2) wsinC), (31, cPP 47 (fun a b c d => pairV (wmulV a b c d).1 (wmulV a b c d).2) wmulC), (51, eP (fun a b => .bool (sideM a b))), (53, eP (fun a b => arcV (ahavR a b))), (54, eP (fun a b => .bool (avalidB a b))), (55, cPI 47 (fun a b c => pairV (wfixV a b c).1 (wfixV a b c).2) wfixC), (56, ePP (fun a b c d => arcV (addR a b c d))), (57, cP 47 (fun a b => pairV (whavV a b).1 (whavV a b).2) whavC)]
theorem book_hsidM_gives_ok : BookOk Tryz.prog book_hsidM_gives := (bookOk_cons (cPP_ok wminV_mods) (bookOk_cons (cPI_ok arcW_mods) (bookOk_cons (cP_ok wsinV_mods) (bookOk_cons (cPP_ok wmulV_mods) (bookOk_cons (eP_ok sideM_gives) (bookOk_cons (eP_ok (fun a b W _ => ahav_r a b W)) (bookOk_cons (eP_ok (fun a b W _ => gvalid_any a b W)) (bookOk_cons (cPI_ok wfixV_mods) (bookOk_cons (ePP_ok addR_gives) (bookOk_cons (cP_ok whavV_mods) bookOk_nil))))))))))
theorem hsidM_gives_tree (a b c d e f : Int) : evF Tryz.prog [] Cs book_hsidM_gives 20 6 11 ([.agg ⟨[.int .i64 a, .int .i64 b]⟩, .agg ⟨[.int .i64 c, .int .i64 d]⟩, .agg ⟨[.int .i64 e, .int .i64 f]⟩].map AV.v) [] [] last =
  cond (!(sideM a b))
  (some (.v (.tuple ⟨[.agg ⟨[.int .i64 0, .int .i64 0]⟩, .int .i64 1]⟩)))
  (cond (!(sideM c d))
   (some (.v (.tuple ⟨[.agg ⟨[.int .i64 0, .int .i64 0]⟩, .int .i64 1]⟩)))
   (cond (!(avalidB e f))
    (some (.v (.tuple ⟨[.agg ⟨[.int .i64 0, .int .i64 0]⟩, .int .i64 1]⟩)))
    (lt (wminV a b c d) fun x2 =>
     lt (wminC 0 a b c d) fun x1 =>
     lt (whavV x2.1 x2.2) fun x4 =>
     lt (whavC x1 x2.1 x2.2) fun x3 =>
     lt (wsinV a b) fun x6 =>
     lt (wsinC x3 a b) fun x5 =>
     lt (wsinV c d) fun x8 =>
     lt (wsinC x5 c d) fun x7 =>
     lt (wmulV x6.1 x6.2 x8.1 x8.2) fun x10 =>
     lt (wmulC x7 x6.1 x6.2 x8.1 x8.2) fun x9 =>
     lt (whavV e f) fun x12 =>
     lt (whavC x9 e f) fun x11 =>
     lt (wmulV x10.1 x10.2 x12.1 x12.2) fun x14 =>
     lt (wmulC x11 x10.1 x10.2 x12.1 x12.2) fun x13 =>
     lt (addR x4.1 x4.2 x14.1 x14.2) fun x15 =>
     lt (wfixV x15.1 x15.2.1 x15.2.2) fun x17 =>
     lt (wfixC x13 x15.1 x15.2.1 x15.2.2) fun x16 =>
     lt (ahavR x17.1 x17.2) fun x18 =>
     lt (arcW x18.1 x18.2.1 x18.2.2) fun x20 =>
     lt (arcC x16 x18.1 x18.2.1 x18.2.2) fun x19 =>
     cond (x19 != 0)
     (some (.v (.tuple ⟨[.agg ⟨[.int .i64 0, .int .i64 0]⟩, .int .i64 x19]⟩)))
     (some (.v (.tuple ⟨[.agg ⟨[.int .i64 x20.1, .int .i64 x20.2]⟩, .int .i64 0]⟩)))))) := by kernel_rfl
theorem hsidM_gives (a b c d e f : Int) : Gives Tryz.prog 11 [.agg ⟨[.int .i64 a, .int .i64 b]⟩, .agg ⟨[.int .i64 c, .int .i64 d]⟩, .agg ⟨[.int .i64 e, .int .i64 f]⟩] (arcV (hsidM a b c d e f)) := by
  refine evF_gives (E := []) mixed (by simp) Cs_ok book_hsidM_gives_ok (lim := 20) (d := 6) (nm := []) ?_
  rw [hsidM_gives_tree a b c d e f]
  unfold hsidM
  refine case_cond (fun (r : Int × Int × Int) => AV.v (arcV (r))) ?_ ?_
  · rfl
  · refine case_cond (fun (r : Int × Int × Int) => AV.v (arcV (r))) ?_ ?_
    · rfl
    · refine case_cond (fun (r : Int × Int × Int) => AV.v (arcV (r))) ?_ ?_
      · rfl
      · refine case_lt (fun (r : Int × Int × Int) => AV.v (arcV (r))) fun _ => ?_
        refine case_lt (fun (r : Int × Int × Int) => AV.v (arcV (r))) fun _ => ?_
        refine case_lt (fun (r : Int × Int × Int) => AV.v (arcV (r))) fun _ => ?_
        refine case_lt (fun (r : Int × Int × Int) => AV.v (arcV (r))) fun _ => ?_
        refine case_lt (fun (r : Int × Int × Int) => AV.v (arcV (r))) fun _ => ?_
        refine case_lt (fun (r : Int × Int × Int) => AV.v (arcV (r))) fun _ => ?_
        refine case_lt (fun (r : Int × Int × Int) => AV.v (arcV (r))) fun _ => ?_
        refine case_lt (fun (r : Int × Int × Int) => AV.v (arcV (r))) fun _ => ?_
        refine case_lt (fun (r : Int × Int × Int) => AV.v (arcV (r))) fun _ => ?_
        refine case_lt (fun (r : Int × Int × Int) => AV.v (arcV (r))) fun _ => ?_
        refine case_lt (fun (r : Int × Int × Int) => AV.v (arcV (r))) fun _ => ?_
        refine case_lt (fun (r : Int × Int × Int) => AV.v (arcV (r))) fun _ => ?_
        refine case_lt (fun (r : Int × Int × Int) => AV.v (arcV (r))) fun _ => ?_
        refine case_lt (fun (r : Int × Int × Int) => AV.v (arcV (r))) fun _ => ?_
        refine case_lt (fun (r : Int × Int × Int) => AV.v (arcV (r))) fun _ => ?_
        refine case_lt (fun (r : Int × Int × Int) => AV.v (arcV (r))) fun _ => ?_
        refine case_lt (fun (r : Int × Int × Int) => AV.v (arcV (r))) fun _ => ?_
        refine case_lt (fun (r : Int × Int × Int) => AV.v (arcV (r))) fun _ => ?_
        refine case_lt (fun (r : Int × Int × Int) => AV.v (arcV (r))) fun _ => ?_
        refine case_lt (fun (r : Int × Int × Int) => AV.v (arcV (r))) fun _ => ?_
        refine case_cond (fun (r : Int × Int × Int) => AV.v (arcV (r))) ?_ ?_
        · rfl
        · rfl
noncomputable def excM (a b c d e f : Int) : Int × Int × Int :=
  cond (!(sideM a b))
  ((0, 0, 1))
  (cond (!(sideM c d))
   ((0, 0, 1))
   (cond (!(sideM e f))
    ((0, 0, 1))
    (lt (wplusV a b c d) fun x2 =>
     lt (wplusC 0 a b c d) fun x1 =>
     lt (wplusV x2.1 x2.2 e f) fun x4 =>
     lt (wplusC x1 x2.1 x2.2 e f) fun x3 =>
     lt (wpartV x4.1 x4.2 1 4) fun x6 =>
     lt (wpartC x3 x4.1 x4.2 1 4) fun x5 =>
     lt (wplusV c d e f) fun x8 =>
     lt (wplusC x5 c d e f) fun x7 =>
     lt (wminV x8.1 x8.2 a b) fun x10 =>
     lt (wminC x7 x8.1 x8.2 a b) fun x9 =>
     lt (wpartV x10.1 x10.2 1 4) fun x12 =>
     lt (wpartC x9 x10.1 x10.2 1 4) fun x11 =>
     lt (wplusV a b e f) fun x14 =>
     lt (wplusC x11 a b e f) fun x13 =>
     lt (wminV x14.1 x14.2 c d) fun x16 =>
     lt (wminC x13 x14.1 x14.2 c d) fun x15 =>
     lt (wpartV x16.1 x16.2 1 4) fun x18 =>
     lt (wpartC x15 x16.1 x16.2 1 4) fun x17 =>
     lt (wplusV a b c d) fun x20 =>
     lt (wplusC x17 a b c d) fun x19 =>
     lt (wminV x20.1 x20.2 e f) fun x22 =>
     lt (wminC x19 x20.1 x20.2 e f) fun x21 =>
     lt (wpartV x22.1 x22.2 1 4) fun x24 =>
     lt (wpartC x21 x22.1 x22.2 1 4) fun x23 =>
     lt (wsinV x6.1 x6.2) fun x26 =>
     lt (wsinC x23 x6.1 x6.2) fun x25 =>
     lt (wsinV x12.1 x12.2) fun x28 =>
     lt (wsinC x25 x12.1 x12.2) fun x27 =>
     lt (wmulV x26.1 x26.2 x28.1 x28.2) fun x30 =>
     lt (wmulC x27 x26.1 x26.2 x28.1 x28.2) fun x29 =>
     lt (wsinV x18.1 x18.2) fun x32 =>
     lt (wsinC x29 x18.1 x18.2) fun x31 =>
     lt (wmulV x30.1 x30.2 x32.1 x32.2) fun x34 =>
     lt (wmulC x31 x30.1 x30.2 x32.1 x32.2) fun x33 =>
     lt (wsinV x24.1 x24.2) fun x36 =>
     lt (wsinC x33 x24.1 x24.2) fun x35 =>
     lt (wmulV x34.1 x34.2 x36.1 x36.2) fun x38 =>
     lt (wmulC x35 x34.1 x34.2 x36.1 x36.2) fun x37 =>
     lt (wcosV x6.1 x6.2) fun x40 =>
     lt (wcosC x37 x6.1 x6.2) fun x39 =>
     lt (wcosV x12.1 x12.2) fun x42 =>
     lt (wcosC x39 x12.1 x12.2) fun x41 =>
     lt (wmulV x40.1 x40.2 x42.1 x42.2) fun x44 =>
     lt (wmulC x41 x40.1 x40.2 x42.1 x42.2) fun x43 =>
     lt (wcosV x18.1 x18.2) fun x46 =>
     lt (wcosC x43 x18.1 x18.2) fun x45 =>
     lt (wmulV x44.1 x44.2 x46.1 x46.2) fun x48 =>
     lt (wmulC x45 x44.1 x44.2 x46.1 x46.2) fun x47 =>
     lt (wcosV x24.1 x24.2) fun x50 =>
     lt (wcosC x47 x24.1 x24.2) fun x49 =>
     lt (wmulV x48.1 x48.2 x50.1 x50.2) fun x52 =>
     lt (wmulC x49 x48.1 x48.2 x50.1 x50.2) fun x51 =>
     cond (x51 != 0)
     ((0, 0, x51))
     (lt (sqtR x38.1 x38.2) fun x53 =>
      lt (sqtR x52.1 x52.2) fun x54 =>
      cond (x53.2.2 != 0)
      ((0, 0, 12))
      (cond (x54.2.2 != 0)
       ((0, 0, 12))
       (lt (wbeaV x53.1 x53.2.1 x54.1 x54.2.1) fun x56 =>
        lt (wbeaC x51 x53.1 x53.2.1 x54.1 x54.2.1) fun x55 =>
        cond (wallM x56.1 x56.2)
        ((0, 0, 24))
        (lt (wpartV x56.1 x56.2 4 1) fun x58 =>
         lt (wpartC x55 x56.1 x56.2 4 1) fun x57 =>
         (x58.1, x58.2, x57))))))))
noncomputable def book_excM_gives : Book := [(24, cPP 47 (fun a b c d => pairV (wminV a b c d).1 (wminV a b c d).2) wminC), (25, cPII 47 (fun a b c d => pairV (wpartV a b c d).1 (wpartV a b c d).2) wpartC), (26, cPP 47 (fun a b c d => pairV (wplusV a b c d).1 (wplusV a b c d).2) wplusC), (29, cP 47 (fun a b => pairV (wsinV a b).1 (wsinV a b).2) wsinC), (30, cP 47 (fun a b => pairV (wcosV a b).1 (wcosV a b).2) wcosC), (31, cPP 47 (fun a b c d => pairV (wmulV a b c d).1 (wmulV a b c d).2) wmulC), (32, cPP 47 (fun a b c d => pairV (wbeaV a b c d).1 (wbeaV a b c d).2) wbeaC), (34, eP (fun a b => .bool (wallM a b))), (51, eP (fun a b => .bool (sideM a b))), (58, eP (fun a b => arcV (sqtR a b)))]
theorem book_excM_gives_ok : BookOk Tryz.prog book_excM_gives := (bookOk_cons (cPP_ok wminV_mods) (bookOk_cons (cPII_ok wpartV_mods) (bookOk_cons (cPP_ok wplusV_mods) (bookOk_cons (cP_ok wsinV_mods) (bookOk_cons (cP_ok wcosV_mods) (bookOk_cons (cPP_ok wmulV_mods) (bookOk_cons (cPP_ok wbeaV_mods) (bookOk_cons (eP_ok wallM_gives) (bookOk_cons (eP_ok sideM_gives) (bookOk_cons (eP_ok sqtR_gives) bookOk_nil))))))))))
theorem excM_gives_tree (a b c d e f : Int) : evF Tryz.prog [] Cs book_excM_gives 20 6 12 ([.agg ⟨[.int .i64 a, .int .i64 b]⟩, .agg ⟨[.int .i64 c, .int .i64 d]⟩, .agg ⟨[.int .i64 e, .int .i64 f]⟩].map AV.v) [] [] last =
  cond (!(sideM a b))
  (some (.v (.tuple ⟨[.agg ⟨[.int .i64 0, .int .i64 0]⟩, .int .i64 1]⟩)))
  (cond (!(sideM c d))
   (some (.v (.tuple ⟨[.agg ⟨[.int .i64 0, .int .i64 0]⟩, .int .i64 1]⟩)))
   (cond (!(sideM e f))
    (some (.v (.tuple ⟨[.agg ⟨[.int .i64 0, .int .i64 0]⟩, .int .i64 1]⟩)))
    (lt (wplusV a b c d) fun x2 =>
     lt (wplusC 0 a b c d) fun x1 =>
     lt (wplusV x2.1 x2.2 e f) fun x4 =>
     lt (wplusC x1 x2.1 x2.2 e f) fun x3 =>
     lt (wpartV x4.1 x4.2 1 4) fun x6 =>
     lt (wpartC x3 x4.1 x4.2 1 4) fun x5 =>
     lt (wplusV c d e f) fun x8 =>
     lt (wplusC x5 c d e f) fun x7 =>
     lt (wminV x8.1 x8.2 a b) fun x10 =>
     lt (wminC x7 x8.1 x8.2 a b) fun x9 =>
     lt (wpartV x10.1 x10.2 1 4) fun x12 =>
     lt (wpartC x9 x10.1 x10.2 1 4) fun x11 =>
     lt (wplusV a b e f) fun x14 =>
     lt (wplusC x11 a b e f) fun x13 =>
     lt (wminV x14.1 x14.2 c d) fun x16 =>
     lt (wminC x13 x14.1 x14.2 c d) fun x15 =>
     lt (wpartV x16.1 x16.2 1 4) fun x18 =>
     lt (wpartC x15 x16.1 x16.2 1 4) fun x17 =>
     lt (wplusV a b c d) fun x20 =>
     lt (wplusC x17 a b c d) fun x19 =>
     lt (wminV x20.1 x20.2 e f) fun x22 =>
     lt (wminC x19 x20.1 x20.2 e f) fun x21 =>
     lt (wpartV x22.1 x22.2 1 4) fun x24 =>
     lt (wpartC x21 x22.1 x22.2 1 4) fun x23 =>
     lt (wsinV x6.1 x6.2) fun x26 =>
     lt (wsinC x23 x6.1 x6.2) fun x25 =>
     lt (wsinV x12.1 x12.2) fun x28 =>
     lt (wsinC x25 x12.1 x12.2) fun x27 =>
     lt (wmulV x26.1 x26.2 x28.1 x28.2) fun x30 =>
     lt (wmulC x27 x26.1 x26.2 x28.1 x28.2) fun x29 =>
     lt (wsinV x18.1 x18.2) fun x32 =>
     lt (wsinC x29 x18.1 x18.2) fun x31 =>
     lt (wmulV x30.1 x30.2 x32.1 x32.2) fun x34 =>
     lt (wmulC x31 x30.1 x30.2 x32.1 x32.2) fun x33 =>
     lt (wsinV x24.1 x24.2) fun x36 =>
     lt (wsinC x33 x24.1 x24.2) fun x35 =>
     lt (wmulV x34.1 x34.2 x36.1 x36.2) fun x38 =>
     lt (wmulC x35 x34.1 x34.2 x36.1 x36.2) fun x37 =>
     lt (wcosV x6.1 x6.2) fun x40 =>
     lt (wcosC x37 x6.1 x6.2) fun x39 =>
     lt (wcosV x12.1 x12.2) fun x42 =>
     lt (wcosC x39 x12.1 x12.2) fun x41 =>
     lt (wmulV x40.1 x40.2 x42.1 x42.2) fun x44 =>
     lt (wmulC x41 x40.1 x40.2 x42.1 x42.2) fun x43 =>
     lt (wcosV x18.1 x18.2) fun x46 =>
     lt (wcosC x43 x18.1 x18.2) fun x45 =>
     lt (wmulV x44.1 x44.2 x46.1 x46.2) fun x48 =>
     lt (wmulC x45 x44.1 x44.2 x46.1 x46.2) fun x47 =>
     lt (wcosV x24.1 x24.2) fun x50 =>
     lt (wcosC x47 x24.1 x24.2) fun x49 =>
     lt (wmulV x48.1 x48.2 x50.1 x50.2) fun x52 =>
     lt (wmulC x49 x48.1 x48.2 x50.1 x50.2) fun x51 =>
     cond (x51 != 0)
     (some (.v (.tuple ⟨[.agg ⟨[.int .i64 0, .int .i64 0]⟩, .int .i64 x51]⟩)))
     (lt (sqtR x38.1 x38.2) fun x53 =>
      lt (sqtR x52.1 x52.2) fun x54 =>
      cond (x53.2.2 != 0)
      (some (.v (.tuple ⟨[.agg ⟨[.int .i64 0, .int .i64 0]⟩, .int .i64 12]⟩)))
      (cond (x54.2.2 != 0)
       (some (.v (.tuple ⟨[.agg ⟨[.int .i64 0, .int .i64 0]⟩, .int .i64 12]⟩)))
       (lt (wbeaV x53.1 x53.2.1 x54.1 x54.2.1) fun x56 =>
        lt (wbeaC x51 x53.1 x53.2.1 x54.1 x54.2.1) fun x55 =>
        cond (wallM x56.1 x56.2)
        (some (.v (.tuple ⟨[.agg ⟨[.int .i64 0, .int .i64 0]⟩, .int .i64 24]⟩)))
        (lt (wpartV x56.1 x56.2 4 1) fun x58 =>
         lt (wpartC x55 x56.1 x56.2 4 1) fun x57 =>
         some (.v (.tuple ⟨[.agg ⟨[.int .i64 x58.1, .int .i64 x58.2]⟩, .int .i64 x57]⟩))))))))) := by kernel_rfl
theorem excM_gives (a b c d e f : Int) : Gives Tryz.prog 12 [.agg ⟨[.int .i64 a, .int .i64 b]⟩, .agg ⟨[.int .i64 c, .int .i64 d]⟩, .agg ⟨[.int .i64 e, .int .i64 f]⟩] (arcV (excM a b c d e f)) := by
  refine evF_gives (E := []) mixed (by simp) Cs_ok book_excM_gives_ok (lim := 20) (d := 6) (nm := []) ?_
  rw [excM_gives_tree a b c d e f]
  unfold excM
  refine case_cond (fun (r : Int × Int × Int) => AV.v (arcV (r))) ?_ ?_
  · rfl
  · refine case_cond (fun (r : Int × Int × Int) => AV.v (arcV (r))) ?_ ?_
    · rfl
    · refine case_cond (fun (r : Int × Int × Int) => AV.v (arcV (r))) ?_ ?_
      · rfl
      · refine case_lt (fun (r : Int × Int × Int) => AV.v (arcV (r))) fun _ => ?_
        refine case_lt (fun (r : Int × Int × Int) => AV.v (arcV (r))) fun _ => ?_
        refine case_lt (fun (r : Int × Int × Int) => AV.v (arcV (r))) fun _ => ?_
        refine case_lt (fun (r : Int × Int × Int) => AV.v (arcV (r))) fun _ => ?_
        refine case_lt (fun (r : Int × Int × Int) => AV.v (arcV (r))) fun _ => ?_
        refine case_lt (fun (r : Int × Int × Int) => AV.v (arcV (r))) fun _ => ?_
        refine case_lt (fun (r : Int × Int × Int) => AV.v (arcV (r))) fun _ => ?_
        refine case_lt (fun (r : Int × Int × Int) => AV.v (arcV (r))) fun _ => ?_
        refine case_lt (fun (r : Int × Int × Int) => AV.v (arcV (r))) fun _ => ?_
        refine case_lt (fun (r : Int × Int × Int) => AV.v (arcV (r))) fun _ => ?_
        refine case_lt (fun (r : Int × Int × Int) => AV.v (arcV (r))) fun _ => ?_
        refine case_lt (fun (r : Int × Int × Int) => AV.v (arcV (r))) fun _ => ?_
        refine case_lt (fun (r : Int × Int × Int) => AV.v (arcV (r))) fun _ => ?_
        refine case_lt (fun (r : Int × Int × Int) => AV.v (arcV (r))) fun _ => ?_
        refine case_lt (fun (r : Int × Int × Int) => AV.v (arcV (r))) fun _ => ?_
        refine case_lt (fun (r : Int × Int × Int) => AV.v (arcV (r))) fun _ => ?_
        refine case_lt (fun (r : Int × Int × Int) => AV.v (arcV (r))) fun _ => ?_
        refine case_lt (fun (r : Int × Int × Int) => AV.v (arcV (r))) fun _ => ?_
        refine case_lt (fun (r : Int × Int × Int) => AV.v (arcV (r))) fun _ => ?_
        refine case_lt (fun (r : Int × Int × Int) => AV.v (arcV (r))) fun _ => ?_
        refine case_lt (fun (r : Int × Int × Int) => AV.v (arcV (r))) fun _ => ?_
        refine case_lt (fun (r : Int × Int × Int) => AV.v (arcV (r))) fun _ => ?_
        refine case_lt (fun (r : Int × Int × Int) => AV.v (arcV (r))) fun _ => ?_
        refine case_lt (fun (r : Int × Int × Int) => AV.v (arcV (r))) fun _ => ?_
        refine case_lt (fun (r : Int × Int × Int) => AV.v (arcV (r))) fun _ => ?_
        refine case_lt (fun (r : Int × Int × Int) => AV.v (arcV (r))) fun _ => ?_
        refine case_lt (fun (r : Int × Int × Int) => AV.v (arcV (r))) fun _ => ?_
        refine case_lt (fun (r : Int × Int × Int) => AV.v (arcV (r))) fun _ => ?_
        refine case_lt (fun (r : Int × Int × Int) => AV.v (arcV (r))) fun _ => ?_
        refine case_lt (fun (r : Int × Int × Int) => AV.v (arcV (r))) fun _ => ?_
        refine case_lt (fun (r : Int × Int × Int) => AV.v (arcV (r))) fun _ => ?_
        refine case_lt (fun (r : Int × Int × Int) => AV.v (arcV (r))) fun _ => ?_
        refine case_lt (fun (r : Int × Int × Int) => AV.v (arcV (r))) fun _ => ?_
        refine case_lt (fun (r : Int × Int × Int) => AV.v (arcV (r))) fun _ => ?_
        refine case_lt (fun (r : Int × Int × Int) => AV.v (arcV (r))) fun _ => ?_
        refine case_lt (fun (r : Int × Int × Int) => AV.v (arcV (r))) fun _ => ?_
        refine case_lt (fun (r : Int × Int × Int) => AV.v (arcV (r))) fun _ => ?_
        refine case_lt (fun (r : Int × Int × Int) => AV.v (arcV (r))) fun _ => ?_
        refine case_lt (fun (r : Int × Int × Int) => AV.v (arcV (r))) fun _ => ?_
        refine case_lt (fun (r : Int × Int × Int) => AV.v (arcV (r))) fun _ => ?_
        refine case_lt (fun (r : Int × Int × Int) => AV.v (arcV (r))) fun _ => ?_
        refine case_lt (fun (r : Int × Int × Int) => AV.v (arcV (r))) fun _ => ?_
        refine case_lt (fun (r : Int × Int × Int) => AV.v (arcV (r))) fun _ => ?_
        refine case_lt (fun (r : Int × Int × Int) => AV.v (arcV (r))) fun _ => ?_
        refine case_lt (fun (r : Int × Int × Int) => AV.v (arcV (r))) fun _ => ?_
        refine case_lt (fun (r : Int × Int × Int) => AV.v (arcV (r))) fun _ => ?_
        refine case_lt (fun (r : Int × Int × Int) => AV.v (arcV (r))) fun _ => ?_
        refine case_lt (fun (r : Int × Int × Int) => AV.v (arcV (r))) fun _ => ?_
        refine case_lt (fun (r : Int × Int × Int) => AV.v (arcV (r))) fun _ => ?_
        refine case_lt (fun (r : Int × Int × Int) => AV.v (arcV (r))) fun _ => ?_
        refine case_lt (fun (r : Int × Int × Int) => AV.v (arcV (r))) fun _ => ?_
        refine case_lt (fun (r : Int × Int × Int) => AV.v (arcV (r))) fun _ => ?_
        refine case_cond (fun (r : Int × Int × Int) => AV.v (arcV (r))) ?_ ?_
        · rfl
        · refine case_lt (fun (r : Int × Int × Int) => AV.v (arcV (r))) fun _ => ?_
          refine case_lt (fun (r : Int × Int × Int) => AV.v (arcV (r))) fun _ => ?_
          refine case_cond (fun (r : Int × Int × Int) => AV.v (arcV (r))) ?_ ?_
          · rfl
          · refine case_cond (fun (r : Int × Int × Int) => AV.v (arcV (r))) ?_ ?_
            · rfl
            · refine case_lt (fun (r : Int × Int × Int) => AV.v (arcV (r))) fun _ => ?_
              refine case_lt (fun (r : Int × Int × Int) => AV.v (arcV (r))) fun _ => ?_
              refine case_cond (fun (r : Int × Int × Int) => AV.v (arcV (r))) ?_ ?_
              · rfl
              · refine case_lt (fun (r : Int × Int × Int) => AV.v (arcV (r))) fun _ => ?_
                refine case_lt (fun (r : Int × Int × Int) => AV.v (arcV (r))) fun _ => ?_
                rfl
end Go.Proofs.YtipjnfabodfkcaaGreatDoor

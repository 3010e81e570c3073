/-
  A divided triangle: what the chain's methods give.
-/
import Derived.Test.YtadefgjpkhhffaaGreatF2
namespace Go.Proofs.YtadefgjpkhhffaaGreat
open Ev

def numV (a b _e : Int) : Int × Int := (a, b)
def numC (k _a _b e : Int) : Int := keepE k e
noncomputable def book_numV_mods : Book := []
theorem book_numV_mods_ok : BookOk Tryz.prog book_numV_mods := bookOk_nil
theorem numV_mods_tree (k a b c : Int) : evF Tryz.prog [] Cs book_numV_mods 20 6 46 (.p [] 0 :: [.agg ⟨[.int .i64 a, .int .i64 b]⟩, .int .i64 c].map AV.v) [([], ⟨[.v (.int .i64 k)], 42⟩)] [] lastC =
  cond (k == 0)
  (some (.v (.agg ⟨[.int .i64 a, .int .i64 b]⟩), ⟨[.v (.int .i64 c)], 42⟩))
  (some (.v (.agg ⟨[.int .i64 a, .int .i64 b]⟩), ⟨[.v (.int .i64 k)], 42⟩)) := by kernel_rfl
theorem numV_mods (k a b c : Int) : Mods Tryz.prog 46 42 k [.agg ⟨[.int .i64 a, .int .i64 b]⟩, .int .i64 c] (pairV (numV a b c).1 (numV a b c).2) (numC k a b c) := by
  refine evF_mods (E := []) mixed (by simp) Cs_ok book_numV_mods_ok (lim := 20) (d := 6) (nm := []) ?_
  rw [numV_mods_tree k a b c]
  unfold numC keepE
  by_cases h : k = 0
  · simp [h]; rfl
  · have e : (k == 0) = false := beq_eq_false_iff_ne.2 h
    rw [e]
    simp [h]; rfl
def arcW (a b _e : Int) : Int × Int := (a, b)
def arcC (k _a _b e : Int) : Int := keepE k e
noncomputable def book_arcW_mods : Book := []
theorem book_arcW_mods_ok : BookOk Tryz.prog book_arcW_mods := bookOk_nil
theorem arcW_mods_tree (k a b c : Int) : evF Tryz.prog [] Cs book_arcW_mods 20 6 24 (.p [] 0 :: [.agg ⟨[.int .i64 a, .int .i64 b]⟩, .int .i64 c].map AV.v) [([], ⟨[.v (.int .i64 k)], 42⟩)] [] lastC =
  cond (k == 0)
  (some (.v (.agg ⟨[.int .i64 a, .int .i64 b]⟩), ⟨[.v (.int .i64 c)], 42⟩))
  (some (.v (.agg ⟨[.int .i64 a, .int .i64 b]⟩), ⟨[.v (.int .i64 k)], 42⟩)) := by kernel_rfl
theorem arcW_mods (k a b c : Int) : Mods Tryz.prog 24 42 k [.agg ⟨[.int .i64 a, .int .i64 b]⟩, .int .i64 c] (pairV (arcW a b c).1 (arcW a b c).2) (arcC k a b c) := by
  refine evF_mods (E := []) mixed (by simp) Cs_ok book_arcW_mods_ok (lim := 20) (d := 6) (nm := []) ?_
  rw [arcW_mods_tree k a b c]
  unfold arcC keepE
  by_cases h : k = 0
  · simp [h]; rfl
  · have e : (k == 0) = false := beq_eq_false_iff_ne.2 h
    rw [e]
    simp [h]; rfl
noncomputable def gsinV (a b : Int) : Int × Int := ((sinR a b).1, (sinR a b).2.1)
noncomputable def gsinC (k a b : Int) : Int := keepE k (sinR a b).2.2
noncomputable def book_gsinV_mods : Book := [(46, cPI 42 (fun a b c => pairV (numV a b c).1 (numV a b c).2) numC), (51, eP (fun a b => arcV (sinR a b)))]
theorem book_gsinV_mods_ok : BookOk Tryz.prog book_gsinV_mods := (bookOk_cons (cPI_ok numV_mods) (bookOk_cons (eP_ok sin_r) bookOk_nil))
theorem gsinV_mods_tree (k a b : Int) : evF Tryz.prog [] Cs book_gsinV_mods 20 6 30 (.p [] 0 :: [.agg ⟨[.int .i64 a, .int .i64 b]⟩].map AV.v) [([], ⟨[.v (.int .i64 k)], 42⟩)] [] lastC =
  lt (sinR a b) fun x1 =>
  lt (numV x1.1 x1.2.1 x1.2.2) fun x3 =>
  lt (numC k x1.1 x1.2.1 x1.2.2) fun x2 =>
  some (.v (.agg ⟨[.int .i64 x3.1, .int .i64 x3.2]⟩), ⟨[.v (.int .i64 x2)], 42⟩) := by kernel_rfl
theorem gsinV_mods (k a b : Int) : Mods Tryz.prog 30 42 k [.agg ⟨[.int .i64 a, .int .i64 b]⟩] (pairV (gsinV a b).1 (gsinV a b).2) (gsinC k a b) := by
  refine evF_mods (E := []) mixed (by simp) Cs_ok book_gsinV_mods_ok (lim := 20) (d := 6) (nm := []) ?_
  rw [gsinV_mods_tree k a b]
  rfl
noncomputable def gcosV (a b : Int) : Int × Int := ((cosR a b).1, (cosR a b).2.1)
noncomputable def gcosC (k a b : Int) : Int := keepE k (cosR a b).2.2
noncomputable def book_gcosV_mods : Book := [(45, eP (fun a b => arcV (cosR a b))), (46, cPI 42 (fun a b c => pairV (numV a b c).1 (numV a b c).2) numC)]
theorem book_gcosV_mods_ok : BookOk Tryz.prog book_gcosV_mods := (bookOk_cons (eP_ok cos_r) (bookOk_cons (cPI_ok numV_mods) bookOk_nil))
theorem gcosV_mods_tree (k a b : Int) : evF Tryz.prog [] Cs book_gcosV_mods 20 6 25 (.p [] 0 :: [.agg ⟨[.int .i64 a, .int .i64 b]⟩].map AV.v) [([], ⟨[.v (.int .i64 k)], 42⟩)] [] lastC =
  lt (cosR a b) fun x1 =>
  lt (numV x1.1 x1.2.1 x1.2.2) fun x3 =>
  lt (numC k x1.1 x1.2.1 x1.2.2) fun x2 =>
  some (.v (.agg ⟨[.int .i64 x3.1, .int .i64 x3.2]⟩), ⟨[.v (.int .i64 x2)], 42⟩) := by kernel_rfl
theorem gcosV_mods (k a b : Int) : Mods Tryz.prog 25 42 k [.agg ⟨[.int .i64 a, .int .i64 b]⟩] (pairV (gcosV a b).1 (gcosV a b).2) (gcosC k a b) := by
  refine evF_mods (E := []) mixed (by simp) Cs_ok book_gcosV_mods_ok (lim := 20) (d := 6) (nm := []) ?_
  rw [gcosV_mods_tree k a b]
  rfl
noncomputable def gmulV (a b c d : Int) : Int × Int := ((mulR a b c d).1, (mulR a b c d).2.1)
noncomputable def gmulC (k a b c d : Int) : Int := keepE k (mulR a b c d).2.2
noncomputable def book_gmulV_mods : Book := [(46, cPI 42 (fun a b c => pairV (numV a b c).1 (numV a b c).2) numC), (48, ePP (fun a b c d => arcV (mulR a b c d)))]
theorem book_gmulV_mods_ok : BookOk Tryz.prog book_gmulV_mods := (bookOk_cons (cPI_ok numV_mods) (bookOk_cons (ePP_ok mulR_gives) bookOk_nil))
theorem gmulV_mods_tree (k a b c d : Int) : evF Tryz.prog [] Cs book_gmulV_mods 20 6 27 (.p [] 0 :: [.agg ⟨[.int .i64 a, .int .i64 b]⟩, .agg ⟨[.int .i64 c, .int .i64 d]⟩].map AV.v) [([], ⟨[.v (.int .i64 k)], 42⟩)] [] lastC =
  lt (mulR a b c d) fun x1 =>
  lt (numV x1.1 x1.2.1 x1.2.2) fun x3 =>
  lt (numC k x1.1 x1.2.1 x1.2.2) fun x2 =>
  some (.v (.agg ⟨[.int .i64 x3.1, .int .i64 x3.2]⟩), ⟨[.v (.int .i64 x2)], 42⟩) := by kernel_rfl
theorem gmulV_mods (k a b c d : Int) : Mods Tryz.prog 27 42 k [.agg ⟨[.int .i64 a, .int .i64 b]⟩, .agg ⟨[.int .i64 c, .int .i64 d]⟩] (pairV (gmulV a b c d).1 (gmulV a b c d).2) (gmulC k a b c d) := by
  refine evF_mods (E := []) mixed (by simp) Cs_ok book_gmulV_mods_ok (lim := 20) (d := 6) (nm := []) ?_
  rw [gmulV_mods_tree k a b c d]
  rfl
noncomputable def gnegV (a b : Int) : Int × Int := ((negR a b).1, (negR a b).2.1)
noncomputable def gnegC (k a b : Int) : Int := keepE k (negR a b).2.2
noncomputable def book_gnegV_mods : Book := [(46, cPI 42 (fun a b c => pairV (numV a b c).1 (numV a b c).2) numC), (50, eP (fun a b => arcV (negR a b)))]
theorem book_gnegV_mods_ok : BookOk Tryz.prog book_gnegV_mods := (bookOk_cons (cPI_ok numV_mods) (bookOk_cons (eP_ok negR_gives) bookOk_nil))
theorem gnegV_mods_tree (k a b : Int) : evF Tryz.prog [] Cs book_gnegV_mods 20 6 29 (.p [] 0 :: [.agg ⟨[.int .i64 a, .int .i64 b]⟩].map AV.v) [([], ⟨[.v (.int .i64 k)], 42⟩)] [] lastC =
  lt (negR a b) fun x1 =>
  lt (numV x1.1 x1.2.1 x1.2.2) fun x3 =>
  lt (numC k x1.1 x1.2.1 x1.2.2) fun x2 =>
  some (.v (.agg ⟨[.int .i64 x3.1, .int .i64 x3.2]⟩), ⟨[.v (.int .i64 x2)], 42⟩) := by kernel_rfl
theorem gnegV_mods (k a b : Int) : Mods Tryz.prog 29 42 k [.agg ⟨[.int .i64 a, .int .i64 b]⟩] (pairV (gnegV a b).1 (gnegV a b).2) (gnegC k a b) := by
  refine evF_mods (E := []) mixed (by simp) Cs_ok book_gnegV_mods_ok (lim := 20) (d := 6) (nm := []) ?_
  rw [gnegV_mods_tree k a b]
  rfl
noncomputable def gasinV (a b : Int) : Int × Int := ((asinR a b).1, (asinR a b).2.1)
noncomputable def gasinC (k a b : Int) : Int := keepE k (asinR a b).2.2
noncomputable def book_gasinV_mods : Book := [(24, cPI 42 (fun a b c => pairV (arcW a b c).1 (arcW a b c).2) arcC), (47, eP (fun a b => arcV (asinR a b)))]
theorem book_gasinV_mods_ok : BookOk Tryz.prog book_gasinV_mods := (bookOk_cons (cPI_ok arcW_mods) (bookOk_cons (eP_ok asin_r) bookOk_nil))
theorem gasinV_mods_tree (k a b : Int) : evF Tryz.prog [] Cs book_gasinV_mods 20 6 26 (.p [] 0 :: [.agg ⟨[.int .i64 a, .int .i64 b]⟩].map AV.v) [([], ⟨[.v (.int .i64 k)], 42⟩)] [] lastC =
  lt (asinR a b) fun x1 =>
  lt (arcW x1.1 x1.2.1 x1.2.2) fun x3 =>
  lt (arcC k x1.1 x1.2.1 x1.2.2) fun x2 =>
  some (.v (.agg ⟨[.int .i64 x3.1, .int .i64 x3.2]⟩), ⟨[.v (.int .i64 x2)], 42⟩) := by kernel_rfl
theorem gasinV_mods (k a b : Int) : Mods Tryz.prog 26 42 k [.agg ⟨[.int .i64 a, .int .i64 b]⟩] (pairV (gasinV a b).1 (gasinV a b).2) (gasinC k a b) := by
  refine evF_mods (E := []) mixed (by simp) Cs_ok book_gasinV_mods_ok (lim := 20) (d := 6) (nm := []) ?_
  rw [gasinV_mods_tree k a b]
  rfl
noncomputable def gbeaV (a b c d : Int) : Int × Int := ((bearR a b c d).1, (bearR a b c d).2.1)
noncomputable def gbeaC (k a b c d : Int) : Int := keepE k (bearR a b c d).2.2
noncomputable def book_gbeaV_mods : Book := [(24, cPI 42 (fun a b c => pairV (arcW a b c).1 (arcW a b c).2) arcC), (49, ePP (fun a b c d => arcV (bearR a b c d)))]
theorem book_gbeaV_mods_ok : BookOk Tryz.prog book_gbeaV_mods := (bookOk_cons (cPI_ok arcW_mods) (bookOk_cons (ePP_ok bear_any) bookOk_nil))
theorem gbeaV_mods_tree (k a b c d : Int) : evF Tryz.prog [] Cs book_gbeaV_mods 20 6 28 (.p [] 0 :: [.agg ⟨[.int .i64 a, .int .i64 b]⟩, .agg ⟨[.int .i64 c, .int .i64 d]⟩].map AV.v) [([], ⟨[.v (.int .i64 k)], 42⟩)] [] lastC =
  lt (bearR a b c d) fun x1 =>
  lt (arcW x1.1 x1.2.1 x1.2.2) fun x3 =>
  lt (arcC k x1.1 x1.2.1 x1.2.2) fun x2 =>
  some (.v (.agg ⟨[.int .i64 x3.1, .int .i64 x3.2]⟩), ⟨[.v (.int .i64 x2)], 42⟩) := by kernel_rfl
theorem gbeaV_mods (k a b c d : Int) : Mods Tryz.prog 28 42 k [.agg ⟨[.int .i64 a, .int .i64 b]⟩, .agg ⟨[.int .i64 c, .int .i64 d]⟩] (pairV (gbeaV a b c d).1 (gbeaV a b c d).2) (gbeaC k a b c d) := by
  refine evF_mods (E := []) mixed (by simp) Cs_ok book_gbeaV_mods_ok (lim := 20) (d := 6) (nm := []) ?_
  rw [gbeaV_mods_tree k a b c d]
  rfl
def latB (a b : Int) : Bool := avalidB a b && (decide (a ≥ -5400000) && decide (b ≤ 5400000))
noncomputable def book_latB_gives : Book := [(34, eP (fun a b => .bool (avalidB a b)))]
theorem book_latB_gives_ok : BookOk Tryz.prog book_latB_gives := (bookOk_cons (eP_ok gvalid_any) bookOk_nil)
theorem latB_gives_tree (a b : Int) : evF Tryz.prog [] Cs book_latB_gives 20 6 33 ([.agg ⟨[.int .i64 a, .int .i64 b]⟩].map AV.v) [] [] last =
  cond (avalidB a b)
  (cond (decide (a ≥ (-5400000)))
   (some (.v (.bool (decide (b ≤ 5400000)))))
   (some (.v (.bool false))))
  (some (.v (.bool false))) := by kernel_rfl
theorem latB_gives (a b : Int) : Gives Tryz.prog 33 [.agg ⟨[.int .i64 a, .int .i64 b]⟩] (.bool (latB a b)) := by
  refine evF_gives (E := []) mixed (by simp) Cs_ok book_latB_gives_ok (lim := 20) (d := 6) (nm := []) ?_
  rw [latB_gives_tree a b]
  cases h1 : (avalidB a b)
  · rw [cond_false]
    simp [latB, *]
  · rw [cond_true]
    cases h2 : (decide (a ≥ (-5400000)))
    · rw [cond_false]
      replace h2 := of_decide_eq_false h2
      simp [latB, *]
    · rw [cond_true]
      replace h2 := of_decide_eq_true h2
      simp [latB, *]
def triB (a b c d e f : Int) : Bool := latB a b && (latB c d && avalidB e f)
noncomputable def book_triB_gives : Book := [(33, eP (fun a b => .bool (latB a b))), (34, eP (fun a b => .bool (avalidB a b)))]
theorem book_triB_gives_ok : BookOk Tryz.prog book_triB_gives := (bookOk_cons (eP_ok latB_gives) (bookOk_cons (eP_ok gvalid_any) bookOk_nil))
theorem triB_gives_tree (a b c d e f : Int) : evF Tryz.prog [] Cs book_triB_gives 20 6 13 ([.agg ⟨[.int .i64 a, .int .i64 b, .int .i64 c, .int .i64 d, .int .i64 e, .int .i64 f]⟩].map AV.v) [] [] last =
  cond (latB a b)
  (cond (latB c d)
   (some (.v (.bool (avalidB e f))))
   (some (.v (.bool false))))
  (some (.v (.bool false))) := by kernel_rfl
theorem triB_gives (a b c d e f : Int) : Gives Tryz.prog 13 [.agg ⟨[.int .i64 a, .int .i64 b, .int .i64 c, .int .i64 d, .int .i64 e, .int .i64 f]⟩] (.bool (triB a b c d e f)) := by
  refine evF_gives (E := []) mixed (by simp) Cs_ok book_triB_gives_ok (lim := 20) (d := 6) (nm := []) ?_
  rw [triB_gives_tree a b c d e f]
  cases h1 : (latB a b)
  · rw [cond_false]
    simp [triB, *]
  · rw [cond_true]
    cases h2 : (latB c d)
    · rw [cond_false]
      simp [triB, *]
    · rw [cond_true]
      simp [triB, *]
end Go.Proofs.YtadefgjpkhhffaaGreat

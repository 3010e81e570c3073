/-
  A divided triangle: what each function gives.
-/
import Derived.Test.YtmididlfnajhiaaGreatDoorFc
namespace Go.Proofs.YtmididlfnajhiaaGreatDoor
open Ev

def numV (a b _e : Int) : Int × Int := (a, b)
def numC (k _a _b e : Int) : Int := keepE k e
noncomputable def book_numV_mods : Book := []
theorem book_numV_mods_ok : BookOk Tryz.prog book_numV_mods := bookOk_nil
theorem numV_mods_tree (k a b c : Int) : evF Tryz.prog [] Cs book_numV_mods 20 6 136 (.p [] 0 :: [.agg ⟨[.int .i64 a, .int .i64 b]⟩, .int .i64 c].map AV.v) [([], ⟨[.v (.int .i64 k)], 84⟩)] [] lastC =
  cond (k == 0)
  (some (.v (.agg ⟨[.int .i64 a, .int .i64 b]⟩), ⟨[.v (.int .i64 c)], 84⟩))
  (some (.v (.agg ⟨[.int .i64 a, .int .i64 b]⟩), ⟨[.v (.int .i64 k)], 84⟩)) := by kernel_rfl
theorem numV_mods (k a b c : Int) : Mods Tryz.prog 136 84 k [.agg ⟨[.int .i64 a, .int .i64 b]⟩, .int .i64 c] (pairV (numV a b c).1 (numV a b c).2) (numC k a b c) := by
  refine evF_mods (E := []) mixed (by simp) Cs_ok book_numV_mods_ok (lim := 20) (d := 6) (nm := []) ?_
  rw [numV_mods_tree k a b c]
  unfold numC keepE
  by_cases h : k = 0
  · simp [h]; rfl
  · have e : (k == 0) = false := beq_eq_false_iff_ne.2 h
    rw [e]
    simp [h]; rfl
def arcW (a b _e : Int) : Int × Int := (a, b)
def arcC (k _a _b e : Int) : Int := keepE k e
noncomputable def book_arcW_mods : Book := []
theorem book_arcW_mods_ok : BookOk Tryz.prog book_arcW_mods := bookOk_nil
theorem arcW_mods_tree (k a b c : Int) : evF Tryz.prog [] Cs book_arcW_mods 20 6 67 (.p [] 0 :: [.agg ⟨[.int .i64 a, .int .i64 b]⟩, .int .i64 c].map AV.v) [([], ⟨[.v (.int .i64 k)], 84⟩)] [] lastC =
  cond (k == 0)
  (some (.v (.agg ⟨[.int .i64 a, .int .i64 b]⟩), ⟨[.v (.int .i64 c)], 84⟩))
  (some (.v (.agg ⟨[.int .i64 a, .int .i64 b]⟩), ⟨[.v (.int .i64 k)], 84⟩)) := by kernel_rfl
theorem arcW_mods (k a b c : Int) : Mods Tryz.prog 67 84 k [.agg ⟨[.int .i64 a, .int .i64 b]⟩, .int .i64 c] (pairV (arcW a b c).1 (arcW a b c).2) (arcC k a b c) := by
  refine evF_mods (E := []) mixed (by simp) Cs_ok book_arcW_mods_ok (lim := 20) (d := 6) (nm := []) ?_
  rw [arcW_mods_tree k a b c]
  unfold arcC keepE
  by_cases h : k = 0
  · simp [h]; rfl
  · have e : (k == 0) = false := beq_eq_false_iff_ne.2 h
    rw [e]
    simp [h]; rfl
noncomputable def gsinV (a b : Int) : Int × Int := ((sinR a b).1, (sinR a b).2.1)
noncomputable def gsinC (k a b : Int) : Int := keepE k (sinR a b).2.2
noncomputable def book_gsinV_mods : Book := [(136, cPI 84 (fun a b c => pairV (numV a b c).1 (numV a b c).2) numC), (139, eP (fun a b => arcV (sinR a b)))]
theorem book_gsinV_mods_ok : BookOk Tryz.prog book_gsinV_mods := (bookOk_cons (cPI_ok numV_mods) (bookOk_cons (eP_ok (fun a b W _ => sin_r a b W)) bookOk_nil))
theorem gsinV_mods_tree (k a b : Int) : evF Tryz.prog [] Cs book_gsinV_mods 20 6 73 (.p [] 0 :: [.agg ⟨[.int .i64 a, .int .i64 b]⟩].map AV.v) [([], ⟨[.v (.int .i64 k)], 84⟩)] [] lastC =
  lt (sinR a b) fun x1 =>
  lt (numV x1.1 x1.2.1 x1.2.2) fun x3 =>
  lt (numC k x1.1 x1.2.1 x1.2.2) fun x2 =>
  some (.v (.agg ⟨[.int .i64 x3.1, .int .i64 x3.2]⟩), ⟨[.v (.int .i64 x2)], 84⟩) := by kernel_rfl
theorem gsinV_mods (k a b : Int) : Mods Tryz.prog 73 84 k [.agg ⟨[.int .i64 a, .int .i64 b]⟩] (pairV (gsinV a b).1 (gsinV a b).2) (gsinC k a b) := by
  refine evF_mods (E := []) mixed (by simp) Cs_ok book_gsinV_mods_ok (lim := 20) (d := 6) (nm := []) ?_
  rw [gsinV_mods_tree k a b]
  rfl
noncomputable def gcosV (a b : Int) : Int × Int := ((cosR a b).1, (cosR a b).2.1)
noncomputable def gcosC (k a b : Int) : Int := keepE k (cosR a b).2.2
noncomputable def book_gcosV_mods : Book := [(135, eP (fun a b => arcV (cosR a b))), (136, cPI 84 (fun a b c => pairV (numV a b c).1 (numV a b c).2) numC)]
theorem book_gcosV_mods_ok : BookOk Tryz.prog book_gcosV_mods := (bookOk_cons (eP_ok (fun a b W _ => cos_r a b W)) (bookOk_cons (cPI_ok numV_mods) bookOk_nil))
theorem gcosV_mods_tree (k a b : Int) : evF Tryz.prog [] Cs book_gcosV_mods 20 6 68 (.p [] 0 :: [.agg ⟨[.int .i64 a, .int .i64 b]⟩].map AV.v) [([], ⟨[.v (.int .i64 k)], 84⟩)] [] lastC =
  lt (cosR a b) fun x1 =>
  lt (numV x1.1 x1.2.1 x1.2.2) fun x3 =>
  lt (numC k x1.1 x1.2.1 x1.2.2) fun x2 =>
  some (.v (.agg ⟨[.int .i64 x3.1, .int .i64 x3.2]⟩), ⟨[.v (.int .i64 x2)], 84⟩) := by kernel_rfl
theorem gcosV_mods (k a b : Int) : Mods Tryz.prog 68 84 k [.agg ⟨[.int .i64 a, .int .i64 b]⟩] (pairV (gcosV a b).1 (gcosV a b).2) (gcosC k a b) := by
  refine evF_mods (E := []) mixed (by simp) Cs_ok book_gcosV_mods_ok (lim := 20) (d := 6) (nm := []) ?_
  rw [gcosV_mods_tree k a b]
  rfl
noncomputable def gmulV (a b c d : Int) : Int × Int := ((mulR a b c d).1, (mulR a b c d).2.1)
noncomputable def gmulC (k a b c d : Int) : Int := keepE k (mulR a b c d).2.2
noncomputable def book_gmulV_mods : Book := [(127, ePP (fun a b c d => arcV (mulR a b c d))), (136, cPI 84 (fun a b c => pairV (numV a b c).1 (numV a b c).2) numC)]
theorem book_gmulV_mods_ok : BookOk Tryz.prog book_gmulV_mods := (bookOk_cons (ePP_ok mulR_gives) (bookOk_cons (cPI_ok numV_mods) bookOk_nil))
theorem gmulV_mods_tree (k a b c d : Int) : evF Tryz.prog [] Cs book_gmulV_mods 20 6 70 (.p [] 0 :: [.agg ⟨[.int .i64 a, .int .i64 b]⟩, .agg ⟨[.int .i64 c, .int .i64 d]⟩].map AV.v) [([], ⟨[.v (.int .i64 k)], 84⟩)] [] lastC =
  lt (mulR a b c d) fun x1 =>
  lt (numV x1.1 x1.2.1 x1.2.2) fun x3 =>
  lt (numC k x1.1 x1.2.1 x1.2.2) fun x2 =>
  some (.v (.agg ⟨[.int .i64 x3.1, .int .i64 x3.2]⟩), ⟨[.v (.int .i64 x2)], 84⟩) := by kernel_rfl
theorem gmulV_mods (k a b c d : Int) : Mods Tryz.prog 70 84 k [.agg ⟨[.int .i64 a, .int .i64 b]⟩, .agg ⟨[.int .i64 c, .int .i64 d]⟩] (pairV (gmulV a b c d).1 (gmulV a b c d).2) (gmulC k a b c d) := by
  refine evF_mods (E := []) mixed (by simp) Cs_ok book_gmulV_mods_ok (lim := 20) (d := 6) (nm := []) ?_
  rw [gmulV_mods_tree k a b c d]
  rfl
noncomputable def gnegV (a b : Int) : Int × Int := ((negR a b).1, (negR a b).2.1)
noncomputable def gnegC (k a b : Int) : Int := keepE k (negR a b).2.2
noncomputable def book_gnegV_mods : Book := [(136, cPI 84 (fun a b c => pairV (numV a b c).1 (numV a b c).2) numC), (138, eP (fun a b => arcV (negR a b)))]
theorem book_gnegV_mods_ok : BookOk Tryz.prog book_gnegV_mods := (bookOk_cons (cPI_ok numV_mods) (bookOk_cons (eP_ok negR_gives) bookOk_nil))
theorem gnegV_mods_tree (k a b : Int) : evF Tryz.prog [] Cs book_gnegV_mods 20 6 72 (.p [] 0 :: [.agg ⟨[.int .i64 a, .int .i64 b]⟩].map AV.v) [([], ⟨[.v (.int .i64 k)], 84⟩)] [] lastC =
  lt (negR a b) fun x1 =>
  lt (numV x1.1 x1.2.1 x1.2.2) fun x3 =>
  lt (numC k x1.1 x1.2.1 x1.2.2) fun x2 =>
  some (.v (.agg ⟨[.int .i64 x3.1, .int .i64 x3.2]⟩), ⟨[.v (.int .i64 x2)], 84⟩) := by kernel_rfl
theorem gnegV_mods (k a b : Int) : Mods Tryz.prog 72 84 k [.agg ⟨[.int .i64 a, .int .i64 b]⟩] (pairV (gnegV a b).1 (gnegV a b).2) (gnegC k a b) := by
  refine evF_mods (E := []) mixed (by simp) Cs_ok book_gnegV_mods_ok (lim := 20) (d := 6) (nm := []) ?_
  rw [gnegV_mods_tree k a b]
  rfl
noncomputable def gasinV (a b : Int) : Int × Int := ((asinR a b).1, (asinR a b).2.1)
noncomputable def gasinC (k a b : Int) : Int := keepE k (asinR a b).2.2
noncomputable def book_gasinV_mods : Book := [(67, cPI 84 (fun a b c => pairV (arcW a b c).1 (arcW a b c).2) arcC), (137, eP (fun a b => arcV (asinR a b)))]
theorem book_gasinV_mods_ok : BookOk Tryz.prog book_gasinV_mods := (bookOk_cons (cPI_ok arcW_mods) (bookOk_cons (eP_ok (fun a b W _ => asin_r a b W)) bookOk_nil))
theorem gasinV_mods_tree (k a b : Int) : evF Tryz.prog [] Cs book_gasinV_mods 20 6 69 (.p [] 0 :: [.agg ⟨[.int .i64 a, .int .i64 b]⟩].map AV.v) [([], ⟨[.v (.int .i64 k)], 84⟩)] [] lastC =
  lt (asinR a b) fun x1 =>
  lt (arcW x1.1 x1.2.1 x1.2.2) fun x3 =>
  lt (arcC k x1.1 x1.2.1 x1.2.2) fun x2 =>
  some (.v (.agg ⟨[.int .i64 x3.1, .int .i64 x3.2]⟩), ⟨[.v (.int .i64 x2)], 84⟩) := by kernel_rfl
theorem gasinV_mods (k a b : Int) : Mods Tryz.prog 69 84 k [.agg ⟨[.int .i64 a, .int .i64 b]⟩] (pairV (gasinV a b).1 (gasinV a b).2) (gasinC k a b) := by
  refine evF_mods (E := []) mixed (by simp) Cs_ok book_gasinV_mods_ok (lim := 20) (d := 6) (nm := []) ?_
  rw [gasinV_mods_tree k a b]
  rfl
noncomputable def gbeaV (a b c d : Int) : Int × Int := ((bearR a b c d).1, (bearR a b c d).2.1)
noncomputable def gbeaC (k a b c d : Int) : Int := keepE k (bearR a b c d).2.2
noncomputable def book_gbeaV_mods : Book := [(67, cPI 84 (fun a b c => pairV (arcW a b c).1 (arcW a b c).2) arcC), (90, ePP (fun a b c d => arcV (bearR a b c d)))]
theorem book_gbeaV_mods_ok : BookOk Tryz.prog book_gbeaV_mods := (bookOk_cons (cPI_ok arcW_mods) (bookOk_cons (ePP_ok (fun a b c d W _ => bear_any a b c d W)) bookOk_nil))
theorem gbeaV_mods_tree (k a b c d : Int) : evF Tryz.prog [] Cs book_gbeaV_mods 20 6 71 (.p [] 0 :: [.agg ⟨[.int .i64 a, .int .i64 b]⟩, .agg ⟨[.int .i64 c, .int .i64 d]⟩].map AV.v) [([], ⟨[.v (.int .i64 k)], 84⟩)] [] lastC =
  lt (bearR a b c d) fun x1 =>
  lt (arcW x1.1 x1.2.1 x1.2.2) fun x3 =>
  lt (arcC k x1.1 x1.2.1 x1.2.2) fun x2 =>
  some (.v (.agg ⟨[.int .i64 x3.1, .int .i64 x3.2]⟩), ⟨[.v (.int .i64 x2)], 84⟩) := by kernel_rfl
theorem gbeaV_mods (k a b c d : Int) : Mods Tryz.prog 71 84 k [.agg ⟨[.int .i64 a, .int .i64 b]⟩, .agg ⟨[.int .i64 c, .int .i64 d]⟩] (pairV (gbeaV a b c d).1 (gbeaV a b c d).2) (gbeaC k a b c d) := by
  refine evF_mods (E := []) mixed (by simp) Cs_ok book_gbeaV_mods_ok (lim := 20) (d := 6) (nm := []) ?_
  rw [gbeaV_mods_tree k a b c d]
  rfl
noncomputable def solM (a b c d e f : Int) : Int × Int × Int × Int × Int :=
  cond (!(triB a b c d e f))
  ((0, 0, 0, 0, 1))
  (lt (gcosV c d) fun x2 =>
   lt (gcosC 0 c d) fun x1 =>
   lt (gsinV e f) fun x4 =>
   lt (gsinC x1 e f) fun x3 =>
   lt (gmulV x2.1 x2.2 x4.1 x4.2) fun x6 =>
   lt (gmulC x3 x2.1 x2.2 x4.1 x4.2) fun x5 =>
   lt (gasinV x6.1 x6.2) fun x8 =>
   lt (gasinC x5 x6.1 x6.2) fun x7 =>
   lt (gsinV c d) fun x10 =>
   lt (gsinC x7 c d) fun x9 =>
   lt (gcosV e f) fun x12 =>
   lt (gcosC x9 e f) fun x11 =>
   lt (gmulV x2.1 x2.2 x12.1 x12.2) fun x14 =>
   lt (gmulC x11 x2.1 x2.2 x12.1 x12.2) fun x13 =>
   lt (gbeaV x10.1 x10.2 x14.1 x14.2) fun x16 =>
   lt (gbeaC x13 x10.1 x10.2 x14.1 x14.2) fun x15 =>
   lt (asubR x16.1 x16.2 a b) fun x17 =>
   lt (arcW x17.1 x17.2.1 x17.2.2) fun x19 =>
   lt (arcC x15 x17.1 x17.2.1 x17.2.2) fun x18 =>
   lt (gcosV x8.1 x8.2) fun x21 =>
   lt (gcosC x18 x8.1 x8.2) fun x20 =>
   lt (gcosV x19.1 x19.2) fun x23 =>
   lt (gcosC x20 x19.1 x19.2) fun x22 =>
   lt (gmulV x21.1 x21.2 x23.1 x23.2) fun x25 =>
   lt (gmulC x22 x21.1 x21.2 x23.1 x23.2) fun x24 =>
   lt (gasinV x25.1 x25.2) fun x27 =>
   lt (gasinC x24 x25.1 x25.2) fun x26 =>
   lt (gcosV c d) fun x29 =>
   lt (gcosC x26 c d) fun x28 =>
   lt (gsinV e f) fun x31 =>
   lt (gsinC x28 e f) fun x30 =>
   lt (gmulV x29.1 x29.2 x31.1 x31.2) fun x33 =>
   lt (gmulC x30 x29.1 x29.2 x31.1 x31.2) fun x32 =>
   lt (gnegV x33.1 x33.2) fun x35 =>
   lt (gnegC x32 x33.1 x33.2) fun x34 =>
   lt (gsinV x19.1 x19.2) fun x37 =>
   lt (gsinC x34 x19.1 x19.2) fun x36 =>
   lt (gmulV x21.1 x21.2 x37.1 x37.2) fun x39 =>
   lt (gmulC x36 x21.1 x21.2 x37.1 x37.2) fun x38 =>
   lt (gbeaV x35.1 x35.2 x39.1 x39.2) fun x41 =>
   lt (gbeaC x38 x35.1 x35.2 x39.1 x39.2) fun x40 =>
   cond (x40 != 0)
   ((0, 0, 0, 0, x40))
   ((x27.1, x27.2, x41.1, x41.2, 0)))
noncomputable def book_solM_gives : Book := [(48, eT (fun a b c d e f => .bool (triB a b c d e f))), (61, ePP (fun a b c d => arcV (asubR a b c d))), (67, cPI 84 (fun a b c => pairV (arcW a b c).1 (arcW a b c).2) arcC), (68, cP 84 (fun a b => pairV (gcosV a b).1 (gcosV a b).2) gcosC), (69, cP 84 (fun a b => pairV (gasinV a b).1 (gasinV a b).2) gasinC), (70, cPP 84 (fun a b c d => pairV (gmulV a b c d).1 (gmulV a b c d).2) gmulC), (71, cPP 84 (fun a b c d => pairV (gbeaV a b c d).1 (gbeaV a b c d).2) gbeaC), (72, cP 84 (fun a b => pairV (gnegV a b).1 (gnegV a b).2) gnegC), (73, cP 84 (fun a b => pairV (gsinV a b).1 (gsinV a b).2) gsinC)]
theorem book_solM_gives_ok : BookOk Tryz.prog book_solM_gives := (bookOk_cons (eT_ok triB_gives) (bookOk_cons (ePP_ok asubR_gives) (bookOk_cons (cPI_ok arcW_mods) (bookOk_cons (cP_ok gcosV_mods) (bookOk_cons (cP_ok gasinV_mods) (bookOk_cons (cPP_ok gmulV_mods) (bookOk_cons (cPP_ok gbeaV_mods) (bookOk_cons (cP_ok gnegV_mods) (bookOk_cons (cP_ok gsinV_mods) bookOk_nil)))))))))
theorem solM_gives_tree (a b c d e f : Int) : evF Tryz.prog [] Cs book_solM_gives 20 6 39 ([.agg ⟨[.int .i64 a, .int .i64 b, .int .i64 c, .int .i64 d, .int .i64 e, .int .i64 f]⟩].map AV.v) [] [] last =
  cond (!(triB a b c d e f))
  (some (.v (.tuple ⟨[.agg ⟨[.int .i64 0, .int .i64 0, .int .i64 0, .int .i64 0]⟩, .int .i64 1]⟩)))
  (lt (gcosV c d) fun x2 =>
   lt (gcosC 0 c d) fun x1 =>
   lt (gsinV e f) fun x4 =>
   lt (gsinC x1 e f) fun x3 =>
   lt (gmulV x2.1 x2.2 x4.1 x4.2) fun x6 =>
   lt (gmulC x3 x2.1 x2.2 x4.1 x4.2) fun x5 =>
   lt (gasinV x6.1 x6.2) fun x8 =>
   lt (gasinC x5 x6.1 x6.2) fun x7 =>
   lt (gsinV c d) fun x10 =>
   lt (gsinC x7 c d) fun x9 =>
   lt (gcosV e f) fun x12 =>
   lt (gcosC x9 e f) fun x11 =>
   lt (gmulV x2.1 x2.2 x12.1 x12.2) fun x14 =>
   lt (gmulC x11 x2.1 x2.2 x12.1 x12.2) fun x13 =>
   lt (gbeaV x10.1 x10.2 x14.1 x14.2) fun x16 =>
   lt (gbeaC x13 x10.1 x10.2 x14.1 x14.2) fun x15 =>
   lt (asubR x16.1 x16.2 a b) fun x17 =>
   lt (arcW x17.1 x17.2.1 x17.2.2) fun x19 =>
   lt (arcC x15 x17.1 x17.2.1 x17.2.2) fun x18 =>
   lt (gcosV x8.1 x8.2) fun x21 =>
   lt (gcosC x18 x8.1 x8.2) fun x20 =>
   lt (gcosV x19.1 x19.2) fun x23 =>
   lt (gcosC x20 x19.1 x19.2) fun x22 =>
   lt (gmulV x21.1 x21.2 x23.1 x23.2) fun x25 =>
   lt (gmulC x22 x21.1 x21.2 x23.1 x23.2) fun x24 =>
   lt (gasinV x25.1 x25.2) fun x27 =>
   lt (gasinC x24 x25.1 x25.2) fun x26 =>
   lt (gcosV c d) fun x29 =>
   lt (gcosC x26 c d) fun x28 =>
   lt (gsinV e f) fun x31 =>
   lt (gsinC x28 e f) fun x30 =>
   lt (gmulV x29.1 x29.2 x31.1 x31.2) fun x33 =>
   lt (gmulC x30 x29.1 x29.2 x31.1 x31.2) fun x32 =>
   lt (gnegV x33.1 x33.2) fun x35 =>
   lt (gnegC x32 x33.1 x33.2) fun x34 =>
   lt (gsinV x19.1 x19.2) fun x37 =>
   lt (gsinC x34 x19.1 x19.2) fun x36 =>
   lt (gmulV x21.1 x21.2 x37.1 x37.2) fun x39 =>
   lt (gmulC x36 x21.1 x21.2 x37.1 x37.2) fun x38 =>
   lt (gbeaV x35.1 x35.2 x39.1 x39.2) fun x41 =>
   lt (gbeaC x38 x35.1 x35.2 x39.1 x39.2) fun x40 =>
   cond (x40 != 0)
   (some (.v (.tuple ⟨[.agg ⟨[.int .i64 0, .int .i64 0, .int .i64 0, .int .i64 0]⟩, .int .i64 x40]⟩)))
   (some (.v (.tuple ⟨[.agg ⟨[.int .i64 x27.1, .int .i64 x27.2, .int .i64 x41.1, .int .i64 x41.2]⟩, .int .i64 0]⟩)))) := by kernel_rfl
theorem solM_gives (a b c d e f : Int) : Gives Tryz.prog 39 [.agg ⟨[.int .i64 a, .int .i64 b, .int .i64 c, .int .i64 d, .int .i64 e, .int .i64 f]⟩] (solV (solM a b c d e f)) := by
  refine evF_gives (E := []) mixed (by simp) Cs_ok book_solM_gives_ok (lim := 20) (d := 6) (nm := []) ?_
  rw [solM_gives_tree a b c d e f]
  unfold solM
  refine case_cond (fun (r : Int × Int × Int × Int × Int) => AV.v (solV (r))) ?_ ?_
  · rfl
  · refine case_lt (fun (r : Int × Int × Int × Int × Int) => AV.v (solV (r))) fun _ => ?_
    refine case_lt (fun (r : Int × Int × Int × Int × Int) => AV.v (solV (r))) fun _ => ?_
    refine case_lt (fun (r : Int × Int × Int × Int × Int) => AV.v (solV (r))) fun _ => ?_
    refine case_lt (fun (r : Int × Int × Int × Int × Int) => AV.v (solV (r))) fun _ => ?_
    refine case_lt (fun (r : Int × Int × Int × Int × Int) => AV.v (solV (r))) fun _ => ?_
    refine case_lt (fun (r : Int × Int × Int × Int × Int) => AV.v (solV (r))) fun _ => ?_
    refine case_lt (fun (r : Int × Int × Int × Int × Int) => AV.v (solV (r))) fun _ => ?_
    refine case_lt (fun (r : Int × Int × Int × Int × Int) => AV.v (solV (r))) fun _ => ?_
    refine case_lt (fun (r : Int × Int × Int × Int × Int) => AV.v (solV (r))) fun _ => ?_
    refine case_lt (fun (r : Int × Int × Int × Int × Int) => AV.v (solV (r))) fun _ => ?_
    refine case_lt (fun (r : Int × Int × Int × Int × Int) => AV.v (solV (r))) fun _ => ?_
    refine case_lt (fun (r : Int × Int × Int × Int × Int) => AV.v (solV (r))) fun _ => ?_
    refine case_lt (fun (r : Int × Int × Int × Int × Int) => AV.v (solV (r))) fun _ => ?_
    refine case_lt (fun (r : Int × Int × Int × Int × Int) => AV.v (solV (r))) fun _ => ?_
    refine case_lt (fun (r : Int × Int × Int × Int × Int) => AV.v (solV (r))) fun _ => ?_
    refine case_lt (fun (r : Int × Int × Int × Int × Int) => AV.v (solV (r))) fun _ => ?_
    refine case_lt (fun (r : Int × Int × Int × Int × Int) => AV.v (solV (r))) fun _ => ?_
    refine case_lt (fun (r : Int × Int × Int × Int × Int) => AV.v (solV (r))) fun _ => ?_
    refine case_lt (fun (r : Int × Int × Int × Int × Int) => AV.v (solV (r))) fun _ => ?_
    refine case_lt (fun (r : Int × Int × Int × Int × Int) => AV.v (solV (r))) fun _ => ?_
    refine case_lt (fun (r : Int × Int × Int × Int × Int) => AV.v (solV (r))) fun _ => ?_
    refine case_lt (fun (r : Int × Int × Int × Int × Int) => AV.v (solV (r))) fun _ => ?_
    refine case_lt (fun (r : Int × Int × Int × Int × Int) => AV.v (solV (r))) fun _ => ?_
    refine case_lt (fun (r : Int × Int × Int × Int × Int) => AV.v (solV (r))) fun _ => ?_
    refine case_lt (fun (r : Int × Int × Int × Int × Int) => AV.v (solV (r))) fun _ => ?_
    refine case_lt (fun (r : Int × Int × Int × Int × Int) => AV.v (solV (r))) fun _ => ?_
    refine case_lt (fun (r : Int × Int × Int × Int × Int) => AV.v (solV (r))) fun _ => ?_
    refine case_lt (fun (r : Int × Int × Int × Int × Int) => AV.v (solV (r))) fun _ => ?_
    refine case_lt (fun (r : Int × Int × Int × Int × Int) => AV.v (solV (r))) fun _ => ?_
    refine case_lt (fun (r : Int × Int × Int × Int × Int) => AV.v (solV (r))) fun _ => ?_
    refine case_lt (fun (r : Int × Int × Int × Int × Int) => AV.v (solV (r))) fun _ => ?_
    refine case_lt (fun (r : Int × Int × Int × Int × Int) => AV.v (solV (r))) fun _ => ?_
    refine case_lt (fun (r : Int × Int × Int × Int × Int) => AV.v (solV (r))) fun _ => ?_
    refine case_lt (fun (r : Int × Int × Int × Int × Int) => AV.v (solV (r))) fun _ => ?_
    refine case_lt (fun (r : Int × Int × Int × Int × Int) => AV.v (solV (r))) fun _ => ?_
    refine case_lt (fun (r : Int × Int × Int × Int × Int) => AV.v (solV (r))) fun _ => ?_
    refine case_lt (fun (r : Int × Int × Int × Int × Int) => AV.v (solV (r))) fun _ => ?_
    refine case_lt (fun (r : Int × Int × Int × Int × Int) => AV.v (solV (r))) fun _ => ?_
    refine case_lt (fun (r : Int × Int × Int × Int × Int) => AV.v (solV (r))) fun _ => ?_
    refine case_lt (fun (r : Int × Int × Int × Int × Int) => AV.v (solV (r))) fun _ => ?_
    refine case_lt (fun (r : Int × Int × Int × Int × Int) => AV.v (solV (r))) fun _ => ?_
    refine case_cond (fun (r : Int × Int × Int × Int × Int) => AV.v (solV (r))) ?_ ?_
    · rfl
    · rfl
end Go.Proofs.YtmididlfnajhiaaGreatDoor

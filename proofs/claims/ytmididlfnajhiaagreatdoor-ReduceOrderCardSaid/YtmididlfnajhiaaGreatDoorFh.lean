/-
  Haversines: what each function gives.
-/
import Derived.Test.YtmididlfnajhiaaGreatDoorFc
namespace Go.Proofs.YtmididlfnajhiaaGreatDoor
open Ev

def hnumV (a b _e : Int) : Int × Int := (a, b)
def hnumC (k _a _b e : Int) : Int := keepE k e
noncomputable def book_hnumV_mods : Book := []
theorem book_hnumV_mods_ok : BookOk Tryz.prog book_hnumV_mods := bookOk_nil
theorem hnumV_mods_tree (k a b c : Int) : evF Tryz.prog [] Cs book_hnumV_mods 20 6 126 (.p [] 0 :: [.agg ⟨[.int .i64 a, .int .i64 b]⟩, .int .i64 c].map AV.v) [([], ⟨[.v (.int .i64 k)], 125⟩)] [] lastC =
  cond (k == 0)
  (some (.v (.agg ⟨[.int .i64 a, .int .i64 b]⟩), ⟨[.v (.int .i64 c)], 125⟩))
  (some (.v (.agg ⟨[.int .i64 a, .int .i64 b]⟩), ⟨[.v (.int .i64 k)], 125⟩)) := by kernel_rfl
theorem hnumV_mods (k a b c : Int) : Mods Tryz.prog 126 125 k [.agg ⟨[.int .i64 a, .int .i64 b]⟩, .int .i64 c] (pairV (hnumV a b c).1 (hnumV a b c).2) (hnumC k a b c) := by
  refine evF_mods (E := []) mixed (by simp) Cs_ok book_hnumV_mods_ok (lim := 20) (d := 6) (nm := []) ?_
  rw [hnumV_mods_tree k a b c]
  unfold hnumC keepE
  by_cases h : k = 0
  · simp [h]; rfl
  · have e : (k == 0) = false := beq_eq_false_iff_ne.2 h
    rw [e]
    simp [h]; rfl
def harcW (a b _e : Int) : Int × Int := (a, b)
def harcC (k _a _b e : Int) : Int := keepE k e
noncomputable def book_harcW_mods : Book := []
theorem book_harcW_mods_ok : BookOk Tryz.prog book_harcW_mods := bookOk_nil
theorem harcW_mods_tree (k a b c : Int) : evF Tryz.prog [] Cs book_harcW_mods 20 6 130 (.p [] 0 :: [.agg ⟨[.int .i64 a, .int .i64 b]⟩, .int .i64 c].map AV.v) [([], ⟨[.v (.int .i64 k)], 125⟩)] [] lastC =
  cond (k == 0)
  (some (.v (.agg ⟨[.int .i64 a, .int .i64 b]⟩), ⟨[.v (.int .i64 c)], 125⟩))
  (some (.v (.agg ⟨[.int .i64 a, .int .i64 b]⟩), ⟨[.v (.int .i64 k)], 125⟩)) := by kernel_rfl
theorem harcW_mods (k a b c : Int) : Mods Tryz.prog 130 125 k [.agg ⟨[.int .i64 a, .int .i64 b]⟩, .int .i64 c] (pairV (harcW a b c).1 (harcW a b c).2) (harcC k a b c) := by
  refine evF_mods (E := []) mixed (by simp) Cs_ok book_harcW_mods_ok (lim := 20) (d := 6) (nm := []) ?_
  rw [harcW_mods_tree k a b c]
  unfold harcC keepE
  by_cases h : k = 0
  · simp [h]; rfl
  · have e : (k == 0) = false := beq_eq_false_iff_ne.2 h
    rw [e]
    simp [h]; rfl
def cosV (a b c d : Int) : Int × Int :=
  let x := cosR a b
  let y := cosR c d
  let z := mulR x.1 x.2.1 y.1 y.2.1
  (z.1, z.2.1)
def cosC (k a b c d : Int) : Int :=
  let x := cosR a b
  let y := cosR c d
  let z := mulR x.1 x.2.1 y.1 y.2.1
  keepE (keepE (keepE k x.2.2) y.2.2) z.2.2
noncomputable def book_cosV_mods : Book := [(126, cPI 125 (fun a b c => pairV (hnumV a b c).1 (hnumV a b c).2) hnumC), (127, ePP (fun a b c d => arcV (mulR a b c d))), (135, eP (fun a b => arcV (cosR a b)))]
theorem book_cosV_mods_ok : BookOk Tryz.prog book_cosV_mods := (bookOk_cons (cPI_ok hnumV_mods) (bookOk_cons (ePP_ok mulR_gives) (bookOk_cons (eP_ok (fun a b W _ => cos_r a b W)) bookOk_nil)))
theorem cosV_mods_tree (k a b c d : Int) : evF Tryz.prog [] Cs book_cosV_mods 20 6 128 (.p [] 0 :: [.agg ⟨[.int .i64 a, .int .i64 b]⟩, .agg ⟨[.int .i64 c, .int .i64 d]⟩].map AV.v) [([], ⟨[.v (.int .i64 k)], 125⟩)] [] lastC =
  lt (cosR a b) fun x1 =>
  lt (hnumV x1.1 x1.2.1 x1.2.2) fun x3 =>
  lt (hnumC k x1.1 x1.2.1 x1.2.2) fun x2 =>
  lt (cosR c d) fun x4 =>
  lt (hnumV x4.1 x4.2.1 x4.2.2) fun x6 =>
  lt (hnumC x2 x4.1 x4.2.1 x4.2.2) fun x5 =>
  lt (mulR x3.1 x3.2 x6.1 x6.2) fun x7 =>
  lt (hnumV x7.1 x7.2.1 x7.2.2) fun x9 =>
  lt (hnumC x5 x7.1 x7.2.1 x7.2.2) fun x8 =>
  some (.v (.agg ⟨[.int .i64 x9.1, .int .i64 x9.2]⟩), ⟨[.v (.int .i64 x8)], 125⟩) := by kernel_rfl
theorem cosV_mods (k a b c d : Int) : Mods Tryz.prog 128 125 k [.agg ⟨[.int .i64 a, .int .i64 b]⟩, .agg ⟨[.int .i64 c, .int .i64 d]⟩] (pairV (cosV a b c d).1 (cosV a b c d).2) (cosC k a b c d) := by
  refine evF_mods (E := []) mixed (by simp) Cs_ok book_cosV_mods_ok (lim := 20) (d := 6) (nm := []) ?_
  rw [cosV_mods_tree k a b c d]
  rfl
def betV (a b c d : Int) : Int × Int :=
  let x := asubR a b c d
  let y := havR x.1 x.2.1
  (y.1, y.2.1)
def betC (k a b c d : Int) : Int :=
  let x := asubR a b c d
  let y := havR x.1 x.2.1
  keepE (keepE k x.2.2) y.2.2
noncomputable def book_betV_mods : Book := [(61, ePP (fun a b c d => arcV (asubR a b c d))), (126, cPI 125 (fun a b c => pairV (hnumV a b c).1 (hnumV a b c).2) hnumC), (129, eP (fun a b => arcV (havR a b))), (130, cPI 125 (fun a b c => pairV (harcW a b c).1 (harcW a b c).2) harcC)]
theorem book_betV_mods_ok : BookOk Tryz.prog book_betV_mods := (bookOk_cons (ePP_ok asubR_gives) (bookOk_cons (cPI_ok hnumV_mods) (bookOk_cons (eP_ok (fun a b W _ => hav_r a b W)) (bookOk_cons (cPI_ok harcW_mods) bookOk_nil))))
theorem betV_mods_tree (k a b c d : Int) : evF Tryz.prog [] Cs book_betV_mods 20 6 133 (.p [] 0 :: [.agg ⟨[.int .i64 a, .int .i64 b]⟩, .agg ⟨[.int .i64 c, .int .i64 d]⟩].map AV.v) [([], ⟨[.v (.int .i64 k)], 125⟩)] [] lastC =
  lt (asubR a b c d) fun x1 =>
  lt (harcW x1.1 x1.2.1 x1.2.2) fun x3 =>
  lt (harcC k x1.1 x1.2.1 x1.2.2) fun x2 =>
  lt (havR x3.1 x3.2) fun x4 =>
  lt (hnumV x4.1 x4.2.1 x4.2.2) fun x6 =>
  lt (hnumC x2 x4.1 x4.2.1 x4.2.2) fun x5 =>
  some (.v (.agg ⟨[.int .i64 x6.1, .int .i64 x6.2]⟩), ⟨[.v (.int .i64 x5)], 125⟩) := by kernel_rfl
theorem betV_mods (k a b c d : Int) : Mods Tryz.prog 133 125 k [.agg ⟨[.int .i64 a, .int .i64 b]⟩, .agg ⟨[.int .i64 c, .int .i64 d]⟩] (pairV (betV a b c d).1 (betV a b c d).2) (betC k a b c d) := by
  refine evF_mods (E := []) mixed (by simp) Cs_ok book_betV_mods_ok (lim := 20) (d := 6) (nm := []) ?_
  rw [betV_mods_tree k a b c d]
  rfl
noncomputable def lessV (a b : Int) : Int × Int :=
  (IntKind.i64.wrap (5400000 - b), IntKind.i64.wrap (5400000 - a))
noncomputable def book_lessV_gives : Book := []
theorem book_lessV_gives_ok : BookOk Tryz.prog book_lessV_gives := bookOk_nil
theorem lessV_gives_tree (a b : Int) : evF Tryz.prog [] Cs book_lessV_gives 20 6 65 ([.agg ⟨[.int .i64 a, .int .i64 b]⟩].map AV.v) [] [] last =
  some (.v (.agg ⟨[.int .i64 (IntKind.i64.wrap (5400000 - b)), .int .i64 (IntKind.i64.wrap (5400000 - a))]⟩)) := by kernel_rfl
theorem lessV_gives (a b : Int) : Gives Tryz.prog 65 [.agg ⟨[.int .i64 a, .int .i64 b]⟩] (pairV (lessV a b).1 (lessV a b).2) := by
  refine evF_gives (E := []) mixed (by simp) Cs_ok book_lessV_gives_ok (lim := 20) (d := 6) (nm := []) ?_
  rw [lessV_gives_tree a b]
  rfl
noncomputable def zenM (a b c d e f : Int) : Int × Int × Int :=
  cond (!(triB a b c d e f))
  ((0, 0, 1))
  (lt (cosV a b c d) fun x2 =>
   lt (cosC 0 a b c d) fun x1 =>
   lt (havR e f) fun x3 =>
   lt (hnumV x3.1 x3.2.1 x3.2.2) fun x5 =>
   lt (hnumC x1 x3.1 x3.2.1 x3.2.2) fun x4 =>
   lt (mulR x2.1 x2.2 x5.1 x5.2) fun x6 =>
   lt (hnumV x6.1 x6.2.1 x6.2.2) fun x8 =>
   lt (hnumC x4 x6.1 x6.2.1 x6.2.2) fun x7 =>
   lt (betV a b c d) fun x10 =>
   lt (betC x7 a b c d) fun x9 =>
   lt (addR x10.1 x10.2 x8.1 x8.2) fun x11 =>
   lt (hnumV x11.1 x11.2.1 x11.2.2) fun x13 =>
   lt (hnumC x9 x11.1 x11.2.1 x11.2.2) fun x12 =>
   lt (ahavR x13.1 x13.2) fun x14 =>
   lt (harcW x14.1 x14.2.1 x14.2.2) fun x16 =>
   lt (harcC x12 x14.1 x14.2.1 x14.2.2) fun x15 =>
   cond (x15 != 0)
   ((0, 0, x15))
   ((x16.1, x16.2, 0)))
noncomputable def book_zenM_gives : Book := [(48, eT (fun a b c d e f => .bool (triB a b c d e f))), (126, cPI 125 (fun a b c => pairV (hnumV a b c).1 (hnumV a b c).2) hnumC), (127, ePP (fun a b c d => arcV (mulR a b c d))), (128, cPP 125 (fun a b c d => pairV (cosV a b c d).1 (cosV a b c d).2) cosC), (129, eP (fun a b => arcV (havR a b))), (130, cPI 125 (fun a b c => pairV (harcW a b c).1 (harcW a b c).2) harcC), (131, eP (fun a b => arcV (ahavR a b))), (132, ePP (fun a b c d => arcV (addR a b c d))), (133, cPP 125 (fun a b c d => pairV (betV a b c d).1 (betV a b c d).2) betC)]
theorem book_zenM_gives_ok : BookOk Tryz.prog book_zenM_gives := (bookOk_cons (eT_ok triB_gives) (bookOk_cons (cPI_ok hnumV_mods) (bookOk_cons (ePP_ok mulR_gives) (bookOk_cons (cPP_ok cosV_mods) (bookOk_cons (eP_ok (fun a b W _ => hav_r a b W)) (bookOk_cons (cPI_ok harcW_mods) (bookOk_cons (eP_ok (fun a b W _ => ahav_r a b W)) (bookOk_cons (ePP_ok addR_gives) (bookOk_cons (cPP_ok betV_mods) bookOk_nil)))))))))
theorem zenM_gives_tree (a b c d e f : Int) : evF Tryz.prog [] Cs book_zenM_gives 20 6 63 ([.agg ⟨[.int .i64 a, .int .i64 b, .int .i64 c, .int .i64 d, .int .i64 e, .int .i64 f]⟩].map AV.v) [] [] last =
  cond (!(triB a b c d e f))
  (some (.v (.tuple ⟨[.agg ⟨[.int .i64 0, .int .i64 0]⟩, .int .i64 1]⟩)))
  (lt (cosV a b c d) fun x2 =>
   lt (cosC 0 a b c d) fun x1 =>
   lt (havR e f) fun x3 =>
   lt (hnumV x3.1 x3.2.1 x3.2.2) fun x5 =>
   lt (hnumC x1 x3.1 x3.2.1 x3.2.2) fun x4 =>
   lt (mulR x2.1 x2.2 x5.1 x5.2) fun x6 =>
   lt (hnumV x6.1 x6.2.1 x6.2.2) fun x8 =>
   lt (hnumC x4 x6.1 x6.2.1 x6.2.2) fun x7 =>
   lt (betV a b c d) fun x10 =>
   lt (betC x7 a b c d) fun x9 =>
   lt (addR x10.1 x10.2 x8.1 x8.2) fun x11 =>
   lt (hnumV x11.1 x11.2.1 x11.2.2) fun x13 =>
   lt (hnumC x9 x11.1 x11.2.1 x11.2.2) fun x12 =>
   lt (ahavR x13.1 x13.2) fun x14 =>
   lt (harcW x14.1 x14.2.1 x14.2.2) fun x16 =>
   lt (harcC x12 x14.1 x14.2.1 x14.2.2) fun x15 =>
   cond (x15 != 0)
   (some (.v (.tuple ⟨[.agg ⟨[.int .i64 0, .int .i64 0]⟩, .int .i64 x15]⟩)))
   (some (.v (.tuple ⟨[.agg ⟨[.int .i64 x16.1, .int .i64 x16.2]⟩, .int .i64 0]⟩)))) := by kernel_rfl
theorem zenM_gives (a b c d e f : Int) : Gives Tryz.prog 63 [.agg ⟨[.int .i64 a, .int .i64 b, .int .i64 c, .int .i64 d, .int .i64 e, .int .i64 f]⟩] (arcV (zenM a b c d e f)) := by
  refine evF_gives (E := []) mixed (by simp) Cs_ok book_zenM_gives_ok (lim := 20) (d := 6) (nm := []) ?_
  rw [zenM_gives_tree a b c d e f]
  unfold zenM
  refine case_cond (fun (r : Int × Int × Int) => AV.v (arcV (r))) ?_ ?_
  · rfl
  · refine case_lt (fun (r : Int × Int × Int) => AV.v (arcV (r))) fun _ => ?_
    refine case_lt (fun (r : Int × Int × Int) => AV.v (arcV (r))) fun _ => ?_
    refine case_lt (fun (r : Int × Int × Int) => AV.v (arcV (r))) fun _ => ?_
    refine case_lt (fun (r : Int × Int × Int) => AV.v (arcV (r))) fun _ => ?_
    refine case_lt (fun (r : Int × Int × Int) => AV.v (arcV (r))) fun _ => ?_
    refine case_lt (fun (r : Int × Int × Int) => AV.v (arcV (r))) fun _ => ?_
    refine case_lt (fun (r : Int × Int × Int) => AV.v (arcV (r))) fun _ => ?_
    refine case_lt (fun (r : Int × Int × Int) => AV.v (arcV (r))) fun _ => ?_
    refine case_lt (fun (r : Int × Int × Int) => AV.v (arcV (r))) fun _ => ?_
    refine case_lt (fun (r : Int × Int × Int) => AV.v (arcV (r))) fun _ => ?_
    refine case_lt (fun (r : Int × Int × Int) => AV.v (arcV (r))) fun _ => ?_
    refine case_lt (fun (r : Int × Int × Int) => AV.v (arcV (r))) fun _ => ?_
    refine case_lt (fun (r : Int × Int × Int) => AV.v (arcV (r))) fun _ => ?_
    refine case_lt (fun (r : Int × Int × Int) => AV.v (arcV (r))) fun _ => ?_
    refine case_lt (fun (r : Int × Int × Int) => AV.v (arcV (r))) fun _ => ?_
    refine case_lt (fun (r : Int × Int × Int) => AV.v (arcV (r))) fun _ => ?_
    refine case_cond (fun (r : Int × Int × Int) => AV.v (arcV (r))) ?_ ?_
    · rfl
    · rfl
noncomputable def topM (a b c d _e _f u v : Int) : Int × Int × Int :=
  lt (lessV u v) fun x1 =>
  lt (lessV c d) fun x2 =>
  lt (havR x2.1 x2.2) fun x3 =>
  lt (hnumV x3.1 x3.2.1 x3.2.2) fun x5 =>
  lt (hnumC 0 x3.1 x3.2.1 x3.2.2) fun x4 =>
  lt (betV a b x1.1 x1.2) fun x7 =>
  lt (betC x4 a b x1.1 x1.2) fun x6 =>
  lt (subR x5.1 x5.2 x7.1 x7.2) fun x8 =>
  lt (hnumV x8.1 x8.2.1 x8.2.2) fun x10 =>
  lt (hnumC x6 x8.1 x8.2.1 x8.2.2) fun x9 =>
  lt (cosV a b x1.1 x1.2) fun x12 =>
  lt (cosC x9 a b x1.1 x1.2) fun x11 =>
  cond (x11 != 0)
  ((0, 0, x11))
  (cond (decide (x12.1 ≤ 0))
   (cond (decide (x12.2 ≥ 0))
    ((0, 0, 21))
    (lt (divR x10.1 x10.2 x12.1 x12.2) fun x13 =>
     cond (x13.2.2 == 5)
     (lt (ahavR 0 1073741824) fun x14 =>
      cond (x14.2.2 == 2)
      ((x14.1, x14.2.1, 23))
      ((x14.1, x14.2.1, x14.2.2)))
     (cond (x13.2.2 != 0)
      ((0, 0, x13.2.2))
      (lt (ahavR x13.1 x13.2.1) fun x15 =>
       cond (x15.2.2 == 2)
       ((x15.1, x15.2.1, 23))
       ((x15.1, x15.2.1, x15.2.2))))))
   (lt (divR x10.1 x10.2 x12.1 x12.2) fun x16 =>
    cond (x16.2.2 == 5)
    (lt (ahavR 0 1073741824) fun x17 =>
     cond (x17.2.2 == 2)
     ((x17.1, x17.2.1, 23))
     ((x17.1, x17.2.1, x17.2.2)))
    (cond (x16.2.2 != 0)
     ((0, 0, x16.2.2))
     (lt (ahavR x16.1 x16.2.1) fun x18 =>
      cond (x18.2.2 == 2)
      ((x18.1, x18.2.1, 23))
      ((x18.1, x18.2.1, x18.2.2))))))
noncomputable def book_topM_gives : Book := [(65, eP (fun a b => pairV (lessV a b).1 (lessV a b).2)), (126, cPI 125 (fun a b c => pairV (hnumV a b c).1 (hnumV a b c).2) hnumC), (128, cPP 125 (fun a b c d => pairV (cosV a b c d).1 (cosV a b c d).2) cosC), (129, eP (fun a b => arcV (havR a b))), (131, eP (fun a b => arcV (ahavR a b))), (133, cPP 125 (fun a b c d => pairV (betV a b c d).1 (betV a b c d).2) betC), (192, ePP (fun a b c d => arcV (subR a b c d))), (193, ePP (fun a b c d => arcV (divR a b c d)))]
theorem book_topM_gives_ok : BookOk Tryz.prog book_topM_gives := (bookOk_cons (eP_ok lessV_gives) (bookOk_cons (cPI_ok hnumV_mods) (bookOk_cons (cPP_ok cosV_mods) (bookOk_cons (eP_ok (fun a b W _ => hav_r a b W)) (bookOk_cons (eP_ok (fun a b W _ => ahav_r a b W)) (bookOk_cons (cPP_ok betV_mods) (bookOk_cons (ePP_ok subR_gives) (bookOk_cons (ePP_ok divR_gives) bookOk_nil))))))))
theorem topM_gives_tree (a b c d e f u v : Int) : evF Tryz.prog [] Cs book_topM_gives 20 6 134 ([.agg ⟨[.int .i64 a, .int .i64 b, .int .i64 c, .int .i64 d, .int .i64 e, .int .i64 f]⟩, .agg ⟨[.int .i64 u, .int .i64 v]⟩].map AV.v) [] [] last =
  lt (lessV u v) fun x1 =>
  lt (lessV c d) fun x2 =>
  lt (havR x2.1 x2.2) fun x3 =>
  lt (hnumV x3.1 x3.2.1 x3.2.2) fun x5 =>
  lt (hnumC 0 x3.1 x3.2.1 x3.2.2) fun x4 =>
  lt (betV a b x1.1 x1.2) fun x7 =>
  lt (betC x4 a b x1.1 x1.2) fun x6 =>
  lt (subR x5.1 x5.2 x7.1 x7.2) fun x8 =>
  lt (hnumV x8.1 x8.2.1 x8.2.2) fun x10 =>
  lt (hnumC x6 x8.1 x8.2.1 x8.2.2) fun x9 =>
  lt (cosV a b x1.1 x1.2) fun x12 =>
  lt (cosC x9 a b x1.1 x1.2) fun x11 =>
  cond (x11 != 0)
  (some (.v (.tuple ⟨[.agg ⟨[.int .i64 0, .int .i64 0]⟩, .int .i64 x11]⟩)))
  (cond (decide (x12.1 ≤ 0))
   (cond (decide (x12.2 ≥ 0))
    (some (.v (.tuple ⟨[.agg ⟨[.int .i64 0, .int .i64 0]⟩, .int .i64 21]⟩)))
    (lt (divR x10.1 x10.2 x12.1 x12.2) fun x13 =>
     cond (x13.2.2 == 5)
     (lt (ahavR 0 1073741824) fun x14 =>
      cond (x14.2.2 == 2)
      (some (.v (.tuple ⟨[.agg ⟨[.int .i64 x14.1, .int .i64 x14.2.1]⟩, .int .i64 23]⟩)))
      (some (.v (.tuple ⟨[.agg ⟨[.int .i64 x14.1, .int .i64 x14.2.1]⟩, .int .i64 x14.2.2]⟩))))
     (cond (x13.2.2 != 0)
      (some (.v (.tuple ⟨[.agg ⟨[.int .i64 0, .int .i64 0]⟩, .int .i64 x13.2.2]⟩)))
      (lt (ahavR x13.1 x13.2.1) fun x15 =>
       cond (x15.2.2 == 2)
       (some (.v (.tuple ⟨[.agg ⟨[.int .i64 x15.1, .int .i64 x15.2.1]⟩, .int .i64 23]⟩)))
       (some (.v (.tuple ⟨[.agg ⟨[.int .i64 x15.1, .int .i64 x15.2.1]⟩, .int .i64 x15.2.2]⟩)))))))
   (lt (divR x10.1 x10.2 x12.1 x12.2) fun x16 =>
    cond (x16.2.2 == 5)
    (lt (ahavR 0 1073741824) fun x17 =>
     cond (x17.2.2 == 2)
     (some (.v (.tuple ⟨[.agg ⟨[.int .i64 x17.1, .int .i64 x17.2.1]⟩, .int .i64 23]⟩)))
     (some (.v (.tuple ⟨[.agg ⟨[.int .i64 x17.1, .int .i64 x17.2.1]⟩, .int .i64 x17.2.2]⟩))))
    (cond (x16.2.2 != 0)
     (some (.v (.tuple ⟨[.agg ⟨[.int .i64 0, .int .i64 0]⟩, .int .i64 x16.2.2]⟩)))
     (lt (ahavR x16.1 x16.2.1) fun x18 =>
      cond (x18.2.2 == 2)
      (some (.v (.tuple ⟨[.agg ⟨[.int .i64 x18.1, .int .i64 x18.2.1]⟩, .int .i64 23]⟩)))
      (some (.v (.tuple ⟨[.agg ⟨[.int .i64 x18.1, .int .i64 x18.2.1]⟩, .int .i64 x18.2.2]⟩))))))) := by kernel_rfl
theorem topM_gives (a b c d e f u v : Int) : Gives Tryz.prog 134 [.agg ⟨[.int .i64 a, .int .i64 b, .int .i64 c, .int .i64 d, .int .i64 e, .int .i64 f]⟩, .agg ⟨[.int .i64 u, .int .i64 v]⟩] (arcV (topM a b c d e f u v)) := by
  refine evF_gives (E := []) mixed (by simp) Cs_ok book_topM_gives_ok (lim := 20) (d := 6) (nm := []) ?_
  rw [topM_gives_tree a b c d e f u v]
  unfold topM
  refine case_lt (fun (r : Int × Int × Int) => AV.v (arcV (r))) fun _ => ?_
  refine case_lt (fun (r : Int × Int × Int) => AV.v (arcV (r))) fun _ => ?_
  refine case_lt (fun (r : Int × Int × Int) => AV.v (arcV (r))) fun _ => ?_
  refine case_lt (fun (r : Int × Int × Int) => AV.v (arcV (r))) fun _ => ?_
  refine case_lt (fun (r : Int × Int × Int) => AV.v (arcV (r))) fun _ => ?_
  refine case_lt (fun (r : Int × Int × Int) => AV.v (arcV (r))) fun _ => ?_
  refine case_lt (fun (r : Int × Int × Int) => AV.v (arcV (r))) fun _ => ?_
  refine case_lt (fun (r : Int × Int × Int) => AV.v (arcV (r))) fun _ => ?_
  refine case_lt (fun (r : Int × Int × Int) => AV.v (arcV (r))) fun _ => ?_
  refine case_lt (fun (r : Int × Int × Int) => AV.v (arcV (r))) fun _ => ?_
  refine case_lt (fun (r : Int × Int × Int) => AV.v (arcV (r))) fun _ => ?_
  refine case_lt (fun (r : Int × Int × Int) => AV.v (arcV (r))) fun _ => ?_
  refine case_cond (fun (r : Int × Int × Int) => AV.v (arcV (r))) ?_ ?_
  · rfl
  · refine case_cond (fun (r : Int × Int × Int) => AV.v (arcV (r))) ?_ ?_
    · refine case_cond (fun (r : Int × Int × Int) => AV.v (arcV (r))) ?_ ?_
      · rfl
      · refine case_lt (fun (r : Int × Int × Int) => AV.v (arcV (r))) fun _ => ?_
        refine case_cond (fun (r : Int × Int × Int) => AV.v (arcV (r))) ?_ ?_
        · refine case_lt (fun (r : Int × Int × Int) => AV.v (arcV (r))) fun _ => ?_
          refine case_cond (fun (r : Int × Int × Int) => AV.v (arcV (r))) ?_ ?_
          · rfl
          · rfl
        · refine case_cond (fun (r : Int × Int × Int) => AV.v (arcV (r))) ?_ ?_
          · rfl
          · refine case_lt (fun (r : Int × Int × Int) => AV.v (arcV (r))) fun _ => ?_
            refine case_cond (fun (r : Int × Int × Int) => AV.v (arcV (r))) ?_ ?_
            · rfl
            · rfl
    · refine case_lt (fun (r : Int × Int × Int) => AV.v (arcV (r))) fun _ => ?_
      refine case_cond (fun (r : Int × Int × Int) => AV.v (arcV (r))) ?_ ?_
      · refine case_lt (fun (r : Int × Int × Int) => AV.v (arcV (r))) fun _ => ?_
        refine case_cond (fun (r : Int × Int × Int) => AV.v (arcV (r))) ?_ ?_
        · rfl
        · rfl
      · refine case_cond (fun (r : Int × Int × Int) => AV.v (arcV (r))) ?_ ?_
        · rfl
        · refine case_lt (fun (r : Int × Int × Int) => AV.v (arcV (r))) fun _ => ?_
          refine case_cond (fun (r : Int × Int × Int) => AV.v (arcV (r))) ?_ ?_
          · rfl
          · rfl
noncomputable def aziM (a b c d e f u v : Int) : Int × Int × Int :=
  cond (!(triB a b c d e f))
  ((0, 0, 1))
  (cond (decide (u < 0))
   ((0, 0, 1))
   (cond (decide (u > v))
    ((0, 0, 1))
    (cond (decide (v > 10800000))
     ((0, 0, 1))
     (lt (topM a b c d e f u v) fun x1 =>
      cond (x1.2.2 != 0)
      ((0, 0, x1.2.2))
      (lt (turnR e f) fun x2 =>
       cond (x2.2.2 != 0)
       ((0, 0, x2.2.2))
       (cond (decide (x2.1 ≥ 10800000))
        (cond (decide (x2.2.1 ≤ 21600000))
         ((x1.1, x1.2.1, 0))
         (cond (decide (x2.2.1 ≤ 10800000))
          (lt (turnR (IntKind.i64.wrap (21600000 - x1.2.1)) (IntKind.i64.wrap (21600000 - x1.1))) fun x3 =>
           (x3.1, x3.2.1, x3.2.2))
          (cond (decide (IntKind.i64.wrap (x1.1 + x1.2.1) > 10800000))
           ((x1.1, IntKind.i64.wrap (21600000 - x1.1), 0))
           (lt (turnR (IntKind.i64.wrap (0 - x1.2.1)) x1.2.1) fun x4 =>
            (x4.1, x4.2.1, x4.2.2)))))
        (cond (decide (x2.2.1 ≤ 10800000))
         (lt (turnR (IntKind.i64.wrap (21600000 - x1.2.1)) (IntKind.i64.wrap (21600000 - x1.1))) fun x5 =>
          (x5.1, x5.2.1, x5.2.2))
         (cond (decide (IntKind.i64.wrap (x1.1 + x1.2.1) > 10800000))
          ((x1.1, IntKind.i64.wrap (21600000 - x1.1), 0))
          (lt (turnR (IntKind.i64.wrap (0 - x1.2.1)) x1.2.1) fun x6 =>
           (x6.1, x6.2.1, x6.2.2))))))))))
noncomputable def book_aziM_gives : Book := [(48, eT (fun a b c d e f => .bool (triB a b c d e f))), (78, eP (fun a b => arcV (turnR a b))), (134, eTP (fun a b c d e f u v => arcV (topM a b c d e f u v)))]
theorem book_aziM_gives_ok : BookOk Tryz.prog book_aziM_gives := (bookOk_cons (eT_ok triB_gives) (bookOk_cons (eP_ok turnR_gives) (bookOk_cons (eTP_ok topM_gives) bookOk_nil)))
theorem aziM_gives_tree (a b c d e f u v : Int) : evF Tryz.prog [] Cs book_aziM_gives 20 6 64 ([.agg ⟨[.int .i64 a, .int .i64 b, .int .i64 c, .int .i64 d, .int .i64 e, .int .i64 f]⟩, .agg ⟨[.int .i64 u, .int .i64 v]⟩].map AV.v) [] [] last =
  cond (!(triB a b c d e f))
  (some (.v (.tuple ⟨[.agg ⟨[.int .i64 0, .int .i64 0]⟩, .int .i64 1]⟩)))
  (cond (decide (u < 0))
   (some (.v (.tuple ⟨[.agg ⟨[.int .i64 0, .int .i64 0]⟩, .int .i64 1]⟩)))
   (cond (decide (u > v))
    (some (.v (.tuple ⟨[.agg ⟨[.int .i64 0, .int .i64 0]⟩, .int .i64 1]⟩)))
    (cond (decide (v > 10800000))
     (some (.v (.tuple ⟨[.agg ⟨[.int .i64 0, .int .i64 0]⟩, .int .i64 1]⟩)))
     (lt (topM a b c d e f u v) fun x1 =>
      cond (x1.2.2 != 0)
      (some (.v (.tuple ⟨[.agg ⟨[.int .i64 0, .int .i64 0]⟩, .int .i64 x1.2.2]⟩)))
      (lt (turnR e f) fun x2 =>
       cond (x2.2.2 != 0)
       (some (.v (.tuple ⟨[.agg ⟨[.int .i64 0, .int .i64 0]⟩, .int .i64 x2.2.2]⟩)))
       (cond (decide (x2.1 ≥ 10800000))
        (cond (decide (x2.2.1 ≤ 21600000))
         (some (.v (.tuple ⟨[.agg ⟨[.int .i64 x1.1, .int .i64 x1.2.1]⟩, .int .i64 0]⟩)))
         (cond (decide (x2.2.1 ≤ 10800000))
          (lt (turnR (IntKind.i64.wrap (21600000 - x1.2.1)) (IntKind.i64.wrap (21600000 - x1.1))) fun x3 =>
           some (.v (.tuple ⟨[.agg ⟨[.int .i64 x3.1, .int .i64 x3.2.1]⟩, .int .i64 x3.2.2]⟩)))
          (cond (decide (IntKind.i64.wrap (x1.1 + x1.2.1) > 10800000))
           (some (.v (.tuple ⟨[.agg ⟨[.int .i64 x1.1, .int .i64 (IntKind.i64.wrap (21600000 - x1.1))]⟩, .int .i64 0]⟩)))
           (lt (turnR (IntKind.i64.wrap (0 - x1.2.1)) x1.2.1) fun x4 =>
            some (.v (.tuple ⟨[.agg ⟨[.int .i64 x4.1, .int .i64 x4.2.1]⟩, .int .i64 x4.2.2]⟩))))))
        (cond (decide (x2.2.1 ≤ 10800000))
         (lt (turnR (IntKind.i64.wrap (21600000 - x1.2.1)) (IntKind.i64.wrap (21600000 - x1.1))) fun x5 =>
          some (.v (.tuple ⟨[.agg ⟨[.int .i64 x5.1, .int .i64 x5.2.1]⟩, .int .i64 x5.2.2]⟩)))
         (cond (decide (IntKind.i64.wrap (x1.1 + x1.2.1) > 10800000))
          (some (.v (.tuple ⟨[.agg ⟨[.int .i64 x1.1, .int .i64 (IntKind.i64.wrap (21600000 - x1.1))]⟩, .int .i64 0]⟩)))
          (lt (turnR (IntKind.i64.wrap (0 - x1.2.1)) x1.2.1) fun x6 =>
           some (.v (.tuple ⟨[.agg ⟨[.int .i64 x6.1, .int .i64 x6.2.1]⟩, .int .i64 x6.2.2]⟩))))))))))) := by kernel_rfl
theorem aziM_gives (a b c d e f u v : Int) : Gives Tryz.prog 64 [.agg ⟨[.int .i64 a, .int .i64 b, .int .i64 c, .int .i64 d, .int .i64 e, .int .i64 f]⟩, .agg ⟨[.int .i64 u, .int .i64 v]⟩] (arcV (aziM a b c d e f u v)) := by
  refine evF_gives (E := []) mixed (by simp) Cs_ok book_aziM_gives_ok (lim := 20) (d := 6) (nm := []) ?_
  rw [aziM_gives_tree a b c d e f u v]
  unfold aziM
  refine case_cond (fun (r : Int × Int × Int) => AV.v (arcV (r))) ?_ ?_
  · rfl
  · refine case_cond (fun (r : Int × Int × Int) => AV.v (arcV (r))) ?_ ?_
    · rfl
    · refine case_cond (fun (r : Int × Int × Int) => AV.v (arcV (r))) ?_ ?_
      · rfl
      · refine case_cond (fun (r : Int × Int × Int) => AV.v (arcV (r))) ?_ ?_
        · rfl
        · refine case_lt (fun (r : Int × Int × Int) => AV.v (arcV (r))) fun _ => ?_
          refine case_cond (fun (r : Int × Int × Int) => AV.v (arcV (r))) ?_ ?_
          · rfl
          · refine case_lt (fun (r : Int × Int × Int) => AV.v (arcV (r))) fun _ => ?_
            refine case_cond (fun (r : Int × Int × Int) => AV.v (arcV (r))) ?_ ?_
            · rfl
            · refine case_cond (fun (r : Int × Int × Int) => AV.v (arcV (r))) ?_ ?_
              · refine case_cond (fun (r : Int × Int × Int) => AV.v (arcV (r))) ?_ ?_
                · rfl
                · refine case_cond (fun (r : Int × Int × Int) => AV.v (arcV (r))) ?_ ?_
                  · refine case_lt (fun (r : Int × Int × Int) => AV.v (arcV (r))) fun _ => ?_
                    rfl
                  · refine case_cond (fun (r : Int × Int × Int) => AV.v (arcV (r))) ?_ ?_
                    · rfl
                    · refine case_lt (fun (r : Int × Int × Int) => AV.v (arcV (r))) fun _ => ?_
                      rfl
              · refine case_cond (fun (r : Int × Int × Int) => AV.v (arcV (r))) ?_ ?_
                · refine case_lt (fun (r : Int × Int × Int) => AV.v (arcV (r))) fun _ => ?_
                  rfl
                · refine case_cond (fun (r : Int × Int × Int) => AV.v (arcV (r))) ?_ ?_
                  · rfl
                  · refine case_lt (fun (r : Int × Int × Int) => AV.v (arcV (r))) fun _ => ?_
                    rfl
noncomputable def hsolM (a b c d e f : Int) : Int × Int × Int × Int × Int :=
  lt (zenM a b c d e f) fun x1 =>
  cond (x1.2.2 != 0)
  ((0, 0, 0, 0, x1.2.2))
  (lt (aziM a b c d e f x1.1 x1.2.1) fun x2 =>
   cond (x2.2.2 == 21)
   (lt (lessV x1.1 x1.2.1) fun x3 =>
    (x3.1, x3.2, 0, 21600000, 0))
   (cond (x2.2.2 != 0)
    ((0, 0, 0, 0, x2.2.2))
    (lt (lessV x1.1 x1.2.1) fun x4 =>
     (x4.1, x4.2, x2.1, x2.2.1, 0))))
noncomputable def book_hsolM_gives : Book := [(63, eT (fun a b c d e f => arcV (zenM a b c d e f))), (64, eTP (fun a b c d e f u v => arcV (aziM a b c d e f u v))), (65, eP (fun a b => pairV (lessV a b).1 (lessV a b).2))]
theorem book_hsolM_gives_ok : BookOk Tryz.prog book_hsolM_gives := (bookOk_cons (eT_ok zenM_gives) (bookOk_cons (eTP_ok aziM_gives) (bookOk_cons (eP_ok lessV_gives) bookOk_nil)))
theorem hsolM_gives_tree (a b c d e f : Int) : evF Tryz.prog [] Cs book_hsolM_gives 20 6 38 ([.agg ⟨[.int .i64 a, .int .i64 b, .int .i64 c, .int .i64 d, .int .i64 e, .int .i64 f]⟩].map AV.v) [] [] last =
  lt (zenM a b c d e f) fun x1 =>
  cond (x1.2.2 != 0)
  (some (.v (.tuple ⟨[.agg ⟨[.int .i64 0, .int .i64 0, .int .i64 0, .int .i64 0]⟩, .int .i64 x1.2.2]⟩)))
  (lt (aziM a b c d e f x1.1 x1.2.1) fun x2 =>
   cond (x2.2.2 == 21)
   (lt (lessV x1.1 x1.2.1) fun x3 =>
    some (.v (.tuple ⟨[.agg ⟨[.int .i64 x3.1, .int .i64 x3.2, .int .i64 0, .int .i64 21600000]⟩, .int .i64 0]⟩)))
   (cond (x2.2.2 != 0)
    (some (.v (.tuple ⟨[.agg ⟨[.int .i64 0, .int .i64 0, .int .i64 0, .int .i64 0]⟩, .int .i64 x2.2.2]⟩)))
    (lt (lessV x1.1 x1.2.1) fun x4 =>
     some (.v (.tuple ⟨[.agg ⟨[.int .i64 x4.1, .int .i64 x4.2, .int .i64 x2.1, .int .i64 x2.2.1]⟩, .int .i64 0]⟩))))) := by kernel_rfl
theorem hsolM_gives (a b c d e f : Int) : Gives Tryz.prog 38 [.agg ⟨[.int .i64 a, .int .i64 b, .int .i64 c, .int .i64 d, .int .i64 e, .int .i64 f]⟩] (solV (hsolM a b c d e f)) := by
  refine evF_gives (E := []) mixed (by simp) Cs_ok book_hsolM_gives_ok (lim := 20) (d := 6) (nm := []) ?_
  rw [hsolM_gives_tree a b c d e f]
  unfold hsolM
  refine case_lt (fun (r : Int × Int × Int × Int × Int) => AV.v (solV (r))) fun _ => ?_
  refine case_cond (fun (r : Int × Int × Int × Int × Int) => AV.v (solV (r))) ?_ ?_
  · rfl
  · refine case_lt (fun (r : Int × Int × Int × Int × Int) => AV.v (solV (r))) fun _ => ?_
    refine case_cond (fun (r : Int × Int × Int × Int × Int) => AV.v (solV (r))) ?_ ?_
    · refine case_lt (fun (r : Int × Int × Int × Int × Int) => AV.v (solV (r))) fun _ => ?_
      rfl
    · refine case_cond (fun (r : Int × Int × Int × Int × Int) => AV.v (solV (r))) ?_ ?_
      · rfl
      · refine case_lt (fun (r : Int × Int × Int × Int × Int) => AV.v (solV (r))) fun _ => ?_
        rfl
end Go.Proofs.YtmididlfnajhiaaGreatDoor

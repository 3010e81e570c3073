/-
  Zenith distances by haversines: what the chain's methods and the exported functions give, as a plain law.
-/
import Derived.Test.YtcjkfchjcealbaaF2
namespace Go.Proofs.Ytcjkfchjcealbaa
open Ev

def numV (a b _e : Int) : Int × Int := (a, b)
def numC (k _a _b e : Int) : Int := keepE k e
noncomputable def book_numV_mods : Book := []
theorem book_numV_mods_ok : BookOk Try.prog book_numV_mods := bookOk_nil
theorem numV_mods_tree (k a b c : Int) : evF Try.prog [] Cs book_numV_mods 20 6 24 (.p [] 0 :: [.agg ⟨[.int .i64 a, .int .i64 b]⟩, .int .i64 c].map AV.v) [([], ⟨[.v (.int .i64 k)], 53⟩)] [] lastC =
  cond (k == 0)
  (some (.v (.agg ⟨[.int .i64 a, .int .i64 b]⟩), ⟨[.v (.int .i64 c)], 53⟩))
  (some (.v (.agg ⟨[.int .i64 a, .int .i64 b]⟩), ⟨[.v (.int .i64 k)], 53⟩)) := by kernel_rfl
theorem numV_mods (k a b c : Int) : Mods Try.prog 24 53 k [.agg ⟨[.int .i64 a, .int .i64 b]⟩, .int .i64 c] (pairV (numV a b c).1 (numV a b c).2) (numC k a b c) := by
  refine evF_mods (E := []) mixed (by simp) Cs_ok book_numV_mods_ok (lim := 20) (d := 6) (nm := []) ?_
  rw [numV_mods_tree k a b c]
  unfold numC keepE
  by_cases h : k = 0
  · simp [h]; rfl
  · have e : (k == 0) = false := beq_eq_false_iff_ne.2 h
    rw [e]
    simp [h]; rfl
def arcW (a b _e : Int) : Int × Int := (a, b)
def arcC (k _a _b e : Int) : Int := keepE k e
noncomputable def book_arcW_mods : Book := []
theorem book_arcW_mods_ok : BookOk Try.prog book_arcW_mods := bookOk_nil
theorem arcW_mods_tree (k a b c : Int) : evF Try.prog [] Cs book_arcW_mods 20 6 28 (.p [] 0 :: [.agg ⟨[.int .i64 a, .int .i64 b]⟩, .int .i64 c].map AV.v) [([], ⟨[.v (.int .i64 k)], 53⟩)] [] lastC =
  cond (k == 0)
  (some (.v (.agg ⟨[.int .i64 a, .int .i64 b]⟩), ⟨[.v (.int .i64 c)], 53⟩))
  (some (.v (.agg ⟨[.int .i64 a, .int .i64 b]⟩), ⟨[.v (.int .i64 k)], 53⟩)) := by kernel_rfl
theorem arcW_mods (k a b c : Int) : Mods Try.prog 28 53 k [.agg ⟨[.int .i64 a, .int .i64 b]⟩, .int .i64 c] (pairV (arcW a b c).1 (arcW a b c).2) (arcC k a b c) := by
  refine evF_mods (E := []) mixed (by simp) Cs_ok book_arcW_mods_ok (lim := 20) (d := 6) (nm := []) ?_
  rw [arcW_mods_tree k a b c]
  unfold arcC keepE
  by_cases h : k = 0
  · simp [h]; rfl
  · have e : (k == 0) = false := beq_eq_false_iff_ne.2 h
    rw [e]
    simp [h]; rfl
def cosV (a b c d : Int) : Int × Int :=
  let x := cosR a b
  let y := cosR c d
  let z := mulR x.1 x.2.1 y.1 y.2.1
  (z.1, z.2.1)
def cosC (k a b c d : Int) : Int :=
  let x := cosR a b
  let y := cosR c d
  let z := mulR x.1 x.2.1 y.1 y.2.1
  keepE (keepE (keepE k x.2.2) y.2.2) z.2.2
noncomputable def book_cosV_mods : Book := [(24, cPI 53 (fun a b c => pairV (numV a b c).1 (numV a b c).2) numC), (25, ePP (fun a b c d => arcV (mulR a b c d))), (44, eP (fun a b => arcV (cosR a b)))]
theorem book_cosV_mods_ok : BookOk Try.prog book_cosV_mods := (bookOk_cons (cPI_ok numV_mods) (bookOk_cons (ePP_ok mulR_gives) (bookOk_cons (eP_ok cos_r) bookOk_nil)))
theorem cosV_mods_tree (k a b c d : Int) : evF Try.prog [] Cs book_cosV_mods 20 6 26 (.p [] 0 :: [.agg ⟨[.int .i64 a, .int .i64 b]⟩, .agg ⟨[.int .i64 c, .int .i64 d]⟩].map AV.v) [([], ⟨[.v (.int .i64 k)], 53⟩)] [] lastC =
  lt (cosR a b) fun x1 =>
  lt (numV x1.1 x1.2.1 x1.2.2) fun x3 =>
  lt (numC k x1.1 x1.2.1 x1.2.2) fun x2 =>
  lt (cosR c d) fun x4 =>
  lt (numV x4.1 x4.2.1 x4.2.2) fun x6 =>
  lt (numC x2 x4.1 x4.2.1 x4.2.2) fun x5 =>
  lt (mulR x3.1 x3.2 x6.1 x6.2) fun x7 =>
  lt (numV x7.1 x7.2.1 x7.2.2) fun x9 =>
  lt (numC x5 x7.1 x7.2.1 x7.2.2) fun x8 =>
  some (.v (.agg ⟨[.int .i64 x9.1, .int .i64 x9.2]⟩), ⟨[.v (.int .i64 x8)], 53⟩) := by kernel_rfl
theorem cosV_mods (k a b c d : Int) : Mods Try.prog 26 53 k [.agg ⟨[.int .i64 a, .int .i64 b]⟩, .agg ⟨[.int .i64 c, .int .i64 d]⟩] (pairV (cosV a b c d).1 (cosV a b c d).2) (cosC k a b c d) := by
  refine evF_mods (E := []) mixed (by simp) Cs_ok book_cosV_mods_ok (lim := 20) (d := 6) (nm := []) ?_
  rw [cosV_mods_tree k a b c d]
  rfl
def betV (a b c d : Int) : Int × Int :=
  let x := asubR a b c d
  let y := havR x.1 x.2.1
  (y.1, y.2.1)
def betC (k a b c d : Int) : Int :=
  let x := asubR a b c d
  let y := havR x.1 x.2.1
  keepE (keepE k x.2.2) y.2.2
noncomputable def book_betV_mods : Book := [(24, cPI 53 (fun a b c => pairV (numV a b c).1 (numV a b c).2) numC), (27, eP (fun a b => arcV (havR a b))), (28, cPI 53 (fun a b c => pairV (arcW a b c).1 (arcW a b c).2) arcC), (51, ePP (fun a b c d => arcV (asubR a b c d)))]
theorem book_betV_mods_ok : BookOk Try.prog book_betV_mods := (bookOk_cons (cPI_ok numV_mods) (bookOk_cons (eP_ok hav_r) (bookOk_cons (cPI_ok arcW_mods) (bookOk_cons (ePP_ok asubR_gives) bookOk_nil))))
theorem betV_mods_tree (k a b c d : Int) : evF Try.prog [] Cs book_betV_mods 20 6 31 (.p [] 0 :: [.agg ⟨[.int .i64 a, .int .i64 b]⟩, .agg ⟨[.int .i64 c, .int .i64 d]⟩].map AV.v) [([], ⟨[.v (.int .i64 k)], 53⟩)] [] lastC =
  lt (asubR a b c d) fun x1 =>
  lt (arcW x1.1 x1.2.1 x1.2.2) fun x3 =>
  lt (arcC k x1.1 x1.2.1 x1.2.2) fun x2 =>
  lt (havR x3.1 x3.2) fun x4 =>
  lt (numV x4.1 x4.2.1 x4.2.2) fun x6 =>
  lt (numC x2 x4.1 x4.2.1 x4.2.2) fun x5 =>
  some (.v (.agg ⟨[.int .i64 x6.1, .int .i64 x6.2]⟩), ⟨[.v (.int .i64 x5)], 53⟩) := by kernel_rfl
theorem betV_mods (k a b c d : Int) : Mods Try.prog 31 53 k [.agg ⟨[.int .i64 a, .int .i64 b]⟩, .agg ⟨[.int .i64 c, .int .i64 d]⟩] (pairV (betV a b c d).1 (betV a b c d).2) (betC k a b c d) := by
  refine evF_mods (E := []) mixed (by simp) Cs_ok book_betV_mods_ok (lim := 20) (d := 6) (nm := []) ?_
  rw [betV_mods_tree k a b c d]
  rfl
def latB (a b : Int) : Bool := avalidB a b && (decide (a ≥ -5400000) && decide (b ≤ 5400000))
noncomputable def book_latB_gives : Book := [(35, eP (fun a b => .bool (avalidB a b)))]
theorem book_latB_gives_ok : BookOk Try.prog book_latB_gives := (bookOk_cons (eP_ok gvalid_any) bookOk_nil)
theorem latB_gives_tree (a b : Int) : evF Try.prog [] Cs book_latB_gives 20 6 39 ([.agg ⟨[.int .i64 a, .int .i64 b]⟩].map AV.v) [] [] last =
  cond (avalidB a b)
  (cond (decide (a ≥ (-5400000)))
   (some (.v (.bool (decide (b ≤ 5400000)))))
   (some (.v (.bool false))))
  (some (.v (.bool false))) := by kernel_rfl
theorem latB_gives (a b : Int) : Gives Try.prog 39 [.agg ⟨[.int .i64 a, .int .i64 b]⟩] (.bool (latB a b)) := by
  refine evF_gives (E := []) mixed (by simp) Cs_ok book_latB_gives_ok (lim := 20) (d := 6) (nm := []) ?_
  rw [latB_gives_tree a b]
  cases h1 : (avalidB a b)
  · rw [cond_false]
    simp [latB, *]
  · rw [cond_true]
    cases h2 : (decide (a ≥ (-5400000)))
    · rw [cond_false]
      replace h2 := of_decide_eq_false h2
      simp [latB, *]
    · rw [cond_true]
      replace h2 := of_decide_eq_true h2
      simp [latB, *]
def triB (a b c d e f : Int) : Bool := latB a b && (latB c d && avalidB e f)
noncomputable def book_triB_gives : Book := [(35, eP (fun a b => .bool (avalidB a b))), (39, eP (fun a b => .bool (latB a b)))]
theorem book_triB_gives_ok : BookOk Try.prog book_triB_gives := (bookOk_cons (eP_ok gvalid_any) (bookOk_cons (eP_ok latB_gives) bookOk_nil))
theorem triB_gives_tree (a b c d e f : Int) : evF Try.prog [] Cs book_triB_gives 20 6 20 ([.agg ⟨[.int .i64 a, .int .i64 b, .int .i64 c, .int .i64 d, .int .i64 e, .int .i64 f]⟩].map AV.v) [] [] last =
  cond (latB a b)
  (cond (latB c d)
   (some (.v (.bool (avalidB e f))))
   (some (.v (.bool false))))
  (some (.v (.bool false))) := by kernel_rfl
theorem triB_gives (a b c d e f : Int) : Gives Try.prog 20 [.agg ⟨[.int .i64 a, .int .i64 b, .int .i64 c, .int .i64 d, .int .i64 e, .int .i64 f]⟩] (.bool (triB a b c d e f)) := by
  refine evF_gives (E := []) mixed (by simp) Cs_ok book_triB_gives_ok (lim := 20) (d := 6) (nm := []) ?_
  rw [triB_gives_tree a b c d e f]
  cases h1 : (latB a b)
  · rw [cond_false]
    simp [triB, *]
  · rw [cond_true]
    cases h2 : (latB c d)
    · rw [cond_false]
      simp [triB, *]
    · rw [cond_true]
      simp [triB, *]
end Go.Proofs.Ytcjkfchjcealbaa

/-
  The cosine formula: what each function gives.
-/
import Derived.Test.YtfilgpifiboccaaGreatF2
namespace Go.Proofs.YtfilgpifiboccaaGreat
open Ev

def solV (r : Int × Int × Int × Int × Int) : Value := .tuple ⟨[.agg ⟨[.int .i64 r.1, .int .i64 r.2.1, .int .i64 r.2.2.1, .int .i64 r.2.2.2.1]⟩, .int .i64 r.2.2.2.2]⟩
def solP (r : Int × Int × Int × Int) : Value := .agg ⟨[.int .i64 r.1, .int .i64 r.2.1, .int .i64 r.2.2.1, .int .i64 r.2.2.2]⟩
def latB (a b : Int) : Bool := avalidB a b && (decide (a ≥ -5400000) && decide (b ≤ 5400000))
noncomputable def kFc0 : Book := (25, eP (fun a b => .bool (avalidB a b))) :: (28, eP (fun a b => arcV (asinR a b))) :: (32, ePP (fun a b c d => arcV (bearR a b c d))) :: (62, eP (fun a b => arcV (sinR a b))) :: (64, eP (fun a b => arcV (cosR a b))) :: (68, ePP (fun a b c d => arcV (addR a b c d))) :: (69, ePP (fun a b c d => arcV (mulR a b c d))) :: (72, ePP (fun a b c d => arcV (subR a b c d))) :: (176, eP (fun a b => arcV (negR a b))) :: []
theorem kFc0_ok : BookOk Tryz.prog kFc0 := (bookOk_cons (eP_ok gvalid_any) (bookOk_cons (eP_ok asin_r) (bookOk_cons (ePP_ok bear_any) (bookOk_cons (eP_ok sin_r) (bookOk_cons (eP_ok cos_r) (bookOk_cons (ePP_ok addR_gives) (bookOk_cons (ePP_ok mulR_gives) (bookOk_cons (ePP_ok subR_gives) (bookOk_cons (eP_ok negR_gives) bookOk_nil)))))))))
theorem latB_gives (a b : Int) : Gives Tryz.prog 121 [.agg ⟨[.int .i64 a, .int .i64 b]⟩] (.bool (latB a b)) := by
  refine ev6_gives EN_ok kFc0_ok (t := cond (avalidB a b) (cond (decide (a ≥ (-5400000))) (some (.v (.bool (decide (b ≤ 5400000))))) (some (.v (.bool false)))) (some (.v (.bool false)))) (by kernel_rfl) ?_
  cases h1 : (avalidB a b)
  · rw [cond_false]
    simp [latB, *]
  · rw [cond_true]
    cases h2 : (decide (a ≥ (-5400000)))
    · rw [cond_false]
      replace h2 := of_decide_eq_false h2
      simp [latB, *]
    · rw [cond_true]
      replace h2 := of_decide_eq_true h2
      simp [latB, *]
def triB (a b c d e f : Int) : Bool := latB a b && (latB c d && avalidB e f)
noncomputable def kFc1 : Book := (121, eP (fun a b => .bool (latB a b))) :: kFc0
theorem kFc1_ok : BookOk Tryz.prog kFc1 := (bookOk_cons (eP_ok latB_gives) kFc0_ok)
theorem triB_gives (a b c d e f : Int) : Gives Tryz.prog 93 [.agg ⟨[.int .i64 a, .int .i64 b, .int .i64 c, .int .i64 d, .int .i64 e, .int .i64 f]⟩] (.bool (triB a b c d e f)) := by
  refine ev6_gives EN_ok kFc1_ok (t := cond (latB a b) (cond (latB c d) (some (.v (.bool (avalidB e f)))) (some (.v (.bool false)))) (some (.v (.bool false)))) (by kernel_rfl) ?_
  cases h1 : (latB a b)
  · rw [cond_false]
    simp [triB, *]
  · rw [cond_true]
    cases h2 : (latB c d)
    · rw [cond_false]
      simp [triB, *]
    · rw [cond_true]
      simp [triB, *]
def ckeepV (a b _e : Int) : Int × Int := (a, b)
def ckeepC (k _a _b e : Int) : Int := keepE k e
noncomputable def kFc2 : Book := (93, eT (fun a b c d e f => .bool (triB a b c d e f))) :: kFc1
theorem kFc2_ok : BookOk Tryz.prog kFc2 := (bookOk_cons (eT_ok triB_gives) kFc1_ok)
theorem ckeepV_mods (k a b c : Int) : Mods Tryz.prog 158 142 k [.agg ⟨[.int .i64 a, .int .i64 b]⟩, .int .i64 c] (pairV (ckeepV a b c).1 (ckeepV a b c).2) (ckeepC k a b c) := by
  refine evm_mods EN_ok kFc2_ok (t := cond (k == 0) (some (.v (.agg ⟨[.int .i64 a, .int .i64 b]⟩), ⟨[.v (.int .i64 c)], 142⟩)) (some (.v (.agg ⟨[.int .i64 a, .int .i64 b]⟩), ⟨[.v (.int .i64 k)], 142⟩))) (by kernel_rfl) ?_
  unfold ckeepC keepE
  by_cases h : k = 0
  · simp [h]; rfl
  · have e : (k == 0) = false := beq_eq_false_iff_ne.2 h
    rw [e]
    simp [h]; rfl
noncomputable def csinV (a b : Int) : Int × Int := ((sinR a b).1, (sinR a b).2.1)
noncomputable def csinC (k a b : Int) : Int := keepE k (sinR a b).2.2
noncomputable def kFc3 : Book := (158, cPI 142 (fun a b c => pairV (ckeepV a b c).1 (ckeepV a b c).2) ckeepC) :: kFc2
theorem kFc3_ok : BookOk Tryz.prog kFc3 := (bookOk_cons (cPI_ok ckeepV_mods) kFc2_ok)
theorem csinV_mods (k a b : Int) : Mods Tryz.prog 156 142 k [.agg ⟨[.int .i64 a, .int .i64 b]⟩] (pairV (csinV a b).1 (csinV a b).2) (csinC k a b) := by
  refine evm_mods EN_ok kFc3_ok (t := lt (sinR a b) fun x1 => lt (ckeepV x1.1 x1.2.1 x1.2.2) fun x3 => lt (ckeepC k x1.1 x1.2.1 x1.2.2) fun x2 => some (.v (.agg ⟨[.int .i64 x3.1, .int .i64 x3.2]⟩), ⟨[.v (.int .i64 x2)], 142⟩)) (by kernel_rfl) ?_
  rfl
noncomputable def ccosV (a b : Int) : Int × Int := ((cosR a b).1, (cosR a b).2.1)
noncomputable def ccosC (k a b : Int) : Int := keepE k (cosR a b).2.2
noncomputable def kFc4 : Book := (156, cP 142 (fun a b => pairV (csinV a b).1 (csinV a b).2) csinC) :: kFc3
theorem kFc4_ok : BookOk Tryz.prog kFc4 := (bookOk_cons (cP_ok csinV_mods) kFc3_ok)
theorem ccosV_mods (k a b : Int) : Mods Tryz.prog 157 142 k [.agg ⟨[.int .i64 a, .int .i64 b]⟩] (pairV (ccosV a b).1 (ccosV a b).2) (ccosC k a b) := by
  refine evm_mods EN_ok kFc4_ok (t := lt (cosR a b) fun x1 => lt (ckeepV x1.1 x1.2.1 x1.2.2) fun x3 => lt (ckeepC k x1.1 x1.2.1 x1.2.2) fun x2 => some (.v (.agg ⟨[.int .i64 x3.1, .int .i64 x3.2]⟩), ⟨[.v (.int .i64 x2)], 142⟩)) (by kernel_rfl) ?_
  rfl
noncomputable def cmulV (a b c d : Int) : Int × Int := ((mulR a b c d).1, (mulR a b c d).2.1)
noncomputable def cmulC (k a b c d : Int) : Int := keepE k (mulR a b c d).2.2
noncomputable def kFc5 : Book := (157, cP 142 (fun a b => pairV (ccosV a b).1 (ccosV a b).2) ccosC) :: kFc4
theorem kFc5_ok : BookOk Tryz.prog kFc5 := (bookOk_cons (cP_ok ccosV_mods) kFc4_ok)
theorem cmulV_mods (k a b c d : Int) : Mods Tryz.prog 124 142 k [.agg ⟨[.int .i64 a, .int .i64 b]⟩, .agg ⟨[.int .i64 c, .int .i64 d]⟩] (pairV (cmulV a b c d).1 (cmulV a b c d).2) (cmulC k a b c d) := by
  refine evm_mods EN_ok kFc5_ok (t := lt (mulR a b c d) fun x1 => lt (ckeepV x1.1 x1.2.1 x1.2.2) fun x3 => lt (ckeepC k x1.1 x1.2.1 x1.2.2) fun x2 => some (.v (.agg ⟨[.int .i64 x3.1, .int .i64 x3.2]⟩), ⟨[.v (.int .i64 x2)], 142⟩)) (by kernel_rfl) ?_
  rfl
noncomputable def caddV (a b c d : Int) : Int × Int := ((addR a b c d).1, (addR a b c d).2.1)
noncomputable def caddC (k a b c d : Int) : Int := keepE k (addR a b c d).2.2
noncomputable def kFc6 : Book := (124, cPP 142 (fun a b c d => pairV (cmulV a b c d).1 (cmulV a b c d).2) cmulC) :: kFc5
theorem kFc6_ok : BookOk Tryz.prog kFc6 := (bookOk_cons (cPP_ok cmulV_mods) kFc5_ok)
theorem caddV_mods (k a b c d : Int) : Mods Tryz.prog 123 142 k [.agg ⟨[.int .i64 a, .int .i64 b]⟩, .agg ⟨[.int .i64 c, .int .i64 d]⟩] (pairV (caddV a b c d).1 (caddV a b c d).2) (caddC k a b c d) := by
  refine evm_mods EN_ok kFc6_ok (t := lt (addR a b c d) fun x1 => lt (ckeepV x1.1 x1.2.1 x1.2.2) fun x3 => lt (ckeepC k x1.1 x1.2.1 x1.2.2) fun x2 => some (.v (.agg ⟨[.int .i64 x3.1, .int .i64 x3.2]⟩), ⟨[.v (.int .i64 x2)], 142⟩)) (by kernel_rfl) ?_
  rfl
noncomputable def csubV (a b c d : Int) : Int × Int := ((subR a b c d).1, (subR a b c d).2.1)
noncomputable def csubC (k a b c d : Int) : Int := keepE k (subR a b c d).2.2
noncomputable def kFc7 : Book := (123, cPP 142 (fun a b c d => pairV (caddV a b c d).1 (caddV a b c d).2) caddC) :: kFc6
theorem kFc7_ok : BookOk Tryz.prog kFc7 := (bookOk_cons (cPP_ok caddV_mods) kFc6_ok)
theorem csubV_mods (k a b c d : Int) : Mods Tryz.prog 154 142 k [.agg ⟨[.int .i64 a, .int .i64 b]⟩, .agg ⟨[.int .i64 c, .int .i64 d]⟩] (pairV (csubV a b c d).1 (csubV a b c d).2) (csubC k a b c d) := by
  refine evm_mods EN_ok kFc7_ok (t := lt (subR a b c d) fun x1 => lt (ckeepV x1.1 x1.2.1 x1.2.2) fun x3 => lt (ckeepC k x1.1 x1.2.1 x1.2.2) fun x2 => some (.v (.agg ⟨[.int .i64 x3.1, .int .i64 x3.2]⟩), ⟨[.v (.int .i64 x2)], 142⟩)) (by kernel_rfl) ?_
  rfl
noncomputable def cnegV (a b : Int) : Int × Int := ((negR a b).1, (negR a b).2.1)
noncomputable def cnegC (k a b : Int) : Int := keepE k (negR a b).2.2
noncomputable def kFc8 : Book := (154, cPP 142 (fun a b c d => pairV (csubV a b c d).1 (csubV a b c d).2) csubC) :: kFc7
theorem kFc8_ok : BookOk Tryz.prog kFc8 := (bookOk_cons (cPP_ok csubV_mods) kFc7_ok)
theorem cnegV_mods (k a b : Int) : Mods Tryz.prog 153 142 k [.agg ⟨[.int .i64 a, .int .i64 b]⟩] (pairV (cnegV a b).1 (cnegV a b).2) (cnegC k a b) := by
  refine evm_mods EN_ok kFc8_ok (t := lt (negR a b) fun x1 => lt (ckeepV x1.1 x1.2.1 x1.2.2) fun x3 => lt (ckeepC k x1.1 x1.2.1 x1.2.2) fun x2 => some (.v (.agg ⟨[.int .i64 x3.1, .int .i64 x3.2]⟩), ⟨[.v (.int .i64 x2)], 142⟩)) (by kernel_rfl) ?_
  rfl
noncomputable def caltMK {α : Type} (K : Int → Int → Int → α) (a b c d e f : Int) : α := lt (csinV a b) fun x2 => lt (csinC 0 a b) fun x1 => lt (ccosV a b) fun x4 => lt (ccosC x1 a b) fun x3 => lt (csinV c d) fun x6 => lt (csinC x3 c d) fun x5 => lt (ccosV c d) fun x8 => lt (ccosC x5 c d) fun x7 => lt (csinV e f) fun _ => lt (csinC x7 e f) fun x9 => lt (ccosV e f) fun x12 => lt (ccosC x9 e f) fun x11 => lt (cmulV x2.1 x2.2 x6.1 x6.2) fun x14 => lt (cmulC x11 x2.1 x2.2 x6.1 x6.2) fun x13 => lt (cmulV x4.1 x4.2 x8.1 x8.2) fun x16 => lt (cmulC x13 x4.1 x4.2 x8.1 x8.2) fun x15 => lt (cmulV x16.1 x16.2 x12.1 x12.2) fun x18 => lt (cmulC x15 x16.1 x16.2 x12.1 x12.2) fun x17 => lt (caddV x14.1 x14.2 x18.1 x18.2) fun x20 => lt (caddC x17 x14.1 x14.2 x18.1 x18.2) fun x19 => cond (x19 != 0) (K 0 0 x19) (lt (asinR x20.1 x20.2) fun x21 => K x21.1 x21.2.1 x21.2.2)
noncomputable def caltM (a b c d e f : Int) : Int × Int × Int := caltMK (fun p0 p1 p2 => (p0, p1, p2)) a b c d e f
noncomputable def kFc9 : Book := (153, cP 142 (fun a b => pairV (cnegV a b).1 (cnegV a b).2) cnegC) :: kFc8
theorem kFc9_ok : BookOk Tryz.prog kFc9 := (bookOk_cons (cP_ok cnegV_mods) kFc8_ok)
theorem caltM_gives (a b c d e f : Int) : Gives Tryz.prog 94 [.agg ⟨[.int .i64 a, .int .i64 b, .int .i64 c, .int .i64 d, .int .i64 e, .int .i64 f]⟩] (arcV (caltM a b c d e f)) := by
  refine ev6_gives EN_ok kFc9_ok (t := caltMK (fun p0 p1 p2 => some (.v (arcV ((p0, p1, p2))))) a b c d e f) (by kernel_rfl) ?_
  unfold caltM caltMK
  repeat' first | (with_reducible refine case_cond (fun r : Int × Int × Int => AV.v (arcV (r))) ?_ ?_) | (with_reducible refine case_lt (fun r : Int × Int × Int => AV.v (arcV (r))) fun _ => ?_) | rfl
noncomputable def caziMK {α : Type} (K : Int → Int → Int → α) (a b c d e f : Int) : α := lt (csinV a b) fun x2 => lt (csinC 0 a b) fun x1 => lt (ccosV a b) fun x4 => lt (ccosC x1 a b) fun x3 => lt (csinV c d) fun x6 => lt (csinC x3 c d) fun x5 => lt (ccosV c d) fun x8 => lt (ccosC x5 c d) fun x7 => lt (csinV e f) fun x10 => lt (csinC x7 e f) fun x9 => lt (ccosV e f) fun x12 => lt (ccosC x9 e f) fun x11 => lt (cmulV x8.1 x8.2 x10.1 x10.2) fun x14 => lt (cmulC x11 x8.1 x8.2 x10.1 x10.2) fun x13 => lt (cnegV x14.1 x14.2) fun x16 => lt (cnegC x13 x14.1 x14.2) fun x15 => lt (cmulV x6.1 x6.2 x4.1 x4.2) fun x18 => lt (cmulC x15 x6.1 x6.2 x4.1 x4.2) fun x17 => lt (cmulV x8.1 x8.2 x12.1 x12.2) fun x20 => lt (cmulC x17 x8.1 x8.2 x12.1 x12.2) fun x19 => lt (cmulV x20.1 x20.2 x2.1 x2.2) fun x22 => lt (cmulC x19 x20.1 x20.2 x2.1 x2.2) fun x21 => lt (csubV x18.1 x18.2 x22.1 x22.2) fun x24 => lt (csubC x21 x18.1 x18.2 x22.1 x22.2) fun x23 => cond (x23 != 0) (K 0 0 x23) (lt (bearR x16.1 x16.2 x24.1 x24.2) fun x25 => K x25.1 x25.2.1 x25.2.2)
noncomputable def caziM (a b c d e f : Int) : Int × Int × Int := caziMK (fun p0 p1 p2 => (p0, p1, p2)) a b c d e f
noncomputable def kFc10 : Book := (94, eT (fun a b c d e f => arcV (caltM a b c d e f))) :: kFc9
theorem kFc10_ok : BookOk Tryz.prog kFc10 := (bookOk_cons (eT_ok caltM_gives) kFc9_ok)
theorem caziM_gives (a b c d e f : Int) : Gives Tryz.prog 116 [.agg ⟨[.int .i64 a, .int .i64 b, .int .i64 c, .int .i64 d, .int .i64 e, .int .i64 f]⟩] (arcV (caziM a b c d e f)) := by
  refine ev6_gives EN_ok kFc10_ok (t := caziMK (fun p0 p1 p2 => some (.v (arcV ((p0, p1, p2))))) a b c d e f) (by kernel_rfl) ?_
  unfold caziM caziMK
  repeat' first | (with_reducible refine case_cond (fun r : Int × Int × Int => AV.v (arcV (r))) ?_ ?_) | (with_reducible refine case_lt (fun r : Int × Int × Int => AV.v (arcV (r))) fun _ => ?_) | rfl
noncomputable def cAltMK {α : Type} (K : Int → Int → Int → α) (a b c d e f : Int) : α := cond (!(triB a b c d e f)) (K 0 0 1) (lt (caltM a b c d e f) fun x1 => K x1.1 x1.2.1 x1.2.2)
noncomputable def cAltM (a b c d e f : Int) : Int × Int × Int := cAltMK (fun p0 p1 p2 => (p0, p1, p2)) a b c d e f
noncomputable def kFc11 : Book := (116, eT (fun a b c d e f => arcV (caziM a b c d e f))) :: kFc10
theorem kFc11_ok : BookOk Tryz.prog kFc11 := (bookOk_cons (eT_ok caziM_gives) kFc10_ok)
theorem cAltM_gives (a b c d e f : Int) : Gives Tryz.prog 50 [.agg ⟨[.int .i64 a, .int .i64 b, .int .i64 c, .int .i64 d, .int .i64 e, .int .i64 f]⟩] (arcV (cAltM a b c d e f)) := by
  refine ev6_gives EN_ok kFc11_ok (t := cAltMK (fun p0 p1 p2 => some (.v (arcV ((p0, p1, p2))))) a b c d e f) (by kernel_rfl) ?_
  unfold cAltM cAltMK
  repeat' first | (with_reducible refine case_cond (fun r : Int × Int × Int => AV.v (arcV (r))) ?_ ?_) | (with_reducible refine case_lt (fun r : Int × Int × Int => AV.v (arcV (r))) fun _ => ?_) | rfl
noncomputable def cAziMK {α : Type} (K : Int → Int → Int → α) (a b c d e f : Int) : α := cond (!(triB a b c d e f)) (K 0 0 1) (lt (caziM a b c d e f) fun x1 => K x1.1 x1.2.1 x1.2.2)
noncomputable def cAziM (a b c d e f : Int) : Int × Int × Int := cAziMK (fun p0 p1 p2 => (p0, p1, p2)) a b c d e f
noncomputable def kFc12 : Book := (50, eT (fun a b c d e f => arcV (cAltM a b c d e f))) :: kFc11
theorem kFc12_ok : BookOk Tryz.prog kFc12 := (bookOk_cons (eT_ok cAltM_gives) kFc11_ok)
theorem cAziM_gives (a b c d e f : Int) : Gives Tryz.prog 83 [.agg ⟨[.int .i64 a, .int .i64 b, .int .i64 c, .int .i64 d, .int .i64 e, .int .i64 f]⟩] (arcV (cAziM a b c d e f)) := by
  refine ev6_gives EN_ok kFc12_ok (t := cAziMK (fun p0 p1 p2 => some (.v (arcV ((p0, p1, p2))))) a b c d e f) (by kernel_rfl) ?_
  unfold cAziM cAziMK
  repeat' first | (with_reducible refine case_cond (fun r : Int × Int × Int => AV.v (arcV (r))) ?_ ?_) | (with_reducible refine case_lt (fun r : Int × Int × Int => AV.v (arcV (r))) fun _ => ?_) | rfl
noncomputable def csolMK {α : Type} (K : Int → Int → Int → Int → Int → α) (a b c d e f : Int) : α := lt (cAltM a b c d e f) fun x1 => cond (x1.2.2 != 0) (K 0 0 0 0 x1.2.2) (lt (cAziM a b c d e f) fun x2 => cond (x2.2.2 != 0) (K 0 0 0 0 x2.2.2) (K x1.1 x1.2.1 x2.1 x2.2.1 0))
noncomputable def csolM (a b c d e f : Int) : Int × Int × Int × Int × Int := csolMK (fun p0 p1 p2 p3 p4 => (p0, p1, p2, p3, p4)) a b c d e f
noncomputable def kFc13 : Book := (83, eT (fun a b c d e f => arcV (cAziM a b c d e f))) :: kFc12
theorem kFc13_ok : BookOk Tryz.prog kFc13 := (bookOk_cons (eT_ok cAziM_gives) kFc12_ok)
theorem csolM_gives (a b c d e f : Int) : Gives Tryz.prog 45 [.agg ⟨[.int .i64 a, .int .i64 b, .int .i64 c, .int .i64 d, .int .i64 e, .int .i64 f]⟩] (solV (csolM a b c d e f)) := by
  refine ev6_gives EN_ok kFc13_ok (t := csolMK (fun p0 p1 p2 p3 p4 => some (.v (solV ((p0, p1, p2, p3, p4))))) a b c d e f) (by kernel_rfl) ?_
  unfold csolM csolMK
  repeat' first | (with_reducible refine case_cond (fun r : Int × Int × Int × Int × Int => AV.v (solV (r))) ?_ ?_) | (with_reducible refine case_lt (fun r : Int × Int × Int × Int × Int => AV.v (solV (r))) fun _ => ?_) | rfl
end Go.Proofs.YtfilgpifiboccaaGreat

/-
  halfangle.Angle: what each function gives.
-/
import Derived.Test.YtkjnheahaimpoaaGreatFk
namespace Go.Proofs.YtkjnheahaimpoaaGreat
open Ev

theorem ediv_bd {x d m : Int} (hd : 1 ≤ d) (h1 : -m ≤ x) (h2 : x ≤ m) : -m - 1 ≤ x / d ∧ x / d ≤ m := by
  have e : flD x d = x / d := by
    unfold flD
    rw [if_pos (by omega)]
  rw [← e]
  exact flD_bd x d (by omega) m h1 h2
theorem tmul_bd {x y : Int} (h1 : -1099511627776 ≤ x) (h2 : x ≤ 1099511627776) (h3 : -1048576 ≤ y) (h4 : y ≤ 1048576) : -1152921504606846976 ≤ x * y ∧ x * y ≤ 1152921504606846976 := by
  have h : (x * y).natAbs = x.natAbs * y.natAbs := Int.natAbs_mul x y
  have : x.natAbs * y.natAbs ≤ 1099511627776 * 1048576 := Nat.mul_le_mul (by omega) (by omega)
  omega
def aflP (a b : Int) : Bool := decide (0 < b ∧ -4611686018427387904 ≤ a ∧ a ≤ 4611686018427387904)
def aflD (a b : Int) : Int := a / b
noncomputable def book_aflD_gives : Book := []
theorem book_aflD_gives_ok : BookOk Tryz.prog book_aflD_gives := bookOk_nil
theorem aflD_gives_tree (a b : Int) : evF Tryz.prog Es Cs book_aflD_gives 20 6 127 ([.int .i64 a, .int .i64 b].map AV.v) [] [] last =
  cond (b == 0)
  (none)
  (cond (b == 0)
   (none)
   (cond (decide ((Int.tmod a b) < 0))
    (some (.v (.int .i64 (IntKind.i64.wrap ((IntKind.i64.wrap (Int.tdiv a b)) - 1)))))
    (some (.v (.int .i64 (IntKind.i64.wrap (Int.tdiv a b))))))) := by kernel_rfl
theorem aflD_gives (a b : Int) (hp : aflP a b = true) : Gives Tryz.prog 127 [.int .i64 a, .int .i64 b] (.int .i64 (aflD a b)) := by
  refine evF_gives (E := Es) mixed Es_ok Cs_ok book_aflD_gives_ok (lim := 20) (d := 6) (nm := []) ?_
  rw [aflD_gives_tree a b]
  obtain ⟨hb, ha1, ha2⟩ := of_decide_eq_true hp
  have t := tdiv_bd a b 4611686018427387904 ha1 ha2
  have s := tm_sign a b
  have e0 : (b == 0) = false := beq_eq_false_iff_ne.2 (by omega)
  rw [e0, i64w (x := Int.tdiv a b) (by omega), i64w (x := Int.tdiv a b - 1) (by omega)]
  simp only [cond_false]
  unfold aflD
  rw [fl_pos a b hb]
  by_cases h1 : a.tmod b < 0
  · rw [decide_eq_true h1, if_pos (by omega)]; rfl
  · rw [decide_eq_false h1, if_neg (by omega)]; rfl
def timR (a b n d : Int) : Int × Int × Int := if avalidB a b = true then (if -1048576 ≤ n ∧ n ≤ 1048576 ∧ 1 ≤ d ∧ d ≤ 1048576 then resR (mn (a * n) (b * n) / d) (-(-mx (a * n) (b * n) / d)) else (0, 0, 2)) else (0, 0, 1)
noncomputable def book_timR_gives : Book := [(46, eP (fun a b => .bool (avalidB a b))), (53, eII (fun a b => arcV (resR a b))), (127, eIIif aflP (fun a b => .int .i64 (aflD a b)))]
theorem book_timR_gives_ok : BookOk Tryz.prog book_timR_gives := (bookOk_cons (eP_ok gvalid_any) (bookOk_cons (eII_ok resR_gives) (bookOk_cons (eIIif_ok aflD_gives) bookOk_nil)))
theorem timR_gives_tree (a b c d : Int) : evF Tryz.prog Es Cs book_timR_gives 20 6 117 ([.agg ⟨[.int .i64 a, .int .i64 b]⟩, .int .i64 c, .int .i64 d].map AV.v) [] [] last =
  cond (!(avalidB a b))
  (some (.v (.tuple ⟨[.agg ⟨[.int .i64 0, .int .i64 0]⟩, .int .i64 1]⟩)))
  (cond (decide (c < (-1048576)))
   (some (.v (.tuple ⟨[.agg ⟨[.int .i64 0, .int .i64 0]⟩, .int .i64 2]⟩)))
   (cond (decide (c > 1048576))
    (some (.v (.tuple ⟨[.agg ⟨[.int .i64 0, .int .i64 0]⟩, .int .i64 2]⟩)))
    (cond (decide (d < 1))
     (some (.v (.tuple ⟨[.agg ⟨[.int .i64 0, .int .i64 0]⟩, .int .i64 2]⟩)))
     (cond (decide (d > 1048576))
      (some (.v (.tuple ⟨[.agg ⟨[.int .i64 0, .int .i64 0]⟩, .int .i64 2]⟩)))
      (cond (aflP (mn (IntKind.i64.wrap (a * c)) (IntKind.i64.wrap (b * c))) d)
       (cond (aflP (IntKind.i64.wrap (0 - (mx (IntKind.i64.wrap (a * c)) (IntKind.i64.wrap (b * c))))) d)
        (lt (resR (aflD (mn (IntKind.i64.wrap (a * c)) (IntKind.i64.wrap (b * c))) d) (IntKind.i64.wrap (0 - (aflD (IntKind.i64.wrap (0 - (mx (IntKind.i64.wrap (a * c)) (IntKind.i64.wrap (b * c))))) d)))) fun x1 =>
         some (.v (.tuple ⟨[.agg ⟨[.int .i64 x1.1, .int .i64 x1.2.1]⟩, .int .i64 x1.2.2]⟩)))
        (none))
       (none)))))) := by kernel_rfl
theorem timR_gives (a b c d : Int) : Gives Tryz.prog 117 [.agg ⟨[.int .i64 a, .int .i64 b]⟩, .int .i64 c, .int .i64 d] (arcV (timR a b c d)) := by
  refine evF_gives (E := Es) mixed Es_ok Cs_ok book_timR_gives_ok (lim := 20) (d := 6) (nm := []) ?_
  rw [timR_gives_tree a b c d]
  unfold timR
  cases h : avalidB a b
  · rfl
  · have v := aval_bd h
    by_cases c1 : c < -1048576
    · rw [decide_eq_true c1, if_neg (show ¬ (-1048576 ≤ c ∧ c ≤ 1048576 ∧ 1 ≤ d ∧ d ≤ 1048576) by omega)]; rfl
    by_cases c2 : c > 1048576
    · rw [decide_eq_false c1, decide_eq_true c2, if_neg (show ¬ (-1048576 ≤ c ∧ c ≤ 1048576 ∧ 1 ≤ d ∧ d ≤ 1048576) by omega)]; rfl
    by_cases c3 : d < 1
    · rw [decide_eq_false c1, decide_eq_false c2, decide_eq_true c3, if_neg (show ¬ (-1048576 ≤ c ∧ c ≤ 1048576 ∧ 1 ≤ d ∧ d ≤ 1048576) by omega)]; rfl
    by_cases c4 : d > 1048576
    · rw [decide_eq_false c1, decide_eq_false c2, decide_eq_false c3, decide_eq_true c4, if_neg (show ¬ (-1048576 ≤ c ∧ c ≤ 1048576 ∧ 1 ≤ d ∧ d ≤ 1048576) by omega)]; rfl
    have p1 := tmul_bd (x := a) (y := c) (by omega) (by omega) (by omega) (by omega)
    have p2 := tmul_bd (x := b) (y := c) (by omega) (by omega) (by omega) (by omega)
    rw [decide_eq_false c1, decide_eq_false c2, decide_eq_false c3, decide_eq_false c4, if_pos (show -1048576 ≤ c ∧ c ≤ 1048576 ∧ 1 ≤ d ∧ d ≤ 1048576 by omega), i64w (x := a * c) (by omega), i64w (x := b * c) (by omega)]
    have m1 := mn_bd (a * c) (b * c)
    have m2 := mx_bd (a * c) (b * c)
    generalize mn (a * c) (b * c) = M at *
    generalize mx (a * c) (b * c) = N at *
    rw [i64w (x := 0 - N) (by omega), Int.zero_sub]
    have q1 : aflP M d = true := decide_eq_true ⟨by omega, by omega, by omega⟩
    have q2 : aflP (-N) d = true := decide_eq_true ⟨by omega, by omega, by omega⟩
    have t := ediv_bd (x := -N) (d := d) (m := 1152921504606846976) (by omega) (by omega) (by omega)
    rw [q1, q2]
    unfold aflD
    rw [i64w (x := 0 - -N / d) (by omega), Int.zero_sub]
    rfl
def wfixV (a b _e : Int) : Int × Int := (a, b)
def wfixC (k _a _b e : Int) : Int := keepE k e
noncomputable def book_wfixV_mods : Book := []
theorem book_wfixV_mods_ok : BookOk Tryz.prog book_wfixV_mods := bookOk_nil
theorem wfixV_mods_tree (k a b c : Int) : evF Tryz.prog Es Cs book_wfixV_mods 20 6 118 (.p [] 0 :: [.agg ⟨[.int .i64 a, .int .i64 b]⟩, .int .i64 c].map AV.v) [([], ⟨[.v (.int .i64 k)], 139⟩)] [] lastC =
  cond (k == 0)
  (some (.v (.agg ⟨[.int .i64 a, .int .i64 b]⟩), ⟨[.v (.int .i64 c)], 139⟩))
  (some (.v (.agg ⟨[.int .i64 a, .int .i64 b]⟩), ⟨[.v (.int .i64 k)], 139⟩)) := by kernel_rfl
theorem wfixV_mods (k a b c : Int) : Mods Tryz.prog 118 139 k [.agg ⟨[.int .i64 a, .int .i64 b]⟩, .int .i64 c] (pairV (wfixV a b c).1 (wfixV a b c).2) (wfixC k a b c) := by
  refine evF_mods (E := Es) mixed Es_ok Cs_ok book_wfixV_mods_ok (lim := 20) (d := 6) (nm := []) ?_
  rw [wfixV_mods_tree k a b c]
  unfold wfixC keepE
  by_cases h : k = 0
  · simp [h]; rfl
  · have e : (k == 0) = false := beq_eq_false_iff_ne.2 h
    rw [e]
    simp [h]; rfl
def warcW (a b _e : Int) : Int × Int := (a, b)
def warcC (k _a _b e : Int) : Int := keepE k e
noncomputable def book_warcW_mods : Book := []
theorem book_warcW_mods_ok : BookOk Tryz.prog book_warcW_mods := bookOk_nil
theorem warcW_mods_tree (k a b c : Int) : evF Tryz.prog Es Cs book_warcW_mods 20 6 116 (.p [] 0 :: [.agg ⟨[.int .i64 a, .int .i64 b]⟩, .int .i64 c].map AV.v) [([], ⟨[.v (.int .i64 k)], 139⟩)] [] lastC =
  cond (k == 0)
  (some (.v (.agg ⟨[.int .i64 a, .int .i64 b]⟩), ⟨[.v (.int .i64 c)], 139⟩))
  (some (.v (.agg ⟨[.int .i64 a, .int .i64 b]⟩), ⟨[.v (.int .i64 k)], 139⟩)) := by kernel_rfl
theorem warcW_mods (k a b c : Int) : Mods Tryz.prog 116 139 k [.agg ⟨[.int .i64 a, .int .i64 b]⟩, .int .i64 c] (pairV (warcW a b c).1 (warcW a b c).2) (warcC k a b c) := by
  refine evF_mods (E := Es) mixed Es_ok Cs_ok book_warcW_mods_ok (lim := 20) (d := 6) (nm := []) ?_
  rw [warcW_mods_tree k a b c]
  unfold warcC keepE
  by_cases h : k = 0
  · simp [h]; rfl
  · have e : (k == 0) = false := beq_eq_false_iff_ne.2 h
    rw [e]
    simp [h]; rfl
noncomputable def wsinV (a b : Int) : Int × Int := ((sinR a b).1, (sinR a b).2.1)
noncomputable def wsinC (k a b : Int) : Int := keepE k (sinR a b).2.2
noncomputable def book_wsinV_mods : Book := [(74, eP (fun a b => arcV (sinR a b))), (118, cPI 139 (fun a b c => pairV (wfixV a b c).1 (wfixV a b c).2) wfixC)]
theorem book_wsinV_mods_ok : BookOk Tryz.prog book_wsinV_mods := (bookOk_cons (eP_ok sin_r) (bookOk_cons (cPI_ok wfixV_mods) bookOk_nil))
theorem wsinV_mods_tree (k a b : Int) : evF Tryz.prog Es Cs book_wsinV_mods 20 6 104 (.p [] 0 :: [.agg ⟨[.int .i64 a, .int .i64 b]⟩].map AV.v) [([], ⟨[.v (.int .i64 k)], 139⟩)] [] lastC =
  lt (sinR a b) fun x1 =>
  lt (wfixV x1.1 x1.2.1 x1.2.2) fun x3 =>
  lt (wfixC k x1.1 x1.2.1 x1.2.2) fun x2 =>
  some (.v (.agg ⟨[.int .i64 x3.1, .int .i64 x3.2]⟩), ⟨[.v (.int .i64 x2)], 139⟩) := by kernel_rfl
theorem wsinV_mods (k a b : Int) : Mods Tryz.prog 104 139 k [.agg ⟨[.int .i64 a, .int .i64 b]⟩] (pairV (wsinV a b).1 (wsinV a b).2) (wsinC k a b) := by
  refine evF_mods (E := Es) mixed Es_ok Cs_ok book_wsinV_mods_ok (lim := 20) (d := 6) (nm := []) ?_
  rw [wsinV_mods_tree k a b]
  rfl
noncomputable def wmulV (a b c d : Int) : Int × Int := ((mulR a b c d).1, (mulR a b c d).2.1)
noncomputable def wmulC (k a b c d : Int) : Int := keepE k (mulR a b c d).2.2
noncomputable def book_wmulV_mods : Book := [(73, ePP (fun a b c d => arcV (mulR a b c d))), (118, cPI 139 (fun a b c => pairV (wfixV a b c).1 (wfixV a b c).2) wfixC)]
theorem book_wmulV_mods_ok : BookOk Tryz.prog book_wmulV_mods := (bookOk_cons (ePP_ok mulR_gives) (bookOk_cons (cPI_ok wfixV_mods) bookOk_nil))
theorem wmulV_mods_tree (k a b c d : Int) : evF Tryz.prog Es Cs book_wmulV_mods 20 6 103 (.p [] 0 :: [.agg ⟨[.int .i64 a, .int .i64 b]⟩, .agg ⟨[.int .i64 c, .int .i64 d]⟩].map AV.v) [([], ⟨[.v (.int .i64 k)], 139⟩)] [] lastC =
  lt (mulR a b c d) fun x1 =>
  lt (wfixV x1.1 x1.2.1 x1.2.2) fun x3 =>
  lt (wfixC k x1.1 x1.2.1 x1.2.2) fun x2 =>
  some (.v (.agg ⟨[.int .i64 x3.1, .int .i64 x3.2]⟩), ⟨[.v (.int .i64 x2)], 139⟩) := by kernel_rfl
theorem wmulV_mods (k a b c d : Int) : Mods Tryz.prog 103 139 k [.agg ⟨[.int .i64 a, .int .i64 b]⟩, .agg ⟨[.int .i64 c, .int .i64 d]⟩] (pairV (wmulV a b c d).1 (wmulV a b c d).2) (wmulC k a b c d) := by
  refine evF_mods (E := Es) mixed Es_ok Cs_ok book_wmulV_mods_ok (lim := 20) (d := 6) (nm := []) ?_
  rw [wmulV_mods_tree k a b c d]
  rfl
noncomputable def wplusV (a b c d : Int) : Int × Int := ((aaddR a b c d).1, (aaddR a b c d).2.1)
noncomputable def wplusC (k a b c d : Int) : Int := keepE k (aaddR a b c d).2.2
noncomputable def book_wplusV_mods : Book := [(21, ePP (fun a b c d => arcV (aaddR a b c d))), (116, cPI 139 (fun a b c => pairV (warcW a b c).1 (warcW a b c).2) warcC)]
theorem book_wplusV_mods_ok : BookOk Tryz.prog book_wplusV_mods := (bookOk_cons (ePP_ok aaddR_gives) (bookOk_cons (cPI_ok warcW_mods) bookOk_nil))
theorem wplusV_mods_tree (k a b c d : Int) : evF Tryz.prog Es Cs book_wplusV_mods 20 6 102 (.p [] 0 :: [.agg ⟨[.int .i64 a, .int .i64 b]⟩, .agg ⟨[.int .i64 c, .int .i64 d]⟩].map AV.v) [([], ⟨[.v (.int .i64 k)], 139⟩)] [] lastC =
  lt (aaddR a b c d) fun x1 =>
  lt (warcW x1.1 x1.2.1 x1.2.2) fun x3 =>
  lt (warcC k x1.1 x1.2.1 x1.2.2) fun x2 =>
  some (.v (.agg ⟨[.int .i64 x3.1, .int .i64 x3.2]⟩), ⟨[.v (.int .i64 x2)], 139⟩) := by kernel_rfl
theorem wplusV_mods (k a b c d : Int) : Mods Tryz.prog 102 139 k [.agg ⟨[.int .i64 a, .int .i64 b]⟩, .agg ⟨[.int .i64 c, .int .i64 d]⟩] (pairV (wplusV a b c d).1 (wplusV a b c d).2) (wplusC k a b c d) := by
  refine evF_mods (E := Es) mixed Es_ok Cs_ok book_wplusV_mods_ok (lim := 20) (d := 6) (nm := []) ?_
  rw [wplusV_mods_tree k a b c d]
  rfl
noncomputable def wminV (a b c d : Int) : Int × Int := ((asubR a b c d).1, (asubR a b c d).2.1)
noncomputable def wminC (k a b c d : Int) : Int := keepE k (asubR a b c d).2.2
noncomputable def book_wminV_mods : Book := [(69, ePP (fun a b c d => arcV (asubR a b c d))), (116, cPI 139 (fun a b c => pairV (warcW a b c).1 (warcW a b c).2) warcC)]
theorem book_wminV_mods_ok : BookOk Tryz.prog book_wminV_mods := (bookOk_cons (ePP_ok asubR_gives) (bookOk_cons (cPI_ok warcW_mods) bookOk_nil))
theorem wminV_mods_tree (k a b c d : Int) : evF Tryz.prog Es Cs book_wminV_mods 20 6 101 (.p [] 0 :: [.agg ⟨[.int .i64 a, .int .i64 b]⟩, .agg ⟨[.int .i64 c, .int .i64 d]⟩].map AV.v) [([], ⟨[.v (.int .i64 k)], 139⟩)] [] lastC =
  lt (asubR a b c d) fun x1 =>
  lt (warcW x1.1 x1.2.1 x1.2.2) fun x3 =>
  lt (warcC k x1.1 x1.2.1 x1.2.2) fun x2 =>
  some (.v (.agg ⟨[.int .i64 x3.1, .int .i64 x3.2]⟩), ⟨[.v (.int .i64 x2)], 139⟩) := by kernel_rfl
theorem wminV_mods (k a b c d : Int) : Mods Tryz.prog 101 139 k [.agg ⟨[.int .i64 a, .int .i64 b]⟩, .agg ⟨[.int .i64 c, .int .i64 d]⟩] (pairV (wminV a b c d).1 (wminV a b c d).2) (wminC k a b c d) := by
  refine evF_mods (E := Es) mixed Es_ok Cs_ok book_wminV_mods_ok (lim := 20) (d := 6) (nm := []) ?_
  rw [wminV_mods_tree k a b c d]
  rfl
noncomputable def wpartV (a b c d : Int) : Int × Int := ((timR a b c d).1, (timR a b c d).2.1)
noncomputable def wpartC (k a b c d : Int) : Int := keepE k (timR a b c d).2.2
noncomputable def book_wpartV_mods : Book := [(116, cPI 139 (fun a b c => pairV (warcW a b c).1 (warcW a b c).2) warcC), (117, ePII (fun a b c d => arcV (timR a b c d)))]
theorem book_wpartV_mods_ok : BookOk Tryz.prog book_wpartV_mods := (bookOk_cons (cPI_ok warcW_mods) (bookOk_cons (ePII_ok timR_gives) bookOk_nil))
theorem wpartV_mods_tree (k a b c d : Int) : evF Tryz.prog Es Cs book_wpartV_mods 20 6 100 (.p [] 0 :: [.agg ⟨[.int .i64 a, .int .i64 b]⟩, .int .i64 c, .int .i64 d].map AV.v) [([], ⟨[.v (.int .i64 k)], 139⟩)] [] lastC =
  lt (timR a b c d) fun x1 =>
  lt (warcW x1.1 x1.2.1 x1.2.2) fun x3 =>
  lt (warcC k x1.1 x1.2.1 x1.2.2) fun x2 =>
  some (.v (.agg ⟨[.int .i64 x3.1, .int .i64 x3.2]⟩), ⟨[.v (.int .i64 x2)], 139⟩) := by kernel_rfl
theorem wpartV_mods (k a b c d : Int) : Mods Tryz.prog 100 139 k [.agg ⟨[.int .i64 a, .int .i64 b]⟩, .int .i64 c, .int .i64 d] (pairV (wpartV a b c d).1 (wpartV a b c d).2) (wpartC k a b c d) := by
  refine evF_mods (E := Es) mixed Es_ok Cs_ok book_wpartV_mods_ok (lim := 20) (d := 6) (nm := []) ?_
  rw [wpartV_mods_tree k a b c d]
  rfl
noncomputable def sideM (a b : Int) : Bool :=
  cond (avalidB a b)
  (cond (decide (a ≥ 0))
   ((decide (b ≤ 10800000)))
   (false))
  (false)
noncomputable def book_sideM_gives : Book := [(46, eP (fun a b => .bool (avalidB a b)))]
theorem book_sideM_gives_ok : BookOk Tryz.prog book_sideM_gives := (bookOk_cons (eP_ok gvalid_any) bookOk_nil)
theorem sideM_gives_tree (a b : Int) : evF Tryz.prog Es Cs book_sideM_gives 20 6 99 ([.agg ⟨[.int .i64 a, .int .i64 b]⟩].map AV.v) [] [] last =
  cond (avalidB a b)
  (cond (decide (a ≥ 0))
   (some (.v (.bool (decide (b ≤ 10800000)))))
   (some (.v (.bool false))))
  (some (.v (.bool false))) := by kernel_rfl
theorem sideM_gives (a b : Int) : Gives Tryz.prog 99 [.agg ⟨[.int .i64 a, .int .i64 b]⟩] (.bool (sideM a b)) := by
  refine evF_gives (E := Es) mixed Es_ok Cs_ok book_sideM_gives_ok (lim := 20) (d := 6) (nm := []) ?_
  rw [sideM_gives_tree a b]
  unfold sideM
  refine case_cond (fun (r : Bool) => AV.v (.bool (r))) ?_ ?_
  · refine case_cond (fun (r : Bool) => AV.v (.bool (r))) ?_ ?_
    · rfl
    · rfl
  · rfl
noncomputable def anglM (a b c d e f : Int) : Int × Int × Int :=
  cond (!(sideM a b))
  ((0, 0, 1))
  (cond (!(sideM c d))
   ((0, 0, 1))
   (cond (!(sideM e f))
    ((0, 0, 1))
    (lt (wplusV a b e f) fun x2 =>
     lt (wplusC 0 a b e f) fun x1 =>
     lt (wminV x2.1 x2.2 c d) fun x4 =>
     lt (wminC x1 x2.1 x2.2 c d) fun x3 =>
     lt (wpartV x4.1 x4.2 1 2) fun x6 =>
     lt (wpartC x3 x4.1 x4.2 1 2) fun x5 =>
     lt (wplusV a b c d) fun x8 =>
     lt (wplusC x5 a b c d) fun x7 =>
     lt (wminV x8.1 x8.2 e f) fun x10 =>
     lt (wminC x7 x8.1 x8.2 e f) fun x9 =>
     lt (wpartV x10.1 x10.2 1 2) fun x12 =>
     lt (wpartC x9 x10.1 x10.2 1 2) fun x11 =>
     lt (wsinV x6.1 x6.2) fun x14 =>
     lt (wsinC x11 x6.1 x6.2) fun x13 =>
     lt (wsinV x12.1 x12.2) fun x16 =>
     lt (wsinC x13 x12.1 x12.2) fun x15 =>
     lt (wmulV x14.1 x14.2 x16.1 x16.2) fun x18 =>
     lt (wmulC x15 x14.1 x14.2 x16.1 x16.2) fun x17 =>
     lt (wsinV c d) fun x20 =>
     lt (wsinC x17 c d) fun x19 =>
     lt (wsinV e f) fun x22 =>
     lt (wsinC x19 e f) fun x21 =>
     lt (wmulV x20.1 x20.2 x22.1 x22.2) fun x24 =>
     lt (wmulC x21 x20.1 x20.2 x22.1 x22.2) fun x23 =>
     cond (x23 != 0)
     ((0, 0, x23))
     (lt (divR x18.1 x18.2 x24.1 x24.2) fun x25 =>
      cond (x25.2.2 == 16)
      ((0, 0, 21))
      (cond (x25.2.2 == 5)
       ((0, 0, 24))
       (lt (ahavR x25.1 x25.2.1) fun x26 =>
        cond (x26.2.2 != 0)
        ((0, 0, 12))
        ((x26.1, x26.2.1, 0))))))))
noncomputable def book_anglM_gives : Book := [(56, ePP (fun a b c d => arcV (divR a b c d))), (99, eP (fun a b => .bool (sideM a b))), (100, cPII 139 (fun a b c d => pairV (wpartV a b c d).1 (wpartV a b c d).2) wpartC), (101, cPP 139 (fun a b c d => pairV (wminV a b c d).1 (wminV a b c d).2) wminC), (102, cPP 139 (fun a b c d => pairV (wplusV a b c d).1 (wplusV a b c d).2) wplusC), (103, cPP 139 (fun a b c d => pairV (wmulV a b c d).1 (wmulV a b c d).2) wmulC), (104, cP 139 (fun a b => pairV (wsinV a b).1 (wsinV a b).2) wsinC), (105, eP (fun a b => arcV (ahavR a b)))]
theorem book_anglM_gives_ok : BookOk Tryz.prog book_anglM_gives := (bookOk_cons (ePP_ok divR_gives) (bookOk_cons (eP_ok sideM_gives) (bookOk_cons (cPII_ok wpartV_mods) (bookOk_cons (cPP_ok wminV_mods) (bookOk_cons (cPP_ok wplusV_mods) (bookOk_cons (cPP_ok wmulV_mods) (bookOk_cons (cP_ok wsinV_mods) (bookOk_cons (eP_ok ahav_r) bookOk_nil))))))))
theorem anglM_gives_tree (a b c d e f : Int) : evF Tryz.prog Es Cs book_anglM_gives 20 6 70 ([.agg ⟨[.int .i64 a, .int .i64 b]⟩, .agg ⟨[.int .i64 c, .int .i64 d]⟩, .agg ⟨[.int .i64 e, .int .i64 f]⟩].map AV.v) [] [] last =
  cond (!(sideM a b))
  (some (.v (.tuple ⟨[.agg ⟨[.int .i64 0, .int .i64 0]⟩, .int .i64 1]⟩)))
  (cond (!(sideM c d))
   (some (.v (.tuple ⟨[.agg ⟨[.int .i64 0, .int .i64 0]⟩, .int .i64 1]⟩)))
   (cond (!(sideM e f))
    (some (.v (.tuple ⟨[.agg ⟨[.int .i64 0, .int .i64 0]⟩, .int .i64 1]⟩)))
    (lt (wplusV a b e f) fun x2 =>
     lt (wplusC 0 a b e f) fun x1 =>
     lt (wminV x2.1 x2.2 c d) fun x4 =>
     lt (wminC x1 x2.1 x2.2 c d) fun x3 =>
     lt (wpartV x4.1 x4.2 1 2) fun x6 =>
     lt (wpartC x3 x4.1 x4.2 1 2) fun x5 =>
     lt (wplusV a b c d) fun x8 =>
     lt (wplusC x5 a b c d) fun x7 =>
     lt (wminV x8.1 x8.2 e f) fun x10 =>
     lt (wminC x7 x8.1 x8.2 e f) fun x9 =>
     lt (wpartV x10.1 x10.2 1 2) fun x12 =>
     lt (wpartC x9 x10.1 x10.2 1 2) fun x11 =>
     lt (wsinV x6.1 x6.2) fun x14 =>
     lt (wsinC x11 x6.1 x6.2) fun x13 =>
     lt (wsinV x12.1 x12.2) fun x16 =>
     lt (wsinC x13 x12.1 x12.2) fun x15 =>
     lt (wmulV x14.1 x14.2 x16.1 x16.2) fun x18 =>
     lt (wmulC x15 x14.1 x14.2 x16.1 x16.2) fun x17 =>
     lt (wsinV c d) fun x20 =>
     lt (wsinC x17 c d) fun x19 =>
     lt (wsinV e f) fun x22 =>
     lt (wsinC x19 e f) fun x21 =>
     lt (wmulV x20.1 x20.2 x22.1 x22.2) fun x24 =>
     lt (wmulC x21 x20.1 x20.2 x22.1 x22.2) fun x23 =>
     cond (x23 != 0)
     (some (.v (.tuple ⟨[.agg ⟨[.int .i64 0, .int .i64 0]⟩, .int .i64 x23]⟩)))
     (lt (divR x18.1 x18.2 x24.1 x24.2) fun x25 =>
      cond (x25.2.2 == 16)
      (some (.v (.tuple ⟨[.agg ⟨[.int .i64 0, .int .i64 0]⟩, .int .i64 21]⟩)))
      (cond (x25.2.2 == 5)
       (some (.v (.tuple ⟨[.agg ⟨[.int .i64 0, .int .i64 0]⟩, .int .i64 24]⟩)))
       (lt (ahavR x25.1 x25.2.1) fun x26 =>
        cond (x26.2.2 != 0)
        (some (.v (.tuple ⟨[.agg ⟨[.int .i64 0, .int .i64 0]⟩, .int .i64 12]⟩)))
        (some (.v (.tuple ⟨[.agg ⟨[.int .i64 x26.1, .int .i64 x26.2.1]⟩, .int .i64 0]⟩))))))))) := by kernel_rfl
theorem anglM_gives (a b c d e f : Int) : Gives Tryz.prog 70 [.agg ⟨[.int .i64 a, .int .i64 b]⟩, .agg ⟨[.int .i64 c, .int .i64 d]⟩, .agg ⟨[.int .i64 e, .int .i64 f]⟩] (arcV (anglM a b c d e f)) := by
  refine evF_gives (E := Es) mixed Es_ok Cs_ok book_anglM_gives_ok (lim := 20) (d := 6) (nm := []) ?_
  rw [anglM_gives_tree a b c d e f]
  unfold anglM
  refine case_cond (fun (r : Int × Int × Int) => AV.v (arcV (r))) ?_ ?_
  · rfl
  · refine case_cond (fun (r : Int × Int × Int) => AV.v (arcV (r))) ?_ ?_
    · rfl
    · refine case_cond (fun (r : Int × Int × Int) => AV.v (arcV (r))) ?_ ?_
      · rfl
      · refine case_lt (fun (r : Int × Int × Int) => AV.v (arcV (r))) fun _ => ?_
        refine case_lt (fun (r : Int × Int × Int) => AV.v (arcV (r))) fun _ => ?_
        refine case_lt (fun (r : Int × Int × Int) => AV.v (arcV (r))) fun _ => ?_
        refine case_lt (fun (r : Int × Int × Int) => AV.v (arcV (r))) fun _ => ?_
        refine case_lt (fun (r : Int × Int × Int) => AV.v (arcV (r))) fun _ => ?_
        refine case_lt (fun (r : Int × Int × Int) => AV.v (arcV (r))) fun _ => ?_
        refine case_lt (fun (r : Int × Int × Int) => AV.v (arcV (r))) fun _ => ?_
        refine case_lt (fun (r : Int × Int × Int) => AV.v (arcV (r))) fun _ => ?_
        refine case_lt (fun (r : Int × Int × Int) => AV.v (arcV (r))) fun _ => ?_
        refine case_lt (fun (r : Int × Int × Int) => AV.v (arcV (r))) fun _ => ?_
        refine case_lt (fun (r : Int × Int × Int) => AV.v (arcV (r))) fun _ => ?_
        refine case_lt (fun (r : Int × Int × Int) => AV.v (arcV (r))) fun _ => ?_
        refine case_lt (fun (r : Int × Int × Int) => AV.v (arcV (r))) fun _ => ?_
        refine case_lt (fun (r : Int × Int × Int) => AV.v (arcV (r))) fun _ => ?_
        refine case_lt (fun (r : Int × Int × Int) => AV.v (arcV (r))) fun _ => ?_
        refine case_lt (fun (r : Int × Int × Int) => AV.v (arcV (r))) fun _ => ?_
        refine case_lt (fun (r : Int × Int × Int) => AV.v (arcV (r))) fun _ => ?_
        refine case_lt (fun (r : Int × Int × Int) => AV.v (arcV (r))) fun _ => ?_
        refine case_lt (fun (r : Int × Int × Int) => AV.v (arcV (r))) fun _ => ?_
        refine case_lt (fun (r : Int × Int × Int) => AV.v (arcV (r))) fun _ => ?_
        refine case_lt (fun (r : Int × Int × Int) => AV.v (arcV (r))) fun _ => ?_
        refine case_lt (fun (r : Int × Int × Int) => AV.v (arcV (r))) fun _ => ?_
        refine case_lt (fun (r : Int × Int × Int) => AV.v (arcV (r))) fun _ => ?_
        refine case_lt (fun (r : Int × Int × Int) => AV.v (arcV (r))) fun _ => ?_
        refine case_cond (fun (r : Int × Int × Int) => AV.v (arcV (r))) ?_ ?_
        · rfl
        · refine case_lt (fun (r : Int × Int × Int) => AV.v (arcV (r))) fun _ => ?_
          refine case_cond (fun (r : Int × Int × Int) => AV.v (arcV (r))) ?_ ?_
          · rfl
          · refine case_cond (fun (r : Int × Int × Int) => AV.v (arcV (r))) ?_ ?_
            · rfl
            · refine case_lt (fun (r : Int × Int × Int) => AV.v (arcV (r))) fun _ => ?_
              refine case_cond (fun (r : Int × Int × Int) => AV.v (arcV (r))) ?_ ?_
              · rfl
              · rfl
end Go.Proofs.YtkjnheahaimpoaaGreat

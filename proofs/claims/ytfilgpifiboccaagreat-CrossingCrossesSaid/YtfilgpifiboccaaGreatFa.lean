/-
  halfangle.Angle: what each function gives.
-/
import Derived.Test.YtfilgpifiboccaaGreatFk
namespace Go.Proofs.YtfilgpifiboccaaGreat
open Ev

theorem ediv_bd {x d m : Int} (hd : 1 ≤ d) (h1 : -m ≤ x) (h2 : x ≤ m) : -m - 1 ≤ x / d ∧ x / d ≤ m := by
  have e : flD x d = x / d := by
    unfold flD
    rw [if_pos (by omega)]
  rw [← e]
  exact flD_bd x d (by omega) m h1 h2
theorem tmul_bd {x y : Int} (h1 : -1099511627776 ≤ x) (h2 : x ≤ 1099511627776) (h3 : -1048576 ≤ y) (h4 : y ≤ 1048576) : -1152921504606846976 ≤ x * y ∧ x * y ≤ 1152921504606846976 := by
  have h : (x * y).natAbs = x.natAbs * y.natAbs := Int.natAbs_mul x y
  have : x.natAbs * y.natAbs ≤ 1099511627776 * 1048576 := Nat.mul_le_mul (by omega) (by omega)
  omega
def aflP (a b : Int) : Bool := decide (0 < b ∧ -4611686018427387904 ≤ a ∧ a ≤ 4611686018427387904)
def aflD (a b : Int) : Int := a / b
noncomputable def kFa0 : Book := (25, eP (fun a b => .bool (avalidB a b))) :: (39, ePP (fun a b c d => arcV (divR a b c d))) :: (46, ePP (fun a b c d => arcV (asubR a b c d))) :: (48, ePP (fun a b c d => arcV (aaddR a b c d))) :: (62, eP (fun a b => arcV (sinR a b))) :: (69, ePP (fun a b c d => arcV (mulR a b c d))) :: (91, eP (fun a b => arcV (ahavR a b))) :: (92, eII (fun a b => arcV (resR a b))) :: []
theorem kFa0_ok : BookOk Tryz.prog kFa0 := (bookOk_cons (eP_ok gvalid_any) (bookOk_cons (ePP_ok divR_gives) (bookOk_cons (ePP_ok asubR_gives) (bookOk_cons (ePP_ok aaddR_gives) (bookOk_cons (eP_ok sin_r) (bookOk_cons (ePP_ok mulR_gives) (bookOk_cons (eP_ok ahav_r) (bookOk_cons (eII_ok resR_gives) bookOk_nil))))))))
theorem aflD_gives (a b : Int) (hp : aflP a b = true) : Gives Tryz.prog 155 [.int .i64 a, .int .i64 b] (.int .i64 (aflD a b)) := by
  refine ev6_gives Es_ok kFa0_ok (t := cond (b == 0) (none) (cond (b == 0) (none) (cond (decide ((Int.tmod a b) < 0)) (some (.v (.int .i64 (IntKind.i64.wrap ((IntKind.i64.wrap (Int.tdiv a b)) - 1))))) (some (.v (.int .i64 (IntKind.i64.wrap (Int.tdiv a b)))))))) (by kernel_rfl) ?_
  obtain ⟨hb, ha1, ha2⟩ := of_decide_eq_true hp
  have t := tdiv_bd a b 4611686018427387904 ha1 ha2
  have s := tm_sign a b
  have e0 : (b == 0) = false := beq_eq_false_iff_ne.2 (by omega)
  rw [e0, i64w (x := Int.tdiv a b) (by omega), i64w (x := Int.tdiv a b - 1) (by omega)]
  simp only [cond_false]
  unfold aflD
  rw [fl_pos a b hb]
  by_cases h1 : a.tmod b < 0
  · rw [decide_eq_true h1, if_pos (by omega)]; rfl
  · rw [decide_eq_false h1, if_neg (by omega)]; rfl
def timR (a b n d : Int) : Int × Int × Int := if avalidB a b = true then (if -1048576 ≤ n ∧ n ≤ 1048576 ∧ 1 ≤ d ∧ d ≤ 1048576 then resR (mn (a * n) (b * n) / d) (-(-mx (a * n) (b * n) / d)) else (0, 0, 2)) else (0, 0, 1)
noncomputable def kFa1 : Book := (155, eIIif aflP (fun a b => .int .i64 (aflD a b))) :: kFa0
theorem kFa1_ok : BookOk Tryz.prog kFa1 := (bookOk_cons (eIIif_ok aflD_gives) kFa0_ok)
theorem timR_gives (a b c d : Int) : Gives Tryz.prog 118 [.agg ⟨[.int .i64 a, .int .i64 b]⟩, .int .i64 c, .int .i64 d] (arcV (timR a b c d)) := by
  refine ev6_gives Es_ok kFa1_ok (t := cond (!(avalidB a b)) (some (.v (.tuple ⟨[.agg ⟨[.int .i64 0, .int .i64 0]⟩, .int .i64 1]⟩))) (cond (decide (c < (-1048576))) (some (.v (.tuple ⟨[.agg ⟨[.int .i64 0, .int .i64 0]⟩, .int .i64 2]⟩))) (cond (decide (c > 1048576)) (some (.v (.tuple ⟨[.agg ⟨[.int .i64 0, .int .i64 0]⟩, .int .i64 2]⟩))) (cond (decide (d < 1)) (some (.v (.tuple ⟨[.agg ⟨[.int .i64 0, .int .i64 0]⟩, .int .i64 2]⟩))) (cond (decide (d > 1048576)) (some (.v (.tuple ⟨[.agg ⟨[.int .i64 0, .int .i64 0]⟩, .int .i64 2]⟩))) (cond (aflP (mn (IntKind.i64.wrap (a * c)) (IntKind.i64.wrap (b * c))) d) (cond (aflP (IntKind.i64.wrap (0 - (mx (IntKind.i64.wrap (a * c)) (IntKind.i64.wrap (b * c))))) d) (lt (resR (aflD (mn (IntKind.i64.wrap (a * c)) (IntKind.i64.wrap (b * c))) d) (IntKind.i64.wrap (0 - (aflD (IntKind.i64.wrap (0 - (mx (IntKind.i64.wrap (a * c)) (IntKind.i64.wrap (b * c))))) d)))) fun x1 => some (.v (.tuple ⟨[.agg ⟨[.int .i64 x1.1, .int .i64 x1.2.1]⟩, .int .i64 x1.2.2]⟩))) (none)) (none))))))) (by kernel_rfl) ?_
  unfold timR
  cases h : avalidB a b
  · rfl
  · have v := aval_bd h
    by_cases c1 : c < -1048576
    · rw [decide_eq_true c1, if_neg (show ¬ (-1048576 ≤ c ∧ c ≤ 1048576 ∧ 1 ≤ d ∧ d ≤ 1048576) by omega)]; rfl
    by_cases c2 : c > 1048576
    · rw [decide_eq_false c1, decide_eq_true c2, if_neg (show ¬ (-1048576 ≤ c ∧ c ≤ 1048576 ∧ 1 ≤ d ∧ d ≤ 1048576) by omega)]; rfl
    by_cases c3 : d < 1
    · rw [decide_eq_false c1, decide_eq_false c2, decide_eq_true c3, if_neg (show ¬ (-1048576 ≤ c ∧ c ≤ 1048576 ∧ 1 ≤ d ∧ d ≤ 1048576) by omega)]; rfl
    by_cases c4 : d > 1048576
    · rw [decide_eq_false c1, decide_eq_false c2, decide_eq_false c3, decide_eq_true c4, if_neg (show ¬ (-1048576 ≤ c ∧ c ≤ 1048576 ∧ 1 ≤ d ∧ d ≤ 1048576) by omega)]; rfl
    have p1 := tmul_bd (x := a) (y := c) (by omega) (by omega) (by omega) (by omega)
    have p2 := tmul_bd (x := b) (y := c) (by omega) (by omega) (by omega) (by omega)
    rw [decide_eq_false c1, decide_eq_false c2, decide_eq_false c3, decide_eq_false c4, if_pos (show -1048576 ≤ c ∧ c ≤ 1048576 ∧ 1 ≤ d ∧ d ≤ 1048576 by omega), i64w (x := a * c) (by omega), i64w (x := b * c) (by omega)]
    have m1 := mn_bd (a * c) (b * c)
    have m2 := mx_bd (a * c) (b * c)
    generalize mn (a * c) (b * c) = M at *
    generalize mx (a * c) (b * c) = N at *
    rw [i64w (x := 0 - N) (by omega), Int.zero_sub]
    have q1 : aflP M d = true := decide_eq_true ⟨by omega, by omega, by omega⟩
    have q2 : aflP (-N) d = true := decide_eq_true ⟨by omega, by omega, by omega⟩
    have t := ediv_bd (x := -N) (d := d) (m := 1152921504606846976) (by omega) (by omega) (by omega)
    rw [q1, q2]
    unfold aflD
    rw [i64w (x := 0 - -N / d) (by omega), Int.zero_sub]
    rfl
def wfixV (a b _e : Int) : Int × Int := (a, b)
def wfixC (k _a _b e : Int) : Int := keepE k e
noncomputable def kFa2 : Book := (118, ePII (fun a b c d => arcV (timR a b c d))) :: kFa1
theorem kFa2_ok : BookOk Tryz.prog kFa2 := (bookOk_cons (ePII_ok timR_gives) kFa1_ok)
theorem wfixV_mods (k a b c : Int) : Mods Tryz.prog 119 123 k [.agg ⟨[.int .i64 a, .int .i64 b]⟩, .int .i64 c] (pairV (wfixV a b c).1 (wfixV a b c).2) (wfixC k a b c) := by
  refine evm_mods Es_ok kFa2_ok (t := cond (k == 0) (some (.v (.agg ⟨[.int .i64 a, .int .i64 b]⟩), ⟨[.v (.int .i64 c)], 123⟩)) (some (.v (.agg ⟨[.int .i64 a, .int .i64 b]⟩), ⟨[.v (.int .i64 k)], 123⟩))) (by kernel_rfl) ?_
  unfold wfixC keepE
  by_cases h : k = 0
  · simp [h]; rfl
  · have e : (k == 0) = false := beq_eq_false_iff_ne.2 h
    rw [e]
    simp [h]; rfl
def warcW (a b _e : Int) : Int × Int := (a, b)
def warcC (k _a _b e : Int) : Int := keepE k e
noncomputable def kFa3 : Book := (119, cPI 123 (fun a b c => pairV (wfixV a b c).1 (wfixV a b c).2) wfixC) :: kFa2
theorem kFa3_ok : BookOk Tryz.prog kFa3 := (bookOk_cons (cPI_ok wfixV_mods) kFa2_ok)
theorem warcW_mods (k a b c : Int) : Mods Tryz.prog 117 123 k [.agg ⟨[.int .i64 a, .int .i64 b]⟩, .int .i64 c] (pairV (warcW a b c).1 (warcW a b c).2) (warcC k a b c) := by
  refine evm_mods Es_ok kFa3_ok (t := cond (k == 0) (some (.v (.agg ⟨[.int .i64 a, .int .i64 b]⟩), ⟨[.v (.int .i64 c)], 123⟩)) (some (.v (.agg ⟨[.int .i64 a, .int .i64 b]⟩), ⟨[.v (.int .i64 k)], 123⟩))) (by kernel_rfl) ?_
  unfold warcC keepE
  by_cases h : k = 0
  · simp [h]; rfl
  · have e : (k == 0) = false := beq_eq_false_iff_ne.2 h
    rw [e]
    simp [h]; rfl
noncomputable def wsinV (a b : Int) : Int × Int := ((sinR a b).1, (sinR a b).2.1)
noncomputable def wsinC (k a b : Int) : Int := keepE k (sinR a b).2.2
noncomputable def kFa4 : Book := (117, cPI 123 (fun a b c => pairV (warcW a b c).1 (warcW a b c).2) warcC) :: kFa3
theorem kFa4_ok : BookOk Tryz.prog kFa4 := (bookOk_cons (cPI_ok warcW_mods) kFa3_ok)
theorem wsinV_mods (k a b : Int) : Mods Tryz.prog 90 123 k [.agg ⟨[.int .i64 a, .int .i64 b]⟩] (pairV (wsinV a b).1 (wsinV a b).2) (wsinC k a b) := by
  refine evm_mods Es_ok kFa4_ok (t := lt (sinR a b) fun x1 => lt (wfixV x1.1 x1.2.1 x1.2.2) fun x3 => lt (wfixC k x1.1 x1.2.1 x1.2.2) fun x2 => some (.v (.agg ⟨[.int .i64 x3.1, .int .i64 x3.2]⟩), ⟨[.v (.int .i64 x2)], 123⟩)) (by kernel_rfl) ?_
  rfl
noncomputable def wmulV (a b c d : Int) : Int × Int := ((mulR a b c d).1, (mulR a b c d).2.1)
noncomputable def wmulC (k a b c d : Int) : Int := keepE k (mulR a b c d).2.2
noncomputable def kFa5 : Book := (90, cP 123 (fun a b => pairV (wsinV a b).1 (wsinV a b).2) wsinC) :: kFa4
theorem kFa5_ok : BookOk Tryz.prog kFa5 := (bookOk_cons (cP_ok wsinV_mods) kFa4_ok)
theorem wmulV_mods (k a b c d : Int) : Mods Tryz.prog 89 123 k [.agg ⟨[.int .i64 a, .int .i64 b]⟩, .agg ⟨[.int .i64 c, .int .i64 d]⟩] (pairV (wmulV a b c d).1 (wmulV a b c d).2) (wmulC k a b c d) := by
  refine evm_mods Es_ok kFa5_ok (t := lt (mulR a b c d) fun x1 => lt (wfixV x1.1 x1.2.1 x1.2.2) fun x3 => lt (wfixC k x1.1 x1.2.1 x1.2.2) fun x2 => some (.v (.agg ⟨[.int .i64 x3.1, .int .i64 x3.2]⟩), ⟨[.v (.int .i64 x2)], 123⟩)) (by kernel_rfl) ?_
  rfl
noncomputable def wplusV (a b c d : Int) : Int × Int := ((aaddR a b c d).1, (aaddR a b c d).2.1)
noncomputable def wplusC (k a b c d : Int) : Int := keepE k (aaddR a b c d).2.2
noncomputable def kFa6 : Book := (89, cPP 123 (fun a b c d => pairV (wmulV a b c d).1 (wmulV a b c d).2) wmulC) :: kFa5
theorem kFa6_ok : BookOk Tryz.prog kFa6 := (bookOk_cons (cPP_ok wmulV_mods) kFa5_ok)
theorem wplusV_mods (k a b c d : Int) : Mods Tryz.prog 88 123 k [.agg ⟨[.int .i64 a, .int .i64 b]⟩, .agg ⟨[.int .i64 c, .int .i64 d]⟩] (pairV (wplusV a b c d).1 (wplusV a b c d).2) (wplusC k a b c d) := by
  refine evm_mods Es_ok kFa6_ok (t := lt (aaddR a b c d) fun x1 => lt (warcW x1.1 x1.2.1 x1.2.2) fun x3 => lt (warcC k x1.1 x1.2.1 x1.2.2) fun x2 => some (.v (.agg ⟨[.int .i64 x3.1, .int .i64 x3.2]⟩), ⟨[.v (.int .i64 x2)], 123⟩)) (by kernel_rfl) ?_
  rfl
noncomputable def wminV (a b c d : Int) : Int × Int := ((asubR a b c d).1, (asubR a b c d).2.1)
noncomputable def wminC (k a b c d : Int) : Int := keepE k (asubR a b c d).2.2
noncomputable def kFa7 : Book := (88, cPP 123 (fun a b c d => pairV (wplusV a b c d).1 (wplusV a b c d).2) wplusC) :: kFa6
theorem kFa7_ok : BookOk Tryz.prog kFa7 := (bookOk_cons (cPP_ok wplusV_mods) kFa6_ok)
theorem wminV_mods (k a b c d : Int) : Mods Tryz.prog 87 123 k [.agg ⟨[.int .i64 a, .int .i64 b]⟩, .agg ⟨[.int .i64 c, .int .i64 d]⟩] (pairV (wminV a b c d).1 (wminV a b c d).2) (wminC k a b c d) := by
  refine evm_mods Es_ok kFa7_ok (t := lt (asubR a b c d) fun x1 => lt (warcW x1.1 x1.2.1 x1.2.2) fun x3 => lt (warcC k x1.1 x1.2.1 x1.2.2) fun x2 => some (.v (.agg ⟨[.int .i64 x3.1, .int .i64 x3.2]⟩), ⟨[.v (.int .i64 x2)], 123⟩)) (by kernel_rfl) ?_
  rfl
noncomputable def wpartV (a b c d : Int) : Int × Int := ((timR a b c d).1, (timR a b c d).2.1)
noncomputable def wpartC (k a b c d : Int) : Int := keepE k (timR a b c d).2.2
noncomputable def kFa8 : Book := (87, cPP 123 (fun a b c d => pairV (wminV a b c d).1 (wminV a b c d).2) wminC) :: kFa7
theorem kFa8_ok : BookOk Tryz.prog kFa8 := (bookOk_cons (cPP_ok wminV_mods) kFa7_ok)
theorem wpartV_mods (k a b c d : Int) : Mods Tryz.prog 86 123 k [.agg ⟨[.int .i64 a, .int .i64 b]⟩, .int .i64 c, .int .i64 d] (pairV (wpartV a b c d).1 (wpartV a b c d).2) (wpartC k a b c d) := by
  refine evm_mods Es_ok kFa8_ok (t := lt (timR a b c d) fun x1 => lt (warcW x1.1 x1.2.1 x1.2.2) fun x3 => lt (warcC k x1.1 x1.2.1 x1.2.2) fun x2 => some (.v (.agg ⟨[.int .i64 x3.1, .int .i64 x3.2]⟩), ⟨[.v (.int .i64 x2)], 123⟩)) (by kernel_rfl) ?_
  rfl
noncomputable def sideM (a b : Int) : Bool := cond (avalidB a b) (cond (decide (a ≥ 0)) ((decide (b ≤ 10800000))) (false)) (false)
noncomputable def kFa9 : Book := (86, cPII 123 (fun a b c d => pairV (wpartV a b c d).1 (wpartV a b c d).2) wpartC) :: kFa8
theorem kFa9_ok : BookOk Tryz.prog kFa9 := (bookOk_cons (cPII_ok wpartV_mods) kFa8_ok)
theorem sideM_gives (a b : Int) : Gives Tryz.prog 85 [.agg ⟨[.int .i64 a, .int .i64 b]⟩] (.bool (sideM a b)) := by
  refine ev6_gives Es_ok kFa9_ok (t := cond (avalidB a b) (cond (decide (a ≥ 0)) (some (.v (.bool (decide (b ≤ 10800000))))) (some (.v (.bool false)))) (some (.v (.bool false)))) (by kernel_rfl) ?_
  unfold sideM
  repeat' first | (with_reducible refine case_cond (fun r : Bool => AV.v (.bool (r))) ?_ ?_) | (with_reducible refine case_lt (fun r : Bool => AV.v (.bool (r))) fun _ => ?_) | rfl
noncomputable def anglMK {α : Type} (K : Int → Int → Int → α) (a b c d e f : Int) : α := cond (!(sideM a b)) (K 0 0 1) (cond (!(sideM c d)) (K 0 0 1) (cond (!(sideM e f)) (K 0 0 1) (lt (wplusV a b e f) fun x2 => lt (wplusC 0 a b e f) fun x1 => lt (wminV x2.1 x2.2 c d) fun x4 => lt (wminC x1 x2.1 x2.2 c d) fun x3 => lt (wpartV x4.1 x4.2 1 2) fun x6 => lt (wpartC x3 x4.1 x4.2 1 2) fun x5 => lt (wplusV a b c d) fun x8 => lt (wplusC x5 a b c d) fun x7 => lt (wminV x8.1 x8.2 e f) fun x10 => lt (wminC x7 x8.1 x8.2 e f) fun x9 => lt (wpartV x10.1 x10.2 1 2) fun x12 => lt (wpartC x9 x10.1 x10.2 1 2) fun x11 => lt (wsinV x6.1 x6.2) fun x14 => lt (wsinC x11 x6.1 x6.2) fun x13 => lt (wsinV x12.1 x12.2) fun x16 => lt (wsinC x13 x12.1 x12.2) fun x15 => lt (wmulV x14.1 x14.2 x16.1 x16.2) fun x18 => lt (wmulC x15 x14.1 x14.2 x16.1 x16.2) fun x17 => lt (wsinV c d) fun x20 => lt (wsinC x17 c d) fun x19 => lt (wsinV e f) fun x22 => lt (wsinC x19 e f) fun x21 => lt (wmulV x20.1 x20.2 x22.1 x22.2) fun x24 => lt (wmulC x21 x20.1 x20.2 x22.1 x22.2) fun x23 => cond (x23 != 0) (K 0 0 x23) (lt (divR x18.1 x18.2 x24.1 x24.2) fun x25 => cond (x25.2.2 == 16) (K 0 0 21) (cond (x25.2.2 == 5) (K 0 0 24) (lt (ahavR x25.1 x25.2.1) fun x26 => cond (x26.2.2 != 0) (K 0 0 12) (K x26.1 x26.2.1 0)))))))
noncomputable def anglM (a b c d e f : Int) : Int × Int × Int := anglMK (fun p0 p1 p2 => (p0, p1, p2)) a b c d e f
noncomputable def kFa10 : Book := (85, eP (fun a b => .bool (sideM a b))) :: kFa9
theorem kFa10_ok : BookOk Tryz.prog kFa10 := (bookOk_cons (eP_ok sideM_gives) kFa9_ok)
theorem anglM_gives (a b c d e f : Int) : Gives Tryz.prog 47 [.agg ⟨[.int .i64 a, .int .i64 b]⟩, .agg ⟨[.int .i64 c, .int .i64 d]⟩, .agg ⟨[.int .i64 e, .int .i64 f]⟩] (arcV (anglM a b c d e f)) := by
  refine ev6_gives Es_ok kFa10_ok (t := anglMK (fun p0 p1 p2 => some (.v (arcV ((p0, p1, p2))))) a b c d e f) (by kernel_rfl) ?_
  unfold anglM anglMK
  repeat' first | (with_reducible refine case_cond (fun r : Int × Int × Int => AV.v (arcV (r))) ?_ ?_) | (with_reducible refine case_lt (fun r : Int × Int × Int => AV.v (arcV (r))) fun _ => ?_) | rfl
end Go.Proofs.YtfilgpifiboccaaGreat

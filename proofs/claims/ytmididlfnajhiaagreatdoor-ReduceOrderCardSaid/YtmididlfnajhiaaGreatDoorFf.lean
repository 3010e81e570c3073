/-
  Squares, roots, parts of arcs: what each function gives, as a plain law. Half-angles: what each function gives.
-/
import Derived.Test.YtmididlfnajhiaaGreatDoorFc
import Derived.Test.YtmididlfnajhiaaGreatDoorRf
namespace Go.Proofs.YtmididlfnajhiaaGreatDoor
open Ev

def rootF (n : Int) : Bool := decide (0 ≤ n ∧ n ≤ 2305843009213693952)
theorem froot_gives (n : Int) (h : rootF n = true) : Gives Tryz.prog 196 [.int .i64 n] (.int .i64 (irt n)) := gives_of fun w => by
  obtain ⟨h1, h2⟩ := of_decide_eq_true h
  have := froot_any n.toNat (by omega) w
  rwa [Int.toNat_of_nonneg h1] at this
theorem ediv_bd {x d m : Int} (hd : 1 ≤ d) (h1 : -m ≤ x) (h2 : x ≤ m) : -m - 1 ≤ x / d ∧ x / d ≤ m := by
  have e : flD x d = x / d := by
    unfold flD
    rw [if_pos (by omega)]
  rw [← e]
  exact flD_bd x d (by omega) m h1 h2
theorem tmul_bd {x y : Int} (h1 : -1099511627776 ≤ x) (h2 : x ≤ 1099511627776) (h3 : -1048576 ≤ y) (h4 : y ≤ 1048576) : -1152921504606846976 ≤ x * y ∧ x * y ≤ 1152921504606846976 := by
  have h : (x * y).natAbs = x.natAbs * y.natAbs := Int.natAbs_mul x y
  have : x.natAbs * y.natAbs ≤ 1099511627776 * 1048576 := Nat.mul_le_mul (by omega) (by omega)
  omega
def aflP (a b : Int) : Bool := decide (0 < b ∧ -4611686018427387904 ≤ a ∧ a ≤ 4611686018427387904)
def aflD (a b : Int) : Int := a / b
noncomputable def book_aflD_gives : Book := []
theorem book_aflD_gives_ok : BookOk Tryz.prog book_aflD_gives := bookOk_nil
theorem aflD_gives_tree (a b : Int) : evF Tryz.prog [] Cs book_aflD_gives 20 6 195 ([.int .i64 a, .int .i64 b].map AV.v) [] [] last =
  cond (b == 0)
  (none)
  (cond (b == 0)
   (none)
   (cond (decide ((Int.tmod a b) < 0))
    (some (.v (.int .i64 (IntKind.i64.wrap ((IntKind.i64.wrap (Int.tdiv a b)) - 1)))))
    (some (.v (.int .i64 (IntKind.i64.wrap (Int.tdiv a b))))))) := by kernel_rfl
theorem aflD_gives (a b : Int) (hp : aflP a b = true) : Gives Tryz.prog 195 [.int .i64 a, .int .i64 b] (.int .i64 (aflD a b)) := by
  refine evF_gives (E := []) mixed (by simp) Cs_ok book_aflD_gives_ok (lim := 20) (d := 6) (nm := []) ?_
  rw [aflD_gives_tree a b]
  obtain ⟨hb, ha1, ha2⟩ := of_decide_eq_true hp
  have t := tdiv_bd a b 4611686018427387904 ha1 ha2
  have s := tm_sign a b
  have e0 : (b == 0) = false := beq_eq_false_iff_ne.2 (by omega)
  rw [e0, i64w (x := Int.tdiv a b) (by omega), i64w (x := Int.tdiv a b - 1) (by omega)]
  simp only [cond_false]
  unfold aflD
  rw [fl_pos a b hb]
  by_cases h1 : a.tmod b < 0
  · rw [decide_eq_true h1, if_pos (by omega)]; rfl
  · rw [decide_eq_false h1, if_neg (by omega)]; rfl
def timR (a b n d : Int) : Int × Int × Int := if avalidB a b = true then (if -1048576 ≤ n ∧ n ≤ 1048576 ∧ 1 ≤ d ∧ d ≤ 1048576 then resR (mn (a * n) (b * n) / d) (-(-mx (a * n) (b * n) / d)) else (0, 0, 2)) else (0, 0, 1)
noncomputable def book_timR_gives : Book := [(58, eP (fun a b => .bool (avalidB a b))), (144, eII (fun a b => arcV (resR a b))), (195, eIIif aflP (fun a b => .int .i64 (aflD a b)))]
theorem book_timR_gives_ok : BookOk Tryz.prog book_timR_gives := (bookOk_cons (eP_ok (fun a b W _ => gvalid_any a b W)) (bookOk_cons (eII_ok resR_gives) (bookOk_cons (eIIif_ok aflD_gives) bookOk_nil)))
theorem timR_gives_tree (a b c d : Int) : evF Tryz.prog [] Cs book_timR_gives 20 6 140 ([.agg ⟨[.int .i64 a, .int .i64 b]⟩, .int .i64 c, .int .i64 d].map AV.v) [] [] last =
  cond (!(avalidB a b))
  (some (.v (.tuple ⟨[.agg ⟨[.int .i64 0, .int .i64 0]⟩, .int .i64 1]⟩)))
  (cond (decide (c < (-1048576)))
   (some (.v (.tuple ⟨[.agg ⟨[.int .i64 0, .int .i64 0]⟩, .int .i64 2]⟩)))
   (cond (decide (c > 1048576))
    (some (.v (.tuple ⟨[.agg ⟨[.int .i64 0, .int .i64 0]⟩, .int .i64 2]⟩)))
    (cond (decide (d < 1))
     (some (.v (.tuple ⟨[.agg ⟨[.int .i64 0, .int .i64 0]⟩, .int .i64 2]⟩)))
     (cond (decide (d > 1048576))
      (some (.v (.tuple ⟨[.agg ⟨[.int .i64 0, .int .i64 0]⟩, .int .i64 2]⟩)))
      (cond (aflP (mn (IntKind.i64.wrap (a * c)) (IntKind.i64.wrap (b * c))) d)
       (cond (aflP (IntKind.i64.wrap (0 - (mx (IntKind.i64.wrap (a * c)) (IntKind.i64.wrap (b * c))))) d)
        (lt (resR (aflD (mn (IntKind.i64.wrap (a * c)) (IntKind.i64.wrap (b * c))) d) (IntKind.i64.wrap (0 - (aflD (IntKind.i64.wrap (0 - (mx (IntKind.i64.wrap (a * c)) (IntKind.i64.wrap (b * c))))) d)))) fun x1 =>
         some (.v (.tuple ⟨[.agg ⟨[.int .i64 x1.1, .int .i64 x1.2.1]⟩, .int .i64 x1.2.2]⟩)))
        (none))
       (none)))))) := by kernel_rfl
theorem timR_gives (a b c d : Int) : Gives Tryz.prog 140 [.agg ⟨[.int .i64 a, .int .i64 b]⟩, .int .i64 c, .int .i64 d] (arcV (timR a b c d)) := by
  refine evF_gives (E := []) mixed (by simp) Cs_ok book_timR_gives_ok (lim := 20) (d := 6) (nm := []) ?_
  rw [timR_gives_tree a b c d]
  unfold timR
  cases h : avalidB a b
  · rfl
  · have v := aval_bd h
    by_cases c1 : c < -1048576
    · rw [decide_eq_true c1, if_neg (show ¬ (-1048576 ≤ c ∧ c ≤ 1048576 ∧ 1 ≤ d ∧ d ≤ 1048576) by omega)]; rfl
    by_cases c2 : c > 1048576
    · rw [decide_eq_false c1, decide_eq_true c2, if_neg (show ¬ (-1048576 ≤ c ∧ c ≤ 1048576 ∧ 1 ≤ d ∧ d ≤ 1048576) by omega)]; rfl
    by_cases c3 : d < 1
    · rw [decide_eq_false c1, decide_eq_false c2, decide_eq_true c3, if_neg (show ¬ (-1048576 ≤ c ∧ c ≤ 1048576 ∧ 1 ≤ d ∧ d ≤ 1048576) by omega)]; rfl
    by_cases c4 : d > 1048576
    · rw [decide_eq_false c1, decide_eq_false c2, decide_eq_false c3, decide_eq_true c4, if_neg (show ¬ (-1048576 ≤ c ∧ c ≤ 1048576 ∧ 1 ≤ d ∧ d ≤ 1048576) by omega)]; rfl
    have p1 := tmul_bd (x := a) (y := c) (by omega) (by omega) (by omega) (by omega)
    have p2 := tmul_bd (x := b) (y := c) (by omega) (by omega) (by omega) (by omega)
    rw [decide_eq_false c1, decide_eq_false c2, decide_eq_false c3, decide_eq_false c4, if_pos (show -1048576 ≤ c ∧ c ≤ 1048576 ∧ 1 ≤ d ∧ d ≤ 1048576 by omega), i64w (x := a * c) (by omega), i64w (x := b * c) (by omega)]
    have m1 := mn_bd (a * c) (b * c)
    have m2 := mx_bd (a * c) (b * c)
    generalize mn (a * c) (b * c) = M at *
    generalize mx (a * c) (b * c) = N at *
    rw [i64w (x := 0 - N) (by omega), Int.zero_sub]
    have q1 : aflP M d = true := decide_eq_true ⟨by omega, by omega, by omega⟩
    have q2 : aflP (-N) d = true := decide_eq_true ⟨by omega, by omega, by omega⟩
    have t := ediv_bd (x := -N) (d := d) (m := 1152921504606846976) (by omega) (by omega) (by omega)
    rw [q1, q2]
    unfold aflD
    rw [i64w (x := 0 - -N / d) (by omega), Int.zero_sub]
    rfl
noncomputable def book_sqrR_gives : Book := [(152, eP (fun a b => .bool (validB a b))), (184, eII (fun a b => arcV (fitR a b))), (185, eIIif flP (fun a b => .int .i64 (flD a b))), (186, eIIif flP (fun a b => .int .i64 (ceD a b)))]
theorem book_sqrR_gives_ok : BookOk Tryz.prog book_sqrR_gives := (bookOk_cons (eP_ok (fun a b W _ => valid_any a b W)) (bookOk_cons (eII_ok fitR_gives) (bookOk_cons (eIIif_ok flD_gives) (bookOk_cons (eIIif_ok ceD_gives) bookOk_nil))))
theorem sqrR_gives_tree (a b : Int) : evF Tryz.prog [] Cs book_sqrR_gives 20 6 143 ([.agg ⟨[.int .i64 a, .int .i64 b]⟩].map AV.v) [] [] last =
  cond (!(validB a b))
  (some (.v (.tuple ⟨[.agg ⟨[.int .i64 0, .int .i64 0]⟩, .int .i64 1]⟩)))
  (cond (decide (a ≤ 0))
   (cond (decide (b ≥ 0))
    (cond (flP 0 1073741824)
     (cond (flP (mx (IntKind.i64.wrap (a * a)) (IntKind.i64.wrap (b * b))) 1073741824)
      (lt (fitR (flD 0 1073741824) (ceD (mx (IntKind.i64.wrap (a * a)) (IntKind.i64.wrap (b * b))) 1073741824)) fun x1 =>
       some (.v (.tuple ⟨[.agg ⟨[.int .i64 x1.1, .int .i64 x1.2.1]⟩, .int .i64 x1.2.2]⟩)))
      (none))
     (none))
    (cond (flP (mn (IntKind.i64.wrap (a * a)) (IntKind.i64.wrap (b * b))) 1073741824)
     (cond (flP (mx (IntKind.i64.wrap (a * a)) (IntKind.i64.wrap (b * b))) 1073741824)
      (lt (fitR (flD (mn (IntKind.i64.wrap (a * a)) (IntKind.i64.wrap (b * b))) 1073741824) (ceD (mx (IntKind.i64.wrap (a * a)) (IntKind.i64.wrap (b * b))) 1073741824)) fun x2 =>
       some (.v (.tuple ⟨[.agg ⟨[.int .i64 x2.1, .int .i64 x2.2.1]⟩, .int .i64 x2.2.2]⟩)))
      (none))
     (none)))
   (cond (flP (mn (IntKind.i64.wrap (a * a)) (IntKind.i64.wrap (b * b))) 1073741824)
    (cond (flP (mx (IntKind.i64.wrap (a * a)) (IntKind.i64.wrap (b * b))) 1073741824)
     (lt (fitR (flD (mn (IntKind.i64.wrap (a * a)) (IntKind.i64.wrap (b * b))) 1073741824) (ceD (mx (IntKind.i64.wrap (a * a)) (IntKind.i64.wrap (b * b))) 1073741824)) fun x3 =>
      some (.v (.tuple ⟨[.agg ⟨[.int .i64 x3.1, .int .i64 x3.2.1]⟩, .int .i64 x3.2.2]⟩)))
     (none))
    (none))) := by kernel_rfl
theorem sqrR_gives (a b : Int) : Gives Tryz.prog 143 [.agg ⟨[.int .i64 a, .int .i64 b]⟩] (arcV (sqrR a b)) := by
  refine evF_gives (E := []) mixed (by simp) Cs_ok book_sqrR_gives_ok (lim := 20) (d := 6) (nm := []) ?_
  rw [sqrR_gives_tree a b]
  unfold sqrR
  cases h : validB a b
  · rfl
  · have v := val_bd h
    have p := abs_sq (x := a) (m := 2147483648) (by omega) (by omega)
    have q := abs_sq (x := b) (m := 2147483648) (by omega) (by omega)
    rw [i64w (x := a * a) (by omega), i64w (x := b * b) (by omega)]
    have e1 : mn (a * a) (b * b) = min (a * a) (b * b) := by unfold mn; split <;> omega
    have e2 : mx (a * a) (b * b) = max (a * a) (b * b) := by unfold mx; split <;> omega
    rw [e1, e2]
    have fH : flP (max (a * a) (b * b)) 1073741824 = true := decide_eq_true ⟨by omega, by omega, by omega⟩
    have fL : flP (min (a * a) (b * b)) 1073741824 = true := decide_eq_true ⟨by omega, by omega, by omega⟩
    have f0 : flP 0 1073741824 = true := by decide
    rw [fH, fL, f0]
    unfold sqrL sqrH
    by_cases c : a ≤ 0 ∧ 0 ≤ b
    · rw [if_pos c, decide_eq_true c.1, decide_eq_true (show b ≥ 0 from c.2)]; rfl
    · rw [if_neg c]
      by_cases c1 : a ≤ 0
      · rw [decide_eq_true c1, decide_eq_false (show ¬ b ≥ 0 by omega)]; rfl
      · rw [decide_eq_false c1]; rfl
noncomputable def book_sqtR_gives : Book := [(152, eP (fun a b => .bool (validB a b))), (184, eII (fun a b => arcV (fitR a b))), (196, eIif rootF (fun a => .int .i64 (irt a)))]
theorem book_sqtR_gives_ok : BookOk Tryz.prog book_sqtR_gives := (bookOk_cons (eP_ok (fun a b W _ => valid_any a b W)) (bookOk_cons (eII_ok fitR_gives) (bookOk_cons (eIif_ok froot_gives) bookOk_nil)))
theorem sqtR_gives_tree (a b : Int) : evF Tryz.prog [] Cs book_sqtR_gives 20 6 142 ([.agg ⟨[.int .i64 a, .int .i64 b]⟩].map AV.v) [] [] last =
  cond (!(validB a b))
  (some (.v (.tuple ⟨[.agg ⟨[.int .i64 0, .int .i64 0]⟩, .int .i64 1]⟩)))
  (cond (decide (b < 0))
   (some (.v (.tuple ⟨[.agg ⟨[.int .i64 0, .int .i64 0]⟩, .int .i64 2]⟩)))
   (cond (rootF (IntKind.i64.wrap (b * 1073741824)))
    (cond (decide (IntKind.i64.wrap ((irt (IntKind.i64.wrap (b * 1073741824))) * (irt (IntKind.i64.wrap (b * 1073741824)))) < IntKind.i64.wrap (b * 1073741824)))
     (cond (rootF (IntKind.i64.wrap ((mx 0 a) * 1073741824)))
      (lt (fitR (irt (IntKind.i64.wrap ((mx 0 a) * 1073741824))) (IntKind.i64.wrap ((irt (IntKind.i64.wrap (b * 1073741824))) + 1))) fun x1 =>
       some (.v (.tuple ⟨[.agg ⟨[.int .i64 x1.1, .int .i64 x1.2.1]⟩, .int .i64 x1.2.2]⟩)))
      (none))
     (cond (rootF (IntKind.i64.wrap ((mx 0 a) * 1073741824)))
      (lt (fitR (irt (IntKind.i64.wrap ((mx 0 a) * 1073741824))) (irt (IntKind.i64.wrap (b * 1073741824)))) fun x2 =>
       some (.v (.tuple ⟨[.agg ⟨[.int .i64 x2.1, .int .i64 x2.2.1]⟩, .int .i64 x2.2.2]⟩)))
      (none)))
    (none))) := by kernel_rfl
theorem sqtR_gives (a b : Int) : Gives Tryz.prog 142 [.agg ⟨[.int .i64 a, .int .i64 b]⟩] (arcV (sqtR a b)) := by
  refine evF_gives (E := []) mixed (by simp) Cs_ok book_sqtR_gives_ok (lim := 20) (d := 6) (nm := []) ?_
  rw [sqtR_gives_tree a b]
  unfold sqtR
  cases h : validB a b
  · rfl
  · have v := val_bd h
    by_cases c : b < 0
    · rw [decide_eq_true c, if_pos c]; rfl
    · have m : mx 0 a = max 0 a := by unfold mx; split <;> omega
      rw [decide_eq_false c, if_neg c, m, i64w (x := b * 1073741824) (by omega), i64w (x := max 0 a * 1073741824) (by omega)]
      have q1 : rootF (b * 1073741824) = true := decide_eq_true ⟨by omega, by omega⟩
      have q2 : rootF (max 0 a * 1073741824) = true := decide_eq_true ⟨by omega, by omega⟩
      have r := irt_ok (n := b * 1073741824) (by omega) (by omega)
      have s := lt_sq (x := irt (b * 1073741824)) (y := 2147483648) r.1 (by omega) (by omega)
      have z := Int.mul_nonneg r.1 r.1
      rw [q1, q2, i64w (x := irt (b * 1073741824) * irt (b * 1073741824)) (by omega), i64w (x := irt (b * 1073741824) + 1) (by omega)]
      unfold iru
      by_cases k : irt (b * 1073741824) * irt (b * 1073741824) < b * 1073741824
      · rw [decide_eq_true k, if_pos k]; rfl
      · rw [decide_eq_false k, if_neg k]; rfl
end Go.Proofs.YtmididlfnajhiaaGreatDoor
namespace Go.Proofs.YtmididlfnajhiaaGreatDoor
open Ev

def wfixV (a b _e : Int) : Int × Int := (a, b)
def wfixC (k _a _b e : Int) : Int := keepE k e
noncomputable def book_wfixV_mods : Book := []
theorem book_wfixV_mods_ok : BookOk Tryz.prog book_wfixV_mods := bookOk_nil
theorem wfixV_mods_tree (k a b c : Int) : evF Tryz.prog [] Cs book_wfixV_mods 20 6 141 (.p [] 0 :: [.agg ⟨[.int .i64 a, .int .i64 b]⟩, .int .i64 c].map AV.v) [([], ⟨[.v (.int .i64 k)], 96⟩)] [] lastC =
  cond (k == 0)
  (some (.v (.agg ⟨[.int .i64 a, .int .i64 b]⟩), ⟨[.v (.int .i64 c)], 96⟩))
  (some (.v (.agg ⟨[.int .i64 a, .int .i64 b]⟩), ⟨[.v (.int .i64 k)], 96⟩)) := by kernel_rfl
theorem wfixV_mods (k a b c : Int) : Mods Tryz.prog 141 96 k [.agg ⟨[.int .i64 a, .int .i64 b]⟩, .int .i64 c] (pairV (wfixV a b c).1 (wfixV a b c).2) (wfixC k a b c) := by
  refine evF_mods (E := []) mixed (by simp) Cs_ok book_wfixV_mods_ok (lim := 20) (d := 6) (nm := []) ?_
  rw [wfixV_mods_tree k a b c]
  unfold wfixC keepE
  by_cases h : k = 0
  · simp [h]; rfl
  · have e : (k == 0) = false := beq_eq_false_iff_ne.2 h
    rw [e]
    simp [h]; rfl
def warW (a b _e : Int) : Int × Int := (a, b)
def warC (k _a _b e : Int) : Int := keepE k e
noncomputable def book_warW_mods : Book := []
theorem book_warW_mods_ok : BookOk Tryz.prog book_warW_mods := bookOk_nil
theorem warW_mods_tree (k a b c : Int) : evF Tryz.prog [] Cs book_warW_mods 20 6 77 (.p [] 0 :: [.agg ⟨[.int .i64 a, .int .i64 b]⟩, .int .i64 c].map AV.v) [([], ⟨[.v (.int .i64 k)], 96⟩)] [] lastC =
  cond (k == 0)
  (some (.v (.agg ⟨[.int .i64 a, .int .i64 b]⟩), ⟨[.v (.int .i64 c)], 96⟩))
  (some (.v (.agg ⟨[.int .i64 a, .int .i64 b]⟩), ⟨[.v (.int .i64 k)], 96⟩)) := by kernel_rfl
theorem warW_mods (k a b c : Int) : Mods Tryz.prog 77 96 k [.agg ⟨[.int .i64 a, .int .i64 b]⟩, .int .i64 c] (pairV (warW a b c).1 (warW a b c).2) (warC k a b c) := by
  refine evF_mods (E := []) mixed (by simp) Cs_ok book_warW_mods_ok (lim := 20) (d := 6) (nm := []) ?_
  rw [warW_mods_tree k a b c]
  unfold warC keepE
  by_cases h : k = 0
  · simp [h]; rfl
  · have e : (k == 0) = false := beq_eq_false_iff_ne.2 h
    rw [e]
    simp [h]; rfl
noncomputable def wsinV (a b : Int) : Int × Int := ((sinR a b).1, (sinR a b).2.1)
noncomputable def wsinC (k a b : Int) : Int := keepE k (sinR a b).2.2
noncomputable def book_wsinV_mods : Book := [(139, eP (fun a b => arcV (sinR a b))), (141, cPI 96 (fun a b c => pairV (wfixV a b c).1 (wfixV a b c).2) wfixC)]
theorem book_wsinV_mods_ok : BookOk Tryz.prog book_wsinV_mods := (bookOk_cons (eP_ok (fun a b W _ => sin_r a b W)) (bookOk_cons (cPI_ok wfixV_mods) bookOk_nil))
theorem wsinV_mods_tree (k a b : Int) : evF Tryz.prog [] Cs book_wsinV_mods 20 6 79 (.p [] 0 :: [.agg ⟨[.int .i64 a, .int .i64 b]⟩].map AV.v) [([], ⟨[.v (.int .i64 k)], 96⟩)] [] lastC =
  lt (sinR a b) fun x1 =>
  lt (wfixV x1.1 x1.2.1 x1.2.2) fun x3 =>
  lt (wfixC k x1.1 x1.2.1 x1.2.2) fun x2 =>
  some (.v (.agg ⟨[.int .i64 x3.1, .int .i64 x3.2]⟩), ⟨[.v (.int .i64 x2)], 96⟩) := by kernel_rfl
theorem wsinV_mods (k a b : Int) : Mods Tryz.prog 79 96 k [.agg ⟨[.int .i64 a, .int .i64 b]⟩] (pairV (wsinV a b).1 (wsinV a b).2) (wsinC k a b) := by
  refine evF_mods (E := []) mixed (by simp) Cs_ok book_wsinV_mods_ok (lim := 20) (d := 6) (nm := []) ?_
  rw [wsinV_mods_tree k a b]
  rfl
noncomputable def wcosV (a b : Int) : Int × Int := ((cosR a b).1, (cosR a b).2.1)
noncomputable def wcosC (k a b : Int) : Int := keepE k (cosR a b).2.2
noncomputable def book_wcosV_mods : Book := [(135, eP (fun a b => arcV (cosR a b))), (141, cPI 96 (fun a b c => pairV (wfixV a b c).1 (wfixV a b c).2) wfixC)]
theorem book_wcosV_mods_ok : BookOk Tryz.prog book_wcosV_mods := (bookOk_cons (eP_ok (fun a b W _ => cos_r a b W)) (bookOk_cons (cPI_ok wfixV_mods) bookOk_nil))
theorem wcosV_mods_tree (k a b : Int) : evF Tryz.prog [] Cs book_wcosV_mods 20 6 80 (.p [] 0 :: [.agg ⟨[.int .i64 a, .int .i64 b]⟩].map AV.v) [([], ⟨[.v (.int .i64 k)], 96⟩)] [] lastC =
  lt (cosR a b) fun x1 =>
  lt (wfixV x1.1 x1.2.1 x1.2.2) fun x3 =>
  lt (wfixC k x1.1 x1.2.1 x1.2.2) fun x2 =>
  some (.v (.agg ⟨[.int .i64 x3.1, .int .i64 x3.2]⟩), ⟨[.v (.int .i64 x2)], 96⟩) := by kernel_rfl
theorem wcosV_mods (k a b : Int) : Mods Tryz.prog 80 96 k [.agg ⟨[.int .i64 a, .int .i64 b]⟩] (pairV (wcosV a b).1 (wcosV a b).2) (wcosC k a b) := by
  refine evF_mods (E := []) mixed (by simp) Cs_ok book_wcosV_mods_ok (lim := 20) (d := 6) (nm := []) ?_
  rw [wcosV_mods_tree k a b]
  rfl
noncomputable def wmulV (a b c d : Int) : Int × Int := ((mulR a b c d).1, (mulR a b c d).2.1)
noncomputable def wmulC (k a b c d : Int) : Int := keepE k (mulR a b c d).2.2
noncomputable def book_wmulV_mods : Book := [(127, ePP (fun a b c d => arcV (mulR a b c d))), (141, cPI 96 (fun a b c => pairV (wfixV a b c).1 (wfixV a b c).2) wfixC)]
theorem book_wmulV_mods_ok : BookOk Tryz.prog book_wmulV_mods := (bookOk_cons (ePP_ok mulR_gives) (bookOk_cons (cPI_ok wfixV_mods) bookOk_nil))
theorem wmulV_mods_tree (k a b c d : Int) : evF Tryz.prog [] Cs book_wmulV_mods 20 6 81 (.p [] 0 :: [.agg ⟨[.int .i64 a, .int .i64 b]⟩, .agg ⟨[.int .i64 c, .int .i64 d]⟩].map AV.v) [([], ⟨[.v (.int .i64 k)], 96⟩)] [] lastC =
  lt (mulR a b c d) fun x1 =>
  lt (wfixV x1.1 x1.2.1 x1.2.2) fun x3 =>
  lt (wfixC k x1.1 x1.2.1 x1.2.2) fun x2 =>
  some (.v (.agg ⟨[.int .i64 x3.1, .int .i64 x3.2]⟩), ⟨[.v (.int .i64 x2)], 96⟩) := by kernel_rfl
theorem wmulV_mods (k a b c d : Int) : Mods Tryz.prog 81 96 k [.agg ⟨[.int .i64 a, .int .i64 b]⟩, .agg ⟨[.int .i64 c, .int .i64 d]⟩] (pairV (wmulV a b c d).1 (wmulV a b c d).2) (wmulC k a b c d) := by
  refine evF_mods (E := []) mixed (by simp) Cs_ok book_wmulV_mods_ok (lim := 20) (d := 6) (nm := []) ?_
  rw [wmulV_mods_tree k a b c d]
  rfl
noncomputable def wplusV (a b c d : Int) : Int × Int := ((aaddR a b c d).1, (aaddR a b c d).2.1)
noncomputable def wplusC (k a b c d : Int) : Int := keepE k (aaddR a b c d).2.2
noncomputable def book_wplusV_mods : Book := [(77, cPI 96 (fun a b c => pairV (warW a b c).1 (warW a b c).2) warC), (125, ePP (fun a b c d => arcV (aaddR a b c d)))]
theorem book_wplusV_mods_ok : BookOk Tryz.prog book_wplusV_mods := (bookOk_cons (cPI_ok warW_mods) (bookOk_cons (ePP_ok aaddR_gives) bookOk_nil))
theorem wplusV_mods_tree (k a b c d : Int) : evF Tryz.prog [] Cs book_wplusV_mods 20 6 76 (.p [] 0 :: [.agg ⟨[.int .i64 a, .int .i64 b]⟩, .agg ⟨[.int .i64 c, .int .i64 d]⟩].map AV.v) [([], ⟨[.v (.int .i64 k)], 96⟩)] [] lastC =
  lt (aaddR a b c d) fun x1 =>
  lt (warW x1.1 x1.2.1 x1.2.2) fun x3 =>
  lt (warC k x1.1 x1.2.1 x1.2.2) fun x2 =>
  some (.v (.agg ⟨[.int .i64 x3.1, .int .i64 x3.2]⟩), ⟨[.v (.int .i64 x2)], 96⟩) := by kernel_rfl
theorem wplusV_mods (k a b c d : Int) : Mods Tryz.prog 76 96 k [.agg ⟨[.int .i64 a, .int .i64 b]⟩, .agg ⟨[.int .i64 c, .int .i64 d]⟩] (pairV (wplusV a b c d).1 (wplusV a b c d).2) (wplusC k a b c d) := by
  refine evF_mods (E := []) mixed (by simp) Cs_ok book_wplusV_mods_ok (lim := 20) (d := 6) (nm := []) ?_
  rw [wplusV_mods_tree k a b c d]
  rfl
noncomputable def wminV (a b c d : Int) : Int × Int := ((asubR a b c d).1, (asubR a b c d).2.1)
noncomputable def wminC (k a b c d : Int) : Int := keepE k (asubR a b c d).2.2
noncomputable def book_wminV_mods : Book := [(61, ePP (fun a b c d => arcV (asubR a b c d))), (77, cPI 96 (fun a b c => pairV (warW a b c).1 (warW a b c).2) warC)]
theorem book_wminV_mods_ok : BookOk Tryz.prog book_wminV_mods := (bookOk_cons (ePP_ok asubR_gives) (bookOk_cons (cPI_ok warW_mods) bookOk_nil))
theorem wminV_mods_tree (k a b c d : Int) : evF Tryz.prog [] Cs book_wminV_mods 20 6 74 (.p [] 0 :: [.agg ⟨[.int .i64 a, .int .i64 b]⟩, .agg ⟨[.int .i64 c, .int .i64 d]⟩].map AV.v) [([], ⟨[.v (.int .i64 k)], 96⟩)] [] lastC =
  lt (asubR a b c d) fun x1 =>
  lt (warW x1.1 x1.2.1 x1.2.2) fun x3 =>
  lt (warC k x1.1 x1.2.1 x1.2.2) fun x2 =>
  some (.v (.agg ⟨[.int .i64 x3.1, .int .i64 x3.2]⟩), ⟨[.v (.int .i64 x2)], 96⟩) := by kernel_rfl
theorem wminV_mods (k a b c d : Int) : Mods Tryz.prog 74 96 k [.agg ⟨[.int .i64 a, .int .i64 b]⟩, .agg ⟨[.int .i64 c, .int .i64 d]⟩] (pairV (wminV a b c d).1 (wminV a b c d).2) (wminC k a b c d) := by
  refine evF_mods (E := []) mixed (by simp) Cs_ok book_wminV_mods_ok (lim := 20) (d := 6) (nm := []) ?_
  rw [wminV_mods_tree k a b c d]
  rfl
noncomputable def wpartV (a b c d : Int) : Int × Int := ((timR a b c d).1, (timR a b c d).2.1)
noncomputable def wpartC (k a b c d : Int) : Int := keepE k (timR a b c d).2.2
noncomputable def book_wpartV_mods : Book := [(77, cPI 96 (fun a b c => pairV (warW a b c).1 (warW a b c).2) warC), (140, ePII (fun a b c d => arcV (timR a b c d)))]
theorem book_wpartV_mods_ok : BookOk Tryz.prog book_wpartV_mods := (bookOk_cons (cPI_ok warW_mods) (bookOk_cons (ePII_ok timR_gives) bookOk_nil))
theorem wpartV_mods_tree (k a b c d : Int) : evF Tryz.prog [] Cs book_wpartV_mods 20 6 75 (.p [] 0 :: [.agg ⟨[.int .i64 a, .int .i64 b]⟩, .int .i64 c, .int .i64 d].map AV.v) [([], ⟨[.v (.int .i64 k)], 96⟩)] [] lastC =
  lt (timR a b c d) fun x1 =>
  lt (warW x1.1 x1.2.1 x1.2.2) fun x3 =>
  lt (warC k x1.1 x1.2.1 x1.2.2) fun x2 =>
  some (.v (.agg ⟨[.int .i64 x3.1, .int .i64 x3.2]⟩), ⟨[.v (.int .i64 x2)], 96⟩) := by kernel_rfl
theorem wpartV_mods (k a b c d : Int) : Mods Tryz.prog 75 96 k [.agg ⟨[.int .i64 a, .int .i64 b]⟩, .int .i64 c, .int .i64 d] (pairV (wpartV a b c d).1 (wpartV a b c d).2) (wpartC k a b c d) := by
  refine evF_mods (E := []) mixed (by simp) Cs_ok book_wpartV_mods_ok (lim := 20) (d := 6) (nm := []) ?_
  rw [wpartV_mods_tree k a b c d]
  rfl
noncomputable def wbeaV (a b c d : Int) : Int × Int := ((bearR a b c d).1, (bearR a b c d).2.1)
noncomputable def wbeaC (k a b c d : Int) : Int := keepE k (bearR a b c d).2.2
noncomputable def book_wbeaV_mods : Book := [(77, cPI 96 (fun a b c => pairV (warW a b c).1 (warW a b c).2) warC), (90, ePP (fun a b c d => arcV (bearR a b c d)))]
theorem book_wbeaV_mods_ok : BookOk Tryz.prog book_wbeaV_mods := (bookOk_cons (cPI_ok warW_mods) (bookOk_cons (ePP_ok (fun a b c d W _ => bear_any a b c d W)) bookOk_nil))
theorem wbeaV_mods_tree (k a b c d : Int) : evF Tryz.prog [] Cs book_wbeaV_mods 20 6 82 (.p [] 0 :: [.agg ⟨[.int .i64 a, .int .i64 b]⟩, .agg ⟨[.int .i64 c, .int .i64 d]⟩].map AV.v) [([], ⟨[.v (.int .i64 k)], 96⟩)] [] lastC =
  lt (bearR a b c d) fun x1 =>
  lt (warW x1.1 x1.2.1 x1.2.2) fun x3 =>
  lt (warC k x1.1 x1.2.1 x1.2.2) fun x2 =>
  some (.v (.agg ⟨[.int .i64 x3.1, .int .i64 x3.2]⟩), ⟨[.v (.int .i64 x2)], 96⟩) := by kernel_rfl
theorem wbeaV_mods (k a b c d : Int) : Mods Tryz.prog 82 96 k [.agg ⟨[.int .i64 a, .int .i64 b]⟩, .agg ⟨[.int .i64 c, .int .i64 d]⟩] (pairV (wbeaV a b c d).1 (wbeaV a b c d).2) (wbeaC k a b c d) := by
  refine evF_mods (E := []) mixed (by simp) Cs_ok book_wbeaV_mods_ok (lim := 20) (d := 6) (nm := []) ?_
  rw [wbeaV_mods_tree k a b c d]
  rfl
noncomputable def whypV (a b c d : Int) : Int × Int := ((sqtR (addR (sqrR a b).1 (sqrR a b).2.1 (sqrR c d).1 (sqrR c d).2.1).1 (addR (sqrR a b).1 (sqrR a b).2.1 (sqrR c d).1 (sqrR c d).2.1).2.1).1, (sqtR (addR (sqrR a b).1 (sqrR a b).2.1 (sqrR c d).1 (sqrR c d).2.1).1 (addR (sqrR a b).1 (sqrR a b).2.1 (sqrR c d).1 (sqrR c d).2.1).2.1).2.1)
noncomputable def whypC (k a b c d : Int) : Int := keepE (keepE (keepE (keepE k (sqrR a b).2.2) (sqrR c d).2.2) (addR (sqrR a b).1 (sqrR a b).2.1 (sqrR c d).1 (sqrR c d).2.1).2.2) (sqtR (addR (sqrR a b).1 (sqrR a b).2.1 (sqrR c d).1 (sqrR c d).2.1).1 (addR (sqrR a b).1 (sqrR a b).2.1 (sqrR c d).1 (sqrR c d).2.1).2.1).2.2
noncomputable def book_whypV_mods : Book := [(132, ePP (fun a b c d => arcV (addR a b c d))), (141, cPI 96 (fun a b c => pairV (wfixV a b c).1 (wfixV a b c).2) wfixC), (142, eP (fun a b => arcV (sqtR a b))), (143, eP (fun a b => arcV (sqrR a b)))]
theorem book_whypV_mods_ok : BookOk Tryz.prog book_whypV_mods := (bookOk_cons (ePP_ok addR_gives) (bookOk_cons (cPI_ok wfixV_mods) (bookOk_cons (eP_ok sqtR_gives) (bookOk_cons (eP_ok sqrR_gives) bookOk_nil))))
theorem whypV_mods_tree (k a b c d : Int) : evF Tryz.prog [] Cs book_whypV_mods 20 6 83 (.p [] 0 :: [.agg ⟨[.int .i64 a, .int .i64 b]⟩, .agg ⟨[.int .i64 c, .int .i64 d]⟩].map AV.v) [([], ⟨[.v (.int .i64 k)], 96⟩)] [] lastC =
  lt (sqrR a b) fun x1 =>
  lt (wfixV x1.1 x1.2.1 x1.2.2) fun x3 =>
  lt (wfixC k x1.1 x1.2.1 x1.2.2) fun x2 =>
  lt (sqrR c d) fun x4 =>
  lt (wfixV x4.1 x4.2.1 x4.2.2) fun x6 =>
  lt (wfixC x2 x4.1 x4.2.1 x4.2.2) fun x5 =>
  lt (addR x3.1 x3.2 x6.1 x6.2) fun x7 =>
  lt (wfixV x7.1 x7.2.1 x7.2.2) fun x9 =>
  lt (wfixC x5 x7.1 x7.2.1 x7.2.2) fun x8 =>
  lt (sqtR x9.1 x9.2) fun x10 =>
  lt (wfixV x10.1 x10.2.1 x10.2.2) fun x12 =>
  lt (wfixC x8 x10.1 x10.2.1 x10.2.2) fun x11 =>
  some (.v (.agg ⟨[.int .i64 x12.1, .int .i64 x12.2]⟩), ⟨[.v (.int .i64 x11)], 96⟩) := by kernel_rfl
theorem whypV_mods (k a b c d : Int) : Mods Tryz.prog 83 96 k [.agg ⟨[.int .i64 a, .int .i64 b]⟩, .agg ⟨[.int .i64 c, .int .i64 d]⟩] (pairV (whypV a b c d).1 (whypV a b c d).2) (whypC k a b c d) := by
  refine evF_mods (E := []) mixed (by simp) Cs_ok book_whypV_mods_ok (lim := 20) (d := 6) (nm := []) ?_
  rw [whypV_mods_tree k a b c d]
  rfl
noncomputable def wallM (a b : Int) : Bool :=
  (decide (IntKind.i64.wrap (b - a) ≥ 21600000))
noncomputable def book_wallM_gives : Book := []
theorem book_wallM_gives_ok : BookOk Tryz.prog book_wallM_gives := bookOk_nil
theorem wallM_gives_tree (a b : Int) : evF Tryz.prog [] Cs book_wallM_gives 20 6 84 ([.agg ⟨[.int .i64 a, .int .i64 b]⟩].map AV.v) [] [] last =
  some (.v (.bool (decide (IntKind.i64.wrap (b - a) ≥ 21600000)))) := by kernel_rfl
theorem wallM_gives (a b : Int) : Gives Tryz.prog 84 [.agg ⟨[.int .i64 a, .int .i64 b]⟩] (.bool (wallM a b)) := by
  refine evF_gives (E := []) mixed (by simp) Cs_ok book_wallM_gives_ok (lim := 20) (d := 6) (nm := []) ?_
  rw [wallM_gives_tree a b]
  rfl
noncomputable def hslM (a b c d e f : Int) : Int × Int × Int × Int × Int :=
  cond (!(triB a b c d e f))
  ((0, 0, 0, 0, 1))
  (lt (wminV 5400000 5400000 c d) fun x2 =>
   lt (wminC 0 5400000 5400000 c d) fun x1 =>
   lt (wminV 5400000 5400000 a b) fun x4 =>
   lt (wminC x1 5400000 5400000 a b) fun x3 =>
   lt (wplusV x2.1 x2.2 x4.1 x4.2) fun x6 =>
   lt (wplusC x3 x2.1 x2.2 x4.1 x4.2) fun x5 =>
   lt (wpartV x6.1 x6.2 1 2) fun x8 =>
   lt (wpartC x5 x6.1 x6.2 1 2) fun x7 =>
   lt (wminV x2.1 x2.2 x4.1 x4.2) fun x10 =>
   lt (wminC x7 x2.1 x2.2 x4.1 x4.2) fun x9 =>
   lt (wpartV x10.1 x10.2 1 2) fun x12 =>
   lt (wpartC x9 x10.1 x10.2 1 2) fun x11 =>
   lt (turnR e f) fun x13 =>
   lt (warW x13.1 x13.2.1 x13.2.2) fun x15 =>
   lt (warC x11 x13.1 x13.2.1 x13.2.2) fun x14 =>
   lt (wpartV x15.1 x15.2 1 2) fun x17 =>
   lt (wpartC x14 x15.1 x15.2 1 2) fun x16 =>
   lt (wcosV x8.1 x8.2) fun x19 =>
   lt (wcosC x16 x8.1 x8.2) fun x18 =>
   lt (wsinV x17.1 x17.2) fun x21 =>
   lt (wsinC x18 x17.1 x17.2) fun x20 =>
   lt (wmulV x19.1 x19.2 x21.1 x21.2) fun x23 =>
   lt (wmulC x20 x19.1 x19.2 x21.1 x21.2) fun x22 =>
   lt (wcosV x12.1 x12.2) fun x25 =>
   lt (wcosC x22 x12.1 x12.2) fun x24 =>
   lt (wcosV x17.1 x17.2) fun x27 =>
   lt (wcosC x24 x17.1 x17.2) fun x26 =>
   lt (wmulV x25.1 x25.2 x27.1 x27.2) fun x29 =>
   lt (wmulC x26 x25.1 x25.2 x27.1 x27.2) fun x28 =>
   lt (wsinV x8.1 x8.2) fun x31 =>
   lt (wsinC x28 x8.1 x8.2) fun x30 =>
   lt (wsinV x17.1 x17.2) fun x33 =>
   lt (wsinC x30 x17.1 x17.2) fun x32 =>
   lt (wmulV x31.1 x31.2 x33.1 x33.2) fun x35 =>
   lt (wmulC x32 x31.1 x31.2 x33.1 x33.2) fun x34 =>
   lt (wsinV x12.1 x12.2) fun x37 =>
   lt (wsinC x34 x12.1 x12.2) fun x36 =>
   lt (wcosV x17.1 x17.2) fun x39 =>
   lt (wcosC x36 x17.1 x17.2) fun x38 =>
   lt (wmulV x37.1 x37.2 x39.1 x39.2) fun x41 =>
   lt (wmulC x38 x37.1 x37.2 x39.1 x39.2) fun x40 =>
   lt (whypV x35.1 x35.2 x41.1 x41.2) fun x43 =>
   lt (whypC x40 x35.1 x35.2 x41.1 x41.2) fun x42 =>
   lt (whypV x23.1 x23.2 x29.1 x29.2) fun x45 =>
   lt (whypC x42 x23.1 x23.2 x29.1 x29.2) fun x44 =>
   lt (wbeaV x43.1 x43.2 x45.1 x45.2) fun x47 =>
   lt (wbeaC x44 x43.1 x43.2 x45.1 x45.2) fun x46 =>
   cond (x46 != 0)
   ((0, 0, 0, 0, x46))
   (cond (wallM x47.1 x47.2)
    ((0, 0, 0, 0, 24))
    (lt (wpartV x47.1 x47.2 2 1) fun x49 =>
     lt (wpartC x46 x47.1 x47.2 2 1) fun x48 =>
     lt (wminV 5400000 5400000 x49.1 x49.2) fun x51 =>
     lt (wminC x48 5400000 5400000 x49.1 x49.2) fun x50 =>
     lt (wbeaV x29.1 x29.2 x23.1 x23.2) fun x53 =>
     lt (wbeaC x50 x29.1 x29.2 x23.1 x23.2) fun x52 =>
     lt (wbeaV x41.1 x41.2 x35.1 x35.2) fun x55 =>
     lt (wbeaC x52 x41.1 x41.2 x35.1 x35.2) fun x54 =>
     cond (!(wallM x53.1 x53.2))
     (cond (!(wallM x55.1 x55.2))
      (lt (wplusV x53.1 x53.2 x55.1 x55.2) fun x57 =>
       lt (wplusC x54 x53.1 x53.2 x55.1 x55.2) fun x56 =>
       lt (anegR x57.1 x57.2) fun x58 =>
       lt (warW x58.1 x58.2.1 x58.2.2) fun x60 =>
       lt (warC x56 x58.1 x58.2.1 x58.2.2) fun x59 =>
       lt (turnR x60.1 x60.2) fun x61 =>
       lt (warW x61.1 x61.2.1 x61.2.2) fun x63 =>
       lt (warC x59 x61.1 x61.2.1 x61.2.2) fun x62 =>
       cond (x62 != 0)
       ((0, 0, 0, 0, x62))
       ((x51.1, x51.2, x63.1, x63.2, 0)))
      (cond (x54 != 0)
       ((0, 0, 0, 0, x54))
       ((x51.1, x51.2, 0, 21600000, 0))))
     (cond (x54 != 0)
      ((0, 0, 0, 0, x54))
      ((x51.1, x51.2, 0, 21600000, 0))))))
noncomputable def book_hslM_gives : Book := [(48, eT (fun a b c d e f => .bool (triB a b c d e f))), (74, cPP 96 (fun a b c d => pairV (wminV a b c d).1 (wminV a b c d).2) wminC), (75, cPII 96 (fun a b c d => pairV (wpartV a b c d).1 (wpartV a b c d).2) wpartC), (76, cPP 96 (fun a b c d => pairV (wplusV a b c d).1 (wplusV a b c d).2) wplusC), (77, cPI 96 (fun a b c => pairV (warW a b c).1 (warW a b c).2) warC), (78, eP (fun a b => arcV (turnR a b))), (79, cP 96 (fun a b => pairV (wsinV a b).1 (wsinV a b).2) wsinC), (80, cP 96 (fun a b => pairV (wcosV a b).1 (wcosV a b).2) wcosC), (81, cPP 96 (fun a b c d => pairV (wmulV a b c d).1 (wmulV a b c d).2) wmulC), (82, cPP 96 (fun a b c d => pairV (wbeaV a b c d).1 (wbeaV a b c d).2) wbeaC), (83, cPP 96 (fun a b c d => pairV (whypV a b c d).1 (whypV a b c d).2) whypC), (84, eP (fun a b => .bool (wallM a b))), (85, eP (fun a b => arcV (anegR a b)))]
theorem book_hslM_gives_ok : BookOk Tryz.prog book_hslM_gives := (bookOk_cons (eT_ok triB_gives) (bookOk_cons (cPP_ok wminV_mods) (bookOk_cons (cPII_ok wpartV_mods) (bookOk_cons (cPP_ok wplusV_mods) (bookOk_cons (cPI_ok warW_mods) (bookOk_cons (eP_ok turnR_gives) (bookOk_cons (cP_ok wsinV_mods) (bookOk_cons (cP_ok wcosV_mods) (bookOk_cons (cPP_ok wmulV_mods) (bookOk_cons (cPP_ok wbeaV_mods) (bookOk_cons (cPP_ok whypV_mods) (bookOk_cons (eP_ok wallM_gives) (bookOk_cons (eP_ok anegR_gives) bookOk_nil)))))))))))))
theorem hslM_gives_tree (a b c d e f : Int) : evF Tryz.prog [] Cs book_hslM_gives 20 6 40 ([.agg ⟨[.int .i64 a, .int .i64 b, .int .i64 c, .int .i64 d, .int .i64 e, .int .i64 f]⟩].map AV.v) [] [] last =
  cond (!(triB a b c d e f))
  (some (.v (.tuple ⟨[.agg ⟨[.int .i64 0, .int .i64 0, .int .i64 0, .int .i64 0]⟩, .int .i64 1]⟩)))
  (lt (wminV 5400000 5400000 c d) fun x2 =>
   lt (wminC 0 5400000 5400000 c d) fun x1 =>
   lt (wminV 5400000 5400000 a b) fun x4 =>
   lt (wminC x1 5400000 5400000 a b) fun x3 =>
   lt (wplusV x2.1 x2.2 x4.1 x4.2) fun x6 =>
   lt (wplusC x3 x2.1 x2.2 x4.1 x4.2) fun x5 =>
   lt (wpartV x6.1 x6.2 1 2) fun x8 =>
   lt (wpartC x5 x6.1 x6.2 1 2) fun x7 =>
   lt (wminV x2.1 x2.2 x4.1 x4.2) fun x10 =>
   lt (wminC x7 x2.1 x2.2 x4.1 x4.2) fun x9 =>
   lt (wpartV x10.1 x10.2 1 2) fun x12 =>
   lt (wpartC x9 x10.1 x10.2 1 2) fun x11 =>
   lt (turnR e f) fun x13 =>
   lt (warW x13.1 x13.2.1 x13.2.2) fun x15 =>
   lt (warC x11 x13.1 x13.2.1 x13.2.2) fun x14 =>
   lt (wpartV x15.1 x15.2 1 2) fun x17 =>
   lt (wpartC x14 x15.1 x15.2 1 2) fun x16 =>
   lt (wcosV x8.1 x8.2) fun x19 =>
   lt (wcosC x16 x8.1 x8.2) fun x18 =>
   lt (wsinV x17.1 x17.2) fun x21 =>
   lt (wsinC x18 x17.1 x17.2) fun x20 =>
   lt (wmulV x19.1 x19.2 x21.1 x21.2) fun x23 =>
   lt (wmulC x20 x19.1 x19.2 x21.1 x21.2) fun x22 =>
   lt (wcosV x12.1 x12.2) fun x25 =>
   lt (wcosC x22 x12.1 x12.2) fun x24 =>
   lt (wcosV x17.1 x17.2) fun x27 =>
   lt (wcosC x24 x17.1 x17.2) fun x26 =>
   lt (wmulV x25.1 x25.2 x27.1 x27.2) fun x29 =>
   lt (wmulC x26 x25.1 x25.2 x27.1 x27.2) fun x28 =>
   lt (wsinV x8.1 x8.2) fun x31 =>
   lt (wsinC x28 x8.1 x8.2) fun x30 =>
   lt (wsinV x17.1 x17.2) fun x33 =>
   lt (wsinC x30 x17.1 x17.2) fun x32 =>
   lt (wmulV x31.1 x31.2 x33.1 x33.2) fun x35 =>
   lt (wmulC x32 x31.1 x31.2 x33.1 x33.2) fun x34 =>
   lt (wsinV x12.1 x12.2) fun x37 =>
   lt (wsinC x34 x12.1 x12.2) fun x36 =>
   lt (wcosV x17.1 x17.2) fun x39 =>
   lt (wcosC x36 x17.1 x17.2) fun x38 =>
   lt (wmulV x37.1 x37.2 x39.1 x39.2) fun x41 =>
   lt (wmulC x38 x37.1 x37.2 x39.1 x39.2) fun x40 =>
   lt (whypV x35.1 x35.2 x41.1 x41.2) fun x43 =>
   lt (whypC x40 x35.1 x35.2 x41.1 x41.2) fun x42 =>
   lt (whypV x23.1 x23.2 x29.1 x29.2) fun x45 =>
   lt (whypC x42 x23.1 x23.2 x29.1 x29.2) fun x44 =>
   lt (wbeaV x43.1 x43.2 x45.1 x45.2) fun x47 =>
   lt (wbeaC x44 x43.1 x43.2 x45.1 x45.2) fun x46 =>
   cond (x46 != 0)
   (some (.v (.tuple ⟨[.agg ⟨[.int .i64 0, .int .i64 0, .int .i64 0, .int .i64 0]⟩, .int .i64 x46]⟩)))
   (cond (wallM x47.1 x47.2)
    (some (.v (.tuple ⟨[.agg ⟨[.int .i64 0, .int .i64 0, .int .i64 0, .int .i64 0]⟩, .int .i64 24]⟩)))
    (lt (wpartV x47.1 x47.2 2 1) fun x49 =>
     lt (wpartC x46 x47.1 x47.2 2 1) fun x48 =>
     lt (wminV 5400000 5400000 x49.1 x49.2) fun x51 =>
     lt (wminC x48 5400000 5400000 x49.1 x49.2) fun x50 =>
     lt (wbeaV x29.1 x29.2 x23.1 x23.2) fun x53 =>
     lt (wbeaC x50 x29.1 x29.2 x23.1 x23.2) fun x52 =>
     lt (wbeaV x41.1 x41.2 x35.1 x35.2) fun x55 =>
     lt (wbeaC x52 x41.1 x41.2 x35.1 x35.2) fun x54 =>
     cond (!(wallM x53.1 x53.2))
     (cond (!(wallM x55.1 x55.2))
      (lt (wplusV x53.1 x53.2 x55.1 x55.2) fun x57 =>
       lt (wplusC x54 x53.1 x53.2 x55.1 x55.2) fun x56 =>
       lt (anegR x57.1 x57.2) fun x58 =>
       lt (warW x58.1 x58.2.1 x58.2.2) fun x60 =>
       lt (warC x56 x58.1 x58.2.1 x58.2.2) fun x59 =>
       lt (turnR x60.1 x60.2) fun x61 =>
       lt (warW x61.1 x61.2.1 x61.2.2) fun x63 =>
       lt (warC x59 x61.1 x61.2.1 x61.2.2) fun x62 =>
       cond (x62 != 0)
       (some (.v (.tuple ⟨[.agg ⟨[.int .i64 0, .int .i64 0, .int .i64 0, .int .i64 0]⟩, .int .i64 x62]⟩)))
       (some (.v (.tuple ⟨[.agg ⟨[.int .i64 x51.1, .int .i64 x51.2, .int .i64 x63.1, .int .i64 x63.2]⟩, .int .i64 0]⟩))))
      (cond (x54 != 0)
       (some (.v (.tuple ⟨[.agg ⟨[.int .i64 0, .int .i64 0, .int .i64 0, .int .i64 0]⟩, .int .i64 x54]⟩)))
       (some (.v (.tuple ⟨[.agg ⟨[.int .i64 x51.1, .int .i64 x51.2, .int .i64 0, .int .i64 21600000]⟩, .int .i64 0]⟩)))))
     (cond (x54 != 0)
      (some (.v (.tuple ⟨[.agg ⟨[.int .i64 0, .int .i64 0, .int .i64 0, .int .i64 0]⟩, .int .i64 x54]⟩)))
      (some (.v (.tuple ⟨[.agg ⟨[.int .i64 x51.1, .int .i64 x51.2, .int .i64 0, .int .i64 21600000]⟩, .int .i64 0]⟩))))))) := by kernel_rfl
theorem hslM_gives (a b c d e f : Int) : Gives Tryz.prog 40 [.agg ⟨[.int .i64 a, .int .i64 b, .int .i64 c, .int .i64 d, .int .i64 e, .int .i64 f]⟩] (solV (hslM a b c d e f)) := by
  refine evF_gives (E := []) mixed (by simp) Cs_ok book_hslM_gives_ok (lim := 20) (d := 6) (nm := []) ?_
  rw [hslM_gives_tree a b c d e f]
  unfold hslM
  refine case_cond (fun (r : Int × Int × Int × Int × Int) => AV.v (solV (r))) ?_ ?_
  · rfl
  · refine case_lt (fun (r : Int × Int × Int × Int × Int) => AV.v (solV (r))) fun _ => ?_
    refine case_lt (fun (r : Int × Int × Int × Int × Int) => AV.v (solV (r))) fun _ => ?_
    refine case_lt (fun (r : Int × Int × Int × Int × Int) => AV.v (solV (r))) fun _ => ?_
    refine case_lt (fun (r : Int × Int × Int × Int × Int) => AV.v (solV (r))) fun _ => ?_
    refine case_lt (fun (r : Int × Int × Int × Int × Int) => AV.v (solV (r))) fun _ => ?_
    refine case_lt (fun (r : Int × Int × Int × Int × Int) => AV.v (solV (r))) fun _ => ?_
    refine case_lt (fun (r : Int × Int × Int × Int × Int) => AV.v (solV (r))) fun _ => ?_
    refine case_lt (fun (r : Int × Int × Int × Int × Int) => AV.v (solV (r))) fun _ => ?_
    refine case_lt (fun (r : Int × Int × Int × Int × Int) => AV.v (solV (r))) fun _ => ?_
    refine case_lt (fun (r : Int × Int × Int × Int × Int) => AV.v (solV (r))) fun _ => ?_
    refine case_lt (fun (r : Int × Int × Int × Int × Int) => AV.v (solV (r))) fun _ => ?_
    refine case_lt (fun (r : Int × Int × Int × Int × Int) => AV.v (solV (r))) fun _ => ?_
    refine case_lt (fun (r : Int × Int × Int × Int × Int) => AV.v (solV (r))) fun _ => ?_
    refine case_lt (fun (r : Int × Int × Int × Int × Int) => AV.v (solV (r))) fun _ => ?_
    refine case_lt (fun (r : Int × Int × Int × Int × Int) => AV.v (solV (r))) fun _ => ?_
    refine case_lt (fun (r : Int × Int × Int × Int × Int) => AV.v (solV (r))) fun _ => ?_
    refine case_lt (fun (r : Int × Int × Int × Int × Int) => AV.v (solV (r))) fun _ => ?_
    refine case_lt (fun (r : Int × Int × Int × Int × Int) => AV.v (solV (r))) fun _ => ?_
    refine case_lt (fun (r : Int × Int × Int × Int × Int) => AV.v (solV (r))) fun _ => ?_
    refine case_lt (fun (r : Int × Int × Int × Int × Int) => AV.v (solV (r))) fun _ => ?_
    refine case_lt (fun (r : Int × Int × Int × Int × Int) => AV.v (solV (r))) fun _ => ?_
    refine case_lt (fun (r : Int × Int × Int × Int × Int) => AV.v (solV (r))) fun _ => ?_
    refine case_lt (fun (r : Int × Int × Int × Int × Int) => AV.v (solV (r))) fun _ => ?_
    refine case_lt (fun (r : Int × Int × Int × Int × Int) => AV.v (solV (r))) fun _ => ?_
    refine case_lt (fun (r : Int × Int × Int × Int × Int) => AV.v (solV (r))) fun _ => ?_
    refine case_lt (fun (r : Int × Int × Int × Int × Int) => AV.v (solV (r))) fun _ => ?_
    refine case_lt (fun (r : Int × Int × Int × Int × Int) => AV.v (solV (r))) fun _ => ?_
    refine case_lt (fun (r : Int × Int × Int × Int × Int) => AV.v (solV (r))) fun _ => ?_
    refine case_lt (fun (r : Int × Int × Int × Int × Int) => AV.v (solV (r))) fun _ => ?_
    refine case_lt (fun (r : Int × Int × Int × Int × Int) => AV.v (solV (r))) fun _ => ?_
    refine case_lt (fun (r : Int × Int × Int × Int × Int) => AV.v (solV (r))) fun _ => ?_
    refine case_lt (fun (r : Int × Int × Int × Int × Int) => AV.v (solV (r))) fun _ => ?_
    refine case_lt (fun (r : Int × Int × Int × Int × Int) => AV.v (solV (r))) fun _ => ?_
    refine case_lt (fun (r : Int × Int × Int × Int × Int) => AV.v (solV (r))) fun _ => ?_
    refine case_lt (fun (r : Int × Int × Int × Int × Int) => AV.v (solV (r))) fun _ => ?_
    refine case_lt (fun (r : Int × Int × Int × Int × Int) => AV.v (solV (r))) fun _ => ?_
    refine case_lt (fun (r : Int × Int × Int × Int × Int) => AV.v (solV (r))) fun _ => ?_
    refine case_lt (fun (r : Int × Int × Int × Int × Int) => AV.v (solV (r))) fun _ => ?_
    refine case_lt (fun (r : Int × Int × Int × Int × Int) => AV.v (solV (r))) fun _ => ?_
    refine case_lt (fun (r : Int × Int × Int × Int × Int) => AV.v (solV (r))) fun _ => ?_
    refine case_lt (fun (r : Int × Int × Int × Int × Int) => AV.v (solV (r))) fun _ => ?_
    refine case_lt (fun (r : Int × Int × Int × Int × Int) => AV.v (solV (r))) fun _ => ?_
    refine case_lt (fun (r : Int × Int × Int × Int × Int) => AV.v (solV (r))) fun _ => ?_
    refine case_lt (fun (r : Int × Int × Int × Int × Int) => AV.v (solV (r))) fun _ => ?_
    refine case_lt (fun (r : Int × Int × Int × Int × Int) => AV.v (solV (r))) fun _ => ?_
    refine case_lt (fun (r : Int × Int × Int × Int × Int) => AV.v (solV (r))) fun _ => ?_
    refine case_lt (fun (r : Int × Int × Int × Int × Int) => AV.v (solV (r))) fun _ => ?_
    refine case_cond (fun (r : Int × Int × Int × Int × Int) => AV.v (solV (r))) ?_ ?_
    · rfl
    · refine case_cond (fun (r : Int × Int × Int × Int × Int) => AV.v (solV (r))) ?_ ?_
      · rfl
      · refine case_lt (fun (r : Int × Int × Int × Int × Int) => AV.v (solV (r))) fun _ => ?_
        refine case_lt (fun (r : Int × Int × Int × Int × Int) => AV.v (solV (r))) fun _ => ?_
        refine case_lt (fun (r : Int × Int × Int × Int × Int) => AV.v (solV (r))) fun _ => ?_
        refine case_lt (fun (r : Int × Int × Int × Int × Int) => AV.v (solV (r))) fun _ => ?_
        refine case_lt (fun (r : Int × Int × Int × Int × Int) => AV.v (solV (r))) fun _ => ?_
        refine case_lt (fun (r : Int × Int × Int × Int × Int) => AV.v (solV (r))) fun _ => ?_
        refine case_lt (fun (r : Int × Int × Int × Int × Int) => AV.v (solV (r))) fun _ => ?_
        refine case_lt (fun (r : Int × Int × Int × Int × Int) => AV.v (solV (r))) fun _ => ?_
        refine case_cond (fun (r : Int × Int × Int × Int × Int) => AV.v (solV (r))) ?_ ?_
        · refine case_cond (fun (r : Int × Int × Int × Int × Int) => AV.v (solV (r))) ?_ ?_
          · refine case_lt (fun (r : Int × Int × Int × Int × Int) => AV.v (solV (r))) fun _ => ?_
            refine case_lt (fun (r : Int × Int × Int × Int × Int) => AV.v (solV (r))) fun _ => ?_
            refine case_lt (fun (r : Int × Int × Int × Int × Int) => AV.v (solV (r))) fun _ => ?_
            refine case_lt (fun (r : Int × Int × Int × Int × Int) => AV.v (solV (r))) fun _ => ?_
            refine case_lt (fun (r : Int × Int × Int × Int × Int) => AV.v (solV (r))) fun _ => ?_
            refine case_lt (fun (r : Int × Int × Int × Int × Int) => AV.v (solV (r))) fun _ => ?_
            refine case_lt (fun (r : Int × Int × Int × Int × Int) => AV.v (solV (r))) fun _ => ?_
            refine case_lt (fun (r : Int × Int × Int × Int × Int) => AV.v (solV (r))) fun _ => ?_
            refine case_cond (fun (r : Int × Int × Int × Int × Int) => AV.v (solV (r))) ?_ ?_
            · rfl
            · rfl
          · refine case_cond (fun (r : Int × Int × Int × Int × Int) => AV.v (solV (r))) ?_ ?_
            · rfl
            · rfl
        · refine case_cond (fun (r : Int × Int × Int × Int × Int) => AV.v (solV (r))) ?_ ?_
          · rfl
          · rfl
end Go.Proofs.YtmididlfnajhiaaGreatDoor

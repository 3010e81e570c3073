/-
  Squares, roots, parts of arcs: what each function gives, as a plain law.
-/
import Derived.Test.YtipjnfabodfkcaaGreatDoorFc
import Derived.Test.YtipjnfabodfkcaaGreatDoorRf
namespace Go.Proofs.YtipjnfabodfkcaaGreatDoor
open Ev

def rootF (n : Int) : Bool := decide (0 ≤ n ∧ n ≤ 2305843009213693952)
theorem froot_gives (n : Int) (h : rootF n = true) : Gives Tryz.prog 101 [.int .i64 n] (.int .i64 (irt n)) := gives_of fun w => by
  obtain ⟨h1, h2⟩ := of_decide_eq_true h
  have := froot_any n.toNat (by omega) w
  rwa [Int.toNat_of_nonneg h1] at this
theorem ediv_bd {x d m : Int} (hd : 1 ≤ d) (h1 : -m ≤ x) (h2 : x ≤ m) : -m - 1 ≤ x / d ∧ x / d ≤ m := by
  have e : flD x d = x / d := by
    unfold flD
    rw [if_pos (by omega)]
  rw [← e]
  exact flD_bd x d (by omega) m h1 h2
theorem tmul_bd {x y : Int} (h1 : -1099511627776 ≤ x) (h2 : x ≤ 1099511627776) (h3 : -1048576 ≤ y) (h4 : y ≤ 1048576) : -1152921504606846976 ≤ x * y ∧ x * y ≤ 1152921504606846976 := by
  have h : (x * y).natAbs = x.natAbs * y.natAbs := Int.natAbs_mul x y
  have : x.natAbs * y.natAbs ≤ 1099511627776 * 1048576 := Nat.mul_le_mul (by omega) (by omega)
  omega
def aflP (a b : Int) : Bool := decide (0 < b ∧ -4611686018427387904 ≤ a ∧ a ≤ 4611686018427387904)
def aflD (a b : Int) : Int := a / b
noncomputable def book_aflD_gives : Book := []
theorem book_aflD_gives_ok : BookOk Tryz.prog book_aflD_gives := bookOk_nil
theorem aflD_gives_tree (a b : Int) : evF Tryz.prog [] Cs book_aflD_gives 20 6 114 ([.int .i64 a, .int .i64 b].map AV.v) [] [] last =
  cond (b == 0)
  (none)
  (cond (b == 0)
   (none)
   (cond (decide ((Int.tmod a b) < 0))
    (some (.v (.int .i64 (IntKind.i64.wrap ((IntKind.i64.wrap (Int.tdiv a b)) - 1)))))
    (some (.v (.int .i64 (IntKind.i64.wrap (Int.tdiv a b))))))) := by kernel_rfl
theorem aflD_gives (a b : Int) (hp : aflP a b = true) : Gives Tryz.prog 114 [.int .i64 a, .int .i64 b] (.int .i64 (aflD a b)) := by
  refine evF_gives (E := []) mixed (by simp) Cs_ok book_aflD_gives_ok (lim := 20) (d := 6) (nm := []) ?_
  rw [aflD_gives_tree a b]
  obtain ⟨hb, ha1, ha2⟩ := of_decide_eq_true hp
  have t := tdiv_bd a b 4611686018427387904 ha1 ha2
  have s := tm_sign a b
  have e0 : (b == 0) = false := beq_eq_false_iff_ne.2 (by omega)
  rw [e0, i64w (x := Int.tdiv a b) (by omega), i64w (x := Int.tdiv a b - 1) (by omega)]
  simp only [cond_false]
  unfold aflD
  rw [fl_pos a b hb]
  by_cases h1 : a.tmod b < 0
  · rw [decide_eq_true h1, if_pos (by omega)]; rfl
  · rw [decide_eq_false h1, if_neg (by omega)]; rfl
def timR (a b n d : Int) : Int × Int × Int := if avalidB a b = true then (if -1048576 ≤ n ∧ n ≤ 1048576 ∧ 1 ≤ d ∧ d ≤ 1048576 then resR (mn (a * n) (b * n) / d) (-(-mx (a * n) (b * n) / d)) else (0, 0, 2)) else (0, 0, 1)
noncomputable def book_timR_gives : Book := [(54, eP (fun a b => .bool (avalidB a b))), (76, eII (fun a b => arcV (resR a b))), (114, eIIif aflP (fun a b => .int .i64 (aflD a b)))]
theorem book_timR_gives_ok : BookOk Tryz.prog book_timR_gives := (bookOk_cons (eP_ok (fun a b W _ => gvalid_any a b W)) (bookOk_cons (eII_ok resR_gives) (bookOk_cons (eIIif_ok aflD_gives) bookOk_nil)))
theorem timR_gives_tree (a b c d : Int) : evF Tryz.prog [] Cs book_timR_gives 20 6 68 ([.agg ⟨[.int .i64 a, .int .i64 b]⟩, .int .i64 c, .int .i64 d].map AV.v) [] [] last =
  cond (!(avalidB a b))
  (some (.v (.tuple ⟨[.agg ⟨[.int .i64 0, .int .i64 0]⟩, .int .i64 1]⟩)))
  (cond (decide (c < (-1048576)))
   (some (.v (.tuple ⟨[.agg ⟨[.int .i64 0, .int .i64 0]⟩, .int .i64 2]⟩)))
   (cond (decide (c > 1048576))
    (some (.v (.tuple ⟨[.agg ⟨[.int .i64 0, .int .i64 0]⟩, .int .i64 2]⟩)))
    (cond (decide (d < 1))
     (some (.v (.tuple ⟨[.agg ⟨[.int .i64 0, .int .i64 0]⟩, .int .i64 2]⟩)))
     (cond (decide (d > 1048576))
      (some (.v (.tuple ⟨[.agg ⟨[.int .i64 0, .int .i64 0]⟩, .int .i64 2]⟩)))
      (cond (aflP (mn (IntKind.i64.wrap (a * c)) (IntKind.i64.wrap (b * c))) d)
       (cond (aflP (IntKind.i64.wrap (0 - (mx (IntKind.i64.wrap (a * c)) (IntKind.i64.wrap (b * c))))) d)
        (lt (resR (aflD (mn (IntKind.i64.wrap (a * c)) (IntKind.i64.wrap (b * c))) d) (IntKind.i64.wrap (0 - (aflD (IntKind.i64.wrap (0 - (mx (IntKind.i64.wrap (a * c)) (IntKind.i64.wrap (b * c))))) d)))) fun x1 =>
         some (.v (.tuple ⟨[.agg ⟨[.int .i64 x1.1, .int .i64 x1.2.1]⟩, .int .i64 x1.2.2]⟩)))
        (none))
       (none)))))) := by kernel_rfl
theorem timR_gives (a b c d : Int) : Gives Tryz.prog 68 [.agg ⟨[.int .i64 a, .int .i64 b]⟩, .int .i64 c, .int .i64 d] (arcV (timR a b c d)) := by
  refine evF_gives (E := []) mixed (by simp) Cs_ok book_timR_gives_ok (lim := 20) (d := 6) (nm := []) ?_
  rw [timR_gives_tree a b c d]
  unfold timR
  cases h : avalidB a b
  · rfl
  · have v := aval_bd h
    by_cases c1 : c < -1048576
    · rw [decide_eq_true c1, if_neg (show ¬ (-1048576 ≤ c ∧ c ≤ 1048576 ∧ 1 ≤ d ∧ d ≤ 1048576) by omega)]; rfl
    by_cases c2 : c > 1048576
    · rw [decide_eq_false c1, decide_eq_true c2, if_neg (show ¬ (-1048576 ≤ c ∧ c ≤ 1048576 ∧ 1 ≤ d ∧ d ≤ 1048576) by omega)]; rfl
    by_cases c3 : d < 1
    · rw [decide_eq_false c1, decide_eq_false c2, decide_eq_true c3, if_neg (show ¬ (-1048576 ≤ c ∧ c ≤ 1048576 ∧ 1 ≤ d ∧ d ≤ 1048576) by omega)]; rfl
    by_cases c4 : d > 1048576
    · rw [decide_eq_false c1, decide_eq_false c2, decide_eq_false c3, decide_eq_true c4, if_neg (show ¬ (-1048576 ≤ c ∧ c ≤ 1048576 ∧ 1 ≤ d ∧ d ≤ 1048576) by omega)]; rfl
    have p1 := tmul_bd (x := a) (y := c) (by omega) (by omega) (by omega) (by omega)
    have p2 := tmul_bd (x := b) (y := c) (by omega) (by omega) (by omega) (by omega)
    rw [decide_eq_false c1, decide_eq_false c2, decide_eq_false c3, decide_eq_false c4, if_pos (show -1048576 ≤ c ∧ c ≤ 1048576 ∧ 1 ≤ d ∧ d ≤ 1048576 by omega), i64w (x := a * c) (by omega), i64w (x := b * c) (by omega)]
    have m1 := mn_bd (a * c) (b * c)
    have m2 := mx_bd (a * c) (b * c)
    generalize mn (a * c) (b * c) = M at *
    generalize mx (a * c) (b * c) = N at *
    rw [i64w (x := 0 - N) (by omega), Int.zero_sub]
    have q1 : aflP M d = true := decide_eq_true ⟨by omega, by omega, by omega⟩
    have q2 : aflP (-N) d = true := decide_eq_true ⟨by omega, by omega, by omega⟩
    have t := ediv_bd (x := -N) (d := d) (m := 1152921504606846976) (by omega) (by omega) (by omega)
    rw [q1, q2]
    unfold aflD
    rw [i64w (x := 0 - -N / d) (by omega), Int.zero_sub]
    rfl
noncomputable def book_sqrR_gives : Book := [(93, eIIif flP (fun a b => .int .i64 (flD a b))), (94, eIIif flP (fun a b => .int .i64 (ceD a b))), (95, eII (fun a b => arcV (fitR a b))), (96, eP (fun a b => .bool (validB a b)))]
theorem book_sqrR_gives_ok : BookOk Tryz.prog book_sqrR_gives := (bookOk_cons (eIIif_ok flD_gives) (bookOk_cons (eIIif_ok ceD_gives) (bookOk_cons (eII_ok fitR_gives) (bookOk_cons (eP_ok (fun a b W _ => valid_any a b W)) bookOk_nil))))
theorem sqrR_gives_tree (a b : Int) : evF Tryz.prog [] Cs book_sqrR_gives 20 6 75 ([.agg ⟨[.int .i64 a, .int .i64 b]⟩].map AV.v) [] [] last =
  cond (!(validB a b))
  (some (.v (.tuple ⟨[.agg ⟨[.int .i64 0, .int .i64 0]⟩, .int .i64 1]⟩)))
  (cond (decide (a ≤ 0))
   (cond (decide (b ≥ 0))
    (cond (flP 0 1073741824)
     (cond (flP (mx (IntKind.i64.wrap (a * a)) (IntKind.i64.wrap (b * b))) 1073741824)
      (lt (fitR (flD 0 1073741824) (ceD (mx (IntKind.i64.wrap (a * a)) (IntKind.i64.wrap (b * b))) 1073741824)) fun x1 =>
       some (.v (.tuple ⟨[.agg ⟨[.int .i64 x1.1, .int .i64 x1.2.1]⟩, .int .i64 x1.2.2]⟩)))
      (none))
     (none))
    (cond (flP (mn (IntKind.i64.wrap (a * a)) (IntKind.i64.wrap (b * b))) 1073741824)
     (cond (flP (mx (IntKind.i64.wrap (a * a)) (IntKind.i64.wrap (b * b))) 1073741824)
      (lt (fitR (flD (mn (IntKind.i64.wrap (a * a)) (IntKind.i64.wrap (b * b))) 1073741824) (ceD (mx (IntKind.i64.wrap (a * a)) (IntKind.i64.wrap (b * b))) 1073741824)) fun x2 =>
       some (.v (.tuple ⟨[.agg ⟨[.int .i64 x2.1, .int .i64 x2.2.1]⟩, .int .i64 x2.2.2]⟩)))
      (none))
     (none)))
   (cond (flP (mn (IntKind.i64.wrap (a * a)) (IntKind.i64.wrap (b * b))) 1073741824)
    (cond (flP (mx (IntKind.i64.wrap (a * a)) (IntKind.i64.wrap (b * b))) 1073741824)
     (lt (fitR (flD (mn (IntKind.i64.wrap (a * a)) (IntKind.i64.wrap (b * b))) 1073741824) (ceD (mx (IntKind.i64.wrap (a * a)) (IntKind.i64.wrap (b * b))) 1073741824)) fun x3 =>
      some (.v (.tuple ⟨[.agg ⟨[.int .i64 x3.1, .int .i64 x3.2.1]⟩, .int .i64 x3.2.2]⟩)))
     (none))
    (none))) := by kernel_rfl
theorem sqrR_gives (a b : Int) : Gives Tryz.prog 75 [.agg ⟨[.int .i64 a, .int .i64 b]⟩] (arcV (sqrR a b)) := by
  refine evF_gives (E := []) mixed (by simp) Cs_ok book_sqrR_gives_ok (lim := 20) (d := 6) (nm := []) ?_
  rw [sqrR_gives_tree a b]
  unfold sqrR
  cases h : validB a b
  · rfl
  · have v := val_bd h
    have p := abs_sq (x := a) (m := 2147483648) (by omega) (by omega)
    have q := abs_sq (x := b) (m := 2147483648) (by omega) (by omega)
    rw [i64w (x := a * a) (by omega), i64w (x := b * b) (by omega)]
    have e1 : mn (a * a) (b * b) = min (a * a) (b * b) := by unfold mn; split <;> omega
    have e2 : mx (a * a) (b * b) = max (a * a) (b * b) := by unfold mx; split <;> omega
    rw [e1, e2]
    have fH : flP (max (a * a) (b * b)) 1073741824 = true := decide_eq_true ⟨by omega, by omega, by omega⟩
    have fL : flP (min (a * a) (b * b)) 1073741824 = true := decide_eq_true ⟨by omega, by omega, by omega⟩
    have f0 : flP 0 1073741824 = true := by decide
    rw [fH, fL, f0]
    unfold sqrL sqrH
    by_cases c : a ≤ 0 ∧ 0 ≤ b
    · rw [if_pos c, decide_eq_true c.1, decide_eq_true (show b ≥ 0 from c.2)]; rfl
    · rw [if_neg c]
      by_cases c1 : a ≤ 0
      · rw [decide_eq_true c1, decide_eq_false (show ¬ b ≥ 0 by omega)]; rfl
      · rw [decide_eq_false c1]; rfl
noncomputable def book_sqtR_gives : Book := [(95, eII (fun a b => arcV (fitR a b))), (96, eP (fun a b => .bool (validB a b))), (101, eIif rootF (fun a => .int .i64 (irt a)))]
theorem book_sqtR_gives_ok : BookOk Tryz.prog book_sqtR_gives := (bookOk_cons (eII_ok fitR_gives) (bookOk_cons (eP_ok (fun a b W _ => valid_any a b W)) (bookOk_cons (eIif_ok froot_gives) bookOk_nil)))
theorem sqtR_gives_tree (a b : Int) : evF Tryz.prog [] Cs book_sqtR_gives 20 6 58 ([.agg ⟨[.int .i64 a, .int .i64 b]⟩].map AV.v) [] [] last =
  cond (!(validB a b))
  (some (.v (.tuple ⟨[.agg ⟨[.int .i64 0, .int .i64 0]⟩, .int .i64 1]⟩)))
  (cond (decide (b < 0))
   (some (.v (.tuple ⟨[.agg ⟨[.int .i64 0, .int .i64 0]⟩, .int .i64 2]⟩)))
   (cond (rootF (IntKind.i64.wrap (b * 1073741824)))
    (cond (decide (IntKind.i64.wrap ((irt (IntKind.i64.wrap (b * 1073741824))) * (irt (IntKind.i64.wrap (b * 1073741824)))) < IntKind.i64.wrap (b * 1073741824)))
     (cond (rootF (IntKind.i64.wrap ((mx 0 a) * 1073741824)))
      (lt (fitR (irt (IntKind.i64.wrap ((mx 0 a) * 1073741824))) (IntKind.i64.wrap ((irt (IntKind.i64.wrap (b * 1073741824))) + 1))) fun x1 =>
       some (.v (.tuple ⟨[.agg ⟨[.int .i64 x1.1, .int .i64 x1.2.1]⟩, .int .i64 x1.2.2]⟩)))
      (none))
     (cond (rootF (IntKind.i64.wrap ((mx 0 a) * 1073741824)))
      (lt (fitR (irt (IntKind.i64.wrap ((mx 0 a) * 1073741824))) (irt (IntKind.i64.wrap (b * 1073741824)))) fun x2 =>
       some (.v (.tuple ⟨[.agg ⟨[.int .i64 x2.1, .int .i64 x2.2.1]⟩, .int .i64 x2.2.2]⟩)))
      (none)))
    (none))) := by kernel_rfl
theorem sqtR_gives (a b : Int) : Gives Tryz.prog 58 [.agg ⟨[.int .i64 a, .int .i64 b]⟩] (arcV (sqtR a b)) := by
  refine evF_gives (E := []) mixed (by simp) Cs_ok book_sqtR_gives_ok (lim := 20) (d := 6) (nm := []) ?_
  rw [sqtR_gives_tree a b]
  unfold sqtR
  cases h : validB a b
  · rfl
  · have v := val_bd h
    by_cases c : b < 0
    · rw [decide_eq_true c, if_pos c]; rfl
    · have m : mx 0 a = max 0 a := by unfold mx; split <;> omega
      rw [decide_eq_false c, if_neg c, m, i64w (x := b * 1073741824) (by omega), i64w (x := max 0 a * 1073741824) (by omega)]
      have q1 : rootF (b * 1073741824) = true := decide_eq_true ⟨by omega, by omega⟩
      have q2 : rootF (max 0 a * 1073741824) = true := decide_eq_true ⟨by omega, by omega⟩
      have r := irt_ok (n := b * 1073741824) (by omega) (by omega)
      have s := lt_sq (x := irt (b * 1073741824)) (y := 2147483648) r.1 (by omega) (by omega)
      have z := Int.mul_nonneg r.1 r.1
      rw [q1, q2, i64w (x := irt (b * 1073741824) * irt (b * 1073741824)) (by omega), i64w (x := irt (b * 1073741824) + 1) (by omega)]
      unfold iru
      by_cases k : irt (b * 1073741824) * irt (b * 1073741824) < b * 1073741824
      · rw [decide_eq_true k, if_pos k]; rfl
      · rw [decide_eq_false k, if_neg k]; rfl
end Go.Proofs.YtipjnfabodfkcaaGreatDoor

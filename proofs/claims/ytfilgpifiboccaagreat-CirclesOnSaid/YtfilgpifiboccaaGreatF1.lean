/-
  Fixed-point intervals: what each function gives, as a plain law.
-/
import Derived.Test.YtfilgpifiboccaaGreatEv
import Derived.Test.YtfilgpifiboccaaGreatT22
import Derived.KernelRfl
import Derived.IntWalk
namespace Go.Proofs.YtfilgpifiboccaaGreat
open Ev
def Cs : List FuncId := [2, 3, 4, 5, 6, 7, 8, 9, 10, 11, 12, 13, 14, 15, 16, 17, 18, 19, 20, 21, 22, 23, 24, 25, 26, 27, 28, 29, 30, 31, 32, 33, 34, 35, 36, 37, 38, 39, 40, 41, 42, 43, 44, 45, 46, 47, 48, 49, 50, 51, 52, 53, 54, 55, 56, 57, 58, 59, 60, 61, 62, 63, 64, 65, 66, 67, 68, 69, 70, 71, 72, 73, 74, 75, 76, 77, 78, 79, 80, 81, 82, 83, 84, 85, 86, 87, 88, 89, 90, 91, 92, 93, 94, 95, 96, 97, 98, 99, 100, 101, 102, 103, 104, 105, 106, 107, 108, 109, 110, 111, 112, 113, 114, 115, 116, 117, 118, 119, 120, 121, 122, 123, 124, 125, 126, 127, 128, 129, 130, 131, 132, 133, 134, 135, 136, 137, 138, 139, 140, 141, 142, 143, 144, 145, 146, 147, 148, 149, 150, 151, 152, 153, 154, 155, 156, 157, 158, 159, 160, 161, 162, 163, 164, 165, 166, 167, 168, 169, 170, 171, 172, 173, 174, 176, 177, 178, 179, 180, 181, 182, 183, 184, 185, 186, 187, 188, 189, 190, 191, 192, 193, 194, 195, 196, 197, 198, 199, 200, 201, 202, 204, 205, 206, 207, 208, 209, 210, 211, 212, 213, 214, 215, 216, 217, 218, 219]
def callB (P : Program) (g : FuncId) : Bool :=
  match P.funcs[g]? with
  | some fn => !(fn.name == "runtime.NumGoroutine") && !fn.body.isNone
  | none => false
theorem callB_ok {P : Program} {g : FuncId} (h : callB P g = true) : Callable P g := by
  unfold callB at h
  split at h
  · rename_i fn hf
    rw [Bool.and_eq_true, Bool.not_eq_true', Bool.not_eq_true'] at h
    exact callable_of hf h.1 h.2
  · cases h
set_option maxRecDepth 100000 in
theorem Cs_ok : ∀ g ∈ Cs, Callable Tryz.prog g := fun g hg => callB_ok (List.all_eq_true.1 (show Cs.all (callB Tryz.prog) = true by kernel_rfl) g hg)
theorem mixed : Tryz.prog.follows .mixedOrders = true := by kernel_rfl
theorem EN_ok : ∀ e ∈ ([] : List (TypeId × Nat)), EqFit Tryz.prog e := fun _ h => nomatch h
noncomputable def ev6 (E : List (TypeId × Nat)) (O : Book) (g : FuncId) (vs : List Value) : Option AV := evF Tryz.prog E Cs O 20 6 g (vs.map AV.v) [] [] last
theorem ev6_gives {E : List (TypeId × Nat)} {O : Book} {g : FuncId} {vs : List Value} {V : Value} {t : Option AV} (hE : ∀ e ∈ E, EqFit Tryz.prog e) (hO : BookOk Tryz.prog O) (ht : ev6 E O g vs = t) (h : t = some (.v V)) : Gives Tryz.prog g vs V := evF_gives mixed hE Cs_ok hO (ht.trans h)
noncomputable def evm (E : List (TypeId × Nat)) (O : Book) (g : FuncId) (ty : TypeId) (k : Int) (vs : List Value) : Option (AV × Blk) := evF Tryz.prog E Cs O 20 6 g (.p [] 0 :: vs.map AV.v) [([], ⟨[.v (.int .i64 k)], ty⟩)] [] lastC
theorem evm_mods {E : List (TypeId × Nat)} {O : Book} {g : FuncId} {ty : TypeId} {k c : Int} {vs : List Value} {V : Value} {t : Option (AV × Blk)} (hE : ∀ e ∈ E, EqFit Tryz.prog e) (hO : BookOk Tryz.prog O) (ht : evm E O g ty k vs = t) (h : t = some (.v V, ⟨[.v (.int .i64 c)], ty⟩)) : Mods Tryz.prog g ty k vs V c := evF_mods mixed hE Cs_ok hO (ht.trans h)
theorem i64w {x : Int} (h : -9223372036854775808 ≤ x ∧ x ≤ 9223372036854775807) : IntKind.i64.wrap x = x := IntWalk.i64_in _ h
def boolV (r : Bool × Int) : Value := .tuple ⟨[.bool r.1, .int .i64 r.2]⟩
@[reducible] def mn (x y : Int) : Int := if y < x then y else x
@[reducible] def mx (x y : Int) : Int := if y > x then y else x
theorem mn_bd (x y : Int) : mn x y ≤ x ∧ mn x y ≤ y ∧ (mn x y = x ∨ mn x y = y) := by unfold mn; split <;> omega
theorem mx_bd (x y : Int) : x ≤ mx x y ∧ y ≤ mx x y ∧ (mx x y = x ∨ mx x y = y) := by unfold mx; split <;> omega
def flD (a b : Int) : Int := if 0 < b then a / b else -a / -b
theorem tm_sign (a b : Int) : (0 ≤ a → 0 ≤ a.tmod b) ∧ (a ≤ 0 → a.tmod b ≤ 0) := by
  constructor
  · intro h; exact Int.tmod_nonneg b h
  · intro h
    have := Int.tmod_nonneg b (show 0 ≤ -a by omega)
    rw [Int.neg_tmod] at this
    omega
theorem fl_pos (a b : Int) (hb : 0 < b) : a / b = (if a.tmod b ≠ 0 ∧ a < 0 then a.tdiv b - 1 else a.tdiv b) := by
  have h1 := Int.mul_tdiv_add_tmod a b
  have h2 := tm_sign a b
  have h3 := Int.tmod_lt_of_pos a hb
  have h4 := Int.tmod_lt_of_pos (-a) hb
  rw [Int.neg_tmod] at h4
  split
  · rename_i h
    have h5 : a.tmod b < 0 := by have := h2.2 (by omega); omega
    refine ((Int.ediv_emod_unique hb (r := a.tmod b + b)).2 ⟨?_, by omega, by omega⟩).1
    rw [Int.mul_sub]
    omega
  · rename_i h
    have h5 : 0 ≤ a.tmod b := by
      by_cases q : a < 0
      · have : a.tmod b = 0 := by
          by_cases z : a.tmod b = 0
          · exact z
          · exact absurd ⟨z, q⟩ h
        omega
      · exact h2.1 (by omega)
    exact ((Int.ediv_emod_unique hb (r := a.tmod b)).2 ⟨by omega, h5, h3⟩).1
theorem flD_eq (a b : Int) (hb : b ≠ 0) : flD a b = (if a.tmod b ≠ 0 ∧ (decide (a < 0) ≠ decide (b < 0)) then a.tdiv b - 1 else a.tdiv b) := by
  unfold flD
  by_cases h : 0 < b
  · rw [if_pos h, fl_pos a b h]
    have : decide (b < 0) = false := decide_eq_false (by omega)
    rw [this]
    simp
  · rw [if_neg h, fl_pos (-a) (-b) (by omega)]
    have : decide (b < 0) = true := decide_eq_true (by omega)
    rw [this, Int.neg_tmod, Int.tmod_neg, Int.neg_tdiv_neg]
    by_cases h0 : a.tmod b = 0
    · simp [h0]
    · have h1 := tm_sign a b
      have hp : (0 < a) ↔ (0 ≤ a) := by
        constructor
        · intro; omega
        · intro q
          rcases Int.lt_or_le 0 a with z | z
          · exact z
          · have : a = 0 := by omega
            subst this
            simp at h0
      have : (-a < 0) ↔ ¬ a < 0 := by
        constructor
        · intro; omega
        · intro q
          rcases Int.lt_or_le 0 a with z | z
          · omega
          · have : a = 0 := by omega
            subst this
            simp at h0
      simp [h0, hp]
theorem tdiv_bd (a b m : Int) (h1 : -m ≤ a) (h2 : a ≤ m) : -m ≤ a.tdiv b ∧ a.tdiv b ≤ m := by
  have h := Int.natAbs_tdiv a b
  have h3 : (a.tdiv b).natAbs ≤ a.natAbs := by rw [h]; exact Nat.div_le_self _ _
  omega

def fitR (a b : Int) : Int × Int × Int := if validB a b = true then (a, b, 0) else (0, 0, 5)
noncomputable def kF10 : Book := (65, eP (fun a b => .bool (validB a b))) :: []
theorem kF10_ok : BookOk Tryz.prog kF10 := (bookOk_cons (eP_ok valid_any) bookOk_nil)
theorem fitR_gives (a b : Int) : Gives Tryz.prog 79 [.int .i64 a, .int .i64 b] (arcV (fitR a b)) := by
  refine ev6_gives EN_ok kF10_ok (t := cond (!(validB a b)) (some (.v (.tuple ⟨[.agg ⟨[.int .i64 0, .int .i64 0]⟩, .int .i64 5]⟩))) (some (.v (.tuple ⟨[.agg ⟨[.int .i64 a, .int .i64 b]⟩, .int .i64 0]⟩)))) (by kernel_rfl) ?_
  cases h1 : (validB a b)
  · rw [Bool.not_false, cond_true]
    simp [fitR, arcV, pairV, *]
  · rw [Bool.not_true, cond_false]
    simp [fitR, arcV, pairV, *]
def bothB (a b c d : Int) : Bool := validB a b && validB c d
noncomputable def kF11 : Book := (79, eII (fun a b => arcV (fitR a b))) :: kF10
theorem kF11_ok : BookOk Tryz.prog kF11 := (bookOk_cons (eII_ok fitR_gives) kF10_ok)
theorem bothB_gives (a b c d : Int) : Gives Tryz.prog 75 [.agg ⟨[.int .i64 a, .int .i64 b]⟩, .agg ⟨[.int .i64 c, .int .i64 d]⟩] (.bool (bothB a b c d)) := by
  refine ev6_gives EN_ok kF11_ok (t := cond (validB a b) (some (.v (.bool (validB c d)))) (some (.v (.bool false)))) (by kernel_rfl) ?_
  cases h1 : (validB a b)
  · rw [cond_false]
    simp [bothB, *]
  · rw [cond_true]
    simp [bothB, *]
def zeroB (a b : Int) : Bool := decide (a ≤ 0 ∧ 0 ≤ b)
noncomputable def kF12 : Book := (75, ePP (fun a b c d => .bool (bothB a b c d))) :: kF11
theorem kF12_ok : BookOk Tryz.prog kF12 := (bookOk_cons (ePP_ok bothB_gives) kF11_ok)
theorem zeroB_gives (a b : Int) : Gives Tryz.prog 76 [.agg ⟨[.int .i64 a, .int .i64 b]⟩] (.bool (zeroB a b)) := by
  refine ev6_gives EN_ok kF12_ok (t := cond (decide (a ≤ 0)) (some (.v (.bool (decide (b ≥ 0))))) (some (.v (.bool false)))) (by kernel_rfl) ?_
  cases h1 : (decide (a ≤ 0))
  · rw [cond_false]
    replace h1 := of_decide_eq_false h1
    simp [zeroB, *]
  · rw [cond_true]
    replace h1 := of_decide_eq_true h1
    simp [zeroB, *]
def flP (a b : Int) : Bool := decide (b ≠ 0 ∧ -4611686018427387904 ≤ a ∧ a ≤ 4611686018427387904)
theorem flD_gives (a b : Int) (hp : flP a b = true) : Gives Tryz.prog 77 [.int .i64 a, .int .i64 b] (.int .i64 (flD a b)) := by
  refine ev6_gives EN_ok kF12_ok (t := cond (b == 0) (none) (cond (b == 0) (none) (cond ((Int.tmod a b) != 0) (cond (!((decide (a < 0)) == (decide (b < 0)))) (some (.v (.int .i64 (IntKind.i64.wrap ((IntKind.i64.wrap (Int.tdiv a b)) - 1))))) (some (.v (.int .i64 (IntKind.i64.wrap (Int.tdiv a b)))))) (some (.v (.int .i64 (IntKind.i64.wrap (Int.tdiv a b)))))))) (by kernel_rfl) ?_
  obtain ⟨hb, ha1, ha2⟩ := of_decide_eq_true hp
  have t := tdiv_bd a b 4611686018427387904 ha1 ha2
  have e0 : (b == 0) = false := beq_eq_false_iff_ne.2 hb
  rw [e0, i64w (x := Int.tdiv a b) (by omega), i64w (x := Int.tdiv a b - 1) (by omega), flD_eq a b hb]
  simp only [cond_false]
  by_cases h1 : a.tmod b = 0
  · simp [h1]
  · by_cases h2 : decide (a < 0) = decide (b < 0)
    · simp [h1, h2]
    · have e1 : (decide (a < 0) == decide (b < 0)) = false := beq_eq_false_iff_ne.2 h2
      have e2 : (a.tmod b != 0) = true := bne_iff_ne.2 h1
      rw [e1, e2]
      simp [h1, h2]
/-- A quotient rounded up. -/
def ceD (a b : Int) : Int := -flD (-a) b
theorem flD_bd (a b : Int) (hb : b ≠ 0) (m : Int) (h1 : -m ≤ a) (h2 : a ≤ m) : -m - 1 ≤ flD a b ∧ flD a b ≤ m := by
  rw [flD_eq a b hb]
  have := tdiv_bd a b m h1 h2
  split <;> omega
noncomputable def kF13 : Book := (77, eIIif flP (fun a b => .int .i64 (flD a b))) :: kF12
theorem kF13_ok : BookOk Tryz.prog kF13 := (bookOk_cons (eIIif_ok flD_gives) kF12_ok)
theorem ceD_gives (a b : Int) (hp : flP a b = true) : Gives Tryz.prog 78 [.int .i64 a, .int .i64 b] (.int .i64 (ceD a b)) := by
  refine ev6_gives EN_ok kF13_ok (t := cond (flP (IntKind.i64.wrap (0 - a)) b) (some (.v (.int .i64 (IntKind.i64.wrap (0 - (flD (IntKind.i64.wrap (0 - a)) b)))))) (none)) (by kernel_rfl) ?_
  obtain ⟨hb, ha1, ha2⟩ := of_decide_eq_true hp
  have t := flD_bd (-a) b hb 4611686018427387904 (by omega) (by omega)
  have e1 : IntKind.i64.wrap (0 - a) = -a := by rw [i64w (by omega)]; omega
  have e2 : flP (-a) b = true := decide_eq_true ⟨hb, by omega, by omega⟩
  simp only [e1, e2, cond_true]
  rw [i64w (by omega)]
  unfold ceD
  rw [Int.zero_sub]
def addR (a b c d : Int) : Int × Int × Int := if bothB a b c d = true then fitR (a + c) (b + d) else (0, 0, 1)
theorem both_bd {a b c d : Int} (h : bothB a b c d = true) : -2147483648 ≤ a ∧ a ≤ b ∧ b ≤ 2147483648 ∧ -2147483648 ≤ c ∧ c ≤ d ∧ d ≤ 2147483648 := by
  simp [bothB, validB] at h
  omega
noncomputable def kF14 : Book := (78, eIIif flP (fun a b => .int .i64 (ceD a b))) :: kF13
theorem kF14_ok : BookOk Tryz.prog kF14 := (bookOk_cons (eIIif_ok ceD_gives) kF13_ok)
theorem addR_gives (a b c d : Int) : Gives Tryz.prog 68 [.agg ⟨[.int .i64 a, .int .i64 b]⟩, .agg ⟨[.int .i64 c, .int .i64 d]⟩] (arcV (addR a b c d)) := by
  refine ev6_gives EN_ok kF14_ok (t := cond (!(bothB a b c d)) (some (.v (.tuple ⟨[.agg ⟨[.int .i64 0, .int .i64 0]⟩, .int .i64 1]⟩))) (lt (fitR (IntKind.i64.wrap (a + c)) (IntKind.i64.wrap (b + d))) fun x1 => some (.v (.tuple ⟨[.agg ⟨[.int .i64 x1.1, .int .i64 x1.2.1]⟩, .int .i64 x1.2.2]⟩)))) (by kernel_rfl) ?_
  unfold addR
  cases h : bothB a b c d
  · rfl
  · have := both_bd h
    rw [i64w (by omega), i64w (by omega)]
    rfl
def subR (a b c d : Int) : Int × Int × Int := if bothB a b c d = true then fitR (a - d) (b - c) else (0, 0, 1)
theorem subR_gives (a b c d : Int) : Gives Tryz.prog 72 [.agg ⟨[.int .i64 a, .int .i64 b]⟩, .agg ⟨[.int .i64 c, .int .i64 d]⟩] (arcV (subR a b c d)) := by
  refine ev6_gives EN_ok kF14_ok (t := cond (!(bothB a b c d)) (some (.v (.tuple ⟨[.agg ⟨[.int .i64 0, .int .i64 0]⟩, .int .i64 1]⟩))) (lt (fitR (IntKind.i64.wrap (a - d)) (IntKind.i64.wrap (b - c))) fun x1 => some (.v (.tuple ⟨[.agg ⟨[.int .i64 x1.1, .int .i64 x1.2.1]⟩, .int .i64 x1.2.2]⟩)))) (by kernel_rfl) ?_
  unfold subR
  cases h : bothB a b c d
  · rfl
  · have := both_bd h
    rw [i64w (by omega), i64w (by omega)]
    rfl
def negR (a b : Int) : Int × Int × Int := if validB a b = true then (-b, -a, 0) else (0, 0, 1)
theorem negR_gives (a b : Int) : Gives Tryz.prog 176 [.agg ⟨[.int .i64 a, .int .i64 b]⟩] (arcV (negR a b)) := by
  refine ev6_gives EN_ok kF14_ok (t := cond (!(validB a b)) (some (.v (.tuple ⟨[.agg ⟨[.int .i64 0, .int .i64 0]⟩, .int .i64 1]⟩))) (some (.v (.tuple ⟨[.agg ⟨[.int .i64 (IntKind.i64.wrap (0 - b)), .int .i64 (IntKind.i64.wrap (0 - a))]⟩, .int .i64 0]⟩)))) (by kernel_rfl) ?_
  unfold negR
  cases h : validB a b
  · rfl
  · have : -2147483648 ≤ a ∧ a ≤ b ∧ b ≤ 2147483648 := by simpa [validB] using h
    rw [i64w (by omega), i64w (by omega), Int.zero_sub, Int.zero_sub]
    rfl
def mulL (a b c d : Int) : Int := mn (mn (mn (a * c) (a * d)) (b * c)) (b * d)
def mulH (a b c d : Int) : Int := mx (mx (mx (a * c) (a * d)) (b * c)) (b * d)
def mulR (a b c d : Int) : Int × Int × Int := if bothB a b c d = true then fitR (mulL a b c d / 1073741824) (-(-mulH a b c d / 1073741824)) else (0, 0, 1)
theorem pmul_bd {x y : Int} (h1 : -2147483648 ≤ x) (h2 : x ≤ 2147483648) (h3 : -2147483648 ≤ y) (h4 : y ≤ 2147483648) : -4611686018427387904 ≤ x * y ∧ x * y ≤ 4611686018427387904 := by
  have h : (x * y).natAbs = x.natAbs * y.natAbs := Int.natAbs_mul x y
  have : x.natAbs * y.natAbs ≤ 2147483648 * 2147483648 := Nat.mul_le_mul (by omega) (by omega)
  omega
theorem mulR_gives (a b c d : Int) : Gives Tryz.prog 69 [.agg ⟨[.int .i64 a, .int .i64 b]⟩, .agg ⟨[.int .i64 c, .int .i64 d]⟩] (arcV (mulR a b c d)) := by
  refine ev6_gives EN_ok kF14_ok (t := cond (!(bothB a b c d)) (some (.v (.tuple ⟨[.agg ⟨[.int .i64 0, .int .i64 0]⟩, .int .i64 1]⟩))) (cond (flP (mn (mn (mn (IntKind.i64.wrap (a * c)) (IntKind.i64.wrap (a * d))) (IntKind.i64.wrap (b * c))) (IntKind.i64.wrap (b * d))) 1073741824) (cond (flP (mx (mx (mx (IntKind.i64.wrap (a * c)) (IntKind.i64.wrap (a * d))) (IntKind.i64.wrap (b * c))) (IntKind.i64.wrap (b * d))) 1073741824) (lt (fitR (flD (mn (mn (mn (IntKind.i64.wrap (a * c)) (IntKind.i64.wrap (a * d))) (IntKind.i64.wrap (b * c))) (IntKind.i64.wrap (b * d))) 1073741824) (ceD (mx (mx (mx (IntKind.i64.wrap (a * c)) (IntKind.i64.wrap (a * d))) (IntKind.i64.wrap (b * c))) (IntKind.i64.wrap (b * d))) 1073741824)) fun x1 => some (.v (.tuple ⟨[.agg ⟨[.int .i64 x1.1, .int .i64 x1.2.1]⟩, .int .i64 x1.2.2]⟩))) (none)) (none))) (by kernel_rfl) ?_
  unfold mulR
  cases h : bothB a b c d
  · rfl
  · have := both_bd h
    have p1 := pmul_bd (x := a) (y := c) (by omega) (by omega) (by omega) (by omega)
    have p2 := pmul_bd (x := a) (y := d) (by omega) (by omega) (by omega) (by omega)
    have p3 := pmul_bd (x := b) (y := c) (by omega) (by omega) (by omega) (by omega)
    have p4 := pmul_bd (x := b) (y := d) (by omega) (by omega) (by omega) (by omega)
    rw [i64w (x := a * c) (by omega), i64w (x := a * d) (by omega), i64w (x := b * c) (by omega), i64w (x := b * d) (by omega)]
    have e1 : mn (mn (mn (a * c) (a * d)) (b * c)) (b * d) = mulL a b c d := rfl
    have e2 : mx (mx (mx (a * c) (a * d)) (b * c)) (b * d) = mulH a b c d := rfl
    have b1 : -4611686018427387904 ≤ mulL a b c d ∧ mulL a b c d ≤ 4611686018427387904 := by
      have q1 := mn_bd (a * c) (a * d)
      have q2 := mn_bd (mn (a * c) (a * d)) (b * c)
      have q3 := mn_bd (mn (mn (a * c) (a * d)) (b * c)) (b * d)
      rw [e1] at q3
      omega
    have b2 : -4611686018427387904 ≤ mulH a b c d ∧ mulH a b c d ≤ 4611686018427387904 := by
      have q1 := mx_bd (a * c) (a * d)
      have q2 := mx_bd (mx (a * c) (a * d)) (b * c)
      have q3 := mx_bd (mx (mx (a * c) (a * d)) (b * c)) (b * d)
      rw [e2] at q3
      omega
    rw [e1, e2]
    have f1 : flP (mulL a b c d) 1073741824 = true := decide_eq_true ⟨by omega, b1.1, b1.2⟩
    have f2 : flP (mulH a b c d) 1073741824 = true := decide_eq_true ⟨by omega, b2.1, b2.2⟩
    rw [f1, f2]
    have g1 : flD (mulL a b c d) 1073741824 = mulL a b c d / 1073741824 := rfl
    have g2 : ceD (mulH a b c d) 1073741824 = -(-mulH a b c d / 1073741824) := rfl
    rw [g1, g2]
    rfl
end Go.Proofs.YtfilgpifiboccaaGreat

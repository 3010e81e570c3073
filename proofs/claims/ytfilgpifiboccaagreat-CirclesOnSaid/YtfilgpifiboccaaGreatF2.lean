/-
  Quotients of fixed-point intervals, and angles: what each function gives, as a plain law.
-/
import Derived.Test.YtfilgpifiboccaaGreatF1
import Derived.Test.YtfilgpifiboccaaGreatT54
import Derived.Test.YtfilgpifiboccaaGreatT37
import Derived.Test.YtfilgpifiboccaaGreatT22
namespace Go.Proofs.YtfilgpifiboccaaGreat
open Ev

def divL (a b c d : Int) : Int := mn (mn (mn (mn (flD (a * 1073741824) c) (flD (a * 1073741824) c)) (flD (a * 1073741824) d)) (flD (b * 1073741824) c)) (flD (b * 1073741824) d)
def divH (a b c d : Int) : Int := mx (mx (mx (mx (ceD (a * 1073741824) c) (ceD (a * 1073741824) c)) (ceD (a * 1073741824) d)) (ceD (b * 1073741824) c)) (ceD (b * 1073741824) d)
def divR (a b c d : Int) : Int × Int × Int := if bothB a b c d = true then (if zeroB c d = true then (0, 0, 16) else fitR (divL a b c d) (divH a b c d)) else (0, 0, 1)
noncomputable def kF20 : Book := (75, ePP (fun a b c d => .bool (bothB a b c d))) :: (76, eP (fun a b => .bool (zeroB a b))) :: (77, eIIif flP (fun a b => .int .i64 (flD a b))) :: (78, eIIif flP (fun a b => .int .i64 (ceD a b))) :: (79, eII (fun a b => arcV (fitR a b))) :: []
theorem kF20_ok : BookOk Tryz.prog kF20 := (bookOk_cons (ePP_ok bothB_gives) (bookOk_cons (eP_ok zeroB_gives) (bookOk_cons (eIIif_ok flD_gives) (bookOk_cons (eIIif_ok ceD_gives) (bookOk_cons (eII_ok fitR_gives) bookOk_nil)))))
theorem divR_gives (a b c d : Int) : Gives Tryz.prog 39 [.agg ⟨[.int .i64 a, .int .i64 b]⟩, .agg ⟨[.int .i64 c, .int .i64 d]⟩] (arcV (divR a b c d)) := by
  refine ev6_gives EN_ok kF20_ok (t := cond (!(bothB a b c d)) (some (.v (.tuple ⟨[.agg ⟨[.int .i64 0, .int .i64 0]⟩, .int .i64 1]⟩))) (cond (zeroB c d) (some (.v (.tuple ⟨[.agg ⟨[.int .i64 0, .int .i64 0]⟩, .int .i64 16]⟩))) (cond (flP (IntKind.i64.wrap (a * 1073741824)) c) (cond (flP (IntKind.i64.wrap (a * 1073741824)) c) (cond (flP (IntKind.i64.wrap (a * 1073741824)) c) (cond (flP (IntKind.i64.wrap (a * 1073741824)) c) (cond (flP (IntKind.i64.wrap (a * 1073741824)) d) (cond (flP (IntKind.i64.wrap (a * 1073741824)) d) (cond (flP (IntKind.i64.wrap (b * 1073741824)) c) (cond (flP (IntKind.i64.wrap (b * 1073741824)) c) (cond (flP (IntKind.i64.wrap (b * 1073741824)) d) (cond (flP (IntKind.i64.wrap (b * 1073741824)) d) (lt (fitR (mn (mn (mn (mn (flD (IntKind.i64.wrap (a * 1073741824)) c) (flD (IntKind.i64.wrap (a * 1073741824)) c)) (flD (IntKind.i64.wrap (a * 1073741824)) d)) (flD (IntKind.i64.wrap (b * 1073741824)) c)) (flD (IntKind.i64.wrap (b * 1073741824)) d)) (mx (mx (mx (mx (ceD (IntKind.i64.wrap (a * 1073741824)) c) (ceD (IntKind.i64.wrap (a * 1073741824)) c)) (ceD (IntKind.i64.wrap (a * 1073741824)) d)) (ceD (IntKind.i64.wrap (b * 1073741824)) c)) (ceD (IntKind.i64.wrap (b * 1073741824)) d))) fun x1 => some (.v (.tuple ⟨[.agg ⟨[.int .i64 x1.1, .int .i64 x1.2.1]⟩, .int .i64 x1.2.2]⟩))) (none)) (none)) (none)) (none)) (none)) (none)) (none)) (none)) (none)) (none)))) (by kernel_rfl) ?_
  unfold divR
  cases h : bothB a b c d
  · rfl
  · cases hz : zeroB c d
    · have := both_bd h
      have hz := of_decide_eq_false hz
      rw [i64w (x := a * 1073741824) (by omega), i64w (x := b * 1073741824) (by omega)]
      have f1 : flP (a * 1073741824) c = true := decide_eq_true ⟨by omega, by omega, by omega⟩
      have f2 : flP (a * 1073741824) d = true := decide_eq_true ⟨by omega, by omega, by omega⟩
      have f3 : flP (b * 1073741824) c = true := decide_eq_true ⟨by omega, by omega, by omega⟩
      have f4 : flP (b * 1073741824) d = true := decide_eq_true ⟨by omega, by omega, by omega⟩
      rw [f1, f2, f3, f4]
      rfl
    · rfl
def wrapN (n : Int) : Int := n % 21600000
def fitsB (a : Int) : Bool := decide (-1099511627776 ≤ a ∧ a ≤ 1099511627776)
noncomputable def kF21 : Book := (25, eP (fun a b => .bool (avalidB a b))) :: kF20
theorem kF21_ok : BookOk Tryz.prog kF21 := (bookOk_cons (eP_ok gvalid_any) kF20_ok)
theorem fitsB_gives (a : Int) : Gives Tryz.prog 61 [.int .i64 a] (.bool (fitsB a)) := by
  refine ev6_gives EN_ok kF21_ok (t := cond (decide (a ≥ (-1099511627776))) (some (.v (.bool (decide (a ≤ 1099511627776))))) (some (.v (.bool false)))) (by kernel_rfl) ?_
  cases h1 : (decide (a ≥ (-1099511627776)))
  · rw [cond_false]
    replace h1 := of_decide_eq_false h1
    simp [fitsB, *]
  · rw [cond_true]
    replace h1 := of_decide_eq_true h1
    simp [fitsB, *]
def resR (a b : Int) : Int × Int × Int := if fitsB a = true ∧ fitsB b = true then (a, b, 0) else (0, 0, 5)
noncomputable def kF22 : Book := (61, eI (fun a => .bool (fitsB a))) :: kF21
theorem kF22_ok : BookOk Tryz.prog kF22 := (bookOk_cons (eI_ok fitsB_gives) kF21_ok)
theorem resR_gives (a b : Int) : Gives Tryz.prog 92 [.int .i64 a, .int .i64 b] (arcV (resR a b)) := by
  refine ev6_gives EN_ok kF22_ok (t := cond (!(fitsB a)) (some (.v (.tuple ⟨[.agg ⟨[.int .i64 0, .int .i64 0]⟩, .int .i64 5]⟩))) (cond (!(fitsB b)) (some (.v (.tuple ⟨[.agg ⟨[.int .i64 0, .int .i64 0]⟩, .int .i64 5]⟩))) (some (.v (.tuple ⟨[.agg ⟨[.int .i64 a, .int .i64 b]⟩, .int .i64 0]⟩))))) (by kernel_rfl) ?_
  cases h1 : (fitsB a)
  · rw [Bool.not_false, cond_true]
    simp [resR, arcV, pairV, *]
  · rw [Bool.not_true, cond_false]
    cases h2 : (fitsB b)
    · rw [Bool.not_false, cond_true]
      simp [resR, arcV, pairV, *]
    · rw [Bool.not_true, cond_false]
      simp [resR, arcV, pairV, *]
def anegR (a b : Int) : Int × Int × Int := if avalidB a b = true then (-b, -a, 0) else (0, 0, 1)
theorem aval_bd {a b : Int} (h : avalidB a b = true) : -1099511627776 ≤ a ∧ a ≤ b ∧ b ≤ 1099511627776 := by simpa [avalidB] using h
noncomputable def kF23 : Book := (92, eII (fun a b => arcV (resR a b))) :: kF22
theorem kF23_ok : BookOk Tryz.prog kF23 := (bookOk_cons (eII_ok resR_gives) kF22_ok)
theorem anegR_gives (a b : Int) : Gives Tryz.prog 84 [.agg ⟨[.int .i64 a, .int .i64 b]⟩] (arcV (anegR a b)) := by
  refine ev6_gives EN_ok kF23_ok (t := cond (!(avalidB a b)) (some (.v (.tuple ⟨[.agg ⟨[.int .i64 0, .int .i64 0]⟩, .int .i64 1]⟩))) (lt (resR (IntKind.i64.wrap (0 - b)) (IntKind.i64.wrap (0 - a))) fun x1 => some (.v (.tuple ⟨[.agg ⟨[.int .i64 x1.1, .int .i64 x1.2.1]⟩, .int .i64 x1.2.2]⟩)))) (by kernel_rfl) ?_
  unfold anegR
  cases h : avalidB a b
  · rfl
  · have := aval_bd h
    rw [i64w (x := 0 - b) (by omega), i64w (x := 0 - a) (by omega), Int.zero_sub, Int.zero_sub]
    have e : resR (-b) (-a) = (-b, -a, 0) := by unfold resR fitsB; simp; omega
    rw [e]
    rfl
def aaddR (a b c d : Int) : Int × Int × Int := if avalidB a b = true ∧ avalidB c d = true then resR (a + c) (b + d) else (0, 0, 1)
noncomputable def kF24 : Book := (84, eP (fun a b => arcV (anegR a b))) :: kF23
theorem kF24_ok : BookOk Tryz.prog kF24 := (bookOk_cons (eP_ok anegR_gives) kF23_ok)
theorem aaddR_gives (a b c d : Int) : Gives Tryz.prog 48 [.agg ⟨[.int .i64 a, .int .i64 b]⟩, .agg ⟨[.int .i64 c, .int .i64 d]⟩] (arcV (aaddR a b c d)) := by
  refine ev6_gives EN_ok kF24_ok (t := cond (!(avalidB a b)) (some (.v (.tuple ⟨[.agg ⟨[.int .i64 0, .int .i64 0]⟩, .int .i64 1]⟩))) (cond (!(avalidB c d)) (some (.v (.tuple ⟨[.agg ⟨[.int .i64 0, .int .i64 0]⟩, .int .i64 1]⟩))) (lt (resR (IntKind.i64.wrap (a + c)) (IntKind.i64.wrap (b + d))) fun x1 => some (.v (.tuple ⟨[.agg ⟨[.int .i64 x1.1, .int .i64 x1.2.1]⟩, .int .i64 x1.2.2]⟩))))) (by kernel_rfl) ?_
  unfold aaddR
  cases h : avalidB a b
  · rfl
  · cases h2 : avalidB c d
    · rfl
    · have := aval_bd h
      have := aval_bd h2
      rw [i64w (x := a + c) (by omega), i64w (x := b + d) (by omega)]
      rfl
def asubR (a b c d : Int) : Int × Int × Int := if avalidB a b = true ∧ avalidB c d = true then resR (a - d) (b - c) else (0, 0, 1)
noncomputable def kF25 : Book := (48, ePP (fun a b c d => arcV (aaddR a b c d))) :: kF24
theorem kF25_ok : BookOk Tryz.prog kF25 := (bookOk_cons (ePP_ok aaddR_gives) kF24_ok)
theorem asubR_gives (a b c d : Int) : Gives Tryz.prog 46 [.agg ⟨[.int .i64 a, .int .i64 b]⟩, .agg ⟨[.int .i64 c, .int .i64 d]⟩] (arcV (asubR a b c d)) := by
  refine ev6_gives EN_ok kF25_ok (t := lt (anegR c d) fun x1 => cond (x1.2.2 != 0) (some (.v (.tuple ⟨[.agg ⟨[.int .i64 x1.1, .int .i64 x1.2.1]⟩, .int .i64 x1.2.2]⟩))) (lt (aaddR a b x1.1 x1.2.1) fun x2 => some (.v (.tuple ⟨[.agg ⟨[.int .i64 x2.1, .int .i64 x2.2.1]⟩, .int .i64 x2.2.2]⟩)))) (by kernel_rfl) ?_
  unfold asubR
  unfold anegR
  cases h2 : avalidB c d
  · simp only [lt]
    cases h : avalidB a b <;> rfl
  · have := aval_bd h2
    simp only [lt]
    have e : aaddR a b (-d) (-c) = if avalidB a b = true ∧ True then resR (a - d) (b - c) else (0, 0, 1) := by
      unfold aaddR
      have : avalidB (-d) (-c) = true := by simp [avalidB]; omega
      rw [this]
      simp [Int.sub_eq_add_neg]
    simp only [if_pos]
    rw [e]
    cases h : avalidB a b <;> rfl
end Go.Proofs.YtfilgpifiboccaaGreat

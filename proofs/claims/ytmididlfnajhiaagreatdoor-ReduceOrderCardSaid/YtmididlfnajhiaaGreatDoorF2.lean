/-
  Quotients of fixed-point intervals, and angles: what each function gives, as a plain law.
-/
import Derived.Test.YtmididlfnajhiaaGreatDoorF1
import Derived.Test.YtmididlfnajhiaaGreatDoorT54
import Derived.Test.YtmididlfnajhiaaGreatDoorT37
import Derived.Test.YtmididlfnajhiaaGreatDoorT22
namespace Go.Proofs.YtmididlfnajhiaaGreatDoor
open Ev

def divL (a b c d : Int) : Int := mn (mn (mn (mn (flD (a * 1073741824) c) (flD (a * 1073741824) c)) (flD (a * 1073741824) d)) (flD (b * 1073741824) c)) (flD (b * 1073741824) d)
def divH (a b c d : Int) : Int := mx (mx (mx (mx (ceD (a * 1073741824) c) (ceD (a * 1073741824) c)) (ceD (a * 1073741824) d)) (ceD (b * 1073741824) c)) (ceD (b * 1073741824) d)
def divR (a b c d : Int) : Int × Int × Int := if bothB a b c d = true then (if zeroB c d = true then (0, 0, 16) else fitR (divL a b c d) (divH a b c d)) else (0, 0, 1)
noncomputable def book_divR_gives : Book := [(183, ePP (fun a b c d => .bool (bothB a b c d))), (184, eII (fun a b => arcV (fitR a b))), (185, eIIif flP (fun a b => .int .i64 (flD a b))), (186, eIIif flP (fun a b => .int .i64 (ceD a b))), (223, eP (fun a b => .bool (zeroB a b)))]
theorem book_divR_gives_ok : BookOk Tryz.prog book_divR_gives := (bookOk_cons (ePP_ok bothB_gives) (bookOk_cons (eII_ok fitR_gives) (bookOk_cons (eIIif_ok flD_gives) (bookOk_cons (eIIif_ok ceD_gives) (bookOk_cons (eP_ok zeroB_gives) bookOk_nil)))))
theorem divR_gives_tree (a b c d : Int) : evF Tryz.prog [] Cs book_divR_gives 20 6 193 ([.agg ⟨[.int .i64 a, .int .i64 b]⟩, .agg ⟨[.int .i64 c, .int .i64 d]⟩].map AV.v) [] [] last =
  cond (!(bothB a b c d))
  (some (.v (.tuple ⟨[.agg ⟨[.int .i64 0, .int .i64 0]⟩, .int .i64 1]⟩)))
  (cond (zeroB c d)
   (some (.v (.tuple ⟨[.agg ⟨[.int .i64 0, .int .i64 0]⟩, .int .i64 16]⟩)))
   (cond (flP (IntKind.i64.wrap (a * 1073741824)) c)
    (cond (flP (IntKind.i64.wrap (a * 1073741824)) c)
     (cond (flP (IntKind.i64.wrap (a * 1073741824)) c)
      (cond (flP (IntKind.i64.wrap (a * 1073741824)) c)
       (cond (flP (IntKind.i64.wrap (a * 1073741824)) d)
        (cond (flP (IntKind.i64.wrap (a * 1073741824)) d)
         (cond (flP (IntKind.i64.wrap (b * 1073741824)) c)
          (cond (flP (IntKind.i64.wrap (b * 1073741824)) c)
           (cond (flP (IntKind.i64.wrap (b * 1073741824)) d)
            (cond (flP (IntKind.i64.wrap (b * 1073741824)) d)
             (lt (fitR (mn (mn (mn (mn (flD (IntKind.i64.wrap (a * 1073741824)) c) (flD (IntKind.i64.wrap (a * 1073741824)) c)) (flD (IntKind.i64.wrap (a * 1073741824)) d)) (flD (IntKind.i64.wrap (b * 1073741824)) c)) (flD (IntKind.i64.wrap (b * 1073741824)) d)) (mx (mx (mx (mx (ceD (IntKind.i64.wrap (a * 1073741824)) c) (ceD (IntKind.i64.wrap (a * 1073741824)) c)) (ceD (IntKind.i64.wrap (a * 1073741824)) d)) (ceD (IntKind.i64.wrap (b * 1073741824)) c)) (ceD (IntKind.i64.wrap (b * 1073741824)) d))) fun x1 =>
              some (.v (.tuple ⟨[.agg ⟨[.int .i64 x1.1, .int .i64 x1.2.1]⟩, .int .i64 x1.2.2]⟩)))
             (none))
            (none))
           (none))
          (none))
         (none))
        (none))
       (none))
      (none))
     (none))
    (none))) := by kernel_rfl
theorem divR_gives (a b c d : Int) : Gives Tryz.prog 193 [.agg ⟨[.int .i64 a, .int .i64 b]⟩, .agg ⟨[.int .i64 c, .int .i64 d]⟩] (arcV (divR a b c d)) := by
  refine evF_gives (E := []) mixed (by simp) Cs_ok book_divR_gives_ok (lim := 20) (d := 6) (nm := []) ?_
  rw [divR_gives_tree a b c d]
  unfold divR
  cases h : bothB a b c d
  · rfl
  · cases hz : zeroB c d
    · have := both_bd h
      have hz := of_decide_eq_false hz
      rw [i64w (x := a * 1073741824) (by omega), i64w (x := b * 1073741824) (by omega)]
      have f1 : flP (a * 1073741824) c = true := decide_eq_true ⟨by omega, by omega, by omega⟩
      have f2 : flP (a * 1073741824) d = true := decide_eq_true ⟨by omega, by omega, by omega⟩
      have f3 : flP (b * 1073741824) c = true := decide_eq_true ⟨by omega, by omega, by omega⟩
      have f4 : flP (b * 1073741824) d = true := decide_eq_true ⟨by omega, by omega, by omega⟩
      rw [f1, f2, f3, f4]
      rfl
    · rfl
def wrapN (n : Int) : Int := n % 21600000
def fitsB (a : Int) : Bool := decide (-1099511627776 ≤ a ∧ a ≤ 1099511627776)
noncomputable def book_fitsB_gives : Book := []
theorem book_fitsB_gives_ok : BookOk Tryz.prog book_fitsB_gives := bookOk_nil
theorem fitsB_gives_tree (a : Int) : evF Tryz.prog [] Cs book_fitsB_gives 20 6 124 ([.int .i64 a].map AV.v) [] [] last =
  cond (decide (a ≥ (-1099511627776)))
  (some (.v (.bool (decide (a ≤ 1099511627776)))))
  (some (.v (.bool false))) := by kernel_rfl
theorem fitsB_gives (a : Int) : Gives Tryz.prog 124 [.int .i64 a] (.bool (fitsB a)) := by
  refine evF_gives (E := []) mixed (by simp) Cs_ok book_fitsB_gives_ok (lim := 20) (d := 6) (nm := []) ?_
  rw [fitsB_gives_tree a]
  cases h1 : (decide (a ≥ (-1099511627776)))
  · rw [cond_false]
    replace h1 := of_decide_eq_false h1
    simp [fitsB, *]
  · rw [cond_true]
    replace h1 := of_decide_eq_true h1
    simp [fitsB, *]
def resR (a b : Int) : Int × Int × Int := if fitsB a = true ∧ fitsB b = true then (a, b, 0) else (0, 0, 5)
noncomputable def book_resR_gives : Book := [(124, eI (fun a => .bool (fitsB a)))]
theorem book_resR_gives_ok : BookOk Tryz.prog book_resR_gives := (bookOk_cons (eI_ok fitsB_gives) bookOk_nil)
theorem resR_gives_tree (a b : Int) : evF Tryz.prog [] Cs book_resR_gives 20 6 144 ([.int .i64 a, .int .i64 b].map AV.v) [] [] last =
  cond (!(fitsB a))
  (some (.v (.tuple ⟨[.agg ⟨[.int .i64 0, .int .i64 0]⟩, .int .i64 5]⟩)))
  (cond (!(fitsB b))
   (some (.v (.tuple ⟨[.agg ⟨[.int .i64 0, .int .i64 0]⟩, .int .i64 5]⟩)))
   (some (.v (.tuple ⟨[.agg ⟨[.int .i64 a, .int .i64 b]⟩, .int .i64 0]⟩)))) := by kernel_rfl
theorem resR_gives (a b : Int) : Gives Tryz.prog 144 [.int .i64 a, .int .i64 b] (arcV (resR a b)) := by
  refine evF_gives (E := []) mixed (by simp) Cs_ok book_resR_gives_ok (lim := 20) (d := 6) (nm := []) ?_
  rw [resR_gives_tree a b]
  cases h1 : (fitsB a)
  · rw [Bool.not_false, cond_true]
    simp [resR, arcV, pairV, *]
  · rw [Bool.not_true, cond_false]
    cases h2 : (fitsB b)
    · rw [Bool.not_false, cond_true]
      simp [resR, arcV, pairV, *]
    · rw [Bool.not_true, cond_false]
      simp [resR, arcV, pairV, *]
def anegR (a b : Int) : Int × Int × Int := if avalidB a b = true then (-b, -a, 0) else (0, 0, 1)
theorem aval_bd {a b : Int} (h : avalidB a b = true) : -1099511627776 ≤ a ∧ a ≤ b ∧ b ≤ 1099511627776 := by simpa [avalidB] using h
noncomputable def book_anegR_gives : Book := [(58, eP (fun a b => .bool (avalidB a b))), (144, eII (fun a b => arcV (resR a b)))]
theorem book_anegR_gives_ok : BookOk Tryz.prog book_anegR_gives := (bookOk_cons (eP_ok (fun a b W _ => gvalid_any a b W)) (bookOk_cons (eII_ok resR_gives) bookOk_nil))
theorem anegR_gives_tree (a b : Int) : evF Tryz.prog [] Cs book_anegR_gives 20 6 85 ([.agg ⟨[.int .i64 a, .int .i64 b]⟩].map AV.v) [] [] last =
  cond (!(avalidB a b))
  (some (.v (.tuple ⟨[.agg ⟨[.int .i64 0, .int .i64 0]⟩, .int .i64 1]⟩)))
  (lt (resR (IntKind.i64.wrap (0 - b)) (IntKind.i64.wrap (0 - a))) fun x1 =>
   some (.v (.tuple ⟨[.agg ⟨[.int .i64 x1.1, .int .i64 x1.2.1]⟩, .int .i64 x1.2.2]⟩))) := by kernel_rfl
theorem anegR_gives (a b : Int) : Gives Tryz.prog 85 [.agg ⟨[.int .i64 a, .int .i64 b]⟩] (arcV (anegR a b)) := by
  refine evF_gives (E := []) mixed (by simp) Cs_ok book_anegR_gives_ok (lim := 20) (d := 6) (nm := []) ?_
  rw [anegR_gives_tree a b]
  unfold anegR
  cases h : avalidB a b
  · rfl
  · have := aval_bd h
    rw [i64w (x := 0 - b) (by omega), i64w (x := 0 - a) (by omega), Int.zero_sub, Int.zero_sub]
    have e : resR (-b) (-a) = (-b, -a, 0) := by unfold resR fitsB; simp; omega
    rw [e]
    rfl
def aaddR (a b c d : Int) : Int × Int × Int := if avalidB a b = true ∧ avalidB c d = true then resR (a + c) (b + d) else (0, 0, 1)
noncomputable def book_aaddR_gives : Book := [(58, eP (fun a b => .bool (avalidB a b))), (144, eII (fun a b => arcV (resR a b)))]
theorem book_aaddR_gives_ok : BookOk Tryz.prog book_aaddR_gives := (bookOk_cons (eP_ok (fun a b W _ => gvalid_any a b W)) (bookOk_cons (eII_ok resR_gives) bookOk_nil))
theorem aaddR_gives_tree (a b c d : Int) : evF Tryz.prog [] Cs book_aaddR_gives 20 6 125 ([.agg ⟨[.int .i64 a, .int .i64 b]⟩, .agg ⟨[.int .i64 c, .int .i64 d]⟩].map AV.v) [] [] last =
  cond (!(avalidB a b))
  (some (.v (.tuple ⟨[.agg ⟨[.int .i64 0, .int .i64 0]⟩, .int .i64 1]⟩)))
  (cond (!(avalidB c d))
   (some (.v (.tuple ⟨[.agg ⟨[.int .i64 0, .int .i64 0]⟩, .int .i64 1]⟩)))
   (lt (resR (IntKind.i64.wrap (a + c)) (IntKind.i64.wrap (b + d))) fun x1 =>
    some (.v (.tuple ⟨[.agg ⟨[.int .i64 x1.1, .int .i64 x1.2.1]⟩, .int .i64 x1.2.2]⟩)))) := by kernel_rfl
theorem aaddR_gives (a b c d : Int) : Gives Tryz.prog 125 [.agg ⟨[.int .i64 a, .int .i64 b]⟩, .agg ⟨[.int .i64 c, .int .i64 d]⟩] (arcV (aaddR a b c d)) := by
  refine evF_gives (E := []) mixed (by simp) Cs_ok book_aaddR_gives_ok (lim := 20) (d := 6) (nm := []) ?_
  rw [aaddR_gives_tree a b c d]
  unfold aaddR
  cases h : avalidB a b
  · rfl
  · cases h2 : avalidB c d
    · rfl
    · have := aval_bd h
      have := aval_bd h2
      rw [i64w (x := a + c) (by omega), i64w (x := b + d) (by omega)]
      rfl
def asubR (a b c d : Int) : Int × Int × Int := if avalidB a b = true ∧ avalidB c d = true then resR (a - d) (b - c) else (0, 0, 1)
noncomputable def book_asubR_gives : Book := [(85, eP (fun a b => arcV (anegR a b))), (125, ePP (fun a b c d => arcV (aaddR a b c d)))]
theorem book_asubR_gives_ok : BookOk Tryz.prog book_asubR_gives := (bookOk_cons (eP_ok anegR_gives) (bookOk_cons (ePP_ok aaddR_gives) bookOk_nil))
theorem asubR_gives_tree (a b c d : Int) : evF Tryz.prog [] Cs book_asubR_gives 20 6 61 ([.agg ⟨[.int .i64 a, .int .i64 b]⟩, .agg ⟨[.int .i64 c, .int .i64 d]⟩].map AV.v) [] [] last =
  lt (anegR c d) fun x1 =>
  cond (x1.2.2 != 0)
  (some (.v (.tuple ⟨[.agg ⟨[.int .i64 x1.1, .int .i64 x1.2.1]⟩, .int .i64 x1.2.2]⟩)))
  (lt (aaddR a b x1.1 x1.2.1) fun x2 =>
   some (.v (.tuple ⟨[.agg ⟨[.int .i64 x2.1, .int .i64 x2.2.1]⟩, .int .i64 x2.2.2]⟩))) := by kernel_rfl
theorem asubR_gives (a b c d : Int) : Gives Tryz.prog 61 [.agg ⟨[.int .i64 a, .int .i64 b]⟩, .agg ⟨[.int .i64 c, .int .i64 d]⟩] (arcV (asubR a b c d)) := by
  refine evF_gives (E := []) mixed (by simp) Cs_ok book_asubR_gives_ok (lim := 20) (d := 6) (nm := []) ?_
  rw [asubR_gives_tree a b c d]
  unfold asubR
  unfold anegR
  cases h2 : avalidB c d
  · simp only [lt]
    cases h : avalidB a b <;> rfl
  · have := aval_bd h2
    simp only [lt]
    have e : aaddR a b (-d) (-c) = if avalidB a b = true ∧ True then resR (a - d) (b - c) else (0, 0, 1) := by
      unfold aaddR
      have : avalidB (-d) (-c) = true := by simp [avalidB]; omega
      rw [this]
      simp [Int.sub_eq_add_neg]
    simp only [if_pos]
    rw [e]
    cases h : avalidB a b <;> rfl
def turnR (a b : Int) : Int × Int × Int := if avalidB a b = true then (turnL a b, turnH a b, 0) else (0, 0, 1)
noncomputable def book_turnR_gives : Book := [(58, eP (fun a b => .bool (avalidB a b))), (59, eI (fun a => .int .i64 (wrapN a)))]
theorem book_turnR_gives_ok : BookOk Tryz.prog book_turnR_gives := (bookOk_cons (eP_ok (fun a b W _ => gvalid_any a b W)) (bookOk_cons (eI_ok (fun a W _ => wrap_any a W)) bookOk_nil))
theorem turnR_gives_tree (a b : Int) : evF Tryz.prog [] Cs book_turnR_gives 20 6 78 ([.agg ⟨[.int .i64 a, .int .i64 b]⟩].map AV.v) [] [] last =
  cond (!(avalidB a b))
  (some (.v (.tuple ⟨[.agg ⟨[.int .i64 0, .int .i64 0]⟩, .int .i64 1]⟩)))
  (cond (decide (IntKind.i64.wrap (b - a) ≥ 21600000))
   (some (.v (.tuple ⟨[.agg ⟨[.int .i64 0, .int .i64 21600000]⟩, .int .i64 0]⟩)))
   (some (.v (.tuple ⟨[.agg ⟨[.int .i64 (wrapN a), .int .i64 (IntKind.i64.wrap ((wrapN a) + (IntKind.i64.wrap (b - a))))]⟩, .int .i64 0]⟩)))) := by kernel_rfl
theorem turnR_gives (a b : Int) : Gives Tryz.prog 78 [.agg ⟨[.int .i64 a, .int .i64 b]⟩] (arcV (turnR a b)) := by
  refine evF_gives (E := []) mixed (by simp) Cs_ok book_turnR_gives_ok (lim := 20) (d := 6) (nm := []) ?_
  rw [turnR_gives_tree a b]
  unfold turnR
  cases h : avalidB a b
  · rfl
  · have := aval_bd h
    unfold wrapN
    rw [i64w (x := b - a) (by omega), i64w (x := a % 21600000 + (b - a)) (by omega)]
    unfold turnL turnH
    by_cases h1 : 21600000 ≤ b - a
    · have e : decide (b - a ≥ 21600000) = true := decide_eq_true h1
      rw [e]
      simp [h1, arcV, pairV]
    · have e : decide (b - a ≥ 21600000) = false := decide_eq_false h1
      rw [e]
      simp [h1, arcV, pairV]
def ameetR (a b c d : Int) : Int × Int × Int := if avalidB a b = true ∧ avalidB c d = true then (if mx a c > mn b d then (0, 0, 23) else (mx a c, mn b d, 0)) else (0, 0, 1)
noncomputable def book_ameetR_gives : Book := [(58, eP (fun a b => .bool (avalidB a b)))]
theorem book_ameetR_gives_ok : BookOk Tryz.prog book_ameetR_gives := (bookOk_cons (eP_ok (fun a b W _ => gvalid_any a b W)) bookOk_nil)
theorem ameetR_gives_tree (a b c d : Int) : evF Tryz.prog [] Cs book_ameetR_gives 20 6 28 ([.agg ⟨[.int .i64 a, .int .i64 b]⟩, .agg ⟨[.int .i64 c, .int .i64 d]⟩].map AV.v) [] [] last =
  cond (!(avalidB a b))
  (some (.v (.tuple ⟨[.agg ⟨[.int .i64 0, .int .i64 0]⟩, .int .i64 1]⟩)))
  (cond (!(avalidB c d))
   (some (.v (.tuple ⟨[.agg ⟨[.int .i64 0, .int .i64 0]⟩, .int .i64 1]⟩)))
   (cond (decide ((mx a c) > (mn b d)))
    (some (.v (.tuple ⟨[.agg ⟨[.int .i64 0, .int .i64 0]⟩, .int .i64 23]⟩)))
    (some (.v (.tuple ⟨[.agg ⟨[.int .i64 (mx a c), .int .i64 (mn b d)]⟩, .int .i64 0]⟩))))) := by kernel_rfl
theorem ameetR_gives (a b c d : Int) : Gives Tryz.prog 28 [.agg ⟨[.int .i64 a, .int .i64 b]⟩, .agg ⟨[.int .i64 c, .int .i64 d]⟩] (arcV (ameetR a b c d)) := by
  refine evF_gives (E := []) mixed (by simp) Cs_ok book_ameetR_gives_ok (lim := 20) (d := 6) (nm := []) ?_
  rw [ameetR_gives_tree a b c d]
  cases h1 : (avalidB a b)
  · rw [Bool.not_false, cond_true]
    simp [ameetR, arcV, pairV, *]
  · rw [Bool.not_true, cond_false]
    cases h2 : (avalidB c d)
    · rw [Bool.not_false, cond_true]
      simp [ameetR, arcV, pairV, *]
    · rw [Bool.not_true, cond_false]
      cases h3 : (decide ((mx a c) > (mn b d)))
      · rw [cond_false]
        replace h3 := of_decide_eq_false h3
        simp [ameetR, arcV, pairV, *]
      · rw [cond_true]
        replace h3 := of_decide_eq_true h3
        simp [ameetR, arcV, pairV, *]
def insideB (a b c d : Int) : Bool := avalidB a b && (avalidB c d && (decide (a ≥ c) && decide (b ≤ d)))
noncomputable def book_insideB_gives : Book := [(58, eP (fun a b => .bool (avalidB a b)))]
theorem book_insideB_gives_ok : BookOk Tryz.prog book_insideB_gives := (bookOk_cons (eP_ok (fun a b W _ => gvalid_any a b W)) bookOk_nil)
theorem insideB_gives_tree (a b c d : Int) : evF Tryz.prog [] Cs book_insideB_gives 20 6 29 ([.agg ⟨[.int .i64 a, .int .i64 b]⟩, .agg ⟨[.int .i64 c, .int .i64 d]⟩].map AV.v) [] [] last =
  cond (avalidB a b)
  (cond (avalidB c d)
   (cond (decide (a ≥ c))
    (some (.v (.bool (decide (b ≤ d)))))
    (some (.v (.bool false))))
   (some (.v (.bool false))))
  (some (.v (.bool false))) := by kernel_rfl
theorem insideB_gives (a b c d : Int) : Gives Tryz.prog 29 [.agg ⟨[.int .i64 a, .int .i64 b]⟩, .agg ⟨[.int .i64 c, .int .i64 d]⟩] (.bool (insideB a b c d)) := by
  refine evF_gives (E := []) mixed (by simp) Cs_ok book_insideB_gives_ok (lim := 20) (d := 6) (nm := []) ?_
  rw [insideB_gives_tree a b c d]
  cases h1 : (avalidB a b)
  · rw [cond_false]
    simp [insideB, *]
  · rw [cond_true]
    cases h2 : (avalidB c d)
    · rw [cond_false]
      simp [insideB, *]
    · rw [cond_true]
      cases h3 : (decide (a ≥ c))
      · rw [cond_false]
        replace h3 := of_decide_eq_false h3
        simp [insideB, *]
      · rw [cond_true]
        replace h3 := of_decide_eq_true h3
        simp [insideB, *]
def agreeR (a b c d : Int) : Bool × Int := if avalidB a b = true ∧ avalidB c d = true then (decide ((c - a) % 21600000 ≤ b - a ∨ (a - c) % 21600000 ≤ d - c), 0) else (false, 1)
noncomputable def book_agreeR_gives : Book := [(58, eP (fun a b => .bool (avalidB a b))), (59, eI (fun a => .int .i64 (wrapN a)))]
theorem book_agreeR_gives_ok : BookOk Tryz.prog book_agreeR_gives := (bookOk_cons (eP_ok (fun a b W _ => gvalid_any a b W)) (bookOk_cons (eI_ok (fun a W _ => wrap_any a W)) bookOk_nil))
theorem agreeR_gives_tree (a b c d : Int) : evF Tryz.prog [] Cs book_agreeR_gives 20 6 27 ([.agg ⟨[.int .i64 a, .int .i64 b]⟩, .agg ⟨[.int .i64 c, .int .i64 d]⟩].map AV.v) [] [] last =
  cond (!(avalidB a b))
  (some (.v (.tuple ⟨[.bool false, .int .i64 1]⟩)))
  (cond (!(avalidB c d))
   (some (.v (.tuple ⟨[.bool false, .int .i64 1]⟩)))
   (cond (decide ((wrapN (IntKind.i64.wrap (c - a))) ≤ IntKind.i64.wrap (b - a)))
    (some (.v (.tuple ⟨[.bool true, .int .i64 0]⟩)))
    (some (.v (.tuple ⟨[.bool (decide ((wrapN (IntKind.i64.wrap (a - c))) ≤ IntKind.i64.wrap (d - c))), .int .i64 0]⟩))))) := by kernel_rfl
theorem agreeR_gives (a b c d : Int) : Gives Tryz.prog 27 [.agg ⟨[.int .i64 a, .int .i64 b]⟩, .agg ⟨[.int .i64 c, .int .i64 d]⟩] (boolV (agreeR a b c d)) := by
  refine evF_gives (E := []) mixed (by simp) Cs_ok book_agreeR_gives_ok (lim := 20) (d := 6) (nm := []) ?_
  rw [agreeR_gives_tree a b c d]
  unfold agreeR
  cases h1 : avalidB a b
  · simp [boolV]
  · cases h2 : avalidB c d
    · simp [boolV]
    · have h3 := aval_bd h1
      have h4 := aval_bd h2
      unfold wrapN
      rw [i64w (x := c - a) (by omega), i64w (x := b - a) (by omega), i64w (x := a - c) (by omega), i64w (x := d - c) (by omega)]
      by_cases h5 : (c - a) % 21600000 ≤ b - a
      · simp [h5, boolV]
      · simp [h5, boolV]
end Go.Proofs.YtmididlfnajhiaaGreatDoor

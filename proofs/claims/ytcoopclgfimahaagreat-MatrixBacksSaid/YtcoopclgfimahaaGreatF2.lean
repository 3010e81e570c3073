/-
  Quotients of fixed-point intervals, and angles: what each function gives, as a plain law.
-/
import Derived.Test.YtcoopclgfimahaaGreatF1
import Derived.Test.YtcoopclgfimahaaGreatT54
import Derived.Test.YtcoopclgfimahaaGreatT37
import Derived.Test.YtcoopclgfimahaaGreatT22
namespace Go.Proofs.YtcoopclgfimahaaGreat
open Ev

theorem aval_bd {a b : Int} (h : avalidB a b = true) : -1099511627776 ≤ a ∧ a ≤ b ∧ b ≤ 1099511627776 := by simpa [avalidB] using h
def ameetR (a b c d : Int) : Int × Int × Int := if avalidB a b = true ∧ avalidB c d = true then (if mx a c > mn b d then (0, 0, 23) else (mx a c, mn b d, 0)) else (0, 0, 1)
noncomputable def book_ameetR_gives : Book := [(29, eP (fun a b => .bool (avalidB a b)))]
theorem book_ameetR_gives_ok : BookOk Tryz.prog book_ameetR_gives := (bookOk_cons (eP_ok gvalid_any) bookOk_nil)
theorem ameetR_gives_tree (a b c d : Int) : evF Tryz.prog [] Cs book_ameetR_gives 20 6 41 ([.agg ⟨[.int .i64 a, .int .i64 b]⟩, .agg ⟨[.int .i64 c, .int .i64 d]⟩].map AV.v) [] [] last =
  cond (!(avalidB a b))
  (some (.v (.tuple ⟨[.agg ⟨[.int .i64 0, .int .i64 0]⟩, .int .i64 1]⟩)))
  (cond (!(avalidB c d))
   (some (.v (.tuple ⟨[.agg ⟨[.int .i64 0, .int .i64 0]⟩, .int .i64 1]⟩)))
   (cond (decide ((mx a c) > (mn b d)))
    (some (.v (.tuple ⟨[.agg ⟨[.int .i64 0, .int .i64 0]⟩, .int .i64 23]⟩)))
    (some (.v (.tuple ⟨[.agg ⟨[.int .i64 (mx a c), .int .i64 (mn b d)]⟩, .int .i64 0]⟩))))) := by kernel_rfl
theorem ameetR_gives (a b c d : Int) : Gives Tryz.prog 41 [.agg ⟨[.int .i64 a, .int .i64 b]⟩, .agg ⟨[.int .i64 c, .int .i64 d]⟩] (arcV (ameetR a b c d)) := by
  refine evF_gives (E := []) mixed (by simp) Cs_ok book_ameetR_gives_ok (lim := 20) (d := 6) (nm := []) ?_
  rw [ameetR_gives_tree a b c d]
  cases h1 : (avalidB a b)
  · rw [Bool.not_false, cond_true]
    simp [ameetR, arcV, pairV, *]
  · rw [Bool.not_true, cond_false]
    cases h2 : (avalidB c d)
    · rw [Bool.not_false, cond_true]
      simp [ameetR, arcV, pairV, *]
    · rw [Bool.not_true, cond_false]
      cases h3 : (decide ((mx a c) > (mn b d)))
      · rw [cond_false]
        replace h3 := of_decide_eq_false h3
        simp [ameetR, arcV, pairV, *]
      · rw [cond_true]
        replace h3 := of_decide_eq_true h3
        simp [ameetR, arcV, pairV, *]
def agreeR (a b c d : Int) : Bool × Int := if avalidB a b = true ∧ avalidB c d = true then (decide ((c - a) % 21600000 ≤ b - a ∨ (a - c) % 21600000 ≤ d - c), 0) else (false, 1)
end Go.Proofs.YtcoopclgfimahaaGreat

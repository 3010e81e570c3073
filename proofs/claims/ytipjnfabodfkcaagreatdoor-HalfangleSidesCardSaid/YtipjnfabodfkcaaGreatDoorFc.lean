/-
  The cosine formula: what each function gives.
-/
import Derived.Test.YtipjnfabodfkcaaGreatDoorF2
namespace Go.Proofs.YtipjnfabodfkcaaGreatDoor
open Ev

def solV (r : Int × Int × Int × Int × Int) : Value := .tuple ⟨[.agg ⟨[.int .i64 r.1, .int .i64 r.2.1, .int .i64 r.2.2.1, .int .i64 r.2.2.2.1]⟩, .int .i64 r.2.2.2.2]⟩
def latB (a b : Int) : Bool := avalidB a b && (decide (a ≥ -5400000) && decide (b ≤ 5400000))
noncomputable def book_latB_gives : Book := [(54, eP (fun a b => .bool (avalidB a b)))]
theorem book_latB_gives_ok : BookOk Tryz.prog book_latB_gives := (bookOk_cons (eP_ok (fun a b W _ => gvalid_any a b W)) bookOk_nil)
theorem latB_gives_tree (a b : Int) : evF Tryz.prog [] Cs book_latB_gives 20 6 66 ([.agg ⟨[.int .i64 a, .int .i64 b]⟩].map AV.v) [] [] last =
  cond (avalidB a b)
  (cond (decide (a ≥ (-5400000)))
   (some (.v (.bool (decide (b ≤ 5400000)))))
   (some (.v (.bool false))))
  (some (.v (.bool false))) := by kernel_rfl
theorem latB_gives (a b : Int) : Gives Tryz.prog 66 [.agg ⟨[.int .i64 a, .int .i64 b]⟩] (.bool (latB a b)) := by
  refine evF_gives (E := []) mixed (by simp) Cs_ok book_latB_gives_ok (lim := 20) (d := 6) (nm := []) ?_
  rw [latB_gives_tree a b]
  cases h1 : (avalidB a b)
  · rw [cond_false]
    simp [latB, *]
  · rw [cond_true]
    cases h2 : (decide (a ≥ (-5400000)))
    · rw [cond_false]
      replace h2 := of_decide_eq_false h2
      simp [latB, *]
    · rw [cond_true]
      replace h2 := of_decide_eq_true h2
      simp [latB, *]
def triB (a b c d e f : Int) : Bool := latB a b && (latB c d && avalidB e f)
noncomputable def book_triB_gives : Book := [(54, eP (fun a b => .bool (avalidB a b))), (66, eP (fun a b => .bool (latB a b)))]
theorem book_triB_gives_ok : BookOk Tryz.prog book_triB_gives := (bookOk_cons (eP_ok (fun a b W _ => gvalid_any a b W)) (bookOk_cons (eP_ok latB_gives) bookOk_nil))
theorem triB_gives_tree (a b c d e f : Int) : evF Tryz.prog [] Cs book_triB_gives 20 6 23 ([.agg ⟨[.int .i64 a, .int .i64 b, .int .i64 c, .int .i64 d, .int .i64 e, .int .i64 f]⟩].map AV.v) [] [] last =
  cond (latB a b)
  (cond (latB c d)
   (some (.v (.bool (avalidB e f))))
   (some (.v (.bool false))))
  (some (.v (.bool false))) := by kernel_rfl
theorem triB_gives (a b c d e f : Int) : Gives Tryz.prog 23 [.agg ⟨[.int .i64 a, .int .i64 b, .int .i64 c, .int .i64 d, .int .i64 e, .int .i64 f]⟩] (.bool (triB a b c d e f)) := by
  refine evF_gives (E := []) mixed (by simp) Cs_ok book_triB_gives_ok (lim := 20) (d := 6) (nm := []) ?_
  rw [triB_gives_tree a b c d e f]
  cases h1 : (latB a b)
  · rw [cond_false]
    simp [triB, *]
  · rw [cond_true]
    cases h2 : (latB c d)
    · rw [cond_false]
      simp [triB, *]
    · rw [cond_true]
      simp [triB, *]
end Go.Proofs.YtipjnfabodfkcaaGreatDoor

/-
  HaversineAzimuths answers true.
-/
import Derived.Test.YtcjkfchjcealbaaGreatR4
namespace Go.Proofs.YtcjkfchjcealbaaGreat
open Ev

open SM
theorem self_eq (x y : Int) : ((x == x) && ((y == y) && true)) = true := by simp
def allY (_a _b _c _d _e _f _u _v : Int) : Bool := true
noncomputable def book_haz_any : Book := [(6, e0 (.bool (true))), (8, eT (fun a b c d e f => .bool (rtriM a b c d e f))), (10, eTP (fun a b c d e f u v => arcV (aziM a b c d e f u v))), (11, eP (fun a b => .bool (distM a b))), (12, eTPif angP (fun a b c d e f u v => arcV (aziM a b c d e f u v)))]
theorem book_haz_any_ok : BookOk Tryz.prog book_haz_any := (bookOk_cons (e0_ok awake_gives) (bookOk_cons (eT_ok rtriM_gives) (bookOk_cons (eTP_ok aziM_gives) (bookOk_cons (eP_ok distM_gives) (bookOk_cons (eTPif_ok razi_gives) bookOk_nil)))))
theorem haz_any_tree (a b c d e f u v : Int) : evF Tryz.prog Es Cs book_haz_any 20 6 4 ([.agg ⟨[.int .i64 a, .int .i64 b, .int .i64 c, .int .i64 d, .int .i64 e, .int .i64 f]⟩, .agg ⟨[.int .i64 u, .int .i64 v]⟩].map AV.v) [] [] last =
  cond (!(true))
  (some (.v (.bool false)))
  (lt (aziM a b c d e f u v) fun x1 =>
   cond (!(rtriM a b c d e f))
   (cond ((x1.1 == 0) && ((x1.2.1 == 0) && true))
    (some (.v (.bool (x1.2.2 == 1))))
    (some (.v (.bool false))))
   (cond (!(distM u v))
    (cond ((x1.1 == 0) && ((x1.2.1 == 0) && true))
     (some (.v (.bool (x1.2.2 == 1))))
     (some (.v (.bool false))))
    (lt (aziM a b c d e f u v) fun x2 =>
     cond (angP a b c d e f u v)
     (cond ((x1.1 == x2.1) && ((x1.2.1 == x2.2.1) && true))
      (some (.v (.bool (x1.2.2 == x2.2.2))))
      (some (.v (.bool false))))
     (none)))) := by kernel_rfl
theorem haz_any (a b c d e f u v : Int) : Gives Tryz.prog 4 [.agg ⟨[.int .i64 a, .int .i64 b, .int .i64 c, .int .i64 d, .int .i64 e, .int .i64 f]⟩, .agg ⟨[.int .i64 u, .int .i64 v]⟩] (.bool (allY a b c d e f u v)) := by
  refine evF_gives (E := Es) mixed Es_ok Cs_ok book_haz_any_ok (lim := 20) (d := 6) (nm := []) ?_
  rw [haz_any_tree a b c d e f u v]
  simp only [lt, Bool.not_true, cond_false]
  rw [rtri_eq]
  unfold allY
  cases ht : triB a b c d e f with
  | false =>
    have : aziM a b c d e f u v = (0, 0, 1) := by unfold aziM; rw [ht]; rfl
    rw [this]
    rfl
  | true =>
    simp only [Bool.not_true, cond_false]
    cases hd : distM u v with
    | false =>
      have hn : ¬ (0 ≤ u ∧ u ≤ v ∧ v ≤ 10800000) := fun q => by rw [(dist_eq u v).2 q] at hd; cases hd
      have : aziM a b c d e f u v = (0, 0, 1) := by
        unfold aziM
        rw [ht]
        simp only [Bool.not_true, cond_false]
        by_cases c1 : u < 0
        · rw [decT c1]; rfl
        · rw [decF c1, cond_false]
          by_cases c2 : u > v
          · rw [decT c2]; rfl
          · rw [decF c2, cond_false, decT (show v > 10800000 by omega)]; rfl
      rw [this]
      rfl
    | true =>
      have : angP a b c d e f u v = true := by unfold angP; rw [ht, hd]; rfl
      rw [this, self_eq, beq_self_eq_true]
      rfl
end Go.Proofs.YtcjkfchjcealbaaGreat

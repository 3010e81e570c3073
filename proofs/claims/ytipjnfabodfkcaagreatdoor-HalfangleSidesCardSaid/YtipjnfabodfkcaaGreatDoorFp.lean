/-
  halfangle.Solve: what it answers, as the plain law. No program here.
-/
import Derived.Test.YtipjnfabodfkcaaGreatDoorFf
import Derived.Test.YtipjnfabodfkcaaGreatDoorHf7
namespace Go.Proofs.YtipjnfabodfkcaaGreatDoor
open SM TB TA
open Ev (lt keepE)
theorem lt_eq {α β : Type} {x y : α} {f : α → β} {r : β} (h : x = y) (k : f y = r) : lt x f = r := by
  subst h
  exact k
theorem k0 {e : Int} (h : e = 0) : keepE 0 e = 0 := by
  rw [h]
  rfl
theorem aadd_ok {a b c d : Int} (h1 : -100000000 ≤ a) (h2 : a ≤ b) (h3 : b ≤ 100000000) (h4 : -100000000 ≤ c) (h5 : c ≤ d) (h6 : d ≤ 100000000) :
    aaddR a b c d = (a + c, b + d, 0) := by
  unfold aaddR
  rw [if_pos ⟨avalid_mk (by omega) h2 (by omega), avalid_mk (by omega) h5 (by omega)⟩]
  unfold resR fitsB
  rw [if_pos ⟨decide_eq_true (by omega), decide_eq_true (by omega)⟩]
theorem tim_ok {a b n d : Int} (h1 : -100000000 ≤ a) (h2 : a ≤ b) (h3 : b ≤ 100000000) (h : (n = 1 ∧ (d = 2 ∨ d = 4)) ∨ (d = 1 ∧ (n = 2 ∨ n = 4))) : timR a b n d = ((a * n) / d, -(-(b * n) / d), 0) := by
  unfold timR
  rw [if_pos (avalid_mk (by omega) h2 (by omega)), if_pos (by omega)]
  have l : a * n ≤ b * n := Int.mul_le_mul_of_nonneg_right h2 (by omega)
  have e1 : mn (a * n) (b * n) = a * n := by unfold mn; split <;> omega
  have e2 : mx (a * n) (b * n) = b * n := by unfold mx; split <;> omega
  rw [e1, e2]
  unfold resR fitsB
  have q : -1000000000 ≤ a * n / d ∧ a * n / d ≤ 1000000000 ∧ -1000000000 ≤ -(b * n) / d ∧ -(b * n) / d ≤ 1000000000 := by
    rcases h with ⟨rfl, rfl | rfl⟩ | ⟨rfl, rfl | rfl⟩ <;> omega
  rw [if_pos ⟨decide_eq_true (by omega), decide_eq_true (by omega)⟩]
theorem wall_eq {x y : Int} (h1 : -100000000 ≤ x) (h2 : x ≤ 100000000) (h3 : -100000000 ≤ y) (h4 : y ≤ 100000000) : wallM x y = decide (21600000 ≤ y - x) := by
  unfold wallM
  rw [i64w (by omega)]
theorem dir_bd {r : Int × Int × Int} (h : DirR r) : -100000000 ≤ r.1 ∧ r.1 ≤ 100000000 ∧ -100000000 ≤ r.2.1 ∧ r.2.1 ≤ 100000000 ∧ r.1 ≤ r.2.1 := by
  obtain ⟨h1, h2, h3, h4, _⟩ := h
  omega
end Go.Proofs.YtipjnfabodfkcaaGreatDoor

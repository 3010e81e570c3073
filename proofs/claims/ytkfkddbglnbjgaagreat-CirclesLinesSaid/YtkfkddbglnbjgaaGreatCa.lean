/-
  Circles of position: sines of arcs a turn away, sides of parts, altitudes beside the circle. No program here.
-/
import Derived.Test.YtkfkddbglnbjgaaGreatHc
namespace Go.Proofs.YtkfkddbglnbjgaaGreat
open SM TB TA
open Ev (lt keepE)
/-! ### Whole turns -/
/-! ### Longitudes -/
def sgnd (n : Int) : Int := if 10800000 ≤ n % 21600000 then n % 21600000 - 21600000 else n % 21600000
def lonL (a b : Int) : Int := if 21600000 ≤ b - a then -10800000 else sgnd a
def lonH (a b : Int) : Int := if 21600000 ≤ b - a then 10800000 else sgnd a + (b - a)
theorem sgnd_bd (n : Int) : -10800000 ≤ sgnd n ∧ sgnd n < 10800000 ∧ ∃ k : Int, sgnd n = n + 21600000 * k := by
  have m0 := Int.emod_nonneg n (show (21600000 : Int) ≠ 0 by omega)
  have m1 := Int.emod_lt_of_pos n (show (0 : Int) < 21600000 by omega)
  unfold sgnd
  split
  · exact ⟨by omega, by omega, -(n / 21600000) - 1, by omega⟩
  · exact ⟨by omega, by omega, -(n / 21600000), by omega⟩
theorem lon_bd {a b : Int} (h : a ≤ b) : -10800000 ≤ lonL a b ∧ lonL a b ≤ lonH a b ∧ ((lonL a b = -10800000 ∧ lonH a b = 10800000) ∨ (lonL a b < 10800000 ∧ lonH a b - lonL a b < 21600000)) := by
  have s := sgnd_bd a
  unfold lonL lonH
  split
  · exact ⟨by omega, by omega, .inl ⟨rfl, rfl⟩⟩
  · exact ⟨s.1, by omega, .inr ⟨by omega, by omega⟩⟩
/-! ### Sides -/
/-- On which side: by the cosine of the distance, and that of the radius. -/
def sidS (s r : Int × Int × Int) : Int := if r.2.1 < s.1 then 1 else if s.2.1 < r.1 then -1 else 0
/-! ### Altitudes -/
end Go.Proofs.YtkfkddbglnbjgaaGreat

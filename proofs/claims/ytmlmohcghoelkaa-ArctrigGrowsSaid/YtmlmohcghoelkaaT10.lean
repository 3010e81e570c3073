import Derived.Test.YtmlmohcghoelkaaT9
namespace Go.Proofs.Ytmlmohcghoelkaa
open Go.RowKit
def Words (v : Int × Int × Int × Int) : Prop := Word v.1 ∧ Word v.2.1 ∧ Word v.2.2.1 ∧ Word v.2.2.2
theorem zeros : Words (0, 0, 0, 0) := ⟨⟨by decide, by decide⟩, ⟨by decide, by decide⟩, ⟨by decide, by decide⟩, ⟨by decide, by decide⟩⟩
def divisor (k : Nat) (o : Int) : Int := (2 * ((k : Int) + 1) - 1 + o) * (2 * ((k : Int) + 1) + o)
theorem divisor_bd (k : Nat) (o : Int) (hk : k < 34) (h0 : 0 ≤ o) (h1 : o ≤ 1) : 0 < divisor k o ∧ divisor k o < 4294967296 := by
  unfold divisor
  have hK : ∃ K : Int, K = (k : Int) ∧ 0 ≤ K ∧ K < 34 := ⟨k, rfl, by omega, by omega⟩
  obtain ⟨K, e, k0, k1⟩ := hK
  rw [← e]
  have p := Int.mul_pos (show 0 < 2 * (K + 1) - 1 + o by omega) (show 0 < 2 * (K + 1) + o by omega)
  have q := Int.mul_le_mul (show 2 * (K + 1) - 1 + o ≤ 70 by omega) (show 2 * (K + 1) + o ≤ 70 by omega) (by omega) (by omega)
  omega
/-- The series' numbers, from the last term (34) to the sum (0). -/
def Series (y : Int × Int × Int × Int) (o : Int) (f : Nat → Int × Int × Int × Int) : Prop :=
  (∀ k, k ≤ 34 → Words (f k)) ∧ f 34 = (0, 0, 0, 0) ∧ ∀ k, k < 34 → Step y.1 y.2.1 y.2.2.1 y.2.2.2 (f (k + 1)).1 (f (k + 1)).2.1 (f (k + 1)).2.2.1 (f (k + 1)).2.2.2 (divisor k o) (f k).1 (f k).2.1 (f k).2.2.1 (f k).2.2.2
theorem series_ex (y : Int × Int × Int × Int) (o : Int) (hy : Words y) (h0 : 0 ≤ o) (h1 : o ≤ 1) : ∃ f, Series y o f := by
  have key : ∀ n, n ≤ 34 → ∃ f : Nat → Int × Int × Int × Int, (∀ k, 34 - n ≤ k → k ≤ 34 → Words (f k)) ∧ f 34 = (0, 0, 0, 0) ∧ ∀ k, 34 - n ≤ k → k < 34 → Step y.1 y.2.1 y.2.2.1 y.2.2.2 (f (k + 1)).1 (f (k + 1)).2.1 (f (k + 1)).2.2.1 (f (k + 1)).2.2.2 (divisor k o) (f k).1 (f k).2.1 (f k).2.2.1 (f k).2.2.2 := by
    intro n
    induction n with
    | zero => intro _; exact ⟨fun _ => (0, 0, 0, 0), fun _ _ _ => zeros, rfl, fun k hk hk' => by omega⟩
    | succ n ih =>
      intro hn
      obtain ⟨f, g1, g2, g3⟩ := ih (by omega)
      have hd := divisor_bd (33 - n) o (by omega) h0 h1
      obtain ⟨v0, v1, v2, v3, hv, hs⟩ := step_ex y.1 y.2.1 y.2.2.1 y.2.2.2 (f (34 - n)).1 (f (34 - n)).2.1 (f (34 - n)).2.2.1 (f (34 - n)).2.2.2 (divisor (33 - n) o) hy (g1 _ (by omega) (by omega)) hd.1 hd.2
      refine ⟨fun k => if k = 33 - n then (v0, v1, v2, v3) else f k, fun k h2 h3 => ?_, ?_, fun k h2 h3 => ?_⟩
      · by_cases h : k = 33 - n
        · simp only [h, if_true]; exact hv
        · simp only [h, if_false]; exact g1 k (by omega) h3
      · simp only [show ¬ 34 = 33 - n by omega, if_false]; exact g2
      · by_cases h : k = 33 - n
        · subst h
          simp only [if_true, if_false, show 33 - n + 1 = 34 - n by omega, show ¬ 34 - n = 33 - n by omega]
          exact hs
        · simp only [h, if_false, show ¬ k + 1 = 33 - n by omega]
          exact g3 k (by omega) h3
  obtain ⟨f, g1, g2, g3⟩ := key 34 (by omega)
  exact ⟨f, fun k hk => g1 k (by omega) hk, g2, fun k hk => g3 k (by omega) hk⟩
end Go.Proofs.Ytmlmohcghoelkaa

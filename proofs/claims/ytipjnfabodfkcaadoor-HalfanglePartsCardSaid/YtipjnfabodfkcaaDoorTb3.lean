/-
  Rational angles of given sines, and of given directions. No program here.
-/
import Derived.Test.YtipjnfabodfkcaaDoorTb2
namespace Go.Proofs.YtipjnfabodfkcaaDoor
namespace TB
open SM TA
theorem si_quart : 1 - e0 ≤ si 5400000 ∧ si (-5400000) ≤ -1 + e0 := by
  have e : e0 = 1048576 * u0 := rfl
  have u := u0_bd
  have q := quartq.2
  have n := (si_neg (q := 5400000) (by grind) (by grind)).1
  unfold Cl at q
  rw [n]
  constructor <;> grind
/-- Halving. -/
theorem halve (y : Rat) (n : Nat) : ∀ a b : Rat, -5400000 ≤ a → a ≤ b → b ≤ 5400000 → si a ≤ y + e0 → y - e0 ≤ si b → ∃ a' b' : Rat, -5400000 ≤ a' ∧ a' ≤ b' ∧ b' ≤ 5400000 ∧ si a' ≤ y + e0 ∧ y - e0 ≤ si b' ∧ (b' - a') * 2 ^ n = b - a := by
  induction n with
  | zero =>
    intro a b h0 h h1 ha hb
    exact ⟨a, b, h0, h, h1, ha, hb, by rw [Rat.pow_zero]; grind⟩
  | succ n ih =>
    intro a b h0 h h1 ha hb
    have e := e0_bd.1
    rcases (Rat.le_total : si ((a + b) / 2) ≤ y ∨ y ≤ si ((a + b) / 2)) with c | c
    · obtain ⟨a', b', k0, k, k1, ka, kb, kw⟩ := ih ((a + b) / 2) b (by grind) (by grind) h1 (by grind) hb
      refine ⟨a', b', k0, k, k1, ka, kb, ?_⟩
      rw [Rat.pow_succ]
      generalize (2 : Rat) ^ n = z at *
      grind
    · obtain ⟨a', b', k0, k, k1, ka, kb, kw⟩ := ih a ((a + b) / 2) h0 (by grind) (by grind) ha (by grind)
      refine ⟨a', b', k0, k, k1, ka, kb, ?_⟩
      rw [Rat.pow_succ]
      generalize (2 : Rat) ^ n = z at *
      grind
theorem pow_big : 10800000 ≤ (2 : Rat) ^ 2520 * e0 ∧ (0 : Rat) < 2 ^ 2520 := by decide +kernel
/-- **Every number from -1 to 1 is a sine.** -/
theorem inv {y : Rat} (h0 : -1 ≤ y) (h1 : y ≤ 1) : ∃ q : Rat, -5400000 ≤ q ∧ q ≤ 5400000 ∧ Cl (4 * e0) (si q) y := by
  have e := e0_bd
  have s := si_quart
  obtain ⟨a, b, k0, k, k1, ka, kb, kw⟩ := halve y 2520 (-5400000) 5400000 (by grind) (by grind) (by grind) (by grind) (by grind)
  have l := (lip (p := a) (q := b) k (by grind)).1
  have p := pow_big
  have w : b - a ≤ e0 := by
    generalize (2 : Rat) ^ 2520 = z at *
    rcases (Rat.le_total : b - a ≤ e0 ∨ e0 ≤ b - a) with c | c
    · exact c
    · have := Rat.mul_nonneg (show 0 ≤ b - a - e0 by grind) (show 0 ≤ z by grind)
      have : (b - a - e0) * z = 0 := by grind
      rcases Rat.mul_eq_zero.1 this with h | h
      · grind
      · grind
  refine ⟨a, k0, by grind, ?_⟩
  unfold Cl at *
  generalize si a = x1 at *
  generalize si b = x2 at *
  constructor <;> grind
/-- A number whose square is small is small. -/
theorem sqrt_small {z f e : Rat} (hf : 0 ≤ f) (hz : z * z ≤ e) (hfe : e ≤ f * f) : -f ≤ z ∧ z ≤ f := by
  constructor
  · rcases (Rat.le_total : -f ≤ z ∨ z ≤ -f) with h | h
    · exact h
    · have a := Rat.mul_nonneg (show 0 ≤ -f - z by grind) (show 0 ≤ f - z by grind)
      have : (-f - z) * (f - z) = z * z - f * f := by grind
      have b := Rat.mul_nonneg (show 0 ≤ -f - z by grind) (show 0 ≤ -f - z by grind)
      have : -f - z = 0 := by
        have c : (-f - z) * (-f - z) + 2 * f * (-f - z) = z * z - f * f := by grind
        have d := Rat.mul_nonneg hf (show 0 ≤ -f - z by grind)
        have : (-f - z) * (-f - z) = 0 := by grind
        rcases Rat.mul_eq_zero.1 this with h | h <;> exact h
      grind
  · rcases (Rat.le_total : z ≤ f ∨ f ≤ z) with h | h
    · exact h
    · have b := Rat.mul_nonneg (show 0 ≤ z - f by grind) (show 0 ≤ z - f by grind)
      have : z - f = 0 := by
        have c : (z - f) * (z - f) + 2 * f * (z - f) = z * z - f * f := by grind
        have d := Rat.mul_nonneg hf (show 0 ≤ z - f by grind)
        have : (z - f) * (z - f) = 0 := by grind
        rcases Rat.mul_eq_zero.1 this with h | h <;> exact h
      grind
/-- Levels of what is neglected. -/
def e1 : Rat := pw 1220
def e2 : Rat := pw 600
theorem e1_sq : 64 * e0 ≤ e1 * e1 := by decide +kernel
theorem e2_sq : 64 * e1 ≤ e2 * e2 := by decide +kernel
theorem e1_bd : 0 < e1 ∧ e1 ≤ 1 / 2 ^ 200 := by decide +kernel
theorem e2_bd : 0 < e2 ∧ e2 ≤ 1 / 2 ^ 140 := by decide +kernel
theorem e01 : 2 ^ 100 * e0 ≤ e1 := by decide +kernel
theorem e12 : 2 ^ 100 * e1 ≤ e2 := by decide +kernel
/-- The cosine from the sine. -/
theorem co_from {q x y f g : Rat} (hf : e0 ≤ f) (hf1 : f ≤ 1 / 1000) (hg : 0 ≤ g) (hfg : 100 * f ≤ g * g) (h0 : -5400000 ≤ q) (h1 : q ≤ 5400000) (hs : Cl (6 * f) (si q) y) (hx : 0 ≤ x) (hu : Cl (4 * f) (x * x + y * y) 1) : Cl g (co q) x := by
  have e := e0_bd
  have ee : e0 = 1048576 * u0 := rfl
  have u := unit q
  have c := co_ge (q := q) (d := 0) h0 h1 (by grind) (by grind) (by grind)
  rw [show tb * 0 / 2 - e0 = -e0 by grind] at c
  have b := bdq2 q
  have m := Cl.mul 2 3 hs hs b.2 (by unfold Cl at hs; have := b.2; constructor <;> grind)
  have d : Cl (36 * f) (co q * co q) (x * x) := by
    unfold Cl at *
    generalize co q * co q = z1 at *
    generalize si q * si q = z2 at *
    generalize y * y = z3 at *
    generalize x * x = z4 at *
    constructor <;> grind
  have hx2 : x ≤ 2 := by
    have := sq_nn y
    unfold Cl at hu
    exact (two_bd (z := x) (by grind)).2
  have k := sqrt_small (z := co q - x) (f := g) (e := 100 * f) hg ?_ hfg
  · exact k
  · unfold Cl at d
    rcases (Rat.le_total : co q ≤ x ∨ x ≤ co q) with h | h
    · have a := Rat.mul_nonneg (show 0 ≤ x - co q by grind) (show 0 ≤ co q + f by grind)
      have a2 := Rat.mul_nonneg (show 0 ≤ f by grind) (show 0 ≤ 4 - (x - co q) by grind)
      generalize co q = z at *
      grind
    · have a := Rat.mul_nonneg (show 0 ≤ co q - x by grind) hx
      generalize co q = z at *
      grind
/-- **Every point of the circle has a direction.** -/
theorem dir {x y f g : Rat} (hf : e0 ≤ f) (hf1 : f ≤ 1 / 1000) (hg : f ≤ g) (hfg : 100 * f ≤ g * g) (hu : Cl (2 * f) (x * x + y * y) 1) : ∃ q : Rat, -10800000 ≤ q ∧ q ≤ 16200000 ∧ Cl (2 * g) (co q) x ∧ Cl (8 * f) (si q) y := by
  have e := e0_bd
  have ee : e0 = 1048576 * u0 := rfl
  have eu := u0_bd
  have sx := sq_nn x
  have hy := one_bd' (z := y) (e := 2 * f) (by grind) (by unfold Cl at hu; grind)
  obtain ⟨y', y0, y1, yc⟩ : ∃ y' : Rat, -1 ≤ y' ∧ y' ≤ 1 ∧ Cl (2 * f) y' y := by
    rcases (Rat.le_total : y ≤ 1 ∨ 1 ≤ y) with h | h
    · rcases (Rat.le_total : -1 ≤ y ∨ y ≤ -1) with k | k
      · exact ⟨y, k, h, Cl.refl _ (by grind)⟩
      · exact ⟨-1, by grind, by grind, by unfold Cl; constructor <;> grind⟩
    · exact ⟨1, by grind, by grind, by unfold Cl; constructor <;> grind⟩
  obtain ⟨q, q0, q1, qs⟩ := inv y0 y1
  have qy : Cl (6 * f) (si q) y := (qs.trans yc).wide (by grind)
  rcases (Rat.le_total : 0 ≤ x ∨ x ≤ 0) with h | h
  · have c := co_from hf hf1 (by grind) hfg q0 q1 qy h (hu.wide (by grind))
    exact ⟨q, by grind, by grind, c.wide (by grind), qy.wide (by grind)⟩
  · have c := co_from (x := -x) hf hf1 (by grind) hfg q0 q1 qy (by grind) (by rw [show -x * -x = x * x by grind]; exact hu.wide (by grind))
    have o := oppq (-q)
    have n := si_neg (q := q) (by grind) (by grind)
    rw [n.1, n.2] at o
    refine ⟨-q + 10800000, by grind, by grind, ?_, ?_⟩
    · have := o.1.trans c.neg
      rw [show - -x = x by grind] at this
      exact this.wide (by grind)
    · rw [show - -si q = si q by grind] at o
      exact (o.2.trans qy).wide (by grind)
end TB
end Go.Proofs.YtipjnfabodfkcaaDoor

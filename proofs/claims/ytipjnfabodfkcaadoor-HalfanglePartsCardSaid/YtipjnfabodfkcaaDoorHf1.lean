/-
  Gauss's formulas, for the truth: the half zenith distance and the azimuth's two directions. No program here.
-/
import Derived.Test.YtipjnfabodfkcaaDoorSq
namespace Go.Proofs.YtipjnfabodfkcaaDoor
open SM TB TA
theorem ee0 : e0 = 1048576 * u0 := rfl
/-- Twice an angle. -/
theorem dblq (q : Rat) : Cl (e0 / 20) (2 * (si q * si q)) (1 - co (q + q)) ∧ Cl (e0 / 20) (2 * (co q * co q)) (1 + co (q + q)) ∧ Cl (e0 / 20) (2 * (si q * co q)) (si (q + q)) := by
  have a := addq q q
  have n := unit q
  have u := u0_bd
  have e := ee0
  unfold Cl at *
  generalize co q * co q = c2 at *
  generalize si q * si q = s2 at *
  rw [show si q * co q + co q * si q = 2 * (si q * co q) by grind] at a
  generalize si q * co q = sc at *
  refine ⟨⟨?_, ?_⟩, ⟨?_, ?_⟩, ?_, ?_⟩ <;> grind
/-- The opposite of the complement. -/
theorem compq (q : Rat) : Cl (e0 / 20) (co (10800000 - q)) (-co q) ∧ Cl (e0 / 20) (si (10800000 - q)) (si q) := by
  have a := oppq (-q)
  have n := negq q
  have u := u0_bd
  have e := ee0
  rw [show -q + 10800000 = 10800000 - q by grind] at a
  unfold Cl at *
  refine ⟨⟨?_, ?_⟩, ?_, ?_⟩ <;> grind
/-- Two products, a little off. -/
theorem mul2 {e a b c d : Rat} (h : Cl e a b) (k : Cl e c d) (hb : -5 ≤ b ∧ b ≤ 5) (hd : -5 ≤ d ∧ d ≤ 5) (he1 : e ≤ 1) : Cl (11 * e) (a * c) (b * d) := by
  have m := Cl.mul 6 5 h k (by unfold Cl at k; constructor <;> grind) hb
  exact m.wide (by grind)
theorem bd_prod (p q : Rat) : (-3 / 2 ≤ co p * co q ∧ co p * co q ≤ 3 / 2) ∧ (-3 / 2 ≤ si p * si q ∧ si p * si q ≤ 3 / 2) ∧ (-3 / 2 ≤ si p * co q ∧ si p * co q ≤ 3 / 2) ∧ (-3 / 2 ≤ co p * si q ∧ co p * si q ≤ 3 / 2) := by
  have a := bdq p
  have b := bdq q
  have u := u0_bd
  refine ⟨?_, ?_, ?_, ?_⟩
  · have := mul_abs (a := co p) (b := co q) (A := 11 / 10) (B := 11 / 10) (by grind) (by grind) (by grind) (by grind)
    constructor <;> grind
  · have := mul_abs (a := si p) (b := si q) (A := 11 / 10) (B := 11 / 10) (by grind) (by grind) (by grind) (by grind)
    constructor <;> grind
  · have := mul_abs (a := si p) (b := co q) (A := 11 / 10) (B := 11 / 10) (by grind) (by grind) (by grind) (by grind)
    constructor <;> grind
  · have := mul_abs (a := co p) (b := si q) (A := 11 / 10) (B := 11 / 10) (by grind) (by grind) (by grind) (by grind)
    constructor <;> grind
/-- The six products of half-angles. -/
theorem halves {x y t u v w : Rat} (hu : u + u = 10800000 - (x + y)) (hv : v + v = x - y) (hw : co (w + w) = co t ∧ si (w + w) = si t) :
    Cl (e0 / 4) (2 * (si u * si u)) (1 + (co x * co y - si x * si y)) ∧ Cl (e0 / 4) (2 * (co u * co u)) (1 - (co x * co y - si x * si y)) ∧ Cl (e0 / 4) (2 * (si u * co u)) (si x * co y + co x * si y) ∧
    Cl (e0 / 4) (2 * (si v * si v)) (1 - (co x * co y + si x * si y)) ∧ Cl (e0 / 4) (2 * (co v * co v)) (1 + (co x * co y + si x * si y)) ∧ Cl (e0 / 4) (2 * (si v * co v)) (si x * co y - co x * si y) ∧
    Cl (e0 / 4) (2 * (si w * si w)) (1 - co t) ∧ Cl (e0 / 4) (2 * (co w * co w)) (1 + co t) ∧ Cl (e0 / 4) (2 * (si w * co w)) (si t) := by
  have a := dblq u
  have b := dblq v
  have c := dblq w
  rw [hu] at a
  rw [hv] at b
  rw [hw.1, hw.2] at c
  have k := compq (x + y)
  have p := addq x y
  have q := subq x y
  have ub := u0_bd
  have e := ee0
  have c1 := c.1.wide (show e0 / 20 ≤ e0 / 4 by grind)
  have c2 := c.2.1.wide (show e0 / 20 ≤ e0 / 4 by grind)
  have c3 := c.2.2.wide (show e0 / 20 ≤ e0 / 4 by grind)
  refine ⟨?_, ?_, ?_, ?_, ?_, ?_, c1, c2, c3⟩
  · have a := a.1
    have k := k.1
    have p := p.1
    clear b c c1 c2 c3 q
    unfold Cl at *
    constructor <;> grind
  · have a := a.2.1
    have k := k.1
    have p := p.1
    clear b c c1 c2 c3 q
    unfold Cl at *
    constructor <;> grind
  · have a := a.2.2
    have k := k.2
    have p := p.2
    clear b c c1 c2 c3 q
    unfold Cl at *
    constructor <;> grind
  · have b := b.1
    have q := q.1
    clear a c c1 c2 c3 p k
    unfold Cl at *
    constructor <;> grind
  · have b := b.2.1
    have q := q.1
    clear a c c1 c2 c3 p k
    unfold Cl at *
    constructor <;> grind
  · have b := b.2.2
    have q := q.2
    clear a c c1 c2 c3 p k
    unfold Cl at *
    constructor <;> grind
theorem bd_six (x y t : Rat) : (-5 ≤ 1 + (co x * co y - si x * si y) ∧ 1 + (co x * co y - si x * si y) ≤ 5) ∧ (-5 ≤ 1 - (co x * co y - si x * si y) ∧ 1 - (co x * co y - si x * si y) ≤ 5) ∧ (-5 ≤ si x * co y + co x * si y ∧ si x * co y + co x * si y ≤ 5) ∧
    (-5 ≤ 1 - (co x * co y + si x * si y) ∧ 1 - (co x * co y + si x * si y) ≤ 5) ∧ (-5 ≤ 1 + (co x * co y + si x * si y) ∧ 1 + (co x * co y + si x * si y) ≤ 5) ∧ (-5 ≤ si x * co y - co x * si y ∧ si x * co y - co x * si y ≤ 5) ∧
    (-5 ≤ 1 - co t ∧ 1 - co t ≤ 5) ∧ (-5 ≤ 1 + co t ∧ 1 + co t ≤ 5) ∧ (-5 ≤ si t ∧ si t ≤ 5) ∧ (-5 ≤ co y ∧ co y ≤ 5) := by
  obtain ⟨p1, p2, p3, p4⟩ := bd_prod x y
  have bt := bdq2 t
  have by' := bdq2 y
  generalize co x * co y = A at *
  generalize si x * si y = B at *
  generalize si x * co y = C at *
  generalize co x * si y = D at *
  generalize co t = E at *
  generalize si t = F at *
  generalize co y = G at *
  refine ⟨⟨?_, ?_⟩, ⟨?_, ?_⟩, ⟨?_, ?_⟩, ⟨?_, ?_⟩, ⟨?_, ?_⟩, ⟨?_, ?_⟩, ⟨?_, ?_⟩, ⟨?_, ?_⟩, ⟨?_, ?_⟩, ?_, ?_⟩ <;> grind
/-- Gauss's formulas. -/
theorem gauss {x y t h u v w κ : Rat} (hu : u + u = 10800000 - (x + y)) (hv : v + v = x - y) (hw : co (w + w) = co t ∧ si (w + w) = si t) (huv : u + v = 5400000 - y) (hk : κ + κ = 5400000 - h) (hs : Cl (5 * e0) (si h) (upT x y t)) :
    Cl (16 * e0) (si u * si w * (si u * si w) + si v * co w * (si v * co w)) (si κ * si κ) ∧
    Cl (16 * e0) (co u * si w * (co u * si w) + co v * co w * (co v * co w)) (co κ * co κ) ∧
    Cl (16 * e0) (2 * (co u * si w * (si u * si w) - co v * co w * (si v * co w))) (noT x y t) ∧
    Cl (16 * e0) (2 * (co u * si w * (si v * co w) + co v * co w * (si u * si w))) (-(eaT y t)) ∧
    Cl (16 * e0) (2 * (co κ * si κ)) (co h) := by
  obtain ⟨a1, a2, a3, b1, b2, b3, c1, c2, c3⟩ := halves hu hv hw
  have d := dblq κ
  rw [hk] at d
  have cq := coq h
  have av := addq u v
  rw [huv] at av
  have cy := coq y
  have ub := u0_bd
  have e := ee0
  have eb := e0_bd
  obtain ⟨g1, g2, g3, g4, g5, g6, g7, g8, g9, g10⟩ := bd_six x y t
  have eq : e0 / 4 ≤ 1 := by grind
  have w1 : Cl (e0 / 4) (si u * co v + co u * si v) (co y) := by
    have av := av.2
    have cy := cy.1
    clear a1 a2 a3 b1 b2 b3 c1 c2 c3 g1 g2 g3 g4 g5 g6 g7 g8 g9 g10 d cq
    unfold Cl at av cy ⊢
    constructor <;> grind
  have r1 := mul2 a1 c1 g1 g7 eq
  have r2 := mul2 b1 c2 g4 g8 eq
  have r3 := mul2 a2 c1 g2 g7 eq
  have r4 := mul2 b2 c2 g5 g8 eq
  have r5 := mul2 a3 c1 g3 g7 eq
  have r6 := mul2 b3 c2 g6 g8 eq
  have r7 := mul2 c3 w1 g9 g10 eq
  clear a1 a2 a3 b1 b2 b3 c1 c2 c3 g1 g2 g3 g4 g5 g6 g7 g8 g9 g10 w1 av cy
  refine ⟨?_, ?_, ?_, ?_, ?_⟩
  · have d := d.1
    have cq := cq.2
    unfold upT at hs
    unfold Cl at r1 r2 d cq hs ⊢
    have f1 : si u * si w * (si u * si w) = 2 * (si u * si u) * (2 * (si w * si w)) / 4 := by grind
    have f2 : si v * co w * (si v * co w) = 2 * (si v * si v) * (2 * (co w * co w)) / 4 := by grind
    rw [f1, f2]
    generalize 2 * (si u * si u) * (2 * (si w * si w)) = X1 at *
    generalize 2 * (si v * si v) * (2 * (co w * co w)) = X2 at *
    generalize si κ * si κ = K at *
    generalize co (5400000 - h) = J at *
    have g : (1 + (co x * co y - si x * si y)) * (1 - co t) + (1 - (co x * co y + si x * si y)) * (1 + co t) = 2 - 2 * (si x * si y + co x * co y * co t) := by grind
    generalize (1 + (co x * co y - si x * si y)) * (1 - co t) = Y1 at *
    generalize (1 - (co x * co y + si x * si y)) * (1 + co t) = Y2 at *
    generalize si x * si y + co x * co y * co t = U at *
    generalize si h = s at *
    constructor <;> grind
  · have d := d.2.1
    have cq := cq.2
    unfold upT at hs
    unfold Cl at r3 r4 d cq hs ⊢
    have f1 : co u * si w * (co u * si w) = 2 * (co u * co u) * (2 * (si w * si w)) / 4 := by grind
    have f2 : co v * co w * (co v * co w) = 2 * (co v * co v) * (2 * (co w * co w)) / 4 := by grind
    rw [f1, f2]
    generalize 2 * (co u * co u) * (2 * (si w * si w)) = X1 at *
    generalize 2 * (co v * co v) * (2 * (co w * co w)) = X2 at *
    generalize co κ * co κ = K at *
    generalize co (5400000 - h) = J at *
    have g : (1 - (co x * co y - si x * si y)) * (1 - co t) + (1 + (co x * co y + si x * si y)) * (1 + co t) = 2 + 2 * (si x * si y + co x * co y * co t) := by grind
    generalize (1 - (co x * co y - si x * si y)) * (1 - co t) = Y1 at *
    generalize (1 + (co x * co y + si x * si y)) * (1 + co t) = Y2 at *
    generalize si x * si y + co x * co y * co t = U at *
    generalize si h = s at *
    constructor <;> grind
  · unfold noT
    unfold Cl at r5 r6 ⊢
    have f1 : co u * si w * (si u * si w) = 2 * (si u * co u) * (2 * (si w * si w)) / 4 := by grind
    have f2 : co v * co w * (si v * co w) = 2 * (si v * co v) * (2 * (co w * co w)) / 4 := by grind
    rw [f1, f2]
    generalize 2 * (si u * co u) * (2 * (si w * si w)) = X1 at *
    generalize 2 * (si v * co v) * (2 * (co w * co w)) = X2 at *
    have g : (si x * co y + co x * si y) * (1 - co t) - (si x * co y - co x * si y) * (1 + co t) = 2 * (si y * co x - co y * co t * si x) := by grind
    generalize (si x * co y + co x * si y) * (1 - co t) = Y1 at *
    generalize (si x * co y - co x * si y) * (1 + co t) = Y2 at *
    generalize si y * co x - co y * co t * si x = N at *
    constructor <;> grind
  · unfold eaT
    unfold Cl at r7 ⊢
    have f1 : co u * si w * (si v * co w) + co v * co w * (si u * si w) = 2 * (si w * co w) * (si u * co v + co u * si v) / 2 := by grind
    rw [f1]
    rw [show si t * co y = co y * si t by grind] at r7
    generalize 2 * (si w * co w) * (si u * co v + co u * si v) = X1 at *
    generalize co y * si t = N at *
    constructor <;> grind
  · have d := d.2.2
    have cq := cq.1
    unfold Cl at d cq ⊢
    rw [show co κ * si κ = si κ * co κ by grind]
    generalize si κ * co κ = K at *
    constructor <;> grind
end Go.Proofs.YtipjnfabodfkcaaDoor

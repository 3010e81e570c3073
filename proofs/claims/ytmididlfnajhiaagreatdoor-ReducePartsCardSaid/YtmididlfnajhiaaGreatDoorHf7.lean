/-
  Gauss's formulas, for the truth: the half zenith distance and the azimuth's two directions. No program here. Half-angles: the altitude's and the azimuth's arcs hold the truth. No program here. Half-angles: the azimuth. No program here. Half-angles: what is computed holds the truth. No program here. Half-angles: half a turn more changes nothing; a part has its solution inside. No program here. Half-angles: a part has its solution inside. No program here. Half-angles of single numbers: always solved; mirrored; on the meridian. No program here.
-/
import Derived.Test.YtmididlfnajhiaaGreatDoorFr
namespace Go.Proofs.YtmididlfnajhiaaGreatDoor
open SM TB TA
theorem ee0 : e0 = 1048576 * u0 := rfl
theorem dblq (q : Rat) : Cl (e0 / 20) (2 * (si q * si q)) (1 - co (q + q)) ∧ Cl (e0 / 20) (2 * (co q * co q)) (1 + co (q + q)) ∧ Cl (e0 / 20) (2 * (si q * co q)) (si (q + q)) := by
  have a := addq q q
  have n := unit q
  have u := u0_bd
  have e := ee0
  unfold Cl at *
  generalize co q * co q = c2 at *
  generalize si q * si q = s2 at *
  rw [show si q * co q + co q * si q = 2 * (si q * co q) by grind] at a
  generalize si q * co q = sc at *
  refine ⟨⟨?_, ?_⟩, ⟨?_, ?_⟩, ?_, ?_⟩ <;> grind
theorem compq (q : Rat) : Cl (e0 / 20) (co (10800000 - q)) (-co q) ∧ Cl (e0 / 20) (si (10800000 - q)) (si q) := by
  have a := oppq (-q)
  have n := negq q
  have u := u0_bd
  have e := ee0
  rw [show -q + 10800000 = 10800000 - q by grind] at a
  unfold Cl at *
  refine ⟨⟨?_, ?_⟩, ?_, ?_⟩ <;> grind
theorem mul2 {e a b c d : Rat} (h : Cl e a b) (k : Cl e c d) (hb : -5 ≤ b ∧ b ≤ 5) (hd : -5 ≤ d ∧ d ≤ 5) (he1 : e ≤ 1) : Cl (11 * e) (a * c) (b * d) := by
  have m := Cl.mul 6 5 h k (by unfold Cl at k; constructor <;> grind) hb
  exact m.wide (by grind)
theorem bd_prod (p q : Rat) : (-3 / 2 ≤ co p * co q ∧ co p * co q ≤ 3 / 2) ∧ (-3 / 2 ≤ si p * si q ∧ si p * si q ≤ 3 / 2) ∧ (-3 / 2 ≤ si p * co q ∧ si p * co q ≤ 3 / 2) ∧ (-3 / 2 ≤ co p * si q ∧ co p * si q ≤ 3 / 2) := by
  have a := bdq p
  have b := bdq q
  have u := u0_bd
  refine ⟨?_, ?_, ?_, ?_⟩
  · have := mul_abs (a := co p) (b := co q) (A := 11 / 10) (B := 11 / 10) (by grind) (by grind) (by grind) (by grind)
    constructor <;> grind
  · have := mul_abs (a := si p) (b := si q) (A := 11 / 10) (B := 11 / 10) (by grind) (by grind) (by grind) (by grind)
    constructor <;> grind
  · have := mul_abs (a := si p) (b := co q) (A := 11 / 10) (B := 11 / 10) (by grind) (by grind) (by grind) (by grind)
    constructor <;> grind
  · have := mul_abs (a := co p) (b := si q) (A := 11 / 10) (B := 11 / 10) (by grind) (by grind) (by grind) (by grind)
    constructor <;> grind
theorem halves {x y t u v w : Rat} (hu : u + u = 10800000 - (x + y)) (hv : v + v = x - y) (hw : co (w + w) = co t ∧ si (w + w) = si t) :
    Cl (e0 / 4) (2 * (si u * si u)) (1 + (co x * co y - si x * si y)) ∧ Cl (e0 / 4) (2 * (co u * co u)) (1 - (co x * co y - si x * si y)) ∧ Cl (e0 / 4) (2 * (si u * co u)) (si x * co y + co x * si y) ∧
    Cl (e0 / 4) (2 * (si v * si v)) (1 - (co x * co y + si x * si y)) ∧ Cl (e0 / 4) (2 * (co v * co v)) (1 + (co x * co y + si x * si y)) ∧ Cl (e0 / 4) (2 * (si v * co v)) (si x * co y - co x * si y) ∧
    Cl (e0 / 4) (2 * (si w * si w)) (1 - co t) ∧ Cl (e0 / 4) (2 * (co w * co w)) (1 + co t) ∧ Cl (e0 / 4) (2 * (si w * co w)) (si t) := by
  have a := dblq u
  have b := dblq v
  have c := dblq w
  rw [hu] at a
  rw [hv] at b
  rw [hw.1, hw.2] at c
  have k := compq (x + y)
  have p := addq x y
  have q := subq x y
  have ub := u0_bd
  have e := ee0
  have c1 := c.1.wide (show e0 / 20 ≤ e0 / 4 by grind)
  have c2 := c.2.1.wide (show e0 / 20 ≤ e0 / 4 by grind)
  have c3 := c.2.2.wide (show e0 / 20 ≤ e0 / 4 by grind)
  refine ⟨?_, ?_, ?_, ?_, ?_, ?_, c1, c2, c3⟩
  · have a := a.1
    have k := k.1
    have p := p.1
    clear b c c1 c2 c3 q
    unfold Cl at *
    constructor <;> grind
  · have a := a.2.1
    have k := k.1
    have p := p.1
    clear b c c1 c2 c3 q
    unfold Cl at *
    constructor <;> grind
  · have a := a.2.2
    have k := k.2
    have p := p.2
    clear b c c1 c2 c3 q
    unfold Cl at *
    constructor <;> grind
  · have b := b.1
    have q := q.1
    clear a c c1 c2 c3 p k
    unfold Cl at *
    constructor <;> grind
  · have b := b.2.1
    have q := q.1
    clear a c c1 c2 c3 p k
    unfold Cl at *
    constructor <;> grind
  · have b := b.2.2
    have q := q.2
    clear a c c1 c2 c3 p k
    unfold Cl at *
    constructor <;> grind
theorem bd_six (x y t : Rat) : (-5 ≤ 1 + (co x * co y - si x * si y) ∧ 1 + (co x * co y - si x * si y) ≤ 5) ∧ (-5 ≤ 1 - (co x * co y - si x * si y) ∧ 1 - (co x * co y - si x * si y) ≤ 5) ∧ (-5 ≤ si x * co y + co x * si y ∧ si x * co y + co x * si y ≤ 5) ∧
    (-5 ≤ 1 - (co x * co y + si x * si y) ∧ 1 - (co x * co y + si x * si y) ≤ 5) ∧ (-5 ≤ 1 + (co x * co y + si x * si y) ∧ 1 + (co x * co y + si x * si y) ≤ 5) ∧ (-5 ≤ si x * co y - co x * si y ∧ si x * co y - co x * si y ≤ 5) ∧
    (-5 ≤ 1 - co t ∧ 1 - co t ≤ 5) ∧ (-5 ≤ 1 + co t ∧ 1 + co t ≤ 5) ∧ (-5 ≤ si t ∧ si t ≤ 5) ∧ (-5 ≤ co y ∧ co y ≤ 5) := by
  obtain ⟨p1, p2, p3, p4⟩ := bd_prod x y
  have bt := bdq2 t
  have by' := bdq2 y
  generalize co x * co y = A at *
  generalize si x * si y = B at *
  generalize si x * co y = C at *
  generalize co x * si y = D at *
  generalize co t = E at *
  generalize si t = F at *
  generalize co y = G at *
  refine ⟨⟨?_, ?_⟩, ⟨?_, ?_⟩, ⟨?_, ?_⟩, ⟨?_, ?_⟩, ⟨?_, ?_⟩, ⟨?_, ?_⟩, ⟨?_, ?_⟩, ⟨?_, ?_⟩, ⟨?_, ?_⟩, ?_, ?_⟩ <;> grind
theorem gauss {x y t h u v w κ : Rat} (hu : u + u = 10800000 - (x + y)) (hv : v + v = x - y) (hw : co (w + w) = co t ∧ si (w + w) = si t) (huv : u + v = 5400000 - y) (hk : κ + κ = 5400000 - h) (hs : Cl (5 * e0) (si h) (upT x y t)) :
    Cl (16 * e0) (si u * si w * (si u * si w) + si v * co w * (si v * co w)) (si κ * si κ) ∧
    Cl (16 * e0) (co u * si w * (co u * si w) + co v * co w * (co v * co w)) (co κ * co κ) ∧
    Cl (16 * e0) (2 * (co u * si w * (si u * si w) - co v * co w * (si v * co w))) (noT x y t) ∧
    Cl (16 * e0) (2 * (co u * si w * (si v * co w) + co v * co w * (si u * si w))) (-(eaT y t)) ∧
    Cl (16 * e0) (2 * (co κ * si κ)) (co h) := by
  obtain ⟨a1, a2, a3, b1, b2, b3, c1, c2, c3⟩ := halves hu hv hw
  have d := dblq κ
  rw [hk] at d
  have cq := coq h
  have av := addq u v
  rw [huv] at av
  have cy := coq y
  have ub := u0_bd
  have e := ee0
  have eb := e0_bd
  obtain ⟨g1, g2, g3, g4, g5, g6, g7, g8, g9, g10⟩ := bd_six x y t
  have eq : e0 / 4 ≤ 1 := by grind
  have w1 : Cl (e0 / 4) (si u * co v + co u * si v) (co y) := by
    have av := av.2
    have cy := cy.1
    clear a1 a2 a3 b1 b2 b3 c1 c2 c3 g1 g2 g3 g4 g5 g6 g7 g8 g9 g10 d cq
    unfold Cl at av cy ⊢
    constructor <;> grind
  have r1 := mul2 a1 c1 g1 g7 eq
  have r2 := mul2 b1 c2 g4 g8 eq
  have r3 := mul2 a2 c1 g2 g7 eq
  have r4 := mul2 b2 c2 g5 g8 eq
  have r5 := mul2 a3 c1 g3 g7 eq
  have r6 := mul2 b3 c2 g6 g8 eq
  have r7 := mul2 c3 w1 g9 g10 eq
  clear a1 a2 a3 b1 b2 b3 c1 c2 c3 g1 g2 g3 g4 g5 g6 g7 g8 g9 g10 w1 av cy
  refine ⟨?_, ?_, ?_, ?_, ?_⟩
  · have d := d.1
    have cq := cq.2
    unfold upT at hs
    unfold Cl at r1 r2 d cq hs ⊢
    have f1 : si u * si w * (si u * si w) = 2 * (si u * si u) * (2 * (si w * si w)) / 4 := by grind
    have f2 : si v * co w * (si v * co w) = 2 * (si v * si v) * (2 * (co w * co w)) / 4 := by grind
    rw [f1, f2]
    generalize 2 * (si u * si u) * (2 * (si w * si w)) = X1 at *
    generalize 2 * (si v * si v) * (2 * (co w * co w)) = X2 at *
    generalize si κ * si κ = K at *
    generalize co (5400000 - h) = J at *
    have g : (1 + (co x * co y - si x * si y)) * (1 - co t) + (1 - (co x * co y + si x * si y)) * (1 + co t) = 2 - 2 * (si x * si y + co x * co y * co t) := by grind
    generalize (1 + (co x * co y - si x * si y)) * (1 - co t) = Y1 at *
    generalize (1 - (co x * co y + si x * si y)) * (1 + co t) = Y2 at *
    generalize si x * si y + co x * co y * co t = U at *
    generalize si h = s at *
    constructor <;> grind
  · have d := d.2.1
    have cq := cq.2
    unfold upT at hs
    unfold Cl at r3 r4 d cq hs ⊢
    have f1 : co u * si w * (co u * si w) = 2 * (co u * co u) * (2 * (si w * si w)) / 4 := by grind
    have f2 : co v * co w * (co v * co w) = 2 * (co v * co v) * (2 * (co w * co w)) / 4 := by grind
    rw [f1, f2]
    generalize 2 * (co u * co u) * (2 * (si w * si w)) = X1 at *
    generalize 2 * (co v * co v) * (2 * (co w * co w)) = X2 at *
    generalize co κ * co κ = K at *
    generalize co (5400000 - h) = J at *
    have g : (1 - (co x * co y - si x * si y)) * (1 - co t) + (1 + (co x * co y + si x * si y)) * (1 + co t) = 2 + 2 * (si x * si y + co x * co y * co t) := by grind
    generalize (1 - (co x * co y - si x * si y)) * (1 - co t) = Y1 at *
    generalize (1 + (co x * co y + si x * si y)) * (1 + co t) = Y2 at *
    generalize si x * si y + co x * co y * co t = U at *
    generalize si h = s at *
    constructor <;> grind
  · unfold noT
    unfold Cl at r5 r6 ⊢
    have f1 : co u * si w * (si u * si w) = 2 * (si u * co u) * (2 * (si w * si w)) / 4 := by grind
    have f2 : co v * co w * (si v * co w) = 2 * (si v * co v) * (2 * (co w * co w)) / 4 := by grind
    rw [f1, f2]
    generalize 2 * (si u * co u) * (2 * (si w * si w)) = X1 at *
    generalize 2 * (si v * co v) * (2 * (co w * co w)) = X2 at *
    have g : (si x * co y + co x * si y) * (1 - co t) - (si x * co y - co x * si y) * (1 + co t) = 2 * (si y * co x - co y * co t * si x) := by grind
    generalize (si x * co y + co x * si y) * (1 - co t) = Y1 at *
    generalize (si x * co y - co x * si y) * (1 + co t) = Y2 at *
    generalize si y * co x - co y * co t * si x = N at *
    constructor <;> grind
  · unfold eaT
    unfold Cl at r7 ⊢
    have f1 : co u * si w * (si v * co w) + co v * co w * (si u * si w) = 2 * (si w * co w) * (si u * co v + co u * si v) / 2 := by grind
    rw [f1]
    rw [show si t * co y = co y * si t by grind] at r7
    generalize 2 * (si w * co w) * (si u * co v + co u * si v) = X1 at *
    generalize co y * si t = N at *
    constructor <;> grind
  · have d := d.2.2
    have cq := cq.1
    unfold Cl at d cq ⊢
    rw [show co κ * si κ = si κ * co κ by grind]
    generalize si κ * co κ = K at *
    constructor <;> grind
end Go.Proofs.YtmididlfnajhiaaGreatDoor
namespace Go.Proofs.YtmididlfnajhiaaGreatDoor
open SM TB TA
def fU (a b c d : Int) : Int × Int := ((10800000 - b - d) / 2, -(-(10800000 - a - c) / 2))
def fV (a b c d : Int) : Int × Int := ((a - d) / 2, -(-(b - c) / 2))
def fW (e f : Int) : Int × Int := (turnL e f / 2, -(-turnH e f / 2))
def mulT (r s : Int × Int × Int) : Int × Int × Int := mulR r.1 r.2.1 s.1 s.2.1
def hfP (a b c d e f : Int) : Int × Int × Int := mulT (cosR (fU a b c d).1 (fU a b c d).2) (sinR (fW e f).1 (fW e f).2)
def hfQ (a b c d e f : Int) : Int × Int × Int := mulT (cosR (fV a b c d).1 (fV a b c d).2) (cosR (fW e f).1 (fW e f).2)
def hfR (a b c d e f : Int) : Int × Int × Int := mulT (sinR (fU a b c d).1 (fU a b c d).2) (sinR (fW e f).1 (fW e f).2)
def hfS (a b c d e f : Int) : Int × Int × Int := mulT (sinR (fV a b c d).1 (fV a b c d).2) (cosR (fW e f).1 (fW e f).2)
def sumT (r s : Int × Int × Int) : Int × Int × Int := addR (sqrR r.1 r.2.1).1 (sqrR r.1 r.2.1).2.1 (sqrR s.1 s.2.1).1 (sqrR s.1 s.2.1).2.1
def lenT (r s : Int × Int × Int) : Int × Int × Int := sqtR (sumT r s).1 (sumT r s).2.1
def hfY (a b c d e f : Int) : Int × Int × Int := lenT (hfR a b c d e f) (hfS a b c d e f)
def hfX (a b c d e f : Int) : Int × Int × Int := lenT (hfP a b c d e f) (hfQ a b c d e f)
def beaT (r s : Int × Int × Int) : Int × Int × Int := bearR r.1 r.2.1 s.1 s.2.1
def fullB (r : Int × Int × Int) : Bool := decide (21600000 ≤ r.2.1 - r.1)
def hfB (a b c d e f : Int) : Int × Int × Int := beaT (hfY a b c d e f) (hfX a b c d e f)
def hfH (a b c d e f : Int) : Int × Int × Int := (5400000 - 2 * (hfB a b c d e f).2.1, 5400000 - 2 * (hfB a b c d e f).1, 0)
def hfA (a b c d e f : Int) : Int × Int × Int := beaT (hfQ a b c d e f) (hfP a b c d e f)
def hfC (a b c d e f : Int) : Int × Int × Int := beaT (hfS a b c d e f) (hfR a b c d e f)
def oppS (r s : Int × Int × Int) : Int × Int × Int := if fullB r || fullB s then (0, 21600000, 0) else (turnL (-(r.2.1 + s.2.1)) (-(r.1 + s.1)), turnH (-(r.2.1 + s.2.1)) (-(r.1 + s.1)), 0)
def hfZ (a b c d e f : Int) : Int × Int × Int := oppS (hfA a b c d e f) (hfC a b c d e f)
theorem turn_in {e f : Int} {t : Rat} (_h : avalidB e f = true) (ht : Hs 0 e f t) : ∃ m : Int, Hs 0 (turnL e f) (turnH e f) (t + 21600000 * (m : Rat)) := by
  unfold turnL turnH
  by_cases c : 21600000 ≤ f - e
  · rw [if_pos c, if_pos c]
    exact Dr.all (by grind) t
  · rw [if_neg c, if_neg c]
    refine ⟨-(e / 21600000), ?_⟩
    have q : e % 21600000 = e + 21600000 * -(e / 21600000) := by omega
    rw [q]
    unfold Hs at *
    rw [Rat.intCast_add, Rat.intCast_add, Rat.intCast_add, Rat.intCast_mul, Rat.intCast_sub, show ((21600000 : Int) : Rat) = 21600000 by rfl]
    generalize ((-(e / 21600000) : Int) : Rat) = k at *
    constructor <;> grind
theorem ang_bd {a b c d e f : Int} (h : triB a b c d e f = true) : avalidB (fU a b c d).1 (fU a b c d).2 = true ∧ avalidB (fV a b c d).1 (fV a b c d).2 = true ∧ avalidB (fW e f).1 (fW e f).2 = true := by
  obtain ⟨h1, h2, h3⟩ := tri_bd h
  have l1 := lat_bd h1
  have l2 := lat_bd h2
  have l3 := aval_bd h3
  have m0 := Int.emod_nonneg e (show (21600000 : Int) ≠ 0 by omega)
  have m1 := Int.emod_lt_of_pos e (show (0 : Int) < 21600000 by omega)
  refine ⟨?_, ?_, ?_⟩
  · unfold fU
    exact avalid_mk (by dsimp only; omega) (by dsimp only; omega) (by dsimp only; omega)
  · unfold fV
    exact avalid_mk (by dsimp only; omega) (by dsimp only; omega) (by dsimp only; omega)
  · unfold fW turnL turnH
    split
    · exact avalid_mk (by dsimp only; omega) (by dsimp only; omega) (by dsimp only; omega)
    · exact avalid_mk (by dsimp only; omega) (by dsimp only; omega) (by dsimp only; omega)
theorem ang_v {a b c d e f : Int} {x y t : Rat} (h : triB a b c d e f = true) (hx : Hs 0 a b x) (hy : Hs 0 c d y) (ht : Hs 0 e f t) :
    ∃ u v w : Rat, u + u = 10800000 - (x + y) ∧ v + v = x - y ∧ (co (w + w) = co t ∧ si (w + w) = si t) ∧ u + v = 5400000 - y ∧ Hs 0 (fU a b c d).1 (fU a b c d).2 u ∧ Hs 0 (fV a b c d).1 (fV a b c d).2 v ∧ Hs 0 (fW e f).1 (fW e f).2 w := by
  obtain ⟨h1, h2, h3⟩ := tri_bd h
  obtain ⟨m, hm⟩ := turn_in h3 ht
  refine ⟨(10800000 - (x + y)) / 2, (x - y) / 2, (t + 21600000 * (m : Rat)) / 2, by grind, by grind, ?_, by grind, ?_, ?_, ?_⟩
  · rw [show (t + 21600000 * (m : Rat)) / 2 + (t + 21600000 * (m : Rat)) / 2 = t + 21600000 * (m : Rat) by grind]
    exact turn_eq t m
  · refine half_v (by grind) ?_
    rw [show 2 * ((10800000 - (x + y)) / 2) = 10800000 - (x + y) by grind]
    unfold Hs at *
    rw [Rat.intCast_sub, Rat.intCast_sub, Rat.intCast_sub, Rat.intCast_sub, show ((10800000 : Int) : Rat) = 10800000 by rfl]
    constructor <;> grind
  · refine half_v (by grind) ?_
    rw [show 2 * ((x - y) / 2) = x - y by grind]
    unfold Hs at *
    rw [Rat.intCast_sub, Rat.intCast_sub]
    constructor <;> grind
  · refine half_v (by grind) ?_
    rw [show 2 * ((t + 21600000 * (m : Rat)) / 2) = t + 21600000 * (m : Rat) by grind]
    exact hm
theorem one4 {a b c d e f : Int} (h : triB a b c d e f = true) : OneR (hfP a b c d e f) ∧ OneR (hfQ a b c d e f) ∧ OneR (hfR a b c d e f) ∧ OneR (hfS a b c d e f) := by
  obtain ⟨u, v, w⟩ := ang_bd h
  exact ⟨mul_ones (cos_one u) (sin_one w), mul_ones (cos_one v) (cos_one w), mul_ones (sin_one u) (sin_one w), mul_ones (sin_one v) (cos_one w)⟩
theorem four_v {a b c d e f : Int} {u v w : Rat} (h : triB a b c d e f = true) (hu : Hs 0 (fU a b c d).1 (fU a b c d).2 u) (hv : Hs 0 (fV a b c d).1 (fV a b c d).2 v) (hw : Hs 0 (fW e f).1 (fW e f).2 w) :
    Vl (hfP a b c d e f) (15 * e1) (co u * si w) ∧ Vl (hfQ a b c d e f) (15 * e1) (co v * co w) ∧ Vl (hfR a b c d e f) (15 * e1) (si u * si w) ∧ Vl (hfS a b c d e f) (15 * e1) (si v * co w) := by
  obtain ⟨vu, vv, vw⟩ := ang_bd h
  have e1b := e1_bd
  have q : 5 * e1 ≤ 1 / 4 := by grind
  have q0 : 0 ≤ 5 * e1 := by grind
  have su := sin_at vu hu
  have cu := cos_at vu hu
  have sv := sin_at vv hv
  have cv := cos_at vv hv
  have sw := sin_at vw hw
  have cw := cos_at vw hw
  refine ⟨?_, ?_, ?_, ?_⟩
  · exact (mul_v (cos_one vu) (sin_one vw) q0 q cu sw).wide (by grind)
  · exact (mul_v (cos_one vv) (cos_one vw) q0 q cv cw).wide (by grind)
  · exact (mul_v (sin_one vu) (sin_one vw) q0 q su sw).wide (by grind)
  · exact (mul_v (sin_one vv) (cos_one vw) q0 q sv cw).wide (by grind)
def sF : Rat := pw 570
def tF : Rat := pw 1140
theorem lvF : 1073741824 * (90 * e1 + 1073741824 * (18 * e0)) ≤ tF ∧ 0 ≤ tF ∧ tF ≤ sF * sF ∧ 0 ≤ sF ∧ tF ≤ sF ∧ sF + 1073741824 * eT ≤ 1 / 2 ^ 91 ∧ 2 ^ 64 * (sF + 1073741824 * eT + 2 * e1) ≤ dS / 4 ∧ 15 * e1 + 1073741824 * (2 * eT) ≤ 1 / 2 ^ 91 ∧ 2 ^ 64 * (15 * e1 + 1073741824 * (2 * eT) + 2 * e1) ≤ dS / 8 ∧ 5 * e0 ≤ eT ∧ 15 * e1 ≤ 1 / 4 ∧ dS ≤ 1 / 8 ∧ 2 ^ 64 * eT ≤ 1 / 2 ^ 100 ∧ 0 < eT ∧ 16000000 * (2 ^ 50 * eT + e0) ≤ dS / 8 ∧ 2 ^ 50 * eT ≤ 1 / 2 ^ 40 := by decide +kernel
theorem len_ok {r s : Int × Int × Int} (h : OneR r) (k : OneR s) : sumT r s = ((sqrR r.1 r.2.1).1 + (sqrR s.1 s.2.1).1, (sqrR r.1 r.2.1).2.1 + (sqrR s.1 s.2.1).2.1, 0) ∧ 0 ≤ (sumT r s).1 ∧ validB (sumT r s).1 (sumT r s).2.1 = true ∧ (lenT r s).2.2 = 0 ∧ 0 ≤ (lenT r s).1 ∧ validB (lenT r s).1 (lenT r s).2.1 = true := by
  obtain ⟨_, p2, p3⟩ := sqr_ones h
  obtain ⟨_, q2, q3⟩ := sqr_ones k
  have a := add_ones p2 q2
  have e : sumT r s = ((sqrR r.1 r.2.1).1 + (sqrR s.1 s.2.1).1, (sqrR r.1 r.2.1).2.1 + (sqrR s.1 s.2.1).2.1, 0) := a.1
  have v : validB (sumT r s).1 (sumT r s).2.1 = true := by
    rw [e]
    exact a.2
  have z : 0 ≤ (sumT r s).1 := by
    rw [e]
    dsimp only
    omega
  have b := val_bd v
  have q := sqt_ok z b.2.1 b.2.2
  have e2 : lenT r s = (irt ((sumT r s).1 * 1073741824), iru ((sumT r s).2.1 * 1073741824), 0) := q.1
  refine ⟨e, z, v, ?_, ?_, ?_⟩
  · rw [e2]
  · rw [e2]
    exact q.2.1
  · rw [e2]
    exact val_mk (by dsimp only; omega) q.2.2.1 q.2.2.2
theorem len_v {r s : Int × Int × Int} {X Y ρ : Rat} (h : OneR r) (k : OneR s) (h' : Vl r (15 * e1) X) (k' : Vl s (15 * e1) Y) (hr : 0 ≤ ρ) (hu : Cl (18 * e0) (ρ * ρ) (X * X + Y * Y)) : Vl (lenT r s) sF ρ := by
  obtain ⟨w1, w2, w3, w4, w5, _, _, _, _, _, w11, _⟩ := lvF
  have e1b := e1_bd
  have a := sqr_v h (by grind) w11 h'
  have b := sqr_v k (by grind) w11 k'
  obtain ⟨_, p2, p3⟩ := sqr_ones h
  obtain ⟨_, q2, q3⟩ := sqr_ones k
  have s' := add_v p2 q2 a b
  have l := len_ok h k
  have n : Vl (sumT r s) (90 * e1 + 1073741824 * (18 * e0)) (ρ * ρ) := Vl.near (Vl.wide s' (by grind)) hu
  exact sqt_v l.2.1 n hr w1 w2 w3 w4 w5
theorem co_nn {κ : Rat} (h0 : 0 ≤ κ) (h1 : κ ≤ 5400000) : ∃ r : Rat, 0 ≤ r ∧ r ≤ 2 ∧ Cl e0 r (co κ) ∧ Cl (2 * e0) (r * r) (co κ * co κ) := by
  have cl := co_lat (show -5400000 ≤ κ by grind) h1
  have eb := e0_bd
  rcases (Rat.le_total : 0 ≤ co κ ∨ co κ ≤ 0) with c | c
  · exact ⟨co κ, c, cl.2, Cl.refl _ (by grind), Cl.refl _ (by grind)⟩
  · refine ⟨0, by grind, by grind, ?_, ?_⟩
    · unfold Cl; constructor <;> grind
    · have m := mul_abs (a := co κ) (b := co κ) (A := e0) (B := 1) (by grind) (by grind) (by grind) (by grind)
      unfold Cl
      constructor <;> grind
theorem val4 {a b c d e f : Int} (h : triB a b c d e f = true) : validB (hfY a b c d e f).1 (hfY a b c d e f).2.1 = true ∧ validB (hfX a b c d e f).1 (hfX a b c d e f).2.1 = true ∧ 0 ≤ (hfY a b c d e f).1 ∧ 0 ≤ (hfX a b c d e f).1 := by
  obtain ⟨p, q, r, s⟩ := one4 h
  have a := len_ok r s
  have b := len_ok p q
  exact ⟨a.2.2.2.2.2, b.2.2.2.2.2, a.2.2.2.2.1, b.2.2.2.2.1⟩
theorem hf_up {a b c d e f : Int} {x y t h' z' : Rat} (h : triB a b c d e f = true) (ho : originB (hfY a b c d e f).1 (hfY a b c d e f).2.1 (hfX a b c d e f).1 (hfX a b c d e f).2.1 = false) (hx : Hs 0 a b x) (hy : Hs 0 c d y) (ht : Hs 0 e f t) (s : Sees x y t h' z') :
    Hs dS (hfH a b c d e f).1 (hfH a b c d e f).2.1 h' := by
  obtain ⟨u, v, w, gu, gv, gw, guv, hu, hv, hw⟩ := ang_v h hx hy ht
  obtain ⟨h0, h1, _, _, k1, _, _⟩ := s
  obtain ⟨G1, G2, _, _, _⟩ := gauss (κ := (5400000 - h') / 2) gu gv gw guv (by grind) k1
  obtain ⟨p, q, r, s⟩ := one4 h
  obtain ⟨P, Q, R, S⟩ := four_v h hu hv hw
  obtain ⟨w1, w2, w3, w4, w5, w6, w7, w8, w9, w10, w11, w12, _⟩ := lvF
  have eb := e0_bd
  have κ0 : 0 ≤ (5400000 - h') / 2 := by grind
  have κ1 : (5400000 - h') / 2 ≤ 5400000 := by grind
  have hh : h' = 5400000 - 2 * ((5400000 - h') / 2) := by grind
  generalize (5400000 - h') / 2 = κ at *
  obtain ⟨ρ, r0, r1, rc, rr⟩ := co_nn κ0 κ1
  have Y := len_v r s R S (si_half κ0 κ1) (G1.symm.wide (by grind))
  have X := len_v p q P Q r0 (ρ := ρ) ((Cl.trans rr G2.symm).wide (by grind))
  have V := val4 h
  have B := bear_v (q := κ) (ρ := 1) (e := sF) (t := eT) Y X (by rw [show 1 * si κ = si κ by grind]; exact Cl.refl _ (by grind)) (by rw [show 1 * co κ = co κ by grind]; exact rc.symm.wide (by grind)) (by grind) (by grind) w4 (by grind) w6
  have F := bear_first V.1 V.2.1 V.2.2.1 V.2.2.2 ho
  obtain ⟨_, m, B⟩ := B
  have fb : hfB a b c d e f = bearR (hfY a b c d e f).1 (hfY a b c d e f).2.1 (hfX a b c d e f).1 (hfX a b c d e f).2.1 := rfl
  have B' : Hs (dS / 4) (hfB a b c d e f).1 (hfB a b c d e f).2.1 (κ + 21600000 * (m : Rat)) := B.wide w7 (Int.le_refl _) (Int.le_refl _)
  rw [← fb] at F
  unfold hfH
  dsimp only
  generalize hfB a b c d e f = T at *
  unfold Hs at B' ⊢
  have f1 : (0 : Rat) ≤ (T.1 : Rat) := le_c (a := 0) F.1
  have f2 : (T.2.1 : Rat) ≤ 5400000 := le_c (b := 5400000) F.2
  have hm : m = 0 := by
    rcases Int.lt_trichotomy m 0 with q | q | q
    · have := le_c (show m ≤ -1 by omega)
      rw [show ((-1 : Int) : Rat) = -1 by rfl] at this
      grind
    · exact q
    · have := le_c (show 1 ≤ m by omega)
      rw [show ((1 : Int) : Rat) = 1 by rfl] at this
      grind
  subst hm
  rw [show ((0 : Int) : Rat) = 0 by rfl] at B'
  rw [Rat.intCast_sub, Rat.intCast_sub, Rat.intCast_mul, Rat.intCast_mul, show ((5400000 : Int) : Rat) = 5400000 by rfl, show ((2 : Int) : Rat) = 2 by rfl]
  constructor <;> grind
end Go.Proofs.YtmididlfnajhiaaGreatDoor
namespace Go.Proofs.YtmididlfnajhiaaGreatDoor
open SM TB TA
theorem dir_close {z γ ε : Rat} (he0 : 0 ≤ ε) (he : ε ≤ 1 / 2 ^ 50) (hc : Cl ε (co γ) (co z)) (hs : Cl ε (si γ) (si z)) : ∃ m : Int, Cl (16000000 * (6 * ε + e0)) z (γ + 21600000 * (m : Rat)) := by
  have sb := subq z γ
  have un := unit z
  have ub := u0_bd
  have e := ee0
  have eb := e0_bd
  have bz := bdq z
  have m1 := mul_abs (a := co z) (b := co γ - co z) (A := 11 / 10) (B := ε) (by grind) (by grind) (by unfold Cl at hc; grind) (by unfold Cl at hc; grind)
  have m2 := mul_abs (a := si z) (b := si γ - si z) (A := 11 / 10) (B := ε) (by grind) (by grind) (by unfold Cl at hs; grind) (by unfold Cl at hs; grind)
  have m3 := mul_abs (a := si z) (b := co γ - co z) (A := 11 / 10) (B := ε) (by grind) (by grind) (by unfold Cl at hc; grind) (by unfold Cl at hc; grind)
  have m4 := mul_abs (a := co z) (b := si γ - si z) (A := 11 / 10) (B := ε) (by grind) (by grind) (by unfold Cl at hs; grind) (by unfold Cl at hs; grind)
  have C : 1 / 2 ≤ co (z - γ) := by
    have sb := sb.1
    clear m3 m4 hc hs bz
    unfold Cl at sb un
    rw [show co z * co γ + si z * si γ = co z * co z + si z * si z + (co z * (co γ - co z) + si z * (si γ - si z)) by grind] at sb
    generalize co z * co z + si z * si z = n at *
    generalize co z * (co γ - co z) = x1 at *
    generalize si z * (si γ - si z) = x2 at *
    grind
  have S : Cl (5 * ε + e0) (si (z - γ)) 0 := by
    have sb := sb.2
    clear m1 m2 hc hs bz un
    unfold Cl at sb ⊢
    rw [show si z * co γ - co z * si γ = si z * (co γ - co z) - co z * (si γ - si z) by grind] at sb
    generalize si z * (co γ - co z) = x1 at *
    generalize co z * (si γ - si z) = x2 at *
    constructor <;> grind
  have rd := rdq_bd (z - γ)
  have tq := turn_eq (rdq (z - γ)) (tm (z - γ))
  have hz : rdq (z - γ) + 21600000 * (tm (z - γ) : Rat) = z - γ := by unfold rdq; grind
  rw [hz] at tq
  rw [tq.1] at C
  rw [tq.2] at S
  clear sb un m1 m2 m3 m4 tq bz hc hs
  refine ⟨tm (z - γ), ?_⟩
  generalize ((tm (z - γ) : Int) : Rat) = k at *
  generalize rdq (z - γ) = D at *
  have pc := pos_co (p := D) (ρ := 1) rd.1 (by grind) (by grind) (by grind) (by grind)
  unfold Cl at S
  have t1 : 5 * ε + e0 ≤ 1 / 2 ^ 40 := by grind
  unfold Cl
  rcases (Rat.le_total : 0 ≤ D ∨ D ≤ 0) with g | g
  · have := small_si (z := D) (t := 5 * ε + e0) g (by grind) t1 (by grind)
    constructor <;> grind
  · have n := si_neg (q := D) (by grind) (by grind)
    have := small_si (z := -D) (t := 5 * ε + e0) (by grind) (by grind) t1 (by rw [n.1]; grind)
    constructor <;> grind
theorem Dr_move {d g : Rat} {lo hi : Int} {γ z : Rat} {m : Int} (h : Dr d lo hi γ) (k : Cl g z (γ + 21600000 * (m : Rat))) : Dr (d + g) lo hi z := by
  obtain ⟨n, h⟩ := h
  refine ⟨n - m, ?_⟩
  unfold Hs at *
  unfold Cl at k
  rw [Rat.intCast_sub]
  generalize (n : Rat) = n' at *
  generalize (m : Rat) = m' at *
  constructor <;> grind
theorem box_zero {r s : Int × Int × Int} {X Y : Rat} (h : Vl r (15 * e1) Y) (k : Vl s (15 * e1) X) (hX : -1 / 2 ^ 31 ≤ X ∧ X ≤ 1 / 2 ^ 31) (hY : -1 / 2 ^ 31 ≤ Y ∧ Y ≤ 1 / 2 ^ 31) : beaT r s = (0, 21600000, 0) := by
  have e1b := e1_bd
  obtain ⟨_, v1, a1, a2⟩ := h
  obtain ⟨_, v2, b1, b2⟩ := k
  have z : ((0 : Int) : Rat) = 0 := rfl
  have c1 : r.1 ≤ 0 := of_c (e := 3 / 4) (by rw [z]; grind) (by grind)
  have c2 : 0 ≤ r.2.1 := of_c (e := 3 / 4) (by rw [z]; grind) (by grind)
  have c3 : s.1 ≤ 0 := of_c (e := 3 / 4) (by rw [z]; grind) (by grind)
  have c4 : 0 ≤ s.2.1 := of_c (e := 3 / 4) (by rw [z]; grind) (by grind)
  have o : originB r.1 r.2.1 s.1 s.2.1 = true := decide_eq_true (by omega)
  unfold beaT bearR
  rw [v1, v2, o]
  rfl
theorem oppS_full {r s : Int × Int × Int} (h : r = (0, 21600000, 0) ∨ s = (0, 21600000, 0)) : oppS r s = (0, 21600000, 0) := by
  unfold oppS
  have f : fullB ((0 : Int), (21600000 : Int), (0 : Int)) = true := rfl
  rcases h with rfl | rfl
  · rw [f]; rfl
  · rw [f]; simp
theorem oppS_dir {r s : Int × Int × Int} (h : DirR r) (k : DirR s) : DirR (oppS r s) ∧ (((oppS r s).1 = 0 ∧ (oppS r s).2.1 = 21600000) ∨ (oppS r s).2.1 < (oppS r s).1 + 21600000) := by
  obtain ⟨h1, h2, h3, h4, h5⟩ := h
  obtain ⟨k1, k2, k3, k4, k5⟩ := k
  unfold oppS
  split
  · exact ⟨⟨by dsimp only; omega, by dsimp only; omega, by dsimp only; omega, by dsimp only; omega, rfl⟩, .inl ⟨rfl, rfl⟩⟩
  · have m0 := Int.emod_nonneg (-(r.2.1 + s.2.1)) (show (21600000 : Int) ≠ 0 by omega)
    have m1 := Int.emod_lt_of_pos (-(r.2.1 + s.2.1)) (show (0 : Int) < 21600000 by omega)
    unfold turnL turnH
    split
    · exact ⟨⟨by dsimp only; omega, by dsimp only; omega, by dsimp only; omega, by dsimp only; omega, rfl⟩, .inl ⟨rfl, rfl⟩⟩
    · exact ⟨⟨by dsimp only; omega, by dsimp only; omega, by dsimp only; omega, by dsimp only; omega, rfl⟩, .inr (by dsimp only; omega)⟩
theorem oppS_v {r s : Int × Int × Int} {d α β : Rat} (d0 : 0 ≤ d) (h : Dr d r.1 r.2.1 α) (k : Dr d s.1 s.2.1 β) : Dr (2 * d) (oppS r s).1 (oppS r s).2.1 (-(α + β)) := by
  unfold oppS
  split
  · exact Dr.all (by grind) _
  · obtain ⟨m, h⟩ := h
    obtain ⟨n, k⟩ := k
    have a := (h.add k).neg
    dsimp only
    unfold turnL turnH
    split
    · exact Dr.all (by grind) _
    · refine ⟨-(m + n) - (-(r.2.1 + s.2.1)) / 21600000, ?_⟩
      have q : -(r.2.1 + s.2.1) % 21600000 = -(r.2.1 + s.2.1) + 21600000 * -(-(r.2.1 + s.2.1) / 21600000) := by omega
      rw [q]
      have q2 : -(r.2.1 + s.2.1) + 21600000 * -(-(r.2.1 + s.2.1) / 21600000) + (-(r.1 + s.1) - -(r.2.1 + s.2.1)) = -(r.1 + s.1) + 21600000 * -(-(r.2.1 + s.2.1) / 21600000) := by omega
      rw [q2, show -(m + n) - -(r.2.1 + s.2.1) / 21600000 = -(m + n) + -(-(r.2.1 + s.2.1) / 21600000) by omega]
      generalize -(-(r.2.1 + s.2.1) / 21600000) = j at *
      generalize -(r.2.1 + s.2.1) = p at *
      generalize -(r.1 + s.1) = p' at *
      unfold Hs at *
      rw [Rat.intCast_add, Rat.intCast_add, Rat.intCast_add, Rat.intCast_neg, Rat.intCast_add, Rat.intCast_mul, show ((21600000 : Int) : Rat) = 21600000 by rfl]
      generalize (m : Rat) = m' at *
      generalize (n : Rat) = n' at *
      generalize (j : Rat) = j' at *
      constructor <;> grind
theorem arm {r s : Int × Int × Int} {X Y ρ : Rat} (h0 : -e0 ≤ ρ) (h1 : ρ ≤ 2) (h : Vl r (15 * e1) Y) (k : Vl s (15 * e1) X) (hu : Cl (40 * e0) (X * X + Y * Y) (ρ * ρ)) :
    DirR (beaT r s) ∧ ∃ α : Rat, Cl eT (ρ * co α) X ∧ Cl eT (ρ * si α) Y ∧ Dr (dS / 8) (beaT r s).1 (beaT r s).2.1 α := by
  obtain ⟨w1, w2, w3, w4, w5, w6, w7, w8, w9, w10, w11, w12, w13, w14, w15⟩ := lvF
  have e1b := e1_bd
  obtain ⟨α, _, _, a1, a2⟩ := aim h0 h1 hu
  obtain ⟨ρ', p0, p1, b1, b2⟩ := len_pos h0 h1 a1 a2
  have B := bear_v (q := α) (ρ := ρ') (e := 15 * e1) (t := 2 * eT) h k b2 b1 p0 (by grind) (by grind) (by grind) w8
  exact ⟨B.1, α, a1, a2, B.2.wide w9⟩
theorem turn_arm {c s α β X Y P Q : Rat} (hc : -2 ≤ c ∧ c ≤ 2) (hs : -2 ≤ s ∧ s ≤ 2) (a1 : Cl eT (c * co α) X) (a2 : Cl eT (c * si α) Y) (b1 : Cl eT (s * co β) P) (b2 : Cl eT (s * si β) Q) :
    Cl (30 * eT) (c * s * co (-(α + β))) (X * P - Y * Q) ∧ Cl (30 * eT) (c * s * si (-(α + β))) (-(X * Q + Y * P)) := by
  have ab := addq α β
  have ng := negq (α + β)
  have eb := e0_bd
  have ub := u0_bd
  have e := ee0
  have et : 5 * e0 ≤ eT := lvF.2.2.2.2.2.2.2.2.2.1
  have et1 : eT ≤ 1 / 2 ^ 100 := by
    have := lvF.2.2.2.2.2.2.2.2.2.2.2.2.1
    have := lvF.2.2.2.2.2.2.2.2.2.2.2.2.2.1
    grind
  have bα := bdq α
  have bβ := bdq β
  have A : -9 / 4 ≤ c * co α ∧ c * co α ≤ 9 / 4 := by
    have := mul_abs (a := c) (b := co α) (A := 2) (B := 11 / 10) hc.1 hc.2 (by grind) (by grind)
    constructor <;> grind
  have B : -9 / 4 ≤ c * si α ∧ c * si α ≤ 9 / 4 := by
    have := mul_abs (a := c) (b := si α) (A := 2) (B := 11 / 10) hc.1 hc.2 (by grind) (by grind)
    constructor <;> grind
  have C : -9 / 4 ≤ s * co β ∧ s * co β ≤ 9 / 4 := by
    have := mul_abs (a := s) (b := co β) (A := 2) (B := 11 / 10) hs.1 hs.2 (by grind) (by grind)
    constructor <;> grind
  have D : -9 / 4 ≤ s * si β ∧ s * si β ≤ 9 / 4 := by
    have := mul_abs (a := s) (b := si β) (A := 2) (B := 11 / 10) hs.1 hs.2 (by grind) (by grind)
    constructor <;> grind
  have bd : ∀ {u v : Rat}, Cl eT u v → -9 / 4 ≤ u ∧ u ≤ 9 / 4 → -3 ≤ v ∧ v ≤ 3 := fun h k => by
    unfold Cl at h
    constructor <;> grind
  have p1 := Cl.mul 3 3 a1 b1 (by constructor <;> grind) (bd a1 A)
  have p2 := Cl.mul 3 3 a2 b2 (by constructor <;> grind) (bd a2 B)
  have p3 := Cl.mul 3 3 a1 b2 (by constructor <;> grind) (bd a1 A)
  have p4 := Cl.mul 3 3 a2 b1 (by constructor <;> grind) (bd a2 B)
  have cs := mul_abs (a := c) (b := s) (A := 2) (B := 2) hc.1 hc.2 hs.1 hs.2
  have k1 : Cl (10000 * u0) (co (-(α + β))) (co α * co β - si α * si β) := by
    have := Cl.trans ng.1 ab.1
    exact this.wide (by grind)
  have k2 : Cl (10000 * u0) (si (-(α + β))) (-(si α * co β + co α * si β)) := by
    have := Cl.trans ng.2 ab.2.neg
    exact this.wide (by grind)
  have l1 := mul_abs (a := c * s) (b := co (-(α + β)) - (co α * co β - si α * si β)) (A := 4) (B := 10000 * u0) (by grind) (by grind) (by unfold Cl at k1; grind) (by unfold Cl at k1; grind)
  have l2 := mul_abs (a := c * s) (b := si (-(α + β)) - -(si α * co β + co α * si β)) (A := 4) (B := 10000 * u0) (by grind) (by grind) (by unfold Cl at k2; grind) (by unfold Cl at k2; grind)
  have f1 : c * co α * (s * co β) - c * si α * (s * si β) = c * s * (co α * co β - si α * si β) := by grind
  have f2 : c * co α * (s * si β) + c * si α * (s * co β) = c * s * (si α * co β + co α * si β) := by grind
  rw [show c * s * (co (-(α + β)) - (co α * co β - si α * si β)) = c * s * co (-(α + β)) - (c * co α * (s * co β) - c * si α * (s * si β)) by grind] at l1
  rw [show c * s * (si (-(α + β)) - -(si α * co β + co α * si β)) = c * s * si (-(α + β)) + (c * co α * (s * si β) + c * si α * (s * co β)) by grind] at l2
  clear f1 f2 k1 k2 A B C D bα bβ ab ng bd cs a1 a2 b1 b2
  unfold Cl at *
  generalize c * s * co (-(α + β)) = L1 at *
  generalize c * s * si (-(α + β)) = L2 at *
  generalize c * co α * (s * co β) = x1 at *
  generalize c * si α * (s * si β) = x2 at *
  generalize c * co α * (s * si β) = x3 at *
  generalize c * si α * (s * co β) = x4 at *
  generalize X * P = y1 at *
  generalize Y * Q = y2 at *
  generalize X * Q = y3 at *
  generalize Y * P = y4 at *
  refine ⟨⟨?_, ?_⟩, ?_, ?_⟩ <;> grind
end Go.Proofs.YtmididlfnajhiaaGreatDoor
namespace Go.Proofs.YtmididlfnajhiaaGreatDoor
open SM TB TA
theorem div_small {ρ a b e f r : Rat} (hr : r ≤ ρ) (hr0 : 0 < r) (he : e < r * f) (hf : 0 ≤ f) (h : Cl e (ρ * a) (ρ * b)) : Cl f a b := by
  unfold Cl at *
  have half : ∀ {u v : Rat}, ρ * u - ρ * v ≤ e → u - v ≤ f := fun {u v} k => by
    rcases (Rat.le_total : u - v ≤ f ∨ f ≤ u - v) with g | g
    · exact g
    · exfalso
      have m := Rat.mul_nonneg (show 0 ≤ ρ - r by grind) (show 0 ≤ u - v by grind)
      have m2 := Rat.mul_nonneg (show 0 ≤ r by grind) (show 0 ≤ u - v - f by grind)
      grind
  have p := half h.2
  have q := half (u := b) (v := a) (by grind)
  constructor <;> grind
theorem big_one {c s : Rat} (_hc0 : -e0 ≤ c) (hs0 : 0 ≤ s) (hn : Cl e0 (c * c + s * s) 1) (h1 : 1 / 2 ^ 32 ≤ c) (h2 : 1 / 2 ^ 32 ≤ s) : 1 / 2 ^ 32 ≤ 2 * (c * s) := by
  have eb := e0_bd
  unfold Cl at hn
  rcases (Rat.le_total : c ≤ 1 / 2 ∨ 1 / 2 ≤ c) with g | g
  · rcases (Rat.le_total : s ≤ 1 / 2 ∨ 1 / 2 ≤ s) with k | k
    · exfalso
      have m1 := Rat.mul_nonneg (show 0 ≤ 1 / 2 - c by grind) (show 0 ≤ 1 / 2 + c by grind)
      have m2 := Rat.mul_nonneg (show 0 ≤ 1 / 2 - s by grind) (show 0 ≤ 1 / 2 + s by grind)
      grind
    · have := Rat.mul_nonneg (show 0 ≤ c by grind) (show 0 ≤ 2 * s - 1 by grind)
      grind
  · have := Rat.mul_nonneg hs0 (show 0 ≤ 2 * c - 1 by grind)
    grind
theorem tiny {c p q : Rat} (h0 : -e0 ≤ c) (h1 : c ≤ 1 / 2 ^ 32) (h : Cl (16 * e0) (p * p + q * q) (c * c)) : (-1 / 2 ^ 31 ≤ p ∧ p ≤ 1 / 2 ^ 31) ∧ (-1 / 2 ^ 31 ≤ q ∧ q ≤ 1 / 2 ^ 31) := by
  have eb := e0_bd
  have m := Rat.mul_nonneg (show 0 ≤ 1 / 2 ^ 32 - c by grind) (show 0 ≤ 1 / 2 ^ 32 + c by grind)
  have p2 := sq_nn p
  have q2 := sq_nn q
  unfold Cl at h
  have a := sqrt_small (z := p) (f := 1 / 2 ^ 31) (e := 1 / 2 ^ 62) (by grind) (by grind) (by grind)
  have b := sqrt_small (z := q) (f := 1 / 2 ^ 31) (e := 1 / 2 ^ 62) (by grind) (by grind) (by grind)
  constructor <;> constructor <;> grind
theorem hf_az {a b c d e f : Int} {x y t h' z' : Rat} (h : triB a b c d e f = true) (hx : Hs 0 a b x) (hy : Hs 0 c d y) (ht : Hs 0 e f t) (s : Sees x y t h' z') :
    Dr dS (hfZ a b c d e f).1 (hfZ a b c d e f).2.1 z' := by
  obtain ⟨u, v, w, gu, gv, gw, guv, hu, hv, hw⟩ := ang_v h hx hy ht
  obtain ⟨h0, h1, _, _, k1, k2, k3⟩ := s
  obtain ⟨G1, G2, G3, G4, G5⟩ := gauss (κ := (5400000 - h') / 2) gu gv gw guv (by grind) k1
  obtain ⟨P, Q, R, S⟩ := four_v h hu hv hw
  have eb := e0_bd
  have ub := u0_bd
  have ee := ee0
  have d0 : 0 ≤ dS := by decide +kernel
  have κ0 : 0 ≤ (5400000 - h') / 2 := by grind
  have κ1 : (5400000 - h') / 2 ≤ 5400000 := by grind
  generalize (5400000 - h') / 2 = κ at *
  have cl := co_lat (show -5400000 ≤ κ by grind) κ1
  have s0 := si_half κ0 κ1
  have bs := bdq κ
  have un := unit κ
  have eZ : hfZ a b c d e f = oppS (hfA a b c d e f) (hfC a b c d e f) := rfl
  have eA : hfA a b c d e f = beaT (hfQ a b c d e f) (hfP a b c d e f) := rfl
  have eC : hfC a b c d e f = beaT (hfS a b c d e f) (hfR a b c d e f) := rfl
  rcases (Rat.le_total : co κ ≤ 1 / 2 ^ 32 ∨ 1 / 2 ^ 32 ≤ co κ) with g1 | g1
  · obtain ⟨tp, tq⟩ := tiny cl.1 g1 G2
    rw [eZ, oppS_full (.inl (eA.trans (box_zero Q P tp tq)))]
    exact Dr.all d0 _
  rcases (Rat.le_total : si κ ≤ 1 / 2 ^ 32 ∨ 1 / 2 ^ 32 ≤ si κ) with g2 | g2
  · obtain ⟨tr, ts⟩ := tiny (show -e0 ≤ si κ by grind) g2 G1
    rw [eZ, oppS_full (.inr (eC.trans (box_zero S R tr ts)))]
    exact Dr.all d0 _
  obtain ⟨DA, α, a1, a2, A⟩ := arm cl.1 cl.2 Q P (G2.wide (by grind))
  obtain ⟨DC, β, b1, b2, C⟩ := arm (show -e0 ≤ si κ by grind) (show si κ ≤ 2 by grind) S R (G1.wide (by grind))
  have T := turn_arm (by constructor <;> grind) (by constructor <;> grind) a1 a2 b1 b2
  have big := big_one cl.1 s0 (Cl.wide un (by grind)) g1 g2
  have O := oppS_v (show 0 ≤ dS / 8 by grind) A C
  rw [eZ, eA, eC]
  clear gu gv gw guv hu hv hw P Q R S A C a1 a2 b1 b2 DA DC G1 G2 un eZ eA eC
  obtain ⟨w1, w2, w3, w4, w5, w6, w7, w8, w9, w10, w11, w12, w13, w14, w15, w16⟩ := lvF
  have bg := bdq (-(α + β))
  have M1 := mul_abs (a := 2 * (co κ * si κ) - co h') (b := co (-(α + β))) (A := 16 * e0) (B := 2) (by unfold Cl at G5; grind) (by unfold Cl at G5; grind) (by grind) (by grind)
  have M2 := mul_abs (a := 2 * (co κ * si κ) - co h') (b := si (-(α + β))) (A := 16 * e0) (B := 2) (by unfold Cl at G5; grind) (by unfold Cl at G5; grind) (by grind) (by grind)
  have lg : 1 / 2 ^ 33 ≤ co h' := by
    unfold Cl at G5
    grind
  have E1 : Cl (100 * eT) (co h' * co (-(α + β))) (co h' * co z') := by
    have T := T.1
    rw [show (2 * (co κ * si κ) - co h') * co (-(α + β)) = 2 * (co κ * si κ * co (-(α + β))) - co h' * co (-(α + β)) by grind] at M1
    clear M2 bg bs big lg g1 g2 G5 G4 k3 O
    unfold Cl at *
    generalize co κ * si κ * co (-(α + β)) = L at *
    generalize co h' * co (-(α + β)) = L2 at *
    generalize co h' * co z' = L3 at *
    generalize noT x y t = N at *
    constructor <;> grind
  have E2 : Cl (100 * eT) (co h' * si (-(α + β))) (co h' * si z') := by
    have T := T.2
    rw [show (2 * (co κ * si κ) - co h') * si (-(α + β)) = 2 * (co κ * si κ * si (-(α + β))) - co h' * si (-(α + β)) by grind] at M2
    clear M1 bg bs big lg g1 g2 G5 G3 k2 O E1
    unfold Cl at *
    generalize co κ * si κ * si (-(α + β)) = L at *
    generalize co h' * si (-(α + β)) = L2 at *
    generalize co h' * si z' = L3 at *
    generalize eaT y t = N at *
    constructor <;> grind
  have F1 := div_small (r := 1 / 2 ^ 33) (f := 2 ^ 40 * eT) lg (by grind) (by grind) (by grind) E1
  have F2 := div_small (r := 1 / 2 ^ 33) (f := 2 ^ 40 * eT) lg (by grind) (by grind) (by grind) E2
  obtain ⟨m, cl2⟩ := dir_close (z := z') (γ := -(α + β)) (ε := 2 ^ 40 * eT) (by grind) (by grind) F1 F2
  exact (Dr_move O cl2).wide (by grind)
theorem half_hold {a b c d e f : Int} (h : triB a b c d e f = true) (ho : originB (hfY a b c d e f).1 (hfY a b c d e f).2.1 (hfX a b c d e f).1 (hfX a b c d e f).2.1 = false) : Hold a b c d e f (hfH a b c d e f) (hfZ a b c d e f) := by
  have V := val4 h
  have F := bear_first V.1 V.2.1 V.2.2.1 V.2.2.2 ho
  have D := bea_dir V.1 V.2.1
  obtain ⟨p, q, r, s⟩ := one4 h
  have dA : DirR (hfA a b c d e f) := bea_dir q.val p.val
  have dC : DirR (hfC a b c d e f) := bea_dir s.val r.val
  have o := oppS_dir dA dC
  refine ⟨?_, o.1, o.2, fun x y t hx hy ht h' z' s' => hf_up h ho hx hy ht s', fun x y t hx hy ht h' z' s' => hf_az h hx hy ht s'⟩
  have fb : hfB a b c d e f = bearR (hfY a b c d e f).1 (hfY a b c d e f).2.1 (hfX a b c d e f).1 (hfX a b c d e f).2.1 := rfl
  rw [← fb] at F D
  obtain ⟨d1, d2, d3, d4, d5⟩ := D
  unfold hfH LatR
  dsimp only
  exact ⟨by omega, by omega, by omega, rfl⟩
end Go.Proofs.YtmididlfnajhiaaGreatDoor
namespace Go.Proofs.YtmididlfnajhiaaGreatDoor
open SM TB TA
end Go.Proofs.YtmididlfnajhiaaGreatDoor
namespace Go.Proofs.YtmididlfnajhiaaGreatDoor
open SM TB TA
end Go.Proofs.YtmididlfnajhiaaGreatDoor
namespace Go.Proofs.YtmididlfnajhiaaGreatDoor
open SM TB TA
end Go.Proofs.YtmididlfnajhiaaGreatDoor

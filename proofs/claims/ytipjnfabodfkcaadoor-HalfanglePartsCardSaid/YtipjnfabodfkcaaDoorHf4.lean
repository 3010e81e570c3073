/-
  Half-angles: what is computed holds the truth. No program here.
-/
import Derived.Test.YtipjnfabodfkcaaDoorHf3
namespace Go.Proofs.YtipjnfabodfkcaaDoor
open SM TB TA
theorem div_small {ρ a b e f r : Rat} (hr : r ≤ ρ) (hr0 : 0 < r) (he : e < r * f) (hf : 0 ≤ f) (h : Cl e (ρ * a) (ρ * b)) : Cl f a b := by
  unfold Cl at *
  have half : ∀ {u v : Rat}, ρ * u - ρ * v ≤ e → u - v ≤ f := fun {u v} k => by
    rcases (Rat.le_total : u - v ≤ f ∨ f ≤ u - v) with g | g
    · exact g
    · exfalso
      have m := Rat.mul_nonneg (show 0 ≤ ρ - r by grind) (show 0 ≤ u - v by grind)
      have m2 := Rat.mul_nonneg (show 0 ≤ r by grind) (show 0 ≤ u - v - f by grind)
      grind
  have p := half h.2
  have q := half (u := b) (v := a) (by grind)
  constructor <;> grind
theorem big_one {c s : Rat} (_hc0 : -e0 ≤ c) (hs0 : 0 ≤ s) (hn : Cl e0 (c * c + s * s) 1) (h1 : 1 / 2 ^ 32 ≤ c) (h2 : 1 / 2 ^ 32 ≤ s) : 1 / 2 ^ 32 ≤ 2 * (c * s) := by
  have eb := e0_bd
  unfold Cl at hn
  rcases (Rat.le_total : c ≤ 1 / 2 ∨ 1 / 2 ≤ c) with g | g
  · rcases (Rat.le_total : s ≤ 1 / 2 ∨ 1 / 2 ≤ s) with k | k
    · exfalso
      have m1 := Rat.mul_nonneg (show 0 ≤ 1 / 2 - c by grind) (show 0 ≤ 1 / 2 + c by grind)
      have m2 := Rat.mul_nonneg (show 0 ≤ 1 / 2 - s by grind) (show 0 ≤ 1 / 2 + s by grind)
      grind
    · have := Rat.mul_nonneg (show 0 ≤ c by grind) (show 0 ≤ 2 * s - 1 by grind)
      grind
  · have := Rat.mul_nonneg hs0 (show 0 ≤ 2 * c - 1 by grind)
    grind
theorem tiny {c p q : Rat} (h0 : -e0 ≤ c) (h1 : c ≤ 1 / 2 ^ 32) (h : Cl (16 * e0) (p * p + q * q) (c * c)) : (-1 / 2 ^ 31 ≤ p ∧ p ≤ 1 / 2 ^ 31) ∧ (-1 / 2 ^ 31 ≤ q ∧ q ≤ 1 / 2 ^ 31) := by
  have eb := e0_bd
  have m := Rat.mul_nonneg (show 0 ≤ 1 / 2 ^ 32 - c by grind) (show 0 ≤ 1 / 2 ^ 32 + c by grind)
  have p2 := sq_nn p
  have q2 := sq_nn q
  unfold Cl at h
  have a := sqrt_small (z := p) (f := 1 / 2 ^ 31) (e := 1 / 2 ^ 62) (by grind) (by grind) (by grind)
  have b := sqrt_small (z := q) (f := 1 / 2 ^ 31) (e := 1 / 2 ^ 62) (by grind) (by grind) (by grind)
  constructor <;> constructor <;> grind
/-- The azimuth. -/
theorem hf_az {a b c d e f : Int} {x y t h' z' : Rat} (h : triB a b c d e f = true) (hx : Hs 0 a b x) (hy : Hs 0 c d y) (ht : Hs 0 e f t) (s : Sees x y t h' z') :
    Dr dS (hfZ a b c d e f).1 (hfZ a b c d e f).2.1 z' := by
  obtain ⟨u, v, w, gu, gv, gw, guv, hu, hv, hw⟩ := ang_v h hx hy ht
  obtain ⟨h0, h1, _, _, k1, k2, k3⟩ := s
  obtain ⟨G1, G2, G3, G4, G5⟩ := gauss (κ := (5400000 - h') / 2) gu gv gw guv (by grind) k1
  obtain ⟨P, Q, R, S⟩ := four_v h hu hv hw
  have eb := e0_bd
  have ub := u0_bd
  have ee := ee0
  have d0 : 0 ≤ dS := by decide +kernel
  have κ0 : 0 ≤ (5400000 - h') / 2 := by grind
  have κ1 : (5400000 - h') / 2 ≤ 5400000 := by grind
  generalize (5400000 - h') / 2 = κ at *
  have cl := co_lat (show -5400000 ≤ κ by grind) κ1
  have s0 := si_half κ0 κ1
  have bs := bdq κ
  have un := unit κ
  have eZ : hfZ a b c d e f = oppS (hfA a b c d e f) (hfC a b c d e f) := rfl
  have eA : hfA a b c d e f = beaT (hfQ a b c d e f) (hfP a b c d e f) := rfl
  have eC : hfC a b c d e f = beaT (hfS a b c d e f) (hfR a b c d e f) := rfl
  rcases (Rat.le_total : co κ ≤ 1 / 2 ^ 32 ∨ 1 / 2 ^ 32 ≤ co κ) with g1 | g1
  · obtain ⟨tp, tq⟩ := tiny cl.1 g1 G2
    rw [eZ, oppS_full (.inl (eA.trans (box_zero Q P tp tq)))]
    exact Dr.all d0 _
  rcases (Rat.le_total : si κ ≤ 1 / 2 ^ 32 ∨ 1 / 2 ^ 32 ≤ si κ) with g2 | g2
  · obtain ⟨tr, ts⟩ := tiny (show -e0 ≤ si κ by grind) g2 G1
    rw [eZ, oppS_full (.inr (eC.trans (box_zero S R tr ts)))]
    exact Dr.all d0 _
  -- both long enough
  obtain ⟨DA, α, a1, a2, A⟩ := arm cl.1 cl.2 Q P (G2.wide (by grind))
  obtain ⟨DC, β, b1, b2, C⟩ := arm (show -e0 ≤ si κ by grind) (show si κ ≤ 2 by grind) S R (G1.wide (by grind))
  have T := turn_arm (by constructor <;> grind) (by constructor <;> grind) a1 a2 b1 b2
  have big := big_one cl.1 s0 (Cl.wide un (by grind)) g1 g2
  have O := oppS_v (show 0 ≤ dS / 8 by grind) A C
  rw [eZ, eA, eC]
  clear gu gv gw guv hu hv hw P Q R S A C a1 a2 b1 b2 DA DC G1 G2 un eZ eA eC
  obtain ⟨w1, w2, w3, w4, w5, w6, w7, w8, w9, w10, w11, w12, w13, w14, w15, w16⟩ := lvF
  have bg := bdq (-(α + β))
  -- the same vector, of the length of the altitude's cosine
  have M1 := mul_abs (a := 2 * (co κ * si κ) - co h') (b := co (-(α + β))) (A := 16 * e0) (B := 2) (by unfold Cl at G5; grind) (by unfold Cl at G5; grind) (by grind) (by grind)
  have M2 := mul_abs (a := 2 * (co κ * si κ) - co h') (b := si (-(α + β))) (A := 16 * e0) (B := 2) (by unfold Cl at G5; grind) (by unfold Cl at G5; grind) (by grind) (by grind)
  have lg : 1 / 2 ^ 33 ≤ co h' := by
    unfold Cl at G5
    grind
  have E1 : Cl (100 * eT) (co h' * co (-(α + β))) (co h' * co z') := by
    have T := T.1
    rw [show (2 * (co κ * si κ) - co h') * co (-(α + β)) = 2 * (co κ * si κ * co (-(α + β))) - co h' * co (-(α + β)) by grind] at M1
    clear M2 bg bs big lg g1 g2 G5 G4 k3 O
    unfold Cl at *
    generalize co κ * si κ * co (-(α + β)) = L at *
    generalize co h' * co (-(α + β)) = L2 at *
    generalize co h' * co z' = L3 at *
    generalize noT x y t = N at *
    constructor <;> grind
  have E2 : Cl (100 * eT) (co h' * si (-(α + β))) (co h' * si z') := by
    have T := T.2
    rw [show (2 * (co κ * si κ) - co h') * si (-(α + β)) = 2 * (co κ * si κ * si (-(α + β))) - co h' * si (-(α + β)) by grind] at M2
    clear M1 bg bs big lg g1 g2 G5 G3 k2 O E1
    unfold Cl at *
    generalize co κ * si κ * si (-(α + β)) = L at *
    generalize co h' * si (-(α + β)) = L2 at *
    generalize co h' * si z' = L3 at *
    generalize eaT y t = N at *
    constructor <;> grind
  have F1 := div_small (r := 1 / 2 ^ 33) (f := 2 ^ 40 * eT) lg (by grind) (by grind) (by grind) E1
  have F2 := div_small (r := 1 / 2 ^ 33) (f := 2 ^ 40 * eT) lg (by grind) (by grind) (by grind) E2
  obtain ⟨m, cl2⟩ := dir_close (z := z') (γ := -(α + β)) (ε := 2 ^ 40 * eT) (by grind) (by grind) F1 F2
  exact (Dr_move O cl2).wide (by grind)
theorem half_hold {a b c d e f : Int} (h : triB a b c d e f = true) (ho : originB (hfY a b c d e f).1 (hfY a b c d e f).2.1 (hfX a b c d e f).1 (hfX a b c d e f).2.1 = false) : Hold a b c d e f (hfH a b c d e f) (hfZ a b c d e f) := by
  have V := val4 h
  have F := bear_first V.1 V.2.1 V.2.2.1 V.2.2.2 ho
  have D := bea_dir V.1 V.2.1
  obtain ⟨p, q, r, s⟩ := one4 h
  have dA : DirR (hfA a b c d e f) := bea_dir q.val p.val
  have dC : DirR (hfC a b c d e f) := bea_dir s.val r.val
  have o := oppS_dir dA dC
  refine ⟨?_, o.1, o.2, fun x y t hx hy ht h' z' s' => hf_up h ho hx hy ht s', fun x y t hx hy ht h' z' s' => hf_az h hx hy ht s'⟩
  have fb : hfB a b c d e f = bearR (hfY a b c d e f).1 (hfY a b c d e f).2.1 (hfX a b c d e f).1 (hfX a b c d e f).2.1 := rfl
  rw [← fb] at F D
  obtain ⟨d1, d2, d3, d4, d5⟩ := D
  unfold hfH LatR
  dsimp only
  exact ⟨by omega, by omega, by omega, rfl⟩
end Go.Proofs.YtipjnfabodfkcaaDoor

/-
  Half-angles: the azimuth. No program here.
-/
import Derived.Test.YtipjnfabodfkcaaDoorHf2
namespace Go.Proofs.YtipjnfabodfkcaaDoor
open SM TB TA
/-- Two directions with nearly the same cosine and sine are nearly the same direction. -/
theorem dir_close {z γ ε : Rat} (he0 : 0 ≤ ε) (he : ε ≤ 1 / 2 ^ 50) (hc : Cl ε (co γ) (co z)) (hs : Cl ε (si γ) (si z)) : ∃ m : Int, Cl (16000000 * (6 * ε + e0)) z (γ + 21600000 * (m : Rat)) := by
  have sb := subq z γ
  have un := unit z
  have ub := u0_bd
  have e := ee0
  have eb := e0_bd
  have bz := bdq z
  -- the difference's cosine and sine
  have m1 := mul_abs (a := co z) (b := co γ - co z) (A := 11 / 10) (B := ε) (by grind) (by grind) (by unfold Cl at hc; grind) (by unfold Cl at hc; grind)
  have m2 := mul_abs (a := si z) (b := si γ - si z) (A := 11 / 10) (B := ε) (by grind) (by grind) (by unfold Cl at hs; grind) (by unfold Cl at hs; grind)
  have m3 := mul_abs (a := si z) (b := co γ - co z) (A := 11 / 10) (B := ε) (by grind) (by grind) (by unfold Cl at hc; grind) (by unfold Cl at hc; grind)
  have m4 := mul_abs (a := co z) (b := si γ - si z) (A := 11 / 10) (B := ε) (by grind) (by grind) (by unfold Cl at hs; grind) (by unfold Cl at hs; grind)
  have C : 1 / 2 ≤ co (z - γ) := by
    have sb := sb.1
    clear m3 m4 hc hs bz
    unfold Cl at sb un
    rw [show co z * co γ + si z * si γ = co z * co z + si z * si z + (co z * (co γ - co z) + si z * (si γ - si z)) by grind] at sb
    generalize co z * co z + si z * si z = n at *
    generalize co z * (co γ - co z) = x1 at *
    generalize si z * (si γ - si z) = x2 at *
    grind
  have S : Cl (5 * ε + e0) (si (z - γ)) 0 := by
    have sb := sb.2
    clear m1 m2 hc hs bz un
    unfold Cl at sb ⊢
    rw [show si z * co γ - co z * si γ = si z * (co γ - co z) - co z * (si γ - si z) by grind] at sb
    generalize si z * (co γ - co z) = x1 at *
    generalize co z * (si γ - si z) = x2 at *
    constructor <;> grind
  -- in one turn
  have rd := rdq_bd (z - γ)
  have tq := turn_eq (rdq (z - γ)) (tm (z - γ))
  have hz : rdq (z - γ) + 21600000 * (tm (z - γ) : Rat) = z - γ := by unfold rdq; grind
  rw [hz] at tq
  rw [tq.1] at C
  rw [tq.2] at S
  clear sb un m1 m2 m3 m4 tq bz hc hs
  refine ⟨tm (z - γ), ?_⟩
  generalize ((tm (z - γ) : Int) : Rat) = k at *
  generalize rdq (z - γ) = D at *
  have pc := pos_co (p := D) (ρ := 1) rd.1 (by grind) (by grind) (by grind) (by grind)
  unfold Cl at S
  have t1 : 5 * ε + e0 ≤ 1 / 2 ^ 40 := by grind
  unfold Cl
  rcases (Rat.le_total : 0 ≤ D ∨ D ≤ 0) with g | g
  · have := small_si (z := D) (t := 5 * ε + e0) g (by grind) t1 (by grind)
    constructor <;> grind
  · have n := si_neg (q := D) (by grind) (by grind)
    have := small_si (z := -D) (t := 5 * ε + e0) (by grind) (by grind) t1 (by rw [n.1]; grind)
    constructor <;> grind
theorem Dr_move {d g : Rat} {lo hi : Int} {γ z : Rat} {m : Int} (h : Dr d lo hi γ) (k : Cl g z (γ + 21600000 * (m : Rat))) : Dr (d + g) lo hi z := by
  obtain ⟨n, h⟩ := h
  refine ⟨n - m, ?_⟩
  unfold Hs at *
  unfold Cl at k
  rw [Rat.intCast_sub]
  generalize (n : Rat) = n' at *
  generalize (m : Rat) = m' at *
  constructor <;> grind
/-- A short vector's box has all directions. -/
theorem box_zero {r s : Int × Int × Int} {X Y : Rat} (h : Vl r (15 * e1) Y) (k : Vl s (15 * e1) X) (hX : -1 / 2 ^ 31 ≤ X ∧ X ≤ 1 / 2 ^ 31) (hY : -1 / 2 ^ 31 ≤ Y ∧ Y ≤ 1 / 2 ^ 31) : beaT r s = (0, 21600000, 0) := by
  have e1b := e1_bd
  obtain ⟨_, v1, a1, a2⟩ := h
  obtain ⟨_, v2, b1, b2⟩ := k
  have z : ((0 : Int) : Rat) = 0 := rfl
  have c1 : r.1 ≤ 0 := of_c (e := 3 / 4) (by rw [z]; grind) (by grind)
  have c2 : 0 ≤ r.2.1 := of_c (e := 3 / 4) (by rw [z]; grind) (by grind)
  have c3 : s.1 ≤ 0 := of_c (e := 3 / 4) (by rw [z]; grind) (by grind)
  have c4 : 0 ≤ s.2.1 := of_c (e := 3 / 4) (by rw [z]; grind) (by grind)
  have o : originB r.1 r.2.1 s.1 s.2.1 = true := decide_eq_true (by omega)
  unfold beaT bearR
  rw [v1, v2, o]
  rfl
theorem oppS_full {r s : Int × Int × Int} (h : r = (0, 21600000, 0) ∨ s = (0, 21600000, 0)) : oppS r s = (0, 21600000, 0) := by
  unfold oppS
  have f : fullB ((0 : Int), (21600000 : Int), (0 : Int)) = true := rfl
  rcases h with rfl | rfl
  · rw [f]; rfl
  · rw [f]; simp
theorem oppS_dir {r s : Int × Int × Int} (h : DirR r) (k : DirR s) : DirR (oppS r s) ∧ (((oppS r s).1 = 0 ∧ (oppS r s).2.1 = 21600000) ∨ (oppS r s).2.1 < (oppS r s).1 + 21600000) := by
  obtain ⟨h1, h2, h3, h4, h5⟩ := h
  obtain ⟨k1, k2, k3, k4, k5⟩ := k
  unfold oppS
  split
  · exact ⟨⟨by dsimp only; omega, by dsimp only; omega, by dsimp only; omega, by dsimp only; omega, rfl⟩, .inl ⟨rfl, rfl⟩⟩
  · have m0 := Int.emod_nonneg (-(r.2.1 + s.2.1)) (show (21600000 : Int) ≠ 0 by omega)
    have m1 := Int.emod_lt_of_pos (-(r.2.1 + s.2.1)) (show (0 : Int) < 21600000 by omega)
    unfold turnL turnH
    split
    · exact ⟨⟨by dsimp only; omega, by dsimp only; omega, by dsimp only; omega, by dsimp only; omega, rfl⟩, .inl ⟨rfl, rfl⟩⟩
    · exact ⟨⟨by dsimp only; omega, by dsimp only; omega, by dsimp only; omega, by dsimp only; omega, rfl⟩, .inr (by dsimp only; omega)⟩
/-- The opposite of a sum of two directions. -/
theorem oppS_v {r s : Int × Int × Int} {d α β : Rat} (d0 : 0 ≤ d) (h : Dr d r.1 r.2.1 α) (k : Dr d s.1 s.2.1 β) : Dr (2 * d) (oppS r s).1 (oppS r s).2.1 (-(α + β)) := by
  unfold oppS
  split
  · exact Dr.all (by grind) _
  · obtain ⟨m, h⟩ := h
    obtain ⟨n, k⟩ := k
    have a := (h.add k).neg
    dsimp only
    unfold turnL turnH
    split
    · exact Dr.all (by grind) _
    · refine ⟨-(m + n) - (-(r.2.1 + s.2.1)) / 21600000, ?_⟩
      have q : -(r.2.1 + s.2.1) % 21600000 = -(r.2.1 + s.2.1) + 21600000 * -(-(r.2.1 + s.2.1) / 21600000) := by omega
      rw [q]
      have q2 : -(r.2.1 + s.2.1) + 21600000 * -(-(r.2.1 + s.2.1) / 21600000) + (-(r.1 + s.1) - -(r.2.1 + s.2.1)) = -(r.1 + s.1) + 21600000 * -(-(r.2.1 + s.2.1) / 21600000) := by omega
      rw [q2, show -(m + n) - -(r.2.1 + s.2.1) / 21600000 = -(m + n) + -(-(r.2.1 + s.2.1) / 21600000) by omega]
      generalize -(-(r.2.1 + s.2.1) / 21600000) = j at *
      generalize -(r.2.1 + s.2.1) = p at *
      generalize -(r.1 + s.1) = p' at *
      unfold Hs at *
      rw [Rat.intCast_add, Rat.intCast_add, Rat.intCast_add, Rat.intCast_neg, Rat.intCast_add, Rat.intCast_mul, show ((21600000 : Int) : Rat) = 21600000 by rfl]
      generalize (m : Rat) = m' at *
      generalize (n : Rat) = n' at *
      generalize (j : Rat) = j' at *
      constructor <;> grind
/-- A direction of a vector of a given length. -/
theorem arm {r s : Int × Int × Int} {X Y ρ : Rat} (h0 : -e0 ≤ ρ) (h1 : ρ ≤ 2) (h : Vl r (15 * e1) Y) (k : Vl s (15 * e1) X) (hu : Cl (40 * e0) (X * X + Y * Y) (ρ * ρ)) :
    DirR (beaT r s) ∧ ∃ α : Rat, Cl eT (ρ * co α) X ∧ Cl eT (ρ * si α) Y ∧ Dr (dS / 8) (beaT r s).1 (beaT r s).2.1 α := by
  obtain ⟨w1, w2, w3, w4, w5, w6, w7, w8, w9, w10, w11, w12, w13, w14, w15⟩ := lvF
  have e1b := e1_bd
  obtain ⟨α, _, _, a1, a2⟩ := aim h0 h1 hu
  obtain ⟨ρ', p0, p1, b1, b2⟩ := len_pos h0 h1 a1 a2
  have B := bear_v (q := α) (ρ := ρ') (e := 15 * e1) (t := 2 * eT) h k b2 b1 p0 (by grind) (by grind) (by grind) w8
  exact ⟨B.1, α, a1, a2, B.2.wide w9⟩
theorem turn_arm {c s α β X Y P Q : Rat} (hc : -2 ≤ c ∧ c ≤ 2) (hs : -2 ≤ s ∧ s ≤ 2) (a1 : Cl eT (c * co α) X) (a2 : Cl eT (c * si α) Y) (b1 : Cl eT (s * co β) P) (b2 : Cl eT (s * si β) Q) :
    Cl (30 * eT) (c * s * co (-(α + β))) (X * P - Y * Q) ∧ Cl (30 * eT) (c * s * si (-(α + β))) (-(X * Q + Y * P)) := by
  have ab := addq α β
  have ng := negq (α + β)
  have eb := e0_bd
  have ub := u0_bd
  have e := ee0
  have et : 5 * e0 ≤ eT := lvF.2.2.2.2.2.2.2.2.2.1
  have et1 : eT ≤ 1 / 2 ^ 100 := by
    have := lvF.2.2.2.2.2.2.2.2.2.2.2.2.1
    have := lvF.2.2.2.2.2.2.2.2.2.2.2.2.2.1
    grind
  have bα := bdq α
  have bβ := bdq β
  have A : -9 / 4 ≤ c * co α ∧ c * co α ≤ 9 / 4 := by
    have := mul_abs (a := c) (b := co α) (A := 2) (B := 11 / 10) hc.1 hc.2 (by grind) (by grind)
    constructor <;> grind
  have B : -9 / 4 ≤ c * si α ∧ c * si α ≤ 9 / 4 := by
    have := mul_abs (a := c) (b := si α) (A := 2) (B := 11 / 10) hc.1 hc.2 (by grind) (by grind)
    constructor <;> grind
  have C : -9 / 4 ≤ s * co β ∧ s * co β ≤ 9 / 4 := by
    have := mul_abs (a := s) (b := co β) (A := 2) (B := 11 / 10) hs.1 hs.2 (by grind) (by grind)
    constructor <;> grind
  have D : -9 / 4 ≤ s * si β ∧ s * si β ≤ 9 / 4 := by
    have := mul_abs (a := s) (b := si β) (A := 2) (B := 11 / 10) hs.1 hs.2 (by grind) (by grind)
    constructor <;> grind
  have bd : ∀ {u v : Rat}, Cl eT u v → -9 / 4 ≤ u ∧ u ≤ 9 / 4 → -3 ≤ v ∧ v ≤ 3 := fun h k => by
    unfold Cl at h
    constructor <;> grind
  have p1 := Cl.mul 3 3 a1 b1 (by constructor <;> grind) (bd a1 A)
  have p2 := Cl.mul 3 3 a2 b2 (by constructor <;> grind) (bd a2 B)
  have p3 := Cl.mul 3 3 a1 b2 (by constructor <;> grind) (bd a1 A)
  have p4 := Cl.mul 3 3 a2 b1 (by constructor <;> grind) (bd a2 B)
  have cs := mul_abs (a := c) (b := s) (A := 2) (B := 2) hc.1 hc.2 hs.1 hs.2
  -- the sum's cosine and sine, times the lengths
  have k1 : Cl (10000 * u0) (co (-(α + β))) (co α * co β - si α * si β) := by
    have := Cl.trans ng.1 ab.1
    exact this.wide (by grind)
  have k2 : Cl (10000 * u0) (si (-(α + β))) (-(si α * co β + co α * si β)) := by
    have := Cl.trans ng.2 ab.2.neg
    exact this.wide (by grind)
  have l1 := mul_abs (a := c * s) (b := co (-(α + β)) - (co α * co β - si α * si β)) (A := 4) (B := 10000 * u0) (by grind) (by grind) (by unfold Cl at k1; grind) (by unfold Cl at k1; grind)
  have l2 := mul_abs (a := c * s) (b := si (-(α + β)) - -(si α * co β + co α * si β)) (A := 4) (B := 10000 * u0) (by grind) (by grind) (by unfold Cl at k2; grind) (by unfold Cl at k2; grind)
  have f1 : c * co α * (s * co β) - c * si α * (s * si β) = c * s * (co α * co β - si α * si β) := by grind
  have f2 : c * co α * (s * si β) + c * si α * (s * co β) = c * s * (si α * co β + co α * si β) := by grind
  rw [show c * s * (co (-(α + β)) - (co α * co β - si α * si β)) = c * s * co (-(α + β)) - (c * co α * (s * co β) - c * si α * (s * si β)) by grind] at l1
  rw [show c * s * (si (-(α + β)) - -(si α * co β + co α * si β)) = c * s * si (-(α + β)) + (c * co α * (s * si β) + c * si α * (s * co β)) by grind] at l2
  clear f1 f2 k1 k2 A B C D bα bβ ab ng bd cs a1 a2 b1 b2
  unfold Cl at *
  generalize c * s * co (-(α + β)) = L1 at *
  generalize c * s * si (-(α + β)) = L2 at *
  generalize c * co α * (s * co β) = x1 at *
  generalize c * si α * (s * si β) = x2 at *
  generalize c * co α * (s * si β) = x3 at *
  generalize c * si α * (s * co β) = x4 at *
  generalize X * P = y1 at *
  generalize Y * Q = y2 at *
  generalize X * Q = y3 at *
  generalize Y * P = y4 at *
  refine ⟨⟨?_, ?_⟩, ?_, ?_⟩ <;> grind
end Go.Proofs.YtipjnfabodfkcaaDoor

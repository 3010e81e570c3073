/-
  halfangle.Solve: what it answers, as the plain law. No program here.
-/
import Derived.Test.YtmididlfnajhiaaGreatDoorFf
import Derived.Test.YtmididlfnajhiaaGreatDoorHf7
namespace Go.Proofs.YtmididlfnajhiaaGreatDoor
open SM TB TA
open Ev (lt keepE)
theorem lt_eq {α β : Type} {x y : α} {f : α → β} {r : β} (h : x = y) (k : f y = r) : lt x f = r := by
  subst h
  exact k
theorem k0 {e : Int} (h : e = 0) : keepE 0 e = 0 := by
  rw [h]
  rfl
theorem aadd_ok {a b c d : Int} (h1 : -100000000 ≤ a) (h2 : a ≤ b) (h3 : b ≤ 100000000) (h4 : -100000000 ≤ c) (h5 : c ≤ d) (h6 : d ≤ 100000000) :
    aaddR a b c d = (a + c, b + d, 0) := by
  unfold aaddR
  rw [if_pos ⟨avalid_mk (by omega) h2 (by omega), avalid_mk (by omega) h5 (by omega)⟩]
  unfold resR fitsB
  rw [if_pos ⟨decide_eq_true (by omega), decide_eq_true (by omega)⟩]
theorem tim_ok {a b n d : Int} (h1 : -100000000 ≤ a) (h2 : a ≤ b) (h3 : b ≤ 100000000) (h : (n = 1 ∧ (d = 2 ∨ d = 4)) ∨ (d = 1 ∧ (n = 2 ∨ n = 4))) : timR a b n d = ((a * n) / d, -(-(b * n) / d), 0) := by
  unfold timR
  rw [if_pos (avalid_mk (by omega) h2 (by omega)), if_pos (by omega)]
  have l : a * n ≤ b * n := Int.mul_le_mul_of_nonneg_right h2 (by omega)
  have e1 : mn (a * n) (b * n) = a * n := by unfold mn; split <;> omega
  have e2 : mx (a * n) (b * n) = b * n := by unfold mx; split <;> omega
  rw [e1, e2]
  unfold resR fitsB
  have q : -1000000000 ≤ a * n / d ∧ a * n / d ≤ 1000000000 ∧ -1000000000 ≤ -(b * n) / d ∧ -(b * n) / d ≤ 1000000000 := by
    rcases h with ⟨rfl, rfl | rfl⟩ | ⟨rfl, rfl | rfl⟩ <;> omega
  rw [if_pos ⟨decide_eq_true (by omega), decide_eq_true (by omega)⟩]
theorem wall_eq {x y : Int} (h1 : -100000000 ≤ x) (h2 : x ≤ 100000000) (h3 : -100000000 ≤ y) (h4 : y ≤ 100000000) : wallM x y = decide (21600000 ≤ y - x) := by
  unfold wallM
  rw [i64w (by omega)]
theorem dir_bd {r : Int × Int × Int} (h : DirR r) : -100000000 ≤ r.1 ∧ r.1 ≤ 100000000 ∧ -100000000 ≤ r.2.1 ∧ r.2.1 ≤ 100000000 ∧ r.1 ≤ r.2.1 := by
  obtain ⟨h1, h2, h3, h4, _⟩ := h
  omega
theorem hsl_ok {a b c d e f : Int} (h : triB a b c d e f = true) : hslM a b c d e f = if originB (hfY a b c d e f).1 (hfY a b c d e f).2.1 (hfX a b c d e f).1 (hfX a b c d e f).2.1 = true then (0, 0, 0, 0, 24) else ((hfH a b c d e f).1, (hfH a b c d e f).2.1, (hfZ a b c d e f).1, (hfZ a b c d e f).2.1, 0) := by
  obtain ⟨h1, h2, h3⟩ := tri_bd h
  have l1 := lat_bd h1
  have l2 := lat_bd h2
  obtain ⟨vu, vv, vw⟩ := ang_bd h
  obtain ⟨p, q, r, s⟩ := one4 h
  have L1 := len_ok r s
  have L2 := len_ok p q
  have S1 := sqr_ones r
  have S2 := sqr_ones s
  have S3 := sqr_ones p
  have S4 := sqr_ones q
  have V := val4 h
  have B := bea_dir V.1 V.2.1
  have DA := bea_dir q.val p.val
  have DC := bea_dir s.val r.val
  have tu : avalidB (turnL e f) (turnH e f) = true ∧ 0 ≤ turnL e f ∧ turnL e f ≤ turnH e f ∧ turnH e f ≤ 43200000 := by
    have m0 := Int.emod_nonneg e (show (21600000 : Int) ≠ 0 by omega)
    have m1 := Int.emod_lt_of_pos e (show (0 : Int) < 21600000 by omega)
    have v3 := aval_bd h3
    unfold turnL turnH
    split
    · exact ⟨avalid_mk (by omega) (by omega) (by omega), by omega, by omega, by omega⟩
    · exact ⟨avalid_mk (by omega) (by omega) (by omega), by omega, by omega, by omega⟩
  have E1 : asubR 5400000 5400000 c d = (5400000 - d, 5400000 - c, 0) := asub_ok (by omega) (by omega) (by omega) (by omega) (by omega) (by omega)
  have E2 : asubR 5400000 5400000 a b = (5400000 - b, 5400000 - a, 0) := asub_ok (by omega) (by omega) (by omega) (by omega) (by omega) (by omega)
  have E3 : aaddR (5400000 - d) (5400000 - c) (5400000 - b) (5400000 - a) = (10800000 - b - d, 10800000 - a - c, 0) := by
    rw [aadd_ok (by omega) (by omega) (by omega) (by omega) (by omega) (by omega), show 5400000 - d + (5400000 - b) = 10800000 - b - d by omega, show 5400000 - c + (5400000 - a) = 10800000 - a - c by omega]
  have E4 : timR (10800000 - b - d) (10800000 - a - c) 1 2 = ((fU a b c d).1, (fU a b c d).2, 0) := by
    rw [tim_ok (by omega) (by omega) (by omega) (.inl ⟨rfl, .inl rfl⟩), Int.mul_one, Int.mul_one]
    rfl
  have E5 : asubR (5400000 - d) (5400000 - c) (5400000 - b) (5400000 - a) = (a - d, b - c, 0) := by
    rw [asub_ok (by omega) (by omega) (by omega) (by omega) (by omega) (by omega), show 5400000 - d - (5400000 - a) = a - d by omega, show 5400000 - c - (5400000 - b) = b - c by omega]
  have E6 : timR (a - d) (b - c) 1 2 = ((fV a b c d).1, (fV a b c d).2, 0) := by
    rw [tim_ok (by omega) (by omega) (by omega) (.inl ⟨rfl, .inl rfl⟩), Int.mul_one, Int.mul_one]
    rfl
  have E7 : turnR e f = (turnL e f, turnH e f, 0) := by
    unfold turnR
    rw [if_pos h3]
  have E8 : timR (turnL e f) (turnH e f) 1 2 = ((fW e f).1, (fW e f).2, 0) := by
    rw [tim_ok (by omega) (by omega) (by omega) (.inl ⟨rfl, .inl rfl⟩), Int.mul_one, Int.mul_one]
    rfl
  unfold hslM
  rw [h, Bool.not_true, cond_false]
  refine lt_eq (show wminV 5400000 5400000 c d = (5400000 - d, 5400000 - c) from by unfold wminV; rw [E1]) ?_
  (try dsimp only)
  refine lt_eq (show wminC 0 5400000 5400000 c d = 0 from k0 (by rw [E1])) ?_
  (try dsimp only)
  refine lt_eq (show wminV 5400000 5400000 a b = (5400000 - b, 5400000 - a) from by unfold wminV; rw [E2]) ?_
  (try dsimp only)
  refine lt_eq (show wminC 0 5400000 5400000 a b = 0 from k0 (by rw [E2])) ?_
  (try dsimp only)
  refine lt_eq (show wplusV (5400000 - d) (5400000 - c) (5400000 - b) (5400000 - a) = (10800000 - b - d, 10800000 - a - c) from by unfold wplusV; rw [E3]) ?_
  (try dsimp only)
  refine lt_eq (show wplusC 0 (5400000 - d) (5400000 - c) (5400000 - b) (5400000 - a) = 0 from k0 (by rw [E3])) ?_
  (try dsimp only)
  refine lt_eq (show wpartV (10800000 - b - d) (10800000 - a - c) 1 2 = ((fU a b c d).1, (fU a b c d).2) from by unfold wpartV; rw [E4]) ?_
  (try dsimp only)
  refine lt_eq (show wpartC 0 (10800000 - b - d) (10800000 - a - c) 1 2 = 0 from k0 (by rw [E4])) ?_
  (try dsimp only)
  refine lt_eq (show wminV (5400000 - d) (5400000 - c) (5400000 - b) (5400000 - a) = (a - d, b - c) from by unfold wminV; rw [E5]) ?_
  (try dsimp only)
  refine lt_eq (show wminC 0 (5400000 - d) (5400000 - c) (5400000 - b) (5400000 - a) = 0 from k0 (by rw [E5])) ?_
  (try dsimp only)
  refine lt_eq (show wpartV (a - d) (b - c) 1 2 = ((fV a b c d).1, (fV a b c d).2) from by unfold wpartV; rw [E6]) ?_
  (try dsimp only)
  refine lt_eq (show wpartC 0 (a - d) (b - c) 1 2 = 0 from k0 (by rw [E6])) ?_
  (try dsimp only)
  refine lt_eq E7 ?_
  (try dsimp only)
  refine lt_eq (show warW (turnL e f) (turnH e f) 0 = (turnL e f, turnH e f) from rfl) ?_
  (try dsimp only)
  refine lt_eq (show warC 0 (turnL e f) (turnH e f) 0 = 0 from k0 rfl) ?_
  (try dsimp only)
  refine lt_eq (show wpartV (turnL e f) (turnH e f) 1 2 = ((fW e f).1, (fW e f).2) from by unfold wpartV; rw [E8]) ?_
  (try dsimp only)
  refine lt_eq (show wpartC 0 (turnL e f) (turnH e f) 1 2 = 0 from k0 (by rw [E8])) ?_
  (try dsimp only)
  refine lt_eq (show wcosV (fU a b c d).1 (fU a b c d).2 = ((cosR (fU a b c d).1 (fU a b c d).2).1, (cosR (fU a b c d).1 (fU a b c d).2).2.1) from rfl) ?_
  (try dsimp only)
  refine lt_eq (show wcosC 0 (fU a b c d).1 (fU a b c d).2 = 0 from k0 (cos_one vu).2.2.2) ?_
  (try dsimp only)
  refine lt_eq (show wsinV (fW e f).1 (fW e f).2 = ((sinR (fW e f).1 (fW e f).2).1, (sinR (fW e f).1 (fW e f).2).2.1) from rfl) ?_
  (try dsimp only)
  refine lt_eq (show wsinC 0 (fW e f).1 (fW e f).2 = 0 from k0 (sin_one vw).2.2.2) ?_
  (try dsimp only)
  refine lt_eq (show wmulV (cosR (fU a b c d).1 (fU a b c d).2).1 (cosR (fU a b c d).1 (fU a b c d).2).2.1 (sinR (fW e f).1 (fW e f).2).1 (sinR (fW e f).1 (fW e f).2).2.1 = ((hfP a b c d e f).1, (hfP a b c d e f).2.1) from rfl) ?_
  (try dsimp only)
  refine lt_eq (show wmulC 0 (cosR (fU a b c d).1 (fU a b c d).2).1 (cosR (fU a b c d).1 (fU a b c d).2).2.1 (sinR (fW e f).1 (fW e f).2).1 (sinR (fW e f).1 (fW e f).2).2.1 = 0 from k0 p.2.2.2) ?_
  (try dsimp only)
  refine lt_eq (show wcosV (fV a b c d).1 (fV a b c d).2 = ((cosR (fV a b c d).1 (fV a b c d).2).1, (cosR (fV a b c d).1 (fV a b c d).2).2.1) from rfl) ?_
  (try dsimp only)
  refine lt_eq (show wcosC 0 (fV a b c d).1 (fV a b c d).2 = 0 from k0 (cos_one vv).2.2.2) ?_
  (try dsimp only)
  refine lt_eq (show wcosV (fW e f).1 (fW e f).2 = ((cosR (fW e f).1 (fW e f).2).1, (cosR (fW e f).1 (fW e f).2).2.1) from rfl) ?_
  (try dsimp only)
  refine lt_eq (show wcosC 0 (fW e f).1 (fW e f).2 = 0 from k0 (cos_one vw).2.2.2) ?_
  (try dsimp only)
  refine lt_eq (show wmulV (cosR (fV a b c d).1 (fV a b c d).2).1 (cosR (fV a b c d).1 (fV a b c d).2).2.1 (cosR (fW e f).1 (fW e f).2).1 (cosR (fW e f).1 (fW e f).2).2.1 = ((hfQ a b c d e f).1, (hfQ a b c d e f).2.1) from rfl) ?_
  (try dsimp only)
  refine lt_eq (show wmulC 0 (cosR (fV a b c d).1 (fV a b c d).2).1 (cosR (fV a b c d).1 (fV a b c d).2).2.1 (cosR (fW e f).1 (fW e f).2).1 (cosR (fW e f).1 (fW e f).2).2.1 = 0 from k0 q.2.2.2) ?_
  (try dsimp only)
  refine lt_eq (show wsinV (fU a b c d).1 (fU a b c d).2 = ((sinR (fU a b c d).1 (fU a b c d).2).1, (sinR (fU a b c d).1 (fU a b c d).2).2.1) from rfl) ?_
  (try dsimp only)
  refine lt_eq (show wsinC 0 (fU a b c d).1 (fU a b c d).2 = 0 from k0 (sin_one vu).2.2.2) ?_
  (try dsimp only)
  refine lt_eq (show wsinV (fW e f).1 (fW e f).2 = ((sinR (fW e f).1 (fW e f).2).1, (sinR (fW e f).1 (fW e f).2).2.1) from rfl) ?_
  (try dsimp only)
  refine lt_eq (show wsinC 0 (fW e f).1 (fW e f).2 = 0 from k0 (sin_one vw).2.2.2) ?_
  (try dsimp only)
  refine lt_eq (show wmulV (sinR (fU a b c d).1 (fU a b c d).2).1 (sinR (fU a b c d).1 (fU a b c d).2).2.1 (sinR (fW e f).1 (fW e f).2).1 (sinR (fW e f).1 (fW e f).2).2.1 = ((hfR a b c d e f).1, (hfR a b c d e f).2.1) from rfl) ?_
  (try dsimp only)
  refine lt_eq (show wmulC 0 (sinR (fU a b c d).1 (fU a b c d).2).1 (sinR (fU a b c d).1 (fU a b c d).2).2.1 (sinR (fW e f).1 (fW e f).2).1 (sinR (fW e f).1 (fW e f).2).2.1 = 0 from k0 r.2.2.2) ?_
  (try dsimp only)
  refine lt_eq (show wsinV (fV a b c d).1 (fV a b c d).2 = ((sinR (fV a b c d).1 (fV a b c d).2).1, (sinR (fV a b c d).1 (fV a b c d).2).2.1) from rfl) ?_
  (try dsimp only)
  refine lt_eq (show wsinC 0 (fV a b c d).1 (fV a b c d).2 = 0 from k0 (sin_one vv).2.2.2) ?_
  (try dsimp only)
  refine lt_eq (show wcosV (fW e f).1 (fW e f).2 = ((cosR (fW e f).1 (fW e f).2).1, (cosR (fW e f).1 (fW e f).2).2.1) from rfl) ?_
  (try dsimp only)
  refine lt_eq (show wcosC 0 (fW e f).1 (fW e f).2 = 0 from k0 (cos_one vw).2.2.2) ?_
  (try dsimp only)
  refine lt_eq (show wmulV (sinR (fV a b c d).1 (fV a b c d).2).1 (sinR (fV a b c d).1 (fV a b c d).2).2.1 (cosR (fW e f).1 (fW e f).2).1 (cosR (fW e f).1 (fW e f).2).2.1 = ((hfS a b c d e f).1, (hfS a b c d e f).2.1) from rfl) ?_
  (try dsimp only)
  refine lt_eq (show wmulC 0 (sinR (fV a b c d).1 (fV a b c d).2).1 (sinR (fV a b c d).1 (fV a b c d).2).2.1 (cosR (fW e f).1 (fW e f).2).1 (cosR (fW e f).1 (fW e f).2).2.1 = 0 from k0 s.2.2.2) ?_
  (try dsimp only)
  refine lt_eq (show whypV (hfR a b c d e f).1 (hfR a b c d e f).2.1 (hfS a b c d e f).1 (hfS a b c d e f).2.1 = ((hfY a b c d e f).1, (hfY a b c d e f).2.1) from rfl) ?_
  (try dsimp only)
  refine lt_eq (show whypC 0 (hfR a b c d e f).1 (hfR a b c d e f).2.1 (hfS a b c d e f).1 (hfS a b c d e f).2.1 = 0 from by
    unfold whypC
    rw [S1.2.1.2.2.2, S2.2.1.2.2.2]
    have e1 : (addR (sqrR (hfR a b c d e f).1 (hfR a b c d e f).2.1).1 (sqrR (hfR a b c d e f).1 (hfR a b c d e f).2.1).2.1 (sqrR (hfS a b c d e f).1 (hfS a b c d e f).2.1).1 (sqrR (hfS a b c d e f).1 (hfS a b c d e f).2.1).2.1).2.2 = 0 := by
      have := L1.1
      unfold sumT at this
      rw [this]
    have e2 : (sqtR (addR (sqrR (hfR a b c d e f).1 (hfR a b c d e f).2.1).1 (sqrR (hfR a b c d e f).1 (hfR a b c d e f).2.1).2.1 (sqrR (hfS a b c d e f).1 (hfS a b c d e f).2.1).1 (sqrR (hfS a b c d e f).1 (hfS a b c d e f).2.1).2.1).1 (addR (sqrR (hfR a b c d e f).1 (hfR a b c d e f).2.1).1 (sqrR (hfR a b c d e f).1 (hfR a b c d e f).2.1).2.1 (sqrR (hfS a b c d e f).1 (hfS a b c d e f).2.1).1 (sqrR (hfS a b c d e f).1 (hfS a b c d e f).2.1).2.1).2.1).2.2 = 0 := L1.2.2.2.1
    rw [e1, e2]
    rfl) ?_
  (try dsimp only)
  refine lt_eq (show whypV (hfP a b c d e f).1 (hfP a b c d e f).2.1 (hfQ a b c d e f).1 (hfQ a b c d e f).2.1 = ((hfX a b c d e f).1, (hfX a b c d e f).2.1) from rfl) ?_
  (try dsimp only)
  refine lt_eq (show whypC 0 (hfP a b c d e f).1 (hfP a b c d e f).2.1 (hfQ a b c d e f).1 (hfQ a b c d e f).2.1 = 0 from by
    unfold whypC
    rw [S3.2.1.2.2.2, S4.2.1.2.2.2]
    have e1 : (addR (sqrR (hfP a b c d e f).1 (hfP a b c d e f).2.1).1 (sqrR (hfP a b c d e f).1 (hfP a b c d e f).2.1).2.1 (sqrR (hfQ a b c d e f).1 (hfQ a b c d e f).2.1).1 (sqrR (hfQ a b c d e f).1 (hfQ a b c d e f).2.1).2.1).2.2 = 0 := by
      have := L2.1
      unfold sumT at this
      rw [this]
    have e2 : (sqtR (addR (sqrR (hfP a b c d e f).1 (hfP a b c d e f).2.1).1 (sqrR (hfP a b c d e f).1 (hfP a b c d e f).2.1).2.1 (sqrR (hfQ a b c d e f).1 (hfQ a b c d e f).2.1).1 (sqrR (hfQ a b c d e f).1 (hfQ a b c d e f).2.1).2.1).1 (addR (sqrR (hfP a b c d e f).1 (hfP a b c d e f).2.1).1 (sqrR (hfP a b c d e f).1 (hfP a b c d e f).2.1).2.1 (sqrR (hfQ a b c d e f).1 (hfQ a b c d e f).2.1).1 (sqrR (hfQ a b c d e f).1 (hfQ a b c d e f).2.1).2.1).2.1).2.2 = 0 := L2.2.2.2.1
    rw [e1, e2]
    rfl) ?_
  (try dsimp only)
  refine lt_eq (show wbeaV (hfY a b c d e f).1 (hfY a b c d e f).2.1 (hfX a b c d e f).1 (hfX a b c d e f).2.1 = ((hfB a b c d e f).1, (hfB a b c d e f).2.1) from rfl) ?_
  (try dsimp only)
  refine lt_eq (show wbeaC 0 (hfY a b c d e f).1 (hfY a b c d e f).2.1 (hfX a b c d e f).1 (hfX a b c d e f).2.1 = 0 from k0 B.2.2.2.2) ?_
  (try dsimp only)
  rw [show ((0 : Int) != 0) = false from rfl, cond_false]
  have fb : bearR (hfY a b c d e f).1 (hfY a b c d e f).2.1 (hfX a b c d e f).1 (hfX a b c d e f).2.1 = hfB a b c d e f := rfl
  rw [fb] at B
  have Bb := dir_bd B
  rw [wall_eq Bb.1 Bb.2.1 Bb.2.2.1 Bb.2.2.2.1]
  cases ho : originB (hfY a b c d e f).1 (hfY a b c d e f).2.1 (hfX a b c d e f).1 (hfX a b c d e f).2.1 with
  | true =>
    have eb : hfB a b c d e f = (0, 21600000, 0) := by
      rw [← fb]
      unfold bearR
      rw [V.1, V.2.1, ho]
      rfl
    rw [eb]
    rfl
  | false =>
  have F := bear_first V.1 V.2.1 V.2.2.1 V.2.2.2 ho
  rw [fb] at F
  rw [decide_eq_false (show ¬ 21600000 ≤ (hfB a b c d e f).2.1 - (hfB a b c d e f).1 by omega), cond_false, if_neg (by simp)]
  have E9 : timR (hfB a b c d e f).1 (hfB a b c d e f).2.1 2 1 = (2 * (hfB a b c d e f).1, 2 * (hfB a b c d e f).2.1, 0) := by
    rw [tim_ok Bb.1 Bb.2.2.2.2 Bb.2.2.2.1 (.inr ⟨rfl, .inl rfl⟩), Int.ediv_one, Int.ediv_one, Int.neg_neg, Int.mul_comm 2, Int.mul_comm 2]
  have E10 : asubR 5400000 5400000 (2 * (hfB a b c d e f).1) (2 * (hfB a b c d e f).2.1) = ((hfH a b c d e f).1, (hfH a b c d e f).2.1, 0) := by
    rw [asub_ok (by omega) (by omega) (by omega) (by omega) (by omega) (by omega)]
    rfl
  refine lt_eq (show wpartV (hfB a b c d e f).1 (hfB a b c d e f).2.1 2 1 = (2 * (hfB a b c d e f).1, 2 * (hfB a b c d e f).2.1) from by unfold wpartV; rw [E9]) ?_
  (try dsimp only)
  refine lt_eq (show wpartC 0 (hfB a b c d e f).1 (hfB a b c d e f).2.1 2 1 = 0 from k0 (by rw [E9])) ?_
  (try dsimp only)
  refine lt_eq (show wminV 5400000 5400000 (2 * (hfB a b c d e f).1) (2 * (hfB a b c d e f).2.1) = ((hfH a b c d e f).1, (hfH a b c d e f).2.1) from by unfold wminV; rw [E10]) ?_
  (try dsimp only)
  refine lt_eq (show wminC 0 5400000 5400000 (2 * (hfB a b c d e f).1) (2 * (hfB a b c d e f).2.1) = 0 from k0 (by rw [E10])) ?_
  (try dsimp only)
  refine lt_eq (show wbeaV (hfQ a b c d e f).1 (hfQ a b c d e f).2.1 (hfP a b c d e f).1 (hfP a b c d e f).2.1 = ((hfA a b c d e f).1, (hfA a b c d e f).2.1) from rfl) ?_
  (try dsimp only)
  refine lt_eq (show wbeaC 0 (hfQ a b c d e f).1 (hfQ a b c d e f).2.1 (hfP a b c d e f).1 (hfP a b c d e f).2.1 = 0 from k0 DA.2.2.2.2) ?_
  (try dsimp only)
  refine lt_eq (show wbeaV (hfS a b c d e f).1 (hfS a b c d e f).2.1 (hfR a b c d e f).1 (hfR a b c d e f).2.1 = ((hfC a b c d e f).1, (hfC a b c d e f).2.1) from rfl) ?_
  (try dsimp only)
  refine lt_eq (show wbeaC 0 (hfS a b c d e f).1 (hfS a b c d e f).2.1 (hfR a b c d e f).1 (hfR a b c d e f).2.1 = 0 from k0 DC.2.2.2.2) ?_
  (try dsimp only)
  have Ab := dir_bd DA
  have Cb := dir_bd DC
  have fa : bearR (hfQ a b c d e f).1 (hfQ a b c d e f).2.1 (hfP a b c d e f).1 (hfP a b c d e f).2.1 = hfA a b c d e f := rfl
  have fc : bearR (hfS a b c d e f).1 (hfS a b c d e f).2.1 (hfR a b c d e f).1 (hfR a b c d e f).2.1 = hfC a b c d e f := rfl
  rw [fa] at Ab
  rw [fc] at Cb
  have eZ : hfZ a b c d e f = oppS (hfA a b c d e f) (hfC a b c d e f) := rfl
  rw [wall_eq Ab.1 Ab.2.1 Ab.2.2.1 Ab.2.2.2.1, wall_eq Cb.1 Cb.2.1 Cb.2.2.1 Cb.2.2.2.1, eZ]
  unfold oppS fullB
  generalize hfA a b c d e f = A at *
  generalize hfC a b c d e f = T at *
  by_cases c1 : 21600000 ≤ A.2.1 - A.1
  · rw [decide_eq_true c1]
    rfl
  rw [decide_eq_false c1]
  by_cases c2 : 21600000 ≤ T.2.1 - T.1
  · rw [decide_eq_true c2]
    rfl
  rw [decide_eq_false c2, Bool.not_false, cond_true, cond_true]
  have E11 : aaddR A.1 A.2.1 T.1 T.2.1 = (A.1 + T.1, A.2.1 + T.2.1, 0) := aadd_ok (by omega) (by omega) (by omega) (by omega) (by omega) (by omega)
  refine lt_eq (show wplusV A.1 A.2.1 T.1 T.2.1 = (A.1 + T.1, A.2.1 + T.2.1) from by unfold wplusV; rw [E11]) ?_
  (try dsimp only)
  refine lt_eq (show wplusC 0 A.1 A.2.1 T.1 T.2.1 = 0 from k0 (by rw [E11])) ?_
  (try dsimp only)
  have E12 : anegR (A.1 + T.1) (A.2.1 + T.2.1) = (-(A.2.1 + T.2.1), -(A.1 + T.1), 0) := by
    unfold anegR
    rw [if_pos (avalid_mk (by omega) (by omega) (by omega))]
  refine lt_eq E12 ?_
  (try dsimp only)
  refine lt_eq (show warW (-(A.2.1 + T.2.1)) (-(A.1 + T.1)) 0 = (-(A.2.1 + T.2.1), -(A.1 + T.1)) from rfl) ?_
  (try dsimp only)
  refine lt_eq (show warC 0 (-(A.2.1 + T.2.1)) (-(A.1 + T.1)) 0 = 0 from rfl) ?_
  (try dsimp only)
  have E13 : turnR (-(A.2.1 + T.2.1)) (-(A.1 + T.1)) = (turnL (-(A.2.1 + T.2.1)) (-(A.1 + T.1)), turnH (-(A.2.1 + T.2.1)) (-(A.1 + T.1)), 0) := by
    unfold turnR
    rw [if_pos (avalid_mk (by omega) (by omega) (by omega))]
  refine lt_eq E13 ?_
  (try dsimp only)
  rfl
end Go.Proofs.YtmididlfnajhiaaGreatDoor

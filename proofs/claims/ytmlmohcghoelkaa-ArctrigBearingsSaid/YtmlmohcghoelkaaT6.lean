import Derived.Test.YtmlmohcghoelkaaT5
namespace Go.Proofs.Ytmlmohcghoelkaa
open Go.RowKit
/-- Behind a call that may have drawn, under two blocks: the draw lies beneath them. -/
theorem rejoin (w w' : World) (A R : Obj) (h : w' = (w.alloc A).alloc R ∨ w' = ((w.alloc A).alloc R).drew) : ∃ w1 : World, w' = (w1.alloc A).alloc R ∧ w1.heap.size = w.heap.size ∧ Below w.heap.size w w1 := by
  rcases h with rfl | rfl
  · exact ⟨w, rfl, rfl, Below.refl _ _⟩
  · exact ⟨w.drew, rfl, rfl, (Below.refl _ _).drew⟩
set_option maxHeartbeats 400000 in
theorem ndiv_ex (a0 a1 a2 a3 t d : Int) (ha0 : Word a0) (ha1 : Word a1) (ha2 : Word a2) (ha3 : Word a3) (hd : 0 < d) (hd2 : d < 4294967296) (ht0 : 0 ≤ t) (ht : t < d) :
    ∃ s0 s1 s2 s3 r : Int, (Word s0 ∧ Word s1 ∧ Word s2 ∧ Word s3) ∧ 0 ≤ r ∧ r < d ∧
      t * 115792089237316195423570985008687907853269984665640564039457584007913129639936 + (a0 * 6277101735386680763835789423207666416102355444464034512896 + a1 * 340282366920938463463374607431768211456 + a2 * 18446744073709551616 + a3) = (s0 * 6277101735386680763835789423207666416102355444464034512896 + s1 * 340282366920938463463374607431768211456 + s2 * 18446744073709551616 + s3) * d + r ∧
      ∀ w, Calls Try.prog 88 #[numD a0 a1 a2 a3, .int .u64 t, .int .u64 d] w (NumPost w (numD s0 s1 s2 s3)) := by
  obtain ⟨s0, r0, g0, g0', d0, d0', e0, E0⟩ := div64_any t a0 d hd hd2 ht0 ht ha0.1 ha0.2
  obtain ⟨s1, r1, g1, g1', d1, d1', e1, E1⟩ := div64_any r0 a1 d hd hd2 d0 d0' ha1.1 ha1.2
  obtain ⟨s2, r2, g2, g2', d2, d2', e2, E2⟩ := div64_any r1 a2 d hd hd2 d1 d1' ha2.1 ha2.2
  obtain ⟨s3, r3, g3, g3', d3, d3', e3, E3⟩ := div64_any r2 a3 d hd hd2 d2 d2' ha3.1 ha3.2
  refine ⟨s0, s1, s2, s3, r3, ⟨⟨g0, g0'⟩, ⟨g1, g1'⟩, ⟨g2, g2'⟩, ⟨g3, g3'⟩⟩, d3, d3', by grind, fun w => ?_⟩
  clear g0 g0' g1 g1' g2 g2' g3 g3' d0 d0' d1 d1' d2 d2' d3 d3' e0 e1 e2 e3 ha0 ha1 ha2 ha3 ht ht0 hd hd2
  have E0 := Lib.hid E0
  have E1 := Lib.hid E1
  have E2 := Lib.hid E2
  have E3 := Lib.hid E3
  unfold numD
  go_enter Try.func88, Try.ntmps88
  go_wp2
  refine wp_loop_rounds 5 ?_
  rw [rounds_succ]
  go_wp2_with fail
  refine (E0.out _).mono ?_
  rintro e w' ⟨rfl, hw⟩
  obtain ⟨w1, rfl, hs1, hb1⟩ := rejoin _ _ _ _ hw
  clear hw
  go_wp2_with fail
  rw [rounds_succ]
  go_wp2_with fail
  refine (E1.out _).mono ?_
  rintro e w' ⟨rfl, hw⟩
  obtain ⟨w2, rfl, hs2, hb2⟩ := rejoin _ _ _ _ hw
  clear hw
  rw [hs1] at hb2 hs2
  go_wp2_with fail
  rw [rounds_succ]
  go_wp2_with fail
  refine (E2.out _).mono ?_
  rintro e w' ⟨rfl, hw⟩
  obtain ⟨w3, rfl, hs3, hb3⟩ := rejoin _ _ _ _ hw
  clear hw
  rw [hs2] at hb3 hs3
  go_wp2_with fail
  rw [rounds_succ]
  go_wp2_with fail
  refine (E3.out _).mono ?_
  rintro e w' ⟨rfl, hw⟩
  obtain ⟨w4, rfl, hs4, hb4⟩ := rejoin _ _ _ _ hw
  clear hw
  rw [hs3] at hb4 hs4
  go_wp2_with fail
  rw [rounds_succ]
  go_wp2_with fail
  have hB := (((hb1.trans hb2).trans hb3).trans hb4)
  simp [bodyPost, results, Try.results88, go_sem, hs4]
  exact ⟨rfl, (hB.alloc (by rw [hs4]; exact Nat.le_refl _) _).alloc (by simp [hs4]) _⟩
end Go.Proofs.Ytmlmohcghoelkaa

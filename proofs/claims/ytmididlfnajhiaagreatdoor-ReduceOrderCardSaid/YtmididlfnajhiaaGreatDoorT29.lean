import Derived.Test.YtmididlfnajhiaaGreatDoorT22
import Derived.Laws.StructEq
import Derived.Deep.CutRange
import Derived.Deep.CutBlock
namespace Go.Proofs.YtmididlfnajhiaaGreatDoor
open Go.RowKit
def bigV (V : Int) : Value := numD (V / 6277101735386680763835789423207666416102355444464034512896) (V / 340282366920938463463374607431768211456 % 18446744073709551616) (V / 18446744073709551616 % 18446744073709551616) (V % 18446744073709551616)
def Big (V : Int) : Prop := 0 ≤ V ∧ V < 115792089237316195423570985008687907853269984665640564039457584007913129639936
theorem big_words {V : Int} (h : Big V) : ∃ a0 a1 a2 a3 : Int, (Word a0 ∧ Word a1 ∧ Word a2 ∧ Word a3) ∧ num a0 a1 a2 a3 = V ∧ bigV V = numD a0 a1 a2 a3 := by
  obtain ⟨h0, h1⟩ := h
  refine ⟨_, _, _, _, ⟨⟨?_, ?_⟩, ⟨?_, ?_⟩, ⟨?_, ?_⟩, ⟨?_, ?_⟩⟩, ?_, rfl⟩
  all_goals (first | omega | (unfold num; omega))
theorem big_num {a0 a1 a2 a3 : Int} (h : Word a0 ∧ Word a1 ∧ Word a2 ∧ Word a3) : bigV (num a0 a1 a2 a3) = numD a0 a1 a2 a3 := by
  obtain ⟨⟨_, _⟩, ⟨_, _⟩, ⟨_, _⟩, ⟨_, _⟩⟩ := h
  have e0 : num a0 a1 a2 a3 / 6277101735386680763835789423207666416102355444464034512896 = a0 := by unfold num; omega
  have e1 : num a0 a1 a2 a3 / 340282366920938463463374607431768211456 % 18446744073709551616 = a1 := by unfold num; omega
  have e2 : num a0 a1 a2 a3 / 18446744073709551616 % 18446744073709551616 = a2 := by unfold num; omega
  have e3 : num a0 a1 a2 a3 % 18446744073709551616 = a3 := by unfold num; omega
  unfold bigV
  rw [e0, e1, e2, e3]
theorem add64_ex (x y b : Int) (hx : Word x) (hy : Word y) (hb : 0 ≤ b ∧ b ≤ 1) : ∃ s c : Int, Word s ∧ (0 ≤ c ∧ c ≤ 1) ∧ s = x + y + b - 18446744073709551616 * c ∧ ∀ w, (callFunc 242 #[.int .u64 x, .int .u64 y, .int .u64 b]).run Tryz.prog w = .ok (.value (.tuple #[.int .u64 s, .int .u64 c])) w := by
  obtain ⟨x1, x2⟩ := hx
  obtain ⟨y1, y2⟩ := hy
  refine ⟨(x + y + b) % 18446744073709551616, (x + y + b) / 18446744073709551616, ⟨by omega, by omega⟩, ⟨by omega, by omega⟩, by omega, fun w => add64_run x y b x1 y1 hb w⟩
set_option maxHeartbeats 400000 in
theorem bsub_any (a b : Int) (ha : Big a) (hb : Big b) (w : World) : Calls Tryz.prog 262 #[bigV a, bigV b] w (GPost (bigV ((a - b) % 115792089237316195423570985008687907853269984665640564039457584007913129639936)) w) := by
  obtain ⟨a0, a1, a2, a3, ⟨ha0, ha1, ha2, ha3⟩, rfl, ea⟩ := big_words ha
  obtain ⟨b0, b1, b2, b3, ⟨hb0, hb1, hb2, hb3⟩, rfl, eb⟩ := big_words hb
  rw [ea, eb]
  obtain ⟨s3, c3, g3, d3, e3, E3⟩ := sub64_ex a3 b3 0 ha3 hb3 (by omega)
  obtain ⟨s2, c2, g2, d2, e2, E2⟩ := sub64_ex a2 b2 c3 ha2 hb2 d3
  obtain ⟨s1, c1, g1, d1, e1, E1⟩ := sub64_ex a1 b1 c2 ha1 hb1 d2
  obtain ⟨s0, c0, g0, d0, e0, E0⟩ := sub64_ex a0 b0 c1 ha0 hb0 d1
  have hs : (num a0 a1 a2 a3 - num b0 b1 b2 b3) % 115792089237316195423570985008687907853269984665640564039457584007913129639936 = num s0 s1 s2 s3 := by
    obtain ⟨_, _⟩ := g0
    obtain ⟨_, _⟩ := g1
    obtain ⟨_, _⟩ := g2
    obtain ⟨_, _⟩ := g3
    clear E0 E1 E2 E3
    unfold num
    omega
  rw [hs, big_num ⟨g0, g1, g2, g3⟩]
  clear ea eb hs ha hb
  clear g0 g1 g2 g3 d0 d1 d2 d3 e0 e1 e2 e3 ha0 ha1 ha2 ha3 hb0 hb1 hb2 hb3
  have HP := Lib.hid (show ∀ c1 c2 : Array Value, GPost (numD s0 s1 s2 s3) w (.returned (numD s0 s1 s2 s3)) (((w.alloc (.cells c1 175)).alloc (.cells c2 175)).alloc (.cells #[.int .u64 s0, .int .u64 s1, .int .u64 s2, .int .u64 s3] 175)).drew.drew.drew.drew from fun c1 c2 => ⟨rfl, ((((((Below.refl _ _).alloc (Nat.le_refl _) _).alloc (by simp) _).alloc (by simp; omega) _).drew).drew).drew.drew⟩)
  unfold numD at HP ⊢
  go_enter Tryz.func262, Tryz.ntmps262
  go_wp2
  refine wp_loop_rounds 5 ?_
  rw [rounds_succ]
  go_wp2
  go_region
  go_wp2
  rw [rounds_succ]
  go_wp2
  go_region
  go_wp2
  rw [rounds_succ]
  go_wp2
  go_region
  go_wp2
  rw [rounds_succ]
  go_wp2
  go_region
  go_wp2
  rw [rounds_succ]
  go_wp2
  simp [bodyPost, results, Tryz.results262, go_sem]
  exact HP.out _ _
set_option maxHeartbeats 400000 in
theorem badd_any (a b : Int) (ha : Big a) (hb : Big b) (w : World) : Calls Tryz.prog 263 #[bigV a, bigV b] w (GPost (bigV ((a + b) % 115792089237316195423570985008687907853269984665640564039457584007913129639936)) w) := by
  obtain ⟨a0, a1, a2, a3, ⟨ha0, ha1, ha2, ha3⟩, rfl, ea⟩ := big_words ha
  obtain ⟨b0, b1, b2, b3, ⟨hb0, hb1, hb2, hb3⟩, rfl, eb⟩ := big_words hb
  rw [ea, eb]
  obtain ⟨s3, c3, g3, d3, e3, E3⟩ := add64_ex a3 b3 0 ha3 hb3 (by omega)
  obtain ⟨s2, c2, g2, d2, e2, E2⟩ := add64_ex a2 b2 c3 ha2 hb2 d3
  obtain ⟨s1, c1, g1, d1, e1, E1⟩ := add64_ex a1 b1 c2 ha1 hb1 d2
  obtain ⟨s0, c0, g0, d0, e0, E0⟩ := add64_ex a0 b0 c1 ha0 hb0 d1
  have hs : (num a0 a1 a2 a3 + num b0 b1 b2 b3) % 115792089237316195423570985008687907853269984665640564039457584007913129639936 = num s0 s1 s2 s3 := by
    obtain ⟨_, _⟩ := g0
    obtain ⟨_, _⟩ := g1
    obtain ⟨_, _⟩ := g2
    obtain ⟨_, _⟩ := g3
    clear E0 E1 E2 E3
    unfold num
    omega
  rw [hs, big_num ⟨g0, g1, g2, g3⟩]
  clear ea eb hs ha hb
  clear g0 g1 g2 g3 d0 d1 d2 d3 e0 e1 e2 e3 ha0 ha1 ha2 ha3 hb0 hb1 hb2 hb3
  have HP := Lib.hid (show ∀ c1 c2 : Array Value, GPost (numD s0 s1 s2 s3) w (.returned (numD s0 s1 s2 s3)) (((w.alloc (.cells c1 175)).alloc (.cells c2 175)).alloc (.cells #[.int .u64 s0, .int .u64 s1, .int .u64 s2, .int .u64 s3] 175)).drew.drew.drew.drew from fun c1 c2 => ⟨rfl, ((((((Below.refl _ _).alloc (Nat.le_refl _) _).alloc (by simp) _).alloc (by simp; omega) _).drew).drew).drew.drew⟩)
  unfold numD at HP ⊢
  go_enter Tryz.func263, Tryz.ntmps263
  go_wp2
  refine wp_loop_rounds 5 ?_
  rw [rounds_succ]
  go_wp2
  go_region
  go_wp2
  rw [rounds_succ]
  go_wp2
  go_region
  go_wp2
  rw [rounds_succ]
  go_wp2
  go_region
  go_wp2
  rw [rounds_succ]
  go_wp2
  go_region
  go_wp2
  rw [rounds_succ]
  go_wp2
  simp [bodyPost, results, Tryz.results263, go_sem]
  exact HP.out _ _
set_option maxRecDepth 100000 in
set_option maxHeartbeats 1000000 in
theorem btimes_any (a n : Int) (ha : Big a) (hn0 : 0 ≤ n) (hn1 : n ≤ 4611686018427387904) (w : World) : Calls Tryz.prog 227 #[bigV a, .int .u64 n] w (GPost (bigV (a * n % 115792089237316195423570985008687907853269984665640564039457584007913129639936)) w) := by
  obtain ⟨a0, a1, a2, a3, ⟨ha0, ha1, ha2, ha3⟩, rfl, ea⟩ := big_words ha
  rw [ea]
  obtain ⟨x3, y3, s3, k3, t3, g3, d3, e3, M3, A3, z3⟩ := one_ex a3 n 0 4611686018427387904 ha3 hn0 hn1 (by omega) (by omega) (by omega)
  obtain ⟨x2, y2, s2, k2, t2, g2, d2, e2, M2, A2, z2⟩ := one_ex a2 n t3 4611686018427387904 ha2 hn0 hn1 (by omega) d3.1 d3.2
  obtain ⟨x1, y1, s1, k1, t1, g1, d1, e1, M1, A1, z1⟩ := one_ex a1 n t2 4611686018427387904 ha1 hn0 hn1 (by omega) d2.1 d2.2
  obtain ⟨x0, y0, s0, k0, t0, g0, d0, e0, M0, A0, z0⟩ := one_ex a0 n t1 4611686018427387904 ha0 hn0 hn1 (by omega) d1.1 d1.2
  have hs : num a0 a1 a2 a3 * n % 115792089237316195423570985008687907853269984665640564039457584007913129639936 = num s0 s1 s2 s3 := by
    have e : num a0 a1 a2 a3 * n = a0 * n * 6277101735386680763835789423207666416102355444464034512896 + a1 * n * 340282366920938463463374607431768211456 + a2 * n * 18446744073709551616 + a3 * n := by unfold num; grind
    rw [e]
    obtain ⟨_, _⟩ := g0
    obtain ⟨_, _⟩ := g1
    obtain ⟨_, _⟩ := g2
    obtain ⟨_, _⟩ := g3
    clear M0 M1 M2 M3 A0 A1 A2 A3 ha0 ha1 ha2 ha3
    generalize a0 * n = p0 at *
    generalize a1 * n = p1 at *
    generalize a2 * n = p2 at *
    generalize a3 * n = p3 at *
    unfold num
    omega
  rw [hs, big_num ⟨g0, g1, g2, g3⟩]
  clear ea hs ha e0 e1 e2 e3 d0 d1 d2 d3 g0 g1 g2 g3
  have M0 := Lib.hid M0
  have M1 := Lib.hid M1
  have M2 := Lib.hid M2
  have M3 := Lib.hid M3
  have HP := Lib.hid (show ∀ c1 : Array Value, GPost (numD s0 s1 s2 s3) w (.returned (numD s0 s1 s2 s3)) ((w.alloc (.cells c1 175)).alloc (.cells #[.int .u64 s0, .int .u64 s1, .int .u64 s2, .int .u64 s3] 175)) from fun c1 => ⟨rfl, ((Below.refl _ _).alloc (Nat.le_refl _) _).alloc (by simp) _⟩)
  unfold numD at HP ⊢
  go_enter Tryz.func227, Tryz.ntmps227
  go_wp2
  refine wp_loop_rounds 5 ?_
  rw [rounds_succ]
  go_wp2_with (first | (go_at_call 241; refine (M3.out _).mono ?_; rintro e w' ⟨rfl, rfl⟩))
  rw [rounds_succ]
  go_wp2_with (first | (go_at_call 241; refine (M2.out _).mono ?_; rintro e w' ⟨rfl, rfl⟩))
  rw [rounds_succ]
  go_wp2_with (first | (go_at_call 241; refine (M1.out _).mono ?_; rintro e w' ⟨rfl, rfl⟩))
  rw [rounds_succ]
  go_wp2_with (first | (go_at_call 241; refine (M0.out _).mono ?_; rintro e w' ⟨rfl, rfl⟩))
  rw [rounds_succ]
  go_wp2_with fail
  simp [bodyPost, results, Tryz.results227, go_sem]
  exact HP.out _
set_option maxHeartbeats 400000 in
theorem bover_any (a d : Int) (ha : Big a) (hd : 0 < d) (hd2 : d < 4294967296) (w : World) : Calls Tryz.prog 238 #[bigV a, .int .u64 d] w (GPost (bigV (a / d)) w) := by
  obtain ⟨a0, a1, a2, a3, ⟨ha0, ha1, ha2, ha3⟩, rfl, ea⟩ := big_words ha
  rw [ea]
  obtain ⟨s0, r0, g0, g0', d0, d0', e0, E0⟩ := div64_any 0 a0 d hd hd2 (by omega) hd ha0.1 ha0.2
  obtain ⟨s1, r1, g1, g1', d1, d1', e1, E1⟩ := div64_any r0 a1 d hd hd2 d0 d0' ha1.1 ha1.2
  obtain ⟨s2, r2, g2, g2', d2, d2', e2, E2⟩ := div64_any r1 a2 d hd hd2 d1 d1' ha2.1 ha2.2
  obtain ⟨s3, r3, g3, g3', d3, d3', e3, E3⟩ := div64_any r2 a3 d hd hd2 d2 d2' ha3.1 ha3.2
  have hs : num a0 a1 a2 a3 / d = num s0 s1 s2 s3 := by
    have e : num a0 a1 a2 a3 = r3 + num s0 s1 s2 s3 * d := by
      clear E0 E1 E2 E3 ea
      unfold num
      grind
    rw [e, Int.add_mul_ediv_right _ _ (by omega), Int.ediv_eq_zero_of_lt d3 d3']
    omega
  rw [hs, big_num ⟨⟨g0, g0'⟩, ⟨g1, g1'⟩, ⟨g2, g2'⟩, ⟨g3, g3'⟩⟩]
  clear ea hs ha
  clear g0 g0' g1 g1' g2 g2' g3 g3' d0 d0' d1 d1' d2 d2' d3 d3' e0 e1 e2 e3 ha0 ha1 ha2 ha3 hd hd2
  have E0 := Lib.hid E0
  have E1 := Lib.hid E1
  have E2 := Lib.hid E2
  have E3 := Lib.hid E3
  unfold numD
  go_enter Tryz.func238, Tryz.ntmps238
  go_wp2
  refine wp_loop_rounds 5 ?_
  rw [rounds_succ]
  go_wp2_with fail
  refine (E0.out _).mono ?_
  rintro e w' ⟨rfl, hw⟩
  obtain ⟨w1, rfl, hs1, hb1⟩ := rejoin _ _ _ _ hw
  clear hw
  go_wp2_with fail
  rw [rounds_succ]
  go_wp2_with fail
  refine (E1.out _).mono ?_
  rintro e w' ⟨rfl, hw⟩
  obtain ⟨w2, rfl, hs2, hb2⟩ := rejoin _ _ _ _ hw
  clear hw
  rw [hs1] at hb2 hs2
  go_wp2_with fail
  rw [rounds_succ]
  go_wp2_with fail
  refine (E2.out _).mono ?_
  rintro e w' ⟨rfl, hw⟩
  obtain ⟨w3, rfl, hs3, hb3⟩ := rejoin _ _ _ _ hw
  clear hw
  rw [hs2] at hb3 hs3
  go_wp2_with fail
  rw [rounds_succ]
  go_wp2_with fail
  refine (E3.out _).mono ?_
  rintro e w' ⟨rfl, hw⟩
  obtain ⟨w4, rfl, hs4, hb4⟩ := rejoin _ _ _ _ hw
  clear hw
  rw [hs3] at hb4 hs4
  go_wp2_with fail
  rw [rounds_succ]
  go_wp2_with fail
  have hB := (((hb1.trans hb2).trans hb3).trans hb4)
  simp [bodyPost, results, Tryz.results238, go_sem, hs4]
  exact ⟨rfl, (hB.alloc (by rw [hs4]; exact Nat.le_refl _) _).alloc (by simp [hs4]) _⟩
end Go.Proofs.YtmididlfnajhiaaGreatDoor
namespace Go.Proofs.YtmididlfnajhiaaGreatDoor
open Go.RowKit
set_option maxRecDepth 100000 in
set_option maxHeartbeats 1000000 in
theorem blt_any (a b : Int) (ha : Big a) (hb : Big b) (w : World) : Calls Tryz.prog 228 #[bigV a, bigV b] w (GPost (.bool (decide (a < b))) w) := by
  obtain ⟨a0, a1, a2, a3, ⟨⟨_, _⟩, ⟨_, _⟩, ⟨_, _⟩, ⟨_, _⟩⟩, hA, ea⟩ := big_words ha
  obtain ⟨b0, b1, b2, b3, ⟨⟨_, _⟩, ⟨_, _⟩, ⟨_, _⟩, ⟨_, _⟩⟩, hB, eb⟩ := big_words hb
  rw [ea, eb]
  obtain ⟨V, hV⟩ : ∃ V, V = Value.bool (decide (a < b)) := ⟨_, rfl⟩
  rw [← hV]
  have HB : ∀ v : Bool, decide (a < b) = v → ∀ w', Below w.heap.size w w' → GPost V w (.returned (.bool v)) w' := fun v h w' hb => ⟨by rw [hV, h], hb⟩
  have BL := Lib.hid (((Below.refl w.heap.size w).alloc (Nat.le_refl _) (.cells #[.int .u64 a0, .int .u64 a1, .int .u64 a2, .int .u64 a3] 175)).alloc (by simp) (.cells #[.int .u64 b0, .int .u64 b1, .int .u64 b2, .int .u64 b3] 175))
  unfold num at hA hB
  unfold numD
  clear hV ea eb
  rcases Int.lt_trichotomy a0 b0 with h | h | h
  · have HP := Lib.hid (HB true (by rw [decide_eq_true]; omega))
    clear HB hA hB ha hb
    go_enter Tryz.func228, Tryz.ntmps228
    go_wp2
    refine wp_loop_rounds 5 ?_
    rw [rounds_succ]
    go_wp2
    go_quiet (fail)
    go_wp2
    go_quiet (fail)
    go_wp2
    go_ret
    refine HP.out _ ?_
    first
      | exact (below_drewN (below_drewN (below_drewN (below_drewN (below_drewN BL.out _) _) _) _) _)
      | exact (below_drewN (below_drewN (below_drewN (below_drewN BL.out _) _) _) _)
      | exact (below_drewN (below_drewN (below_drewN BL.out _) _) _)
      | exact (below_drewN (below_drewN BL.out _) _)
      | exact (below_drewN BL.out _)
  · subst h
    rcases Int.lt_trichotomy a1 b1 with h | h | h
    · have HP := Lib.hid (HB true (by rw [decide_eq_true]; omega))
      clear HB hA hB ha hb
      go_enter Tryz.func228, Tryz.ntmps228
      go_wp2
      refine wp_loop_rounds 5 ?_
      rw [rounds_succ]
      go_wp2
      go_quiet (fail)
      go_wp2
      rw [rounds_succ]
      go_wp2
      go_quiet (fail)
      go_wp2
      go_quiet (fail)
      go_wp2
      go_ret
      refine HP.out _ ?_
      first
        | exact (below_drewN (below_drewN (below_drewN (below_drewN (below_drewN BL.out _) _) _) _) _)
        | exact (below_drewN (below_drewN (below_drewN (below_drewN BL.out _) _) _) _)
        | exact (below_drewN (below_drewN (below_drewN BL.out _) _) _)
        | exact (below_drewN (below_drewN BL.out _) _)
        | exact (below_drewN BL.out _)
    · subst h
      rcases Int.lt_trichotomy a2 b2 with h | h | h
      · have HP := Lib.hid (HB true (by rw [decide_eq_true]; omega))
        clear HB hA hB ha hb
        go_enter Tryz.func228, Tryz.ntmps228
        go_wp2
        refine wp_loop_rounds 5 ?_
        rw [rounds_succ]
        go_wp2
        go_quiet (fail)
        go_wp2
        rw [rounds_succ]
        go_wp2
        go_quiet (fail)
        go_wp2
        rw [rounds_succ]
        go_wp2
        go_quiet (fail)
        go_wp2
        go_quiet (fail)
        go_wp2
        go_ret
        refine HP.out _ ?_
        first
          | exact (below_drewN (below_drewN (below_drewN (below_drewN (below_drewN BL.out _) _) _) _) _)
          | exact (below_drewN (below_drewN (below_drewN (below_drewN BL.out _) _) _) _)
          | exact (below_drewN (below_drewN (below_drewN BL.out _) _) _)
          | exact (below_drewN (below_drewN BL.out _) _)
          | exact (below_drewN BL.out _)
      · subst h
        rcases Int.lt_trichotomy a3 b3 with h | h | h
        · have HP := Lib.hid (HB true (by rw [decide_eq_true]; omega))
          clear HB hA hB ha hb
          go_enter Tryz.func228, Tryz.ntmps228
          go_wp2
          refine wp_loop_rounds 5 ?_
          rw [rounds_succ]
          go_wp2
          go_quiet (fail)
          go_wp2
          rw [rounds_succ]
          go_wp2
          go_quiet (fail)
          go_wp2
          rw [rounds_succ]
          go_wp2
          go_quiet (fail)
          go_wp2
          rw [rounds_succ]
          go_wp2
          go_quiet (fail)
          go_wp2
          go_quiet (fail)
          go_wp2
          go_ret
          refine HP.out _ ?_
          first
            | exact (below_drewN (below_drewN (below_drewN (below_drewN (below_drewN BL.out _) _) _) _) _)
            | exact (below_drewN (below_drewN (below_drewN (below_drewN BL.out _) _) _) _)
            | exact (below_drewN (below_drewN (below_drewN BL.out _) _) _)
            | exact (below_drewN (below_drewN BL.out _) _)
            | exact (below_drewN BL.out _)
        · subst h
          have HP := Lib.hid (HB false (by rw [decide_eq_false]; omega))
          clear HB hA hB ha hb
          go_enter Tryz.func228, Tryz.ntmps228
          go_wp2
          refine wp_loop_rounds 5 ?_
          rw [rounds_succ]
          go_wp2
          go_quiet (fail)
          go_wp2
          rw [rounds_succ]
          go_wp2
          go_quiet (fail)
          go_wp2
          rw [rounds_succ]
          go_wp2
          go_quiet (fail)
          go_wp2
          rw [rounds_succ]
          go_wp2
          go_quiet (fail)
          go_wp2
          rw [rounds_succ]
          go_wp2
          go_ret
          refine HP.out _ ?_
          first
            | exact (below_drewN (below_drewN (below_drewN (below_drewN (below_drewN BL.out _) _) _) _) _)
            | exact (below_drewN (below_drewN (below_drewN (below_drewN BL.out _) _) _) _)
            | exact (below_drewN (below_drewN (below_drewN BL.out _) _) _)
            | exact (below_drewN (below_drewN BL.out _) _)
            | exact (below_drewN BL.out _)
        · have HP := Lib.hid (HB (decide (a3 < b3)) (by rw [decide_eq_false (by omega), decide_eq_false (by omega)]))
          clear HB hA hB ha hb
          go_enter Tryz.func228, Tryz.ntmps228
          go_wp2
          refine wp_loop_rounds 5 ?_
          rw [rounds_succ]
          go_wp2
          go_quiet (fail)
          go_wp2
          rw [rounds_succ]
          go_wp2
          go_quiet (fail)
          go_wp2
          rw [rounds_succ]
          go_wp2
          go_quiet (fail)
          go_wp2
          rw [rounds_succ]
          go_wp2
          go_quiet (fail)
          go_wp2
          go_quiet (fail)
          go_wp2
          go_ret
          refine HP.out _ ?_
          first
            | exact (below_drewN (below_drewN (below_drewN (below_drewN (below_drewN BL.out _) _) _) _) _)
            | exact (below_drewN (below_drewN (below_drewN (below_drewN BL.out _) _) _) _)
            | exact (below_drewN (below_drewN (below_drewN BL.out _) _) _)
            | exact (below_drewN (below_drewN BL.out _) _)
            | exact (below_drewN BL.out _)
      · have HP := Lib.hid (HB (decide (a2 < b2)) (by rw [decide_eq_false (by omega), decide_eq_false (by omega)]))
        clear HB hA hB ha hb
        go_enter Tryz.func228, Tryz.ntmps228
        go_wp2
        refine wp_loop_rounds 5 ?_
        rw [rounds_succ]
        go_wp2
        go_quiet (fail)
        go_wp2
        rw [rounds_succ]
        go_wp2
        go_quiet (fail)
        go_wp2
        rw [rounds_succ]
        go_wp2
        go_quiet (fail)
        go_wp2
        go_quiet (fail)
        go_wp2
        go_ret
        refine HP.out _ ?_
        first
          | exact (below_drewN (below_drewN (below_drewN (below_drewN (below_drewN BL.out _) _) _) _) _)
          | exact (below_drewN (below_drewN (below_drewN (below_drewN BL.out _) _) _) _)
          | exact (below_drewN (below_drewN (below_drewN BL.out _) _) _)
          | exact (below_drewN (below_drewN BL.out _) _)
          | exact (below_drewN BL.out _)
    · have HP := Lib.hid (HB (decide (a1 < b1)) (by rw [decide_eq_false (by omega), decide_eq_false (by omega)]))
      clear HB hA hB ha hb
      go_enter Tryz.func228, Tryz.ntmps228
      go_wp2
      refine wp_loop_rounds 5 ?_
      rw [rounds_succ]
      go_wp2
      go_quiet (fail)
      go_wp2
      rw [rounds_succ]
      go_wp2
      go_quiet (fail)
      go_wp2
      go_quiet (fail)
      go_wp2
      go_ret
      refine HP.out _ ?_
      first
        | exact (below_drewN (below_drewN (below_drewN (below_drewN (below_drewN BL.out _) _) _) _) _)
        | exact (below_drewN (below_drewN (below_drewN (below_drewN BL.out _) _) _) _)
        | exact (below_drewN (below_drewN (below_drewN BL.out _) _) _)
        | exact (below_drewN (below_drewN BL.out _) _)
        | exact (below_drewN BL.out _)
  · have HP := Lib.hid (HB (decide (a0 < b0)) (by rw [decide_eq_false (by omega), decide_eq_false (by omega)]))
    clear HB hA hB ha hb
    go_enter Tryz.func228, Tryz.ntmps228
    go_wp2
    refine wp_loop_rounds 5 ?_
    rw [rounds_succ]
    go_wp2
    go_quiet (fail)
    go_wp2
    go_quiet (fail)
    go_wp2
    go_ret
    refine HP.out _ ?_
    first
      | exact (below_drewN (below_drewN (below_drewN (below_drewN (below_drewN BL.out _) _) _) _) _)
      | exact (below_drewN (below_drewN (below_drewN (below_drewN BL.out _) _) _) _)
      | exact (below_drewN (below_drewN (below_drewN BL.out _) _) _)
      | exact (below_drewN (below_drewN BL.out _) _)
      | exact (below_drewN BL.out _)
end Go.Proofs.YtmididlfnajhiaaGreatDoor
namespace Go.Proofs.YtmididlfnajhiaaGreatDoor
open Go.RowKit
structure Mac2 (a b o c s c' : Int) : Prop where
  out : ∃ hi lo s1 k1 h1 k2 : Int, (∀ w, Calls Tryz.prog 241 #[.int .u64 a, .int .u64 b] w fun e w' => e = .returned (.tuple #[.int .u64 hi, .int .u64 lo]) ∧ w' = w) ∧
    (∀ w, (callFunc 242 #[.int .u64 lo, .int .u64 o, .int .u64 0]).run Tryz.prog w = .ok (.value (.tuple #[.int .u64 s1, .int .u64 k1])) w) ∧ IntKind.u64.wrap (hi + k1) = h1 ∧
    (∀ w, (callFunc 242 #[.int .u64 s1, .int .u64 c, .int .u64 0]).run Tryz.prog w = .ok (.value (.tuple #[.int .u64 s, .int .u64 k2])) w) ∧ IntKind.u64.wrap (h1 + k2) = c'
theorem mac2_ex (a b o c : Int) (ha : Word a) (hb : Word b) (ho : Word o) (hc : Word c) : ∃ s c' : Int, Word s ∧ Word c' ∧ o + a * b + c = s + 18446744073709551616 * c' ∧ Mac2 a b o c s c' := by
  obtain ⟨a0, a1⟩ := ha
  obtain ⟨b0, b1⟩ := hb
  obtain ⟨o0, o1⟩ := ho
  obtain ⟨c0, c1⟩ := hc
  have hp0 : 0 ≤ a * b := Int.mul_nonneg a0 b0
  have hp1 : a * b ≤ 18446744073709551615 * 18446744073709551615 := Int.mul_le_mul (by omega) (by omega) b0 (by decide)
  have hM : ∀ w, Calls Tryz.prog 241 #[.int .u64 a, .int .u64 b] w fun e w' => e = .returned (.tuple #[.int .u64 (a * b / 18446744073709551616), .int .u64 (a * b % 18446744073709551616)]) ∧ w' = w := fun w => (mul64_any a b ⟨a0, a1⟩ ⟨b0, b1⟩ w).mono fun _ _ h => ⟨h.1, h.2.symm⟩
  generalize hP : a * b = P at *
  refine ⟨((P % 18446744073709551616 + o) % 18446744073709551616 + c) % 18446744073709551616, P / 18446744073709551616 + (P % 18446744073709551616 + o) / 18446744073709551616 + ((P % 18446744073709551616 + o) % 18446744073709551616 + c) / 18446744073709551616, ⟨by omega, by omega⟩, ⟨by omega, by omega⟩, by omega,
    ⟨P / 18446744073709551616, P % 18446744073709551616, (P % 18446744073709551616 + o) % 18446744073709551616, (P % 18446744073709551616 + o) / 18446744073709551616, P / 18446744073709551616 + (P % 18446744073709551616 + o) / 18446744073709551616, ((P % 18446744073709551616 + o) % 18446744073709551616 + c) / 18446744073709551616, hM, fun w => ?_, ?_, fun w => ?_, ?_⟩⟩
  · have := add64_run (P % 18446744073709551616) o 0 (by omega) (by omega) (by omega) w
    simpa using this
  · exact wrap_id _ (by omega) (by omega)
  · have := add64_run ((P % 18446744073709551616 + o) % 18446744073709551616) c 0 (by omega) c0 (by omega) w
    simpa using this
  · exact wrap_id _ (by omega) (by omega)
theorem array_at2 (a : Option Addr) (w : World) : (Instr.arrayAt 175 (.slice a 4 7)).run Tryz.prog w = .ok (.pointer a) w := run_arrayAt w 175 165 4 a 4 7 (by kernel_rfl) (by decide)
set_option maxRecDepth 100000 in
set_option maxHeartbeats 2000000 in
theorem bmul_walk (a0 a1 a2 a3 b0 b1 b2 b3 p1 c1 p2 c2 p3 c3 p4 c4 p5 c5 p6 c6 p7 c7 p8 c8 p9 c9 p10 c10 p11 c11 p12 c12 p13 c13 p14 c14 p15 c15 p16 c16 : Int) (m1 : Mac2 a3 b3 0 0 p1 c1) (m2 : Mac2 a3 b2 0 c1 p2 c2) (m3 : Mac2 a3 b1 0 c2 p3 c3) (m4 : Mac2 a3 b0 0 c3 p4 c4) (m5 : Mac2 a2 b3 p2 0 p5 c5) (m6 : Mac2 a2 b2 p3 c5 p6 c6) (m7 : Mac2 a2 b1 p4 c6 p7 c7) (m8 : Mac2 a2 b0 c4 c7 p8 c8) (m9 : Mac2 a1 b3 p6 0 p9 c9) (m10 : Mac2 a1 b2 p7 c9 p10 c10) (m11 : Mac2 a1 b1 p8 c10 p11 c11) (m12 : Mac2 a1 b0 c8 c11 p12 c12) (m13 : Mac2 a0 b3 p10 0 p13 c13) (m14 : Mac2 a0 b2 p11 c13 p14 c14) (m15 : Mac2 a0 b1 p12 c14 p15 c15) (m16 : Mac2 a0 b0 c12 c15 p16 c16) (g4 : Word c4) (g8 : Word c8) (g12 : Word c12) (g16 : Word c16) (w : World) : Calls Tryz.prog 239 #[numD a0 a1 a2 a3, numD b0 b1 b2 b3] w (NumPost w (numD p16 p15 p14 p13)) := by
  have m1 := Lib.hid m1
  have m2 := Lib.hid m2
  have m3 := Lib.hid m3
  have m4 := Lib.hid m4
  have m5 := Lib.hid m5
  have m6 := Lib.hid m6
  have m7 := Lib.hid m7
  have m8 := Lib.hid m8
  have m9 := Lib.hid m9
  have m10 := Lib.hid m10
  have m11 := Lib.hid m11
  have m12 := Lib.hid m12
  have m13 := Lib.hid m13
  have m14 := Lib.hid m14
  have m15 := Lib.hid m15
  have m16 := Lib.hid m16
  have g4 := Lib.hid g4
  have g8 := Lib.hid g8
  have g12 := Lib.hid g12
  have g16 := Lib.hid g16
  unfold numD
  go_enter Tryz.func239, Tryz.ntmps239
  go_wp2
  refine wp_loop_rounds 5 ?_
  rw [rounds_succ]
  go_wp2_with fail
  refine wp_loop_rounds 5 ?_
  rw [rounds_succ]
  go_wp2_with fail
  obtain ⟨hi, lo, s, k, h, l, M, A, x, B, y⟩ := m1.out.out
  have M := Lib.hid M
  go_quiet (first | (go_at_call 241; refine Calls.quiet_of_same (M.out _)))
  simp only [drewN_alloc]
  rename_i nq
  have hd := drewN_base w w nq ⟨rfl, Below.refl _ _⟩
  generalize World.drewN w nq = w1 at *
  obtain ⟨hs, hb⟩ := hd
  go_wp2_with fail
  clear A x B y
  rw [rounds_succ]
  go_wp2_with fail
  obtain ⟨hi, lo, s, k, h, l, M, A, x, B, y⟩ := m2.out.out
  have M := Lib.hid M
  go_quiet (first | (go_at_call 241; refine Calls.quiet_of_same (M.out _)))
  simp only [drewN_alloc]
  rename_i nq
  have hd := drewN_base w1 w nq ⟨hs, hb⟩
  generalize World.drewN w1 nq = w2 at *
  clear hs hb
  obtain ⟨hs, hb⟩ := hd
  go_wp2_with fail
  clear A x B y
  rw [rounds_succ]
  go_wp2_with fail
  obtain ⟨hi, lo, s, k, h, l, M, A, x, B, y⟩ := m3.out.out
  have M := Lib.hid M
  go_quiet (first | (go_at_call 241; refine Calls.quiet_of_same (M.out _)))
  simp only [drewN_alloc]
  rename_i nq
  have hd := drewN_base w2 w nq ⟨hs, hb⟩
  generalize World.drewN w2 nq = w3 at *
  clear hs hb
  obtain ⟨hs, hb⟩ := hd
  go_wp2_with fail
  clear A x B y
  rw [rounds_succ]
  go_wp2_with fail
  obtain ⟨hi, lo, s, k, h, l, M, A, x, B, y⟩ := m4.out.out
  have M := Lib.hid M
  go_quiet (first | (go_at_call 241; refine Calls.quiet_of_same (M.out _)))
  simp only [drewN_alloc]
  rename_i nq
  have hd := drewN_base w3 w nq ⟨hs, hb⟩
  generalize World.drewN w3 nq = w4 at *
  clear hs hb
  obtain ⟨hs, hb⟩ := hd
  go_wp2_with fail
  clear A x B y
  rw [rounds_succ]
  have Z : IntKind.u64.wrap c4 = c4 := wrap_id _ g4.out.1 g4.out.2
  have Z' : IntKind.u64.wrap (0 + c4) = c4 := by rw [Int.zero_add]; exact Z
  go_wp2_with fail
  clear Z Z'
  rw [rounds_succ]
  go_wp2_with fail
  refine wp_loop_rounds 5 ?_
  rw [rounds_succ]
  go_wp2_with fail
  obtain ⟨hi, lo, s, k, h, l, M, A, x, B, y⟩ := m5.out.out
  have M := Lib.hid M
  go_quiet (first | (go_at_call 241; refine Calls.quiet_of_same (M.out _)))
  simp only [drewN_alloc]
  rename_i nq
  have hd := drewN_base w4 w nq ⟨hs, hb⟩
  generalize World.drewN w4 nq = w5 at *
  clear hs hb
  obtain ⟨hs, hb⟩ := hd
  go_wp2_with fail
  clear A x B y
  rw [rounds_succ]
  go_wp2_with fail
  obtain ⟨hi, lo, s, k, h, l, M, A, x, B, y⟩ := m6.out.out
  have M := Lib.hid M
  go_quiet (first | (go_at_call 241; refine Calls.quiet_of_same (M.out _)))
  simp only [drewN_alloc]
  rename_i nq
  have hd := drewN_base w5 w nq ⟨hs, hb⟩
  generalize World.drewN w5 nq = w6 at *
  clear hs hb
  obtain ⟨hs, hb⟩ := hd
  go_wp2_with fail
  clear A x B y
  rw [rounds_succ]
  go_wp2_with fail
  obtain ⟨hi, lo, s, k, h, l, M, A, x, B, y⟩ := m7.out.out
  have M := Lib.hid M
  go_quiet (first | (go_at_call 241; refine Calls.quiet_of_same (M.out _)))
  simp only [drewN_alloc]
  rename_i nq
  have hd := drewN_base w6 w nq ⟨hs, hb⟩
  generalize World.drewN w6 nq = w7 at *
  clear hs hb
  obtain ⟨hs, hb⟩ := hd
  go_wp2_with fail
  clear A x B y
  rw [rounds_succ]
  go_wp2_with fail
  obtain ⟨hi, lo, s, k, h, l, M, A, x, B, y⟩ := m8.out.out
  have M := Lib.hid M
  go_quiet (first | (go_at_call 241; refine Calls.quiet_of_same (M.out _)))
  simp only [drewN_alloc]
  rename_i nq
  have hd := drewN_base w7 w nq ⟨hs, hb⟩
  generalize World.drewN w7 nq = w8 at *
  clear hs hb
  obtain ⟨hs, hb⟩ := hd
  go_wp2_with fail
  clear A x B y
  rw [rounds_succ]
  have Z : IntKind.u64.wrap c8 = c8 := wrap_id _ g8.out.1 g8.out.2
  have Z' : IntKind.u64.wrap (0 + c8) = c8 := by rw [Int.zero_add]; exact Z
  go_wp2_with fail
  clear Z Z'
  rw [rounds_succ]
  go_wp2_with fail
  refine wp_loop_rounds 5 ?_
  rw [rounds_succ]
  go_wp2_with fail
  obtain ⟨hi, lo, s, k, h, l, M, A, x, B, y⟩ := m9.out.out
  have M := Lib.hid M
  go_quiet (first | (go_at_call 241; refine Calls.quiet_of_same (M.out _)))
  simp only [drewN_alloc]
  rename_i nq
  have hd := drewN_base w8 w nq ⟨hs, hb⟩
  generalize World.drewN w8 nq = w9 at *
  clear hs hb
  obtain ⟨hs, hb⟩ := hd
  go_wp2_with fail
  clear A x B y
  rw [rounds_succ]
  go_wp2_with fail
  obtain ⟨hi, lo, s, k, h, l, M, A, x, B, y⟩ := m10.out.out
  have M := Lib.hid M
  go_quiet (first | (go_at_call 241; refine Calls.quiet_of_same (M.out _)))
  simp only [drewN_alloc]
  rename_i nq
  have hd := drewN_base w9 w nq ⟨hs, hb⟩
  generalize World.drewN w9 nq = w10 at *
  clear hs hb
  obtain ⟨hs, hb⟩ := hd
  go_wp2_with fail
  clear A x B y
  rw [rounds_succ]
  go_wp2_with fail
  obtain ⟨hi, lo, s, k, h, l, M, A, x, B, y⟩ := m11.out.out
  have M := Lib.hid M
  go_quiet (first | (go_at_call 241; refine Calls.quiet_of_same (M.out _)))
  simp only [drewN_alloc]
  rename_i nq
  have hd := drewN_base w10 w nq ⟨hs, hb⟩
  generalize World.drewN w10 nq = w11 at *
  clear hs hb
  obtain ⟨hs, hb⟩ := hd
  go_wp2_with fail
  clear A x B y
  rw [rounds_succ]
  go_wp2_with fail
  obtain ⟨hi, lo, s, k, h, l, M, A, x, B, y⟩ := m12.out.out
  have M := Lib.hid M
  go_quiet (first | (go_at_call 241; refine Calls.quiet_of_same (M.out _)))
  simp only [drewN_alloc]
  rename_i nq
  have hd := drewN_base w11 w nq ⟨hs, hb⟩
  generalize World.drewN w11 nq = w12 at *
  clear hs hb
  obtain ⟨hs, hb⟩ := hd
  go_wp2_with fail
  clear A x B y
  rw [rounds_succ]
  have Z : IntKind.u64.wrap c12 = c12 := wrap_id _ g12.out.1 g12.out.2
  have Z' : IntKind.u64.wrap (0 + c12) = c12 := by rw [Int.zero_add]; exact Z
  go_wp2_with fail
  clear Z Z'
  rw [rounds_succ]
  go_wp2_with fail
  refine wp_loop_rounds 5 ?_
  rw [rounds_succ]
  go_wp2_with fail
  obtain ⟨hi, lo, s, k, h, l, M, A, x, B, y⟩ := m13.out.out
  have M := Lib.hid M
  go_quiet (first | (go_at_call 241; refine Calls.quiet_of_same (M.out _)))
  simp only [drewN_alloc]
  rename_i nq
  have hd := drewN_base w12 w nq ⟨hs, hb⟩
  generalize World.drewN w12 nq = w13 at *
  clear hs hb
  obtain ⟨hs, hb⟩ := hd
  go_wp2_with fail
  clear A x B y
  rw [rounds_succ]
  go_wp2_with fail
  obtain ⟨hi, lo, s, k, h, l, M, A, x, B, y⟩ := m14.out.out
  have M := Lib.hid M
  go_quiet (first | (go_at_call 241; refine Calls.quiet_of_same (M.out _)))
  simp only [drewN_alloc]
  rename_i nq
  have hd := drewN_base w13 w nq ⟨hs, hb⟩
  generalize World.drewN w13 nq = w14 at *
  clear hs hb
  obtain ⟨hs, hb⟩ := hd
  go_wp2_with fail
  clear A x B y
  rw [rounds_succ]
  go_wp2_with fail
  obtain ⟨hi, lo, s, k, h, l, M, A, x, B, y⟩ := m15.out.out
  have M := Lib.hid M
  go_quiet (first | (go_at_call 241; refine Calls.quiet_of_same (M.out _)))
  simp only [drewN_alloc]
  rename_i nq
  have hd := drewN_base w14 w nq ⟨hs, hb⟩
  generalize World.drewN w14 nq = w15 at *
  clear hs hb
  obtain ⟨hs, hb⟩ := hd
  go_wp2_with fail
  clear A x B y
  rw [rounds_succ]
  go_wp2_with fail
  obtain ⟨hi, lo, s, k, h, l, M, A, x, B, y⟩ := m16.out.out
  have M := Lib.hid M
  go_quiet (first | (go_at_call 241; refine Calls.quiet_of_same (M.out _)))
  simp only [drewN_alloc]
  rename_i nq
  have hd := drewN_base w15 w nq ⟨hs, hb⟩
  generalize World.drewN w15 nq = w16 at *
  clear hs hb
  obtain ⟨hs, hb⟩ := hd
  go_wp2_with fail
  clear A x B y
  rw [rounds_succ]
  have Z : IntKind.u64.wrap c16 = c16 := wrap_id _ g16.out.1 g16.out.2
  have Z' : IntKind.u64.wrap (0 + c16) = c16 := by rw [Int.zero_add]; exact Z
  go_wp2_with fail
  clear Z Z'
  rw [rounds_succ]
  have HA := array_at2
  go_wp2_with fail
  simp [bodyPost, results, Tryz.results239, go_sem, hs]
  exact ⟨rfl, (((hb.alloc (by rw [hs]; exact Nat.le_refl _) _).alloc (by simp [hs]) _).alloc (by simp [hs]; omega) _).alloc (by simp [hs]; omega) _⟩
theorem bmul_any (a b : Int) (ha : Big a) (hb : Big b) (w : World) : Calls Tryz.prog 239 #[bigV a, bigV b] w (GPost (bigV (a * b / 6277101735386680763835789423207666416102355444464034512896 % 115792089237316195423570985008687907853269984665640564039457584007913129639936)) w) := by
  obtain ⟨a0, a1, a2, a3, ⟨ha0, ha1, ha2, ha3⟩, rfl, ea⟩ := big_words ha
  obtain ⟨b0, b1, b2, b3, ⟨hb0, hb1, hb2, hb3⟩, rfl, eb⟩ := big_words hb
  rw [ea, eb]
  have hz : Word 0 := ⟨by omega, by omega⟩
  obtain ⟨p1, c1, u1, v1, e1, m1⟩ := mac2_ex a3 b3 0 0 ha3 hb3 hz hz
  obtain ⟨p2, c2, u2, v2, e2, m2⟩ := mac2_ex a3 b2 0 c1 ha3 hb2 hz v1
  obtain ⟨p3, c3, u3, v3, e3, m3⟩ := mac2_ex a3 b1 0 c2 ha3 hb1 hz v2
  obtain ⟨p4, c4, u4, v4, e4, m4⟩ := mac2_ex a3 b0 0 c3 ha3 hb0 hz v3
  obtain ⟨p5, c5, u5, v5, e5, m5⟩ := mac2_ex a2 b3 p2 0 ha2 hb3 u2 hz
  obtain ⟨p6, c6, u6, v6, e6, m6⟩ := mac2_ex a2 b2 p3 c5 ha2 hb2 u3 v5
  obtain ⟨p7, c7, u7, v7, e7, m7⟩ := mac2_ex a2 b1 p4 c6 ha2 hb1 u4 v6
  obtain ⟨p8, c8, u8, v8, e8, m8⟩ := mac2_ex a2 b0 c4 c7 ha2 hb0 v4 v7
  obtain ⟨p9, c9, u9, v9, e9, m9⟩ := mac2_ex a1 b3 p6 0 ha1 hb3 u6 hz
  obtain ⟨p10, c10, u10, v10, e10, m10⟩ := mac2_ex a1 b2 p7 c9 ha1 hb2 u7 v9
  obtain ⟨p11, c11, u11, v11, e11, m11⟩ := mac2_ex a1 b1 p8 c10 ha1 hb1 u8 v10
  obtain ⟨p12, c12, u12, v12, e12, m12⟩ := mac2_ex a1 b0 c8 c11 ha1 hb0 v8 v11
  obtain ⟨p13, c13, u13, v13, e13, m13⟩ := mac2_ex a0 b3 p10 0 ha0 hb3 u10 hz
  obtain ⟨p14, c14, u14, v14, e14, m14⟩ := mac2_ex a0 b2 p11 c13 ha0 hb2 u11 v13
  obtain ⟨p15, c15, u15, v15, e15, m15⟩ := mac2_ex a0 b1 p12 c14 ha0 hb1 u12 v14
  obtain ⟨p16, c16, u16, v16, e16, m16⟩ := mac2_ex a0 b0 c12 c15 ha0 hb0 v12 v15
  have HM := bmul_walk a0 a1 a2 a3 b0 b1 b2 b3 p1 c1 p2 c2 p3 c3 p4 c4 p5 c5 p6 c6 p7 c7 p8 c8 p9 c9 p10 c10 p11 c11 p12 c12 p13 c13 p14 c14 p15 c15 p16 c16 m1 m2 m3 m4 m5 m6 m7 m8 m9 m10 m11 m12 m13 m14 m15 m16 v4 v8 v12 v16 w
  clear m1 m2 m3 m4 m5 m6 m7 m8 m9 m10 m11 m12 m13 m14 m15 m16
  have hsum : num a0 a1 a2 a3 * num b0 b1 b2 b3 = c16 * 726838724295606890549323807888004534353641360687318060281490199180639288113397923326191050713763565560762521606266177933534601628614656 + p16 * 39402006196394479212279040100143613805079739270465446667948293404245721771497210611414266254884915640806627990306816 + p15 * 2135987035920910082395021706169552114602704522356652769947041607822219725780640550022962086936576 + p14 * 115792089237316195423570985008687907853269984665640564039457584007913129639936 + p13 * 6277101735386680763835789423207666416102355444464034512896 + p9 * 340282366920938463463374607431768211456 + p5 * 18446744073709551616 + p1 := by
    have hex : num a0 a1 a2 a3 * num b0 b1 b2 b3 = a0 * b0 * 39402006196394479212279040100143613805079739270465446667948293404245721771497210611414266254884915640806627990306816 + a0 * b1 * 2135987035920910082395021706169552114602704522356652769947041607822219725780640550022962086936576 + a0 * b2 * 115792089237316195423570985008687907853269984665640564039457584007913129639936 + a0 * b3 * 6277101735386680763835789423207666416102355444464034512896 + a1 * b0 * 2135987035920910082395021706169552114602704522356652769947041607822219725780640550022962086936576 + a1 * b1 * 115792089237316195423570985008687907853269984665640564039457584007913129639936 + a1 * b2 * 6277101735386680763835789423207666416102355444464034512896 + a1 * b3 * 340282366920938463463374607431768211456 + a2 * b0 * 115792089237316195423570985008687907853269984665640564039457584007913129639936 + a2 * b1 * 6277101735386680763835789423207666416102355444464034512896 + a2 * b2 * 340282366920938463463374607431768211456 + a2 * b3 * 18446744073709551616 + a3 * b0 * 6277101735386680763835789423207666416102355444464034512896 + a3 * b1 * 340282366920938463463374607431768211456 + a3 * b2 * 18446744073709551616 + a3 * b3 * 1 := by unfold num; grind
    rw [hex]
    clear hex HM ea eb ha hb hz ha0 ha1 ha2 ha3 hb0 hb1 hb2 hb3 u1 v1 u2 v2 u3 v3 u4 v4 u5 v5 u6 v6 u7 v7 u8 v8 u9 v9 u10 v10 u11 v11 u12 v12 u13 v13 u14 v14 u15 v15 u16 v16
    generalize a0 * b0 = P00 at *
    generalize a0 * b1 = P01 at *
    generalize a0 * b2 = P02 at *
    generalize a0 * b3 = P03 at *
    generalize a1 * b0 = P10 at *
    generalize a1 * b1 = P11 at *
    generalize a1 * b2 = P12 at *
    generalize a1 * b3 = P13 at *
    generalize a2 * b0 = P20 at *
    generalize a2 * b1 = P21 at *
    generalize a2 * b2 = P22 at *
    generalize a2 * b3 = P23 at *
    generalize a3 * b0 = P30 at *
    generalize a3 * b1 = P31 at *
    generalize a3 * b2 = P32 at *
    generalize a3 * b3 = P33 at *
    omega
  have hs : num a0 a1 a2 a3 * num b0 b1 b2 b3 / 6277101735386680763835789423207666416102355444464034512896 % 115792089237316195423570985008687907853269984665640564039457584007913129639936 = num p16 p15 p14 p13 := by
    rw [hsum]
    obtain ⟨_, _⟩ := v16
    obtain ⟨_, _⟩ := u16
    obtain ⟨_, _⟩ := u15
    obtain ⟨_, _⟩ := u14
    obtain ⟨_, _⟩ := u13
    obtain ⟨_, _⟩ := u9
    obtain ⟨_, _⟩ := u5
    obtain ⟨_, _⟩ := u1
    clear HM ea eb ha hb hz ha0 ha1 ha2 ha3 hb0 hb1 hb2 hb3 hsum e1 e2 e3 e4 e5 e6 e7 e8 e9 e10 e11 e12 e13 e14 e15 e16
    unfold num
    omega
  rw [hs, big_num ⟨u16, u15, u14, u13⟩]
  exact HM
end Go.Proofs.YtmididlfnajhiaaGreatDoor
namespace Go.Proofs.YtmididlfnajhiaaGreatDoor
open Go.RowKit
def Blk (w : World) (b : Nat) (a0 a1 a2 a3 : Int) : Prop := w.heap[b]? = some (.cells #[.int .u64 a0, .int .u64 a1, .int .u64 a2, .int .u64 a3] 175 (0, 0))
theorem Blk.lt {w : World} {b : Nat} {a0 a1 a2 a3 : Int} (h : Blk w b a0 a1 a2 a3) : b < w.heap.size := by
  unfold Blk at h
  exact (Array.getElem?_eq_some_iff.1 h).1
theorem blk_below {w w' : World} {b : Nat} {a0 a1 a2 a3 : Int} (hb : Below w.heap.size w w') (h : Blk w b a0 a1 a2 a3) : Blk w' b a0 a1 a2 a3 := (hb.block b h.lt).trans h
theorem Blk.alloc {w : World} {b : Nat} {a0 a1 a2 a3 : Int} (h : Blk w b a0 a1 a2 a3) (o : Obj) : Blk (w.alloc o) b a0 a1 a2 a3 := blk_below ((Below.refl _ _).alloc (Nat.le_refl _) _) h
theorem Blk.write {w : World} {b : Nat} {a0 a1 a2 a3 : Int} (h : Blk w b a0 a1 a2 a3) (v0 v1 v2 v3 : Int) :
    Blk ((((w.setCell ⟨b, 0, none⟩ (.int .u64 v0)).setCell ⟨b, 1, none⟩ (.int .u64 v1)).setCell ⟨b, 2, none⟩ (.int .u64 v2)).setCell ⟨b, 3, none⟩ (.int .u64 v3)) b v0 v1 v2 v3 := by
  unfold Blk at *
  simp [World.setCell, h, Array.getElem?_modify]
theorem Blk.other {w : World} {b b' : Nat} {a0 a1 a2 a3 : Int} (h : Blk w b a0 a1 a2 a3) (hb : b ≠ b') (v0 v1 v2 v3 : Value) :
    Blk ((((w.setCell ⟨b', 0, none⟩ v0).setCell ⟨b', 1, none⟩ v1).setCell ⟨b', 2, none⟩ v2).setCell ⟨b', 3, none⟩ v3) b a0 a1 a2 a3 := by
  unfold Blk at *
  have hb' : b' ≠ b := fun e => hb e.symm
  simp [World.setCell, h, Array.getElem?_modify, hb']
theorem keepB {w : World} {b : Nat} {a0 a1 a2 a3 : Int} (h : Blk w b a0 a1 a2 a3) :
    (w.cell? ⟨b, 0, none⟩ = some (.int .u64 a0) ∧ w.cell? ⟨b, 1, none⟩ = some (.int .u64 a1) ∧ w.cell? ⟨b, 2, none⟩ = some (.int .u64 a2) ∧ w.cell? ⟨b, 3, none⟩ = some (.int .u64 a3)) ∧
    w.frozen? ⟨b, 0, none⟩ = false ∧ w.frozen? ⟨b, 1, none⟩ = false ∧ w.frozen? ⟨b, 2, none⟩ = false ∧ w.frozen? ⟨b, 3, none⟩ = false := by
  unfold Blk at h
  refine ⟨⟨?_, ?_, ?_, ?_⟩, ?_, ?_, ?_, ?_⟩ <;> simp [World.cell?, World.frozen?, h]
theorem pi_any (w : World) : Calls Tryz.prog 237 #[] w (GPost (bigV 19720096697726538562396133364228268891463450865190089732560) w) := by
  have e : bigV 19720096697726538562396133364228268891463450865190089732560 = numD 3 2611923443488327891 1376283091369227076 11820040416388919760 := by unfold bigV; simp
  rw [e]
  have HB := Lib.hid ((Below.refl w.heap.size w).alloc (Nat.le_refl _) (.cells #[.int .u64 3, .int .u64 2611923443488327891, .int .u64 1376283091369227076, .int .u64 11820040416388919760] 175))
  unfold numD
  go_enter Tryz.func237, Tryz.ntmps237
  go_wp2
  refine bodyPost_ret (v := numD 3 2611923443488327891 1376283091369227076 11820040416388919760) (by simp [results, Tryz.results237, go_sem, numD]) rfl ⟨rfl, HB.out⟩
theorem eq73 (a b c d e f g h : Int) (w : World) : (Op.equalIn 10000 175 (.agg #[.int .u64 a, .int .u64 b, .int .u64 c, .int .u64 d]) (.agg #[.int .u64 e, .int .u64 f, .int .u64 g, .int .u64 h])).run Tryz.prog w = .ok (a == e && (b == f && (c == g && d == h))) w := by
  have u3 := Tryz.underlying165
  have a3 := Tryz.isAgg165
  have z3 := Tryz.sizeOf165
  rw [show (10000 : Nat) = 9999 + 1 from rfl, Op.equalIn]
  simp only [Sem.run_bind, run_underlying Tryz.underlying175, Result.andThen_ok]
  simp only [Std.Legacy.Range.forIn_eq_forIn_range', Std.Legacy.Range.size, Nat.sub_zero, Nat.add_sub_cancel, Nat.div_one, List.range'_succ, List.range'_zero, List.forIn_cons, List.forIn_nil]
  go_simp
  by_cases h1 : a = e <;> by_cases h2 : b = f <;> by_cases h3 : c = g <;> by_cases h4 : d = h <;> simp [h1, h2, h3, h4]
end Go.Proofs.YtmididlfnajhiaaGreatDoor
namespace Go.Proofs.YtmididlfnajhiaaGreatDoor
open Go.RowKit
def serT (term sq n : Nat) : Nat := (term * sq / 6277101735386680763835789423207666416102355444464034512896 % 115792089237316195423570985008687907853269984665640564039457584007913129639936) / ((n + 1) * (n + 2))
def serS (minus : Bool) (sum term : Nat) : Nat := if minus then (sum + 115792089237316195423570985008687907853269984665640564039457584007913129639936 - term) % 115792089237316195423570985008687907853269984665640564039457584007913129639936 else (sum + term) % 115792089237316195423570985008687907853269984665640564039457584007913129639936
def serN : Nat → Bool → Nat → Nat → Nat → Nat → Nat
  | 0, _, sum, _, _, _ => sum
  | f + 1, minus, sum, term, sq, n => if term = 0 then sum else serN f (!minus) (serS minus sum (serT term sq n)) (serT term sq n) sq (n + 2)
def BlkV (w : World) (b : Nat) (V : Nat) : Prop := ∃ a0 a1 a2 a3 : Int, (Word a0 ∧ Word a1 ∧ Word a2 ∧ Word a3) ∧ num a0 a1 a2 a3 = (V : Int) ∧ bigV (V : Int) = numD a0 a1 a2 a3 ∧ Blk w b a0 a1 a2 a3
def SRel (w : World) (b7 b8 : Nat) (F Q n R : Nat) (v2 v9 : Value) (wr : World) : Prop :=
  ∃ (j : Nat) (m : Bool) (S T : Nat), v2 = .int .u64 ((n + 2 * j : Nat) : Int) ∧ v9 = .bool m ∧ BlkV wr b7 S ∧ BlkV wr b8 T ∧ BlkV wr (w.heap.size + 1) Q ∧ Blk wr (w.heap.size + 1 + 1) 0 0 0 0 ∧ T * 2 ^ j ≤ F ∧ j ≤ 200 ∧ serN (300 - j) m S T Q (n + 2 * j) = R ∧ Below w.heap.size w wr
theorem serT_le (T Q n : Nat) (hQ : Q ≤ 6277101735386680763835789423207666416102355444464034512896) : 2 * serT T Q n ≤ T := by
  unfold serT
  have h1 : T * Q / 6277101735386680763835789423207666416102355444464034512896 ≤ T := by
    have : T * Q ≤ T * 6277101735386680763835789423207666416102355444464034512896 := Nat.mul_le_mul_left _ hQ
    exact Nat.div_le_of_le_mul (by rw [Nat.mul_comm _ T]; exact this)
  have h2 := Nat.mod_le (T * Q / 6277101735386680763835789423207666416102355444464034512896) 115792089237316195423570985008687907853269984665640564039457584007913129639936
  generalize T * Q / 6277101735386680763835789423207666416102355444464034512896 % 115792089237316195423570985008687907853269984665640564039457584007913129639936 = P at *
  have h3 : 1 * 2 ≤ (n + 1) * (n + 2) := Nat.mul_le_mul (by omega) (by omega)
  have h4 := Nat.div_mul_le_self P ((n + 1) * (n + 2))
  have h5 : P / ((n + 1) * (n + 2)) * (1 * 2) ≤ P / ((n + 1) * (n + 2)) * ((n + 1) * (n + 2)) := Nat.mul_le_mul_left _ h3
  omega
set_option maxRecDepth 100000 in
set_option maxHeartbeats 3000000 in
theorem series_any (F Q n : Nat) (hF : F < 1606938044258990275541962092341162602522202993782792835301376) (hQ : Q ≤ 6277101735386680763835789423207666416102355444464034512896) (hn : n ≤ 1) (w : World) :
    Calls Tryz.prog 240 #[bigV (F : Int), bigV (Q : Int), .int .u64 (n : Int)] w (GPost (bigV (serN 300 true F F Q n : Int)) w) := by
  obtain ⟨R, hR⟩ : ∃ R, R = serN 300 true F F Q n := ⟨_, rfl⟩
  rw [← hR]
  obtain ⟨f0, f1, f2, f3, wf, nf, ef⟩ := big_words (V := (F : Int)) ⟨by omega, by omega⟩
  obtain ⟨q0, q1, q2, q3, wq, nq, eq⟩ := big_words (V := (Q : Int)) ⟨by omega, by omega⟩
  have HI : ∀ p7 p8 b7 b8, (p7 = Value.pointer (some ⟨b7, 0, none⟩) ∧ p8 = Value.pointer (some ⟨b8, 0, none⟩)) → ((b7 = w.heap.size + 1 + 1 + 1 ∧ b8 = w.heap.size + 1 + 1 + 1 + 1) ∨ (b8 = w.heap.size + 1 + 1 + 1 ∧ b7 = w.heap.size + 1 + 1 + 1 + 1)) →
      ∃ c7 c8 : Nat, p7 = Value.pointer (some ⟨c7, 0, none⟩) ∧ p8 = Value.pointer (some ⟨c8, 0, none⟩) ∧ c7 ≠ c8 ∧ w.heap.size + 2 < c7 ∧ w.heap.size + 2 < c8 ∧
      SRel w c7 c8 F Q n R (.int .u64 (n : Int)) (.bool true) ((((((w.alloc (.cells #[.int .u64 f0, .int .u64 f1, .int .u64 f2, .int .u64 f3] 175)).alloc (.cells #[.int .u64 q0, .int .u64 q1, .int .u64 q2, .int .u64 q3] 175)).alloc (.cells #[.int .u64 0, .int .u64 0, .int .u64 0, .int .u64 0] 175)).alloc (.cells #[.int .u64 f0, .int .u64 f1, .int .u64 f2, .int .u64 f3] 175)).alloc (.cells #[.int .u64 f0, .int .u64 f1, .int .u64 f2, .int .u64 f3] 175)).drew) := by
    intro p7 p8 b7 b8 ⟨e7, e8⟩ hb
    have A3 := heap_alloc_new (((w.alloc (.cells #[.int .u64 f0, .int .u64 f1, .int .u64 f2, .int .u64 f3] 175)).alloc (.cells #[.int .u64 q0, .int .u64 q1, .int .u64 q2, .int .u64 q3] 175)).alloc (.cells #[.int .u64 0, .int .u64 0, .int .u64 0, .int .u64 0] 175)) (.cells #[.int .u64 f0, .int .u64 f1, .int .u64 f2, .int .u64 f3] 175)
    have A4 := heap_alloc_new ((((w.alloc (.cells #[.int .u64 f0, .int .u64 f1, .int .u64 f2, .int .u64 f3] 175)).alloc (.cells #[.int .u64 q0, .int .u64 q1, .int .u64 q2, .int .u64 q3] 175)).alloc (.cells #[.int .u64 0, .int .u64 0, .int .u64 0, .int .u64 0] 175)).alloc (.cells #[.int .u64 f0, .int .u64 f1, .int .u64 f2, .int .u64 f3] 175)) (.cells #[.int .u64 f0, .int .u64 f1, .int .u64 f2, .int .u64 f3] 175)
    have A2 := heap_alloc_new ((w.alloc (.cells #[.int .u64 f0, .int .u64 f1, .int .u64 f2, .int .u64 f3] 175)).alloc (.cells #[.int .u64 q0, .int .u64 q1, .int .u64 q2, .int .u64 q3] 175)) (.cells #[.int .u64 0, .int .u64 0, .int .u64 0, .int .u64 0] 175)
    have A1 := heap_alloc_new (w.alloc (.cells #[.int .u64 f0, .int .u64 f1, .int .u64 f2, .int .u64 f3] 175)) (.cells #[.int .u64 q0, .int .u64 q1, .int .u64 q2, .int .u64 q3] 175)
    have HB : Below w.heap.size w (((((w.alloc (.cells #[.int .u64 f0, .int .u64 f1, .int .u64 f2, .int .u64 f3] 175)).alloc (.cells #[.int .u64 q0, .int .u64 q1, .int .u64 q2, .int .u64 q3] 175)).alloc (.cells #[.int .u64 0, .int .u64 0, .int .u64 0, .int .u64 0] 175)).alloc (.cells #[.int .u64 f0, .int .u64 f1, .int .u64 f2, .int .u64 f3] 175)).alloc (.cells #[.int .u64 f0, .int .u64 f1, .int .u64 f2, .int .u64 f3] 175)) :=
      (((((Below.refl _ _).alloc (Nat.le_refl _) _).alloc (by simp) _).alloc (by simp; omega) _).alloc (by simp; omega) _).alloc (by simp; omega) _
    have B3 := (show Blk _ _ f0 f1 f2 f3 from A3).alloc (.cells #[.int .u64 f0, .int .u64 f1, .int .u64 f2, .int .u64 f3] 175)
    have B4 := (show Blk _ _ f0 f1 f2 f3 from A4)
    have B2 := ((show Blk _ _ 0 0 0 0 from A2).alloc (.cells #[.int .u64 f0, .int .u64 f1, .int .u64 f2, .int .u64 f3] 175)).alloc (.cells #[.int .u64 f0, .int .u64 f1, .int .u64 f2, .int .u64 f3] 175)
    have B1 := (((show Blk _ _ q0 q1 q2 q3 from A1).alloc (.cells #[.int .u64 0, .int .u64 0, .int .u64 0, .int .u64 0] 175)).alloc (.cells #[.int .u64 f0, .int .u64 f1, .int .u64 f2, .int .u64 f3] 175)).alloc (.cells #[.int .u64 f0, .int .u64 f1, .int .u64 f2, .int .u64 f3] 175)
    have s1 : (w.alloc (.cells #[.int .u64 f0, .int .u64 f1, .int .u64 f2, .int .u64 f3] 175)).heap.size = w.heap.size + 1 := by simp
    have s2 : ((w.alloc (.cells #[.int .u64 f0, .int .u64 f1, .int .u64 f2, .int .u64 f3] 175)).alloc (.cells #[.int .u64 q0, .int .u64 q1, .int .u64 q2, .int .u64 q3] 175)).heap.size = w.heap.size + 1 + 1 := by simp
    have s3 : (((w.alloc (.cells #[.int .u64 f0, .int .u64 f1, .int .u64 f2, .int .u64 f3] 175)).alloc (.cells #[.int .u64 q0, .int .u64 q1, .int .u64 q2, .int .u64 q3] 175)).alloc (.cells #[.int .u64 0, .int .u64 0, .int .u64 0, .int .u64 0] 175)).heap.size = w.heap.size + 1 + 1 + 1 := by simp
    have s4 : ((((w.alloc (.cells #[.int .u64 f0, .int .u64 f1, .int .u64 f2, .int .u64 f3] 175)).alloc (.cells #[.int .u64 q0, .int .u64 q1, .int .u64 q2, .int .u64 q3] 175)).alloc (.cells #[.int .u64 0, .int .u64 0, .int .u64 0, .int .u64 0] 175)).alloc (.cells #[.int .u64 f0, .int .u64 f1, .int .u64 f2, .int .u64 f3] 175)).heap.size = w.heap.size + 1 + 1 + 1 + 1 := by simp
    rw [s1] at B1
    rw [s2] at B2
    rw [s3] at B3
    rw [s4] at B4
    have hR' : serN (300 - 0) true F F Q (n + 2 * 0) = R := hR.symm
    rcases hb with ⟨h7, h8⟩ | ⟨h8, h7⟩
    · exact ⟨b7, b8, e7, e8, by omega, by omega, by omega, 0, true, F, F, rfl, rfl, ⟨_, _, _, _, wf, nf, ef, by rw [h7]; exact B3⟩, ⟨_, _, _, _, wf, nf, ef, by rw [h8]; exact B4⟩, ⟨_, _, _, _, wq, nq, eq, B1⟩, B2, by simp, by omega, hR', HB.drew⟩
    · exact ⟨b7, b8, e7, e8, by omega, by omega, by omega, 0, true, F, F, rfl, rfl, ⟨_, _, _, _, wf, nf, ef, by rw [h7]; exact B4⟩, ⟨_, _, _, _, wf, nf, ef, by rw [h8]; exact B3⟩, ⟨_, _, _, _, wq, nq, eq, B1⟩, B2, by simp, by omega, hR', HB.drew⟩
  rw [ef, eq]
  have HI := Lib.hid HI
  unfold numD
  go_enter Tryz.func240, Tryz.ntmps240
  go_upto_region 1 with fail
  go_cut [7, 8] from 10 to 11 (fun p7 p8 wx => ∃ c7 c8 : Nat, p7 = Value.pointer (some ⟨c7, 0, none⟩) ∧ p8 = Value.pointer (some ⟨c8, 0, none⟩) ∧ c7 ≠ c8 ∧ w.heap.size + 2 < c7 ∧ w.heap.size + 2 < c8 ∧ SRel w c7 c8 F Q n R (.int .u64 (n : Int)) (.bool true) wx)
  case first =>
    go_region_with fail
    all_goals (
      go_wp2_with fail
      go_meet
      first
        | exact HI.out _ _ _ _ ⟨rfl, rfl⟩ (.inl ⟨rfl, rfl⟩)
        | exact HI.out _ _ _ _ ⟨rfl, rfl⟩ (.inr ⟨rfl, rfl⟩))
  case rest =>
    obtain ⟨b7, b8, rfl, rfl, h78, h7, h8, hcut⟩ := hcut
    have HC := Lib.hid hcut
    clear hcut HI hR wf nf ef wq nq eq
    go_wp2_with fail
    go_loopw [2, 9] (fun a m wr => SRel w b7 b8 F Q n R a m wr) (fun a _ _ => 1000 - uOf a)
    case atStart => exact HC.out
    case round =>
      clear HC
      obtain ⟨j, m, S, T, rfl, rfl, ⟨s0, s1, s2, s3, ws, ns, es, kS⟩, ⟨t0, t1, t2, t3, wt, nt, et, kT⟩, ⟨q0, q1, q2, q3, wq, nq, eq, kQ⟩, kZ, hT, hj, hs, hb⟩ := hrel
      have l7 := kS.lt
      have l8 := kT.lt
      obtain ⟨⟨a0, a1, a2, a3⟩, a4, a5, a6, a7⟩ := keepB kS
      obtain ⟨⟨b0, b1, b2, b3⟩, b4, b5, b6, b7'⟩ := keepB kT
      obtain ⟨⟨c0, c1, c2, c3⟩, c4, c5, c6, c7⟩ := keepB kQ
      obtain ⟨⟨d0, d1, d2, d3⟩, d4, d5, d6, d7⟩ := keepB kZ
      have HB := Lib.hid hb
      have KS := Lib.hid kS
      have KT := Lib.hid kT
      have KQ := Lib.hid kQ
      have KZ := Lib.hid kZ
      have HS := Lib.hid hs
      have WS := Lib.hid ws
      have WT := Lib.hid wt
      have WQ := Lib.hid wq
      have NS := Lib.hid ns
      have NT := Lib.hid nt
      have NQ := Lib.hid nq
      have ES := Lib.hid es
      have ET := Lib.hid et
      have EQ := Lib.hid eq
      clear hb kS kT kQ kZ hs ws wt wq ns nt nq es et eq
      rcases Nat.eq_zero_or_pos T with hz | hz
      · subst hz
        have hw : t0 = 0 ∧ t1 = 0 ∧ t2 = 0 ∧ t3 = 0 := by
          have e := NT.out
          obtain ⟨⟨_, _⟩, ⟨_, _⟩, ⟨_, _⟩, ⟨_, _⟩⟩ := WT.out
          unfold num at e
          omega
        obtain ⟨rfl, rfl, rfl, rfl⟩ := hw
        have hRS : R = S := by
          have h := HS.out
          obtain ⟨f, hf⟩ : ∃ f, 300 - j = f + 1 := ⟨299 - j, by omega⟩
          rw [hf, serN, if_pos rfl] at h
          exact h.symm
        have KF := KZ.out.write s0 s1 s2 s3
        obtain ⟨⟨r0, r1, r2, r3⟩, r4, r5, r6, r7⟩ := keepB KF
        have HF := Lib.hid ((((HB.out.setCell (p := ⟨w.heap.size + 1 + 1, 0, none⟩) (by simp; omega) (.int .u64 s0)).setCell (p := ⟨w.heap.size + 1 + 1, 1, none⟩) (by simp; omega) (.int .u64 s1)).setCell (p := ⟨w.heap.size + 1 + 1, 2, none⟩) (by simp; omega) (.int .u64 s2)).setCell (p := ⟨w.heap.size + 1 + 1, 3, none⟩) (by simp; omega) (.int .u64 s3))
        have HRS := Lib.hid hRS
        have HE : ∀ wr : World, (Op.equalIn 10000 175 (.agg #[.int .u64 0, .int .u64 0, .int .u64 0, .int .u64 0]) (.agg #[.int .u64 0, .int .u64 0, .int .u64 0, .int .u64 0])).run Tryz.prog wr = .ok true wr := fun wr => eq73 _ _ _ _ _ _ _ _ wr
        clear KF hRS hT
        go_wp2
        refine bodyPost_ret (v := bigV (R : Int)) (by rw [HRS.out, ES.out]; simp [results, Tryz.results240, go_sem, numD, r0, r1, r2, r3]) rfl ⟨rfl, HF.out⟩
      · have hj2 : j < 200 := by
          rcases Nat.lt_or_ge j 200 with h | h
          · exact h
          · exfalso
            have h1 : 2 ^ 200 ≤ 2 ^ j := Nat.pow_le_pow_right (by omega) h
            have h2 : 1 * 2 ^ j ≤ T * 2 ^ j := Nat.mul_le_mul_right _ hz
            have h3 : (2 : Nat) ^ 200 = 1606938044258990275541962092341162602522202993782792835301376 := by decide
            omega
        have hne : (t0 == 0 && (t1 == 0 && (t2 == 0 && t3 == 0))) = false := by
          cases h : (t0 == 0 && (t1 == 0 && (t2 == 0 && t3 == 0)))
          · rfl
          · exfalso
            simp only [Bool.and_eq_true, beq_iff_eq] at h
            obtain ⟨rfl, rfl, rfl, rfl⟩ := h
            have e := NT.out
            unfold num at e
            omega
        have HE : ∀ wr : World, (Op.equalIn 10000 175 (.agg #[.int .u64 t0, .int .u64 t1, .int .u64 t2, .int .u64 t3]) (.agg #[.int .u64 0, .int .u64 0, .int .u64 0, .int .u64 0])).run Tryz.prog wr = .ok false wr := fun wr => by rw [eq73, hne]
        generalize hN : n + 2 * j = N at *
        have hNb : N ≤ 500 := by omega
        have hT200 : T < 1606938044258990275541962092341162602522202993782792835301376 := by
          have : T * 1 ≤ T * 2 ^ j := Nat.mul_le_mul_left _ (Nat.one_le_two_pow)
          omega
        have hS256 : S < 115792089237316195423570985008687907853269984665640564039457584007913129639936 := by
          have := num_bd _ _ _ _ WS.out
          have e := NS.out
          omega
        have hU := serT_le T Q N hQ
        have C81 := bmul_any (T : Int) (Q : Int) ⟨by omega, by omega⟩ ⟨by omega, by omega⟩
        obtain ⟨m0, m1, m2, m3, wm, nm, em⟩ := big_words (V := ((T * Q / 6277101735386680763835789423207666416102355444464034512896 % 115792089237316195423570985008687907853269984665640564039457584007913129639936 : Nat) : Int)) ⟨by omega, by omega⟩
        have hM : ((T : Int) * (Q : Int) / 6277101735386680763835789423207666416102355444464034512896 % 115792089237316195423570985008687907853269984665640564039457584007913129639936) = ((T * Q / 6277101735386680763835789423207666416102355444464034512896 % 115792089237316195423570985008687907853269984665640564039457584007913129639936 : Nat) : Int) := by rw [Int.natCast_emod, Int.natCast_ediv, Int.natCast_mul]; rfl
        rw [ET.out, EQ.out, hM, em] at C81
        have hd1 : 2 ≤ (N + 1) * (N + 2) := Nat.mul_le_mul (show 1 ≤ N + 1 by omega) (show 2 ≤ N + 2 by omega)
        have hd2 : (N + 1) * (N + 2) ≤ 501 * 502 := Nat.mul_le_mul (by omega) (by omega)
        have C80 := bover_any ((T * Q / 6277101735386680763835789423207666416102355444464034512896 % 115792089237316195423570985008687907853269984665640564039457584007913129639936 : Nat) : Int) (((N + 1) * (N + 2) : Nat) : Int) ⟨by omega, by omega⟩ (by omega) (by omega)
        obtain ⟨u0, u1, u2, u3, wu, nu, eu⟩ := big_words (V := (serT T Q N : Int)) ⟨by omega, by omega⟩
        have hUd : (((T * Q / 6277101735386680763835789423207666416102355444464034512896 % 115792089237316195423570985008687907853269984665640564039457584007913129639936 : Nat) : Int) / (((N + 1) * (N + 2) : Nat) : Int)) = (serT T Q N : Int) := by unfold serT; rw [Int.natCast_ediv]
        rw [em, hUd, eu] at C80
        have hRec : serN (300 - (j + 1)) (!m) (serS m S (serT T Q N)) (serT T Q N) Q (n + 2 * (j + 1)) = R := by
          have h := HS.out
          obtain ⟨f, hf⟩ : ∃ f, 300 - j = f + 1 := ⟨299 - j, by omega⟩
          rw [hf, serN, if_neg (by omega)] at h
          rw [show 300 - (j + 1) = f by omega, show n + 2 * (j + 1) = N + 2 by omega]
          exact h
        have hT' : serT T Q N * 2 ^ (j + 1) ≤ F := by
          have : serT T Q N * 2 * 2 ^ j ≤ T * 2 ^ j := Nat.mul_le_mul_right _ (by omega)
          rw [Nat.pow_succ, Nat.mul_comm (2 ^ j) 2, ← Nat.mul_assoc]
          omega
        obtain ⟨v0, v1, v2, v3, wv, nv, ev⟩ := big_words (V := (serS m S (serT T Q N) : Int)) ⟨by omega, by unfold serS; split <;> omega⟩
        have hDD : (((N + 1) * (N + 2) : Nat) : Int) = ((N : Int) + 1) * ((N : Int) + 2) := by push_cast; rfl
        have W1 : IntKind.u64.wrap ((N : Int) + 1) = (N : Int) + 1 := wrap_id _ (by omega) (by omega)
        have W2 : IntKind.u64.wrap ((N : Int) + 2) = (N : Int) + 2 := wrap_id _ (by omega) (by omega)
        have W3 : IntKind.u64.wrap (((N : Int) + 1) * ((N : Int) + 2)) = ((N : Int) + 1) * ((N : Int) + 2) := by rw [← hDD]; exact wrap_id _ (by omega) (by omega)
        rw [hDD] at C80
        have hAdd : ∀ w, m = false → Calls Tryz.prog 263 #[numD s0 s1 s2 s3, numD u0 u1 u2 u3] w (GPost (numD v0 v1 v2 v3) w) := fun w hm => by
          have h := badd_any (S : Int) (serT T Q N : Int) ⟨by omega, by omega⟩ ⟨by omega, by omega⟩ w
          have e : ((S : Int) + (serT T Q N : Int)) % 115792089237316195423570985008687907853269984665640564039457584007913129639936 = (serS m S (serT T Q N) : Int) := by
            subst hm; unfold serS; rw [if_neg (by simp), Int.natCast_emod, Int.natCast_add]; rfl
          rw [ES.out, eu, e, ev] at h
          exact h
        have hSub : ∀ w, m = true → Calls Tryz.prog 262 #[numD s0 s1 s2 s3, numD u0 u1 u2 u3] w (GPost (numD v0 v1 v2 v3) w) := fun w hm => by
          have h := bsub_any (S : Int) (serT T Q N : Int) ⟨by omega, by omega⟩ ⟨by omega, by omega⟩ w
          have e : ((S : Int) - (serT T Q N : Int)) % 115792089237316195423570985008687907853269984665640564039457584007913129639936 = (serS m S (serT T Q N) : Int) := by
            subst hm; unfold serS; rw [if_pos rfl]; omega
          rw [ES.out, eu, e, ev] at h
          exact h
        have C81 := Lib.hid C81
        have C80 := Lib.hid C80
        have hAdd := Lib.hid hAdd
        have hSub := Lib.hid hSub
        have hRec := Lib.hid hRec
        have hT' := Lib.hid hT'
        have wu := Lib.hid wu
        have wv := Lib.hid wv
        have nu := Lib.hid nu
        have nv := Lib.hid nv
        have eu := Lib.hid eu
        have ev := Lib.hid ev
        have hN2 := Lib.hid (show (N : Int) + 2 = ((n + 2 * (j + 1) : Nat) : Int) by omega)
        have hN := Lib.hid hN
        clear hU hM hd1 hd2 hUd hDD wm nm em hne hT hT200 hS256 hF hQ
        generalize serS m S (serT T Q N) = S' at *
        generalize serT T Q N = T' at *
        unfold numD at C81 C80 hAdd hSub
        go_wp2_with fail
        refine (C81.out _).mono ?_
        rintro e w1 ⟨rfl, hb⟩
        have KS := Lib.hid (blk_below hb KS.out)
        have KT := Lib.hid (blk_below hb KT.out)
        have KQ := Lib.hid (blk_below hb KQ.out)
        have KZ := Lib.hid (blk_below hb KZ.out)
        have HB := Lib.hid (HB.out.trans (hb.mono HB.out.size))
        clear hb
        go_wp2_with fail
        refine (C80.out _).mono ?_
        rintro e w2 ⟨rfl, hb⟩
        have kT := blk_below hb KT.out
        have l9 := kT.lt
        obtain ⟨⟨g0, g1, g2, g3⟩, g4, g5, g6, g7⟩ := keepB kT
        have kS := (blk_below hb KS.out).other h78 (.int .u64 u0) (.int .u64 u1) (.int .u64 u2) (.int .u64 u3)
        have l6 := kS.lt
        obtain ⟨⟨i0, i1, i2, i3⟩, i4, i5, i6, i7⟩ := keepB kS
        have kU := kT.write u0 u1 u2 u3
        obtain ⟨⟨p0, p1, p2, p3⟩, p4, p5, p6, p7⟩ := keepB kU
        have KQ := Lib.hid ((blk_below hb KQ.out).other (b' := b8) (by omega) (.int .u64 u0) (.int .u64 u1) (.int .u64 u2) (.int .u64 u3))
        have KZ := Lib.hid ((blk_below hb KZ.out).other (b' := b8) (by omega) (.int .u64 u0) (.int .u64 u1) (.int .u64 u2) (.int .u64 u3))
        have HB := Lib.hid (((((HB.out.trans (hb.mono HB.out.size)).setCell (p := ⟨b8, 0, none⟩) (by simp; omega) (.int .u64 u0)).setCell (p := ⟨b8, 1, none⟩) (by simp; omega) (.int .u64 u1)).setCell (p := ⟨b8, 2, none⟩) (by simp; omega) (.int .u64 u2)).setCell (p := ⟨b8, 3, none⟩) (by simp; omega) (.int .u64 u3))
        have KS := Lib.hid kS
        have KU := Lib.hid kU
        clear hb kT kS kU KT
        cases m
        · have H9 := Lib.hid (fun w => hAdd.out w rfl)
          clear hSub hAdd
          go_wp2_with fail
          generalize (((w2.setCell ⟨b8, 0, none⟩ (.int .u64 u0)).setCell ⟨b8, 1, none⟩ (.int .u64 u1)).setCell ⟨b8, 2, none⟩ (.int .u64 u2)).setCell ⟨b8, 3, none⟩ (.int .u64 u3) = w3 at *
          refine (H9.out _).mono ?_
          rintro e w4 ⟨rfl, hb⟩
          have kS := blk_below hb KS.out
          have l5 := kS.lt
          obtain ⟨⟨x0, x1, x2, x3⟩, x4, x5, x6, x7⟩ := keepB kS
          have KF := Lib.hid (kS.write v0 v1 v2 v3)
          have KU := Lib.hid ((blk_below hb KU.out).other h78.symm (.int .u64 v0) (.int .u64 v1) (.int .u64 v2) (.int .u64 v3))
          have KQ := Lib.hid ((blk_below hb KQ.out).other (b' := b7) (by omega) (.int .u64 v0) (.int .u64 v1) (.int .u64 v2) (.int .u64 v3))
          have KZ := Lib.hid ((blk_below hb KZ.out).other (b' := b7) (by omega) (.int .u64 v0) (.int .u64 v1) (.int .u64 v2) (.int .u64 v3))
          have HB := Lib.hid (((((HB.out.trans (hb.mono HB.out.size)).setCell (p := ⟨b7, 0, none⟩) (by simp; omega) (.int .u64 v0)).setCell (p := ⟨b7, 1, none⟩) (by simp; omega) (.int .u64 v1)).setCell (p := ⟨b7, 2, none⟩) (by simp; omega) (.int .u64 v2)).setCell (p := ⟨b7, 3, none⟩) (by simp; omega) (.int .u64 v3))
          clear hb kS
          go_wp2
          go_roundw
          case rel => exact ⟨j + 1, _, S', T', congrArg (Value.int .u64) hN2.out, rfl, ⟨_, _, _, _, wv.out, nv.out, ev.out, KF.out⟩, ⟨_, _, _, _, wu.out, nu.out, eu.out, KU.out⟩, ⟨_, _, _, _, WQ.out, NQ.out, EQ.out, KQ.out⟩, KZ.out, hT'.out, by omega, hRec.out, HB.out⟩
          case measure => simp [uOf]; omega
        · have H9 := Lib.hid (fun w => hSub.out w rfl)
          clear hAdd hSub
          go_wp2_with fail
          generalize (((w2.setCell ⟨b8, 0, none⟩ (.int .u64 u0)).setCell ⟨b8, 1, none⟩ (.int .u64 u1)).setCell ⟨b8, 2, none⟩ (.int .u64 u2)).setCell ⟨b8, 3, none⟩ (.int .u64 u3) = w3 at *
          refine (H9.out _).mono ?_
          rintro e w4 ⟨rfl, hb⟩
          have kS := blk_below hb KS.out
          have l5 := kS.lt
          obtain ⟨⟨x0, x1, x2, x3⟩, x4, x5, x6, x7⟩ := keepB kS
          have KF := Lib.hid (kS.write v0 v1 v2 v3)
          have KU := Lib.hid ((blk_below hb KU.out).other h78.symm (.int .u64 v0) (.int .u64 v1) (.int .u64 v2) (.int .u64 v3))
          have KQ := Lib.hid ((blk_below hb KQ.out).other (b' := b7) (by omega) (.int .u64 v0) (.int .u64 v1) (.int .u64 v2) (.int .u64 v3))
          have KZ := Lib.hid ((blk_below hb KZ.out).other (b' := b7) (by omega) (.int .u64 v0) (.int .u64 v1) (.int .u64 v2) (.int .u64 v3))
          have HB := Lib.hid (((((HB.out.trans (hb.mono HB.out.size)).setCell (p := ⟨b7, 0, none⟩) (by simp; omega) (.int .u64 v0)).setCell (p := ⟨b7, 1, none⟩) (by simp; omega) (.int .u64 v1)).setCell (p := ⟨b7, 2, none⟩) (by simp; omega) (.int .u64 v2)).setCell (p := ⟨b7, 3, none⟩) (by simp; omega) (.int .u64 v3))
          clear hb kS
          go_wp2
          go_roundw
          case rel => exact ⟨j + 1, _, S', T', congrArg (Value.int .u64) hN2.out, rfl, ⟨_, _, _, _, wv.out, nv.out, ev.out, KF.out⟩, ⟨_, _, _, _, wu.out, nu.out, eu.out, KU.out⟩, ⟨_, _, _, _, WQ.out, NQ.out, EQ.out, KQ.out⟩, KZ.out, hT'.out, by omega, hRec.out, HB.out⟩
          case measure => simp [uOf]; omega
end Go.Proofs.YtmididlfnajhiaaGreatDoor

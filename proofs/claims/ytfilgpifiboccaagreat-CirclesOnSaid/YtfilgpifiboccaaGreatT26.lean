import Derived.Test.YtfilgpifiboccaaGreatT22
namespace Go.Proofs.YtfilgpifiboccaaGreat
open Go.RowKit
/-- A number of four words as one integer. -/
def bigV (V : Int) : Value := numD (V / 6277101735386680763835789423207666416102355444464034512896) (V / 340282366920938463463374607431768211456 % 18446744073709551616) (V / 18446744073709551616 % 18446744073709551616) (V % 18446744073709551616)
def Big (V : Int) : Prop := 0 ≤ V ∧ V < 115792089237316195423570985008687907853269984665640564039457584007913129639936
theorem big_words {V : Int} (h : Big V) : ∃ a0 a1 a2 a3 : Int, (Word a0 ∧ Word a1 ∧ Word a2 ∧ Word a3) ∧ num a0 a1 a2 a3 = V ∧ bigV V = numD a0 a1 a2 a3 := by
  obtain ⟨h0, h1⟩ := h
  refine ⟨_, _, _, _, ⟨⟨?_, ?_⟩, ⟨?_, ?_⟩, ⟨?_, ?_⟩, ⟨?_, ?_⟩⟩, ?_, rfl⟩
  all_goals (first | omega | (unfold num; omega))
theorem big_num {a0 a1 a2 a3 : Int} (h : Word a0 ∧ Word a1 ∧ Word a2 ∧ Word a3) : bigV (num a0 a1 a2 a3) = numD a0 a1 a2 a3 := by
  obtain ⟨⟨_, _⟩, ⟨_, _⟩, ⟨_, _⟩, ⟨_, _⟩⟩ := h
  have e0 : num a0 a1 a2 a3 / 6277101735386680763835789423207666416102355444464034512896 = a0 := by unfold num; omega
  have e1 : num a0 a1 a2 a3 / 340282366920938463463374607431768211456 % 18446744073709551616 = a1 := by unfold num; omega
  have e2 : num a0 a1 a2 a3 / 18446744073709551616 % 18446744073709551616 = a2 := by unfold num; omega
  have e3 : num a0 a1 a2 a3 % 18446744073709551616 = a3 := by unfold num; omega
  unfold bigV
  rw [e0, e1, e2, e3]
theorem add64_ex (x y b : Int) (hx : Word x) (hy : Word y) (hb : 0 ≤ b ∧ b ≤ 1) : ∃ s c : Int, Word s ∧ (0 ≤ c ∧ c ≤ 1) ∧ s = x + y + b - 18446744073709551616 * c ∧ ∀ w, (callFunc 175 #[.int .u64 x, .int .u64 y, .int .u64 b]).run Tryz.prog w = .ok (.value (.tuple #[.int .u64 s, .int .u64 c])) w := by
  obtain ⟨x1, x2⟩ := hx
  obtain ⟨y1, y2⟩ := hy
  refine ⟨(x + y + b) % 18446744073709551616, (x + y + b) / 18446744073709551616, ⟨by omega, by omega⟩, ⟨by omega, by omega⟩, by omega, fun w => add64_run x y b x1 y1 hb w⟩
set_option maxHeartbeats 400000 in
theorem bsub_any (a b : Int) (ha : Big a) (hb : Big b) (w : World) : Calls Tryz.prog 186 #[bigV a, bigV b] w (GPost (bigV ((a - b) % 115792089237316195423570985008687907853269984665640564039457584007913129639936)) w) := by
  obtain ⟨a0, a1, a2, a3, ⟨ha0, ha1, ha2, ha3⟩, rfl, ea⟩ := big_words ha
  obtain ⟨b0, b1, b2, b3, ⟨hb0, hb1, hb2, hb3⟩, rfl, eb⟩ := big_words hb
  rw [ea, eb]
  obtain ⟨s3, c3, g3, d3, e3, E3⟩ := sub64_ex a3 b3 0 ha3 hb3 (by omega)
  obtain ⟨s2, c2, g2, d2, e2, E2⟩ := sub64_ex a2 b2 c3 ha2 hb2 d3
  obtain ⟨s1, c1, g1, d1, e1, E1⟩ := sub64_ex a1 b1 c2 ha1 hb1 d2
  obtain ⟨s0, c0, g0, d0, e0, E0⟩ := sub64_ex a0 b0 c1 ha0 hb0 d1
  have hs : (num a0 a1 a2 a3 - num b0 b1 b2 b3) % 115792089237316195423570985008687907853269984665640564039457584007913129639936 = num s0 s1 s2 s3 := by
    obtain ⟨_, _⟩ := g0
    obtain ⟨_, _⟩ := g1
    obtain ⟨_, _⟩ := g2
    obtain ⟨_, _⟩ := g3
    clear E0 E1 E2 E3
    unfold num
    omega
  rw [hs, big_num ⟨g0, g1, g2, g3⟩]
  clear ea eb hs ha hb
  clear g0 g1 g2 g3 d0 d1 d2 d3 e0 e1 e2 e3 ha0 ha1 ha2 ha3 hb0 hb1 hb2 hb3
  have HP := Lib.hid (show ∀ c1 c2 : Array Value, GPost (numD s0 s1 s2 s3) w (.returned (numD s0 s1 s2 s3)) (((w.alloc (.cells c1 161)).alloc (.cells c2 161)).alloc (.cells #[.int .u64 s0, .int .u64 s1, .int .u64 s2, .int .u64 s3] 161)).drew.drew.drew.drew from fun c1 c2 => ⟨rfl, ((((((Below.refl _ _).alloc (Nat.le_refl _) _).alloc (by simp) _).alloc (by simp; omega) _).drew).drew).drew.drew⟩)
  unfold numD at HP ⊢
  go_enter Tryz.func186, Tryz.ntmps186
  go_wp2
  refine wp_loop_rounds 5 ?_
  rw [rounds_succ]
  go_wp2
  go_region
  go_wp2
  rw [rounds_succ]
  go_wp2
  go_region
  go_wp2
  rw [rounds_succ]
  go_wp2
  go_region
  go_wp2
  rw [rounds_succ]
  go_wp2
  go_region
  go_wp2
  rw [rounds_succ]
  go_wp2
  simp [bodyPost, results, Tryz.results186, go_sem]
  exact HP.out _ _
set_option maxHeartbeats 400000 in
theorem badd_any (a b : Int) (ha : Big a) (hb : Big b) (w : World) : Calls Tryz.prog 187 #[bigV a, bigV b] w (GPost (bigV ((a + b) % 115792089237316195423570985008687907853269984665640564039457584007913129639936)) w) := by
  obtain ⟨a0, a1, a2, a3, ⟨ha0, ha1, ha2, ha3⟩, rfl, ea⟩ := big_words ha
  obtain ⟨b0, b1, b2, b3, ⟨hb0, hb1, hb2, hb3⟩, rfl, eb⟩ := big_words hb
  rw [ea, eb]
  obtain ⟨s3, c3, g3, d3, e3, E3⟩ := add64_ex a3 b3 0 ha3 hb3 (by omega)
  obtain ⟨s2, c2, g2, d2, e2, E2⟩ := add64_ex a2 b2 c3 ha2 hb2 d3
  obtain ⟨s1, c1, g1, d1, e1, E1⟩ := add64_ex a1 b1 c2 ha1 hb1 d2
  obtain ⟨s0, c0, g0, d0, e0, E0⟩ := add64_ex a0 b0 c1 ha0 hb0 d1
  have hs : (num a0 a1 a2 a3 + num b0 b1 b2 b3) % 115792089237316195423570985008687907853269984665640564039457584007913129639936 = num s0 s1 s2 s3 := by
    obtain ⟨_, _⟩ := g0
    obtain ⟨_, _⟩ := g1
    obtain ⟨_, _⟩ := g2
    obtain ⟨_, _⟩ := g3
    clear E0 E1 E2 E3
    unfold num
    omega
  rw [hs, big_num ⟨g0, g1, g2, g3⟩]
  clear ea eb hs ha hb
  clear g0 g1 g2 g3 d0 d1 d2 d3 e0 e1 e2 e3 ha0 ha1 ha2 ha3 hb0 hb1 hb2 hb3
  have HP := Lib.hid (show ∀ c1 c2 : Array Value, GPost (numD s0 s1 s2 s3) w (.returned (numD s0 s1 s2 s3)) (((w.alloc (.cells c1 161)).alloc (.cells c2 161)).alloc (.cells #[.int .u64 s0, .int .u64 s1, .int .u64 s2, .int .u64 s3] 161)).drew.drew.drew.drew from fun c1 c2 => ⟨rfl, ((((((Below.refl _ _).alloc (Nat.le_refl _) _).alloc (by simp) _).alloc (by simp; omega) _).drew).drew).drew.drew⟩)
  unfold numD at HP ⊢
  go_enter Tryz.func187, Tryz.ntmps187
  go_wp2
  refine wp_loop_rounds 5 ?_
  rw [rounds_succ]
  go_wp2
  go_region
  go_wp2
  rw [rounds_succ]
  go_wp2
  go_region
  go_wp2
  rw [rounds_succ]
  go_wp2
  go_region
  go_wp2
  rw [rounds_succ]
  go_wp2
  go_region
  go_wp2
  rw [rounds_succ]
  go_wp2
  simp [bodyPost, results, Tryz.results187, go_sem]
  exact HP.out _ _
set_option maxRecDepth 100000 in
set_option maxHeartbeats 1000000 in
theorem btimes_any (a n : Int) (ha : Big a) (hn0 : 0 ≤ n) (hn1 : n ≤ 4611686018427387904) (w : World) : Calls Tryz.prog 151 #[bigV a, .int .u64 n] w (GPost (bigV (a * n % 115792089237316195423570985008687907853269984665640564039457584007913129639936)) w) := by
  obtain ⟨a0, a1, a2, a3, ⟨ha0, ha1, ha2, ha3⟩, rfl, ea⟩ := big_words ha
  rw [ea]
  obtain ⟨x3, y3, s3, k3, t3, g3, d3, e3, M3, A3, z3⟩ := one_ex a3 n 0 4611686018427387904 ha3 hn0 hn1 (by omega) (by omega) (by omega)
  obtain ⟨x2, y2, s2, k2, t2, g2, d2, e2, M2, A2, z2⟩ := one_ex a2 n t3 4611686018427387904 ha2 hn0 hn1 (by omega) d3.1 d3.2
  obtain ⟨x1, y1, s1, k1, t1, g1, d1, e1, M1, A1, z1⟩ := one_ex a1 n t2 4611686018427387904 ha1 hn0 hn1 (by omega) d2.1 d2.2
  obtain ⟨x0, y0, s0, k0, t0, g0, d0, e0, M0, A0, z0⟩ := one_ex a0 n t1 4611686018427387904 ha0 hn0 hn1 (by omega) d1.1 d1.2
  have hs : num a0 a1 a2 a3 * n % 115792089237316195423570985008687907853269984665640564039457584007913129639936 = num s0 s1 s2 s3 := by
    have e : num a0 a1 a2 a3 * n = a0 * n * 6277101735386680763835789423207666416102355444464034512896 + a1 * n * 340282366920938463463374607431768211456 + a2 * n * 18446744073709551616 + a3 * n := by unfold num; grind
    rw [e]
    obtain ⟨_, _⟩ := g0
    obtain ⟨_, _⟩ := g1
    obtain ⟨_, _⟩ := g2
    obtain ⟨_, _⟩ := g3
    clear M0 M1 M2 M3 A0 A1 A2 A3 ha0 ha1 ha2 ha3
    generalize a0 * n = p0 at *
    generalize a1 * n = p1 at *
    generalize a2 * n = p2 at *
    generalize a3 * n = p3 at *
    unfold num
    omega
  rw [hs, big_num ⟨g0, g1, g2, g3⟩]
  clear ea hs ha e0 e1 e2 e3 d0 d1 d2 d3 g0 g1 g2 g3
  have M0 := Lib.hid M0
  have M1 := Lib.hid M1
  have M2 := Lib.hid M2
  have M3 := Lib.hid M3
  have HP := Lib.hid (show ∀ c1 : Array Value, GPost (numD s0 s1 s2 s3) w (.returned (numD s0 s1 s2 s3)) ((w.alloc (.cells c1 161)).alloc (.cells #[.int .u64 s0, .int .u64 s1, .int .u64 s2, .int .u64 s3] 161)) from fun c1 => ⟨rfl, ((Below.refl _ _).alloc (Nat.le_refl _) _).alloc (by simp) _⟩)
  unfold numD at HP ⊢
  go_enter Tryz.func151, Tryz.ntmps151
  go_wp2
  refine wp_loop_rounds 5 ?_
  rw [rounds_succ]
  go_wp2_with (first | (go_at_call 174; refine (M3.out _).mono ?_; rintro e w' ⟨rfl, rfl⟩))
  rw [rounds_succ]
  go_wp2_with (first | (go_at_call 174; refine (M2.out _).mono ?_; rintro e w' ⟨rfl, rfl⟩))
  rw [rounds_succ]
  go_wp2_with (first | (go_at_call 174; refine (M1.out _).mono ?_; rintro e w' ⟨rfl, rfl⟩))
  rw [rounds_succ]
  go_wp2_with (first | (go_at_call 174; refine (M0.out _).mono ?_; rintro e w' ⟨rfl, rfl⟩))
  rw [rounds_succ]
  go_wp2_with fail
  simp [bodyPost, results, Tryz.results151, go_sem]
  exact HP.out _
set_option maxHeartbeats 400000 in
theorem bover_any (a d : Int) (ha : Big a) (hd : 0 < d) (hd2 : d < 4294967296) (w : World) : Calls Tryz.prog 171 #[bigV a, .int .u64 d] w (GPost (bigV (a / d)) w) := by
  obtain ⟨a0, a1, a2, a3, ⟨ha0, ha1, ha2, ha3⟩, rfl, ea⟩ := big_words ha
  rw [ea]
  obtain ⟨s0, r0, g0, g0', d0, d0', e0, E0⟩ := div64_any 0 a0 d hd hd2 (by omega) hd ha0.1 ha0.2
  obtain ⟨s1, r1, g1, g1', d1, d1', e1, E1⟩ := div64_any r0 a1 d hd hd2 d0 d0' ha1.1 ha1.2
  obtain ⟨s2, r2, g2, g2', d2, d2', e2, E2⟩ := div64_any r1 a2 d hd hd2 d1 d1' ha2.1 ha2.2
  obtain ⟨s3, r3, g3, g3', d3, d3', e3, E3⟩ := div64_any r2 a3 d hd hd2 d2 d2' ha3.1 ha3.2
  have hs : num a0 a1 a2 a3 / d = num s0 s1 s2 s3 := by
    have e : num a0 a1 a2 a3 = r3 + num s0 s1 s2 s3 * d := by
      clear E0 E1 E2 E3 ea
      unfold num
      grind
    rw [e, Int.add_mul_ediv_right _ _ (by omega), Int.ediv_eq_zero_of_lt d3 d3']
    omega
  rw [hs, big_num ⟨⟨g0, g0'⟩, ⟨g1, g1'⟩, ⟨g2, g2'⟩, ⟨g3, g3'⟩⟩]
  clear ea hs ha
  clear g0 g0' g1 g1' g2 g2' g3 g3' d0 d0' d1 d1' d2 d2' d3 d3' e0 e1 e2 e3 ha0 ha1 ha2 ha3 hd hd2
  have E0 := Lib.hid E0
  have E1 := Lib.hid E1
  have E2 := Lib.hid E2
  have E3 := Lib.hid E3
  unfold numD
  go_enter Tryz.func171, Tryz.ntmps171
  go_wp2
  refine wp_loop_rounds 5 ?_
  rw [rounds_succ]
  go_wp2_with fail
  refine (E0.out _).mono ?_
  rintro e w' ⟨rfl, hw⟩
  obtain ⟨w1, rfl, hs1, hb1⟩ := rejoin _ _ _ _ hw
  clear hw
  go_wp2_with fail
  rw [rounds_succ]
  go_wp2_with fail
  refine (E1.out _).mono ?_
  rintro e w' ⟨rfl, hw⟩
  obtain ⟨w2, rfl, hs2, hb2⟩ := rejoin _ _ _ _ hw
  clear hw
  rw [hs1] at hb2 hs2
  go_wp2_with fail
  rw [rounds_succ]
  go_wp2_with fail
  refine (E2.out _).mono ?_
  rintro e w' ⟨rfl, hw⟩
  obtain ⟨w3, rfl, hs3, hb3⟩ := rejoin _ _ _ _ hw
  clear hw
  rw [hs2] at hb3 hs3
  go_wp2_with fail
  rw [rounds_succ]
  go_wp2_with fail
  refine (E3.out _).mono ?_
  rintro e w' ⟨rfl, hw⟩
  obtain ⟨w4, rfl, hs4, hb4⟩ := rejoin _ _ _ _ hw
  clear hw
  rw [hs3] at hb4 hs4
  go_wp2_with fail
  rw [rounds_succ]
  go_wp2_with fail
  have hB := (((hb1.trans hb2).trans hb3).trans hb4)
  simp [bodyPost, results, Tryz.results171, go_sem, hs4]
  exact ⟨rfl, (hB.alloc (by rw [hs4]; exact Nat.le_refl _) _).alloc (by simp [hs4]) _⟩
end Go.Proofs.YtfilgpifiboccaaGreat
namespace Go.Proofs.YtfilgpifiboccaaGreat
open Go.RowKit
set_option maxRecDepth 100000 in
set_option maxHeartbeats 1000000 in
theorem blt_any (a b : Int) (ha : Big a) (hb : Big b) (w : World) : Calls Tryz.prog 152 #[bigV a, bigV b] w (GPost (.bool (decide (a < b))) w) := by
  obtain ⟨a0, a1, a2, a3, ⟨⟨_, _⟩, ⟨_, _⟩, ⟨_, _⟩, ⟨_, _⟩⟩, hA, ea⟩ := big_words ha
  obtain ⟨b0, b1, b2, b3, ⟨⟨_, _⟩, ⟨_, _⟩, ⟨_, _⟩, ⟨_, _⟩⟩, hB, eb⟩ := big_words hb
  rw [ea, eb]
  obtain ⟨V, hV⟩ : ∃ V, V = Value.bool (decide (a < b)) := ⟨_, rfl⟩
  rw [← hV]
  have HB : ∀ v : Bool, decide (a < b) = v → ∀ w', Below w.heap.size w w' → GPost V w (.returned (.bool v)) w' := fun v h w' hb => ⟨by rw [hV, h], hb⟩
  have BL := Lib.hid (((Below.refl w.heap.size w).alloc (Nat.le_refl _) (.cells #[.int .u64 a0, .int .u64 a1, .int .u64 a2, .int .u64 a3] 161)).alloc (by simp) (.cells #[.int .u64 b0, .int .u64 b1, .int .u64 b2, .int .u64 b3] 161))
  unfold num at hA hB
  unfold numD
  clear hV ea eb
  rcases Int.lt_trichotomy a0 b0 with h | h | h
  · have HP := Lib.hid (HB true (by rw [decide_eq_true]; omega))
    clear HB hA hB ha hb
    go_enter Tryz.func152, Tryz.ntmps152
    go_wp2
    refine wp_loop_rounds 5 ?_
    rw [rounds_succ]
    go_wp2
    go_quiet (fail)
    go_wp2
    go_quiet (fail)
    go_wp2
    go_ret
    refine HP.out _ ?_
    first
      | exact (below_drewN (below_drewN (below_drewN (below_drewN (below_drewN BL.out _) _) _) _) _)
      | exact (below_drewN (below_drewN (below_drewN (below_drewN BL.out _) _) _) _)
      | exact (below_drewN (below_drewN (below_drewN BL.out _) _) _)
      | exact (below_drewN (below_drewN BL.out _) _)
      | exact (below_drewN BL.out _)
  · subst h
    rcases Int.lt_trichotomy a1 b1 with h | h | h
    · have HP := Lib.hid (HB true (by rw [decide_eq_true]; omega))
      clear HB hA hB ha hb
      go_enter Tryz.func152, Tryz.ntmps152
      go_wp2
      refine wp_loop_rounds 5 ?_
      rw [rounds_succ]
      go_wp2
      go_quiet (fail)
      go_wp2
      rw [rounds_succ]
      go_wp2
      go_quiet (fail)
      go_wp2
      go_quiet (fail)
      go_wp2
      go_ret
      refine HP.out _ ?_
      first
        | exact (below_drewN (below_drewN (below_drewN (below_drewN (below_drewN BL.out _) _) _) _) _)
        | exact (below_drewN (below_drewN (below_drewN (below_drewN BL.out _) _) _) _)
        | exact (below_drewN (below_drewN (below_drewN BL.out _) _) _)
        | exact (below_drewN (below_drewN BL.out _) _)
        | exact (below_drewN BL.out _)
    · subst h
      rcases Int.lt_trichotomy a2 b2 with h | h | h
      · have HP := Lib.hid (HB true (by rw [decide_eq_true]; omega))
        clear HB hA hB ha hb
        go_enter Tryz.func152, Tryz.ntmps152
        go_wp2
        refine wp_loop_rounds 5 ?_
        rw [rounds_succ]
        go_wp2
        go_quiet (fail)
        go_wp2
        rw [rounds_succ]
        go_wp2
        go_quiet (fail)
        go_wp2
        rw [rounds_succ]
        go_wp2
        go_quiet (fail)
        go_wp2
        go_quiet (fail)
        go_wp2
        go_ret
        refine HP.out _ ?_
        first
          | exact (below_drewN (below_drewN (below_drewN (below_drewN (below_drewN BL.out _) _) _) _) _)
          | exact (below_drewN (below_drewN (below_drewN (below_drewN BL.out _) _) _) _)
          | exact (below_drewN (below_drewN (below_drewN BL.out _) _) _)
          | exact (below_drewN (below_drewN BL.out _) _)
          | exact (below_drewN BL.out _)
      · subst h
        rcases Int.lt_trichotomy a3 b3 with h | h | h
        · have HP := Lib.hid (HB true (by rw [decide_eq_true]; omega))
          clear HB hA hB ha hb
          go_enter Tryz.func152, Tryz.ntmps152
          go_wp2
          refine wp_loop_rounds 5 ?_
          rw [rounds_succ]
          go_wp2
          go_quiet (fail)
          go_wp2
          rw [rounds_succ]
          go_wp2
          go_quiet (fail)
          go_wp2
          rw [rounds_succ]
          go_wp2
          go_quiet (fail)
          go_wp2
          rw [rounds_succ]
          go_wp2
          go_quiet (fail)
          go_wp2
          go_quiet (fail)
          go_wp2
          go_ret
          refine HP.out _ ?_
          first
            | exact (below_drewN (below_drewN (below_drewN (below_drewN (below_drewN BL.out _) _) _) _) _)
            | exact (below_drewN (below_drewN (below_drewN (below_drewN BL.out _) _) _) _)
            | exact (below_drewN (below_drewN (below_drewN BL.out _) _) _)
            | exact (below_drewN (below_drewN BL.out _) _)
            | exact (below_drewN BL.out _)
        · subst h
          have HP := Lib.hid (HB false (by rw [decide_eq_false]; omega))
          clear HB hA hB ha hb
          go_enter Tryz.func152, Tryz.ntmps152
          go_wp2
          refine wp_loop_rounds 5 ?_
          rw [rounds_succ]
          go_wp2
          go_quiet (fail)
          go_wp2
          rw [rounds_succ]
          go_wp2
          go_quiet (fail)
          go_wp2
          rw [rounds_succ]
          go_wp2
          go_quiet (fail)
          go_wp2
          rw [rounds_succ]
          go_wp2
          go_quiet (fail)
          go_wp2
          rw [rounds_succ]
          go_wp2
          go_ret
          refine HP.out _ ?_
          first
            | exact (below_drewN (below_drewN (below_drewN (below_drewN (below_drewN BL.out _) _) _) _) _)
            | exact (below_drewN (below_drewN (below_drewN (below_drewN BL.out _) _) _) _)
            | exact (below_drewN (below_drewN (below_drewN BL.out _) _) _)
            | exact (below_drewN (below_drewN BL.out _) _)
            | exact (below_drewN BL.out _)
        · have HP := Lib.hid (HB (decide (a3 < b3)) (by rw [decide_eq_false (by omega), decide_eq_false (by omega)]))
          clear HB hA hB ha hb
          go_enter Tryz.func152, Tryz.ntmps152
          go_wp2
          refine wp_loop_rounds 5 ?_
          rw [rounds_succ]
          go_wp2
          go_quiet (fail)
          go_wp2
          rw [rounds_succ]
          go_wp2
          go_quiet (fail)
          go_wp2
          rw [rounds_succ]
          go_wp2
          go_quiet (fail)
          go_wp2
          rw [rounds_succ]
          go_wp2
          go_quiet (fail)
          go_wp2
          go_quiet (fail)
          go_wp2
          go_ret
          refine HP.out _ ?_
          first
            | exact (below_drewN (below_drewN (below_drewN (below_drewN (below_drewN BL.out _) _) _) _) _)
            | exact (below_drewN (below_drewN (below_drewN (below_drewN BL.out _) _) _) _)
            | exact (below_drewN (below_drewN (below_drewN BL.out _) _) _)
            | exact (below_drewN (below_drewN BL.out _) _)
            | exact (below_drewN BL.out _)
      · have HP := Lib.hid (HB (decide (a2 < b2)) (by rw [decide_eq_false (by omega), decide_eq_false (by omega)]))
        clear HB hA hB ha hb
        go_enter Tryz.func152, Tryz.ntmps152
        go_wp2
        refine wp_loop_rounds 5 ?_
        rw [rounds_succ]
        go_wp2
        go_quiet (fail)
        go_wp2
        rw [rounds_succ]
        go_wp2
        go_quiet (fail)
        go_wp2
        rw [rounds_succ]
        go_wp2
        go_quiet (fail)
        go_wp2
        go_quiet (fail)
        go_wp2
        go_ret
        refine HP.out _ ?_
        first
          | exact (below_drewN (below_drewN (below_drewN (below_drewN (below_drewN BL.out _) _) _) _) _)
          | exact (below_drewN (below_drewN (below_drewN (below_drewN BL.out _) _) _) _)
          | exact (below_drewN (below_drewN (below_drewN BL.out _) _) _)
          | exact (below_drewN (below_drewN BL.out _) _)
          | exact (below_drewN BL.out _)
    · have HP := Lib.hid (HB (decide (a1 < b1)) (by rw [decide_eq_false (by omega), decide_eq_false (by omega)]))
      clear HB hA hB ha hb
      go_enter Tryz.func152, Tryz.ntmps152
      go_wp2
      refine wp_loop_rounds 5 ?_
      rw [rounds_succ]
      go_wp2
      go_quiet (fail)
      go_wp2
      rw [rounds_succ]
      go_wp2
      go_quiet (fail)
      go_wp2
      go_quiet (fail)
      go_wp2
      go_ret
      refine HP.out _ ?_
      first
        | exact (below_drewN (below_drewN (below_drewN (below_drewN (below_drewN BL.out _) _) _) _) _)
        | exact (below_drewN (below_drewN (below_drewN (below_drewN BL.out _) _) _) _)
        | exact (below_drewN (below_drewN (below_drewN BL.out _) _) _)
        | exact (below_drewN (below_drewN BL.out _) _)
        | exact (below_drewN BL.out _)
  · have HP := Lib.hid (HB (decide (a0 < b0)) (by rw [decide_eq_false (by omega), decide_eq_false (by omega)]))
    clear HB hA hB ha hb
    go_enter Tryz.func152, Tryz.ntmps152
    go_wp2
    refine wp_loop_rounds 5 ?_
    rw [rounds_succ]
    go_wp2
    go_quiet (fail)
    go_wp2
    go_quiet (fail)
    go_wp2
    go_ret
    refine HP.out _ ?_
    first
      | exact (below_drewN (below_drewN (below_drewN (below_drewN (below_drewN BL.out _) _) _) _) _)
      | exact (below_drewN (below_drewN (below_drewN (below_drewN BL.out _) _) _) _)
      | exact (below_drewN (below_drewN (below_drewN BL.out _) _) _)
      | exact (below_drewN (below_drewN BL.out _) _)
      | exact (below_drewN BL.out _)
end Go.Proofs.YtfilgpifiboccaaGreat

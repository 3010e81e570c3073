import Derived.Test.YtfilgpifiboccaaGreatT26
namespace Go.Proofs.YtfilgpifiboccaaGreat
open Go.RowKit
/-- One place of the school's product, as arctrig adds. -/
structure Mac2 (a b o c s c' : Int) : Prop where
  out : ∃ hi lo s1 k1 h1 k2 : Int, (∀ w, Calls Tryz.prog 174 #[.int .u64 a, .int .u64 b] w fun e w' => e = .returned (.tuple #[.int .u64 hi, .int .u64 lo]) ∧ w' = w) ∧
    (∀ w, (callFunc 175 #[.int .u64 lo, .int .u64 o, .int .u64 0]).run Tryz.prog w = .ok (.value (.tuple #[.int .u64 s1, .int .u64 k1])) w) ∧ IntKind.u64.wrap (hi + k1) = h1 ∧
    (∀ w, (callFunc 175 #[.int .u64 s1, .int .u64 c, .int .u64 0]).run Tryz.prog w = .ok (.value (.tuple #[.int .u64 s, .int .u64 k2])) w) ∧ IntKind.u64.wrap (h1 + k2) = c'
theorem mac2_ex (a b o c : Int) (ha : Word a) (hb : Word b) (ho : Word o) (hc : Word c) : ∃ s c' : Int, Word s ∧ Word c' ∧ o + a * b + c = s + 18446744073709551616 * c' ∧ Mac2 a b o c s c' := by
  obtain ⟨a0, a1⟩ := ha
  obtain ⟨b0, b1⟩ := hb
  obtain ⟨o0, o1⟩ := ho
  obtain ⟨c0, c1⟩ := hc
  have hp0 : 0 ≤ a * b := Int.mul_nonneg a0 b0
  have hp1 : a * b ≤ 18446744073709551615 * 18446744073709551615 := Int.mul_le_mul (by omega) (by omega) b0 (by decide)
  have hM : ∀ w, Calls Tryz.prog 174 #[.int .u64 a, .int .u64 b] w fun e w' => e = .returned (.tuple #[.int .u64 (a * b / 18446744073709551616), .int .u64 (a * b % 18446744073709551616)]) ∧ w' = w := fun w => (mul64_any a b ⟨a0, a1⟩ ⟨b0, b1⟩ w).mono fun _ _ h => ⟨h.1, h.2.symm⟩
  generalize hP : a * b = P at *
  refine ⟨((P % 18446744073709551616 + o) % 18446744073709551616 + c) % 18446744073709551616, P / 18446744073709551616 + (P % 18446744073709551616 + o) / 18446744073709551616 + ((P % 18446744073709551616 + o) % 18446744073709551616 + c) / 18446744073709551616, ⟨by omega, by omega⟩, ⟨by omega, by omega⟩, by omega,
    ⟨P / 18446744073709551616, P % 18446744073709551616, (P % 18446744073709551616 + o) % 18446744073709551616, (P % 18446744073709551616 + o) / 18446744073709551616, P / 18446744073709551616 + (P % 18446744073709551616 + o) / 18446744073709551616, ((P % 18446744073709551616 + o) % 18446744073709551616 + c) / 18446744073709551616, hM, fun w => ?_, ?_, fun w => ?_, ?_⟩⟩
  · have := add64_run (P % 18446744073709551616) o 0 (by omega) (by omega) (by omega) w
    simpa using this
  · exact wrap_id _ (by omega) (by omega)
  · have := add64_run ((P % 18446744073709551616 + o) % 18446744073709551616) c 0 (by omega) c0 (by omega) w
    simpa using this
  · exact wrap_id _ (by omega) (by omega)
theorem array_at2 (a : Option Addr) (w : World) : (Instr.arrayAt 161 (.slice a 4 7)).run Tryz.prog w = .ok (.pointer a) w := run_arrayAt w 161 159 4 a 4 7 (by kernel_rfl) (by decide)
set_option maxRecDepth 100000 in
set_option maxHeartbeats 2000000 in
theorem bmul_walk (a0 a1 a2 a3 b0 b1 b2 b3 p1 c1 p2 c2 p3 c3 p4 c4 p5 c5 p6 c6 p7 c7 p8 c8 p9 c9 p10 c10 p11 c11 p12 c12 p13 c13 p14 c14 p15 c15 p16 c16 : Int) (m1 : Mac2 a3 b3 0 0 p1 c1) (m2 : Mac2 a3 b2 0 c1 p2 c2) (m3 : Mac2 a3 b1 0 c2 p3 c3) (m4 : Mac2 a3 b0 0 c3 p4 c4) (m5 : Mac2 a2 b3 p2 0 p5 c5) (m6 : Mac2 a2 b2 p3 c5 p6 c6) (m7 : Mac2 a2 b1 p4 c6 p7 c7) (m8 : Mac2 a2 b0 c4 c7 p8 c8) (m9 : Mac2 a1 b3 p6 0 p9 c9) (m10 : Mac2 a1 b2 p7 c9 p10 c10) (m11 : Mac2 a1 b1 p8 c10 p11 c11) (m12 : Mac2 a1 b0 c8 c11 p12 c12) (m13 : Mac2 a0 b3 p10 0 p13 c13) (m14 : Mac2 a0 b2 p11 c13 p14 c14) (m15 : Mac2 a0 b1 p12 c14 p15 c15) (m16 : Mac2 a0 b0 c12 c15 p16 c16) (g4 : Word c4) (g8 : Word c8) (g12 : Word c12) (g16 : Word c16) (w : World) : Calls Tryz.prog 172 #[numD a0 a1 a2 a3, numD b0 b1 b2 b3] w (NumPost w (numD p16 p15 p14 p13)) := by
  have m1 := Lib.hid m1
  have m2 := Lib.hid m2
  have m3 := Lib.hid m3
  have m4 := Lib.hid m4
  have m5 := Lib.hid m5
  have m6 := Lib.hid m6
  have m7 := Lib.hid m7
  have m8 := Lib.hid m8
  have m9 := Lib.hid m9
  have m10 := Lib.hid m10
  have m11 := Lib.hid m11
  have m12 := Lib.hid m12
  have m13 := Lib.hid m13
  have m14 := Lib.hid m14
  have m15 := Lib.hid m15
  have m16 := Lib.hid m16
  have g4 := Lib.hid g4
  have g8 := Lib.hid g8
  have g12 := Lib.hid g12
  have g16 := Lib.hid g16
  unfold numD
  go_enter Tryz.func172, Tryz.ntmps172
  go_wp2
  refine wp_loop_rounds 5 ?_
  rw [rounds_succ]
  go_wp2_with fail
  refine wp_loop_rounds 5 ?_
  rw [rounds_succ]
  go_wp2_with fail
  obtain ⟨hi, lo, s, k, h, l, M, A, x, B, y⟩ := m1.out.out
  have M := Lib.hid M
  go_quiet (first | (go_at_call 174; refine Calls.quiet_of_same (M.out _)))
  simp only [drewN_alloc]
  rename_i nq
  have hd := drewN_base w w nq ⟨rfl, Below.refl _ _⟩
  generalize World.drewN w nq = w1 at *
  obtain ⟨hs, hb⟩ := hd
  go_wp2_with fail
  clear A x B y
  rw [rounds_succ]
  go_wp2_with fail
  obtain ⟨hi, lo, s, k, h, l, M, A, x, B, y⟩ := m2.out.out
  have M := Lib.hid M
  go_quiet (first | (go_at_call 174; refine Calls.quiet_of_same (M.out _)))
  simp only [drewN_alloc]
  rename_i nq
  have hd := drewN_base w1 w nq ⟨hs, hb⟩
  generalize World.drewN w1 nq = w2 at *
  clear hs hb
  obtain ⟨hs, hb⟩ := hd
  go_wp2_with fail
  clear A x B y
  rw [rounds_succ]
  go_wp2_with fail
  obtain ⟨hi, lo, s, k, h, l, M, A, x, B, y⟩ := m3.out.out
  have M := Lib.hid M
  go_quiet (first | (go_at_call 174; refine Calls.quiet_of_same (M.out _)))
  simp only [drewN_alloc]
  rename_i nq
  have hd := drewN_base w2 w nq ⟨hs, hb⟩
  generalize World.drewN w2 nq = w3 at *
  clear hs hb
  obtain ⟨hs, hb⟩ := hd
  go_wp2_with fail
  clear A x B y
  rw [rounds_succ]
  go_wp2_with fail
  obtain ⟨hi, lo, s, k, h, l, M, A, x, B, y⟩ := m4.out.out
  have M := Lib.hid M
  go_quiet (first | (go_at_call 174; refine Calls.quiet_of_same (M.out _)))
  simp only [drewN_alloc]
  rename_i nq
  have hd := drewN_base w3 w nq ⟨hs, hb⟩
  generalize World.drewN w3 nq = w4 at *
  clear hs hb
  obtain ⟨hs, hb⟩ := hd
  go_wp2_with fail
  clear A x B y
  rw [rounds_succ]
  have Z : IntKind.u64.wrap c4 = c4 := wrap_id _ g4.out.1 g4.out.2
  have Z' : IntKind.u64.wrap (0 + c4) = c4 := by rw [Int.zero_add]; exact Z
  go_wp2_with fail
  clear Z Z'
  rw [rounds_succ]
  go_wp2_with fail
  refine wp_loop_rounds 5 ?_
  rw [rounds_succ]
  go_wp2_with fail
  obtain ⟨hi, lo, s, k, h, l, M, A, x, B, y⟩ := m5.out.out
  have M := Lib.hid M
  go_quiet (first | (go_at_call 174; refine Calls.quiet_of_same (M.out _)))
  simp only [drewN_alloc]
  rename_i nq
  have hd := drewN_base w4 w nq ⟨hs, hb⟩
  generalize World.drewN w4 nq = w5 at *
  clear hs hb
  obtain ⟨hs, hb⟩ := hd
  go_wp2_with fail
  clear A x B y
  rw [rounds_succ]
  go_wp2_with fail
  obtain ⟨hi, lo, s, k, h, l, M, A, x, B, y⟩ := m6.out.out
  have M := Lib.hid M
  go_quiet (first | (go_at_call 174; refine Calls.quiet_of_same (M.out _)))
  simp only [drewN_alloc]
  rename_i nq
  have hd := drewN_base w5 w nq ⟨hs, hb⟩
  generalize World.drewN w5 nq = w6 at *
  clear hs hb
  obtain ⟨hs, hb⟩ := hd
  go_wp2_with fail
  clear A x B y
  rw [rounds_succ]
  go_wp2_with fail
  obtain ⟨hi, lo, s, k, h, l, M, A, x, B, y⟩ := m7.out.out
  have M := Lib.hid M
  go_quiet (first | (go_at_call 174; refine Calls.quiet_of_same (M.out _)))
  simp only [drewN_alloc]
  rename_i nq
  have hd := drewN_base w6 w nq ⟨hs, hb⟩
  generalize World.drewN w6 nq = w7 at *
  clear hs hb
  obtain ⟨hs, hb⟩ := hd
  go_wp2_with fail
  clear A x B y
  rw [rounds_succ]
  go_wp2_with fail
  obtain ⟨hi, lo, s, k, h, l, M, A, x, B, y⟩ := m8.out.out
  have M := Lib.hid M
  go_quiet (first | (go_at_call 174; refine Calls.quiet_of_same (M.out _)))
  simp only [drewN_alloc]
  rename_i nq
  have hd := drewN_base w7 w nq ⟨hs, hb⟩
  generalize World.drewN w7 nq = w8 at *
  clear hs hb
  obtain ⟨hs, hb⟩ := hd
  go_wp2_with fail
  clear A x B y
  rw [rounds_succ]
  have Z : IntKind.u64.wrap c8 = c8 := wrap_id _ g8.out.1 g8.out.2
  have Z' : IntKind.u64.wrap (0 + c8) = c8 := by rw [Int.zero_add]; exact Z
  go_wp2_with fail
  clear Z Z'
  rw [rounds_succ]
  go_wp2_with fail
  refine wp_loop_rounds 5 ?_
  rw [rounds_succ]
  go_wp2_with fail
  obtain ⟨hi, lo, s, k, h, l, M, A, x, B, y⟩ := m9.out.out
  have M := Lib.hid M
  go_quiet (first | (go_at_call 174; refine Calls.quiet_of_same (M.out _)))
  simp only [drewN_alloc]
  rename_i nq
  have hd := drewN_base w8 w nq ⟨hs, hb⟩
  generalize World.drewN w8 nq = w9 at *
  clear hs hb
  obtain ⟨hs, hb⟩ := hd
  go_wp2_with fail
  clear A x B y
  rw [rounds_succ]
  go_wp2_with fail
  obtain ⟨hi, lo, s, k, h, l, M, A, x, B, y⟩ := m10.out.out
  have M := Lib.hid M
  go_quiet (first | (go_at_call 174; refine Calls.quiet_of_same (M.out _)))
  simp only [drewN_alloc]
  rename_i nq
  have hd := drewN_base w9 w nq ⟨hs, hb⟩
  generalize World.drewN w9 nq = w10 at *
  clear hs hb
  obtain ⟨hs, hb⟩ := hd
  go_wp2_with fail
  clear A x B y
  rw [rounds_succ]
  go_wp2_with fail
  obtain ⟨hi, lo, s, k, h, l, M, A, x, B, y⟩ := m11.out.out
  have M := Lib.hid M
  go_quiet (first | (go_at_call 174; refine Calls.quiet_of_same (M.out _)))
  simp only [drewN_alloc]
  rename_i nq
  have hd := drewN_base w10 w nq ⟨hs, hb⟩
  generalize World.drewN w10 nq = w11 at *
  clear hs hb
  obtain ⟨hs, hb⟩ := hd
  go_wp2_with fail
  clear A x B y
  rw [rounds_succ]
  go_wp2_with fail
  obtain ⟨hi, lo, s, k, h, l, M, A, x, B, y⟩ := m12.out.out
  have M := Lib.hid M
  go_quiet (first | (go_at_call 174; refine Calls.quiet_of_same (M.out _)))
  simp only [drewN_alloc]
  rename_i nq
  have hd := drewN_base w11 w nq ⟨hs, hb⟩
  generalize World.drewN w11 nq = w12 at *
  clear hs hb
  obtain ⟨hs, hb⟩ := hd
  go_wp2_with fail
  clear A x B y
  rw [rounds_succ]
  have Z : IntKind.u64.wrap c12 = c12 := wrap_id _ g12.out.1 g12.out.2
  have Z' : IntKind.u64.wrap (0 + c12) = c12 := by rw [Int.zero_add]; exact Z
  go_wp2_with fail
  clear Z Z'
  rw [rounds_succ]
  go_wp2_with fail
  refine wp_loop_rounds 5 ?_
  rw [rounds_succ]
  go_wp2_with fail
  obtain ⟨hi, lo, s, k, h, l, M, A, x, B, y⟩ := m13.out.out
  have M := Lib.hid M
  go_quiet (first | (go_at_call 174; refine Calls.quiet_of_same (M.out _)))
  simp only [drewN_alloc]
  rename_i nq
  have hd := drewN_base w12 w nq ⟨hs, hb⟩
  generalize World.drewN w12 nq = w13 at *
  clear hs hb
  obtain ⟨hs, hb⟩ := hd
  go_wp2_with fail
  clear A x B y
  rw [rounds_succ]
  go_wp2_with fail
  obtain ⟨hi, lo, s, k, h, l, M, A, x, B, y⟩ := m14.out.out
  have M := Lib.hid M
  go_quiet (first | (go_at_call 174; refine Calls.quiet_of_same (M.out _)))
  simp only [drewN_alloc]
  rename_i nq
  have hd := drewN_base w13 w nq ⟨hs, hb⟩
  generalize World.drewN w13 nq = w14 at *
  clear hs hb
  obtain ⟨hs, hb⟩ := hd
  go_wp2_with fail
  clear A x B y
  rw [rounds_succ]
  go_wp2_with fail
  obtain ⟨hi, lo, s, k, h, l, M, A, x, B, y⟩ := m15.out.out
  have M := Lib.hid M
  go_quiet (first | (go_at_call 174; refine Calls.quiet_of_same (M.out _)))
  simp only [drewN_alloc]
  rename_i nq
  have hd := drewN_base w14 w nq ⟨hs, hb⟩
  generalize World.drewN w14 nq = w15 at *
  clear hs hb
  obtain ⟨hs, hb⟩ := hd
  go_wp2_with fail
  clear A x B y
  rw [rounds_succ]
  go_wp2_with fail
  obtain ⟨hi, lo, s, k, h, l, M, A, x, B, y⟩ := m16.out.out
  have M := Lib.hid M
  go_quiet (first | (go_at_call 174; refine Calls.quiet_of_same (M.out _)))
  simp only [drewN_alloc]
  rename_i nq
  have hd := drewN_base w15 w nq ⟨hs, hb⟩
  generalize World.drewN w15 nq = w16 at *
  clear hs hb
  obtain ⟨hs, hb⟩ := hd
  go_wp2_with fail
  clear A x B y
  rw [rounds_succ]
  have Z : IntKind.u64.wrap c16 = c16 := wrap_id _ g16.out.1 g16.out.2
  have Z' : IntKind.u64.wrap (0 + c16) = c16 := by rw [Int.zero_add]; exact Z
  go_wp2_with fail
  clear Z Z'
  rw [rounds_succ]
  have HA := array_at2
  go_wp2_with fail
  simp [bodyPost, results, Tryz.results172, go_sem, hs]
  exact ⟨rfl, (((hb.alloc (by rw [hs]; exact Nat.le_refl _) _).alloc (by simp [hs]) _).alloc (by simp [hs]; omega) _).alloc (by simp [hs]; omega) _⟩
theorem bmul_any (a b : Int) (ha : Big a) (hb : Big b) (w : World) : Calls Tryz.prog 172 #[bigV a, bigV b] w (GPost (bigV (a * b / 6277101735386680763835789423207666416102355444464034512896 % 115792089237316195423570985008687907853269984665640564039457584007913129639936)) w) := by
  obtain ⟨a0, a1, a2, a3, ⟨ha0, ha1, ha2, ha3⟩, rfl, ea⟩ := big_words ha
  obtain ⟨b0, b1, b2, b3, ⟨hb0, hb1, hb2, hb3⟩, rfl, eb⟩ := big_words hb
  rw [ea, eb]
  have hz : Word 0 := ⟨by omega, by omega⟩
  obtain ⟨p1, c1, u1, v1, e1, m1⟩ := mac2_ex a3 b3 0 0 ha3 hb3 hz hz
  obtain ⟨p2, c2, u2, v2, e2, m2⟩ := mac2_ex a3 b2 0 c1 ha3 hb2 hz v1
  obtain ⟨p3, c3, u3, v3, e3, m3⟩ := mac2_ex a3 b1 0 c2 ha3 hb1 hz v2
  obtain ⟨p4, c4, u4, v4, e4, m4⟩ := mac2_ex a3 b0 0 c3 ha3 hb0 hz v3
  obtain ⟨p5, c5, u5, v5, e5, m5⟩ := mac2_ex a2 b3 p2 0 ha2 hb3 u2 hz
  obtain ⟨p6, c6, u6, v6, e6, m6⟩ := mac2_ex a2 b2 p3 c5 ha2 hb2 u3 v5
  obtain ⟨p7, c7, u7, v7, e7, m7⟩ := mac2_ex a2 b1 p4 c6 ha2 hb1 u4 v6
  obtain ⟨p8, c8, u8, v8, e8, m8⟩ := mac2_ex a2 b0 c4 c7 ha2 hb0 v4 v7
  obtain ⟨p9, c9, u9, v9, e9, m9⟩ := mac2_ex a1 b3 p6 0 ha1 hb3 u6 hz
  obtain ⟨p10, c10, u10, v10, e10, m10⟩ := mac2_ex a1 b2 p7 c9 ha1 hb2 u7 v9
  obtain ⟨p11, c11, u11, v11, e11, m11⟩ := mac2_ex a1 b1 p8 c10 ha1 hb1 u8 v10
  obtain ⟨p12, c12, u12, v12, e12, m12⟩ := mac2_ex a1 b0 c8 c11 ha1 hb0 v8 v11
  obtain ⟨p13, c13, u13, v13, e13, m13⟩ := mac2_ex a0 b3 p10 0 ha0 hb3 u10 hz
  obtain ⟨p14, c14, u14, v14, e14, m14⟩ := mac2_ex a0 b2 p11 c13 ha0 hb2 u11 v13
  obtain ⟨p15, c15, u15, v15, e15, m15⟩ := mac2_ex a0 b1 p12 c14 ha0 hb1 u12 v14
  obtain ⟨p16, c16, u16, v16, e16, m16⟩ := mac2_ex a0 b0 c12 c15 ha0 hb0 v12 v15
  have HM := bmul_walk a0 a1 a2 a3 b0 b1 b2 b3 p1 c1 p2 c2 p3 c3 p4 c4 p5 c5 p6 c6 p7 c7 p8 c8 p9 c9 p10 c10 p11 c11 p12 c12 p13 c13 p14 c14 p15 c15 p16 c16 m1 m2 m3 m4 m5 m6 m7 m8 m9 m10 m11 m12 m13 m14 m15 m16 v4 v8 v12 v16 w
  clear m1 m2 m3 m4 m5 m6 m7 m8 m9 m10 m11 m12 m13 m14 m15 m16
  have hsum : num a0 a1 a2 a3 * num b0 b1 b2 b3 = c16 * 726838724295606890549323807888004534353641360687318060281490199180639288113397923326191050713763565560762521606266177933534601628614656 + p16 * 39402006196394479212279040100143613805079739270465446667948293404245721771497210611414266254884915640806627990306816 + p15 * 2135987035920910082395021706169552114602704522356652769947041607822219725780640550022962086936576 + p14 * 115792089237316195423570985008687907853269984665640564039457584007913129639936 + p13 * 6277101735386680763835789423207666416102355444464034512896 + p9 * 340282366920938463463374607431768211456 + p5 * 18446744073709551616 + p1 := by
    have hex : num a0 a1 a2 a3 * num b0 b1 b2 b3 = a0 * b0 * 39402006196394479212279040100143613805079739270465446667948293404245721771497210611414266254884915640806627990306816 + a0 * b1 * 2135987035920910082395021706169552114602704522356652769947041607822219725780640550022962086936576 + a0 * b2 * 115792089237316195423570985008687907853269984665640564039457584007913129639936 + a0 * b3 * 6277101735386680763835789423207666416102355444464034512896 + a1 * b0 * 2135987035920910082395021706169552114602704522356652769947041607822219725780640550022962086936576 + a1 * b1 * 115792089237316195423570985008687907853269984665640564039457584007913129639936 + a1 * b2 * 6277101735386680763835789423207666416102355444464034512896 + a1 * b3 * 340282366920938463463374607431768211456 + a2 * b0 * 115792089237316195423570985008687907853269984665640564039457584007913129639936 + a2 * b1 * 6277101735386680763835789423207666416102355444464034512896 + a2 * b2 * 340282366920938463463374607431768211456 + a2 * b3 * 18446744073709551616 + a3 * b0 * 6277101735386680763835789423207666416102355444464034512896 + a3 * b1 * 340282366920938463463374607431768211456 + a3 * b2 * 18446744073709551616 + a3 * b3 * 1 := by unfold num; grind
    rw [hex]
    clear hex HM ea eb ha hb hz ha0 ha1 ha2 ha3 hb0 hb1 hb2 hb3 u1 v1 u2 v2 u3 v3 u4 v4 u5 v5 u6 v6 u7 v7 u8 v8 u9 v9 u10 v10 u11 v11 u12 v12 u13 v13 u14 v14 u15 v15 u16 v16
    generalize a0 * b0 = P00 at *
    generalize a0 * b1 = P01 at *
    generalize a0 * b2 = P02 at *
    generalize a0 * b3 = P03 at *
    generalize a1 * b0 = P10 at *
    generalize a1 * b1 = P11 at *
    generalize a1 * b2 = P12 at *
    generalize a1 * b3 = P13 at *
    generalize a2 * b0 = P20 at *
    generalize a2 * b1 = P21 at *
    generalize a2 * b2 = P22 at *
    generalize a2 * b3 = P23 at *
    generalize a3 * b0 = P30 at *
    generalize a3 * b1 = P31 at *
    generalize a3 * b2 = P32 at *
    generalize a3 * b3 = P33 at *
    omega
  have hs : num a0 a1 a2 a3 * num b0 b1 b2 b3 / 6277101735386680763835789423207666416102355444464034512896 % 115792089237316195423570985008687907853269984665640564039457584007913129639936 = num p16 p15 p14 p13 := by
    rw [hsum]
    obtain ⟨_, _⟩ := v16
    obtain ⟨_, _⟩ := u16
    obtain ⟨_, _⟩ := u15
    obtain ⟨_, _⟩ := u14
    obtain ⟨_, _⟩ := u13
    obtain ⟨_, _⟩ := u9
    obtain ⟨_, _⟩ := u5
    obtain ⟨_, _⟩ := u1
    clear HM ea eb ha hb hz ha0 ha1 ha2 ha3 hb0 hb1 hb2 hb3 hsum e1 e2 e3 e4 e5 e6 e7 e8 e9 e10 e11 e12 e13 e14 e15 e16
    unfold num
    omega
  rw [hs, big_num ⟨u16, u15, u14, u13⟩]
  exact HM
end Go.Proofs.YtfilgpifiboccaaGreat

import Derived.Test.YtmlmohcghoelkaaT7
namespace Go.Proofs.Ytmlmohcghoelkaa
open Go.RowKit
theorem keep4 {w w1 : World} {x y z u : Value} {t : TypeId} {B b : Nat} (hb : Below B w w1) (hB : b < B) (h : w.heap[b]? = some (.cells #[x, y, z, u] t (0, 0))) :
    (w1.cell? ⟨b, 0, none⟩ = some x ∧ w1.cell? ⟨b, 1, none⟩ = some y ∧ w1.cell? ⟨b, 2, none⟩ = some z ∧ w1.cell? ⟨b, 3, none⟩ = some u) ∧
    w1.frozen? ⟨b, 0, none⟩ = false ∧ w1.frozen? ⟨b, 1, none⟩ = false ∧ w1.frozen? ⟨b, 2, none⟩ = false ∧ w1.frozen? ⟨b, 3, none⟩ = false := by
  have h1 : w1.heap[b]? = some (.cells #[x, y, z, u] t (0, 0)) := (hb.block b hB).trans h
  refine ⟨⟨?_, ?_, ?_, ?_⟩, ?_, ?_, ?_, ?_⟩
  · simp [World.cell?, h1]
  · simp [World.cell?, h1]
  · simp [World.cell?, h1]
  · simp [World.cell?, h1]
  · simp [World.frozen?, h1]
  · simp [World.frozen?, h1]
  · simp [World.frozen?, h1]
  · simp [World.frozen?, h1]
theorem blk_first (w : World) (o o' : Obj) : ((w.alloc o).alloc o').heap[w.heap.size]? = some o := by
  rw [Below.heap_alloc _ _ _ (by simp), heap_alloc_new]
/-- One place of a product by a word. -/
theorem one_ex (a b c N : Int) (ha : Word a) (hb0 : 0 ≤ b) (hb1 : b ≤ N) (hN : N < 9223372036854775808) (hc0 : 0 ≤ c) (hc1 : c ≤ N) : ∃ hi lo s k t : Int, Word s ∧ (0 ≤ t ∧ t ≤ N) ∧ a * b + c = s + 18446744073709551616 * t ∧
    (∀ w, Calls Try.prog 83 #[.int .u64 a, .int .u64 b] w (fun e w' => e = .returned (.tuple #[.int .u64 hi, .int .u64 lo]) ∧ w' = w)) ∧
    (∀ w, (callFunc 84 #[.int .u64 lo, .int .u64 c, .int .u64 0]).run Try.prog w = .ok (.value (.tuple #[.int .u64 s, .int .u64 k])) w) ∧ IntKind.u64.wrap (hi + k) = t := by
  obtain ⟨a0, a1⟩ := ha
  have hp0 : 0 ≤ a * b := Int.mul_nonneg a0 hb0
  have hp1 : a * b ≤ 18446744073709551615 * N := Int.mul_le_mul (by omega) hb1 hb0 (by decide)
  have hM : ∀ w, Calls Try.prog 83 #[.int .u64 a, .int .u64 b] w fun e w' => e = .returned (.tuple #[.int .u64 (a * b / 18446744073709551616), .int .u64 (a * b % 18446744073709551616)]) ∧ w' = w :=
    fun w => (mul64_any a b ⟨a0, a1⟩ ⟨hb0, by omega⟩ w).mono fun _ _ h => ⟨h.1, h.2.symm⟩
  generalize hP : a * b = P at *
  refine ⟨P / 18446744073709551616, P % 18446744073709551616, (P % 18446744073709551616 + c) % 18446744073709551616, (P % 18446744073709551616 + c) / 18446744073709551616, P / 18446744073709551616 + (P % 18446744073709551616 + c) / 18446744073709551616, ⟨by omega, by omega⟩, ⟨by omega, by omega⟩, by omega, hM, fun w => ?_, ?_⟩
  · have := add64_run (P % 18446744073709551616) c 0 (by omega) hc0 (by omega) w
    simpa using this
  · exact wrap_id _ (by omega) (by omega)
set_option maxRecDepth 100000 in
set_option maxHeartbeats 1000000 in
theorem radians_ex (n : Int) (h0 : 0 ≤ n) (h1 : n ≤ 2700000) :
    ∃ s0 s1 s2 s3 r : Int, (Word s0 ∧ Word s1 ∧ Word s2 ∧ Word s3) ∧ 0 ≤ r ∧ r < 10800000 ∧ (s0 * 6277101735386680763835789423207666416102355444464034512896 + s1 * 340282366920938463463374607431768211456 + s2 * 18446744073709551616 + s3) * 10800000 + r = 363771576891766324280234942777729862653393377328392429958772151117938894466185 * n ∧ ∀ w, Calls Try.prog 64 #[.int .i64 n] w (NumPost w (numD s0 s1 s2 s3)) := by
  obtain ⟨x3, y3, s3, k3, t3, g3, d3, e3, M3, A3, z3⟩ := one_ex 589684135938649225 n 0 2700000 ⟨by omega, by omega⟩ h0 h1 (by omega) (by omega) (by omega)
  obtain ⟨x2, y2, s2, k2, t2, g2, d2, e2, M2, A2, z2⟩ := one_ex 11820040416388919760 n t3 2700000 ⟨by omega, by omega⟩ h0 h1 (by omega) d3.1 d3.2
  obtain ⟨x1, y1, s1, k1, t1, g1, d1, e1, M1, A1, z1⟩ := one_ex 1376283091369227076 n t2 2700000 ⟨by omega, by omega⟩ h0 h1 (by omega) d2.1 d2.2
  obtain ⟨x0, y0, s0, k0, t0, g0, d0, e0, M0, A0, z0⟩ := one_ex 2611923443488327891 n t1 2700000 ⟨by omega, by omega⟩ h0 h1 (by omega) d1.1 d1.2
  obtain ⟨q0, q1, q2, q3, r, hq, hr0, hr1, hq', HD⟩ := ndiv_ex s0 s1 s2 s3 ((t0 + 3 * n) % 10800000) 10800000 g0 g1 g2 g3 (by omega) (by omega) (by omega) (by omega)
  have ht : t0 + 3 * n < 10800000 := by
    obtain ⟨_, _⟩ := g0
    obtain ⟨_, _⟩ := g1
    obtain ⟨_, _⟩ := g2
    obtain ⟨_, _⟩ := g3
    clear hq' HD M0 M1 M2 M3 A0 A1 A2 A3
    omega
  have htm : (t0 + 3 * n) % 10800000 = t0 + 3 * n := Int.emod_eq_of_lt (by omega) ht
  refine ⟨q0, q1, q2, q3, r, hq, hr0, hr1, ?_, fun w => ?_⟩
  · rw [htm] at hq'
    clear HD M0 M1 M2 M3 A0 A1 A2 A3
    omega
  have w1 : IntKind.u64.wrap n = n := wrap_id _ (by omega) (by omega)
  have w2 : IntKind.u64.wrap (3 * n) = 3 * n := wrap_id _ (by omega) (by omega)
  have w3 : IntKind.u64.wrap (t0 + 3 * n) = t0 + 3 * n := wrap_id _ (by omega) (by omega)
  have w4 : (t0 + 3 * n).tmod 10800000 = (t0 + 3 * n) % 10800000 := Int.tmod_eq_emod_of_nonneg (by omega)
  have w5 : IntKind.u64.wrap ((t0 + 3 * n) % 10800000) = (t0 + 3 * n) % 10800000 := wrap_id _ (by omega) (by omega)
  clear htm ht hq hq' hr0 hr1 e0 e1 e2 e3 d0 d1 d2 d3 g0 g1 g2 g3
  generalize (t0 + 3 * n) % 10800000 = m at *
  have M0 := Lib.hid M0
  have M1 := Lib.hid M1
  have M2 := Lib.hid M2
  have M3 := Lib.hid M3
  have HD := Lib.hid HD
  unfold numD at HD
  go_enter Try.func64, Try.ntmps64
  go_wp2
  refine wp_loop_rounds 5 ?_
  rw [rounds_succ]
  go_wp2_with (first | (go_at_call 83; refine (M3.out _).mono ?_; rintro e w' ⟨rfl, rfl⟩))
  rw [rounds_succ]
  go_wp2_with (first | (go_at_call 83; refine (M2.out _).mono ?_; rintro e w' ⟨rfl, rfl⟩))
  rw [rounds_succ]
  go_wp2_with (first | (go_at_call 83; refine (M1.out _).mono ?_; rintro e w' ⟨rfl, rfl⟩))
  rw [rounds_succ]
  go_wp2_with (first | (go_at_call 83; refine (M0.out _).mono ?_; rintro e w' ⟨rfl, rfl⟩))
  rw [rounds_succ]
  go_wp2_with fail
  refine (HD.out _).mono ?_
  rintro e w' ⟨rfl, hb⟩
  obtain ⟨⟨c0, c1, c2, c3⟩, f0, f1, f2, f3⟩ := keep4 hb (by simp; omega) (blk_first w _ _)
  have HB := Lib.hid hb
  have hsz := hb.size
  clear hb
  go_wp2_with fail
  have HF := Lib.hid (show Below w.heap.size w ((((w'.setCell ⟨w.heap.size, 0, none⟩ (.int .u64 q0)).setCell ⟨w.heap.size, 1, none⟩ (.int .u64 q1)).setCell ⟨w.heap.size, 2, none⟩ (.int .u64 q2)).setCell ⟨w.heap.size, 3, none⟩ (.int .u64 q3)) from
    (((((((Below.refl _ _).alloc (Nat.le_refl _) _).alloc (by simp) _).trans (HB.out.mono (by simp; omega))).setCell (Nat.le_refl _) _).setCell (Nat.le_refl _) _).setCell (Nat.le_refl _) _).setCell (Nat.le_refl _) _)
  simp [bodyPost, results, Try.results64, go_sem, c0, c1, c2, c3]
  exact ⟨rfl, HF.out⟩
end Go.Proofs.Ytmlmohcghoelkaa

import Derived.Test.YtfilgpifiboccaaGreatT6
import Derived.Deep.RegionWith
import Derived.RegionCalls
import Derived.Deep.QuietTactic
import Derived.BigQuiet
import Derived.WalkSmall
import Derived.Laws.Cover3
namespace Go.Proofs.YtfilgpifiboccaaGreat
open Go.RowKit
/-- One place of the school's product. -/
structure Mac (a b o c s c' : Int) : Prop where
  out : ∃ hi lo s1 k1 h1 k2 : Int, (∀ w, Calls Tryz.prog 174 #[.int .u64 a, .int .u64 b] w fun e w' => e = .returned (.tuple #[.int .u64 hi, .int .u64 lo]) ∧ w' = w) ∧
    (∀ w, (callFunc 175 #[.int .u64 o, .int .u64 lo, .int .u64 0]).run Tryz.prog w = .ok (.value (.tuple #[.int .u64 s1, .int .u64 k1])) w) ∧ IntKind.u64.wrap (hi + k1) = h1 ∧
    (∀ w, (callFunc 175 #[.int .u64 s1, .int .u64 c, .int .u64 0]).run Tryz.prog w = .ok (.value (.tuple #[.int .u64 s, .int .u64 k2])) w) ∧ IntKind.u64.wrap (h1 + k2) = c'
theorem mac_ex (a b o c : Int) (ha : Word a) (hb : Word b) (ho : Word o) (hc : Word c) : ∃ s c' : Int, Word s ∧ Word c' ∧ o + a * b + c = s + 18446744073709551616 * c' ∧ Mac a b o c s c' := by
  obtain ⟨a0, a1⟩ := ha
  obtain ⟨b0, b1⟩ := hb
  obtain ⟨o0, o1⟩ := ho
  obtain ⟨c0, c1⟩ := hc
  have hp0 : 0 ≤ a * b := Int.mul_nonneg a0 b0
  have hp1 : a * b ≤ 18446744073709551615 * 18446744073709551615 := Int.mul_le_mul (by omega) (by omega) b0 (by decide)
  have hM : ∀ w, Calls Tryz.prog 174 #[.int .u64 a, .int .u64 b] w fun e w' => e = .returned (.tuple #[.int .u64 (a * b / 18446744073709551616), .int .u64 (a * b % 18446744073709551616)]) ∧ w' = w := fun w => (mul64_any a b ⟨a0, a1⟩ ⟨b0, b1⟩ w).mono fun _ _ h => ⟨h.1, h.2.symm⟩
  generalize hP : a * b = P at *
  refine ⟨((o + P % 18446744073709551616) % 18446744073709551616 + c) % 18446744073709551616, P / 18446744073709551616 + (o + P % 18446744073709551616) / 18446744073709551616 + ((o + P % 18446744073709551616) % 18446744073709551616 + c) / 18446744073709551616, ⟨by omega, by omega⟩, ⟨by omega, by omega⟩, by omega,
    ⟨P / 18446744073709551616, P % 18446744073709551616, (o + P % 18446744073709551616) % 18446744073709551616, (o + P % 18446744073709551616) / 18446744073709551616, P / 18446744073709551616 + (o + P % 18446744073709551616) / 18446744073709551616, ((o + P % 18446744073709551616) % 18446744073709551616 + c) / 18446744073709551616, hM, fun w => ?_, ?_, fun w => ?_, ?_⟩⟩
  · have := add64_run o (P % 18446744073709551616) 0 o0 (by omega) (by omega) w
    simpa using this
  · exact wrap_id _ (by omega) (by omega)
  · have := add64_run ((o + P % 18446744073709551616) % 18446744073709551616) c 0 (by omega) c0 (by omega) w
    simpa using this
  · exact wrap_id _ (by omega) (by omega)
theorem drewN_alloc (w : World) (o : Obj) (n : Nat) : (w.alloc o).drewN n = (w.drewN n).alloc o := rfl
/-- The carry of a row before its place (0) and behind it. -/
def CRel (w : World) (W : World → Int → World) (i C : Int) (c k : Value) (wr : World) : Prop :=
  ∃ w1 : World, (w1.heap.size = w.heap.size ∧ Below w.heap.size w w1) ∧ ((k = .int .i64 i ∧ c = .int .u64 C ∧ wr = W w1 0) ∨ (k = .int .i64 (i - 1) ∧ c = .int .u64 0 ∧ wr = W w1 C))
theorem CRel.ways {w : World} {W : World → Int → World} {i C : Int} {c k : Value} {wr : World} (h : CRel w W i C c k wr) (hC : 0 ≤ C) :
    ∃ w1 : World, (w1.heap.size = w.heap.size ∧ Below w.heap.size w w1) ∧ ((0 < C ∧ k = .int .i64 i ∧ c = .int .u64 C ∧ wr = W w1 0) ∨ (∃ k' : Int, (k' = i ∨ k' = i - 1) ∧ k = .int .i64 k' ∧ c = .int .u64 0 ∧ wr = W w1 C)) := by
  obtain ⟨w1, hw, ⟨h1, h2, h3⟩ | ⟨h1, h2, h3⟩⟩ := h
  · rcases Int.lt_or_eq_of_le hC with h | h
    · exact ⟨w1, hw, .inl ⟨h, h1, h2, h3⟩⟩
    · subst h; exact ⟨w1, hw, .inr ⟨i, .inl rfl, h1, h2, h3⟩⟩
  · exact ⟨w1, hw, .inr ⟨i - 1, .inr rfl, h1, h2, h3⟩⟩
theorem drewN_base (w w0 : World) (n : Nat) (h : w.heap.size = w0.heap.size ∧ Below w0.heap.size w0 w) : (w.drewN n).heap.size = w0.heap.size ∧ Below w0.heap.size w0 (w.drewN n) := ⟨h.1, below_drewN h.2 n⟩
def kOf : Value → Int | .int _ x => x | _ => 0
theorem add64_0 (x : Int) (hx : 0 ≤ x) (h : x < 18446744073709551616) (w : World) : (callFunc 175 #[.int .u64 0, .int .u64 x, .int .u64 0]).run Tryz.prog w = .ok (.value (.tuple #[.int .u64 x, .int .u64 0])) w := by
  have := add64_run 0 x 0 (by omega) hx (by omega) w
  rw [this]
  have e1 : (0 + x + 0) % 18446744073709551616 = x := by omega
  have e2 : (0 + x + 0) / 18446744073709551616 = 0 := by omega
  rw [e1, e2]
theorem array_at (a : Option Addr) (w : World) : (Instr.arrayAt 176 (.slice a 4 6)).run Tryz.prog w = .ok (.pointer a) w := run_arrayAt w 176 159 4 a 4 6 (by kernel_rfl) (by decide)
set_option maxRecDepth 100000 in
set_option maxHeartbeats 2000000 in
theorem nmul_walk (a0 a1 a2 a3 b0 b1 b2 b3 p1 c1 p2 c2 p3 c3 p4 c4 p5 c5 p6 c6 p7 c7 p8 c8 p9 c9 p10 c10 p11 c11 p12 c12 p13 c13 : Int) (m1 : Mac a3 b1 0 0 p1 c1) (m2 : Mac a3 b0 0 c1 p2 c2) (m3 : Mac a2 b2 p1 0 p3 c3) (m4 : Mac a2 b1 p2 c3 p4 c4) (m5 : Mac a2 b0 c2 c4 p5 c5) (m6 : Mac a1 b3 p3 0 p6 c6) (m7 : Mac a1 b2 p4 c6 p7 c7) (m8 : Mac a1 b1 p5 c7 p8 c8) (m9 : Mac a1 b0 c5 c8 p9 c9) (m10 : Mac a0 b3 p7 0 p10 c10) (m11 : Mac a0 b2 p8 c10 p11 c11) (m12 : Mac a0 b1 p9 c11 p12 c12) (m13 : Mac a0 b0 c9 c12 p13 c13) (g2 : Word c2) (g5 : Word c5) (g9 : Word c9) (g13 : Word c13) (w : World) : Calls Tryz.prog 183 #[numD a0 a1 a2 a3, numD b0 b1 b2 b3] w (NumPost w (numD c13 p13 p12 p11)) := by
  have m1 := Lib.hid m1
  have m2 := Lib.hid m2
  have m3 := Lib.hid m3
  have m4 := Lib.hid m4
  have m5 := Lib.hid m5
  have m6 := Lib.hid m6
  have m7 := Lib.hid m7
  have m8 := Lib.hid m8
  have m9 := Lib.hid m9
  have m10 := Lib.hid m10
  have m11 := Lib.hid m11
  have m12 := Lib.hid m12
  have m13 := Lib.hid m13
  have g2 := Lib.hid g2
  have g5 := Lib.hid g5
  have g9 := Lib.hid g9
  have g13 := Lib.hid g13
  unfold numD
  go_enter Tryz.func183, Tryz.ntmps183
  go_wp2
  refine wp_loop_rounds 5 ?_
  rw [rounds_succ]
  go_wp2_with fail
  refine wp_loop_rounds 5 ?_
  rw [rounds_succ]
  go_wp2_with fail
  rw [rounds_succ]
  go_wp2_with fail
  rw [rounds_succ]
  go_wp2_with fail
  obtain ⟨hi, lo, s, k, h, l, M, A, x, B, y⟩ := m1.out.out
  have M := Lib.hid M
  go_quiet (first | (go_at_call 174; refine Calls.quiet_of_same (M.out _)))
  simp only [drewN_alloc]
  rename_i nq
  have hd := drewN_base w w nq ⟨rfl, Below.refl _ _⟩
  generalize World.drewN w nq = w1 at *
  obtain ⟨hs, hb⟩ := hd
  go_wp2_with fail
  clear A x B y
  rw [rounds_succ]
  go_wp2_with fail
  obtain ⟨hi, lo, s, k, h, l, M, A, x, B, y⟩ := m2.out.out
  have M := Lib.hid M
  go_quiet (first | (go_at_call 174; refine Calls.quiet_of_same (M.out _)))
  simp only [drewN_alloc]
  rename_i nq
  have hd := drewN_base w1 w nq ⟨hs, hb⟩
  generalize World.drewN w1 nq = w2 at *
  clear hs hb
  obtain ⟨hs, hb⟩ := hd
  go_wp2_with fail
  clear A x B y
  rw [rounds_succ]
  obtain ⟨z0, z1⟩ := g2.out
  have Z := add64_0 c2 z0 z1
  go_wp2_with fail
  go_loopw [7, 13] (fun c k wr => CRel w (fun w1 x => (((w1.alloc (.cells #[.int .u64 a0, .int .u64 a1, .int .u64 a2, .int .u64 a3] 176)).alloc (.cells #[.int .u64 b0, .int .u64 b1, .int .u64 b2, .int .u64 b3] 176)).alloc (.cells #[.int .u64 0, .int .u64 0, .int .u64 0, .int .u64 0] 176)).alloc (.cells #[.int .u64 0, .int .u64 0, .int .u64 0, .int .u64 x, .int .u64 p2, .int .u64 p1] 193)) 3 c2 c k wr) (fun _ k _ => (kOf k + 1).toNat)
  case atStart => exact ⟨_, ⟨hs, hb⟩, .inl ⟨rfl, rfl, rfl⟩⟩
  clear hs hb
  obtain ⟨w3, ⟨hs, hb⟩, ⟨hp, rfl, rfl, rfl⟩ | ⟨k', hk, rfl, rfl, rfl⟩⟩ := hrel.ways z0
  · clear hrel
    go_wp2_with fail
    go_roundw
    case rel => exact ⟨_, ⟨hs, hb⟩, .inr ⟨rfl, rfl, rfl⟩⟩
    case measure => simp [kOf]
  clear hrel
  go_wp2_with fail
  clear Z z0 z1
  rw [rounds_succ]
  go_wp2_with fail
  refine wp_loop_rounds 5 ?_
  rw [rounds_succ]
  go_wp2_with fail
  rw [rounds_succ]
  go_wp2_with fail
  obtain ⟨hi, lo, s, k, h, l, M, A, x, B, y⟩ := m3.out.out
  have M := Lib.hid M
  go_quiet (first | (go_at_call 174; refine Calls.quiet_of_same (M.out _)))
  simp only [drewN_alloc]
  rename_i nq
  have hd := drewN_base w3 w nq ⟨hs, hb⟩
  generalize World.drewN w3 nq = w4 at *
  clear hs hb
  obtain ⟨hs, hb⟩ := hd
  go_wp2_with fail
  clear A x B y
  rw [rounds_succ]
  go_wp2_with fail
  obtain ⟨hi, lo, s, k, h, l, M, A, x, B, y⟩ := m4.out.out
  have M := Lib.hid M
  go_quiet (first | (go_at_call 174; refine Calls.quiet_of_same (M.out _)))
  simp only [drewN_alloc]
  rename_i nq
  have hd := drewN_base w4 w nq ⟨hs, hb⟩
  generalize World.drewN w4 nq = w5 at *
  clear hs hb
  obtain ⟨hs, hb⟩ := hd
  go_wp2_with fail
  clear A x B y
  rw [rounds_succ]
  go_wp2_with fail
  obtain ⟨hi, lo, s, k, h, l, M, A, x, B, y⟩ := m5.out.out
  have M := Lib.hid M
  go_quiet (first | (go_at_call 174; refine Calls.quiet_of_same (M.out _)))
  simp only [drewN_alloc]
  rename_i nq
  have hd := drewN_base w5 w nq ⟨hs, hb⟩
  generalize World.drewN w5 nq = w6 at *
  clear hs hb
  obtain ⟨hs, hb⟩ := hd
  go_wp2_with fail
  clear A x B y
  rw [rounds_succ]
  obtain ⟨z0, z1⟩ := g5.out
  have Z := add64_0 c5 z0 z1
  go_wp2_with fail
  go_loopw [7, 13] (fun c k wr => CRel w (fun w1 x => (((w1.alloc (.cells #[.int .u64 a0, .int .u64 a1, .int .u64 a2, .int .u64 a3] 176)).alloc (.cells #[.int .u64 b0, .int .u64 b1, .int .u64 b2, .int .u64 b3] 176)).alloc (.cells #[.int .u64 0, .int .u64 0, .int .u64 0, .int .u64 0] 176)).alloc (.cells #[.int .u64 0, .int .u64 0, .int .u64 x, .int .u64 p5, .int .u64 p4, .int .u64 p3] 193)) 2 c5 c k wr) (fun _ k _ => (kOf k + 1).toNat)
  case atStart => exact ⟨_, ⟨hs, hb⟩, .inl ⟨rfl, rfl, rfl⟩⟩
  clear hs hb
  obtain ⟨w7, ⟨hs, hb⟩, ⟨hp, rfl, rfl, rfl⟩ | ⟨k', hk, rfl, rfl, rfl⟩⟩ := hrel.ways z0
  · clear hrel
    go_wp2_with fail
    go_roundw
    case rel => exact ⟨_, ⟨hs, hb⟩, .inr ⟨rfl, rfl, rfl⟩⟩
    case measure => simp [kOf]
  clear hrel
  go_wp2_with fail
  clear Z z0 z1
  rw [rounds_succ]
  go_wp2_with fail
  refine wp_loop_rounds 5 ?_
  rw [rounds_succ]
  go_wp2_with fail
  obtain ⟨hi, lo, s, k, h, l, M, A, x, B, y⟩ := m6.out.out
  have M := Lib.hid M
  go_quiet (first | (go_at_call 174; refine Calls.quiet_of_same (M.out _)))
  simp only [drewN_alloc]
  rename_i nq
  have hd := drewN_base w7 w nq ⟨hs, hb⟩
  generalize World.drewN w7 nq = w8 at *
  clear hs hb
  obtain ⟨hs, hb⟩ := hd
  go_wp2_with fail
  clear A x B y
  rw [rounds_succ]
  go_wp2_with fail
  obtain ⟨hi, lo, s, k, h, l, M, A, x, B, y⟩ := m7.out.out
  have M := Lib.hid M
  go_quiet (first | (go_at_call 174; refine Calls.quiet_of_same (M.out _)))
  simp only [drewN_alloc]
  rename_i nq
  have hd := drewN_base w8 w nq ⟨hs, hb⟩
  generalize World.drewN w8 nq = w9 at *
  clear hs hb
  obtain ⟨hs, hb⟩ := hd
  go_wp2_with fail
  clear A x B y
  rw [rounds_succ]
  go_wp2_with fail
  obtain ⟨hi, lo, s, k, h, l, M, A, x, B, y⟩ := m8.out.out
  have M := Lib.hid M
  go_quiet (first | (go_at_call 174; refine Calls.quiet_of_same (M.out _)))
  simp only [drewN_alloc]
  rename_i nq
  have hd := drewN_base w9 w nq ⟨hs, hb⟩
  generalize World.drewN w9 nq = w10 at *
  clear hs hb
  obtain ⟨hs, hb⟩ := hd
  go_wp2_with fail
  clear A x B y
  rw [rounds_succ]
  go_wp2_with fail
  obtain ⟨hi, lo, s, k, h, l, M, A, x, B, y⟩ := m9.out.out
  have M := Lib.hid M
  go_quiet (first | (go_at_call 174; refine Calls.quiet_of_same (M.out _)))
  simp only [drewN_alloc]
  rename_i nq
  have hd := drewN_base w10 w nq ⟨hs, hb⟩
  generalize World.drewN w10 nq = w11 at *
  clear hs hb
  obtain ⟨hs, hb⟩ := hd
  go_wp2_with fail
  clear A x B y
  rw [rounds_succ]
  obtain ⟨z0, z1⟩ := g9.out
  have Z := add64_0 c9 z0 z1
  go_wp2_with fail
  go_loopw [7, 13] (fun c k wr => CRel w (fun w1 x => (((w1.alloc (.cells #[.int .u64 a0, .int .u64 a1, .int .u64 a2, .int .u64 a3] 176)).alloc (.cells #[.int .u64 b0, .int .u64 b1, .int .u64 b2, .int .u64 b3] 176)).alloc (.cells #[.int .u64 0, .int .u64 0, .int .u64 0, .int .u64 0] 176)).alloc (.cells #[.int .u64 0, .int .u64 x, .int .u64 p9, .int .u64 p8, .int .u64 p7, .int .u64 p6] 193)) 1 c9 c k wr) (fun _ k _ => (kOf k + 1).toNat)
  case atStart => exact ⟨_, ⟨hs, hb⟩, .inl ⟨rfl, rfl, rfl⟩⟩
  clear hs hb
  obtain ⟨w12, ⟨hs, hb⟩, ⟨hp, rfl, rfl, rfl⟩ | ⟨k', hk, rfl, rfl, rfl⟩⟩ := hrel.ways z0
  · clear hrel
    go_wp2_with fail
    go_roundw
    case rel => exact ⟨_, ⟨hs, hb⟩, .inr ⟨rfl, rfl, rfl⟩⟩
    case measure => simp [kOf]
  clear hrel
  go_wp2_with fail
  clear Z z0 z1
  rw [rounds_succ]
  go_wp2_with fail
  refine wp_loop_rounds 5 ?_
  rw [rounds_succ]
  go_wp2_with fail
  obtain ⟨hi, lo, s, k, h, l, M, A, x, B, y⟩ := m10.out.out
  have M := Lib.hid M
  go_quiet (first | (go_at_call 174; refine Calls.quiet_of_same (M.out _)))
  simp only [drewN_alloc]
  rename_i nq
  have hd := drewN_base w12 w nq ⟨hs, hb⟩
  generalize World.drewN w12 nq = w13 at *
  clear hs hb
  obtain ⟨hs, hb⟩ := hd
  go_wp2_with fail
  clear A x B y
  rw [rounds_succ]
  go_wp2_with fail
  obtain ⟨hi, lo, s, k, h, l, M, A, x, B, y⟩ := m11.out.out
  have M := Lib.hid M
  go_quiet (first | (go_at_call 174; refine Calls.quiet_of_same (M.out _)))
  simp only [drewN_alloc]
  rename_i nq
  have hd := drewN_base w13 w nq ⟨hs, hb⟩
  generalize World.drewN w13 nq = w14 at *
  clear hs hb
  obtain ⟨hs, hb⟩ := hd
  go_wp2_with fail
  clear A x B y
  rw [rounds_succ]
  go_wp2_with fail
  obtain ⟨hi, lo, s, k, h, l, M, A, x, B, y⟩ := m12.out.out
  have M := Lib.hid M
  go_quiet (first | (go_at_call 174; refine Calls.quiet_of_same (M.out _)))
  simp only [drewN_alloc]
  rename_i nq
  have hd := drewN_base w14 w nq ⟨hs, hb⟩
  generalize World.drewN w14 nq = w15 at *
  clear hs hb
  obtain ⟨hs, hb⟩ := hd
  go_wp2_with fail
  clear A x B y
  rw [rounds_succ]
  go_wp2_with fail
  obtain ⟨hi, lo, s, k, h, l, M, A, x, B, y⟩ := m13.out.out
  have M := Lib.hid M
  go_quiet (first | (go_at_call 174; refine Calls.quiet_of_same (M.out _)))
  simp only [drewN_alloc]
  rename_i nq
  have hd := drewN_base w15 w nq ⟨hs, hb⟩
  generalize World.drewN w15 nq = w16 at *
  clear hs hb
  obtain ⟨hs, hb⟩ := hd
  go_wp2_with fail
  clear A x B y
  rw [rounds_succ]
  obtain ⟨z0, z1⟩ := g13.out
  have Z := add64_0 c13 z0 z1
  go_wp2_with fail
  go_loopw [7, 13] (fun c k wr => CRel w (fun w1 x => (((w1.alloc (.cells #[.int .u64 a0, .int .u64 a1, .int .u64 a2, .int .u64 a3] 176)).alloc (.cells #[.int .u64 b0, .int .u64 b1, .int .u64 b2, .int .u64 b3] 176)).alloc (.cells #[.int .u64 0, .int .u64 0, .int .u64 0, .int .u64 0] 176)).alloc (.cells #[.int .u64 x, .int .u64 p13, .int .u64 p12, .int .u64 p11, .int .u64 p10, .int .u64 p6] 193)) 0 c13 c k wr) (fun _ k _ => (kOf k + 1).toNat)
  case atStart => exact ⟨_, ⟨hs, hb⟩, .inl ⟨rfl, rfl, rfl⟩⟩
  clear hs hb
  obtain ⟨w17, ⟨hs, hb⟩, ⟨hp, rfl, rfl, rfl⟩ | ⟨k', hk, rfl, rfl, rfl⟩⟩ := hrel.ways z0
  · clear hrel
    go_wp2_with fail
    go_roundw
    case rel => exact ⟨_, ⟨hs, hb⟩, .inr ⟨rfl, rfl, rfl⟩⟩
    case measure => simp [kOf]
  clear hrel
  have HA := array_at
  rcases hk with rfl | rfl
  · go_wp2_with fail
    rw [rounds_succ]
    go_wp2_with fail
    simp [bodyPost, results, Tryz.results183, go_sem, hs]
    exact ⟨rfl, (((hb.alloc (by rw [hs]; exact Nat.le_refl _) _).alloc (by simp [hs]) _).alloc (by simp [hs]; omega) _).alloc (by simp [hs]; omega) _⟩
  · go_wp2_with fail
    rw [rounds_succ]
    go_wp2_with fail
    simp [bodyPost, results, Tryz.results183, go_sem, hs]
    exact ⟨rfl, (((hb.alloc (by rw [hs]; exact Nat.le_refl _) _).alloc (by simp [hs]) _).alloc (by simp [hs]; omega) _).alloc (by simp [hs]; omega) _⟩
theorem nmul_ex (a0 a1 a2 a3 b0 b1 b2 b3 : Int) (ha0 : Word a0) (ha1 : Word a1) (ha2 : Word a2) (ha3 : Word a3) (hb0 : Word b0) (hb1 : Word b1) (hb2 : Word b2) (hb3 : Word b3) :
    ∃ s0 s1 s2 s3 : Int, (Word s0 ∧ Word s1 ∧ Word s2 ∧ Word s3) ∧ (s0 * 6277101735386680763835789423207666416102355444464034512896 + s1 * 340282366920938463463374607431768211456 + s2 * 18446744073709551616 + s3) * 115792089237316195423570985008687907853269984665640564039457584007913129639936 ≤ (a0 * 6277101735386680763835789423207666416102355444464034512896 + a1 * 340282366920938463463374607431768211456 + a2 * 18446744073709551616 + a3) * (b0 * 6277101735386680763835789423207666416102355444464034512896 + b1 * 340282366920938463463374607431768211456 + b2 * 18446744073709551616 + b3) ∧ (a0 * 6277101735386680763835789423207666416102355444464034512896 + a1 * 340282366920938463463374607431768211456 + a2 * 18446744073709551616 + a3) * (b0 * 6277101735386680763835789423207666416102355444464034512896 + b1 * 340282366920938463463374607431768211456 + b2 * 18446744073709551616 + b3) < ((s0 * 6277101735386680763835789423207666416102355444464034512896 + s1 * 340282366920938463463374607431768211456 + s2 * 18446744073709551616 + s3) + 2) * 115792089237316195423570985008687907853269984665640564039457584007913129639936 ∧ ∀ w, Calls Tryz.prog 183 #[numD a0 a1 a2 a3, numD b0 b1 b2 b3] w (NumPost w (numD s0 s1 s2 s3)) := by
  have hz : Word 0 := ⟨by omega, by omega⟩
  obtain ⟨p1, c1, u1, v1, e1, m1⟩ := mac_ex a3 b1 0 0 ha3 hb1 hz hz
  obtain ⟨p2, c2, u2, v2, e2, m2⟩ := mac_ex a3 b0 0 c1 ha3 hb0 hz v1
  obtain ⟨p3, c3, u3, v3, e3, m3⟩ := mac_ex a2 b2 p1 0 ha2 hb2 u1 hz
  obtain ⟨p4, c4, u4, v4, e4, m4⟩ := mac_ex a2 b1 p2 c3 ha2 hb1 u2 v3
  obtain ⟨p5, c5, u5, v5, e5, m5⟩ := mac_ex a2 b0 c2 c4 ha2 hb0 v2 v4
  obtain ⟨p6, c6, u6, v6, e6, m6⟩ := mac_ex a1 b3 p3 0 ha1 hb3 u3 hz
  obtain ⟨p7, c7, u7, v7, e7, m7⟩ := mac_ex a1 b2 p4 c6 ha1 hb2 u4 v6
  obtain ⟨p8, c8, u8, v8, e8, m8⟩ := mac_ex a1 b1 p5 c7 ha1 hb1 u5 v7
  obtain ⟨p9, c9, u9, v9, e9, m9⟩ := mac_ex a1 b0 c5 c8 ha1 hb0 v5 v8
  obtain ⟨p10, c10, u10, v10, e10, m10⟩ := mac_ex a0 b3 p7 0 ha0 hb3 u7 hz
  obtain ⟨p11, c11, u11, v11, e11, m11⟩ := mac_ex a0 b2 p8 c10 ha0 hb2 u8 v10
  obtain ⟨p12, c12, u12, v12, e12, m12⟩ := mac_ex a0 b1 p9 c11 ha0 hb1 u9 v11
  obtain ⟨p13, c13, u13, v13, e13, m13⟩ := mac_ex a0 b0 c9 c12 ha0 hb0 v9 v12
  have HM := fun w => nmul_walk a0 a1 a2 a3 b0 b1 b2 b3 p1 c1 p2 c2 p3 c3 p4 c4 p5 c5 p6 c6 p7 c7 p8 c8 p9 c9 p10 c10 p11 c11 p12 c12 p13 c13 m1 m2 m3 m4 m5 m6 m7 m8 m9 m10 m11 m12 m13 v2 v5 v9 v13 w
  clear m1 m2 m3 m4 m5 m6 m7 m8 m9 m10 m11 m12 m13
  refine ⟨c13, p13, p12, p11, ⟨v13, u13, u12, u11⟩, ?_, ?_, HM⟩
  · clear HM
    have hex : (a0 * 6277101735386680763835789423207666416102355444464034512896 + a1 * 340282366920938463463374607431768211456 + a2 * 18446744073709551616 + a3) * (b0 * 6277101735386680763835789423207666416102355444464034512896 + b1 * 340282366920938463463374607431768211456 + b2 * 18446744073709551616 + b3) = a0 * b0 * 39402006196394479212279040100143613805079739270465446667948293404245721771497210611414266254884915640806627990306816 + a0 * b1 * 2135987035920910082395021706169552114602704522356652769947041607822219725780640550022962086936576 + a0 * b2 * 115792089237316195423570985008687907853269984665640564039457584007913129639936 + a0 * b3 * 6277101735386680763835789423207666416102355444464034512896 + a1 * b0 * 2135987035920910082395021706169552114602704522356652769947041607822219725780640550022962086936576 + a1 * b1 * 115792089237316195423570985008687907853269984665640564039457584007913129639936 + a1 * b2 * 6277101735386680763835789423207666416102355444464034512896 + a1 * b3 * 340282366920938463463374607431768211456 + a2 * b0 * 115792089237316195423570985008687907853269984665640564039457584007913129639936 + a2 * b1 * 6277101735386680763835789423207666416102355444464034512896 + a2 * b2 * 340282366920938463463374607431768211456 + a2 * b3 * 18446744073709551616 + a3 * b0 * 6277101735386680763835789423207666416102355444464034512896 + a3 * b1 * 340282366920938463463374607431768211456 + a3 * b2 * 18446744073709551616 + a3 * b3 * 1 := by grind
    rw [hex]
    clear hex
    have n23 : 0 ≤ a2 * b3 := Int.mul_nonneg ha2.1 hb3.1
    have x23 : a2 * b3 ≤ 18446744073709551615 * 18446744073709551615 := Int.mul_le_mul (by have := ha2.2; omega) (by have := hb3.2; omega) hb3.1 (by decide)
    have n32 : 0 ≤ a3 * b2 := Int.mul_nonneg ha3.1 hb2.1
    have x32 : a3 * b2 ≤ 18446744073709551615 * 18446744073709551615 := Int.mul_le_mul (by have := ha3.2; omega) (by have := hb2.2; omega) hb2.1 (by decide)
    have n33 : 0 ≤ a3 * b3 := Int.mul_nonneg ha3.1 hb3.1
    have x33 : a3 * b3 ≤ 18446744073709551615 * 18446744073709551615 := Int.mul_le_mul (by have := ha3.2; omega) (by have := hb3.2; omega) hb3.1 (by decide)
    obtain ⟨r4, R4⟩ := u10
    obtain ⟨r5, R5⟩ := u6
    clear ha0 ha1 ha2 ha3 hb0 hb1 hb2 hb3
    generalize a0 * b0 = P00 at *
    generalize a0 * b1 = P01 at *
    generalize a0 * b2 = P02 at *
    generalize a0 * b3 = P03 at *
    generalize a1 * b0 = P10 at *
    generalize a1 * b1 = P11 at *
    generalize a1 * b2 = P12 at *
    generalize a1 * b3 = P13 at *
    generalize a2 * b0 = P20 at *
    generalize a2 * b1 = P21 at *
    generalize a2 * b2 = P22 at *
    generalize a2 * b3 = P23 at *
    generalize a3 * b0 = P30 at *
    generalize a3 * b1 = P31 at *
    generalize a3 * b2 = P32 at *
    generalize a3 * b3 = P33 at *
    clear hz
    omega
  · clear HM
    have hex : (a0 * 6277101735386680763835789423207666416102355444464034512896 + a1 * 340282366920938463463374607431768211456 + a2 * 18446744073709551616 + a3) * (b0 * 6277101735386680763835789423207666416102355444464034512896 + b1 * 340282366920938463463374607431768211456 + b2 * 18446744073709551616 + b3) = a0 * b0 * 39402006196394479212279040100143613805079739270465446667948293404245721771497210611414266254884915640806627990306816 + a0 * b1 * 2135987035920910082395021706169552114602704522356652769947041607822219725780640550022962086936576 + a0 * b2 * 115792089237316195423570985008687907853269984665640564039457584007913129639936 + a0 * b3 * 6277101735386680763835789423207666416102355444464034512896 + a1 * b0 * 2135987035920910082395021706169552114602704522356652769947041607822219725780640550022962086936576 + a1 * b1 * 115792089237316195423570985008687907853269984665640564039457584007913129639936 + a1 * b2 * 6277101735386680763835789423207666416102355444464034512896 + a1 * b3 * 340282366920938463463374607431768211456 + a2 * b0 * 115792089237316195423570985008687907853269984665640564039457584007913129639936 + a2 * b1 * 6277101735386680763835789423207666416102355444464034512896 + a2 * b2 * 340282366920938463463374607431768211456 + a2 * b3 * 18446744073709551616 + a3 * b0 * 6277101735386680763835789423207666416102355444464034512896 + a3 * b1 * 340282366920938463463374607431768211456 + a3 * b2 * 18446744073709551616 + a3 * b3 * 1 := by grind
    rw [hex]
    clear hex
    have n23 : 0 ≤ a2 * b3 := Int.mul_nonneg ha2.1 hb3.1
    have x23 : a2 * b3 ≤ 18446744073709551615 * 18446744073709551615 := Int.mul_le_mul (by have := ha2.2; omega) (by have := hb3.2; omega) hb3.1 (by decide)
    have n32 : 0 ≤ a3 * b2 := Int.mul_nonneg ha3.1 hb2.1
    have x32 : a3 * b2 ≤ 18446744073709551615 * 18446744073709551615 := Int.mul_le_mul (by have := ha3.2; omega) (by have := hb2.2; omega) hb2.1 (by decide)
    have n33 : 0 ≤ a3 * b3 := Int.mul_nonneg ha3.1 hb3.1
    have x33 : a3 * b3 ≤ 18446744073709551615 * 18446744073709551615 := Int.mul_le_mul (by have := ha3.2; omega) (by have := hb3.2; omega) hb3.1 (by decide)
    obtain ⟨r4, R4⟩ := u10
    obtain ⟨r5, R5⟩ := u6
    clear ha0 ha1 ha2 ha3 hb0 hb1 hb2 hb3
    generalize a0 * b0 = P00 at *
    generalize a0 * b1 = P01 at *
    generalize a0 * b2 = P02 at *
    generalize a0 * b3 = P03 at *
    generalize a1 * b0 = P10 at *
    generalize a1 * b1 = P11 at *
    generalize a1 * b2 = P12 at *
    generalize a1 * b3 = P13 at *
    generalize a2 * b0 = P20 at *
    generalize a2 * b1 = P21 at *
    generalize a2 * b2 = P22 at *
    generalize a2 * b3 = P23 at *
    generalize a3 * b0 = P30 at *
    generalize a3 * b1 = P31 at *
    generalize a3 * b2 = P32 at *
    generalize a3 * b3 = P33 at *
    clear hz
    omega
end Go.Proofs.YtfilgpifiboccaaGreat

import Derived.Test.YtmlmohcghoelkaaT2
import Derived.LoopN
import Derived.WalkSpells
import Derived.StillTactics
import Derived.Deep.RegionWith
namespace Go.Proofs.Ytmlmohcghoelkaa
open Go.RowKit
/-- A number's value. -/
def numD (a0 a1 a2 a3 : Int) : Value := .agg #[.int .u64 a0, .int .u64 a1, .int .u64 a2, .int .u64 a3]
def Word (x : Int) : Prop := 0 ≤ x ∧ x < 18446744073709551616
theorem sub64_ex (x y b : Int) (hx : Word x) (hy : Word y) (hb : 0 ≤ b ∧ b ≤ 1) : ∃ s c : Int, Word s ∧ (0 ≤ c ∧ c ≤ 1) ∧ s = x - y - b + 18446744073709551616 * c ∧ ∀ w, (callFunc 89 #[.int .u64 x, .int .u64 y, .int .u64 b]).run Try.prog w = .ok (.value (.tuple #[.int .u64 s, .int .u64 c])) w := by
  obtain ⟨x1, x2⟩ := hx
  obtain ⟨y1, y2⟩ := hy
  refine ⟨subV x y b, subB x y b, ?_, ?_, ?_, fun w => sub64_run x y b x1 ⟨y1, by omega⟩ hb (by omega) w⟩
  · unfold subV Word; omega
  · unfold subB; split <;> omega
  · unfold subV subB; split <;> omega
def NumPost (w : World) (v : Value) (e : Ending) (w' : World) : Prop := e = .returned v ∧ Below w.heap.size w w'
set_option maxHeartbeats 400000 in
theorem sub_ex (a0 a1 a2 a3 b0 b1 b2 b3 : Int) (ha0 : Word a0) (ha1 : Word a1) (ha2 : Word a2) (ha3 : Word a3) (hb0 : Word b0) (hb1 : Word b1) (hb2 : Word b2) (hb3 : Word b3) :
    ∃ s0 s1 s2 s3 c : Int, (Word s0 ∧ Word s1 ∧ Word s2 ∧ Word s3) ∧ (0 ≤ c ∧ c ≤ 1) ∧
      s0 * 6277101735386680763835789423207666416102355444464034512896 + s1 * 340282366920938463463374607431768211456 + s2 * 18446744073709551616 + s3 = a0 * 6277101735386680763835789423207666416102355444464034512896 + a1 * 340282366920938463463374607431768211456 + a2 * 18446744073709551616 + a3 - (b0 * 6277101735386680763835789423207666416102355444464034512896 + b1 * 340282366920938463463374607431768211456 + b2 * 18446744073709551616 + b3) + 115792089237316195423570985008687907853269984665640564039457584007913129639936 * c ∧
      ∀ w, Calls Try.prog 65 #[numD a0 a1 a2 a3, numD b0 b1 b2 b3] w (NumPost w (numD s0 s1 s2 s3)) := by
  obtain ⟨s3, c3, g3, d3, e3, E3⟩ := sub64_ex a3 b3 0 ha3 hb3 (by omega)
  obtain ⟨s2, c2, g2, d2, e2, E2⟩ := sub64_ex a2 b2 c3 ha2 hb2 d3
  obtain ⟨s1, c1, g1, d1, e1, E1⟩ := sub64_ex a1 b1 c2 ha1 hb1 d2
  obtain ⟨s0, c0, g0, d0, e0, E0⟩ := sub64_ex a0 b0 c1 ha0 hb0 d1
  refine ⟨s0, s1, s2, s3, c0, ⟨g0, g1, g2, g3⟩, d0, by omega, fun w => ?_⟩
  clear g0 g1 g2 g3 d0 d1 d2 d3 e0 e1 e2 e3 ha0 ha1 ha2 ha3 hb0 hb1 hb2 hb3
  have HP := Lib.hid (show ∀ c1 c2 : Array Value, NumPost w (numD s0 s1 s2 s3) (.returned (numD s0 s1 s2 s3)) (((w.alloc (.cells c1 80)).alloc (.cells c2 80)).alloc (.cells #[.int .u64 s0, .int .u64 s1, .int .u64 s2, .int .u64 s3] 80)).drew.drew.drew.drew from fun c1 c2 => ⟨rfl, ((((((Below.refl _ _).alloc (Nat.le_refl _) _).alloc (by simp) _).alloc (by simp; omega) _).drew).drew).drew.drew⟩)
  unfold numD at HP ⊢
  go_enter Try.func65, Try.ntmps65
  go_wp2
  refine wp_loop_rounds 5 ?_
  rw [rounds_succ]
  go_wp2
  go_region
  go_wp2
  rw [rounds_succ]
  go_wp2
  go_region
  go_wp2
  rw [rounds_succ]
  go_wp2
  go_region
  go_wp2
  rw [rounds_succ]
  go_wp2
  go_region
  go_wp2
  rw [rounds_succ]
  go_wp2
  simp [bodyPost, results, Try.results65, go_sem]
  exact HP.out _ _
end Go.Proofs.Ytmlmohcghoelkaa

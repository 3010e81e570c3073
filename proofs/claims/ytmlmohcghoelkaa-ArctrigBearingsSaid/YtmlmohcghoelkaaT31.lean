import Derived.Test.YtmlmohcghoelkaaT30
namespace Go.Proofs.Ytmlmohcghoelkaa
open Go.RowKit
set_option maxRecDepth 100000 in
set_option maxHeartbeats 1000000 in
theorem circle_high (k : Nat) (hk : 2700000 < k) (hk2 : k ≤ 5400000) (w : World) : Calls Try.prog 59 #[.int .i64 (k : Int)] w (GPost (.tuple #[bigV (cosL (5400000 - k) : Int), bigV (sinL (5400000 - k) : Int)]) w) := by
  have P1 := circle_low (5400000 - k) (by omega)
  rw [show ((5400000 - k : Nat) : Int) = 5400000 - (k : Int) by omega] at P1
  have hs1 := serN_lt 300 true (angN (5400000 - k)) (angN (5400000 - k)) (sqN (5400000 - k)) 1 (by have := angN_lt (5400000 - k) (by omega); omega)
  have hs2 := serN_lt 300 true 6277101735386680763835789423207666416102355444464034512896 6277101735386680763835789423207666416102355444464034512896 (sqN (5400000 - k)) 0 (by omega)
  change sinL (5400000 - k) < _ at hs1
  change cosL (5400000 - k) < _ at hs2
  obtain ⟨s0, s1, s2, s3, _, _, es⟩ := big_words (V := (sinL (5400000 - k) : Int)) ⟨by omega, by omega⟩
  obtain ⟨c0, c1, c2, c3, _, _, ec⟩ := big_words (V := (cosL (5400000 - k) : Int)) ⟨by omega, by omega⟩
  rw [es, ec] at P1
  rw [es, ec]
  replace P1 := Lib.hid P1
  clear hs1 hs2 es ec
  have K2 := Lib.hid (show Blk _ w.heap.size 0 0 0 0 from blk2_first w (.cells #[.int .u64 0, .int .u64 0, .int .u64 0, .int .u64 0] 73) (.cells #[.int .u64 0, .int .u64 0, .int .u64 0, .int .u64 0] 73))
  have K3 := Lib.hid (show Blk _ (w.heap.size + 1) 0 0 0 0 from blk2_second w (.cells #[.int .u64 0, .int .u64 0, .int .u64 0, .int .u64 0] 73) (.cells #[.int .u64 0, .int .u64 0, .int .u64 0, .int .u64 0] 73))
  have HB := Lib.hid (((Below.refl w.heap.size w).alloc (Nat.le_refl _) (.cells #[.int .u64 0, .int .u64 0, .int .u64 0, .int .u64 0] 73)).alloc (by simp) (.cells #[.int .u64 0, .int .u64 0, .int .u64 0, .int .u64 0] 73))
  unfold numD at P1 ⊢
  go_enter Try.func59, Try.ntmps59
  go_wp2_with fail
  refine (P1.out _).mono ?_
  rintro e w1 ⟨rfl, hb⟩
  have k2 := blk_below hb K2.out
  have k3 := blk_below hb K3.out
  have l2 := k2.lt
  have l3 := k3.lt
  obtain ⟨⟨a20, a21, a22, a23⟩, f20, f21, f22, f23⟩ := keepB k2
  obtain ⟨⟨a30, a31, a32, a33⟩, f30, f31, f32, f33⟩ := keepB k3
  have K2 := Lib.hid ((k2.other (b' := w.heap.size + 1) (by omega) (.int .u64 s0) (.int .u64 s1) (.int .u64 s2) (.int .u64 s3)).write c0 c1 c2 c3)
  have K3 := Lib.hid ((k3.write s0 s1 s2 s3).other (b' := w.heap.size) (by omega) (.int .u64 c0) (.int .u64 c1) (.int .u64 c2) (.int .u64 c3))
  have HB := Lib.hid (((((((((HB.out.trans (hb.mono HB.out.size)).setCell (p := ⟨w.heap.size + 1, 0, none⟩) (by first | exact Nat.le_refl _ | simp) (.int .u64 s0)).setCell (p := ⟨w.heap.size + 1, 1, none⟩) (by first | exact Nat.le_refl _ | simp) (.int .u64 s1)).setCell (p := ⟨w.heap.size + 1, 2, none⟩) (by first | exact Nat.le_refl _ | simp) (.int .u64 s2)).setCell (p := ⟨w.heap.size + 1, 3, none⟩) (by first | exact Nat.le_refl _ | simp) (.int .u64 s3)).setCell (p := ⟨w.heap.size, 0, none⟩) (by first | exact Nat.le_refl _ | simp) (.int .u64 c0)).setCell (p := ⟨w.heap.size, 1, none⟩) (by first | exact Nat.le_refl _ | simp) (.int .u64 c1)).setCell (p := ⟨w.heap.size, 2, none⟩) (by first | exact Nat.le_refl _ | simp) (.int .u64 c2)).setCell (p := ⟨w.heap.size, 3, none⟩) (by first | exact Nat.le_refl _ | simp) (.int .u64 c3))
  clear hb k2 k3
  go_wp2_with fail
  generalize ((((((((w1).setCell ⟨w.heap.size + 1, 0, none⟩ (.int .u64 s0)).setCell ⟨w.heap.size + 1, 1, none⟩ (.int .u64 s1)).setCell ⟨w.heap.size + 1, 2, none⟩ (.int .u64 s2)).setCell ⟨w.heap.size + 1, 3, none⟩ (.int .u64 s3)).setCell ⟨w.heap.size, 0, none⟩ (.int .u64 c0)).setCell ⟨w.heap.size, 1, none⟩ (.int .u64 c1)).setCell ⟨w.heap.size, 2, none⟩ (.int .u64 c2)).setCell ⟨w.heap.size, 3, none⟩ (.int .u64 c3) = w5 at *
  have l2 := K2.out.lt
  have l3 := K3.out.lt
  obtain ⟨⟨a20, a21, a22, a23⟩, f20, f21, f22, f23⟩ := keepB K2.out
  obtain ⟨⟨a30, a31, a32, a33⟩, f30, f31, f32, f33⟩ := keepB K3.out
  go_region_with fail
  all_goals (
    have k2 := (K2.out.write c0 c1 c2 c3).other (b' := w.heap.size + 1) (by omega) (.int .u64 s0) (.int .u64 s1) (.int .u64 s2) (.int .u64 s3)
    have k3 := (K3.out.other (b' := w.heap.size) (by omega) (.int .u64 c0) (.int .u64 c1) (.int .u64 c2) (.int .u64 c3)).write s0 s1 s2 s3
    obtain ⟨⟨r0, r1, r2, r3⟩, g0, g1, g2, g3⟩ := keepB k2
    obtain ⟨⟨r4, r5, r6, r7⟩, g4, g5, g6, g7⟩ := keepB k3
    have HF := Lib.hid (((((((((HB.out).setCell (p := ⟨w.heap.size, 0, none⟩) (by first | exact Nat.le_refl _ | simp) (.int .u64 c0)).setCell (p := ⟨w.heap.size, 1, none⟩) (by first | exact Nat.le_refl _ | simp) (.int .u64 c1)).setCell (p := ⟨w.heap.size, 2, none⟩) (by first | exact Nat.le_refl _ | simp) (.int .u64 c2)).setCell (p := ⟨w.heap.size, 3, none⟩) (by first | exact Nat.le_refl _ | simp) (.int .u64 c3)).setCell (p := ⟨w.heap.size + 1, 0, none⟩) (by first | exact Nat.le_refl _ | simp) (.int .u64 s0)).setCell (p := ⟨w.heap.size + 1, 1, none⟩) (by first | exact Nat.le_refl _ | simp) (.int .u64 s1)).setCell (p := ⟨w.heap.size + 1, 2, none⟩) (by first | exact Nat.le_refl _ | simp) (.int .u64 s2)).setCell (p := ⟨w.heap.size + 1, 3, none⟩) (by first | exact Nat.le_refl _ | simp) (.int .u64 s3))
    clear k2 k3
    go_wp2
    refine bodyPost_ret (v := .tuple #[numD c0 c1 c2 c3, numD s0 s1 s2 s3]) (by simp [results, Try.results59, go_sem, numD, r0, r1, r2, r3, r4, r5, r6, r7]) rfl ⟨rfl, ?_⟩
    exact HF.out.drew)
theorem circle_any (k : Nat) (hk : k ≤ 5400000) (w : World) : Calls Try.prog 59 #[.int .i64 (k : Int)] w (GPost (.tuple #[bigV (sinN k : Int), bigV (cosN k : Int)]) w) := by
  unfold sinN cosN
  rcases Nat.lt_or_ge 2700000 k with h | h
  · rw [if_neg (by omega), if_neg (by omega)]; exact circle_high k h hk w
  · rw [if_pos h, if_pos h]; exact circle_low k h w
end Go.Proofs.Ytmlmohcghoelkaa

import Derived.Test.YtmididlfnajhiaaGreatDoorT29
namespace Go.Proofs.YtmididlfnajhiaaGreatDoor
open Go.RowKit
def angN (k : Nat) : Nat := 19720096697726538562396133364228268891463450865190089732560 * k / 10800000
def sqN (k : Nat) : Nat := angN k * angN k / 6277101735386680763835789423207666416102355444464034512896
def sinL (k : Nat) : Nat := serN 300 true (angN k) (angN k) (sqN k) 1
def cosL (k : Nat) : Nat := serN 300 true 6277101735386680763835789423207666416102355444464034512896 6277101735386680763835789423207666416102355444464034512896 (sqN k) 0
def sinN (k : Nat) : Nat := if k ≤ 2700000 then sinL k else cosL (5400000 - k)
def cosN (k : Nat) : Nat := if k ≤ 2700000 then cosL k else sinL (5400000 - k)
theorem angN_lt (k : Nat) (hk : k ≤ 2700000) : angN k < 6277101735386680763835789423207666416102355444464034512896 := by unfold angN; omega
theorem sqN_lt (k : Nat) (hk : k ≤ 2700000) : sqN k < 6277101735386680763835789423207666416102355444464034512896 := by
  have h := angN_lt k hk
  unfold sqN
  generalize angN k = t at *
  have : t * t ≤ t * 6277101735386680763835789423207666416102355444464034512896 := Nat.mul_le_mul_left _ (by omega)
  generalize t * t = P at *
  omega
theorem serN_lt : ∀ (f : Nat) (m : Bool) (s t q n : Nat), s < 115792089237316195423570985008687907853269984665640564039457584007913129639936 → serN f m s t q n < 115792089237316195423570985008687907853269984665640564039457584007913129639936
  | 0, _, s, _, _, _, h => h
  | f + 1, m, s, t, q, n, h => by
    unfold serN
    split
    · exact h
    · exact serN_lt f _ _ _ _ _ (by unfold serS; split <;> omega)
set_option maxRecDepth 100000 in
set_option maxHeartbeats 1000000 in
theorem circle_low (k : Nat) (hk : k ≤ 2700000) (w : World) : Calls Tryz.prog 226 #[.int .i64 (k : Int)] w (GPost (.tuple #[bigV (sinL k : Int), bigV (cosL k : Int)]) w) := by
  have ht := angN_lt k hk
  have hq := sqN_lt k hk
  have P1 := pi_any
  have P2 := btimes_any 19720096697726538562396133364228268891463450865190089732560 (k : Int) ⟨by omega, by omega⟩ (by omega) (by omega)
  obtain ⟨e0, e1, e2, e3, _, _, ee⟩ := big_words (V := 19720096697726538562396133364228268891463450865190089732560) ⟨by omega, by omega⟩
  have hP : 19720096697726538562396133364228268891463450865190089732560 * (k : Int) % 115792089237316195423570985008687907853269984665640564039457584007913129639936 = 19720096697726538562396133364228268891463450865190089732560 * (k : Int) := by omega
  obtain ⟨m0, m1, m2, m3, _, _, em⟩ := big_words (V := 19720096697726538562396133364228268891463450865190089732560 * (k : Int)) ⟨by omega, by omega⟩
  have P3 := bover_any (19720096697726538562396133364228268891463450865190089732560 * (k : Int)) 10800000 ⟨by omega, by omega⟩ (by omega) (by omega)
  have hA : 19720096697726538562396133364228268891463450865190089732560 * (k : Int) / 10800000 = (angN k : Int) := by unfold angN; rw [Int.natCast_ediv, Int.natCast_mul]; rfl
  obtain ⟨t0, t1, t2, t3, _, _, et⟩ := big_words (V := (angN k : Int)) ⟨by omega, by omega⟩
  have P4 := bmul_any (angN k : Int) (angN k : Int) ⟨by omega, by omega⟩ ⟨by omega, by omega⟩
  have hQ : (angN k : Int) * (angN k : Int) / 6277101735386680763835789423207666416102355444464034512896 % 115792089237316195423570985008687907853269984665640564039457584007913129639936 = (sqN k : Int) := by
    have : (angN k : Int) * (angN k : Int) / 6277101735386680763835789423207666416102355444464034512896 = (sqN k : Int) := by unfold sqN; rw [Int.natCast_ediv, Int.natCast_mul]; rfl
    rw [this]; omega
  obtain ⟨q0, q1, q2, q3, _, _, eq⟩ := big_words (V := (sqN k : Int)) ⟨by omega, by omega⟩
  have P5 := series_any (angN k) (sqN k) 1 (by omega) (by omega) (by omega)
  have P6 := series_any 6277101735386680763835789423207666416102355444464034512896 (sqN k) 0 (by omega) (by omega) (by omega)
  have hs1 := serN_lt 300 true (angN k) (angN k) (sqN k) 1 (by omega)
  have hs2 := serN_lt 300 true 6277101735386680763835789423207666416102355444464034512896 6277101735386680763835789423207666416102355444464034512896 (sqN k) 0 (by omega)
  change sinL k < _ at hs1
  change cosL k < _ at hs2
  obtain ⟨s0, s1, s2, s3, _, _, es⟩ := big_words (V := (sinL k : Int)) ⟨by omega, by omega⟩
  obtain ⟨c0, c1, c2, c3, _, _, ec⟩ := big_words (V := (cosL k : Int)) ⟨by omega, by omega⟩
  have eo : bigV ((6277101735386680763835789423207666416102355444464034512896 : Nat) : Int) = numD 1 0 0 0 := by unfold bigV; simp
  change ∀ w, Calls Tryz.prog 240 #[_, _, _] w (GPost (bigV (sinL k : Int)) w) at P5
  change ∀ w, Calls Tryz.prog 240 #[_, _, _] w (GPost (bigV (cosL k : Int)) w) at P6
  rw [ee] at P1
  rw [ee, hP, em] at P2
  rw [em, hA, et] at P3
  rw [et, hQ, eq] at P4
  rw [et, eq, es] at P5
  rw [eo, eq, ec] at P6
  rw [es, ec]
  rw [show ((1 : Nat) : Int) = 1 from rfl] at P5
  rw [show ((0 : Nat) : Int) = 0 from rfl] at P6
  have hw : IntKind.u64.wrap (k : Int) = (k : Int) := wrap_id _ (by omega) (by omega)
  replace P1 := Lib.hid P1
  replace P2 := Lib.hid P2
  replace P3 := Lib.hid P3
  replace P4 := Lib.hid P4
  replace P5 := Lib.hid P5
  replace P6 := Lib.hid P6
  clear hs1 hs2 ee hP em hA et hQ eq es ec eo ht hq
  have K2 := Lib.hid (show Blk _ w.heap.size 0 0 0 0 from blk2_first w (.cells #[.int .u64 0, .int .u64 0, .int .u64 0, .int .u64 0] 175) (.cells #[.int .u64 0, .int .u64 0, .int .u64 0, .int .u64 0] 175))
  have K3 := Lib.hid (show Blk _ (w.heap.size + 1) 0 0 0 0 from blk2_second w (.cells #[.int .u64 0, .int .u64 0, .int .u64 0, .int .u64 0] 175) (.cells #[.int .u64 0, .int .u64 0, .int .u64 0, .int .u64 0] 175))
  have HB := Lib.hid (((Below.refl w.heap.size w).alloc (Nat.le_refl _) (.cells #[.int .u64 0, .int .u64 0, .int .u64 0, .int .u64 0] 175)).alloc (by simp) (.cells #[.int .u64 0, .int .u64 0, .int .u64 0, .int .u64 0] 175))
  unfold numD at P1 P2 P3 P4 P5 P6 ⊢
  go_enter Tryz.func226, Tryz.ntmps226
  go_wp2_with fail
  refine (P1.out _).mono ?_
  rintro e w1 ⟨rfl, hb⟩
  have K2 := Lib.hid (blk_below hb K2.out)
  have K3 := Lib.hid (blk_below hb K3.out)
  have HB := Lib.hid (HB.out.trans (hb.mono HB.out.size))
  clear hb
  go_wp2_with fail
  refine (P2.out _).mono ?_
  rintro e w2 ⟨rfl, hb⟩
  have K2 := Lib.hid (blk_below hb K2.out)
  have K3 := Lib.hid (blk_below hb K3.out)
  have HB := Lib.hid (HB.out.trans (hb.mono HB.out.size))
  clear hb
  go_wp2_with fail
  refine (P3.out _).mono ?_
  rintro e w3 ⟨rfl, hb⟩
  have K2 := Lib.hid ((blk_below hb K2.out).alloc (.cells #[.int .u64 t0, .int .u64 t1, .int .u64 t2, .int .u64 t3] 175))
  have K3 := Lib.hid ((blk_below hb K3.out).alloc (.cells #[.int .u64 t0, .int .u64 t1, .int .u64 t2, .int .u64 t3] 175))
  have K4 := Lib.hid (show Blk _ w3.heap.size t0 t1 t2 t3 from heap_alloc_new w3 (.cells #[.int .u64 t0, .int .u64 t1, .int .u64 t2, .int .u64 t3] 175))
  have HB := Lib.hid ((HB.out.trans (hb.mono HB.out.size)).alloc (by have := HB.out.size; have := hb.size; omega) (.cells #[.int .u64 t0, .int .u64 t1, .int .u64 t2, .int .u64 t3] 175))
  clear hb
  go_wp2_with fail
  refine (P4.out _).mono ?_
  rintro e w4 ⟨rfl, hb⟩
  have K2 := Lib.hid ((blk_below hb K2.out).alloc (.cells #[.int .u64 q0, .int .u64 q1, .int .u64 q2, .int .u64 q3] 175))
  have K3 := Lib.hid ((blk_below hb K3.out).alloc (.cells #[.int .u64 q0, .int .u64 q1, .int .u64 q2, .int .u64 q3] 175))
  have K4 := Lib.hid ((blk_below hb K4.out).alloc (.cells #[.int .u64 q0, .int .u64 q1, .int .u64 q2, .int .u64 q3] 175))
  have K5 := Lib.hid (show Blk _ w4.heap.size q0 q1 q2 q3 from heap_alloc_new w4 (.cells #[.int .u64 q0, .int .u64 q1, .int .u64 q2, .int .u64 q3] 175))
  have HB := Lib.hid ((HB.out.trans (hb.mono HB.out.size)).alloc (by have := HB.out.size; have := hb.size; omega) (.cells #[.int .u64 q0, .int .u64 q1, .int .u64 q2, .int .u64 q3] 175))
  clear hb
  go_wp2_with fail
  generalize w4.alloc (.cells #[.int .u64 q0, .int .u64 q1, .int .u64 q2, .int .u64 q3] 175) = w5 at *
  have l2 := K2.out.lt
  have l3 := K3.out.lt
  have l4 := K4.out.lt
  have l5 := K5.out.lt
  obtain ⟨⟨a20, a21, a22, a23⟩, f20, f21, f22, f23⟩ := keepB K2.out
  obtain ⟨⟨a30, a31, a32, a33⟩, f30, f31, f32, f33⟩ := keepB K3.out
  obtain ⟨⟨a40, a41, a42, a43⟩, f40, f41, f42, f43⟩ := keepB K4.out
  obtain ⟨⟨a50, a51, a52, a53⟩, f50, f51, f52, f53⟩ := keepB K5.out
  clear P1 P2 P3 P4
  go_region_with (
    go_at_call 240
    first | with_reducible refine (P5.out _).mono ?_ | with_reducible refine (P6.out _).mono ?_
    rintro e w6 ⟨rfl, hb⟩
    have k2 := blk_below hb (by exact K2.out)
    have k3 := blk_below hb (by exact K3.out)
    have k4 := blk_below hb (by exact K4.out)
    have k5 := blk_below hb (by exact K5.out)
    have l2 := k2.lt
    have l3 := k3.lt
    have l4 := k4.lt
    have l5 := k5.lt
    obtain ⟨⟨a20, a21, a22, a23⟩, f20, f21, f22, f23⟩ := keepB k2
    obtain ⟨⟨a30, a31, a32, a33⟩, f30, f31, f32, f33⟩ := keepB k3
    obtain ⟨⟨a40, a41, a42, a43⟩, f40, f41, f42, f43⟩ := keepB k4
    obtain ⟨⟨a50, a51, a52, a53⟩, f50, f51, f52, f53⟩ := keepB k5
    have HB := Lib.hid (show Below w.heap.size w w6 from by first | exact HB.out.trans (hb.mono HB.out.size) | exact HB.out.drew.trans (hb.mono HB.out.size))
    have K2 := Lib.hid k2
    have K3 := Lib.hid k3
    have K4 := Lib.hid k4
    have K5 := Lib.hid k5
    clear hb k2 k3 k4 k5)
  all_goals (
    have k2 := (K2.out.write s0 s1 s2 s3).other (b' := w.heap.size + 1) (by omega) (.int .u64 c0) (.int .u64 c1) (.int .u64 c2) (.int .u64 c3)
    have k3 := (K3.out.other (b' := w.heap.size) (by omega) (.int .u64 s0) (.int .u64 s1) (.int .u64 s2) (.int .u64 s3)).write c0 c1 c2 c3
    obtain ⟨⟨r0, r1, r2, r3⟩, g0, g1, g2, g3⟩ := keepB k2
    obtain ⟨⟨r4, r5, r6, r7⟩, g4, g5, g6, g7⟩ := keepB k3
    have HF := Lib.hid (((((((((HB.out).setCell (p := ⟨w.heap.size, 0, none⟩) (by first | exact Nat.le_refl _ | simp) (.int .u64 s0)).setCell (p := ⟨w.heap.size, 1, none⟩) (by first | exact Nat.le_refl _ | simp) (.int .u64 s1)).setCell (p := ⟨w.heap.size, 2, none⟩) (by first | exact Nat.le_refl _ | simp) (.int .u64 s2)).setCell (p := ⟨w.heap.size, 3, none⟩) (by first | exact Nat.le_refl _ | simp) (.int .u64 s3)).setCell (p := ⟨w.heap.size + 1, 0, none⟩) (by first | exact Nat.le_refl _ | simp) (.int .u64 c0)).setCell (p := ⟨w.heap.size + 1, 1, none⟩) (by first | exact Nat.le_refl _ | simp) (.int .u64 c1)).setCell (p := ⟨w.heap.size + 1, 2, none⟩) (by first | exact Nat.le_refl _ | simp) (.int .u64 c2)).setCell (p := ⟨w.heap.size + 1, 3, none⟩) (by first | exact Nat.le_refl _ | simp) (.int .u64 c3))
    clear k2 k3
    go_wp2
    refine bodyPost_ret (v := .tuple #[numD s0 s1 s2 s3, numD c0 c1 c2 c3]) (by simp [results, Tryz.results226, go_sem, numD, r0, r1, r2, r3, r4, r5, r6, r7]) rfl ⟨rfl, ?_⟩
    first
      | exact HF.out
      | exact HF.out.drew)
end Go.Proofs.YtmididlfnajhiaaGreatDoor
namespace Go.Proofs.YtmididlfnajhiaaGreatDoor
open Go.RowKit
set_option maxRecDepth 100000 in
set_option maxHeartbeats 1000000 in
theorem circle_high (k : Nat) (hk : 2700000 < k) (hk2 : k ≤ 5400000) (w : World) : Calls Tryz.prog 226 #[.int .i64 (k : Int)] w (GPost (.tuple #[bigV (cosL (5400000 - k) : Int), bigV (sinL (5400000 - k) : Int)]) w) := by
  have P1 := circle_low (5400000 - k) (by omega)
  rw [show ((5400000 - k : Nat) : Int) = 5400000 - (k : Int) by omega] at P1
  have hs1 := serN_lt 300 true (angN (5400000 - k)) (angN (5400000 - k)) (sqN (5400000 - k)) 1 (by have := angN_lt (5400000 - k) (by omega); omega)
  have hs2 := serN_lt 300 true 6277101735386680763835789423207666416102355444464034512896 6277101735386680763835789423207666416102355444464034512896 (sqN (5400000 - k)) 0 (by omega)
  change sinL (5400000 - k) < _ at hs1
  change cosL (5400000 - k) < _ at hs2
  obtain ⟨s0, s1, s2, s3, _, _, es⟩ := big_words (V := (sinL (5400000 - k) : Int)) ⟨by omega, by omega⟩
  obtain ⟨c0, c1, c2, c3, _, _, ec⟩ := big_words (V := (cosL (5400000 - k) : Int)) ⟨by omega, by omega⟩
  rw [es, ec] at P1
  rw [es, ec]
  replace P1 := Lib.hid P1
  clear hs1 hs2 es ec
  have K2 := Lib.hid (show Blk _ w.heap.size 0 0 0 0 from blk2_first w (.cells #[.int .u64 0, .int .u64 0, .int .u64 0, .int .u64 0] 175) (.cells #[.int .u64 0, .int .u64 0, .int .u64 0, .int .u64 0] 175))
  have K3 := Lib.hid (show Blk _ (w.heap.size + 1) 0 0 0 0 from blk2_second w (.cells #[.int .u64 0, .int .u64 0, .int .u64 0, .int .u64 0] 175) (.cells #[.int .u64 0, .int .u64 0, .int .u64 0, .int .u64 0] 175))
  have HB := Lib.hid (((Below.refl w.heap.size w).alloc (Nat.le_refl _) (.cells #[.int .u64 0, .int .u64 0, .int .u64 0, .int .u64 0] 175)).alloc (by simp) (.cells #[.int .u64 0, .int .u64 0, .int .u64 0, .int .u64 0] 175))
  unfold numD at P1 ⊢
  go_enter Tryz.func226, Tryz.ntmps226
  go_wp2_with fail
  refine (P1.out _).mono ?_
  rintro e w1 ⟨rfl, hb⟩
  have k2 := blk_below hb K2.out
  have k3 := blk_below hb K3.out
  have l2 := k2.lt
  have l3 := k3.lt
  obtain ⟨⟨a20, a21, a22, a23⟩, f20, f21, f22, f23⟩ := keepB k2
  obtain ⟨⟨a30, a31, a32, a33⟩, f30, f31, f32, f33⟩ := keepB k3
  have K2 := Lib.hid ((k2.other (b' := w.heap.size + 1) (by omega) (.int .u64 s0) (.int .u64 s1) (.int .u64 s2) (.int .u64 s3)).write c0 c1 c2 c3)
  have K3 := Lib.hid ((k3.write s0 s1 s2 s3).other (b' := w.heap.size) (by omega) (.int .u64 c0) (.int .u64 c1) (.int .u64 c2) (.int .u64 c3))
  have HB := Lib.hid (((((((((HB.out.trans (hb.mono HB.out.size)).setCell (p := ⟨w.heap.size + 1, 0, none⟩) (by first | exact Nat.le_refl _ | simp) (.int .u64 s0)).setCell (p := ⟨w.heap.size + 1, 1, none⟩) (by first | exact Nat.le_refl _ | simp) (.int .u64 s1)).setCell (p := ⟨w.heap.size + 1, 2, none⟩) (by first | exact Nat.le_refl _ | simp) (.int .u64 s2)).setCell (p := ⟨w.heap.size + 1, 3, none⟩) (by first | exact Nat.le_refl _ | simp) (.int .u64 s3)).setCell (p := ⟨w.heap.size, 0, none⟩) (by first | exact Nat.le_refl _ | simp) (.int .u64 c0)).setCell (p := ⟨w.heap.size, 1, none⟩) (by first | exact Nat.le_refl _ | simp) (.int .u64 c1)).setCell (p := ⟨w.heap.size, 2, none⟩) (by first | exact Nat.le_refl _ | simp) (.int .u64 c2)).setCell (p := ⟨w.heap.size, 3, none⟩) (by first | exact Nat.le_refl _ | simp) (.int .u64 c3))
  clear hb k2 k3
  go_wp2_with fail
  generalize ((((((((w1).setCell ⟨w.heap.size + 1, 0, none⟩ (.int .u64 s0)).setCell ⟨w.heap.size + 1, 1, none⟩ (.int .u64 s1)).setCell ⟨w.heap.size + 1, 2, none⟩ (.int .u64 s2)).setCell ⟨w.heap.size + 1, 3, none⟩ (.int .u64 s3)).setCell ⟨w.heap.size, 0, none⟩ (.int .u64 c0)).setCell ⟨w.heap.size, 1, none⟩ (.int .u64 c1)).setCell ⟨w.heap.size, 2, none⟩ (.int .u64 c2)).setCell ⟨w.heap.size, 3, none⟩ (.int .u64 c3) = w5 at *
  have l2 := K2.out.lt
  have l3 := K3.out.lt
  obtain ⟨⟨a20, a21, a22, a23⟩, f20, f21, f22, f23⟩ := keepB K2.out
  obtain ⟨⟨a30, a31, a32, a33⟩, f30, f31, f32, f33⟩ := keepB K3.out
  go_region_with fail
  all_goals (
    have k2 := (K2.out.write c0 c1 c2 c3).other (b' := w.heap.size + 1) (by omega) (.int .u64 s0) (.int .u64 s1) (.int .u64 s2) (.int .u64 s3)
    have k3 := (K3.out.other (b' := w.heap.size) (by omega) (.int .u64 c0) (.int .u64 c1) (.int .u64 c2) (.int .u64 c3)).write s0 s1 s2 s3
    obtain ⟨⟨r0, r1, r2, r3⟩, g0, g1, g2, g3⟩ := keepB k2
    obtain ⟨⟨r4, r5, r6, r7⟩, g4, g5, g6, g7⟩ := keepB k3
    have HF := Lib.hid (((((((((HB.out).setCell (p := ⟨w.heap.size, 0, none⟩) (by first | exact Nat.le_refl _ | simp) (.int .u64 c0)).setCell (p := ⟨w.heap.size, 1, none⟩) (by first | exact Nat.le_refl _ | simp) (.int .u64 c1)).setCell (p := ⟨w.heap.size, 2, none⟩) (by first | exact Nat.le_refl _ | simp) (.int .u64 c2)).setCell (p := ⟨w.heap.size, 3, none⟩) (by first | exact Nat.le_refl _ | simp) (.int .u64 c3)).setCell (p := ⟨w.heap.size + 1, 0, none⟩) (by first | exact Nat.le_refl _ | simp) (.int .u64 s0)).setCell (p := ⟨w.heap.size + 1, 1, none⟩) (by first | exact Nat.le_refl _ | simp) (.int .u64 s1)).setCell (p := ⟨w.heap.size + 1, 2, none⟩) (by first | exact Nat.le_refl _ | simp) (.int .u64 s2)).setCell (p := ⟨w.heap.size + 1, 3, none⟩) (by first | exact Nat.le_refl _ | simp) (.int .u64 s3))
    clear k2 k3
    go_wp2
    refine bodyPost_ret (v := .tuple #[numD c0 c1 c2 c3, numD s0 s1 s2 s3]) (by simp [results, Tryz.results226, go_sem, numD, r0, r1, r2, r3, r4, r5, r6, r7]) rfl ⟨rfl, ?_⟩
    exact HF.out.drew)
theorem circle_any (k : Nat) (hk : k ≤ 5400000) (w : World) : Calls Tryz.prog 226 #[.int .i64 (k : Int)] w (GPost (.tuple #[bigV (sinN k : Int), bigV (cosN k : Int)]) w) := by
  unfold sinN cosN
  rcases Nat.lt_or_ge 2700000 k with h | h
  · rw [if_neg (by omega), if_neg (by omega)]; exact circle_high k h hk w
  · rw [if_pos h, if_pos h]; exact circle_low k h w
end Go.Proofs.YtmididlfnajhiaaGreatDoor
namespace Go.Proofs.YtmididlfnajhiaaGreatDoor
open Go.RowKit
def M256 : Nat := 115792089237316195423570985008687907853269984665640564039457584007913129639936
def reaB (x y k : Nat) : Bool := if k = 0 then true else if k = 2700000 then decide (x ≤ y) else !decide (cosN k * y % M256 < sinN k * x % M256)
theorem sinN_lt (k : Nat) (hk : k ≤ 5400000) : sinN k < M256 ∧ cosN k < M256 := by
  unfold sinN cosN sinL cosL M256
  rcases Nat.lt_or_ge 2700000 k with h | h
  · rw [if_neg (by omega), if_neg (by omega)]
    exact ⟨serN_lt _ _ _ _ _ _ (by omega), serN_lt _ _ _ _ _ _ (by have := angN_lt (5400000 - k) (by omega); omega)⟩
  · rw [if_pos h, if_pos h]
    exact ⟨serN_lt _ _ _ _ _ _ (by have := angN_lt k h; omega), serN_lt _ _ _ _ _ _ (by omega)⟩
theorem keep10 {w0 W w1 : World} {b c d : Nat} {v0 v1 v2 v3 v4 v5 v6 v7 v8 v9 : Value} (h : (W.cell? ⟨b, 0, none⟩ = some v0 ∧ W.cell? ⟨b, 1, none⟩ = some v1 ∧ W.cell? ⟨c, 0, none⟩ = some v2 ∧ W.cell? ⟨c, 1, none⟩ = some v3 ∧ W.cell? ⟨c, 2, none⟩ = some v4 ∧ W.cell? ⟨c, 3, none⟩ = some v5 ∧ W.cell? ⟨d, 0, none⟩ = some v6 ∧ W.cell? ⟨d, 1, none⟩ = some v7 ∧ W.cell? ⟨d, 2, none⟩ = some v8 ∧ W.cell? ⟨d, 3, none⟩ = some v9) ∧ Below w0.heap.size w0 W) (hb : Below W.heap.size W w1) :
    (w1.cell? ⟨b, 0, none⟩ = some v0 ∧ w1.cell? ⟨b, 1, none⟩ = some v1 ∧ w1.cell? ⟨c, 0, none⟩ = some v2 ∧ w1.cell? ⟨c, 1, none⟩ = some v3 ∧ w1.cell? ⟨c, 2, none⟩ = some v4 ∧ w1.cell? ⟨c, 3, none⟩ = some v5 ∧ w1.cell? ⟨d, 0, none⟩ = some v6 ∧ w1.cell? ⟨d, 1, none⟩ = some v7 ∧ w1.cell? ⟨d, 2, none⟩ = some v8 ∧ w1.cell? ⟨d, 3, none⟩ = some v9) ∧ Below w0.heap.size w0 w1 := by
  obtain ⟨⟨h0, h1, h2, h3, h4, h5, h6, h7, h8, h9⟩, hB⟩ := h
  have hlt := World.block_lt_of_cell? W _ h0
  have hlc := World.block_lt_of_cell? W _ h2
  have hld := World.block_lt_of_cell? W _ h6
  exact ⟨⟨(hb.cell (p := ⟨b, 0, none⟩) hlt).trans h0, (hb.cell (p := ⟨b, 1, none⟩) hlt).trans h1, (hb.cell (p := ⟨c, 0, none⟩) hlc).trans h2, (hb.cell (p := ⟨c, 1, none⟩) hlc).trans h3, (hb.cell (p := ⟨c, 2, none⟩) hlc).trans h4, (hb.cell (p := ⟨c, 3, none⟩) hlc).trans h5, (hb.cell (p := ⟨d, 0, none⟩) hld).trans h6, (hb.cell (p := ⟨d, 1, none⟩) hld).trans h7, (hb.cell (p := ⟨d, 2, none⟩) hld).trans h8, (hb.cell (p := ⟨d, 3, none⟩) hld).trans h9⟩, hB.trans (hb.mono hB.size)⟩
set_option maxRecDepth 100000 in
set_option maxHeartbeats 1000000 in
theorem reaches_any (x y k : Nat) (hx : x ≤ 2147483648) (hy : y ≤ 2147483648) (hk : k ≤ 5400000) (w : World) : Calls Tryz.prog 200 #[pairV (x : Int) (y : Int), .int .i64 (k : Int)] w (GPost (.bool (reaB x y k)) w) := by
  obtain ⟨V, hV⟩ : ∃ V, V = Value.bool (reaB x y k) := ⟨_, rfl⟩
  rw [← hV]
  have K1 := Lib.hid (show Pair 138 _ w.heap.size (x : Int) (y : Int) from heap_alloc_new w (.cells #[.int .i64 (x : Int), .int .i64 (y : Int)] 138))
  have HB := Lib.hid ((Below.refl w.heap.size w).alloc (Nat.le_refl _) (.cells #[.int .i64 (x : Int), .int .i64 (y : Int)] 138))
  unfold reaB at hV
  by_cases h0 : k = 0
  · subst h0
    rw [show ((0 : Nat) : Int) = 0 from rfl]
    rw [if_pos rfl] at hV
    replace hV := Lib.hid hV
    unfold pairV
    go_enter Tryz.func200, Tryz.ntmps200
    go_wp2
    go_ret
    exact ⟨by rw [hV.out]; rfl, HB.out⟩
  by_cases h1 : k = 2700000
  · subst h1
    rw [show ((2700000 : Nat) : Int) = 2700000 from rfl]
    rw [if_neg (by omega), if_pos rfl] at hV
    replace hV := Lib.hid hV
    unfold pairV
    go_enter Tryz.func200, Tryz.ntmps200
    go_wp2
    go_ret
    exact ⟨by rw [hV.out]; simp, HB.out⟩
  rw [if_neg h0, if_neg h1] at hV
  have hlt := sinN_lt k hk
  unfold M256 at hlt
  have P1 := circle_any k hk
  obtain ⟨s0, s1, s2, s3, _, _, es⟩ := big_words (V := (sinN k : Int)) ⟨by omega, by omega⟩
  obtain ⟨c0, c1, c2, c3, _, _, ec⟩ := big_words (V := (cosN k : Int)) ⟨by omega, by omega⟩
  have P2 := btimes_any (cosN k : Int) (y : Int) ⟨by omega, by omega⟩ (by omega) (by omega)
  have P3 := btimes_any (sinN k : Int) (x : Int) ⟨by omega, by omega⟩ (by omega) (by omega)
  have e2 : (cosN k : Int) * (y : Int) % 115792089237316195423570985008687907853269984665640564039457584007913129639936 = ((cosN k * y % M256 : Nat) : Int) := by rw [Int.natCast_emod, Int.natCast_mul]; rfl
  have e3 : (sinN k : Int) * (x : Int) % 115792089237316195423570985008687907853269984665640564039457584007913129639936 = ((sinN k * x % M256 : Nat) : Int) := by rw [Int.natCast_emod, Int.natCast_mul]; rfl
  have b2 : cosN k * y % M256 < M256 := Nat.mod_lt _ (by decide)
  have b3 : sinN k * x % M256 < M256 := Nat.mod_lt _ (by decide)
  rw [e2] at P2
  rw [e3] at P3
  clear e2 e3
  generalize cosN k * y % M256 = A at *
  generalize sinN k * x % M256 = B at *
  unfold M256 at b2 b3
  have P4 := blt_any (A : Int) (B : Int) ⟨by omega, by omega⟩ ⟨by omega, by omega⟩
  obtain ⟨p0, p1, p2, p3, _, _, ea⟩ := big_words (V := (A : Int)) ⟨by omega, by omega⟩
  obtain ⟨q0, q1, q2, q3, _, _, eb⟩ := big_words (V := (B : Int)) ⟨by omega, by omega⟩
  have ed : decide ((A : Int) < (B : Int)) = decide (A < B) := by simp
  rw [es, ec] at P1
  rw [ec, ea] at P2
  rw [es, eb] at P3
  rw [ea, eb, ed] at P4
  generalize decide (A < B) = d at *
  have wx : IntKind.u64.wrap (x : Int) = (x : Int) := wrap_id _ (by omega) (by omega)
  have wy : IntKind.u64.wrap (y : Int) = (y : Int) := wrap_id _ (by omega) (by omega)
  unfold numD at P1 P2 P3 P4
  replace P1 := Lib.hid P1
  replace P2 := Lib.hid P2
  replace P3 := Lib.hid P3
  replace P4 := Lib.hid P4
  replace hV := Lib.hid hV
  clear hlt es ec ea eb ed b2 b3
  unfold pairV
  go_enter Tryz.func200, Tryz.ntmps200
  go_wp2_with fail
  refine (P1.out _).mono ?_
  rintro e w1 ⟨rfl, hb⟩
  have K1 := Lib.hid (((pair_below hb K1.out).alloc (.cells #[.int .u64 s0, .int .u64 s1, .int .u64 s2, .int .u64 s3] 175)).alloc (.cells #[.int .u64 c0, .int .u64 c1, .int .u64 c2, .int .u64 c3] 175))
  have K5 := Lib.hid (show Blk _ w1.heap.size s0 s1 s2 s3 from blk2_first w1 (.cells #[.int .u64 s0, .int .u64 s1, .int .u64 s2, .int .u64 s3] 175) (.cells #[.int .u64 c0, .int .u64 c1, .int .u64 c2, .int .u64 c3] 175))
  have K6 := Lib.hid (show Blk _ (w1.heap.size + 1) c0 c1 c2 c3 from blk2_second w1 (.cells #[.int .u64 s0, .int .u64 s1, .int .u64 s2, .int .u64 s3] 175) (.cells #[.int .u64 c0, .int .u64 c1, .int .u64 c2, .int .u64 c3] 175))
  have HB := Lib.hid (((HB.out.trans (hb.mono HB.out.size)).alloc (by have := HB.out.size; have := hb.size; omega) (.cells #[.int .u64 s0, .int .u64 s1, .int .u64 s2, .int .u64 s3] 175)).alloc (by have := HB.out.size; have := hb.size; simp; omega) (.cells #[.int .u64 c0, .int .u64 c1, .int .u64 c2, .int .u64 c3] 175))
  clear hb
  go_wp2_with fail
  generalize (w1.alloc (.cells #[.int .u64 s0, .int .u64 s1, .int .u64 s2, .int .u64 s3] 175)).alloc (.cells #[.int .u64 c0, .int .u64 c1, .int .u64 c2, .int .u64 c3] 175) = w5 at *
  have l1 := K1.out.lt
  have l5 := K5.out.lt
  have l6 := K6.out.lt
  obtain ⟨⟨a10, a11⟩, f10, f11⟩ := keep2 K1.out
  obtain ⟨⟨a50, a51, a52, a53⟩, f50, f51, f52, f53⟩ := keepB K5.out
  obtain ⟨⟨a60, a61, a62, a63⟩, f60, f61, f62, f63⟩ := keepB K6.out
  clear P1
  go_region_held3 (fun w' => (w'.cell? ⟨w.heap.size, 0, none⟩ = some (.int .i64 (x : Int)) ∧ w'.cell? ⟨w.heap.size, 1, none⟩ = some (.int .i64 (y : Int)) ∧ w'.cell? ⟨w1.heap.size, 0, none⟩ = some (.int .u64 s0) ∧ w'.cell? ⟨w1.heap.size, 1, none⟩ = some (.int .u64 s1) ∧ w'.cell? ⟨w1.heap.size, 2, none⟩ = some (.int .u64 s2) ∧ w'.cell? ⟨w1.heap.size, 3, none⟩ = some (.int .u64 s3) ∧ w'.cell? ⟨w1.heap.size + 1, 0, none⟩ = some (.int .u64 c0) ∧ w'.cell? ⟨w1.heap.size + 1, 1, none⟩ = some (.int .u64 c1) ∧ w'.cell? ⟨w1.heap.size + 1, 2, none⟩ = some (.int .u64 c2) ∧ w'.cell? ⟨w1.heap.size + 1, 3, none⟩ = some (.int .u64 c3)) ∧ Below w5.heap.size w5 w')
    (first | exact ⟨⟨a10, a11, a50, a51, a52, a53, a60, a61, a62, a63⟩, (Below.refl _ _).drew⟩ | exact keep10 (by assumption) (by assumption))
    (first
      | (go_at_call 227; (first | with_reducible refine (P2.out _).mono ?_ | with_reducible refine (P3.out _).mono ?_); rintro e w6 ⟨rfl, hb⟩)
      | (go_at_call 228; (with_reducible refine (P4.out _).mono ?_); rintro e w6 ⟨rfl, hb⟩))
  have hh : Below w5.heap.size w5 w6 := And.right (by assumption)
  have HF := Lib.hid (HB.out.trans (hh.mono HB.out.size))
  clear hh
  go_wp2
  go_ret
  exact ⟨by rw [hV.out]; rfl, HF.out⟩
end Go.Proofs.YtmididlfnajhiaaGreatDoor
namespace Go.Proofs.YtmididlfnajhiaaGreatDoor
open Go.RowKit
def rot (x y : Int) : Nat → Int × Int
  | 0 => (x, y)
  | j + 1 => ((rot x y j).2, - (rot x y j).1)
def qr (x y : Int) : Nat := if 0 < x ∧ 0 ≤ y then 0 else if 0 < y ∧ x ≤ 0 then 1 else if x < 0 ∧ y ≤ 0 then 2 else 3
theorem rot_bd (x y : Int) (hx : -2147483648 ≤ x ∧ x ≤ 2147483648) (hy : -2147483648 ≤ y ∧ y ≤ 2147483648) : ∀ j, (-2147483648 ≤ (rot x y j).1 ∧ (rot x y j).1 ≤ 2147483648) ∧ (-2147483648 ≤ (rot x y j).2 ∧ (rot x y j).2 ≤ 2147483648)
  | 0 => ⟨hx, hy⟩
  | j + 1 => by
    have := rot_bd x y hx hy j
    simp only [rot]
    omega
theorem qr_le (x y : Int) : qr x y ≤ 3 := by
  unfold qr
  split
  · omega
  · split
    · omega
    · split <;> omega
theorem qr_not (x y : Int) (j : Nat) (h : j < qr x y) : ¬ (0 < (rot x y j).1 ∧ 0 ≤ (rot x y j).2) := by
  unfold qr at h
  split at h
  · omega
  · split at h
    · obtain rfl : j = 0 := by omega
      simp only [rot]; omega
    · split at h
      · rcases (show j = 0 ∨ j = 1 by omega) with rfl | rfl <;> simp only [rot] <;> omega
      · rcases (show j = 0 ∨ j = 1 ∨ j = 2 by omega) with rfl | rfl | rfl <;> simp only [rot] <;> omega
theorem qr_at (x y : Int) (h : ¬ (x = 0 ∧ y = 0)) : 0 < (rot x y (qr x y)).1 ∧ 0 ≤ (rot x y (qr x y)).2 := by
  unfold qr
  split
  · simp only [rot]; omega
  · split
    · simp only [rot]; omega
    · split
      · simp only [rot]; omega
      · simp only [rot]; omega
def srch (f : Nat → Bool) : Nat → Nat → Nat → Nat
  | 0, low, _ => low
  | n + 1, low, high => if high - low ≤ 1 then low else if f ((low + high) / 2) then srch f n ((low + high) / 2) high else srch f n low ((low + high) / 2)
def low1 (x y : Int) : Nat := srch (reaB (rot x y (qr x y)).1.toNat (rot x y (qr x y)).2.toNat) 23 0 5400000
def angF (x y : Int) : Int := 5400000 * (qr x y : Int) + (low1 x y : Int)
def excF (x y : Int) : Bool := (low1 x y == 0 && (rot x y (qr x y)).2 == 0) || (low1 x y == 2700000 && (rot x y (qr x y)).1 == (rot x y (qr x y)).2)
theorem mul_bd {x v : Int} (hx : -2147483648 ≤ x ∧ x ≤ 2147483648) (hv : -2147483648 ≤ v ∧ v ≤ 2147483648) : -4611686018427387904 ≤ x * v ∧ x * v ≤ 4611686018427387904 := by
  have h1 := Int.mul_nonneg (show 0 ≤ 2147483648 - x by omega) (show 0 ≤ 2147483648 - v by omega)
  have h2 := Int.mul_nonneg (show 0 ≤ 2147483648 + x by omega) (show 0 ≤ 2147483648 + v by omega)
  have h3 := Int.mul_nonneg (show 0 ≤ 2147483648 - x by omega) (show 0 ≤ 2147483648 + v by omega)
  have h4 := Int.mul_nonneg (show 0 ≤ 2147483648 + x by omega) (show 0 ≤ 2147483648 - v by omega)
  rw [Int.sub_mul, Int.mul_sub, Int.mul_sub] at h1
  rw [Int.add_mul, Int.mul_add, Int.mul_add] at h2
  rw [Int.sub_mul, Int.mul_add, Int.mul_add] at h3
  rw [Int.add_mul, Int.mul_sub, Int.mul_sub] at h4
  generalize x * v = P at *
  omega
theorem before_any (x y u v : Int) (hx : -2147483648 ≤ x ∧ x ≤ 2147483648) (hy : -2147483648 ≤ y ∧ y ≤ 2147483648) (hu : -2147483648 ≤ u ∧ u ≤ 2147483648) (hv : -2147483648 ≤ v ∧ v ≤ 2147483648) (w : World) :
    Calls Tryz.prog 153 #[pairV x y, pairV u v] w (GPost (.bool (decide (y * u ≤ x * v))) w) := by
  have HB := Lib.hid (((Below.refl w.heap.size w).alloc (Nat.le_refl _) (.cells #[.int .i64 x, .int .i64 y] 138)).alloc (by simp) (.cells #[.int .i64 u, .int .i64 v] 138))
  have b1 := mul_bd hx hv
  have b2 := mul_bd hy hu
  have w1 : IntKind.i64.wrap (x * v) = x * v := IntWalk.i64_in _ (by omega)
  have w2 : IntKind.i64.wrap (y * u) = y * u := IntWalk.i64_in _ (by omega)
  unfold pairV
  go_enter Tryz.func153, Tryz.ntmps153
  go_wp2
  go_ret
  exact ⟨rfl, HB.out⟩
end Go.Proofs.YtmididlfnajhiaaGreatDoor
namespace Go.Proofs.YtmididlfnajhiaaGreatDoor
open Go.RowKit
theorem rot_meas (j : Int) (h0 : 0 ≤ j) (h : j ≤ 2) : (16200000 - loOf (.int .i64 (5400000 * j + 5400000))).toNat < (16200000 - loOf (.int .i64 (5400000 * j))).toNat := by
  simp only [loOf]
  omega
theorem meas_lo {L N H : Int} (h1 : L < N) (h2 : N < H) : (loOf (.int .i64 N) - loOf (.int .i64 L)).toNat < (loOf (.int .i64 H) - loOf (.int .i64 L)).toNat := by
  simp only [loOf]
  omega
theorem meas_hi {L N H : Int} (h1 : L < N) (h2 : N < H) : (loOf (.int .i64 H) - loOf (.int .i64 N)).toNat < (loOf (.int .i64 H) - loOf (.int .i64 L)).toNat := by
  simp only [loOf]
  omega
set_option maxRecDepth 100000 in
set_option maxHeartbeats 2000000 in
theorem angle_any (x y : Int) (hx : -2147483648 ≤ x ∧ x ≤ 2147483648) (hy : -2147483648 ≤ y ∧ y ≤ 2147483648) (h0 : ¬ (x = 0 ∧ y = 0)) (w : World) :
    Calls Tryz.prog 154 #[pairV x y] w (GPost (.tuple #[.int .i64 (angF x y), .bool (excF x y)]) w) := by
  obtain ⟨V, hV⟩ : ∃ V, V = Value.tuple #[.int .i64 (angF x y), .bool (excF x y)] := ⟨_, rfl⟩
  rw [← hV]
  unfold angF excF low1 at hV
  have hq := qr_le x y
  have hat := qr_at x y h0
  have hnot := Lib.hid (qr_not x y)
  have hbd := Lib.hid (rot_bd x y hx hy)
  have hbq := rot_bd x y hx hy (qr x y)
  have HX : (((rot x y (qr x y)).1.toNat : Nat) : Int) = (rot x y (qr x y)).1 := Int.toNat_of_nonneg (by omega)
  have HY : (((rot x y (qr x y)).2.toNat : Nat) : Int) = (rot x y (qr x y)).2 := Int.toNat_of_nonneg (by omega)
  have K1 := Lib.hid (show Pair 138 _ w.heap.size x y from heap_alloc_new w (.cells #[.int .i64 x, .int .i64 y] 138))
  have HB := Lib.hid ((Below.refl w.heap.size w).alloc (Nat.le_refl _) (.cells #[.int .i64 x, .int .i64 y] 138))
  have hR0 := Lib.hid (show (rot x y 0).1 = x ∧ (rot x y 0).2 = y from ⟨rfl, rfl⟩)
  have hRs := Lib.hid (show ∀ j, (rot x y (j + 1)).1 = (rot x y j).2 ∧ (rot x y (j + 1)).2 = - (rot x y j).1 from fun j => ⟨rfl, rfl⟩)
  generalize (rot x y (qr x y)).1.toNat = X at *
  generalize (rot x y (qr x y)).2.toNat = Y at *
  rw [← HX, ← HY] at hV hat hbq
  generalize qr x y = Q at *
  replace HX := Lib.hid HX
  replace HY := Lib.hid HY
  replace hV := Lib.hid hV
  clear hx hy h0
  unfold pairV
  go_enter Tryz.func154, Tryz.ntmps154
  go_wp2
  go_loopw [4] (fun t wr => ∃ j : Nat, j ≤ Q ∧ t = .int .i64 (5400000 * (j : Int)) ∧ Pair 138 wr w.heap.size (rot x y j).1 (rot x y j).2 ∧ Below w.heap.size w wr) (fun t _ => (16200000 - loOf t).toNat)
  case atStart => exact ⟨0, by omega, by simp, K1.out, HB.out⟩
  case round =>
    clear K1 HB
    obtain ⟨j, hj, rfl, k1, hb⟩ := hrel
    have hbj := hbd.out j
    have l1 := k1.lt
    obtain ⟨⟨a0, a1⟩, a2, a3⟩ := keep2 k1
    have HB := Lib.hid hb
    rcases Nat.lt_or_ge j Q with hlt | hge
    · have hn := hnot.out j hlt
      have hs := Lib.hid (hRs.out j)
      generalize (rot x y j).1 = a at *
      generalize (rot x y j).2 = b at *
      have K2 := Lib.hid (k1.write b (-a))
      have HB2 := Lib.hid ((hb.setCell (p := ⟨w.heap.size, 0, none⟩) (Nat.le_refl _) (.int .i64 b)).setCell (p := ⟨w.heap.size, 1, none⟩) (Nat.le_refl _) (.int .i64 (-a)))
      clear k1 hb
      replace hat := Lib.hid hat
      replace hbq := Lib.hid hbq
      obtain ⟨⟨_, _⟩, _, _⟩ := hbj
      have hj3 : (j : Int) ≤ 2 := by omega
      have hlt := Lib.hid hlt
      clear hq hj
      by_cases ha : 0 < a
      · have hb' : ¬ 0 ≤ b := fun h => hn ⟨ha, h⟩
        clear hn
        go_wp2
        go_roundw
        case rel => exact ⟨j + 1, hlt.out, by go_num, by rw [hs.out.1, hs.out.2]; exact K2.out, HB2.out⟩
        case measure => exact rot_meas j (by omega) hj3
      · clear hn
        go_wp2
        go_roundw
        case rel => exact ⟨j + 1, hlt.out, by go_num, by rw [hs.out.1, hs.out.2]; exact K2.out, HB2.out⟩
        case measure => exact rot_meas j (by omega) hj3
    · obtain rfl : j = Q := by omega
      have hx1 := HX.out
      have hy1 := HY.out
      generalize (rot x y j).1 = a at *
      generalize (rot x y j).2 = b at *
      obtain ⟨g1, g2⟩ := hat
      obtain ⟨⟨g3, g4⟩, g5, g6⟩ := hbq
      have ha0 : 0 < a := by omega
      have hb0 : 0 ≤ b := by omega
      have ha1 : a ≤ 2147483648 := by omega
      have hb1 : b ≤ 2147483648 := by omega
      have hXb : X ≤ 2147483648 := by omega
      have hYb : Y ≤ 2147483648 := by omega
      have hq3 : (j : Int) ≤ 3 := by omega
      have HRe : Hid (∀ k : Nat, k ≤ 5400000 → ∀ w, Calls Tryz.prog 200 #[pairV a b, .int .i64 (k : Int)] w (GPost (.bool (reaB X Y k)) w)) := Lib.hid (fun k hk w => by rw [← hx1, ← hy1]; exact reaches_any X Y k hXb hYb hk w)
      have K1 := Lib.hid k1
      have HXY := Lib.hid (And.intro hx1 hy1)
      clear hq hj hge HX HY hR0 hRs hnot hbd hbj k1 hb g1 g2 g3 g4 g5 g6
      have hV2 := hV.out
      rw [hx1, hy1] at hV2
      clear hV HXY hx1 hy1
      generalize hR : srch (reaB X Y) 23 0 5400000 = R at hV2
      replace hV2 := Lib.hid hV2
      have hR := Lib.hid hR
      go_wp2
      go_loopw [5, 6] (fun lo hi wr2 => ∃ n l h : Nat, lo = .int .i64 (l : Int) ∧ hi = .int .i64 (h : Int) ∧ l < h ∧ h ≤ 5400000 ∧ h - l ≤ 2 ^ n ∧ srch (reaB X Y) n l h = R ∧ Pair 138 wr2 w.heap.size a b ∧ Below w.heap.size w wr2) (fun lo hi _ => (loOf hi - loOf lo).toNat)
      case atStart => exact ⟨23, 0, 5400000, rfl, rfl, by omega, by omega, by omega, hR.out, K1.out, HB.out⟩
      case round =>
        clear hR K1 HB a0 a1 a2 a3 l1
        obtain ⟨n, l, h, rfl, rfl, hlh, hh, hn, hs, k1, hb⟩ := hrel
        have l1 := k1.lt
        obtain ⟨⟨a0, a1⟩, a2, a3⟩ := keep2 k1
        have K1 := Lib.hid k1
        have HB := Lib.hid hb
        have hn := Lib.hid hn
        have hs := Lib.hid hs
        clear k1 hb
        by_cases hc : h - l ≤ 1
        · have hRl : R = l := by
            have := hs.out
            cases n with
            | zero => exact this.symm
            | succ n => rw [srch, if_pos hc] at this; exact this.symm
          have hc2 : (h : Int) - (l : Int) ≤ 1 := by omega
          obtain ⟨L, hL⟩ : ∃ L : Int, L = (l : Int) := ⟨_, rfl⟩
          obtain ⟨H, hH⟩ : ∃ H : Int, H = (h : Int) := ⟨_, rfl⟩
          have i1 : 0 ≤ L := by omega
          have i3 : H - L ≤ 1 := by omega
          have i4 : H ≤ 5400000 := by omega
          have i5 : L < H := by omega
          rw [← hL, ← hH]
          replace hL := Lib.hid hL
          replace hH := Lib.hid hH
          have hRL := Lib.hid (show (R : Int) = L by have := hL.out; omega)
          clear hlh hh hc hc2 hn hs
          have wj : IntKind.i64.wrap (5400000 * (j : Int)) = 5400000 * (j : Int) := IntWalk.i64_in _ (by omega)
          have wl : IntKind.i64.wrap (5400000 * (j : Int) + L) = 5400000 * (j : Int) + L := IntWalk.i64_in _ (by omega)
          by_cases z1 : L = 0
          · by_cases z2 : b = 0
            · have hE : (R == 0 && b == 0 || R == 2700000 && a == b) = true := by (have : R = 0 := by (have := hRL.out; omega)); simp [this, z2]
              have HF := Lib.hid (show ∀ nq, GPost V w (.returned (.tuple #[.int .i64 (5400000 * (j : Int) + L), .bool true])) (wr.drewN nq) from fun nq => ⟨by rw [hV2.out, hE, hRl, hL.out], below_drewN HB.out nq⟩)
              clear hE hRl
              go_wp2
              go_quiet (fail)
              go_wp2
              refine bodyPost_ret (v := .tuple #[.int .i64 (5400000 * (j : Int) + L), .bool true]) (by simp [results, Tryz.results154, go_sem, z1, z2]) rfl (HF.out _)
            · have hE : (R == 0 && b == 0 || R == 2700000 && a == b) = false := by (have : R = 0 := by (have := hRL.out; omega)); simp [this, z2]
              have HF := Lib.hid (show ∀ nq, GPost V w (.returned (.tuple #[.int .i64 (5400000 * (j : Int) + L), .bool false])) (wr.drewN nq) from fun nq => ⟨by rw [hV2.out, hE, hRl, hL.out], below_drewN HB.out nq⟩)
              clear hE hRl
              go_wp2
              go_quiet (fail)
              go_wp2
              refine bodyPost_ret (v := .tuple #[.int .i64 (5400000 * (j : Int) + L), .bool false]) (by simp [results, Tryz.results154, go_sem, z1, z2]) rfl (HF.out _)
          · by_cases z2 : L = 2700000
            · by_cases z3 : a = b
              · have hE : (R == 0 && b == 0 || R == 2700000 && a == b) = true := by (have : R = 2700000 := by (have := hRL.out; omega)); simp [this, z3]
                have HF := Lib.hid (show ∀ nq, GPost V w (.returned (.tuple #[.int .i64 (5400000 * (j : Int) + L), .bool true])) (wr.drewN nq) from fun nq => ⟨by rw [hV2.out, hE, hRl, hL.out], below_drewN HB.out nq⟩)
                clear hE hRl
                go_wp2
                go_quiet (fail)
                go_wp2
                refine bodyPost_ret (v := .tuple #[.int .i64 (5400000 * (j : Int) + L), .bool true]) (by simp [results, Tryz.results154, go_sem, z2, z3]) rfl (HF.out _)
              · have hE : (R == 0 && b == 0 || R == 2700000 && a == b) = false := by (have : R = 2700000 := by (have := hRL.out; omega)); simp [this, z3]
                have HF := Lib.hid (show ∀ nq, GPost V w (.returned (.tuple #[.int .i64 (5400000 * (j : Int) + L), .bool false])) (wr.drewN nq) from fun nq => ⟨by rw [hV2.out, hE, hRl, hL.out], below_drewN HB.out nq⟩)
                clear hE hRl
                go_wp2
                go_quiet (fail)
                go_wp2
                refine bodyPost_ret (v := .tuple #[.int .i64 (5400000 * (j : Int) + L), .bool false]) (by simp [results, Tryz.results154, go_sem, z2, z3]) rfl (HF.out _)
            · have hE : (R == 0 && b == 0 || R == 2700000 && a == b) = false := by (have h1 : R ≠ 0 := by (have := hRL.out; omega)); (have h2 : R ≠ 2700000 := by (have := hRL.out; omega)); simp [h1, h2]
              have HF := Lib.hid (show ∀ nq, GPost V w (.returned (.tuple #[.int .i64 (5400000 * (j : Int) + L), .bool false])) (wr.drewN nq) from fun nq => ⟨by rw [hV2.out, hE, hRl, hL.out], below_drewN HB.out nq⟩)
              clear hE hRl
              go_wp2
              go_quiet (fail)
              go_wp2
              refine bodyPost_ret (v := .tuple #[.int .i64 (5400000 * (j : Int) + L), .bool false]) (by simp [results, Tryz.results154, go_sem]) rfl (HF.out _)
        · obtain ⟨n, rfl⟩ : ∃ n', n = n' + 1 := ⟨n - 1, by
            have := hn.out
            cases n with
            | zero => simp at this; omega
            | succ n => omega⟩
          obtain ⟨m, hm, hm1, hm2⟩ : ∃ m, m = (l + h) / 2 ∧ l < m ∧ m < h := ⟨_, rfl, by omega, by omega⟩
          have hp : 2 ^ (n + 1) = 2 * 2 ^ n := by rw [Nat.pow_succ]; omega
          have hmi : ((l : Int) + (h : Int)) / 2 = (m : Int) := by omega
          have hmt : IntKind.i64.wrap (((l : Int) + (h : Int)).tdiv 2) = (m : Int) := by rw [Int.tdiv_eq_ediv_of_nonneg (by omega), hmi]; exact IntWalk.i64_in _ (by omega)
          clear hmi
          have HM := Lib.hid (HRe.out m (by omega))
          have hs1 := hs.out
          rw [srch, if_neg hc, ← hm] at hs1
          have hn1 : m - l ≤ 2 ^ n ∧ h - m ≤ 2 ^ n := by have := hn.out; omega
          have hc2 : ¬ (h : Int) - (l : Int) ≤ 1 := by omega
          generalize reaB X Y m = r at *
          have HS := Lib.hid hs1
          have hn1 := Lib.hid hn1
          have hm := Lib.hid hm
          clear hn hs hs1 hp
          unfold pairV at HM
          obtain ⟨L, hL⟩ : ∃ L : Int, L = (l : Int) := ⟨_, rfl⟩
          obtain ⟨H, hH⟩ : ∃ H : Int, H = (h : Int) := ⟨_, rfl⟩
          obtain ⟨N, hN⟩ : ∃ N : Int, N = (m : Int) := ⟨_, rfl⟩
          have i1 : 0 ≤ L := by omega
          have i2 : L < N := by omega
          have i3 : N < H := by omega
          have i4 : H ≤ 5400000 := by omega
          have i5 : 1 < H - L := by omega
          rw [← hL, ← hH]
          rw [← hL, ← hH, ← hN] at hmt
          rw [← hN] at HM
          have hF := Lib.hid (And.intro hm1 (And.intro hm2 (And.intro hlh hh)))
          replace hL := Lib.hid hL
          replace hH := Lib.hid hH
          replace hN := Lib.hid hN
          clear hm1 hm2 hlh hh hc hc2
          go_wp2_with fail
          refine (HM.out _).mono ?_
          rintro e w1 ⟨rfl, hb⟩
          have K2 := Lib.hid (pair_below hb K1.out)
          have HB2 := Lib.hid (HB.out.trans (hb.mono HB.out.size))
          clear hb
          cases r
          · have HS1 := Lib.hid (show srch (reaB X Y) n l m = R from HS.out)
            clear HS
            go_wp2
            go_roundw
            case rel => exact ⟨n, l, m, congrArg (Value.int .i64) hL.out, congrArg (Value.int .i64) hN.out, hF.out.1, by have := hF.out; omega, hn1.out.1, HS1.out, K2.out, HB2.out⟩
            case measure => exact meas_lo i2 i3
          · have HS1 := Lib.hid (show srch (reaB X Y) n m h = R from HS.out)
            clear HS
            go_wp2
            go_roundw
            case rel => exact ⟨n, m, h, congrArg (Value.int .i64) hN.out, congrArg (Value.int .i64) hH.out, hF.out.2.1, hF.out.2.2.2, hn1.out.2, HS1.out, K2.out, HB2.out⟩
            case measure => exact meas_hi i2 i3
end Go.Proofs.YtmididlfnajhiaaGreatDoor

import Derived.Test.YtfilgpifiboccaaGreatT29
namespace Go.Proofs.YtfilgpifiboccaaGreat
open Go.RowKit
/-- The angle, its square, its sine and cosine as arctrig computes them (in units of 2^-192). -/
def angN (k : Nat) : Nat := 19720096697726538562396133364228268891463450865190089732560 * k / 10800000
def sqN (k : Nat) : Nat := angN k * angN k / 6277101735386680763835789423207666416102355444464034512896
def sinL (k : Nat) : Nat := serN 300 true (angN k) (angN k) (sqN k) 1
def cosL (k : Nat) : Nat := serN 300 true 6277101735386680763835789423207666416102355444464034512896 6277101735386680763835789423207666416102355444464034512896 (sqN k) 0
def sinN (k : Nat) : Nat := if k ≤ 2700000 then sinL k else cosL (5400000 - k)
def cosN (k : Nat) : Nat := if k ≤ 2700000 then cosL k else sinL (5400000 - k)
theorem angN_lt (k : Nat) (hk : k ≤ 2700000) : angN k < 6277101735386680763835789423207666416102355444464034512896 := by unfold angN; omega
theorem sqN_lt (k : Nat) (hk : k ≤ 2700000) : sqN k < 6277101735386680763835789423207666416102355444464034512896 := by
  have h := angN_lt k hk
  unfold sqN
  generalize angN k = t at *
  have : t * t ≤ t * 6277101735386680763835789423207666416102355444464034512896 := Nat.mul_le_mul_left _ (by omega)
  generalize t * t = P at *
  omega
theorem serN_lt : ∀ (f : Nat) (m : Bool) (s t q n : Nat), s < 115792089237316195423570985008687907853269984665640564039457584007913129639936 → serN f m s t q n < 115792089237316195423570985008687907853269984665640564039457584007913129639936
  | 0, _, s, _, _, _, h => h
  | f + 1, m, s, t, q, n, h => by
    unfold serN
    split
    · exact h
    · exact serN_lt f _ _ _ _ _ (by unfold serS; split <;> omega)
set_option maxRecDepth 100000 in
set_option maxHeartbeats 1000000 in
theorem circle_low (k : Nat) (hk : k ≤ 2700000) (w : World) : Calls Tryz.prog 150 #[.int .i64 (k : Int)] w (GPost (.tuple #[bigV (sinL k : Int), bigV (cosL k : Int)]) w) := by
  have ht := angN_lt k hk
  have hq := sqN_lt k hk
  have P1 := pi_any
  have P2 := btimes_any 19720096697726538562396133364228268891463450865190089732560 (k : Int) ⟨by omega, by omega⟩ (by omega) (by omega)
  obtain ⟨e0, e1, e2, e3, _, _, ee⟩ := big_words (V := 19720096697726538562396133364228268891463450865190089732560) ⟨by omega, by omega⟩
  have hP : 19720096697726538562396133364228268891463450865190089732560 * (k : Int) % 115792089237316195423570985008687907853269984665640564039457584007913129639936 = 19720096697726538562396133364228268891463450865190089732560 * (k : Int) := by omega
  obtain ⟨m0, m1, m2, m3, _, _, em⟩ := big_words (V := 19720096697726538562396133364228268891463450865190089732560 * (k : Int)) ⟨by omega, by omega⟩
  have P3 := bover_any (19720096697726538562396133364228268891463450865190089732560 * (k : Int)) 10800000 ⟨by omega, by omega⟩ (by omega) (by omega)
  have hA : 19720096697726538562396133364228268891463450865190089732560 * (k : Int) / 10800000 = (angN k : Int) := by unfold angN; rw [Int.natCast_ediv, Int.natCast_mul]; rfl
  obtain ⟨t0, t1, t2, t3, _, _, et⟩ := big_words (V := (angN k : Int)) ⟨by omega, by omega⟩
  have P4 := bmul_any (angN k : Int) (angN k : Int) ⟨by omega, by omega⟩ ⟨by omega, by omega⟩
  have hQ : (angN k : Int) * (angN k : Int) / 6277101735386680763835789423207666416102355444464034512896 % 115792089237316195423570985008687907853269984665640564039457584007913129639936 = (sqN k : Int) := by
    have : (angN k : Int) * (angN k : Int) / 6277101735386680763835789423207666416102355444464034512896 = (sqN k : Int) := by unfold sqN; rw [Int.natCast_ediv, Int.natCast_mul]; rfl
    rw [this]; omega
  obtain ⟨q0, q1, q2, q3, _, _, eq⟩ := big_words (V := (sqN k : Int)) ⟨by omega, by omega⟩
  have P5 := series_any (angN k) (sqN k) 1 (by omega) (by omega) (by omega)
  have P6 := series_any 6277101735386680763835789423207666416102355444464034512896 (sqN k) 0 (by omega) (by omega) (by omega)
  have hs1 := serN_lt 300 true (angN k) (angN k) (sqN k) 1 (by omega)
  have hs2 := serN_lt 300 true 6277101735386680763835789423207666416102355444464034512896 6277101735386680763835789423207666416102355444464034512896 (sqN k) 0 (by omega)
  change sinL k < _ at hs1
  change cosL k < _ at hs2
  obtain ⟨s0, s1, s2, s3, _, _, es⟩ := big_words (V := (sinL k : Int)) ⟨by omega, by omega⟩
  obtain ⟨c0, c1, c2, c3, _, _, ec⟩ := big_words (V := (cosL k : Int)) ⟨by omega, by omega⟩
  have eo : bigV ((6277101735386680763835789423207666416102355444464034512896 : Nat) : Int) = numD 1 0 0 0 := by unfold bigV; simp
  change ∀ w, Calls Tryz.prog 173 #[_, _, _] w (GPost (bigV (sinL k : Int)) w) at P5
  change ∀ w, Calls Tryz.prog 173 #[_, _, _] w (GPost (bigV (cosL k : Int)) w) at P6
  rw [ee] at P1
  rw [ee, hP, em] at P2
  rw [em, hA, et] at P3
  rw [et, hQ, eq] at P4
  rw [et, eq, es] at P5
  rw [eo, eq, ec] at P6
  rw [es, ec]
  rw [show ((1 : Nat) : Int) = 1 from rfl] at P5
  rw [show ((0 : Nat) : Int) = 0 from rfl] at P6
  have hw : IntKind.u64.wrap (k : Int) = (k : Int) := wrap_id _ (by omega) (by omega)
  replace P1 := Lib.hid P1
  replace P2 := Lib.hid P2
  replace P3 := Lib.hid P3
  replace P4 := Lib.hid P4
  replace P5 := Lib.hid P5
  replace P6 := Lib.hid P6
  clear hs1 hs2 ee hP em hA et hQ eq es ec eo ht hq
  have K2 := Lib.hid (show Blk _ w.heap.size 0 0 0 0 from blk2_first w (.cells #[.int .u64 0, .int .u64 0, .int .u64 0, .int .u64 0] 161) (.cells #[.int .u64 0, .int .u64 0, .int .u64 0, .int .u64 0] 161))
  have K3 := Lib.hid (show Blk _ (w.heap.size + 1) 0 0 0 0 from blk2_second w (.cells #[.int .u64 0, .int .u64 0, .int .u64 0, .int .u64 0] 161) (.cells #[.int .u64 0, .int .u64 0, .int .u64 0, .int .u64 0] 161))
  have HB := Lib.hid (((Below.refl w.heap.size w).alloc (Nat.le_refl _) (.cells #[.int .u64 0, .int .u64 0, .int .u64 0, .int .u64 0] 161)).alloc (by simp) (.cells #[.int .u64 0, .int .u64 0, .int .u64 0, .int .u64 0] 161))
  unfold numD at P1 P2 P3 P4 P5 P6 ⊢
  go_enter Tryz.func150, Tryz.ntmps150
  go_wp2_with fail
  refine (P1.out _).mono ?_
  rintro e w1 ⟨rfl, hb⟩
  have K2 := Lib.hid (blk_below hb K2.out)
  have K3 := Lib.hid (blk_below hb K3.out)
  have HB := Lib.hid (HB.out.trans (hb.mono HB.out.size))
  clear hb
  go_wp2_with fail
  refine (P2.out _).mono ?_
  rintro e w2 ⟨rfl, hb⟩
  have K2 := Lib.hid (blk_below hb K2.out)
  have K3 := Lib.hid (blk_below hb K3.out)
  have HB := Lib.hid (HB.out.trans (hb.mono HB.out.size))
  clear hb
  go_wp2_with fail
  refine (P3.out _).mono ?_
  rintro e w3 ⟨rfl, hb⟩
  have K2 := Lib.hid ((blk_below hb K2.out).alloc (.cells #[.int .u64 t0, .int .u64 t1, .int .u64 t2, .int .u64 t3] 161))
  have K3 := Lib.hid ((blk_below hb K3.out).alloc (.cells #[.int .u64 t0, .int .u64 t1, .int .u64 t2, .int .u64 t3] 161))
  have K4 := Lib.hid (show Blk _ w3.heap.size t0 t1 t2 t3 from heap_alloc_new w3 (.cells #[.int .u64 t0, .int .u64 t1, .int .u64 t2, .int .u64 t3] 161))
  have HB := Lib.hid ((HB.out.trans (hb.mono HB.out.size)).alloc (by have := HB.out.size; have := hb.size; omega) (.cells #[.int .u64 t0, .int .u64 t1, .int .u64 t2, .int .u64 t3] 161))
  clear hb
  go_wp2_with fail
  refine (P4.out _).mono ?_
  rintro e w4 ⟨rfl, hb⟩
  have K2 := Lib.hid ((blk_below hb K2.out).alloc (.cells #[.int .u64 q0, .int .u64 q1, .int .u64 q2, .int .u64 q3] 161))
  have K3 := Lib.hid ((blk_below hb K3.out).alloc (.cells #[.int .u64 q0, .int .u64 q1, .int .u64 q2, .int .u64 q3] 161))
  have K4 := Lib.hid ((blk_below hb K4.out).alloc (.cells #[.int .u64 q0, .int .u64 q1, .int .u64 q2, .int .u64 q3] 161))
  have K5 := Lib.hid (show Blk _ w4.heap.size q0 q1 q2 q3 from heap_alloc_new w4 (.cells #[.int .u64 q0, .int .u64 q1, .int .u64 q2, .int .u64 q3] 161))
  have HB := Lib.hid ((HB.out.trans (hb.mono HB.out.size)).alloc (by have := HB.out.size; have := hb.size; omega) (.cells #[.int .u64 q0, .int .u64 q1, .int .u64 q2, .int .u64 q3] 161))
  clear hb
  go_wp2_with fail
  generalize w4.alloc (.cells #[.int .u64 q0, .int .u64 q1, .int .u64 q2, .int .u64 q3] 161) = w5 at *
  have l2 := K2.out.lt
  have l3 := K3.out.lt
  have l4 := K4.out.lt
  have l5 := K5.out.lt
  obtain ⟨⟨a20, a21, a22, a23⟩, f20, f21, f22, f23⟩ := keepB K2.out
  obtain ⟨⟨a30, a31, a32, a33⟩, f30, f31, f32, f33⟩ := keepB K3.out
  obtain ⟨⟨a40, a41, a42, a43⟩, f40, f41, f42, f43⟩ := keepB K4.out
  obtain ⟨⟨a50, a51, a52, a53⟩, f50, f51, f52, f53⟩ := keepB K5.out
  clear P1 P2 P3 P4
  go_region_with (
    go_at_call 173
    first | with_reducible refine (P5.out _).mono ?_ | with_reducible refine (P6.out _).mono ?_
    rintro e w6 ⟨rfl, hb⟩
    have k2 := blk_below hb (by exact K2.out)
    have k3 := blk_below hb (by exact K3.out)
    have k4 := blk_below hb (by exact K4.out)
    have k5 := blk_below hb (by exact K5.out)
    have l2 := k2.lt
    have l3 := k3.lt
    have l4 := k4.lt
    have l5 := k5.lt
    obtain ⟨⟨a20, a21, a22, a23⟩, f20, f21, f22, f23⟩ := keepB k2
    obtain ⟨⟨a30, a31, a32, a33⟩, f30, f31, f32, f33⟩ := keepB k3
    obtain ⟨⟨a40, a41, a42, a43⟩, f40, f41, f42, f43⟩ := keepB k4
    obtain ⟨⟨a50, a51, a52, a53⟩, f50, f51, f52, f53⟩ := keepB k5
    have HB := Lib.hid (show Below w.heap.size w w6 from by first | exact HB.out.trans (hb.mono HB.out.size) | exact HB.out.drew.trans (hb.mono HB.out.size))
    have K2 := Lib.hid k2
    have K3 := Lib.hid k3
    have K4 := Lib.hid k4
    have K5 := Lib.hid k5
    clear hb k2 k3 k4 k5)
  all_goals (
    have k2 := (K2.out.write s0 s1 s2 s3).other (b' := w.heap.size + 1) (by omega) (.int .u64 c0) (.int .u64 c1) (.int .u64 c2) (.int .u64 c3)
    have k3 := (K3.out.other (b' := w.heap.size) (by omega) (.int .u64 s0) (.int .u64 s1) (.int .u64 s2) (.int .u64 s3)).write c0 c1 c2 c3
    obtain ⟨⟨r0, r1, r2, r3⟩, g0, g1, g2, g3⟩ := keepB k2
    obtain ⟨⟨r4, r5, r6, r7⟩, g4, g5, g6, g7⟩ := keepB k3
    have HF := Lib.hid (((((((((HB.out).setCell (p := ⟨w.heap.size, 0, none⟩) (by first | exact Nat.le_refl _ | simp) (.int .u64 s0)).setCell (p := ⟨w.heap.size, 1, none⟩) (by first | exact Nat.le_refl _ | simp) (.int .u64 s1)).setCell (p := ⟨w.heap.size, 2, none⟩) (by first | exact Nat.le_refl _ | simp) (.int .u64 s2)).setCell (p := ⟨w.heap.size, 3, none⟩) (by first | exact Nat.le_refl _ | simp) (.int .u64 s3)).setCell (p := ⟨w.heap.size + 1, 0, none⟩) (by first | exact Nat.le_refl _ | simp) (.int .u64 c0)).setCell (p := ⟨w.heap.size + 1, 1, none⟩) (by first | exact Nat.le_refl _ | simp) (.int .u64 c1)).setCell (p := ⟨w.heap.size + 1, 2, none⟩) (by first | exact Nat.le_refl _ | simp) (.int .u64 c2)).setCell (p := ⟨w.heap.size + 1, 3, none⟩) (by first | exact Nat.le_refl _ | simp) (.int .u64 c3))
    clear k2 k3
    go_wp2
    refine bodyPost_ret (v := .tuple #[numD s0 s1 s2 s3, numD c0 c1 c2 c3]) (by simp [results, Tryz.results150, go_sem, numD, r0, r1, r2, r3, r4, r5, r6, r7]) rfl ⟨rfl, ?_⟩
    first
      | exact HF.out
      | exact HF.out.drew)
end Go.Proofs.YtfilgpifiboccaaGreat
namespace Go.Proofs.YtfilgpifiboccaaGreat
open Go.RowKit
set_option maxRecDepth 100000 in
set_option maxHeartbeats 1000000 in
theorem circle_high (k : Nat) (hk : 2700000 < k) (hk2 : k ≤ 5400000) (w : World) : Calls Tryz.prog 150 #[.int .i64 (k : Int)] w (GPost (.tuple #[bigV (cosL (5400000 - k) : Int), bigV (sinL (5400000 - k) : Int)]) w) := by
  have P1 := circle_low (5400000 - k) (by omega)
  rw [show ((5400000 - k : Nat) : Int) = 5400000 - (k : Int) by omega] at P1
  have hs1 := serN_lt 300 true (angN (5400000 - k)) (angN (5400000 - k)) (sqN (5400000 - k)) 1 (by have := angN_lt (5400000 - k) (by omega); omega)
  have hs2 := serN_lt 300 true 6277101735386680763835789423207666416102355444464034512896 6277101735386680763835789423207666416102355444464034512896 (sqN (5400000 - k)) 0 (by omega)
  change sinL (5400000 - k) < _ at hs1
  change cosL (5400000 - k) < _ at hs2
  obtain ⟨s0, s1, s2, s3, _, _, es⟩ := big_words (V := (sinL (5400000 - k) : Int)) ⟨by omega, by omega⟩
  obtain ⟨c0, c1, c2, c3, _, _, ec⟩ := big_words (V := (cosL (5400000 - k) : Int)) ⟨by omega, by omega⟩
  rw [es, ec] at P1
  rw [es, ec]
  replace P1 := Lib.hid P1
  clear hs1 hs2 es ec
  have K2 := Lib.hid (show Blk _ w.heap.size 0 0 0 0 from blk2_first w (.cells #[.int .u64 0, .int .u64 0, .int .u64 0, .int .u64 0] 161) (.cells #[.int .u64 0, .int .u64 0, .int .u64 0, .int .u64 0] 161))
  have K3 := Lib.hid (show Blk _ (w.heap.size + 1) 0 0 0 0 from blk2_second w (.cells #[.int .u64 0, .int .u64 0, .int .u64 0, .int .u64 0] 161) (.cells #[.int .u64 0, .int .u64 0, .int .u64 0, .int .u64 0] 161))
  have HB := Lib.hid (((Below.refl w.heap.size w).alloc (Nat.le_refl _) (.cells #[.int .u64 0, .int .u64 0, .int .u64 0, .int .u64 0] 161)).alloc (by simp) (.cells #[.int .u64 0, .int .u64 0, .int .u64 0, .int .u64 0] 161))
  unfold numD at P1 ⊢
  go_enter Tryz.func150, Tryz.ntmps150
  go_wp2_with fail
  refine (P1.out _).mono ?_
  rintro e w1 ⟨rfl, hb⟩
  have k2 := blk_below hb K2.out
  have k3 := blk_below hb K3.out
  have l2 := k2.lt
  have l3 := k3.lt
  obtain ⟨⟨a20, a21, a22, a23⟩, f20, f21, f22, f23⟩ := keepB k2
  obtain ⟨⟨a30, a31, a32, a33⟩, f30, f31, f32, f33⟩ := keepB k3
  have K2 := Lib.hid ((k2.other (b' := w.heap.size + 1) (by omega) (.int .u64 s0) (.int .u64 s1) (.int .u64 s2) (.int .u64 s3)).write c0 c1 c2 c3)
  have K3 := Lib.hid ((k3.write s0 s1 s2 s3).other (b' := w.heap.size) (by omega) (.int .u64 c0) (.int .u64 c1) (.int .u64 c2) (.int .u64 c3))
  have HB := Lib.hid (((((((((HB.out.trans (hb.mono HB.out.size)).setCell (p := ⟨w.heap.size + 1, 0, none⟩) (by first | exact Nat.le_refl _ | simp) (.int .u64 s0)).setCell (p := ⟨w.heap.size + 1, 1, none⟩) (by first | exact Nat.le_refl _ | simp) (.int .u64 s1)).setCell (p := ⟨w.heap.size + 1, 2, none⟩) (by first | exact Nat.le_refl _ | simp) (.int .u64 s2)).setCell (p := ⟨w.heap.size + 1, 3, none⟩) (by first | exact Nat.le_refl _ | simp) (.int .u64 s3)).setCell (p := ⟨w.heap.size, 0, none⟩) (by first | exact Nat.le_refl _ | simp) (.int .u64 c0)).setCell (p := ⟨w.heap.size, 1, none⟩) (by first | exact Nat.le_refl _ | simp) (.int .u64 c1)).setCell (p := ⟨w.heap.size, 2, none⟩) (by first | exact Nat.le_refl _ | simp) (.int .u64 c2)).setCell (p := ⟨w.heap.size, 3, none⟩) (by first | exact Nat.le_refl _ | simp) (.int .u64 c3))
  clear hb k2 k3
  go_wp2_with fail
  generalize ((((((((w1).setCell ⟨w.heap.size + 1, 0, none⟩ (.int .u64 s0)).setCell ⟨w.heap.size + 1, 1, none⟩ (.int .u64 s1)).setCell ⟨w.heap.size + 1, 2, none⟩ (.int .u64 s2)).setCell ⟨w.heap.size + 1, 3, none⟩ (.int .u64 s3)).setCell ⟨w.heap.size, 0, none⟩ (.int .u64 c0)).setCell ⟨w.heap.size, 1, none⟩ (.int .u64 c1)).setCell ⟨w.heap.size, 2, none⟩ (.int .u64 c2)).setCell ⟨w.heap.size, 3, none⟩ (.int .u64 c3) = w5 at *
  have l2 := K2.out.lt
  have l3 := K3.out.lt
  obtain ⟨⟨a20, a21, a22, a23⟩, f20, f21, f22, f23⟩ := keepB K2.out
  obtain ⟨⟨a30, a31, a32, a33⟩, f30, f31, f32, f33⟩ := keepB K3.out
  go_region_with fail
  all_goals (
    have k2 := (K2.out.write c0 c1 c2 c3).other (b' := w.heap.size + 1) (by omega) (.int .u64 s0) (.int .u64 s1) (.int .u64 s2) (.int .u64 s3)
    have k3 := (K3.out.other (b' := w.heap.size) (by omega) (.int .u64 c0) (.int .u64 c1) (.int .u64 c2) (.int .u64 c3)).write s0 s1 s2 s3
    obtain ⟨⟨r0, r1, r2, r3⟩, g0, g1, g2, g3⟩ := keepB k2
    obtain ⟨⟨r4, r5, r6, r7⟩, g4, g5, g6, g7⟩ := keepB k3
    have HF := Lib.hid (((((((((HB.out).setCell (p := ⟨w.heap.size, 0, none⟩) (by first | exact Nat.le_refl _ | simp) (.int .u64 c0)).setCell (p := ⟨w.heap.size, 1, none⟩) (by first | exact Nat.le_refl _ | simp) (.int .u64 c1)).setCell (p := ⟨w.heap.size, 2, none⟩) (by first | exact Nat.le_refl _ | simp) (.int .u64 c2)).setCell (p := ⟨w.heap.size, 3, none⟩) (by first | exact Nat.le_refl _ | simp) (.int .u64 c3)).setCell (p := ⟨w.heap.size + 1, 0, none⟩) (by first | exact Nat.le_refl _ | simp) (.int .u64 s0)).setCell (p := ⟨w.heap.size + 1, 1, none⟩) (by first | exact Nat.le_refl _ | simp) (.int .u64 s1)).setCell (p := ⟨w.heap.size + 1, 2, none⟩) (by first | exact Nat.le_refl _ | simp) (.int .u64 s2)).setCell (p := ⟨w.heap.size + 1, 3, none⟩) (by first | exact Nat.le_refl _ | simp) (.int .u64 s3))
    clear k2 k3
    go_wp2
    refine bodyPost_ret (v := .tuple #[numD c0 c1 c2 c3, numD s0 s1 s2 s3]) (by simp [results, Tryz.results150, go_sem, numD, r0, r1, r2, r3, r4, r5, r6, r7]) rfl ⟨rfl, ?_⟩
    exact HF.out.drew)
theorem circle_any (k : Nat) (hk : k ≤ 5400000) (w : World) : Calls Tryz.prog 150 #[.int .i64 (k : Int)] w (GPost (.tuple #[bigV (sinN k : Int), bigV (cosN k : Int)]) w) := by
  unfold sinN cosN
  rcases Nat.lt_or_ge 2700000 k with h | h
  · rw [if_neg (by omega), if_neg (by omega)]; exact circle_high k h hk w
  · rw [if_pos h, if_pos h]; exact circle_low k h w
end Go.Proofs.YtfilgpifiboccaaGreat
namespace Go.Proofs.YtfilgpifiboccaaGreat
open Go.RowKit
def M256 : Nat := 115792089237316195423570985008687907853269984665640564039457584007913129639936
/-- Whether an angle of the first quadrant is at most that of a point. -/
def reaB (x y k : Nat) : Bool := if k = 0 then true else if k = 2700000 then decide (x ≤ y) else !decide (cosN k * y % M256 < sinN k * x % M256)
theorem sinN_lt (k : Nat) (hk : k ≤ 5400000) : sinN k < M256 ∧ cosN k < M256 := by
  unfold sinN cosN sinL cosL M256
  rcases Nat.lt_or_ge 2700000 k with h | h
  · rw [if_neg (by omega), if_neg (by omega)]
    exact ⟨serN_lt _ _ _ _ _ _ (by omega), serN_lt _ _ _ _ _ _ (by have := angN_lt (5400000 - k) (by omega); omega)⟩
  · rw [if_pos h, if_pos h]
    exact ⟨serN_lt _ _ _ _ _ _ (by have := angN_lt k h; omega), serN_lt _ _ _ _ _ _ (by omega)⟩
theorem keep10 {w0 W w1 : World} {b c d : Nat} {v0 v1 v2 v3 v4 v5 v6 v7 v8 v9 : Value} (h : (W.cell? ⟨b, 0, none⟩ = some v0 ∧ W.cell? ⟨b, 1, none⟩ = some v1 ∧ W.cell? ⟨c, 0, none⟩ = some v2 ∧ W.cell? ⟨c, 1, none⟩ = some v3 ∧ W.cell? ⟨c, 2, none⟩ = some v4 ∧ W.cell? ⟨c, 3, none⟩ = some v5 ∧ W.cell? ⟨d, 0, none⟩ = some v6 ∧ W.cell? ⟨d, 1, none⟩ = some v7 ∧ W.cell? ⟨d, 2, none⟩ = some v8 ∧ W.cell? ⟨d, 3, none⟩ = some v9) ∧ Below w0.heap.size w0 W) (hb : Below W.heap.size W w1) :
    (w1.cell? ⟨b, 0, none⟩ = some v0 ∧ w1.cell? ⟨b, 1, none⟩ = some v1 ∧ w1.cell? ⟨c, 0, none⟩ = some v2 ∧ w1.cell? ⟨c, 1, none⟩ = some v3 ∧ w1.cell? ⟨c, 2, none⟩ = some v4 ∧ w1.cell? ⟨c, 3, none⟩ = some v5 ∧ w1.cell? ⟨d, 0, none⟩ = some v6 ∧ w1.cell? ⟨d, 1, none⟩ = some v7 ∧ w1.cell? ⟨d, 2, none⟩ = some v8 ∧ w1.cell? ⟨d, 3, none⟩ = some v9) ∧ Below w0.heap.size w0 w1 := by
  obtain ⟨⟨h0, h1, h2, h3, h4, h5, h6, h7, h8, h9⟩, hB⟩ := h
  have hlt := World.block_lt_of_cell? W _ h0
  have hlc := World.block_lt_of_cell? W _ h2
  have hld := World.block_lt_of_cell? W _ h6
  exact ⟨⟨(hb.cell (p := ⟨b, 0, none⟩) hlt).trans h0, (hb.cell (p := ⟨b, 1, none⟩) hlt).trans h1, (hb.cell (p := ⟨c, 0, none⟩) hlc).trans h2, (hb.cell (p := ⟨c, 1, none⟩) hlc).trans h3, (hb.cell (p := ⟨c, 2, none⟩) hlc).trans h4, (hb.cell (p := ⟨c, 3, none⟩) hlc).trans h5, (hb.cell (p := ⟨d, 0, none⟩) hld).trans h6, (hb.cell (p := ⟨d, 1, none⟩) hld).trans h7, (hb.cell (p := ⟨d, 2, none⟩) hld).trans h8, (hb.cell (p := ⟨d, 3, none⟩) hld).trans h9⟩, hB.trans (hb.mono hB.size)⟩
set_option maxRecDepth 100000 in
set_option maxHeartbeats 1000000 in
theorem reaches_any (x y k : Nat) (hx : x ≤ 2147483648) (hy : y ≤ 2147483648) (hk : k ≤ 5400000) (w : World) : Calls Tryz.prog 114 #[pairV (x : Int) (y : Int), .int .i64 (k : Int)] w (GPost (.bool (reaB x y k)) w) := by
  obtain ⟨V, hV⟩ : ∃ V, V = Value.bool (reaB x y k) := ⟨_, rfl⟩
  rw [← hV]
  have K1 := Lib.hid (show Pair 108 _ w.heap.size (x : Int) (y : Int) from heap_alloc_new w (.cells #[.int .i64 (x : Int), .int .i64 (y : Int)] 108))
  have HB := Lib.hid ((Below.refl w.heap.size w).alloc (Nat.le_refl _) (.cells #[.int .i64 (x : Int), .int .i64 (y : Int)] 108))
  unfold reaB at hV
  by_cases h0 : k = 0
  · subst h0
    rw [show ((0 : Nat) : Int) = 0 from rfl]
    rw [if_pos rfl] at hV
    replace hV := Lib.hid hV
    unfold pairV
    go_enter Tryz.func114, Tryz.ntmps114
    go_wp2
    go_ret
    exact ⟨by rw [hV.out]; rfl, HB.out⟩
  by_cases h1 : k = 2700000
  · subst h1
    rw [show ((2700000 : Nat) : Int) = 2700000 from rfl]
    rw [if_neg (by omega), if_pos rfl] at hV
    replace hV := Lib.hid hV
    unfold pairV
    go_enter Tryz.func114, Tryz.ntmps114
    go_wp2
    go_ret
    exact ⟨by rw [hV.out]; simp, HB.out⟩
  rw [if_neg h0, if_neg h1] at hV
  have hlt := sinN_lt k hk
  unfold M256 at hlt
  have P1 := circle_any k hk
  obtain ⟨s0, s1, s2, s3, _, _, es⟩ := big_words (V := (sinN k : Int)) ⟨by omega, by omega⟩
  obtain ⟨c0, c1, c2, c3, _, _, ec⟩ := big_words (V := (cosN k : Int)) ⟨by omega, by omega⟩
  have P2 := btimes_any (cosN k : Int) (y : Int) ⟨by omega, by omega⟩ (by omega) (by omega)
  have P3 := btimes_any (sinN k : Int) (x : Int) ⟨by omega, by omega⟩ (by omega) (by omega)
  have e2 : (cosN k : Int) * (y : Int) % 115792089237316195423570985008687907853269984665640564039457584007913129639936 = ((cosN k * y % M256 : Nat) : Int) := by rw [Int.natCast_emod, Int.natCast_mul]; rfl
  have e3 : (sinN k : Int) * (x : Int) % 115792089237316195423570985008687907853269984665640564039457584007913129639936 = ((sinN k * x % M256 : Nat) : Int) := by rw [Int.natCast_emod, Int.natCast_mul]; rfl
  have b2 : cosN k * y % M256 < M256 := Nat.mod_lt _ (by decide)
  have b3 : sinN k * x % M256 < M256 := Nat.mod_lt _ (by decide)
  rw [e2] at P2
  rw [e3] at P3
  clear e2 e3
  generalize cosN k * y % M256 = A at *
  generalize sinN k * x % M256 = B at *
  unfold M256 at b2 b3
  have P4 := blt_any (A : Int) (B : Int) ⟨by omega, by omega⟩ ⟨by omega, by omega⟩
  obtain ⟨p0, p1, p2, p3, _, _, ea⟩ := big_words (V := (A : Int)) ⟨by omega, by omega⟩
  obtain ⟨q0, q1, q2, q3, _, _, eb⟩ := big_words (V := (B : Int)) ⟨by omega, by omega⟩
  have ed : decide ((A : Int) < (B : Int)) = decide (A < B) := by simp
  rw [es, ec] at P1
  rw [ec, ea] at P2
  rw [es, eb] at P3
  rw [ea, eb, ed] at P4
  generalize decide (A < B) = d at *
  have wx : IntKind.u64.wrap (x : Int) = (x : Int) := wrap_id _ (by omega) (by omega)
  have wy : IntKind.u64.wrap (y : Int) = (y : Int) := wrap_id _ (by omega) (by omega)
  unfold numD at P1 P2 P3 P4
  replace P1 := Lib.hid P1
  replace P2 := Lib.hid P2
  replace P3 := Lib.hid P3
  replace P4 := Lib.hid P4
  replace hV := Lib.hid hV
  clear hlt es ec ea eb ed b2 b3
  unfold pairV
  go_enter Tryz.func114, Tryz.ntmps114
  go_wp2_with fail
  refine (P1.out _).mono ?_
  rintro e w1 ⟨rfl, hb⟩
  have K1 := Lib.hid (((pair_below hb K1.out).alloc (.cells #[.int .u64 s0, .int .u64 s1, .int .u64 s2, .int .u64 s3] 161)).alloc (.cells #[.int .u64 c0, .int .u64 c1, .int .u64 c2, .int .u64 c3] 161))
  have K5 := Lib.hid (show Blk _ w1.heap.size s0 s1 s2 s3 from blk2_first w1 (.cells #[.int .u64 s0, .int .u64 s1, .int .u64 s2, .int .u64 s3] 161) (.cells #[.int .u64 c0, .int .u64 c1, .int .u64 c2, .int .u64 c3] 161))
  have K6 := Lib.hid (show Blk _ (w1.heap.size + 1) c0 c1 c2 c3 from blk2_second w1 (.cells #[.int .u64 s0, .int .u64 s1, .int .u64 s2, .int .u64 s3] 161) (.cells #[.int .u64 c0, .int .u64 c1, .int .u64 c2, .int .u64 c3] 161))
  have HB := Lib.hid (((HB.out.trans (hb.mono HB.out.size)).alloc (by have := HB.out.size; have := hb.size; omega) (.cells #[.int .u64 s0, .int .u64 s1, .int .u64 s2, .int .u64 s3] 161)).alloc (by have := HB.out.size; have := hb.size; simp; omega) (.cells #[.int .u64 c0, .int .u64 c1, .int .u64 c2, .int .u64 c3] 161))
  clear hb
  go_wp2_with fail
  generalize (w1.alloc (.cells #[.int .u64 s0, .int .u64 s1, .int .u64 s2, .int .u64 s3] 161)).alloc (.cells #[.int .u64 c0, .int .u64 c1, .int .u64 c2, .int .u64 c3] 161) = w5 at *
  have l1 := K1.out.lt
  have l5 := K5.out.lt
  have l6 := K6.out.lt
  obtain ⟨⟨a10, a11⟩, f10, f11⟩ := keep2 K1.out
  obtain ⟨⟨a50, a51, a52, a53⟩, f50, f51, f52, f53⟩ := keepB K5.out
  obtain ⟨⟨a60, a61, a62, a63⟩, f60, f61, f62, f63⟩ := keepB K6.out
  clear P1
  go_region_held3 (fun w' => (w'.cell? ⟨w.heap.size, 0, none⟩ = some (.int .i64 (x : Int)) ∧ w'.cell? ⟨w.heap.size, 1, none⟩ = some (.int .i64 (y : Int)) ∧ w'.cell? ⟨w1.heap.size, 0, none⟩ = some (.int .u64 s0) ∧ w'.cell? ⟨w1.heap.size, 1, none⟩ = some (.int .u64 s1) ∧ w'.cell? ⟨w1.heap.size, 2, none⟩ = some (.int .u64 s2) ∧ w'.cell? ⟨w1.heap.size, 3, none⟩ = some (.int .u64 s3) ∧ w'.cell? ⟨w1.heap.size + 1, 0, none⟩ = some (.int .u64 c0) ∧ w'.cell? ⟨w1.heap.size + 1, 1, none⟩ = some (.int .u64 c1) ∧ w'.cell? ⟨w1.heap.size + 1, 2, none⟩ = some (.int .u64 c2) ∧ w'.cell? ⟨w1.heap.size + 1, 3, none⟩ = some (.int .u64 c3)) ∧ Below w5.heap.size w5 w')
    (first | exact ⟨⟨a10, a11, a50, a51, a52, a53, a60, a61, a62, a63⟩, (Below.refl _ _).drew⟩ | exact keep10 (by assumption) (by assumption))
    (first
      | (go_at_call 151; (first | with_reducible refine (P2.out _).mono ?_ | with_reducible refine (P3.out _).mono ?_); rintro e w6 ⟨rfl, hb⟩)
      | (go_at_call 152; (with_reducible refine (P4.out _).mono ?_); rintro e w6 ⟨rfl, hb⟩))
  have hh : Below w5.heap.size w5 w6 := And.right (by assumption)
  have HF := Lib.hid (HB.out.trans (hh.mono HB.out.size))
  clear hh
  go_wp2
  go_ret
  exact ⟨by rw [hV.out]; rfl, HF.out⟩
end Go.Proofs.YtfilgpifiboccaaGreat

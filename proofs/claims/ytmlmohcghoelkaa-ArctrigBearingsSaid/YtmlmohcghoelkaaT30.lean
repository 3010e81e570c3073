import Derived.Test.YtmlmohcghoelkaaT29
namespace Go.Proofs.Ytmlmohcghoelkaa
open Go.RowKit
/-- The angle, its square, its sine and cosine as arctrig computes them (in units of 2^-192). -/
def angN (k : Nat) : Nat := 19720096697726538562396133364228268891463450865190089732560 * k / 10800000
def sqN (k : Nat) : Nat := angN k * angN k / 6277101735386680763835789423207666416102355444464034512896
def sinL (k : Nat) : Nat := serN 300 true (angN k) (angN k) (sqN k) 1
def cosL (k : Nat) : Nat := serN 300 true 6277101735386680763835789423207666416102355444464034512896 6277101735386680763835789423207666416102355444464034512896 (sqN k) 0
def sinN (k : Nat) : Nat := if k ≤ 2700000 then sinL k else cosL (5400000 - k)
def cosN (k : Nat) : Nat := if k ≤ 2700000 then cosL k else sinL (5400000 - k)
theorem angN_lt (k : Nat) (hk : k ≤ 2700000) : angN k < 6277101735386680763835789423207666416102355444464034512896 := by unfold angN; omega
theorem sqN_lt (k : Nat) (hk : k ≤ 2700000) : sqN k < 6277101735386680763835789423207666416102355444464034512896 := by
  have h := angN_lt k hk
  unfold sqN
  generalize angN k = t at *
  have : t * t ≤ t * 6277101735386680763835789423207666416102355444464034512896 := Nat.mul_le_mul_left _ (by omega)
  generalize t * t = P at *
  omega
theorem serN_lt : ∀ (f : Nat) (m : Bool) (s t q n : Nat), s < 115792089237316195423570985008687907853269984665640564039457584007913129639936 → serN f m s t q n < 115792089237316195423570985008687907853269984665640564039457584007913129639936
  | 0, _, s, _, _, _, h => h
  | f + 1, m, s, t, q, n, h => by
    unfold serN
    split
    · exact h
    · exact serN_lt f _ _ _ _ _ (by unfold serS; split <;> omega)
set_option maxRecDepth 100000 in
set_option maxHeartbeats 1000000 in
theorem circle_low (k : Nat) (hk : k ≤ 2700000) (w : World) : Calls Try.prog 59 #[.int .i64 (k : Int)] w (GPost (.tuple #[bigV (sinL k : Int), bigV (cosL k : Int)]) w) := by
  have ht := angN_lt k hk
  have hq := sqN_lt k hk
  have P1 := pi_any
  have P2 := btimes_any 19720096697726538562396133364228268891463450865190089732560 (k : Int) ⟨by omega, by omega⟩ (by omega) (by omega)
  obtain ⟨e0, e1, e2, e3, _, _, ee⟩ := big_words (V := 19720096697726538562396133364228268891463450865190089732560) ⟨by omega, by omega⟩
  have hP : 19720096697726538562396133364228268891463450865190089732560 * (k : Int) % 115792089237316195423570985008687907853269984665640564039457584007913129639936 = 19720096697726538562396133364228268891463450865190089732560 * (k : Int) := by omega
  obtain ⟨m0, m1, m2, m3, _, _, em⟩ := big_words (V := 19720096697726538562396133364228268891463450865190089732560 * (k : Int)) ⟨by omega, by omega⟩
  have P3 := bover_any (19720096697726538562396133364228268891463450865190089732560 * (k : Int)) 10800000 ⟨by omega, by omega⟩ (by omega) (by omega)
  have hA : 19720096697726538562396133364228268891463450865190089732560 * (k : Int) / 10800000 = (angN k : Int) := by unfold angN; rw [Int.natCast_ediv, Int.natCast_mul]; rfl
  obtain ⟨t0, t1, t2, t3, _, _, et⟩ := big_words (V := (angN k : Int)) ⟨by omega, by omega⟩
  have P4 := bmul_any (angN k : Int) (angN k : Int) ⟨by omega, by omega⟩ ⟨by omega, by omega⟩
  have hQ : (angN k : Int) * (angN k : Int) / 6277101735386680763835789423207666416102355444464034512896 % 115792089237316195423570985008687907853269984665640564039457584007913129639936 = (sqN k : Int) := by
    have : (angN k : Int) * (angN k : Int) / 6277101735386680763835789423207666416102355444464034512896 = (sqN k : Int) := by unfold sqN; rw [Int.natCast_ediv, Int.natCast_mul]; rfl
    rw [this]; omega
  obtain ⟨q0, q1, q2, q3, _, _, eq⟩ := big_words (V := (sqN k : Int)) ⟨by omega, by omega⟩
  have P5 := series_any (angN k) (sqN k) 1 (by omega) (by omega) (by omega)
  have P6 := series_any 6277101735386680763835789423207666416102355444464034512896 (sqN k) 0 (by omega) (by omega) (by omega)
  have hs1 := serN_lt 300 true (angN k) (angN k) (sqN k) 1 (by omega)
  have hs2 := serN_lt 300 true 6277101735386680763835789423207666416102355444464034512896 6277101735386680763835789423207666416102355444464034512896 (sqN k) 0 (by omega)
  change sinL k < _ at hs1
  change cosL k < _ at hs2
  obtain ⟨s0, s1, s2, s3, _, _, es⟩ := big_words (V := (sinL k : Int)) ⟨by omega, by omega⟩
  obtain ⟨c0, c1, c2, c3, _, _, ec⟩ := big_words (V := (cosL k : Int)) ⟨by omega, by omega⟩
  have eo : bigV ((6277101735386680763835789423207666416102355444464034512896 : Nat) : Int) = numD 1 0 0 0 := by unfold bigV; simp
  change ∀ w, Calls Try.prog 82 #[_, _, _] w (GPost (bigV (sinL k : Int)) w) at P5
  change ∀ w, Calls Try.prog 82 #[_, _, _] w (GPost (bigV (cosL k : Int)) w) at P6
  rw [ee] at P1
  rw [ee, hP, em] at P2
  rw [em, hA, et] at P3
  rw [et, hQ, eq] at P4
  rw [et, eq, es] at P5
  rw [eo, eq, ec] at P6
  rw [es, ec]
  rw [show ((1 : Nat) : Int) = 1 from rfl] at P5
  rw [show ((0 : Nat) : Int) = 0 from rfl] at P6
  have hw : IntKind.u64.wrap (k : Int) = (k : Int) := wrap_id _ (by omega) (by omega)
  replace P1 := Lib.hid P1
  replace P2 := Lib.hid P2
  replace P3 := Lib.hid P3
  replace P4 := Lib.hid P4
  replace P5 := Lib.hid P5
  replace P6 := Lib.hid P6
  clear hs1 hs2 ee hP em hA et hQ eq es ec eo ht hq
  have K2 := Lib.hid (show Blk _ w.heap.size 0 0 0 0 from blk2_first w (.cells #[.int .u64 0, .int .u64 0, .int .u64 0, .int .u64 0] 73) (.cells #[.int .u64 0, .int .u64 0, .int .u64 0, .int .u64 0] 73))
  have K3 := Lib.hid (show Blk _ (w.heap.size + 1) 0 0 0 0 from blk2_second w (.cells #[.int .u64 0, .int .u64 0, .int .u64 0, .int .u64 0] 73) (.cells #[.int .u64 0, .int .u64 0, .int .u64 0, .int .u64 0] 73))
  have HB := Lib.hid (((Below.refl w.heap.size w).alloc (Nat.le_refl _) (.cells #[.int .u64 0, .int .u64 0, .int .u64 0, .int .u64 0] 73)).alloc (by simp) (.cells #[.int .u64 0, .int .u64 0, .int .u64 0, .int .u64 0] 73))
  unfold numD at P1 P2 P3 P4 P5 P6 ⊢
  go_enter Try.func59, Try.ntmps59
  go_wp2_with fail
  refine (P1.out _).mono ?_
  rintro e w1 ⟨rfl, hb⟩
  have K2 := Lib.hid (blk_below hb K2.out)
  have K3 := Lib.hid (blk_below hb K3.out)
  have HB := Lib.hid (HB.out.trans (hb.mono HB.out.size))
  clear hb
  go_wp2_with fail
  refine (P2.out _).mono ?_
  rintro e w2 ⟨rfl, hb⟩
  have K2 := Lib.hid (blk_below hb K2.out)
  have K3 := Lib.hid (blk_below hb K3.out)
  have HB := Lib.hid (HB.out.trans (hb.mono HB.out.size))
  clear hb
  go_wp2_with fail
  refine (P3.out _).mono ?_
  rintro e w3 ⟨rfl, hb⟩
  have K2 := Lib.hid ((blk_below hb K2.out).alloc (.cells #[.int .u64 t0, .int .u64 t1, .int .u64 t2, .int .u64 t3] 73))
  have K3 := Lib.hid ((blk_below hb K3.out).alloc (.cells #[.int .u64 t0, .int .u64 t1, .int .u64 t2, .int .u64 t3] 73))
  have K4 := Lib.hid (show Blk _ w3.heap.size t0 t1 t2 t3 from heap_alloc_new w3 (.cells #[.int .u64 t0, .int .u64 t1, .int .u64 t2, .int .u64 t3] 73))
  have HB := Lib.hid ((HB.out.trans (hb.mono HB.out.size)).alloc (by have := HB.out.size; have := hb.size; omega) (.cells #[.int .u64 t0, .int .u64 t1, .int .u64 t2, .int .u64 t3] 73))
  clear hb
  go_wp2_with fail
  refine (P4.out _).mono ?_
  rintro e w4 ⟨rfl, hb⟩
  have K2 := Lib.hid ((blk_below hb K2.out).alloc (.cells #[.int .u64 q0, .int .u64 q1, .int .u64 q2, .int .u64 q3] 73))
  have K3 := Lib.hid ((blk_below hb K3.out).alloc (.cells #[.int .u64 q0, .int .u64 q1, .int .u64 q2, .int .u64 q3] 73))
  have K4 := Lib.hid ((blk_below hb K4.out).alloc (.cells #[.int .u64 q0, .int .u64 q1, .int .u64 q2, .int .u64 q3] 73))
  have K5 := Lib.hid (show Blk _ w4.heap.size q0 q1 q2 q3 from heap_alloc_new w4 (.cells #[.int .u64 q0, .int .u64 q1, .int .u64 q2, .int .u64 q3] 73))
  have HB := Lib.hid ((HB.out.trans (hb.mono HB.out.size)).alloc (by have := HB.out.size; have := hb.size; omega) (.cells #[.int .u64 q0, .int .u64 q1, .int .u64 q2, .int .u64 q3] 73))
  clear hb
  go_wp2_with fail
  generalize w4.alloc (.cells #[.int .u64 q0, .int .u64 q1, .int .u64 q2, .int .u64 q3] 73) = w5 at *
  have l2 := K2.out.lt
  have l3 := K3.out.lt
  have l4 := K4.out.lt
  have l5 := K5.out.lt
  obtain ⟨⟨a20, a21, a22, a23⟩, f20, f21, f22, f23⟩ := keepB K2.out
  obtain ⟨⟨a30, a31, a32, a33⟩, f30, f31, f32, f33⟩ := keepB K3.out
  obtain ⟨⟨a40, a41, a42, a43⟩, f40, f41, f42, f43⟩ := keepB K4.out
  obtain ⟨⟨a50, a51, a52, a53⟩, f50, f51, f52, f53⟩ := keepB K5.out
  clear P1 P2 P3 P4
  go_region_with (
    go_at_call 82
    first | with_reducible refine (P5.out _).mono ?_ | with_reducible refine (P6.out _).mono ?_
    rintro e w6 ⟨rfl, hb⟩
    have k2 := blk_below hb (by exact K2.out)
    have k3 := blk_below hb (by exact K3.out)
    have k4 := blk_below hb (by exact K4.out)
    have k5 := blk_below hb (by exact K5.out)
    have l2 := k2.lt
    have l3 := k3.lt
    have l4 := k4.lt
    have l5 := k5.lt
    obtain ⟨⟨a20, a21, a22, a23⟩, f20, f21, f22, f23⟩ := keepB k2
    obtain ⟨⟨a30, a31, a32, a33⟩, f30, f31, f32, f33⟩ := keepB k3
    obtain ⟨⟨a40, a41, a42, a43⟩, f40, f41, f42, f43⟩ := keepB k4
    obtain ⟨⟨a50, a51, a52, a53⟩, f50, f51, f52, f53⟩ := keepB k5
    have HB := Lib.hid (show Below w.heap.size w w6 from by first | exact HB.out.trans (hb.mono HB.out.size) | exact HB.out.drew.trans (hb.mono HB.out.size))
    have K2 := Lib.hid k2
    have K3 := Lib.hid k3
    have K4 := Lib.hid k4
    have K5 := Lib.hid k5
    clear hb k2 k3 k4 k5)
  all_goals (
    have k2 := (K2.out.write s0 s1 s2 s3).other (b' := w.heap.size + 1) (by omega) (.int .u64 c0) (.int .u64 c1) (.int .u64 c2) (.int .u64 c3)
    have k3 := (K3.out.other (b' := w.heap.size) (by omega) (.int .u64 s0) (.int .u64 s1) (.int .u64 s2) (.int .u64 s3)).write c0 c1 c2 c3
    obtain ⟨⟨r0, r1, r2, r3⟩, g0, g1, g2, g3⟩ := keepB k2
    obtain ⟨⟨r4, r5, r6, r7⟩, g4, g5, g6, g7⟩ := keepB k3
    have HF := Lib.hid (((((((((HB.out).setCell (p := ⟨w.heap.size, 0, none⟩) (by first | exact Nat.le_refl _ | simp) (.int .u64 s0)).setCell (p := ⟨w.heap.size, 1, none⟩) (by first | exact Nat.le_refl _ | simp) (.int .u64 s1)).setCell (p := ⟨w.heap.size, 2, none⟩) (by first | exact Nat.le_refl _ | simp) (.int .u64 s2)).setCell (p := ⟨w.heap.size, 3, none⟩) (by first | exact Nat.le_refl _ | simp) (.int .u64 s3)).setCell (p := ⟨w.heap.size + 1, 0, none⟩) (by first | exact Nat.le_refl _ | simp) (.int .u64 c0)).setCell (p := ⟨w.heap.size + 1, 1, none⟩) (by first | exact Nat.le_refl _ | simp) (.int .u64 c1)).setCell (p := ⟨w.heap.size + 1, 2, none⟩) (by first | exact Nat.le_refl _ | simp) (.int .u64 c2)).setCell (p := ⟨w.heap.size + 1, 3, none⟩) (by first | exact Nat.le_refl _ | simp) (.int .u64 c3))
    clear k2 k3
    go_wp2
    refine bodyPost_ret (v := .tuple #[numD s0 s1 s2 s3, numD c0 c1 c2 c3]) (by simp [results, Try.results59, go_sem, numD, r0, r1, r2, r3, r4, r5, r6, r7]) rfl ⟨rfl, ?_⟩
    first
      | exact HF.out
      | exact HF.out.drew)
end Go.Proofs.Ytmlmohcghoelkaa

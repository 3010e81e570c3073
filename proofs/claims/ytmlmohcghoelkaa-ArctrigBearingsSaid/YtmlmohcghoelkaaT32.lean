import Derived.Test.YtmlmohcghoelkaaT31
namespace Go.Proofs.Ytmlmohcghoelkaa
open Go.RowKit
def M256 : Nat := 115792089237316195423570985008687907853269984665640564039457584007913129639936
/-- Whether an angle of the first quadrant is at most that of a point. -/
def reaB (x y k : Nat) : Bool := if k = 0 then true else if k = 2700000 then decide (x ≤ y) else !decide (cosN k * y % M256 < sinN k * x % M256)
theorem sinN_lt (k : Nat) (hk : k ≤ 5400000) : sinN k < M256 ∧ cosN k < M256 := by
  unfold sinN cosN sinL cosL M256
  rcases Nat.lt_or_ge 2700000 k with h | h
  · rw [if_neg (by omega), if_neg (by omega)]
    exact ⟨serN_lt _ _ _ _ _ _ (by omega), serN_lt _ _ _ _ _ _ (by have := angN_lt (5400000 - k) (by omega); omega)⟩
  · rw [if_pos h, if_pos h]
    exact ⟨serN_lt _ _ _ _ _ _ (by have := angN_lt k h; omega), serN_lt _ _ _ _ _ _ (by omega)⟩
theorem keep10 {w0 W w1 : World} {b c d : Nat} {v0 v1 v2 v3 v4 v5 v6 v7 v8 v9 : Value} (h : (W.cell? ⟨b, 0, none⟩ = some v0 ∧ W.cell? ⟨b, 1, none⟩ = some v1 ∧ W.cell? ⟨c, 0, none⟩ = some v2 ∧ W.cell? ⟨c, 1, none⟩ = some v3 ∧ W.cell? ⟨c, 2, none⟩ = some v4 ∧ W.cell? ⟨c, 3, none⟩ = some v5 ∧ W.cell? ⟨d, 0, none⟩ = some v6 ∧ W.cell? ⟨d, 1, none⟩ = some v7 ∧ W.cell? ⟨d, 2, none⟩ = some v8 ∧ W.cell? ⟨d, 3, none⟩ = some v9) ∧ Below w0.heap.size w0 W) (hb : Below W.heap.size W w1) :
    (w1.cell? ⟨b, 0, none⟩ = some v0 ∧ w1.cell? ⟨b, 1, none⟩ = some v1 ∧ w1.cell? ⟨c, 0, none⟩ = some v2 ∧ w1.cell? ⟨c, 1, none⟩ = some v3 ∧ w1.cell? ⟨c, 2, none⟩ = some v4 ∧ w1.cell? ⟨c, 3, none⟩ = some v5 ∧ w1.cell? ⟨d, 0, none⟩ = some v6 ∧ w1.cell? ⟨d, 1, none⟩ = some v7 ∧ w1.cell? ⟨d, 2, none⟩ = some v8 ∧ w1.cell? ⟨d, 3, none⟩ = some v9) ∧ Below w0.heap.size w0 w1 := by
  obtain ⟨⟨h0, h1, h2, h3, h4, h5, h6, h7, h8, h9⟩, hB⟩ := h
  have hlt := World.block_lt_of_cell? W _ h0
  have hlc := World.block_lt_of_cell? W _ h2
  have hld := World.block_lt_of_cell? W _ h6
  exact ⟨⟨(hb.cell (p := ⟨b, 0, none⟩) hlt).trans h0, (hb.cell (p := ⟨b, 1, none⟩) hlt).trans h1, (hb.cell (p := ⟨c, 0, none⟩) hlc).trans h2, (hb.cell (p := ⟨c, 1, none⟩) hlc).trans h3, (hb.cell (p := ⟨c, 2, none⟩) hlc).trans h4, (hb.cell (p := ⟨c, 3, none⟩) hlc).trans h5, (hb.cell (p := ⟨d, 0, none⟩) hld).trans h6, (hb.cell (p := ⟨d, 1, none⟩) hld).trans h7, (hb.cell (p := ⟨d, 2, none⟩) hld).trans h8, (hb.cell (p := ⟨d, 3, none⟩) hld).trans h9⟩, hB.trans (hb.mono hB.size)⟩
set_option maxRecDepth 100000 in
set_option maxHeartbeats 1000000 in
theorem reaches_any (x y k : Nat) (hx : x ≤ 2147483648) (hy : y ≤ 2147483648) (hk : k ≤ 5400000) (w : World) : Calls Try.prog 51 #[pairV (x : Int) (y : Int), .int .i64 (k : Int)] w (GPost (.bool (reaB x y k)) w) := by
  obtain ⟨V, hV⟩ : ∃ V, V = Value.bool (reaB x y k) := ⟨_, rfl⟩
  rw [← hV]
  have K1 := Lib.hid (show Pair 53 _ w.heap.size (x : Int) (y : Int) from heap_alloc_new w (.cells #[.int .i64 (x : Int), .int .i64 (y : Int)] 53))
  have HB := Lib.hid ((Below.refl w.heap.size w).alloc (Nat.le_refl _) (.cells #[.int .i64 (x : Int), .int .i64 (y : Int)] 53))
  unfold reaB at hV
  by_cases h0 : k = 0
  · subst h0
    rw [show ((0 : Nat) : Int) = 0 from rfl]
    rw [if_pos rfl] at hV
    replace hV := Lib.hid hV
    unfold pairV
    go_enter Try.func51, Try.ntmps51
    go_wp2
    go_ret
    exact ⟨by rw [hV.out]; rfl, HB.out⟩
  by_cases h1 : k = 2700000
  · subst h1
    rw [show ((2700000 : Nat) : Int) = 2700000 from rfl]
    rw [if_neg (by omega), if_pos rfl] at hV
    replace hV := Lib.hid hV
    unfold pairV
    go_enter Try.func51, Try.ntmps51
    go_wp2
    go_ret
    exact ⟨by rw [hV.out]; simp, HB.out⟩
  rw [if_neg h0, if_neg h1] at hV
  have hlt := sinN_lt k hk
  unfold M256 at hlt
  have P1 := circle_any k hk
  obtain ⟨s0, s1, s2, s3, _, _, es⟩ := big_words (V := (sinN k : Int)) ⟨by omega, by omega⟩
  obtain ⟨c0, c1, c2, c3, _, _, ec⟩ := big_words (V := (cosN k : Int)) ⟨by omega, by omega⟩
  have P2 := btimes_any (cosN k : Int) (y : Int) ⟨by omega, by omega⟩ (by omega) (by omega)
  have P3 := btimes_any (sinN k : Int) (x : Int) ⟨by omega, by omega⟩ (by omega) (by omega)
  have e2 : (cosN k : Int) * (y : Int) % 115792089237316195423570985008687907853269984665640564039457584007913129639936 = ((cosN k * y % M256 : Nat) : Int) := by rw [Int.natCast_emod, Int.natCast_mul]; rfl
  have e3 : (sinN k : Int) * (x : Int) % 115792089237316195423570985008687907853269984665640564039457584007913129639936 = ((sinN k * x % M256 : Nat) : Int) := by rw [Int.natCast_emod, Int.natCast_mul]; rfl
  have b2 : cosN k * y % M256 < M256 := Nat.mod_lt _ (by decide)
  have b3 : sinN k * x % M256 < M256 := Nat.mod_lt _ (by decide)
  rw [e2] at P2
  rw [e3] at P3
  clear e2 e3
  generalize cosN k * y % M256 = A at *
  generalize sinN k * x % M256 = B at *
  unfold M256 at b2 b3
  have P4 := blt_any (A : Int) (B : Int) ⟨by omega, by omega⟩ ⟨by omega, by omega⟩
  obtain ⟨p0, p1, p2, p3, _, _, ea⟩ := big_words (V := (A : Int)) ⟨by omega, by omega⟩
  obtain ⟨q0, q1, q2, q3, _, _, eb⟩ := big_words (V := (B : Int)) ⟨by omega, by omega⟩
  have ed : decide ((A : Int) < (B : Int)) = decide (A < B) := by simp
  rw [es, ec] at P1
  rw [ec, ea] at P2
  rw [es, eb] at P3
  rw [ea, eb, ed] at P4
  generalize decide (A < B) = d at *
  have wx : IntKind.u64.wrap (x : Int) = (x : Int) := wrap_id _ (by omega) (by omega)
  have wy : IntKind.u64.wrap (y : Int) = (y : Int) := wrap_id _ (by omega) (by omega)
  unfold numD at P1 P2 P3 P4
  replace P1 := Lib.hid P1
  replace P2 := Lib.hid P2
  replace P3 := Lib.hid P3
  replace P4 := Lib.hid P4
  replace hV := Lib.hid hV
  clear hlt es ec ea eb ed b2 b3
  unfold pairV
  go_enter Try.func51, Try.ntmps51
  go_wp2_with fail
  refine (P1.out _).mono ?_
  rintro e w1 ⟨rfl, hb⟩
  have K1 := Lib.hid (((pair_below hb K1.out).alloc (.cells #[.int .u64 s0, .int .u64 s1, .int .u64 s2, .int .u64 s3] 73)).alloc (.cells #[.int .u64 c0, .int .u64 c1, .int .u64 c2, .int .u64 c3] 73))
  have K5 := Lib.hid (show Blk _ w1.heap.size s0 s1 s2 s3 from blk2_first w1 (.cells #[.int .u64 s0, .int .u64 s1, .int .u64 s2, .int .u64 s3] 73) (.cells #[.int .u64 c0, .int .u64 c1, .int .u64 c2, .int .u64 c3] 73))
  have K6 := Lib.hid (show Blk _ (w1.heap.size + 1) c0 c1 c2 c3 from blk2_second w1 (.cells #[.int .u64 s0, .int .u64 s1, .int .u64 s2, .int .u64 s3] 73) (.cells #[.int .u64 c0, .int .u64 c1, .int .u64 c2, .int .u64 c3] 73))
  have HB := Lib.hid (((HB.out.trans (hb.mono HB.out.size)).alloc (by have := HB.out.size; have := hb.size; omega) (.cells #[.int .u64 s0, .int .u64 s1, .int .u64 s2, .int .u64 s3] 73)).alloc (by have := HB.out.size; have := hb.size; simp; omega) (.cells #[.int .u64 c0, .int .u64 c1, .int .u64 c2, .int .u64 c3] 73))
  clear hb
  go_wp2_with fail
  generalize (w1.alloc (.cells #[.int .u64 s0, .int .u64 s1, .int .u64 s2, .int .u64 s3] 73)).alloc (.cells #[.int .u64 c0, .int .u64 c1, .int .u64 c2, .int .u64 c3] 73) = w5 at *
  have l1 := K1.out.lt
  have l5 := K5.out.lt
  have l6 := K6.out.lt
  obtain ⟨⟨a10, a11⟩, f10, f11⟩ := keep2 K1.out
  obtain ⟨⟨a50, a51, a52, a53⟩, f50, f51, f52, f53⟩ := keepB K5.out
  obtain ⟨⟨a60, a61, a62, a63⟩, f60, f61, f62, f63⟩ := keepB K6.out
  clear P1
  go_region_held3 (fun w' => (w'.cell? ⟨w.heap.size, 0, none⟩ = some (.int .i64 (x : Int)) ∧ w'.cell? ⟨w.heap.size, 1, none⟩ = some (.int .i64 (y : Int)) ∧ w'.cell? ⟨w1.heap.size, 0, none⟩ = some (.int .u64 s0) ∧ w'.cell? ⟨w1.heap.size, 1, none⟩ = some (.int .u64 s1) ∧ w'.cell? ⟨w1.heap.size, 2, none⟩ = some (.int .u64 s2) ∧ w'.cell? ⟨w1.heap.size, 3, none⟩ = some (.int .u64 s3) ∧ w'.cell? ⟨w1.heap.size + 1, 0, none⟩ = some (.int .u64 c0) ∧ w'.cell? ⟨w1.heap.size + 1, 1, none⟩ = some (.int .u64 c1) ∧ w'.cell? ⟨w1.heap.size + 1, 2, none⟩ = some (.int .u64 c2) ∧ w'.cell? ⟨w1.heap.size + 1, 3, none⟩ = some (.int .u64 c3)) ∧ Below w5.heap.size w5 w')
    (first | exact ⟨⟨a10, a11, a50, a51, a52, a53, a60, a61, a62, a63⟩, (Below.refl _ _).drew⟩ | exact keep10 (by assumption) (by assumption))
    (first
      | (go_at_call 60; (first | with_reducible refine (P2.out _).mono ?_ | with_reducible refine (P3.out _).mono ?_); rintro e w6 ⟨rfl, hb⟩)
      | (go_at_call 61; (with_reducible refine (P4.out _).mono ?_); rintro e w6 ⟨rfl, hb⟩))
  have hh : Below w5.heap.size w5 w6 := And.right (by assumption)
  have HF := Lib.hid (HB.out.trans (hh.mono HB.out.size))
  clear hh
  go_wp2
  go_ret
  exact ⟨by rw [hV.out]; rfl, HF.out⟩
end Go.Proofs.Ytmlmohcghoelkaa

import Derived.Test.YtfilgpifiboccaaGreatT13
namespace Go.Proofs.YtfilgpifiboccaaGreat
open Go.RowKit
set_option maxHeartbeats 6000000 in
theorem sine_sin (n x0 x1 x2 x3 u0 u1 u2 u3 m0 m1 m2 m3 s0 s1 s2 s3 : Int) (h0 : 0 < n) (h1 : n ≤ 2700000) (h2 : n ≠ 1800000) (hs : Word s0)
    (H1 : ∀ w, Calls Tryz.prog 181 #[.int .i64 n] w (NumPost w (numD x0 x1 x2 x3)))
    (H2 : ∀ w, Calls Tryz.prog 184 #[numD x0 x1 x2 x3, .int .u64 1] w (NumPost w (numD u0 u1 u2 u3)))
    (H3 : ∀ w, Calls Tryz.prog 183 #[numD x0 x1 x2 x3, numD u0 u1 u2 u3] w (NumPost w (numD m0 m1 m2 m3)))
    (H4 : ∀ w, Calls Tryz.prog 182 #[numD x0 x1 x2 x3, numD m0 m1 m2 m3] w (NumPost w (numD s0 s1 s2 s3))) (w : World) : Calls Tryz.prog 169 #[.int .i64 n] w (SinePost (s0 / 17179869184) false w) := by
  have H1 := Lib.hid H1
  have H2 := Lib.hid H2
  have H3 := Lib.hid H3
  have H4 := Lib.hid H4
  unfold numD at H1 H2 H3 H4
  obtain ⟨g0, g1⟩ := hs
  have g2 : n ≠ 0 := by omega
  have g4 : n ≠ 5400000 := by omega
  go_enter Tryz.func169, Tryz.ntmps169
  go_wp2_with fail
  refine (H1.out _).mono ?_
  rintro e w1 ⟨rfl, hb1⟩
  have n1 : Num w1 w.heap.size 0 0 0 0 := num_below hb1 (heap_alloc_new w _)
  have HB := Lib.hid (((Below.refl w.heap.size w).alloc (Nat.le_refl _) (.cells #[.int .u64 0, .int .u64 0, .int .u64 0, .int .u64 0] 176)).trans (hb1.mono (by simp)))
  have l1 := n1.lt
  have N1 := Lib.hid (n1.alloc (.cells #[.int .u64 x0, .int .u64 x1, .int .u64 x2, .int .u64 x3] 176))
  have NX := Lib.hid (show Num (w1.alloc (.cells #[.int .u64 x0, .int .u64 x1, .int .u64 x2, .int .u64 x3] 176)) w1.heap.size x0 x1 x2 x3 from heap_alloc_new w1 _)
  obtain ⟨⟨a0, a1, a2, a3⟩, a4, a5, a6, a7⟩ := keep4 (Below.refl w1.heap.size w1) l1 n1
  clear hb1 n1
  go_wp2_with fail
  go_region_with (first
    | (go_at_call 184; refine (H2.out _).mono ?_; rintro e w2 ⟨rfl, hb2⟩; have n2 := num_below hb2 (by exact N1.out); have n3 := num_below hb2 (by exact NX.out); have l2 := n2.lt; have l3 := n3.lt; obtain ⟨⟨b0, b1, b2, b3⟩, b4, b5, b6, b7⟩ := keep4 (Below.refl w2.heap.size w2) l2 n2; obtain ⟨⟨c0, c1, c2, c3⟩, c4, c5, c6, c7⟩ := keep4 (Below.refl w2.heap.size w2) l3 n3; have n2 := Lib.hid n2; have n3 := Lib.hid n3; have hb2 := Lib.hid hb2)
    | (go_at_call 183; refine (H3.out _).mono ?_; rintro e w3 ⟨rfl, hb3⟩; have n4 := num_below hb3 (by exact n2.out); have n5 := num_below hb3 (by exact n3.out); have l4 := n4.lt; have l5 := n5.lt; obtain ⟨⟨d0, d1, d2, d3⟩, d4, d5, d6, d7⟩ := keep4 (Below.refl w3.heap.size w3) l4 n4; obtain ⟨⟨e0, e1, e2, e3⟩, e4, e5, e6, e7⟩ := keep4 (Below.refl w3.heap.size w3) l5 n5; have n4 := Lib.hid n4; have n5 := Lib.hid n5; have hb3 := Lib.hid hb3)
    | (go_at_call 182; refine (H4.out _).mono ?_; rintro e w4 ⟨rfl, hb4⟩; have n6 := num_below hb4 (by exact n4.out); have l6 := n6.lt; obtain ⟨⟨p0, p1, p2, p3⟩, p4, p5, p6, p7⟩ := keep4 (Below.refl w4.heap.size w4) l6 n6; have n6 := Lib.hid n6; have hb4 := Lib.hid hb4))
  all_goals (
    have hq2 := HB.out.alloc (by have := HB.out.size; omega) (.cells #[.int .u64 x0, .int .u64 x1, .int .u64 x2, .int .u64 x3] 176)
    have hb5 : Below w.heap.size w w2 := by first
      | exact hq2.trans (hb2.out.mono hq2.size)
      | exact hq2.drew.trans (hb2.out.mono hq2.size)
    have hb6 : Below w.heap.size w w3 := by first
      | exact hb5.trans (hb3.out.mono hb5.size)
      | exact hb5.drew.trans (hb3.out.mono hb5.size)
    have hb7 : Below w.heap.size w w4 := by first
      | exact hb6.trans (hb4.out.mono hb6.size)
      | exact hb6.drew.trans (hb4.out.mono hb6.size)
    have n7 := n6.out.write s0 s1 s2 s3
    have l7 := n7.lt
    obtain ⟨⟨q0, q1, q2, q3⟩, q4, q5, q6, q7⟩ := keep4 (Below.refl _ _) l7 n7
    have HP := Lib.hid (show SinePost (s0 / 17179869184) false w (.returned (.tuple #[.int .i64 (s0 / 17179869184), .bool false])) ((((w4.setCell ⟨w.heap.size, 0, none⟩ (.int .u64 s0)).setCell ⟨w.heap.size, 1, none⟩ (.int .u64 s1)).setCell ⟨w.heap.size, 2, none⟩ (.int .u64 s2)).setCell ⟨w.heap.size, 3, none⟩ (.int .u64 s3)) from
      ⟨rfl, (((hb7.setCell (Nat.le_refl _) _).setCell (Nat.le_refl _) _).setCell (Nat.le_refl _) _).setCell (Nat.le_refl _) _⟩)
    clear hq2 hb5 hb6 hb7 n7
    go_wp2
    go_ret2
    exact HP.out)
end Go.Proofs.YtfilgpifiboccaaGreat

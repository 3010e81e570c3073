import Derived.Test.YtmlmohcghoelkaaT12
namespace Go.Proofs.Ytmlmohcghoelkaa
open Go.RowKit
def SinePost (v : Int) (b : Bool) (w : World) (e : Ending) (w' : World) : Prop := e = .returned (.tuple #[.int .i64 v, .bool b]) ∧ Below w.heap.size w w'
theorem sine_0 (w : World) : Calls Try.prog 54 #[.int .i64 0] w (SinePost 0 true w) := by
  have HP := Lib.hid (show SinePost 0 true w (.returned (.tuple #[.int .i64 0, .bool true])) w from ⟨rfl, Below.refl _ _⟩)
  go_enter Try.func54, Try.ntmps54
  go_wp2
  go_ret2
  exact HP.out
theorem sine_30 (w : World) : Calls Try.prog 54 #[.int .i64 1800000] w (SinePost 536870912 true w) := by
  have HP := Lib.hid (show SinePost 536870912 true w (.returned (.tuple #[.int .i64 536870912, .bool true])) w from ⟨rfl, Below.refl _ _⟩)
  go_enter Try.func54, Try.ntmps54
  go_wp2
  go_ret2
  exact HP.out
theorem sine_90 (w : World) : Calls Try.prog 54 #[.int .i64 5400000] w (SinePost 1073741824 true w) := by
  have HP := Lib.hid (show SinePost 1073741824 true w (.returned (.tuple #[.int .i64 1073741824, .bool true])) w from ⟨rfl, Below.refl _ _⟩)
  go_enter Try.func54, Try.ntmps54
  go_wp2
  go_ret2
  exact HP.out
set_option maxHeartbeats 1000000 in
theorem sine_cos (n x0 x1 x2 x3 u0 u1 u2 u3 s0 s1 s2 s3 : Int) (h1 : 2700000 < n) (h2 : n < 5400000) (hs : Word s0)
    (H1 : ∀ w, Calls Try.prog 64 #[.int .i64 (5400000 - n)] w (NumPost w (numD x0 x1 x2 x3)))
    (H2 : ∀ w, Calls Try.prog 67 #[numD x0 x1 x2 x3, .int .u64 0] w (NumPost w (numD u0 u1 u2 u3)))
    (H3 : ∀ w, Calls Try.prog 65 #[numD 0 0 0 0, numD u0 u1 u2 u3] w (NumPost w (numD s0 s1 s2 s3))) (w : World) : Calls Try.prog 54 #[.int .i64 n] w (SinePost (s0 / 17179869184) false w) := by
  have H1 := Lib.hid H1
  have H2 := Lib.hid H2
  have H3 := Lib.hid H3
  unfold numD at H1 H2 H3
  obtain ⟨g0, g1⟩ := hs
  have g2 : n ≠ 0 := by omega
  have g3 : n ≠ 1800000 := by omega
  have g4 : n ≠ 5400000 := by omega
  go_enter Try.func54, Try.ntmps54
  go_wp2_with fail
  refine (H1.out _).mono ?_
  rintro e w1 ⟨rfl, hb1⟩
  have HB1 := Lib.hid hb1
  clear hb1
  go_wp2_with fail
  refine (H2.out _).mono ?_
  rintro e w2 ⟨rfl, hb2⟩
  have HB2 := Lib.hid hb2
  clear hb2
  go_wp2_with fail
  refine (H3.out _).mono ?_
  rintro e w3 ⟨rfl, hb3⟩
  have HB3 := Lib.hid hb3
  clear hb3
  have hb := ((Below.refl w.heap.size w).alloc (Nat.le_refl _) (.cells #[.int .u64 0, .int .u64 0, .int .u64 0, .int .u64 0] 80)).trans ((HB1.out.trans (HB2.out.mono HB1.out.size)).trans (HB3.out.mono (Nat.le_trans HB1.out.size HB2.out.size)) |>.mono (by simp))
  have n1 : Num w1 w.heap.size 0 0 0 0 := num_below HB1.out (heap_alloc_new w _)
  have n3 : Num w3 w.heap.size 0 0 0 0 := num_below HB3.out (num_below HB2.out n1)
  have l3 := n3.lt
  obtain ⟨⟨c0, c1, c2, c3⟩, c4, c5, c6, c7⟩ := keep4 (Below.refl w3.heap.size w3) l3 n3
  have n4 := n3.write s0 s1 s2 s3
  have l4 := n4.lt
  obtain ⟨⟨d0, d1, d2, d3⟩, d4, d5, d6, d7⟩ := keep4 (Below.refl _ _) l4 n4
  have HP := Lib.hid (show SinePost (s0 / 17179869184) false w (.returned (.tuple #[.int .i64 (s0 / 17179869184), .bool false])) ((((w3.setCell ⟨w.heap.size, 0, none⟩ (.int .u64 s0)).setCell ⟨w.heap.size, 1, none⟩ (.int .u64 s1)).setCell ⟨w.heap.size, 2, none⟩ (.int .u64 s2)).setCell ⟨w.heap.size, 3, none⟩ (.int .u64 s3)) from
    ⟨rfl, (((hb.setCell (Nat.le_refl _) _).setCell (Nat.le_refl _) _).setCell (Nat.le_refl _) _).setCell (Nat.le_refl _) _⟩)
  clear hb n1 n3 n4
  go_wp2
  go_ret2
  exact HP.out
end Go.Proofs.Ytmlmohcghoelkaa

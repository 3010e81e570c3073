import Derived.Test.YtcjkfchjcealbaaGreatT49
namespace Go.Proofs.YtcjkfchjcealbaaGreat
open Go.RowKit
set_option maxRecDepth 100000 in
set_option maxHeartbeats 1000000 in
theorem racos_r (x y : Int) (w : World) : Calls Tryz.prog 58 #[pairV x y] w (GPost (arcV (acosR x y)) w) := by
  have HA := Lib.hid (rasin_r x y)
  obtain ⟨⟨g1, g2⟩, ⟨g3, g4⟩, g5, g6⟩ := asinR_bd x y
  obtain ⟨V, hV⟩ : ∃ V, V = arcV (acosR x y) := ⟨_, rfl⟩
  rw [← hV]
  unfold acosR at hV
  unfold arcV at HA
  generalize (asinR x y).1 = u at *
  generalize (asinR x y).2.1 = v at *
  generalize (asinR x y).2.2 = e at *
  have B0 : Below w.heap.size w ((w.alloc (.cells #[.int .i64 x, .int .i64 y] 45)).alloc (.cells #[.int .i64 0, .int .i64 0] 23)) := ((Below.refl w.heap.size w).alloc (Nat.le_refl _) _).alloc (by simp) _
  unfold pairV at HA ⊢
  have n2 : Pair 23 ((w.alloc (.cells #[.int .i64 x, .int .i64 y] 45)).alloc (.cells #[.int .i64 0, .int .i64 0] 23)) (w.heap.size + 1) 0 0 := blk2_second _ _ _
  have N2 := Lib.hid n2
  have HB := Lib.hid B0
  clear n2 B0
  by_cases he : e = 0
  · subst he
    rw [if_pos rfl] at hV
    have hV := Lib.hid hV
    go_enter Tryz.func58, Tryz.ntmps58
    go_wp2_with fail
    refine (HA.out _).mono ?_
    rintro e w1 ⟨rfl, hb⟩
    have n2 := pair_below hb N2.out
    have l2 := n2.lt
    have hz : w.heap.size + 2 ≤ w1.heap.size := by have := hb.size; simp at this; omega
    obtain ⟨⟨b0, b1⟩, b2, b3⟩ := keep2 n2
    have N3 := (n2.write (5400000 - v) (5400000 - u)).alloc (.cells #[.int .i64 u, .int .i64 v] 23)
    obtain ⟨⟨r0, r1⟩, r2, r3⟩ := keep2 N3
    have HB := Lib.hid (((HB.out.trans (hb.mono HB.out.size)).setCell (p := ⟨w.heap.size + 1, 0, none⟩) (by simp) (.int .i64 (5400000 - v)) |>.setCell (p := ⟨w.heap.size + 1, 1, none⟩) (by simp) (.int .i64 (5400000 - u))).alloc (by simp; omega) (.cells #[.int .i64 u, .int .i64 v] 23))
    clear hb n2 N3
    go_wp2
    refine bodyPost_ret (v := V) (by rw [hV.out]; simp [results, Tryz.results58, go_sem, arcV, pairV, r0, r1]) rfl ⟨rfl, HB.out⟩
  · rw [if_neg he] at hV
    have hV := Lib.hid hV
    go_enter Tryz.func58, Tryz.ntmps58
    go_wp2_with fail
    refine (HA.out _).mono ?_
    rintro e w1 ⟨rfl, hb⟩
    have n2 := pair_below hb N2.out
    have l2 := n2.lt
    have hz : w.heap.size + 2 ≤ w1.heap.size := by have := hb.size; simp at this; omega
    obtain ⟨⟨b0, b1⟩, b2, b3⟩ := keep2 n2
    have N3 := (n2.write 0 0).alloc (.cells #[.int .i64 u, .int .i64 v] 23)
    obtain ⟨⟨r0, r1⟩, r2, r3⟩ := keep2 N3
    have HB := Lib.hid (((HB.out.trans (hb.mono HB.out.size)).setCell (p := ⟨w.heap.size + 1, 0, none⟩) (by simp) (.int .i64 0) |>.setCell (p := ⟨w.heap.size + 1, 1, none⟩) (by simp) (.int .i64 0)).alloc (by simp; omega) (.cells #[.int .i64 u, .int .i64 v] 23))
    clear hb n2 N3
    go_wp2
    refine bodyPost_ret (v := V) (by rw [hV.out]; simp [results, Tryz.results58, go_sem, arcV, pairV, r0, r1]) rfl ⟨rfl, HB.out⟩
set_option maxRecDepth 100000 in
set_option maxHeartbeats 1000000 in
theorem rahav_r (x y : Int) (w : World) : Calls Tryz.prog 31 #[pairV x y] w (GPost (arcV (ahavR x y)) w) := by
  have HV := Lib.hid (rvalid_any x y)
  have B0 : Below w.heap.size w ((w.alloc (.cells #[.int .i64 x, .int .i64 y] 45)).alloc (.cells #[.int .i64 0, .int .i64 0] 23)) := ((Below.refl w.heap.size w).alloc (Nat.le_refl _) _).alloc (by simp) _
  obtain ⟨V, hV⟩ : ∃ V, V = arcV (ahavR x y) := ⟨_, rfl⟩
  rw [← hV]
  unfold ahavR at hV
  unfold pairV at HV ⊢
  have n1 : Pair 45 ((w.alloc (.cells #[.int .i64 x, .int .i64 y] 45)).alloc (.cells #[.int .i64 0, .int .i64 0] 23)) w.heap.size x y := blk2_first _ _ _
  have n2 : Pair 23 ((w.alloc (.cells #[.int .i64 x, .int .i64 y] 45)).alloc (.cells #[.int .i64 0, .int .i64 0] 23)) (w.heap.size + 1) 0 0 := blk2_second _ _ _
  have N1 := Lib.hid n1
  have N2 := Lib.hid n2
  have HB := Lib.hid B0
  clear n1 n2 B0
  by_cases hv : validB x y = false
  · rw [if_pos hv] at hV
    rw [hv] at HV
    have hV := Lib.hid hV
    clear hv
    go_enter Tryz.func31, Tryz.ntmps31
    go_wp2_with fail
    refine (HV.out _).mono ?_
    rintro e w1 ⟨rfl, hb⟩
    have n1 := pair_below hb N1.out
    have n2 := pair_below hb N2.out
    have l1 := n1.lt
    have l2 := n2.lt
    obtain ⟨⟨a0, a1⟩, a2, a3⟩ := keep2 n1
    obtain ⟨⟨b0, b1⟩, b2, b3⟩ := keep2 n2
    have HB := Lib.hid ((HB.out.trans (hb.mono HB.out.size)).setCell (p := ⟨w.heap.size + 1, 0, none⟩) (by simp) (.int .i64 0) |>.setCell (p := ⟨w.heap.size + 1, 1, none⟩) (by simp) (.int .i64 0))
    clear hb n1 n2
    go_wp2
    refine bodyPost_ret (v := V) (by rw [hV.out]; simp [results, Tryz.results31, go_sem, arcV, pairV, b0, b1]) rfl ⟨rfl, HB.out⟩
  · rw [if_neg hv] at hV
    have hv' : validB x y = true := by cases h : validB x y <;> simp_all
    rw [hv'] at HV
    obtain ⟨u, hu⟩ : ∃ u, max x 0 = u := ⟨_, rfl⟩
    obtain ⟨v, hv⟩ : ∃ v, min y 1073741824 = v := ⟨_, rfl⟩
    rw [hu, hv] at hV
    have hb1 : 0 ≤ u ∧ u ≤ 2147483648 ∧ v ≤ 1073741824 ∧ -2147483648 ≤ v := by simp [validB] at hv'; omega
    have hux : x < 0 ∧ u = 0 ∨ 0 ≤ x ∧ u = x := by omega
    have hvy : 1073741824 < y ∧ v = 1073741824 ∨ y ≤ 1073741824 ∧ v = y := by omega
    clear hv' hu hv
    obtain ⟨g0, g1, g2, g3⟩ := hb1
    by_cases hc : u ≤ v
    · rw [if_pos hc] at hV
      have HC := Lib.hid (racos_r (1073741824 - 2 * v) (1073741824 - 2 * u))
      unfold arcV pairV at HC
      unfold arcV at hV
      generalize (acosR (1073741824 - 2 * v) (1073741824 - 2 * u)).1 = p at *
      generalize (acosR (1073741824 - 2 * v) (1073741824 - 2 * u)).2.1 = q at *
      generalize (acosR (1073741824 - 2 * v) (1073741824 - 2 * u)).2.2 = r at *
      have hV := Lib.hid hV
      go_enter Tryz.func31, Tryz.ntmps31
      go_wp2_with fail
      refine (HV.out _).mono ?_
      rintro e w1 ⟨rfl, hb⟩
      have n1 := pair_below hb N1.out
      have n2 := pair_below hb N2.out
      have l1 := n1.lt
      have l2 := n2.lt
      obtain ⟨⟨a0, a1⟩, a2, a3⟩ := keep2 n1
      obtain ⟨⟨b0, b1⟩, b2, b3⟩ := keep2 n2
      have HB := Lib.hid (HB.out.trans (hb.mono HB.out.size))
      have N1 := Lib.hid n1
      have N2 := Lib.hid n2
      clear hb n1 n2
      rcases hux with ⟨c1, e1⟩ | ⟨c1, e1⟩ <;> rcases hvy with ⟨c2, e2⟩ | ⟨c2, e2⟩
      all_goals (
        rw [e1, e2] at HC hc
        clear e1 e2
        go_wp2_with fail
        refine (HC.out _).mono ?_
        rintro e w3 ⟨rfl, hb⟩
        have n1 := pair_below hb N1.out
        have n2 := pair_below hb N2.out
        have l1 := n1.lt
        have l2 := n2.lt
        obtain ⟨⟨a0, a1⟩, a2, a3⟩ := keep2 n1
        obtain ⟨⟨b0, b1⟩, b2, b3⟩ := keep2 n2
        have HB := Lib.hid ((HB.out.trans (hb.mono HB.out.size)).setCell (p := ⟨w.heap.size + 1, 0, none⟩) (by simp) (.int .i64 p) |>.setCell (p := ⟨w.heap.size + 1, 1, none⟩) (by simp) (.int .i64 q))
        have n3 := n2.write p q
        obtain ⟨⟨r0, r1⟩, r2, r3⟩ := keep2 n3
        clear hb n1 n2 n3
        go_wp2
        refine bodyPost_ret (v := V) (by rw [hV.out]; simp [results, Tryz.results31, go_sem, pairV, r0, r1]) rfl ⟨rfl, HB.out⟩)
    · rw [if_neg hc] at hV
      have hV := Lib.hid hV
      go_enter Tryz.func31, Tryz.ntmps31
      go_wp2_with fail
      refine (HV.out _).mono ?_
      rintro e w1 ⟨rfl, hb⟩
      have n1 := pair_below hb N1.out
      have n2 := pair_below hb N2.out
      have l1 := n1.lt
      have l2 := n2.lt
      obtain ⟨⟨a0, a1⟩, a2, a3⟩ := keep2 n1
      obtain ⟨⟨b0, b1⟩, b2, b3⟩ := keep2 n2
      have HB := Lib.hid ((HB.out.trans (hb.mono HB.out.size)).setCell (p := ⟨w.heap.size + 1, 0, none⟩) (by simp) (.int .i64 0) |>.setCell (p := ⟨w.heap.size + 1, 1, none⟩) (by simp) (.int .i64 0))
      have n3 := n2.write 0 0
      obtain ⟨⟨r0, r1⟩, r2, r3⟩ := keep2 n3
      clear hb n1 n2 n3
      rcases hux with ⟨c1, e1⟩ | ⟨c1, e1⟩ <;> rcases hvy with ⟨c2, e2⟩ | ⟨c2, e2⟩
      all_goals first
        | (exfalso; omega)
        | (rw [e1, e2] at hc
           clear e1 e2
           go_wp2
           refine bodyPost_ret (v := V) (by rw [hV.out]; simp [results, Tryz.results31, go_sem, arcV, pairV, r0, r1]) rfl ⟨rfl, HB.out⟩)
end Go.Proofs.YtcjkfchjcealbaaGreat

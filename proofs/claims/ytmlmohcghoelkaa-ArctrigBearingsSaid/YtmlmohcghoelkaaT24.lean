import Derived.Test.YtmlmohcghoelkaaT22
namespace Go.Proofs.Ytmlmohcghoelkaa
open Go.RowKit
theorem asinR_bd (x y : Int) : (-5400000 ≤ (asinR x y).1 ∧ (asinR x y).1 ≤ 5400000) ∧ (-5400000 ≤ (asinR x y).2.1 ∧ (asinR x y).2.1 ≤ 5400000) ∧ (0 ≤ (asinR x y).2.2 ∧ (asinR x y).2.2 ≤ 2) := by
  unfold asinR
  split
  · exact ⟨by constructor <;> decide, by constructor <;> decide, by constructor <;> decide⟩
  · split
    · have h1 := asn_is (max x (-1073741824)) (by omega)
      have h2 := asn_is (- min y 1073741824) (by omega)
      obtain ⟨a0, a1, _, _⟩ := h1
      obtain ⟨b0, b1, _, _⟩ := h2
      refine ⟨⟨a0, a1⟩, ⟨?_, ?_⟩, ?_, ?_⟩ <;> simp only <;> omega
    · exact ⟨by constructor <;> decide, by constructor <;> decide, by constructor <;> decide⟩
noncomputable def acosR (x y : Int) : Int × Int × Int := if (asinR x y).2.2 = 0 then (5400000 - (asinR x y).2.1, 5400000 - (asinR x y).1, 0) else (0, 0, (asinR x y).2.2)
noncomputable def ahavR (x y : Int) : Int × Int × Int := if validB x y = false then (0, 0, 1) else if max x 0 ≤ min y 1073741824 then acosR (1073741824 - 2 * min y 1073741824) (1073741824 - 2 * max x 0) else (0, 0, 2)
set_option maxRecDepth 100000 in
set_option maxHeartbeats 1000000 in
theorem acos_r (x y : Int) (w : World) : Calls Try.prog 13 #[pairV x y] w (GPost (arcV (acosR x y)) w) := by
  have HA := Lib.hid (asin_r x y)
  obtain ⟨⟨g1, g2⟩, ⟨g3, g4⟩, g5, g6⟩ := asinR_bd x y
  obtain ⟨V, hV⟩ : ∃ V, V = arcV (acosR x y) := ⟨_, rfl⟩
  rw [← hV]
  unfold acosR at hV
  unfold arcV at HA
  generalize (asinR x y).1 = u at *
  generalize (asinR x y).2.1 = v at *
  generalize (asinR x y).2.2 = e at *
  have B0 : Below w.heap.size w ((w.alloc (.cells #[.int .i64 x, .int .i64 y] 23)).alloc (.cells #[.int .i64 0, .int .i64 0] 25)) := ((Below.refl w.heap.size w).alloc (Nat.le_refl _) _).alloc (by simp) _
  unfold pairV at HA ⊢
  have n2 : Pair 25 ((w.alloc (.cells #[.int .i64 x, .int .i64 y] 23)).alloc (.cells #[.int .i64 0, .int .i64 0] 25)) (w.heap.size + 1) 0 0 := blk2_second _ _ _
  have N2 := Lib.hid n2
  have HB := Lib.hid B0
  clear n2 B0
  by_cases he : e = 0
  · subst he
    rw [if_pos rfl] at hV
    have hV := Lib.hid hV
    go_enter Try.func13, Try.ntmps13
    go_wp2_with fail
    refine (HA.out _).mono ?_
    rintro e w1 ⟨rfl, hb⟩
    have n2 := pair_below hb N2.out
    have l2 := n2.lt
    have hz : w.heap.size + 2 ≤ w1.heap.size := by have := hb.size; simp at this; omega
    obtain ⟨⟨b0, b1⟩, b2, b3⟩ := keep2 n2
    have N3 := (n2.write (5400000 - v) (5400000 - u)).alloc (.cells #[.int .i64 u, .int .i64 v] 25)
    obtain ⟨⟨r0, r1⟩, r2, r3⟩ := keep2 N3
    have HB := Lib.hid (((HB.out.trans (hb.mono HB.out.size)).setCell (p := ⟨w.heap.size + 1, 0, none⟩) (by simp) (.int .i64 (5400000 - v)) |>.setCell (p := ⟨w.heap.size + 1, 1, none⟩) (by simp) (.int .i64 (5400000 - u))).alloc (by simp; omega) (.cells #[.int .i64 u, .int .i64 v] 25))
    clear hb n2 N3
    go_wp2
    refine bodyPost_ret (v := V) (by rw [hV.out]; simp [results, Try.results13, go_sem, arcV, pairV, r0, r1]) rfl ⟨rfl, HB.out⟩
  · rw [if_neg he] at hV
    have hV := Lib.hid hV
    go_enter Try.func13, Try.ntmps13
    go_wp2_with fail
    refine (HA.out _).mono ?_
    rintro e w1 ⟨rfl, hb⟩
    have n2 := pair_below hb N2.out
    have l2 := n2.lt
    have hz : w.heap.size + 2 ≤ w1.heap.size := by have := hb.size; simp at this; omega
    obtain ⟨⟨b0, b1⟩, b2, b3⟩ := keep2 n2
    have N3 := (n2.write 0 0).alloc (.cells #[.int .i64 u, .int .i64 v] 25)
    obtain ⟨⟨r0, r1⟩, r2, r3⟩ := keep2 N3
    have HB := Lib.hid (((HB.out.trans (hb.mono HB.out.size)).setCell (p := ⟨w.heap.size + 1, 0, none⟩) (by simp) (.int .i64 0) |>.setCell (p := ⟨w.heap.size + 1, 1, none⟩) (by simp) (.int .i64 0)).alloc (by simp; omega) (.cells #[.int .i64 u, .int .i64 v] 25))
    clear hb n2 N3
    go_wp2
    refine bodyPost_ret (v := V) (by rw [hV.out]; simp [results, Try.results13, go_sem, arcV, pairV, r0, r1]) rfl ⟨rfl, HB.out⟩
end Go.Proofs.Ytmlmohcghoelkaa
namespace Go.Proofs.Ytmlmohcghoelkaa
open Go.RowKit
set_option maxRecDepth 100000 in
set_option maxHeartbeats 1000000 in
theorem ahav_r (x y : Int) (w : World) : Calls Try.prog 14 #[pairV x y] w (GPost (arcV (ahavR x y)) w) := by
  have HV := Lib.hid (valid_any x y)
  have HQ := Lib.hid (part_any x y 0 1073741824)
  have B0 : Below w.heap.size w ((w.alloc (.cells #[.int .i64 x, .int .i64 y] 23)).alloc (.cells #[.int .i64 0, .int .i64 0] 25)) := ((Below.refl w.heap.size w).alloc (Nat.le_refl _) _).alloc (by simp) _
  obtain ⟨V, hV⟩ : ∃ V, V = arcV (ahavR x y) := ⟨_, rfl⟩
  rw [← hV]
  unfold ahavR at hV
  have n1 : Pair 23 ((w.alloc (.cells #[.int .i64 x, .int .i64 y] 23)).alloc (.cells #[.int .i64 0, .int .i64 0] 25)) w.heap.size x y := blk2_first _ _ _
  have n2 : Pair 25 ((w.alloc (.cells #[.int .i64 x, .int .i64 y] 23)).alloc (.cells #[.int .i64 0, .int .i64 0] 25)) (w.heap.size + 1) 0 0 := blk2_second _ _ _
  have N1 := Lib.hid n1
  have N2 := Lib.hid n2
  have HB := Lib.hid B0
  clear n1 n2 B0
  by_cases hv : validB x y = false
  · rw [if_pos hv] at hV
    rw [hv] at HV
    have hV := Lib.hid hV
    unfold pairV at HV HQ ⊢
    clear hv HQ
    go_enter Try.func14, Try.ntmps14
    go_wp2_with fail
    refine (HV.out _).mono ?_
    rintro e w1 ⟨rfl, hb⟩
    have n1 := pair_below hb N1.out
    have n2 := pair_below hb N2.out
    have l1 := n1.lt
    have l2 := n2.lt
    obtain ⟨⟨a0, a1⟩, a2, a3⟩ := keep2 n1
    obtain ⟨⟨b0, b1⟩, b2, b3⟩ := keep2 n2
    have HB := Lib.hid ((HB.out.trans (hb.mono HB.out.size)).setCell (p := ⟨w.heap.size + 1, 0, none⟩) (by simp) (.int .i64 0) |>.setCell (p := ⟨w.heap.size + 1, 1, none⟩) (by simp) (.int .i64 0))
    clear hb n1 n2
    go_wp2
    refine bodyPost_ret (v := V) (by rw [hV.out]; simp [results, Try.results14, go_sem, arcV, pairV, b0, b1]) rfl ⟨rfl, HB.out⟩
  · rw [if_neg hv] at hV
    have hv' : validB x y = true := by cases h : validB x y <;> simp_all
    rw [hv'] at HV
    have hm3 : 0 ≤ max x 0 ∧ min y 1073741824 ≤ 1073741824 ∧ max x 0 ≤ 2147483648 ∧ -2147483648 ≤ min y 1073741824 := by simp [validB] at hv'; omega
    clear hv hv'
    generalize max x 0 = u at *
    generalize min y 1073741824 = v at *
    by_cases hc : u ≤ v
    · rw [if_pos hc] at hV
      rw [decide_eq_true hc] at HQ
      have HC := Lib.hid (acos_r (1073741824 - 2 * v) (1073741824 - 2 * u))
      unfold arcV at HC hV
      generalize (acosR (1073741824 - 2 * v) (1073741824 - 2 * u)).1 = p at *
      generalize (acosR (1073741824 - 2 * v) (1073741824 - 2 * u)).2.1 = q at *
      generalize (acosR (1073741824 - 2 * v) (1073741824 - 2 * u)).2.2 = r at *
      have hV := Lib.hid hV
      unfold pairV at HV HQ HC ⊢
      go_enter Try.func14, Try.ntmps14
      go_wp2_with fail
      refine (HV.out _).mono ?_
      rintro e w1 ⟨rfl, hb⟩
      have n1 := pair_below hb N1.out
      have n2 := pair_below hb N2.out
      have l1 := n1.lt
      have l2 := n2.lt
      obtain ⟨⟨a0, a1⟩, a2, a3⟩ := keep2 n1
      obtain ⟨⟨b0, b1⟩, b2, b3⟩ := keep2 n2
      have HB := Lib.hid (HB.out.trans (hb.mono HB.out.size))
      have N1 := Lib.hid n1
      have N2 := Lib.hid n2
      clear hb n1 n2
      go_wp2_with fail
      refine (HQ.out _).mono ?_
      rintro e w2 ⟨rfl, hb⟩
      have m1 := pair_below hb N1.out
      have m2 := pair_below hb N2.out
      have k1 := m1.lt
      have k2 := m2.lt
      obtain ⟨⟨c0, c1⟩, c2, c3⟩ := keep2 m1
      obtain ⟨⟨d0, d1⟩, d2, d3⟩ := keep2 m2
      have HB := Lib.hid ((HB.out.trans (hb.mono HB.out.size)).setCell (p := ⟨w.heap.size, 0, none⟩) (Nat.le_refl _) (.int .i64 u) |>.setCell (p := ⟨w.heap.size, 1, none⟩) (Nat.le_refl _) (.int .i64 v))
      have N1 := Lib.hid (m1.write u v)
      have N2 := Lib.hid (m2.other (b' := w.heap.size) (by omega) (.int .i64 u) (.int .i64 v))
      clear hb m1 m2
      go_wp2_with fail
      refine (HC.out _).mono ?_
      rintro e w3 ⟨rfl, hb⟩
      have n1 := pair_below hb N1.out
      have n2 := pair_below hb N2.out
      have j1 := n1.lt
      have j2 := n2.lt
      obtain ⟨⟨e0, e1⟩, e2, e3⟩ := keep2 n1
      obtain ⟨⟨f0, f1⟩, f2, f3⟩ := keep2 n2
      have N3 := n2.write p q
      obtain ⟨⟨r0, r1⟩, r2, r3⟩ := keep2 N3
      have HB := Lib.hid ((HB.out.trans (hb.mono HB.out.size)).setCell (p := ⟨w.heap.size + 1, 0, none⟩) (by simp) (.int .i64 p) |>.setCell (p := ⟨w.heap.size + 1, 1, none⟩) (by simp) (.int .i64 q))
      clear hb n1 n2 N3
      go_wp2
      refine bodyPost_ret (v := V) (by rw [hV.out]; simp [results, Try.results14, go_sem, pairV, r0, r1]) rfl ⟨rfl, HB.out⟩
    · rw [if_neg hc] at hV
      rw [decide_eq_false hc] at HQ
      have hV := Lib.hid hV
      unfold pairV at HV HQ ⊢
      go_enter Try.func14, Try.ntmps14
      go_wp2_with fail
      refine (HV.out _).mono ?_
      rintro e w1 ⟨rfl, hb⟩
      have n1 := pair_below hb N1.out
      have n2 := pair_below hb N2.out
      have l1 := n1.lt
      have l2 := n2.lt
      obtain ⟨⟨a0, a1⟩, a2, a3⟩ := keep2 n1
      obtain ⟨⟨b0, b1⟩, b2, b3⟩ := keep2 n2
      have HB := Lib.hid (HB.out.trans (hb.mono HB.out.size))
      have N1 := Lib.hid n1
      have N2 := Lib.hid n2
      clear hb n1 n2
      go_wp2_with fail
      refine (HQ.out _).mono ?_
      rintro e w2 ⟨rfl, hb⟩
      have m1 := pair_below hb N1.out
      have m2 := pair_below hb N2.out
      have k1 := m1.lt
      have k2 := m2.lt
      obtain ⟨⟨c0, c1⟩, c2, c3⟩ := keep2 m1
      obtain ⟨⟨d0, d1⟩, d2, d3⟩ := keep2 m2
      have N3 := (m2.other (b' := w.heap.size) (by omega) (.int .i64 u) (.int .i64 v)).write 0 0
      obtain ⟨⟨r0, r1⟩, r2, r3⟩ := keep2 N3
      have HB := Lib.hid ((HB.out.trans (hb.mono HB.out.size)).setCell (p := ⟨w.heap.size, 0, none⟩) (Nat.le_refl _) (.int .i64 u) |>.setCell (p := ⟨w.heap.size, 1, none⟩) (Nat.le_refl _) (.int .i64 v) |>.setCell (p := ⟨w.heap.size + 1, 0, none⟩) (by simp) (.int .i64 0) |>.setCell (p := ⟨w.heap.size + 1, 1, none⟩) (by simp) (.int .i64 0))
      clear hb m1 m2 N3
      go_wp2
      refine bodyPost_ret (v := V) (by rw [hV.out]; simp [results, Try.results14, go_sem, arcV, pairV, r0, r1]) rfl ⟨rfl, HB.out⟩
end Go.Proofs.Ytmlmohcghoelkaa

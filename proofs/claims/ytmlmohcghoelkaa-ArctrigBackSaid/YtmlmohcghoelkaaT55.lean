import Derived.Test.YtmlmohcghoelkaaT54
namespace Go.Proofs.Ytmlmohcghoelkaa
open Go.RowKit
set_option maxRecDepth 100000 in
set_option maxHeartbeats 4000000 in
theorem back_a (n lo hi : Int) (h0 : 0 ≤ n) (h1 : n ≤ 5400000) (w : World) : Calls Try.prog 9 #[.int .i64 n, pairV lo hi] w (GPost (.bool true) w) := by
  have HA := Lib.hid awake_any
  have HW := Lib.hid (within_any lo hi)
  have HB := Lib.hid ((Below.refl w.heap.size w).alloc (Nat.le_refl _) (.cells #[.int .i64 lo, .int .i64 hi] 23))
  have K0 := Lib.hid (show Pair 23 _ w.heap.size lo hi from heap_alloc_new w (.cells #[.int .i64 lo, .int .i64 hi] 23))
  obtain ⟨s1, t1, x1, y1, e1, e2, g1, g2⟩ := back1 n (by omega) (by omega)
  have C1 := sin_r n n
  have C2 := asin_r s1 t1
  rw [e1] at C1
  rw [e2] at C2
  obtain ⟨s2, t2, u2, v2, x2, y2, z2, r2, e3, e4, e5, e6, g3, g4, g5, g6⟩ := back2 n (by omega) (by omega)
  have C3 := cos_r n n
  have C4 := hav_r n n
  have C5 := acos_r s2 t2
  have C6 := ahav_r u2 v2
  rw [e3] at C3
  rw [e4] at C4
  rw [e5] at C5
  rw [e6] at C6
  unfold arcV pairV at C1 C2 C3 C4 C5 C6
  simp only at C1 C2 C3 C4 C5 C6
  replace C1 := Lib.hid C1
  replace C2 := Lib.hid C2
  replace C3 := Lib.hid C3
  replace C4 := Lib.hid C4
  replace C5 := Lib.hid C5
  replace C6 := Lib.hid C6
  clear e1 e2 e3 e4 e5 e6
  have hcase : (∃ x3 y3 s3 t3 : Int, withinB lo hi = true ∧ asinR lo hi = (x3, y3, 0) ∧ sinR x3 y3 = (s3, t3, 0) ∧ s3 ≤ lo ∧ hi ≤ t3) ∨ withinB lo hi = false := by
    by_cases h : withinB lo hi = true
    · left
      have h2 := h
      simp only [withinB, decide_eq_true_eq] at h2
      obtain ⟨x3, y3, s3, t3, a, b, c, d⟩ := back3 lo hi h2.1 h2.2.1 h2.2.2
      exact ⟨x3, y3, s3, t3, h, a, b, c, d⟩
    · right; simpa using h
  replace hcase := Lib.hid hcase
  unfold pairV at HW ⊢
  go_enter Try.func9, Try.ntmps9
  go_wp2_with fail
  refine (HA.out _).mono ?_
  rintro e w1 ⟨rfl, hb⟩
  have k0 := pair_below hb K0.out
  have HB := Lib.hid (HB.out.trans (hb.mono HB.out.size))
  have l0 := k0.lt
  obtain ⟨⟨a00, a01⟩, a02, a03⟩ := keep2 k0
  have K0 := Lib.hid k0
  clear hb k0
  go_wp2_with fail
  refine (C1.out _).mono ?_
  rintro e w2 ⟨rfl, hb⟩
  have k0 := (pair_below hb K0.out).alloc (.cells #[.int .i64 s1, .int .i64 t1] 23)
  have k1 : Pair 23 _ w2.heap.size s1 t1 := heap_alloc_new w2 (.cells #[.int .i64 s1, .int .i64 t1] 23)
  have HB := Lib.hid ((HB.out.trans (hb.mono HB.out.size)).alloc (by have := HB.out.size; have := hb.size; omega) (.cells #[.int .i64 s1, .int .i64 t1] 23))
  have l0 := k0.lt
  obtain ⟨⟨a00, a01⟩, a02, a03⟩ := keep2 k0
  have l1 := k1.lt
  obtain ⟨⟨a10, a11⟩, a12, a13⟩ := keep2 k1
  have K0 := Lib.hid k0
  have K1 := Lib.hid k1
  clear hb k0 k1
  go_wp2_with fail
  refine (C2.out _).mono ?_
  rintro e w3 ⟨rfl, hb⟩
  have k0 := (pair_below hb K0.out).alloc (.cells #[.int .i64 x1, .int .i64 y1] 25)
  have k1 := (pair_below hb K1.out).alloc (.cells #[.int .i64 x1, .int .i64 y1] 25)
  have k2 : Pair 25 _ w3.heap.size x1 y1 := heap_alloc_new w3 (.cells #[.int .i64 x1, .int .i64 y1] 25)
  have HB := Lib.hid ((HB.out.trans (hb.mono HB.out.size)).alloc (by have := HB.out.size; have := hb.size; omega) (.cells #[.int .i64 x1, .int .i64 y1] 25))
  have l0 := k0.lt
  obtain ⟨⟨a00, a01⟩, a02, a03⟩ := keep2 k0
  have l1 := k1.lt
  obtain ⟨⟨a10, a11⟩, a12, a13⟩ := keep2 k1
  have l2 := k2.lt
  obtain ⟨⟨a20, a21⟩, a22, a23⟩ := keep2 k2
  have K0 := Lib.hid k0
  have K1 := Lib.hid k1
  have K2 := Lib.hid k2
  clear hb k0 k1 k2
  go_wp2_with fail
  refine (C3.out _).mono ?_
  rintro e w4 ⟨rfl, hb⟩
  have k0 := (pair_below hb K0.out).alloc (.cells #[.int .i64 s2, .int .i64 t2] 23)
  have k1 := (pair_below hb K1.out).alloc (.cells #[.int .i64 s2, .int .i64 t2] 23)
  have k2 := (pair_below hb K2.out).alloc (.cells #[.int .i64 s2, .int .i64 t2] 23)
  have k3 : Pair 23 _ w4.heap.size s2 t2 := heap_alloc_new w4 (.cells #[.int .i64 s2, .int .i64 t2] 23)
  have HB := Lib.hid ((HB.out.trans (hb.mono HB.out.size)).alloc (by have := HB.out.size; have := hb.size; omega) (.cells #[.int .i64 s2, .int .i64 t2] 23))
  have l0 := k0.lt
  obtain ⟨⟨a00, a01⟩, a02, a03⟩ := keep2 k0
  have l1 := k1.lt
  obtain ⟨⟨a10, a11⟩, a12, a13⟩ := keep2 k1
  have l2 := k2.lt
  obtain ⟨⟨a20, a21⟩, a22, a23⟩ := keep2 k2
  have l3 := k3.lt
  obtain ⟨⟨a30, a31⟩, a32, a33⟩ := keep2 k3
  have K0 := Lib.hid k0
  have K1 := Lib.hid k1
  have K2 := Lib.hid k2
  have K3 := Lib.hid k3
  clear hb k0 k1 k2 k3
  clear K1 l1 a10 a11 a12 a13
  clear K2 l2 a20 a21 a22 a23
  go_wp2_with fail
  refine (C4.out _).mono ?_
  rintro e w5 ⟨rfl, hb⟩
  have k0 := (pair_below hb K0.out).alloc (.cells #[.int .i64 u2, .int .i64 v2] 23)
  have k3 := (pair_below hb K3.out).alloc (.cells #[.int .i64 u2, .int .i64 v2] 23)
  have k4 : Pair 23 _ w5.heap.size u2 v2 := heap_alloc_new w5 (.cells #[.int .i64 u2, .int .i64 v2] 23)
  have HB := Lib.hid ((HB.out.trans (hb.mono HB.out.size)).alloc (by have := HB.out.size; have := hb.size; omega) (.cells #[.int .i64 u2, .int .i64 v2] 23))
  have l0 := k0.lt
  obtain ⟨⟨a00, a01⟩, a02, a03⟩ := keep2 k0
  have l3 := k3.lt
  obtain ⟨⟨a30, a31⟩, a32, a33⟩ := keep2 k3
  have l4 := k4.lt
  obtain ⟨⟨a40, a41⟩, a42, a43⟩ := keep2 k4
  have K0 := Lib.hid k0
  have K3 := Lib.hid k3
  have K4 := Lib.hid k4
  clear hb k0 k3 k4
  go_wp2_with fail
  refine (C5.out _).mono ?_
  rintro e w6 ⟨rfl, hb⟩
  have k0 := (pair_below hb K0.out).alloc (.cells #[.int .i64 x2, .int .i64 y2] 25)
  have k3 := (pair_below hb K3.out).alloc (.cells #[.int .i64 x2, .int .i64 y2] 25)
  have k4 := (pair_below hb K4.out).alloc (.cells #[.int .i64 x2, .int .i64 y2] 25)
  have k5 : Pair 25 _ w6.heap.size x2 y2 := heap_alloc_new w6 (.cells #[.int .i64 x2, .int .i64 y2] 25)
  have HB := Lib.hid ((HB.out.trans (hb.mono HB.out.size)).alloc (by have := HB.out.size; have := hb.size; omega) (.cells #[.int .i64 x2, .int .i64 y2] 25))
  have l0 := k0.lt
  obtain ⟨⟨a00, a01⟩, a02, a03⟩ := keep2 k0
  have l3 := k3.lt
  obtain ⟨⟨a30, a31⟩, a32, a33⟩ := keep2 k3
  have l4 := k4.lt
  obtain ⟨⟨a40, a41⟩, a42, a43⟩ := keep2 k4
  have l5 := k5.lt
  obtain ⟨⟨a50, a51⟩, a52, a53⟩ := keep2 k5
  have K0 := Lib.hid k0
  have K3 := Lib.hid k3
  have K4 := Lib.hid k4
  have K5 := Lib.hid k5
  clear hb k0 k3 k4 k5
  go_wp2_with fail
  refine (C6.out _).mono ?_
  rintro e w7 ⟨rfl, hb⟩
  have k0 := (pair_below hb K0.out).alloc (.cells #[.int .i64 z2, .int .i64 r2] 25)
  have k3 := (pair_below hb K3.out).alloc (.cells #[.int .i64 z2, .int .i64 r2] 25)
  have k4 := (pair_below hb K4.out).alloc (.cells #[.int .i64 z2, .int .i64 r2] 25)
  have k5 := (pair_below hb K5.out).alloc (.cells #[.int .i64 z2, .int .i64 r2] 25)
  have k6 : Pair 25 _ w7.heap.size z2 r2 := heap_alloc_new w7 (.cells #[.int .i64 z2, .int .i64 r2] 25)
  have HB := Lib.hid ((HB.out.trans (hb.mono HB.out.size)).alloc (by have := HB.out.size; have := hb.size; omega) (.cells #[.int .i64 z2, .int .i64 r2] 25))
  have l0 := k0.lt
  obtain ⟨⟨a00, a01⟩, a02, a03⟩ := keep2 k0
  have l3 := k3.lt
  obtain ⟨⟨a30, a31⟩, a32, a33⟩ := keep2 k3
  have l4 := k4.lt
  obtain ⟨⟨a40, a41⟩, a42, a43⟩ := keep2 k4
  have l5 := k5.lt
  obtain ⟨⟨a50, a51⟩, a52, a53⟩ := keep2 k5
  have l6 := k6.lt
  obtain ⟨⟨a60, a61⟩, a62, a63⟩ := keep2 k6
  have K0 := Lib.hid k0
  have K3 := Lib.hid k3
  have K4 := Lib.hid k4
  have K5 := Lib.hid k5
  have K6 := Lib.hid k6
  clear hb k0 k3 k4 k5 k6
  obtain ⟨x3, y3, s3, t3, e7, e8, e9, g7, g8⟩ | e7 := hcase.out
  all_goals rw [e7] at HW; clear e7 hcase
  · have C7 := asin_r lo hi
    have C8 := sin_r x3 y3
    rw [e8] at C7
    rw [e9] at C8
    unfold arcV pairV at C7 C8
    simp only at C7 C8
    replace C7 := Lib.hid C7
    replace C8 := Lib.hid C8
    clear e8 e9
    go_wp2_with fail
    refine (HW.out _).mono ?_
    rintro e w8 ⟨rfl, hb⟩
    have k0 := pair_below hb K0.out
    have k3 := pair_below hb K3.out
    have k4 := pair_below hb K4.out
    have k5 := pair_below hb K5.out
    have k6 := pair_below hb K6.out
    have HB := Lib.hid (HB.out.trans (hb.mono HB.out.size))
    have l0 := k0.lt
    obtain ⟨⟨a00, a01⟩, a02, a03⟩ := keep2 k0
    have l3 := k3.lt
    obtain ⟨⟨a30, a31⟩, a32, a33⟩ := keep2 k3
    have l4 := k4.lt
    obtain ⟨⟨a40, a41⟩, a42, a43⟩ := keep2 k4
    have l5 := k5.lt
    obtain ⟨⟨a50, a51⟩, a52, a53⟩ := keep2 k5
    have l6 := k6.lt
    obtain ⟨⟨a60, a61⟩, a62, a63⟩ := keep2 k6
    have K0 := Lib.hid k0
    have K3 := Lib.hid k3
    have K4 := Lib.hid k4
    have K5 := Lib.hid k5
    have K6 := Lib.hid k6
    clear hb k0 k3 k4 k5 k6
    clear K3 l3 a30 a31 a32 a33
    clear K4 l4 a40 a41 a42 a43
    clear K5 l5 a50 a51 a52 a53
    clear K6 l6 a60 a61 a62 a63
    go_wp2_with fail
    refine (C7.out _).mono ?_
    rintro e w9 ⟨rfl, hb⟩
    have k0 := (pair_below hb K0.out).alloc (.cells #[.int .i64 x3, .int .i64 y3] 25)
    have k7 : Pair 25 _ w9.heap.size x3 y3 := heap_alloc_new w9 (.cells #[.int .i64 x3, .int .i64 y3] 25)
    have HB := Lib.hid ((HB.out.trans (hb.mono HB.out.size)).alloc (by have := HB.out.size; have := hb.size; omega) (.cells #[.int .i64 x3, .int .i64 y3] 25))
    have l0 := k0.lt
    obtain ⟨⟨a00, a01⟩, a02, a03⟩ := keep2 k0
    have l7 := k7.lt
    obtain ⟨⟨a70, a71⟩, a72, a73⟩ := keep2 k7
    have K0 := Lib.hid k0
    have K7 := Lib.hid k7
    clear hb k0 k7
    go_wp2_with fail
    refine (C8.out _).mono ?_
    rintro e w10 ⟨rfl, hb⟩
    have k0 := (pair_below hb K0.out).alloc (.cells #[.int .i64 s3, .int .i64 t3] 23)
    have k7 := (pair_below hb K7.out).alloc (.cells #[.int .i64 s3, .int .i64 t3] 23)
    have k8 : Pair 23 _ w10.heap.size s3 t3 := heap_alloc_new w10 (.cells #[.int .i64 s3, .int .i64 t3] 23)
    have HB := Lib.hid ((HB.out.trans (hb.mono HB.out.size)).alloc (by have := HB.out.size; have := hb.size; omega) (.cells #[.int .i64 s3, .int .i64 t3] 23))
    have l0 := k0.lt
    obtain ⟨⟨a00, a01⟩, a02, a03⟩ := keep2 k0
    have l7 := k7.lt
    obtain ⟨⟨a70, a71⟩, a72, a73⟩ := keep2 k7
    have l8 := k8.lt
    obtain ⟨⟨a80, a81⟩, a82, a83⟩ := keep2 k8
    have K0 := Lib.hid k0
    have K7 := Lib.hid k7
    have K8 := Lib.hid k8
    clear hb k0 k7 k8
    go_wp2
    go_ret
    exact ⟨rfl, HB.out⟩
  · go_wp2_with fail
    refine (HW.out _).mono ?_
    rintro e w8 ⟨rfl, hb⟩
    have k0 := pair_below hb K0.out
    have k3 := pair_below hb K3.out
    have k4 := pair_below hb K4.out
    have k5 := pair_below hb K5.out
    have k6 := pair_below hb K6.out
    have HB := Lib.hid (HB.out.trans (hb.mono HB.out.size))
    have l0 := k0.lt
    obtain ⟨⟨a00, a01⟩, a02, a03⟩ := keep2 k0
    have l3 := k3.lt
    obtain ⟨⟨a30, a31⟩, a32, a33⟩ := keep2 k3
    have l4 := k4.lt
    obtain ⟨⟨a40, a41⟩, a42, a43⟩ := keep2 k4
    have l5 := k5.lt
    obtain ⟨⟨a50, a51⟩, a52, a53⟩ := keep2 k5
    have l6 := k6.lt
    obtain ⟨⟨a60, a61⟩, a62, a63⟩ := keep2 k6
    have K0 := Lib.hid k0
    have K3 := Lib.hid k3
    have K4 := Lib.hid k4
    have K5 := Lib.hid k5
    have K6 := Lib.hid k6
    clear hb k0 k3 k4 k5 k6
    go_wp2
    go_ret
    exact ⟨rfl, HB.out⟩
set_option maxRecDepth 100000 in
set_option maxHeartbeats 4000000 in
theorem back_b (n lo hi : Int) (h0 : n < 0) (h1 : -5400000 ≤ n) (w : World) : Calls Try.prog 9 #[.int .i64 n, pairV lo hi] w (GPost (.bool true) w) := by
  have HA := Lib.hid awake_any
  have HW := Lib.hid (within_any lo hi)
  have HB := Lib.hid ((Below.refl w.heap.size w).alloc (Nat.le_refl _) (.cells #[.int .i64 lo, .int .i64 hi] 23))
  have K0 := Lib.hid (show Pair 23 _ w.heap.size lo hi from heap_alloc_new w (.cells #[.int .i64 lo, .int .i64 hi] 23))
  obtain ⟨s1, t1, x1, y1, e1, e2, g1, g2⟩ := back1 n (by omega) (by omega)
  have C1 := sin_r n n
  have C2 := asin_r s1 t1
  rw [e1] at C1
  rw [e2] at C2
  unfold arcV pairV at C1 C2
  simp only at C1 C2
  replace C1 := Lib.hid C1
  replace C2 := Lib.hid C2
  clear e1 e2
  have hcase : (∃ x3 y3 s3 t3 : Int, withinB lo hi = true ∧ asinR lo hi = (x3, y3, 0) ∧ sinR x3 y3 = (s3, t3, 0) ∧ s3 ≤ lo ∧ hi ≤ t3) ∨ withinB lo hi = false := by
    by_cases h : withinB lo hi = true
    · left
      have h2 := h
      simp only [withinB, decide_eq_true_eq] at h2
      obtain ⟨x3, y3, s3, t3, a, b, c, d⟩ := back3 lo hi h2.1 h2.2.1 h2.2.2
      exact ⟨x3, y3, s3, t3, h, a, b, c, d⟩
    · right; simpa using h
  replace hcase := Lib.hid hcase
  unfold pairV at HW ⊢
  go_enter Try.func9, Try.ntmps9
  go_wp2_with fail
  refine (HA.out _).mono ?_
  rintro e w1 ⟨rfl, hb⟩
  have k0 := pair_below hb K0.out
  have HB := Lib.hid (HB.out.trans (hb.mono HB.out.size))
  have l0 := k0.lt
  obtain ⟨⟨a00, a01⟩, a02, a03⟩ := keep2 k0
  have K0 := Lib.hid k0
  clear hb k0
  go_wp2_with fail
  refine (C1.out _).mono ?_
  rintro e w2 ⟨rfl, hb⟩
  have k0 := (pair_below hb K0.out).alloc (.cells #[.int .i64 s1, .int .i64 t1] 23)
  have k1 : Pair 23 _ w2.heap.size s1 t1 := heap_alloc_new w2 (.cells #[.int .i64 s1, .int .i64 t1] 23)
  have HB := Lib.hid ((HB.out.trans (hb.mono HB.out.size)).alloc (by have := HB.out.size; have := hb.size; omega) (.cells #[.int .i64 s1, .int .i64 t1] 23))
  have l0 := k0.lt
  obtain ⟨⟨a00, a01⟩, a02, a03⟩ := keep2 k0
  have l1 := k1.lt
  obtain ⟨⟨a10, a11⟩, a12, a13⟩ := keep2 k1
  have K0 := Lib.hid k0
  have K1 := Lib.hid k1
  clear hb k0 k1
  go_wp2_with fail
  refine (C2.out _).mono ?_
  rintro e w3 ⟨rfl, hb⟩
  have k0 := (pair_below hb K0.out).alloc (.cells #[.int .i64 x1, .int .i64 y1] 25)
  have k1 := (pair_below hb K1.out).alloc (.cells #[.int .i64 x1, .int .i64 y1] 25)
  have k2 : Pair 25 _ w3.heap.size x1 y1 := heap_alloc_new w3 (.cells #[.int .i64 x1, .int .i64 y1] 25)
  have HB := Lib.hid ((HB.out.trans (hb.mono HB.out.size)).alloc (by have := HB.out.size; have := hb.size; omega) (.cells #[.int .i64 x1, .int .i64 y1] 25))
  have l0 := k0.lt
  obtain ⟨⟨a00, a01⟩, a02, a03⟩ := keep2 k0
  have l1 := k1.lt
  obtain ⟨⟨a10, a11⟩, a12, a13⟩ := keep2 k1
  have l2 := k2.lt
  obtain ⟨⟨a20, a21⟩, a22, a23⟩ := keep2 k2
  have K0 := Lib.hid k0
  have K1 := Lib.hid k1
  have K2 := Lib.hid k2
  clear hb k0 k1 k2
  obtain ⟨x3, y3, s3, t3, e7, e8, e9, g7, g8⟩ | e7 := hcase.out
  all_goals rw [e7] at HW; clear e7 hcase
  · have C7 := asin_r lo hi
    have C8 := sin_r x3 y3
    rw [e8] at C7
    rw [e9] at C8
    unfold arcV pairV at C7 C8
    simp only at C7 C8
    replace C7 := Lib.hid C7
    replace C8 := Lib.hid C8
    clear e8 e9
    go_wp2_with fail
    refine (HW.out _).mono ?_
    rintro e w4 ⟨rfl, hb⟩
    have k0 := pair_below hb K0.out
    have k1 := pair_below hb K1.out
    have k2 := pair_below hb K2.out
    have HB := Lib.hid (HB.out.trans (hb.mono HB.out.size))
    have l0 := k0.lt
    obtain ⟨⟨a00, a01⟩, a02, a03⟩ := keep2 k0
    have l1 := k1.lt
    obtain ⟨⟨a10, a11⟩, a12, a13⟩ := keep2 k1
    have l2 := k2.lt
    obtain ⟨⟨a20, a21⟩, a22, a23⟩ := keep2 k2
    have K0 := Lib.hid k0
    have K1 := Lib.hid k1
    have K2 := Lib.hid k2
    clear hb k0 k1 k2
    clear K1 l1 a10 a11 a12 a13
    clear K2 l2 a20 a21 a22 a23
    go_wp2_with fail
    refine (C7.out _).mono ?_
    rintro e w5 ⟨rfl, hb⟩
    have k0 := (pair_below hb K0.out).alloc (.cells #[.int .i64 x3, .int .i64 y3] 25)
    have k7 : Pair 25 _ w5.heap.size x3 y3 := heap_alloc_new w5 (.cells #[.int .i64 x3, .int .i64 y3] 25)
    have HB := Lib.hid ((HB.out.trans (hb.mono HB.out.size)).alloc (by have := HB.out.size; have := hb.size; omega) (.cells #[.int .i64 x3, .int .i64 y3] 25))
    have l0 := k0.lt
    obtain ⟨⟨a00, a01⟩, a02, a03⟩ := keep2 k0
    have l7 := k7.lt
    obtain ⟨⟨a70, a71⟩, a72, a73⟩ := keep2 k7
    have K0 := Lib.hid k0
    have K7 := Lib.hid k7
    clear hb k0 k7
    go_wp2_with fail
    refine (C8.out _).mono ?_
    rintro e w6 ⟨rfl, hb⟩
    have k0 := (pair_below hb K0.out).alloc (.cells #[.int .i64 s3, .int .i64 t3] 23)
    have k7 := (pair_below hb K7.out).alloc (.cells #[.int .i64 s3, .int .i64 t3] 23)
    have k8 : Pair 23 _ w6.heap.size s3 t3 := heap_alloc_new w6 (.cells #[.int .i64 s3, .int .i64 t3] 23)
    have HB := Lib.hid ((HB.out.trans (hb.mono HB.out.size)).alloc (by have := HB.out.size; have := hb.size; omega) (.cells #[.int .i64 s3, .int .i64 t3] 23))
    have l0 := k0.lt
    obtain ⟨⟨a00, a01⟩, a02, a03⟩ := keep2 k0
    have l7 := k7.lt
    obtain ⟨⟨a70, a71⟩, a72, a73⟩ := keep2 k7
    have l8 := k8.lt
    obtain ⟨⟨a80, a81⟩, a82, a83⟩ := keep2 k8
    have K0 := Lib.hid k0
    have K7 := Lib.hid k7
    have K8 := Lib.hid k8
    clear hb k0 k7 k8
    go_wp2
    go_ret
    exact ⟨rfl, HB.out⟩
  · go_wp2_with fail
    refine (HW.out _).mono ?_
    rintro e w4 ⟨rfl, hb⟩
    have k0 := pair_below hb K0.out
    have k1 := pair_below hb K1.out
    have k2 := pair_below hb K2.out
    have HB := Lib.hid (HB.out.trans (hb.mono HB.out.size))
    have l0 := k0.lt
    obtain ⟨⟨a00, a01⟩, a02, a03⟩ := keep2 k0
    have l1 := k1.lt
    obtain ⟨⟨a10, a11⟩, a12, a13⟩ := keep2 k1
    have l2 := k2.lt
    obtain ⟨⟨a20, a21⟩, a22, a23⟩ := keep2 k2
    have K0 := Lib.hid k0
    have K1 := Lib.hid k1
    have K2 := Lib.hid k2
    clear hb k0 k1 k2
    go_wp2
    go_ret
    exact ⟨rfl, HB.out⟩
set_option maxRecDepth 100000 in
set_option maxHeartbeats 4000000 in
theorem back_c (n lo hi : Int) (h0 : 5400000 < n) (h1 : n ≤ 10800000) (w : World) : Calls Try.prog 9 #[.int .i64 n, pairV lo hi] w (GPost (.bool true) w) := by
  have HA := Lib.hid awake_any
  have HW := Lib.hid (within_any lo hi)
  have HB := Lib.hid ((Below.refl w.heap.size w).alloc (Nat.le_refl _) (.cells #[.int .i64 lo, .int .i64 hi] 23))
  have K0 := Lib.hid (show Pair 23 _ w.heap.size lo hi from heap_alloc_new w (.cells #[.int .i64 lo, .int .i64 hi] 23))
  obtain ⟨s2, t2, u2, v2, x2, y2, z2, r2, e3, e4, e5, e6, g3, g4, g5, g6⟩ := back2 n (by omega) (by omega)
  have C3 := cos_r n n
  have C4 := hav_r n n
  have C5 := acos_r s2 t2
  have C6 := ahav_r u2 v2
  rw [e3] at C3
  rw [e4] at C4
  rw [e5] at C5
  rw [e6] at C6
  unfold arcV pairV at C3 C4 C5 C6
  simp only at C3 C4 C5 C6
  replace C3 := Lib.hid C3
  replace C4 := Lib.hid C4
  replace C5 := Lib.hid C5
  replace C6 := Lib.hid C6
  clear e3 e4 e5 e6
  have hcase : (∃ x3 y3 s3 t3 : Int, withinB lo hi = true ∧ asinR lo hi = (x3, y3, 0) ∧ sinR x3 y3 = (s3, t3, 0) ∧ s3 ≤ lo ∧ hi ≤ t3) ∨ withinB lo hi = false := by
    by_cases h : withinB lo hi = true
    · left
      have h2 := h
      simp only [withinB, decide_eq_true_eq] at h2
      obtain ⟨x3, y3, s3, t3, a, b, c, d⟩ := back3 lo hi h2.1 h2.2.1 h2.2.2
      exact ⟨x3, y3, s3, t3, h, a, b, c, d⟩
    · right; simpa using h
  replace hcase := Lib.hid hcase
  unfold pairV at HW ⊢
  go_enter Try.func9, Try.ntmps9
  go_wp2_with fail
  refine (HA.out _).mono ?_
  rintro e w1 ⟨rfl, hb⟩
  have k0 := pair_below hb K0.out
  have HB := Lib.hid (HB.out.trans (hb.mono HB.out.size))
  have l0 := k0.lt
  obtain ⟨⟨a00, a01⟩, a02, a03⟩ := keep2 k0
  have K0 := Lib.hid k0
  clear hb k0
  go_wp2_with fail
  refine (C3.out _).mono ?_
  rintro e w2 ⟨rfl, hb⟩
  have k0 := (pair_below hb K0.out).alloc (.cells #[.int .i64 s2, .int .i64 t2] 23)
  have k3 : Pair 23 _ w2.heap.size s2 t2 := heap_alloc_new w2 (.cells #[.int .i64 s2, .int .i64 t2] 23)
  have HB := Lib.hid ((HB.out.trans (hb.mono HB.out.size)).alloc (by have := HB.out.size; have := hb.size; omega) (.cells #[.int .i64 s2, .int .i64 t2] 23))
  have l0 := k0.lt
  obtain ⟨⟨a00, a01⟩, a02, a03⟩ := keep2 k0
  have l3 := k3.lt
  obtain ⟨⟨a30, a31⟩, a32, a33⟩ := keep2 k3
  have K0 := Lib.hid k0
  have K3 := Lib.hid k3
  clear hb k0 k3
  go_wp2_with fail
  refine (C4.out _).mono ?_
  rintro e w3 ⟨rfl, hb⟩
  have k0 := (pair_below hb K0.out).alloc (.cells #[.int .i64 u2, .int .i64 v2] 23)
  have k3 := (pair_below hb K3.out).alloc (.cells #[.int .i64 u2, .int .i64 v2] 23)
  have k4 : Pair 23 _ w3.heap.size u2 v2 := heap_alloc_new w3 (.cells #[.int .i64 u2, .int .i64 v2] 23)
  have HB := Lib.hid ((HB.out.trans (hb.mono HB.out.size)).alloc (by have := HB.out.size; have := hb.size; omega) (.cells #[.int .i64 u2, .int .i64 v2] 23))
  have l0 := k0.lt
  obtain ⟨⟨a00, a01⟩, a02, a03⟩ := keep2 k0
  have l3 := k3.lt
  obtain ⟨⟨a30, a31⟩, a32, a33⟩ := keep2 k3
  have l4 := k4.lt
  obtain ⟨⟨a40, a41⟩, a42, a43⟩ := keep2 k4
  have K0 := Lib.hid k0
  have K3 := Lib.hid k3
  have K4 := Lib.hid k4
  clear hb k0 k3 k4
  go_wp2_with fail
  refine (C5.out _).mono ?_
  rintro e w4 ⟨rfl, hb⟩
  have k0 := (pair_below hb K0.out).alloc (.cells #[.int .i64 x2, .int .i64 y2] 25)
  have k3 := (pair_below hb K3.out).alloc (.cells #[.int .i64 x2, .int .i64 y2] 25)
  have k4 := (pair_below hb K4.out).alloc (.cells #[.int .i64 x2, .int .i64 y2] 25)
  have k5 : Pair 25 _ w4.heap.size x2 y2 := heap_alloc_new w4 (.cells #[.int .i64 x2, .int .i64 y2] 25)
  have HB := Lib.hid ((HB.out.trans (hb.mono HB.out.size)).alloc (by have := HB.out.size; have := hb.size; omega) (.cells #[.int .i64 x2, .int .i64 y2] 25))
  have l0 := k0.lt
  obtain ⟨⟨a00, a01⟩, a02, a03⟩ := keep2 k0
  have l3 := k3.lt
  obtain ⟨⟨a30, a31⟩, a32, a33⟩ := keep2 k3
  have l4 := k4.lt
  obtain ⟨⟨a40, a41⟩, a42, a43⟩ := keep2 k4
  have l5 := k5.lt
  obtain ⟨⟨a50, a51⟩, a52, a53⟩ := keep2 k5
  have K0 := Lib.hid k0
  have K3 := Lib.hid k3
  have K4 := Lib.hid k4
  have K5 := Lib.hid k5
  clear hb k0 k3 k4 k5
  go_wp2_with fail
  refine (C6.out _).mono ?_
  rintro e w5 ⟨rfl, hb⟩
  have k0 := (pair_below hb K0.out).alloc (.cells #[.int .i64 z2, .int .i64 r2] 25)
  have k3 := (pair_below hb K3.out).alloc (.cells #[.int .i64 z2, .int .i64 r2] 25)
  have k4 := (pair_below hb K4.out).alloc (.cells #[.int .i64 z2, .int .i64 r2] 25)
  have k5 := (pair_below hb K5.out).alloc (.cells #[.int .i64 z2, .int .i64 r2] 25)
  have k6 : Pair 25 _ w5.heap.size z2 r2 := heap_alloc_new w5 (.cells #[.int .i64 z2, .int .i64 r2] 25)
  have HB := Lib.hid ((HB.out.trans (hb.mono HB.out.size)).alloc (by have := HB.out.size; have := hb.size; omega) (.cells #[.int .i64 z2, .int .i64 r2] 25))
  have l0 := k0.lt
  obtain ⟨⟨a00, a01⟩, a02, a03⟩ := keep2 k0
  have l3 := k3.lt
  obtain ⟨⟨a30, a31⟩, a32, a33⟩ := keep2 k3
  have l4 := k4.lt
  obtain ⟨⟨a40, a41⟩, a42, a43⟩ := keep2 k4
  have l5 := k5.lt
  obtain ⟨⟨a50, a51⟩, a52, a53⟩ := keep2 k5
  have l6 := k6.lt
  obtain ⟨⟨a60, a61⟩, a62, a63⟩ := keep2 k6
  have K0 := Lib.hid k0
  have K3 := Lib.hid k3
  have K4 := Lib.hid k4
  have K5 := Lib.hid k5
  have K6 := Lib.hid k6
  clear hb k0 k3 k4 k5 k6
  obtain ⟨x3, y3, s3, t3, e7, e8, e9, g7, g8⟩ | e7 := hcase.out
  all_goals rw [e7] at HW; clear e7 hcase
  · have C7 := asin_r lo hi
    have C8 := sin_r x3 y3
    rw [e8] at C7
    rw [e9] at C8
    unfold arcV pairV at C7 C8
    simp only at C7 C8
    replace C7 := Lib.hid C7
    replace C8 := Lib.hid C8
    clear e8 e9
    go_wp2_with fail
    refine (HW.out _).mono ?_
    rintro e w6 ⟨rfl, hb⟩
    have k0 := pair_below hb K0.out
    have k3 := pair_below hb K3.out
    have k4 := pair_below hb K4.out
    have k5 := pair_below hb K5.out
    have k6 := pair_below hb K6.out
    have HB := Lib.hid (HB.out.trans (hb.mono HB.out.size))
    have l0 := k0.lt
    obtain ⟨⟨a00, a01⟩, a02, a03⟩ := keep2 k0
    have l3 := k3.lt
    obtain ⟨⟨a30, a31⟩, a32, a33⟩ := keep2 k3
    have l4 := k4.lt
    obtain ⟨⟨a40, a41⟩, a42, a43⟩ := keep2 k4
    have l5 := k5.lt
    obtain ⟨⟨a50, a51⟩, a52, a53⟩ := keep2 k5
    have l6 := k6.lt
    obtain ⟨⟨a60, a61⟩, a62, a63⟩ := keep2 k6
    have K0 := Lib.hid k0
    have K3 := Lib.hid k3
    have K4 := Lib.hid k4
    have K5 := Lib.hid k5
    have K6 := Lib.hid k6
    clear hb k0 k3 k4 k5 k6
    clear K3 l3 a30 a31 a32 a33
    clear K4 l4 a40 a41 a42 a43
    clear K5 l5 a50 a51 a52 a53
    clear K6 l6 a60 a61 a62 a63
    go_wp2_with fail
    refine (C7.out _).mono ?_
    rintro e w7 ⟨rfl, hb⟩
    have k0 := (pair_below hb K0.out).alloc (.cells #[.int .i64 x3, .int .i64 y3] 25)
    have k7 : Pair 25 _ w7.heap.size x3 y3 := heap_alloc_new w7 (.cells #[.int .i64 x3, .int .i64 y3] 25)
    have HB := Lib.hid ((HB.out.trans (hb.mono HB.out.size)).alloc (by have := HB.out.size; have := hb.size; omega) (.cells #[.int .i64 x3, .int .i64 y3] 25))
    have l0 := k0.lt
    obtain ⟨⟨a00, a01⟩, a02, a03⟩ := keep2 k0
    have l7 := k7.lt
    obtain ⟨⟨a70, a71⟩, a72, a73⟩ := keep2 k7
    have K0 := Lib.hid k0
    have K7 := Lib.hid k7
    clear hb k0 k7
    go_wp2_with fail
    refine (C8.out _).mono ?_
    rintro e w8 ⟨rfl, hb⟩
    have k0 := (pair_below hb K0.out).alloc (.cells #[.int .i64 s3, .int .i64 t3] 23)
    have k7 := (pair_below hb K7.out).alloc (.cells #[.int .i64 s3, .int .i64 t3] 23)
    have k8 : Pair 23 _ w8.heap.size s3 t3 := heap_alloc_new w8 (.cells #[.int .i64 s3, .int .i64 t3] 23)
    have HB := Lib.hid ((HB.out.trans (hb.mono HB.out.size)).alloc (by have := HB.out.size; have := hb.size; omega) (.cells #[.int .i64 s3, .int .i64 t3] 23))
    have l0 := k0.lt
    obtain ⟨⟨a00, a01⟩, a02, a03⟩ := keep2 k0
    have l7 := k7.lt
    obtain ⟨⟨a70, a71⟩, a72, a73⟩ := keep2 k7
    have l8 := k8.lt
    obtain ⟨⟨a80, a81⟩, a82, a83⟩ := keep2 k8
    have K0 := Lib.hid k0
    have K7 := Lib.hid k7
    have K8 := Lib.hid k8
    clear hb k0 k7 k8
    go_wp2
    go_ret
    exact ⟨rfl, HB.out⟩
  · go_wp2_with fail
    refine (HW.out _).mono ?_
    rintro e w6 ⟨rfl, hb⟩
    have k0 := pair_below hb K0.out
    have k3 := pair_below hb K3.out
    have k4 := pair_below hb K4.out
    have k5 := pair_below hb K5.out
    have k6 := pair_below hb K6.out
    have HB := Lib.hid (HB.out.trans (hb.mono HB.out.size))
    have l0 := k0.lt
    obtain ⟨⟨a00, a01⟩, a02, a03⟩ := keep2 k0
    have l3 := k3.lt
    obtain ⟨⟨a30, a31⟩, a32, a33⟩ := keep2 k3
    have l4 := k4.lt
    obtain ⟨⟨a40, a41⟩, a42, a43⟩ := keep2 k4
    have l5 := k5.lt
    obtain ⟨⟨a50, a51⟩, a52, a53⟩ := keep2 k5
    have l6 := k6.lt
    obtain ⟨⟨a60, a61⟩, a62, a63⟩ := keep2 k6
    have K0 := Lib.hid k0
    have K3 := Lib.hid k3
    have K4 := Lib.hid k4
    have K5 := Lib.hid k5
    have K6 := Lib.hid k6
    clear hb k0 k3 k4 k5 k6
    go_wp2
    go_ret
    exact ⟨rfl, HB.out⟩
set_option maxRecDepth 100000 in
set_option maxHeartbeats 4000000 in
theorem back_d (n lo hi : Int) (h0 : n < -5400000) (w : World) : Calls Try.prog 9 #[.int .i64 n, pairV lo hi] w (GPost (.bool true) w) := by
  have HA := Lib.hid awake_any
  have HW := Lib.hid (within_any lo hi)
  have HB := Lib.hid ((Below.refl w.heap.size w).alloc (Nat.le_refl _) (.cells #[.int .i64 lo, .int .i64 hi] 23))
  have K0 := Lib.hid (show Pair 23 _ w.heap.size lo hi from heap_alloc_new w (.cells #[.int .i64 lo, .int .i64 hi] 23))
  have hcase : (∃ x3 y3 s3 t3 : Int, withinB lo hi = true ∧ asinR lo hi = (x3, y3, 0) ∧ sinR x3 y3 = (s3, t3, 0) ∧ s3 ≤ lo ∧ hi ≤ t3) ∨ withinB lo hi = false := by
    by_cases h : withinB lo hi = true
    · left
      have h2 := h
      simp only [withinB, decide_eq_true_eq] at h2
      obtain ⟨x3, y3, s3, t3, a, b, c, d⟩ := back3 lo hi h2.1 h2.2.1 h2.2.2
      exact ⟨x3, y3, s3, t3, h, a, b, c, d⟩
    · right; simpa using h
  replace hcase := Lib.hid hcase
  unfold pairV at HW ⊢
  go_enter Try.func9, Try.ntmps9
  go_wp2_with fail
  refine (HA.out _).mono ?_
  rintro e w1 ⟨rfl, hb⟩
  have k0 := pair_below hb K0.out
  have HB := Lib.hid (HB.out.trans (hb.mono HB.out.size))
  have l0 := k0.lt
  obtain ⟨⟨a00, a01⟩, a02, a03⟩ := keep2 k0
  have K0 := Lib.hid k0
  clear hb k0
  obtain ⟨x3, y3, s3, t3, e7, e8, e9, g7, g8⟩ | e7 := hcase.out
  all_goals rw [e7] at HW; clear e7 hcase
  · have C7 := asin_r lo hi
    have C8 := sin_r x3 y3
    rw [e8] at C7
    rw [e9] at C8
    unfold arcV pairV at C7 C8
    simp only at C7 C8
    replace C7 := Lib.hid C7
    replace C8 := Lib.hid C8
    clear e8 e9
    go_wp2_with fail
    refine (HW.out _).mono ?_
    rintro e w2 ⟨rfl, hb⟩
    have k0 := pair_below hb K0.out
    have HB := Lib.hid (HB.out.trans (hb.mono HB.out.size))
    have l0 := k0.lt
    obtain ⟨⟨a00, a01⟩, a02, a03⟩ := keep2 k0
    have K0 := Lib.hid k0
    clear hb k0
    go_wp2_with fail
    refine (C7.out _).mono ?_
    rintro e w3 ⟨rfl, hb⟩
    have k0 := (pair_below hb K0.out).alloc (.cells #[.int .i64 x3, .int .i64 y3] 25)
    have k7 : Pair 25 _ w3.heap.size x3 y3 := heap_alloc_new w3 (.cells #[.int .i64 x3, .int .i64 y3] 25)
    have HB := Lib.hid ((HB.out.trans (hb.mono HB.out.size)).alloc (by have := HB.out.size; have := hb.size; omega) (.cells #[.int .i64 x3, .int .i64 y3] 25))
    have l0 := k0.lt
    obtain ⟨⟨a00, a01⟩, a02, a03⟩ := keep2 k0
    have l7 := k7.lt
    obtain ⟨⟨a70, a71⟩, a72, a73⟩ := keep2 k7
    have K0 := Lib.hid k0
    have K7 := Lib.hid k7
    clear hb k0 k7
    go_wp2_with fail
    refine (C8.out _).mono ?_
    rintro e w4 ⟨rfl, hb⟩
    have k0 := (pair_below hb K0.out).alloc (.cells #[.int .i64 s3, .int .i64 t3] 23)
    have k7 := (pair_below hb K7.out).alloc (.cells #[.int .i64 s3, .int .i64 t3] 23)
    have k8 : Pair 23 _ w4.heap.size s3 t3 := heap_alloc_new w4 (.cells #[.int .i64 s3, .int .i64 t3] 23)
    have HB := Lib.hid ((HB.out.trans (hb.mono HB.out.size)).alloc (by have := HB.out.size; have := hb.size; omega) (.cells #[.int .i64 s3, .int .i64 t3] 23))
    have l0 := k0.lt
    obtain ⟨⟨a00, a01⟩, a02, a03⟩ := keep2 k0
    have l7 := k7.lt
    obtain ⟨⟨a70, a71⟩, a72, a73⟩ := keep2 k7
    have l8 := k8.lt
    obtain ⟨⟨a80, a81⟩, a82, a83⟩ := keep2 k8
    have K0 := Lib.hid k0
    have K7 := Lib.hid k7
    have K8 := Lib.hid k8
    clear hb k0 k7 k8
    go_wp2
    go_ret
    exact ⟨rfl, HB.out⟩
  · go_wp2_with fail
    refine (HW.out _).mono ?_
    rintro e w2 ⟨rfl, hb⟩
    have k0 := pair_below hb K0.out
    have HB := Lib.hid (HB.out.trans (hb.mono HB.out.size))
    have l0 := k0.lt
    obtain ⟨⟨a00, a01⟩, a02, a03⟩ := keep2 k0
    have K0 := Lib.hid k0
    clear hb k0
    go_wp2
    go_ret
    exact ⟨rfl, HB.out⟩
set_option maxRecDepth 100000 in
set_option maxHeartbeats 4000000 in
theorem back_e (n lo hi : Int) (h0 : 10800000 < n) (w : World) : Calls Try.prog 9 #[.int .i64 n, pairV lo hi] w (GPost (.bool true) w) := by
  have HA := Lib.hid awake_any
  have HW := Lib.hid (within_any lo hi)
  have HB := Lib.hid ((Below.refl w.heap.size w).alloc (Nat.le_refl _) (.cells #[.int .i64 lo, .int .i64 hi] 23))
  have K0 := Lib.hid (show Pair 23 _ w.heap.size lo hi from heap_alloc_new w (.cells #[.int .i64 lo, .int .i64 hi] 23))
  have hcase : (∃ x3 y3 s3 t3 : Int, withinB lo hi = true ∧ asinR lo hi = (x3, y3, 0) ∧ sinR x3 y3 = (s3, t3, 0) ∧ s3 ≤ lo ∧ hi ≤ t3) ∨ withinB lo hi = false := by
    by_cases h : withinB lo hi = true
    · left
      have h2 := h
      simp only [withinB, decide_eq_true_eq] at h2
      obtain ⟨x3, y3, s3, t3, a, b, c, d⟩ := back3 lo hi h2.1 h2.2.1 h2.2.2
      exact ⟨x3, y3, s3, t3, h, a, b, c, d⟩
    · right; simpa using h
  replace hcase := Lib.hid hcase
  unfold pairV at HW ⊢
  go_enter Try.func9, Try.ntmps9
  go_wp2_with fail
  refine (HA.out _).mono ?_
  rintro e w1 ⟨rfl, hb⟩
  have k0 := pair_below hb K0.out
  have HB := Lib.hid (HB.out.trans (hb.mono HB.out.size))
  have l0 := k0.lt
  obtain ⟨⟨a00, a01⟩, a02, a03⟩ := keep2 k0
  have K0 := Lib.hid k0
  clear hb k0
  obtain ⟨x3, y3, s3, t3, e7, e8, e9, g7, g8⟩ | e7 := hcase.out
  all_goals rw [e7] at HW; clear e7 hcase
  · have C7 := asin_r lo hi
    have C8 := sin_r x3 y3
    rw [e8] at C7
    rw [e9] at C8
    unfold arcV pairV at C7 C8
    simp only at C7 C8
    replace C7 := Lib.hid C7
    replace C8 := Lib.hid C8
    clear e8 e9
    go_wp2_with fail
    refine (HW.out _).mono ?_
    rintro e w2 ⟨rfl, hb⟩
    have k0 := pair_below hb K0.out
    have HB := Lib.hid (HB.out.trans (hb.mono HB.out.size))
    have l0 := k0.lt
    obtain ⟨⟨a00, a01⟩, a02, a03⟩ := keep2 k0
    have K0 := Lib.hid k0
    clear hb k0
    go_wp2_with fail
    refine (C7.out _).mono ?_
    rintro e w3 ⟨rfl, hb⟩
    have k0 := (pair_below hb K0.out).alloc (.cells #[.int .i64 x3, .int .i64 y3] 25)
    have k7 : Pair 25 _ w3.heap.size x3 y3 := heap_alloc_new w3 (.cells #[.int .i64 x3, .int .i64 y3] 25)
    have HB := Lib.hid ((HB.out.trans (hb.mono HB.out.size)).alloc (by have := HB.out.size; have := hb.size; omega) (.cells #[.int .i64 x3, .int .i64 y3] 25))
    have l0 := k0.lt
    obtain ⟨⟨a00, a01⟩, a02, a03⟩ := keep2 k0
    have l7 := k7.lt
    obtain ⟨⟨a70, a71⟩, a72, a73⟩ := keep2 k7
    have K0 := Lib.hid k0
    have K7 := Lib.hid k7
    clear hb k0 k7
    go_wp2_with fail
    refine (C8.out _).mono ?_
    rintro e w4 ⟨rfl, hb⟩
    have k0 := (pair_below hb K0.out).alloc (.cells #[.int .i64 s3, .int .i64 t3] 23)
    have k7 := (pair_below hb K7.out).alloc (.cells #[.int .i64 s3, .int .i64 t3] 23)
    have k8 : Pair 23 _ w4.heap.size s3 t3 := heap_alloc_new w4 (.cells #[.int .i64 s3, .int .i64 t3] 23)
    have HB := Lib.hid ((HB.out.trans (hb.mono HB.out.size)).alloc (by have := HB.out.size; have := hb.size; omega) (.cells #[.int .i64 s3, .int .i64 t3] 23))
    have l0 := k0.lt
    obtain ⟨⟨a00, a01⟩, a02, a03⟩ := keep2 k0
    have l7 := k7.lt
    obtain ⟨⟨a70, a71⟩, a72, a73⟩ := keep2 k7
    have l8 := k8.lt
    obtain ⟨⟨a80, a81⟩, a82, a83⟩ := keep2 k8
    have K0 := Lib.hid k0
    have K7 := Lib.hid k7
    have K8 := Lib.hid k8
    clear hb k0 k7 k8
    go_wp2
    go_ret
    exact ⟨rfl, HB.out⟩
  · go_wp2_with fail
    refine (HW.out _).mono ?_
    rintro e w2 ⟨rfl, hb⟩
    have k0 := pair_below hb K0.out
    have HB := Lib.hid (HB.out.trans (hb.mono HB.out.size))
    have l0 := k0.lt
    obtain ⟨⟨a00, a01⟩, a02, a03⟩ := keep2 k0
    have K0 := Lib.hid k0
    clear hb k0
    go_wp2
    go_ret
    exact ⟨rfl, HB.out⟩
theorem back_any (n lo hi : Int) (w : World) : Calls Try.prog 9 #[.int .i64 n, pairV lo hi] w (GPost (.bool true) w) := by
  rcases (show n < -5400000 ∨ (n < 0 ∧ -5400000 ≤ n) ∨ (0 ≤ n ∧ n ≤ 5400000) ∨ (5400000 < n ∧ n ≤ 10800000) ∨ 10800000 < n by omega) with h | h | h | h | h
  · exact back_d n lo hi h w
  · exact back_b n lo hi h.1 h.2 w
  · exact back_a n lo hi h.1 h.2 w
  · exact back_c n lo hi h.1 h.2 w
  · exact back_e n lo hi h w
end Go.Proofs.Ytmlmohcghoelkaa

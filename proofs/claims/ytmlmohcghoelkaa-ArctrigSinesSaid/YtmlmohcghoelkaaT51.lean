import Derived.Test.YtmlmohcghoelkaaT50
namespace Go.Proofs.Ytmlmohcghoelkaa
open Go.RowKit
set_option maxRecDepth 100000 in
set_option maxHeartbeats 2000000 in
theorem sines_any (lo hi : Int) (w : World) : Calls Try.prog 3 #[pairV lo hi] w (GPost (.bool true) w) := by
  have HW := Lib.hid awake_any
  have HB := Lib.hid ((Below.refl w.heap.size w).alloc (Nat.le_refl _) (.cells #[.int .i64 lo, .int .i64 hi] 23))
  have K0 := Lib.hid (show Pair 23 _ w.heap.size lo hi from heap_alloc_new w (.cells #[.int .i64 lo, .int .i64 hi] 23))
  have HA := asin_r lo hi
  have HC := acos_r lo hi
  have HV := ahav_r lo hi
  have HRA := rasin_r lo hi
  have HRC := racos_r lo hi
  have HRV := rahav_r lo hi
  unfold arcV pairV at HA HC HV HRA HRC HRV
  generalize (asinR lo hi).1 = p1 at *
  generalize (asinR lo hi).2.1 = q1 at *
  generalize (asinR lo hi).2.2 = r1 at *
  generalize (acosR lo hi).1 = p2 at *
  generalize (acosR lo hi).2.1 = q2 at *
  generalize (acosR lo hi).2.2 = r2 at *
  generalize (ahavR lo hi).1 = p3 at *
  generalize (ahavR lo hi).2.1 = q3 at *
  generalize (ahavR lo hi).2.2 = r3 at *
  replace HA := Lib.hid HA
  replace HC := Lib.hid HC
  replace HV := Lib.hid HV
  replace HRA := Lib.hid HRA
  replace HRC := Lib.hid HRC
  replace HRV := Lib.hid HRV
  have Ep1 := eq25 p1 q1 p1 q1
  have Ep2 := eq25 p2 q2 p2 q2
  have Ep3 := eq25 p3 q3 p3 q3
  unfold pairV
  go_enter Try.func3, Try.ntmps3
  go_wp2_with fail
  refine (HW.out _).mono ?_
  rintro e w1 ⟨rfl, hb⟩
  have k0 := pair_below hb K0.out
  have HB := Lib.hid (HB.out.trans (hb.mono HB.out.size))
  have l0 := k0.lt
  obtain ⟨⟨a00, a01⟩, a02, a03⟩ := keep2 k0
  have K0 := Lib.hid k0
  clear hb k0
  go_wp2_with fail
  refine (HA.out _).mono ?_
  rintro e w2 ⟨rfl, hb⟩
  have k0 := (pair_below hb K0.out).alloc (.cells #[.int .i64 p1, .int .i64 q1] 25)
  have k1 : Pair 25 _ w2.heap.size p1 q1 := heap_alloc_new w2 (.cells #[.int .i64 p1, .int .i64 q1] 25)
  have l0 := k0.lt
  obtain ⟨⟨a00, a01⟩, a02, a03⟩ := keep2 k0
  have l1 := k1.lt
  obtain ⟨⟨a10, a11⟩, a12, a13⟩ := keep2 k1
  have HB := Lib.hid ((HB.out.trans (hb.mono HB.out.size)).alloc (by have := HB.out.size; have := hb.size; omega) (.cells #[.int .i64 p1, .int .i64 q1] 25))
  have K0 := Lib.hid k0
  have K1 := Lib.hid k1
  clear hb k0 k1
  go_wp2_with fail
  refine (HC.out _).mono ?_
  rintro e w3 ⟨rfl, hb⟩
  have k0 := (pair_below hb K0.out).alloc (.cells #[.int .i64 p2, .int .i64 q2] 25)
  have k1 := (pair_below hb K1.out).alloc (.cells #[.int .i64 p2, .int .i64 q2] 25)
  have k2 : Pair 25 _ w3.heap.size p2 q2 := heap_alloc_new w3 (.cells #[.int .i64 p2, .int .i64 q2] 25)
  have l0 := k0.lt
  obtain ⟨⟨a00, a01⟩, a02, a03⟩ := keep2 k0
  have l1 := k1.lt
  obtain ⟨⟨a10, a11⟩, a12, a13⟩ := keep2 k1
  have l2 := k2.lt
  obtain ⟨⟨a20, a21⟩, a22, a23⟩ := keep2 k2
  have HB := Lib.hid ((HB.out.trans (hb.mono HB.out.size)).alloc (by have := HB.out.size; have := hb.size; omega) (.cells #[.int .i64 p2, .int .i64 q2] 25))
  have K0 := Lib.hid k0
  have K1 := Lib.hid k1
  have K2 := Lib.hid k2
  clear hb k0 k1 k2
  go_wp2_with fail
  refine (HV.out _).mono ?_
  rintro e w4 ⟨rfl, hb⟩
  have k0 := (pair_below hb K0.out).alloc (.cells #[.int .i64 p3, .int .i64 q3] 25)
  have k1 := (pair_below hb K1.out).alloc (.cells #[.int .i64 p3, .int .i64 q3] 25)
  have k2 := (pair_below hb K2.out).alloc (.cells #[.int .i64 p3, .int .i64 q3] 25)
  have k3 : Pair 25 _ w4.heap.size p3 q3 := heap_alloc_new w4 (.cells #[.int .i64 p3, .int .i64 q3] 25)
  have l0 := k0.lt
  obtain ⟨⟨a00, a01⟩, a02, a03⟩ := keep2 k0
  have l1 := k1.lt
  obtain ⟨⟨a10, a11⟩, a12, a13⟩ := keep2 k1
  have l2 := k2.lt
  obtain ⟨⟨a20, a21⟩, a22, a23⟩ := keep2 k2
  have l3 := k3.lt
  obtain ⟨⟨a30, a31⟩, a32, a33⟩ := keep2 k3
  have HB := Lib.hid ((HB.out.trans (hb.mono HB.out.size)).alloc (by have := HB.out.size; have := hb.size; omega) (.cells #[.int .i64 p3, .int .i64 q3] 25))
  have K0 := Lib.hid k0
  have K1 := Lib.hid k1
  have K2 := Lib.hid k2
  have K3 := Lib.hid k3
  clear hb k0 k1 k2 k3
  go_wp2_with fail
  refine (HRA.out _).mono ?_
  rintro e w5 ⟨rfl, hb⟩
  have k0 := (pair_below hb K0.out).alloc (.cells #[.int .i64 p1, .int .i64 q1] 25)
  have k1 := (pair_below hb K1.out).alloc (.cells #[.int .i64 p1, .int .i64 q1] 25)
  have k2 := (pair_below hb K2.out).alloc (.cells #[.int .i64 p1, .int .i64 q1] 25)
  have k3 := (pair_below hb K3.out).alloc (.cells #[.int .i64 p1, .int .i64 q1] 25)
  have k4 : Pair 25 _ w5.heap.size p1 q1 := heap_alloc_new w5 (.cells #[.int .i64 p1, .int .i64 q1] 25)
  have l0 := k0.lt
  obtain ⟨⟨a00, a01⟩, a02, a03⟩ := keep2 k0
  have l1 := k1.lt
  obtain ⟨⟨a10, a11⟩, a12, a13⟩ := keep2 k1
  have l2 := k2.lt
  obtain ⟨⟨a20, a21⟩, a22, a23⟩ := keep2 k2
  have l3 := k3.lt
  obtain ⟨⟨a30, a31⟩, a32, a33⟩ := keep2 k3
  have l4 := k4.lt
  obtain ⟨⟨a40, a41⟩, a42, a43⟩ := keep2 k4
  have HB := Lib.hid ((HB.out.trans (hb.mono HB.out.size)).alloc (by have := HB.out.size; have := hb.size; omega) (.cells #[.int .i64 p1, .int .i64 q1] 25))
  have K0 := Lib.hid k0
  have K1 := Lib.hid k1
  have K2 := Lib.hid k2
  have K3 := Lib.hid k3
  have K4 := Lib.hid k4
  clear hb k0 k1 k2 k3 k4
  go_wp2_with fail
  refine (HRC.out _).mono ?_
  rintro e w6 ⟨rfl, hb⟩
  have k0 := (pair_below hb K0.out).alloc (.cells #[.int .i64 p2, .int .i64 q2] 25)
  have k1 := (pair_below hb K1.out).alloc (.cells #[.int .i64 p2, .int .i64 q2] 25)
  have k2 := (pair_below hb K2.out).alloc (.cells #[.int .i64 p2, .int .i64 q2] 25)
  have k3 := (pair_below hb K3.out).alloc (.cells #[.int .i64 p2, .int .i64 q2] 25)
  have k4 := (pair_below hb K4.out).alloc (.cells #[.int .i64 p2, .int .i64 q2] 25)
  have k5 : Pair 25 _ w6.heap.size p2 q2 := heap_alloc_new w6 (.cells #[.int .i64 p2, .int .i64 q2] 25)
  have l0 := k0.lt
  obtain ⟨⟨a00, a01⟩, a02, a03⟩ := keep2 k0
  have l1 := k1.lt
  obtain ⟨⟨a10, a11⟩, a12, a13⟩ := keep2 k1
  have l2 := k2.lt
  obtain ⟨⟨a20, a21⟩, a22, a23⟩ := keep2 k2
  have l3 := k3.lt
  obtain ⟨⟨a30, a31⟩, a32, a33⟩ := keep2 k3
  have l4 := k4.lt
  obtain ⟨⟨a40, a41⟩, a42, a43⟩ := keep2 k4
  have l5 := k5.lt
  obtain ⟨⟨a50, a51⟩, a52, a53⟩ := keep2 k5
  have HB := Lib.hid ((HB.out.trans (hb.mono HB.out.size)).alloc (by have := HB.out.size; have := hb.size; omega) (.cells #[.int .i64 p2, .int .i64 q2] 25))
  have K0 := Lib.hid k0
  have K1 := Lib.hid k1
  have K2 := Lib.hid k2
  have K3 := Lib.hid k3
  have K4 := Lib.hid k4
  have K5 := Lib.hid k5
  clear hb k0 k1 k2 k3 k4 k5
  go_wp2_with fail
  refine (HRV.out _).mono ?_
  rintro e w7 ⟨rfl, hb⟩
  have k0 := (pair_below hb K0.out).alloc (.cells #[.int .i64 p3, .int .i64 q3] 25)
  have k1 := (pair_below hb K1.out).alloc (.cells #[.int .i64 p3, .int .i64 q3] 25)
  have k2 := (pair_below hb K2.out).alloc (.cells #[.int .i64 p3, .int .i64 q3] 25)
  have k3 := (pair_below hb K3.out).alloc (.cells #[.int .i64 p3, .int .i64 q3] 25)
  have k4 := (pair_below hb K4.out).alloc (.cells #[.int .i64 p3, .int .i64 q3] 25)
  have k5 := (pair_below hb K5.out).alloc (.cells #[.int .i64 p3, .int .i64 q3] 25)
  have k6 : Pair 25 _ w7.heap.size p3 q3 := heap_alloc_new w7 (.cells #[.int .i64 p3, .int .i64 q3] 25)
  have l0 := k0.lt
  obtain ⟨⟨a00, a01⟩, a02, a03⟩ := keep2 k0
  have l1 := k1.lt
  obtain ⟨⟨a10, a11⟩, a12, a13⟩ := keep2 k1
  have l2 := k2.lt
  obtain ⟨⟨a20, a21⟩, a22, a23⟩ := keep2 k2
  have l3 := k3.lt
  obtain ⟨⟨a30, a31⟩, a32, a33⟩ := keep2 k3
  have l4 := k4.lt
  obtain ⟨⟨a40, a41⟩, a42, a43⟩ := keep2 k4
  have l5 := k5.lt
  obtain ⟨⟨a50, a51⟩, a52, a53⟩ := keep2 k5
  have l6 := k6.lt
  obtain ⟨⟨a60, a61⟩, a62, a63⟩ := keep2 k6
  have HB := Lib.hid ((HB.out.trans (hb.mono HB.out.size)).alloc (by have := HB.out.size; have := hb.size; omega) (.cells #[.int .i64 p3, .int .i64 q3] 25))
  have K0 := Lib.hid k0
  have K1 := Lib.hid k1
  have K2 := Lib.hid k2
  have K3 := Lib.hid k3
  have K4 := Lib.hid k4
  have K5 := Lib.hid k5
  have K6 := Lib.hid k6
  clear hb k0 k1 k2 k3 k4 k5 k6
  go_wp2
  go_ret
  exact ⟨rfl, HB.out⟩
end Go.Proofs.Ytmlmohcghoelkaa

import Derived.Test.YtmlmohcghoelkaaT36
namespace Go.Proofs.Ytmlmohcghoelkaa
open Go.RowKit
theorem bear_any (yl yh xl xh : Int) (w : World) : Calls Try.prog 18 #[pairV yl yh, pairV xl xh] w (GPost (arcV (bearR yl yh xl xh)) w) := by
  unfold bearR
  by_cases h : (validB xl xh && validB yl yh) = false
  · rw [if_pos h]; exact bear_bad yl yh xl xh h w
  · have h2 : validB xl xh = true ∧ validB yl yh = true := by
      cases hx : validB xl xh <;> cases hy : validB yl yh <;> simp [hx, hy] at h ⊢
    rw [if_neg h]
    by_cases ho : originB yl yh xl xh = true
    · rw [if_pos ho]; exact bear_origin yl yh xl xh h2.1 h2.2 ho w
    · rw [if_neg ho]; exact bear_main yl yh xl xh h2.1 h2.2 (by simpa using ho) w
theorem asn_half : asn 536870912 = 1800000 := asn_eq (by omega) ⟨by omega, by omega, by decide +kernel, .inr (by decide +kernel)⟩
theorem asn_nhalf : asn (-536870912) = -1800000 := asn_eq (by omega) ⟨by omega, by omega, by decide +kernel, .inr (by decide +kernel)⟩
theorem asin_half : asinR 536870912 536870912 = (1800000, 1800000, 0) := by
  unfold asinR
  rw [if_neg (by decide), if_pos (by decide)]
  rw [show max (536870912 : Int) (-1073741824) = 536870912 by decide, show - min (536870912 : Int) 1073741824 = -536870912 by decide, asn_half, asn_nhalf]
  rfl
theorem acos_half : acosR 536870912 536870912 = (3600000, 3600000, 0) := by
  unfold acosR
  rw [asin_half]
  rfl
theorem ahav_quarter : ahavR 268435456 268435456 = (3600000, 3600000, 0) := by
  unfold ahavR
  rw [if_neg (by decide), if_pos (by decide)]
  exact acos_half
theorem bear_ex1 : bearR 1073741824 1073741824 2147483648 2147483648 = (1593903, 1593904, 0) := by decide +kernel
theorem bear_ex2 : bearR (-1) 1 1073741824 1073741824 = (21599999, 21600001, 0) := by decide +kernel
set_option maxRecDepth 100000 in
set_option maxHeartbeats 2000000 in
theorem awake_any (w : World) : Calls Try.prog 11 #[] w (GPost (.bool true) w) := by
  have P1 := point_any 536870912
  have P2 := point_any 268435456
  have P3 := point_any 1073741824
  have P4 := point_any 2147483648
  have A1 := asin_r 536870912 536870912
  have A2 := ahav_r 268435456 268435456
  have A3 := bear_any 1073741824 1073741824 2147483648 2147483648
  have A4 := bear_any (-1) 1 1073741824 1073741824
  rw [asin_half] at A1
  rw [ahav_quarter] at A2
  rw [bear_ex1] at A3
  rw [bear_ex2] at A4
  unfold arcV pairV at A1 A2 A3 A4
  unfold pairV at P1 P2 P3 P4
  simp only at A1 A2 A3 A4
  replace P1 := Lib.hid P1
  replace P2 := Lib.hid P2
  replace P3 := Lib.hid P3
  replace P4 := Lib.hid P4
  replace A1 := Lib.hid A1
  replace A2 := Lib.hid A2
  replace A3 := Lib.hid A3
  replace A4 := Lib.hid A4
  have E1 := eq25 1800000 1800000 1800000 1800000
  have E2 := eq25 3600000 3600000 3600000 3600000
  have E3 := eq25 1593903 1593904 1593903 1593904
  have E4 := eq25 21599999 21600001 21599999 21600001
  have HB := Lib.hid (Below.refl w.heap.size w)
  go_enter Try.func11, Try.ntmps11
  go_wp2_with fail
  refine (P1.out _).mono ?_
  rintro e w1 ⟨rfl, hb⟩
  have HB := Lib.hid (HB.out.trans (hb.mono HB.out.size))
  clear hb
  go_wp2_with fail
  refine (A1.out _).mono ?_
  rintro e w2 ⟨rfl, hb⟩
  have HB := Lib.hid ((HB.out.trans (hb.mono HB.out.size)).alloc (by have := HB.out.size; have := hb.size; omega) (.cells #[.int .i64 1800000, .int .i64 1800000] 25))
  have K1 := Lib.hid (show Pair 25 _ w2.heap.size 1800000 1800000 from heap_alloc_new w2 (.cells #[.int .i64 1800000, .int .i64 1800000] 25))
  clear hb
  go_wp2_with fail
  refine (P2.out _).mono ?_
  rintro e w3 ⟨rfl, hb⟩
  have K1 := Lib.hid (pair_below hb K1.out)
  have HB := Lib.hid (HB.out.trans (hb.mono HB.out.size))
  clear hb
  go_wp2_with fail
  refine (A2.out _).mono ?_
  rintro e w4 ⟨rfl, hb⟩
  have K1 := Lib.hid ((pair_below hb K1.out).alloc (.cells #[.int .i64 3600000, .int .i64 3600000] 25))
  have K2 := Lib.hid (show Pair 25 _ w4.heap.size 3600000 3600000 from heap_alloc_new w4 (.cells #[.int .i64 3600000, .int .i64 3600000] 25))
  have HB := Lib.hid ((HB.out.trans (hb.mono HB.out.size)).alloc (by have := HB.out.size; have := hb.size; omega) (.cells #[.int .i64 3600000, .int .i64 3600000] 25))
  clear hb
  go_wp2_with fail
  refine (P3.out _).mono ?_
  rintro e w5 ⟨rfl, hb⟩
  have K1 := Lib.hid (pair_below hb K1.out)
  have K2 := Lib.hid (pair_below hb K2.out)
  have HB := Lib.hid (HB.out.trans (hb.mono HB.out.size))
  clear hb
  go_wp2_with fail
  refine (P4.out _).mono ?_
  rintro e w6 ⟨rfl, hb⟩
  have K1 := Lib.hid (pair_below hb K1.out)
  have K2 := Lib.hid (pair_below hb K2.out)
  have HB := Lib.hid (HB.out.trans (hb.mono HB.out.size))
  clear hb
  go_wp2_with fail
  refine (A3.out _).mono ?_
  rintro e w7 ⟨rfl, hb⟩
  have K1 := Lib.hid ((pair_below hb K1.out).alloc (.cells #[.int .i64 1593903, .int .i64 1593904] 25))
  have K2 := Lib.hid ((pair_below hb K2.out).alloc (.cells #[.int .i64 1593903, .int .i64 1593904] 25))
  have K3 := Lib.hid (show Pair 25 _ w7.heap.size 1593903 1593904 from heap_alloc_new w7 (.cells #[.int .i64 1593903, .int .i64 1593904] 25))
  have HB := Lib.hid ((HB.out.trans (hb.mono HB.out.size)).alloc (by have := HB.out.size; have := hb.size; omega) (.cells #[.int .i64 1593903, .int .i64 1593904] 25))
  clear hb
  go_wp2_with fail
  refine (P3.out _).mono ?_
  rintro e w8 ⟨rfl, hb⟩
  have K1 := Lib.hid (pair_below hb K1.out)
  have K2 := Lib.hid (pair_below hb K2.out)
  have K3 := Lib.hid (pair_below hb K3.out)
  have HB := Lib.hid (HB.out.trans (hb.mono HB.out.size))
  clear hb
  go_wp2_with fail
  refine (A4.out _).mono ?_
  rintro e w9 ⟨rfl, hb⟩
  have k1 := (pair_below hb K1.out).alloc (.cells #[.int .i64 21599999, .int .i64 21600001] 25)
  have k2 := (pair_below hb K2.out).alloc (.cells #[.int .i64 21599999, .int .i64 21600001] 25)
  have k3 := (pair_below hb K3.out).alloc (.cells #[.int .i64 21599999, .int .i64 21600001] 25)
  have k4 : Pair 25 _ w9.heap.size 21599999 21600001 := heap_alloc_new w9 (.cells #[.int .i64 21599999, .int .i64 21600001] 25)
  have HB := Lib.hid ((HB.out.trans (hb.mono HB.out.size)).alloc (by have := HB.out.size; have := hb.size; omega) (.cells #[.int .i64 21599999, .int .i64 21600001] 25))
  have l1 := k1.lt
  have l2 := k2.lt
  have l3 := k3.lt
  have l4 := k4.lt
  obtain ⟨⟨a0, a1⟩, a2, a3⟩ := keep2 k1
  obtain ⟨⟨b0, b1⟩, b2, b3⟩ := keep2 k2
  obtain ⟨⟨c0, c1⟩, c2, c3⟩ := keep2 k3
  obtain ⟨⟨d0, d1⟩, d2, d3⟩ := keep2 k4
  clear hb k1 k2 k3 k4 K1 K2 K3 P1 P2 P3 P4 A1 A2 A3 A4
  go_wp2
  go_ret
  exact ⟨rfl, HB.out⟩
end Go.Proofs.Ytmlmohcghoelkaa

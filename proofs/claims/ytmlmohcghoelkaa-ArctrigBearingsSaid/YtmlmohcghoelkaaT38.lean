import Derived.Test.YtmlmohcghoelkaaT37
namespace Go.Proofs.Ytmlmohcghoelkaa
open Go.RowKit
theorem asinR_in (lo hi : Int) (h1 : lo ≤ hi) (h2 : -1073741824 ≤ lo) (h3 : hi ≤ 1073741824) : asinR lo hi = (asn lo, - asn (-hi), 0) := by
  unfold asinR
  have e1 : max lo (-1073741824) = lo := by omega
  have e2 : min hi 1073741824 = hi := by omega
  rw [if_neg (by simp [validB]; omega), e1, e2, if_pos h1]
theorem acosR_in (lo hi : Int) (h1 : lo ≤ hi) (h2 : -1073741824 ≤ lo) (h3 : hi ≤ 1073741824) : acosR lo hi = (5400000 + asn (-hi), 5400000 - asn lo, 0) := by
  unfold acosR
  rw [asinR_in lo hi h1 h2 h3, if_pos rfl]
  show (5400000 - - asn (-hi), 5400000 - asn lo, (0 : Int)) = _
  rw [show 5400000 - - asn (-hi) = 5400000 + asn (-hi) by omega]
theorem ahavR_in (lo hi : Int) (h1 : lo ≤ hi) (h2 : 0 ≤ lo) (h3 : hi ≤ 1073741824) : ahavR lo hi = acosR (1073741824 - 2 * hi) (1073741824 - 2 * lo) := by
  unfold ahavR
  have e1 : max lo 0 = lo := by omega
  have e2 : min hi 1073741824 = hi := by omega
  rw [if_neg (by simp [validB]; omega), e1, e2, if_pos h1]
set_option maxRecDepth 100000 in
set_option maxHeartbeats 2000000 in
theorem opp_any (lo hi : Int) (w : World) : Calls Try.prog 6 #[pairV lo hi] w (GPost (.bool true) w) := by
  have HA := Lib.hid awake_any
  have HW := Lib.hid (within_any lo hi)
  have HB := Lib.hid ((Below.refl w.heap.size w).alloc (Nat.le_refl _) (.cells #[.int .i64 lo, .int .i64 hi] 23))
  have K1 := Lib.hid (show Pair 23 _ w.heap.size lo hi from heap_alloc_new w (.cells #[.int .i64 lo, .int .i64 hi] 23))
  by_cases hw : withinB lo hi = true
  · rw [hw] at HW
    simp only [withinB, decide_eq_true_eq] at hw
    obtain ⟨h1, h2, h3⟩ := hw
    have A1 := asin_r lo hi
    have A2 := asin_r (-hi) (-lo)
    have A3 := acos_r lo hi
    have b1 := asn_is lo h2
    have b2 := asn_is (-hi) (by omega)
    rw [asinR_in lo hi h1 h2 h3] at A1
    rw [asinR_in (-hi) (-lo) (by omega) (by omega) (by omega), Int.neg_neg] at A2
    rw [acosR_in lo hi h1 h2 h3] at A3
    unfold arcV at A1 A2 A3
    simp only at A1 A2 A3
    obtain ⟨g1, g2, _, _⟩ := b1
    obtain ⟨g3, g4, _, _⟩ := b2
    have hA4 : 0 ≤ lo → ∃ p q : Int, acosR (1073741824 - 2 * hi) (1073741824 - 2 * lo) = (p, q, 0) ∧ ahavR lo hi = (p, q, 0) := fun h0 => by
      rw [ahavR_in lo hi h1 h0 h3, acosR_in _ _ (by omega) (by omega) (by omega)]
      exact ⟨_, _, rfl, rfl⟩
    obtain ⟨q, hq⟩ : ∃ q, q = - asn (-hi) := ⟨_, rfl⟩
    have hq2 : asn (-hi) = -q := by omega
    rw [hq2, Int.neg_neg] at A1
    rw [hq2] at A2
    rw [hq2, show 5400000 + -q = 5400000 - q by omega] at A3
    rw [hq2] at g3 g4
    generalize asn lo = u at *
    clear hq hq2
    have hA4 := Lib.hid hA4
    have AV := Lib.hid (ahav_r lo hi)
    have AC := Lib.hid (acos_r (1073741824 - 2 * hi) (1073741824 - 2 * lo))
    unfold pairV at A1 A2 A3 HW ⊢
    replace A1 := Lib.hid A1
    replace A2 := Lib.hid A2
    replace A3 := Lib.hid A3
    go_enter Try.func6, Try.ntmps6
    go_wp2_with fail
    refine (HA.out _).mono ?_
    rintro e w1 ⟨rfl, hb⟩
    have k1 := pair_below hb K1.out
    have l1 := k1.lt
    obtain ⟨⟨a0, a1⟩, a2, a3⟩ := keep2 k1
    have HB := Lib.hid (HB.out.trans (hb.mono HB.out.size))
    have K1 := Lib.hid k1
    clear hb k1
    go_wp2_with fail
    refine (HW.out _).mono ?_
    rintro e w2 ⟨rfl, hb⟩
    have k1 := pair_below hb K1.out
    have l1 := k1.lt
    obtain ⟨⟨a0, a1⟩, a2, a3⟩ := keep2 k1
    have HB := Lib.hid (HB.out.trans (hb.mono HB.out.size))
    have K1 := Lib.hid k1
    clear hb k1
    go_wp2_with fail
    refine (A1.out _).mono ?_
    rintro e w3 ⟨rfl, hb⟩
    have k1 := (pair_below hb K1.out).alloc (.cells #[.int .i64 u, .int .i64 q] 25)
    have l1 := k1.lt
    obtain ⟨⟨a0, a1⟩, a2, a3⟩ := keep2 k1
    have HB := Lib.hid ((HB.out.trans (hb.mono HB.out.size)).alloc (by have := HB.out.size; have := hb.size; omega) (.cells #[.int .i64 u, .int .i64 q] 25))
    have K1 := Lib.hid k1
    have K3 := Lib.hid (show Pair 25 _ w3.heap.size u q from heap_alloc_new w3 (.cells #[.int .i64 u, .int .i64 q] 25))
    clear hb k1
    go_wp2_with fail
    refine (A2.out _).mono ?_
    rintro e w4 ⟨rfl, hb⟩
    have k1 := (pair_below hb K1.out).alloc (.cells #[.int .i64 (-q), .int .i64 (-u)] 25)
    have l1 := k1.lt
    obtain ⟨⟨a0, a1⟩, a2, a3⟩ := keep2 k1
    have HB := Lib.hid ((HB.out.trans (hb.mono HB.out.size)).alloc (by have := HB.out.size; have := hb.size; omega) (.cells #[.int .i64 (-q), .int .i64 (-u)] 25))
    have K1 := Lib.hid k1
    have K3 := Lib.hid ((pair_below hb K3.out).alloc (.cells #[.int .i64 (-q), .int .i64 (-u)] 25))
    have K5 := Lib.hid (show Pair 25 _ w4.heap.size (-q) (-u) from heap_alloc_new w4 (.cells #[.int .i64 (-q), .int .i64 (-u)] 25))
    clear hb k1
    go_wp2_with fail
    refine (A3.out _).mono ?_
    rintro e w5 ⟨rfl, hb⟩
    have k1 := (pair_below hb K1.out).alloc (.cells #[.int .i64 (5400000 - q), .int .i64 (5400000 - u)] 25)
    have k3 := (pair_below hb K3.out).alloc (.cells #[.int .i64 (5400000 - q), .int .i64 (5400000 - u)] 25)
    have k5 := (pair_below hb K5.out).alloc (.cells #[.int .i64 (5400000 - q), .int .i64 (5400000 - u)] 25)
    have k7 : Pair 25 _ w5.heap.size (5400000 - q) (5400000 - u) := heap_alloc_new w5 (.cells #[.int .i64 (5400000 - q), .int .i64 (5400000 - u)] 25)
    have l1 := k1.lt
    have l3 := k3.lt
    have l5 := k5.lt
    have l7 := k7.lt
    obtain ⟨⟨a0, a1⟩, a2, a3⟩ := keep2 k1
    obtain ⟨⟨b0, b1⟩, b2, b3⟩ := keep2 k3
    obtain ⟨⟨c0, c1⟩, c2, c3⟩ := keep2 k5
    obtain ⟨⟨d0, d1⟩, d2, d3⟩ := keep2 k7
    have HB := Lib.hid ((HB.out.trans (hb.mono HB.out.size)).alloc (by have := HB.out.size; have := hb.size; omega) (.cells #[.int .i64 (5400000 - q), .int .i64 (5400000 - u)] 25))
    have K1 := Lib.hid k1
    clear hb k1 k3 k5 k7 K3 K5
    by_cases h0 : lo < 0
    · go_wp2
      go_ret
      exact ⟨rfl, HB.out⟩
    · obtain ⟨p, r, e1, e2⟩ := hA4.out (by omega)
      rw [e1] at AC
      rw [e2] at AV
      unfold arcV pairV at AC AV
      simp only at AC AV
      have EE := eq25 p r p r
      clear e1 e2
      replace AC := Lib.hid AC.out
      replace AV := Lib.hid AV.out
      go_wp2_with fail
      refine (AV.out _).mono ?_
      rintro e w6 ⟨rfl, hb⟩
      have k1 := (pair_below hb K1.out).alloc (.cells #[.int .i64 p, .int .i64 r] 25)
      have l1 := k1.lt
      obtain ⟨⟨a0, a1⟩, a2, a3⟩ := keep2 k1
      have HB := Lib.hid ((HB.out.trans (hb.mono HB.out.size)).alloc (by have := HB.out.size; have := hb.size; omega) (.cells #[.int .i64 p, .int .i64 r] 25))
      have K9 := Lib.hid (show Pair 25 _ w6.heap.size p r from heap_alloc_new w6 (.cells #[.int .i64 p, .int .i64 r] 25))
      clear hb k1 b0 b1 b2 b3 c0 c1 c2 c3 d0 d1 d2 d3 l3 l5 l7
      go_wp2_with fail
      refine (AC.out _).mono ?_
      rintro e w7 ⟨rfl, hb⟩
      have k9 := (pair_below hb K9.out).alloc (.cells #[.int .i64 p, .int .i64 r] 25)
      have k11 : Pair 25 _ w7.heap.size p r := heap_alloc_new w7 (.cells #[.int .i64 p, .int .i64 r] 25)
      have l9 := k9.lt
      have l11 := k11.lt
      obtain ⟨⟨i0, i1⟩, i2, i3⟩ := keep2 k9
      obtain ⟨⟨j0, j1⟩, j2, j3⟩ := keep2 k11
      have HB := Lib.hid ((HB.out.trans (hb.mono HB.out.size)).alloc (by have := HB.out.size; have := hb.size; omega) (.cells #[.int .i64 p, .int .i64 r] 25))
      clear hb k9 k11
      go_wp2
      go_ret
      exact ⟨rfl, HB.out⟩
  · have hw' : withinB lo hi = false := by simpa using hw
    rw [hw'] at HW
    clear hw hw'
    unfold pairV at HW ⊢
    go_enter Try.func6, Try.ntmps6
    go_wp2_with fail
    refine (HA.out _).mono ?_
    rintro e w1 ⟨rfl, hb⟩
    have k1 := pair_below hb K1.out
    have l1 := k1.lt
    obtain ⟨⟨a0, a1⟩, a2, a3⟩ := keep2 k1
    have HB := Lib.hid (HB.out.trans (hb.mono HB.out.size))
    clear hb k1
    go_wp2_with fail
    refine (HW.out _).mono ?_
    rintro e w2 ⟨rfl, hb⟩
    have HB := Lib.hid (HB.out.trans (hb.mono HB.out.size))
    clear hb
    go_wp2
    go_ret
    exact ⟨rfl, HB.out⟩
end Go.Proofs.Ytmlmohcghoelkaa

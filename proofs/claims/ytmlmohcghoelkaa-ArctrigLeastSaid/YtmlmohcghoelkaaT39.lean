import Derived.Test.YtmlmohcghoelkaaT38
namespace Go.Proofs.Ytmlmohcghoelkaa
open Go.RowKit
/-- What the least enclosure's ends say of the comparisons. -/
theorem least_plain (lo hi : Int) (h1 : lo ≤ hi) (h2 : -1073741824 ≤ lo) (h3 : hi ≤ 1073741824) : asn lo ≤ - asn (-hi) ∧ cmp (asn lo) lo ≤ 0 ∧ 0 ≤ cmp (- asn (-hi)) hi ∧ (asn lo ≠ 5400000 → 0 < cmp (asn lo + 1) lo) ∧ (- asn (-hi) ≠ -5400000 → cmp (- asn (-hi) - 1) hi < 0) := by
  obtain ⟨a0, a1, a2, a3⟩ := asn_is lo h2
  obtain ⟨b0, b1, b2, b3⟩ := asn_is (-hi) (by omega)
  generalize asn lo = u at *
  generalize hq : asn (-hi) = r at *
  clear hq
  have o1 := lob_opp r b0 b1
  have hle : u ≤ -r := by
    rcases Int.lt_or_le (-r) u with h | h
    · have := strict (m := -r) (n := u) (by omega) h a1
      omega
    · exact h
  refine ⟨hle, (cmp_le u lo).2 a2, (cmp_ge (-r) hi).2 (by omega), fun hu => ?_, fun hr => ?_⟩
  · have := cmp_le (u + 1) lo
    omega
  · have o2 := lob_opp (r + 1) (by omega) (by omega)
    have e : -(r + 1) = -r - 1 := by omega
    rw [e] at o2
    have := cmp_ge (-r - 1) hi
    omega
set_option maxRecDepth 100000 in
set_option maxHeartbeats 2000000 in
theorem least_any (lo hi : Int) (w : World) : Calls Try.prog 5 #[pairV lo hi] w (GPost (.bool true) w) := by
  have HA := Lib.hid awake_any
  have HW := Lib.hid (within_any lo hi)
  have HB := Lib.hid ((Below.refl w.heap.size w).alloc (Nat.le_refl _) (.cells #[.int .i64 lo, .int .i64 hi] 23))
  have K1 := Lib.hid (show Pair 23 _ w.heap.size lo hi from heap_alloc_new w (.cells #[.int .i64 lo, .int .i64 hi] 23))
  by_cases hw : withinB lo hi = true
  · rw [hw] at HW
    simp only [withinB, decide_eq_true_eq] at hw
    obtain ⟨h1, h2, h3⟩ := hw
    have A1 := asin_r lo hi
    rw [asinR_in lo hi h1 h2 h3] at A1
    unfold arcV at A1
    simp only at A1
    obtain ⟨g1, g2, _, _⟩ := asn_is lo h2
    obtain ⟨g3, g4, _, _⟩ := asn_is (-hi) (by omega)
    obtain ⟨p1, p2, p3, p4, p5⟩ := least_plain lo hi h1 h2 h3
    have B1 := below_any (asn lo) lo
    have B2 := below_any (- asn (-hi)) hi
    have B3 := below_any (asn lo + 1) lo
    have B4 := below_any (- asn (-hi) - 1) hi
    obtain ⟨q, hq⟩ : ∃ q, q = - asn (-hi) := ⟨_, rfl⟩
    have g5 : -5400000 ≤ q ∧ q ≤ 5400000 := by omega
    rw [← hq] at A1 p1 p3 p5 B2 B4
    generalize asn lo = u at *
    clear hq g3 g4
    obtain ⟨g3, g4⟩ := g5
    generalize cmp u lo = c1 at *
    generalize cmp q hi = c2 at *
    generalize cmp (u + 1) lo = c3 at *
    generalize cmp (q - 1) hi = c4 at *
    unfold pairV at A1 HW ⊢
    replace A1 := Lib.hid A1
    replace B1 := Lib.hid B1
    replace B2 := Lib.hid B2
    replace B3 := Lib.hid B3
    replace B4 := Lib.hid B4
    replace p4 := Lib.hid p4
    replace p5 := Lib.hid p5
    go_enter Try.func5, Try.ntmps5
    go_wp2_with fail
    refine (HA.out _).mono ?_
    rintro e w1 ⟨rfl, hb⟩
    have k1 := pair_below hb K1.out
    have HB := Lib.hid (HB.out.trans (hb.mono HB.out.size))
    have l1 := k1.lt
    obtain ⟨⟨a0, a1⟩, a2, a3⟩ := keep2 k1
    have K1 := Lib.hid k1
    clear hb k1
    go_wp2_with fail
    refine (HW.out _).mono ?_
    rintro e w2 ⟨rfl, hb⟩
    have k1 := pair_below hb K1.out
    have HB := Lib.hid (HB.out.trans (hb.mono HB.out.size))
    have l1 := k1.lt
    obtain ⟨⟨a0, a1⟩, a2, a3⟩ := keep2 k1
    have K1 := Lib.hid k1
    clear hb k1
    go_wp2_with fail
    refine (A1.out _).mono ?_
    rintro e w3 ⟨rfl, hb⟩
    have k1 := (pair_below hb K1.out).alloc (.cells #[.int .i64 u, .int .i64 q] 25)
    have k3 : Pair 25 _ w3.heap.size u q := heap_alloc_new w3 (.cells #[.int .i64 u, .int .i64 q] 25)
    have HB := Lib.hid ((HB.out.trans (hb.mono HB.out.size)).alloc (by have := HB.out.size; have := hb.size; omega) (.cells #[.int .i64 u, .int .i64 q] 25))
    have l1 := k1.lt
    obtain ⟨⟨a0, a1⟩, a2, a3⟩ := keep2 k1
    have l3 := k3.lt
    obtain ⟨⟨b0, b1⟩, b2, b3⟩ := keep2 k3
    have K1 := Lib.hid k1
    have K3 := Lib.hid k3
    clear hb k1 k3
    go_wp2_with fail
    refine (B1.out _).mono ?_
    rintro e w4 ⟨rfl, hb⟩
    have k1 := pair_below hb K1.out
    have k3 := pair_below hb K3.out
    have HB := Lib.hid (HB.out.trans (hb.mono HB.out.size))
    have l1 := k1.lt
    obtain ⟨⟨a0, a1⟩, a2, a3⟩ := keep2 k1
    have l3 := k3.lt
    obtain ⟨⟨b0, b1⟩, b2, b3⟩ := keep2 k3
    have K1 := Lib.hid k1
    have K3 := Lib.hid k3
    clear hb k1 k3
    go_wp2_with fail
    refine (B2.out _).mono ?_
    rintro e w5 ⟨rfl, hb⟩
    have k1 := pair_below hb K1.out
    have k3 := pair_below hb K3.out
    have HB := Lib.hid (HB.out.trans (hb.mono HB.out.size))
    have l1 := k1.lt
    obtain ⟨⟨a0, a1⟩, a2, a3⟩ := keep2 k1
    have l3 := k3.lt
    obtain ⟨⟨b0, b1⟩, b2, b3⟩ := keep2 k3
    have K1 := Lib.hid k1
    have K3 := Lib.hid k3
    clear hb k1 k3
    by_cases z1 : u = 5400000
    · by_cases z2 : q = -5400000
      · exact absurd p1 (by omega)
      · have p5 := p5.out z2
        go_wp2_with fail
        refine (B4.out _).mono ?_
        rintro e w6 ⟨rfl, hb⟩
        have k1 := pair_below hb K1.out
        have k3 := pair_below hb K3.out
        have HB := Lib.hid (HB.out.trans (hb.mono HB.out.size))
        have l1 := k1.lt
        obtain ⟨⟨a0, a1⟩, a2, a3⟩ := keep2 k1
        have l3 := k3.lt
        obtain ⟨⟨b0, b1⟩, b2, b3⟩ := keep2 k3
        have K1 := Lib.hid k1
        have K3 := Lib.hid k3
        clear hb k1 k3
        go_wp2
        go_ret
        exact ⟨rfl, HB.out⟩
    · have p4 := p4.out z1
      by_cases z2 : q = -5400000
      · have hz : True := trivial
        go_wp2_with fail
        refine (B3.out _).mono ?_
        rintro e w6 ⟨rfl, hb⟩
        have k1 := pair_below hb K1.out
        have k3 := pair_below hb K3.out
        have HB := Lib.hid (HB.out.trans (hb.mono HB.out.size))
        have l1 := k1.lt
        obtain ⟨⟨a0, a1⟩, a2, a3⟩ := keep2 k1
        have l3 := k3.lt
        obtain ⟨⟨b0, b1⟩, b2, b3⟩ := keep2 k3
        have K1 := Lib.hid k1
        have K3 := Lib.hid k3
        clear hb k1 k3
        go_wp2
        go_ret
        exact ⟨rfl, HB.out⟩
      · have p5 := p5.out z2
        go_wp2_with fail
        refine (B3.out _).mono ?_
        rintro e w6 ⟨rfl, hb⟩
        have k1 := pair_below hb K1.out
        have k3 := pair_below hb K3.out
        have HB := Lib.hid (HB.out.trans (hb.mono HB.out.size))
        have l1 := k1.lt
        obtain ⟨⟨a0, a1⟩, a2, a3⟩ := keep2 k1
        have l3 := k3.lt
        obtain ⟨⟨b0, b1⟩, b2, b3⟩ := keep2 k3
        have K1 := Lib.hid k1
        have K3 := Lib.hid k3
        clear hb k1 k3
        go_wp2_with fail
        refine (B4.out _).mono ?_
        rintro e w7 ⟨rfl, hb⟩
        have k1 := pair_below hb K1.out
        have k3 := pair_below hb K3.out
        have HB := Lib.hid (HB.out.trans (hb.mono HB.out.size))
        have l1 := k1.lt
        obtain ⟨⟨a0, a1⟩, a2, a3⟩ := keep2 k1
        have l3 := k3.lt
        obtain ⟨⟨b0, b1⟩, b2, b3⟩ := keep2 k3
        have K1 := Lib.hid k1
        have K3 := Lib.hid k3
        clear hb k1 k3
        go_wp2
        go_ret
        exact ⟨rfl, HB.out⟩
  · have hw' : withinB lo hi = false := by simpa using hw
    rw [hw'] at HW
    clear hw hw'
    unfold pairV at HW ⊢
    go_enter Try.func5, Try.ntmps5
    go_wp2_with fail
    refine (HA.out _).mono ?_
    rintro e w1 ⟨rfl, hb⟩
    have k1 := pair_below hb K1.out
    have HB := Lib.hid (HB.out.trans (hb.mono HB.out.size))
    have l1 := k1.lt
    obtain ⟨⟨a0, a1⟩, a2, a3⟩ := keep2 k1
    have K1 := Lib.hid k1
    clear hb k1
    go_wp2_with fail
    refine (HW.out _).mono ?_
    rintro e w2 ⟨rfl, hb⟩
    have HB := Lib.hid (HB.out.trans (hb.mono HB.out.size))
    clear hb
    go_wp2
    go_ret
    exact ⟨rfl, HB.out⟩
end Go.Proofs.Ytmlmohcghoelkaa

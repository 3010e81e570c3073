import Derived.Test.YtmlmohcghoelkaaT52
namespace Go.Proofs.Ytmlmohcghoelkaa
open Go.RowKit SM
theorem further_any (lo hi : Int) (h0 : -2000000000000 ≤ lo) (h1 : lo ≤ 2000000000000) (h2 : -2000000000000 ≤ hi) (h3 : hi ≤ 2000000000000) (w : World) : Calls Try.prog 48 #[pairV lo hi] w (GPost (pairV (lo + 5400000) (hi + 5400000)) w) := by
  have b2 := blk2_second w (.cells #[.int .i64 lo, .int .i64 hi] 25) (.cells #[.int .i64 0, .int .i64 0] 25)
  have HB := Lib.hid (((Below.refl w.heap.size w).alloc (Nat.le_refl _) (.cells #[.int .i64 lo, .int .i64 hi] 25)).alloc (by simp) (.cells #[.int .i64 0, .int .i64 0] 25))
  have HB2 := Lib.hid (((Below.refl w.heap.size w).alloc (Nat.le_refl _) (.cells #[.int .i64 lo, .int .i64 hi] 25)).alloc (by simp) (.cells #[.int .i64 (lo + 5400000), .int .i64 (hi + 5400000)] 25))
  clear b2
  unfold pairV
  go_enter Try.func48, Try.ntmps48
  go_wp2
  refine bodyPost_ret (v := pairV (lo + 5400000) (hi + 5400000)) (by simp [results, Try.results48, go_sem, pairV]) rfl ⟨rfl, ?_⟩
  first
    | exact HB2.out
    | exact HB.out
theorem encl_bd (lo hi : Int) : -1073741824 ≤ encL lo hi ∧ encL lo hi ≤ 1073741824 ∧ -1073741824 ≤ encH lo hi ∧ encH lo hi ≤ 1073741824 := by
  obtain ⟨a1, a2, a3⟩ := lob_hib lo
  obtain ⟨b1, b2, b3⟩ := lob_hib hi
  unfold encL encH
  refine ⟨?_, ?_, ?_, ?_⟩ <;> split <;> omega
def sinR (lo hi : Int) : Int × Int × Int := if avalidB lo hi = false then (0, 0, 1) else (encL lo hi, encH lo hi, 0)
def cosR (lo hi : Int) : Int × Int × Int := if avalidB lo hi = false then (0, 0, 1) else (encL (lo + 5400000) (hi + 5400000), encH (lo + 5400000) (hi + 5400000), 0)
def havR (lo hi : Int) : Int × Int × Int := if avalidB lo hi = false then (0, 0, 1) else ((1073741824 - encH (lo + 5400000) (hi + 5400000)) / 2, (1073741824 - encL (lo + 5400000) (hi + 5400000) + 1) / 2, 0)
set_option maxRecDepth 100000 in
set_option maxHeartbeats 1000000 in
theorem sin_r (lo hi : Int) (w : World) : Calls Try.prog 28 #[pairV lo hi] w (GPost (arcV (sinR lo hi)) w) := by
  have HV := Lib.hid (avalid_any lo hi)
  obtain ⟨V, hV⟩ : ∃ V, V = arcV (sinR lo hi) := ⟨_, rfl⟩
  rw [← hV]
  unfold sinR at hV
  have K1 := Lib.hid (show Pair 25 _ w.heap.size lo hi from blk2_first w (.cells #[.int .i64 lo, .int .i64 hi] 25) (.cells #[.int .i64 0, .int .i64 0] 23))
  have K2 := Lib.hid (show Pair 23 _ (w.heap.size + 1) 0 0 from blk2_second w (.cells #[.int .i64 lo, .int .i64 hi] 25) (.cells #[.int .i64 0, .int .i64 0] 23))
  have HB := Lib.hid (((Below.refl w.heap.size w).alloc (Nat.le_refl _) (.cells #[.int .i64 lo, .int .i64 hi] 25)).alloc (by simp) (.cells #[.int .i64 0, .int .i64 0] 23))
  by_cases hv : avalidB lo hi = false
  · rw [if_pos hv] at hV
    rw [hv] at HV
    have hV := Lib.hid hV
    unfold pairV at HV ⊢
    clear hv
    go_enter Try.func28, Try.ntmps28
    go_wp2_with fail
    refine (HV.out _).mono ?_
    rintro e w1 ⟨rfl, hb⟩
    have n2 := pair_below hb K2.out
    have l2 := n2.lt
    obtain ⟨⟨b0, b1⟩, b2, b3⟩ := keep2 n2
    have HB := Lib.hid ((HB.out.trans (hb.mono HB.out.size)).setCell (p := ⟨w.heap.size + 1, 0, none⟩) (by simp) (.int .i64 0) |>.setCell (p := ⟨w.heap.size + 1, 1, none⟩) (by simp) (.int .i64 0))
    have n3 := n2.write 0 0
    obtain ⟨⟨r0, r1⟩, r2, r3⟩ := keep2 n3
    clear hb n2 n3
    go_wp2
    refine bodyPost_ret (v := V) (by rw [hV.out]; simp [results, Try.results28, go_sem, arcV, pairV, r0, r1]) rfl ⟨rfl, HB.out⟩
  · rw [if_neg hv] at hV
    have hv' : avalidB lo hi = true := by cases h : avalidB lo hi <;> simp_all
    rw [hv'] at HV
    have hm : -1099511627776 ≤ lo ∧ lo ≤ 1099511627776 ∧ -1099511627776 ≤ hi ∧ hi ≤ 1099511627776 := by simp [avalidB] at hv'; omega
    have HE := encl_any lo hi (by omega) (by omega) (by omega) (by omega)
    generalize encL lo hi = p at *
    generalize encH lo hi = q at *
    have hV := Lib.hid hV
    unfold pairV at HV HE ⊢
    replace HE := Lib.hid HE
    clear hv hv' hm
    go_enter Try.func28, Try.ntmps28
    go_wp2_with fail
    refine (HV.out _).mono ?_
    rintro e w1 ⟨rfl, hb⟩
    have n1 := pair_below hb K1.out
    have n2 := pair_below hb K2.out
    have l1 := n1.lt
    have l2 := n2.lt
    obtain ⟨⟨a0, a1⟩, a2, a3⟩ := keep2 n1
    obtain ⟨⟨b0, b1⟩, b2, b3⟩ := keep2 n2
    have K2 := Lib.hid n2
    have HB := Lib.hid (HB.out.trans (hb.mono HB.out.size))
    clear hb n1 n2
    go_wp2_with fail
    refine (HE.out _).mono ?_
    rintro e w2 ⟨rfl, hb⟩
    have n2 := pair_below hb K2.out
    have l2 := n2.lt
    obtain ⟨⟨b0, b1⟩, b2, b3⟩ := keep2 n2
    have HB := Lib.hid ((HB.out.trans (hb.mono HB.out.size)).setCell (p := ⟨w.heap.size + 1, 0, none⟩) (by simp) (.int .i64 p) |>.setCell (p := ⟨w.heap.size + 1, 1, none⟩) (by simp) (.int .i64 q))
    have n3 := n2.write p q
    obtain ⟨⟨r0, r1⟩, r2, r3⟩ := keep2 n3
    clear hb n2 n3
    go_wp2
    refine bodyPost_ret (v := V) (by rw [hV.out]; simp [results, Try.results28, go_sem, arcV, pairV, r0, r1]) rfl ⟨rfl, HB.out⟩
set_option maxRecDepth 100000 in
set_option maxHeartbeats 1000000 in
theorem cos_r (lo hi : Int) (w : World) : Calls Try.prog 29 #[pairV lo hi] w (GPost (arcV (cosR lo hi)) w) := by
  have HV := Lib.hid (avalid_any lo hi)
  obtain ⟨V, hV⟩ : ∃ V, V = arcV (cosR lo hi) := ⟨_, rfl⟩
  rw [← hV]
  unfold cosR at hV
  have K1 := Lib.hid (show Pair 25 _ w.heap.size lo hi from blk2_first w (.cells #[.int .i64 lo, .int .i64 hi] 25) (.cells #[.int .i64 0, .int .i64 0] 23))
  have K2 := Lib.hid (show Pair 23 _ (w.heap.size + 1) 0 0 from blk2_second w (.cells #[.int .i64 lo, .int .i64 hi] 25) (.cells #[.int .i64 0, .int .i64 0] 23))
  have HB := Lib.hid (((Below.refl w.heap.size w).alloc (Nat.le_refl _) (.cells #[.int .i64 lo, .int .i64 hi] 25)).alloc (by simp) (.cells #[.int .i64 0, .int .i64 0] 23))
  by_cases hv : avalidB lo hi = false
  · rw [if_pos hv] at hV
    rw [hv] at HV
    have hV := Lib.hid hV
    unfold pairV at HV ⊢
    clear hv
    go_enter Try.func29, Try.ntmps29
    go_wp2_with fail
    refine (HV.out _).mono ?_
    rintro e w1 ⟨rfl, hb⟩
    have n2 := pair_below hb K2.out
    have l2 := n2.lt
    obtain ⟨⟨b0, b1⟩, b2, b3⟩ := keep2 n2
    have HB := Lib.hid ((HB.out.trans (hb.mono HB.out.size)).setCell (p := ⟨w.heap.size + 1, 0, none⟩) (by simp) (.int .i64 0) |>.setCell (p := ⟨w.heap.size + 1, 1, none⟩) (by simp) (.int .i64 0))
    have n3 := n2.write 0 0
    obtain ⟨⟨r0, r1⟩, r2, r3⟩ := keep2 n3
    clear hb n2 n3
    go_wp2
    refine bodyPost_ret (v := V) (by rw [hV.out]; simp [results, Try.results29, go_sem, arcV, pairV, r0, r1]) rfl ⟨rfl, HB.out⟩
  · rw [if_neg hv] at hV
    have hv' : avalidB lo hi = true := by cases h : avalidB lo hi <;> simp_all
    rw [hv'] at HV
    have hm : -1099511627776 ≤ lo ∧ lo ≤ 1099511627776 ∧ -1099511627776 ≤ hi ∧ hi ≤ 1099511627776 := by simp [avalidB] at hv'; omega
    have HE := encl_any (lo + 5400000) (hi + 5400000) (by omega) (by omega) (by omega) (by omega)
    have HU := further_any lo hi (by omega) (by omega) (by omega) (by omega)
    generalize encL (lo + 5400000) (hi + 5400000) = p at *
    generalize encH (lo + 5400000) (hi + 5400000) = q at *
    have hV := Lib.hid hV
    unfold pairV at HV HE HU ⊢
    replace HE := Lib.hid HE
    replace HU := Lib.hid HU
    generalize lo + 5400000 = lo' at *
    generalize hi + 5400000 = hi' at *
    clear hv hv' hm
    go_enter Try.func29, Try.ntmps29
    go_wp2_with fail
    refine (HV.out _).mono ?_
    rintro e w1 ⟨rfl, hb⟩
    have n1 := pair_below hb K1.out
    have n2 := pair_below hb K2.out
    have l1 := n1.lt
    have l2 := n2.lt
    obtain ⟨⟨a0, a1⟩, a2, a3⟩ := keep2 n1
    obtain ⟨⟨b0, b1⟩, b2, b3⟩ := keep2 n2
    have K2 := Lib.hid n2
    have HB := Lib.hid (HB.out.trans (hb.mono HB.out.size))
    clear hb n1 n2
    go_wp2_with fail
    refine (HU.out _).mono ?_
    rintro e w3 ⟨rfl, hb⟩
    have n2 := pair_below hb K2.out
    have l2 := n2.lt
    obtain ⟨⟨b0, b1⟩, b2, b3⟩ := keep2 n2
    have K2 := Lib.hid n2
    have HB := Lib.hid (HB.out.trans (hb.mono HB.out.size))
    clear hb n2
    go_wp2_with fail
    refine (HE.out _).mono ?_
    rintro e w2 ⟨rfl, hb⟩
    have n2 := pair_below hb K2.out
    have l2 := n2.lt
    obtain ⟨⟨b0, b1⟩, b2, b3⟩ := keep2 n2
    have HB := Lib.hid ((HB.out.trans (hb.mono HB.out.size)).setCell (p := ⟨w.heap.size + 1, 0, none⟩) (by simp) (.int .i64 p) |>.setCell (p := ⟨w.heap.size + 1, 1, none⟩) (by simp) (.int .i64 q))
    have n3 := n2.write p q
    obtain ⟨⟨r0, r1⟩, r2, r3⟩ := keep2 n3
    clear hb n2 n3
    go_wp2
    refine bodyPost_ret (v := V) (by rw [hV.out]; simp [results, Try.results29, go_sem, arcV, pairV, r0, r1]) rfl ⟨rfl, HB.out⟩
set_option maxRecDepth 100000 in
set_option maxHeartbeats 1000000 in
theorem hav_r (lo hi : Int) (w : World) : Calls Try.prog 30 #[pairV lo hi] w (GPost (arcV (havR lo hi)) w) := by
  have HV := Lib.hid (avalid_any lo hi)
  obtain ⟨V, hV⟩ : ∃ V, V = arcV (havR lo hi) := ⟨_, rfl⟩
  rw [← hV]
  unfold havR at hV
  have K1 := Lib.hid (show Pair 25 _ w.heap.size lo hi from blk2_first w (.cells #[.int .i64 lo, .int .i64 hi] 25) (.cells #[.int .i64 0, .int .i64 0] 23))
  have K2 := Lib.hid (show Pair 23 _ (w.heap.size + 1) 0 0 from blk2_second w (.cells #[.int .i64 lo, .int .i64 hi] 25) (.cells #[.int .i64 0, .int .i64 0] 23))
  have HB := Lib.hid (((Below.refl w.heap.size w).alloc (Nat.le_refl _) (.cells #[.int .i64 lo, .int .i64 hi] 25)).alloc (by simp) (.cells #[.int .i64 0, .int .i64 0] 23))
  by_cases hv : avalidB lo hi = false
  · rw [if_pos hv] at hV
    rw [hv] at HV
    have hV := Lib.hid hV
    unfold pairV at HV ⊢
    clear hv
    go_enter Try.func30, Try.ntmps30
    go_wp2_with fail
    refine (HV.out _).mono ?_
    rintro e w1 ⟨rfl, hb⟩
    have n2 := pair_below hb K2.out
    have l2 := n2.lt
    obtain ⟨⟨b0, b1⟩, b2, b3⟩ := keep2 n2
    have HB := Lib.hid ((HB.out.trans (hb.mono HB.out.size)).setCell (p := ⟨w.heap.size + 1, 0, none⟩) (by simp) (.int .i64 0) |>.setCell (p := ⟨w.heap.size + 1, 1, none⟩) (by simp) (.int .i64 0))
    have n3 := n2.write 0 0
    obtain ⟨⟨r0, r1⟩, r2, r3⟩ := keep2 n3
    clear hb n2 n3
    go_wp2
    refine bodyPost_ret (v := V) (by rw [hV.out]; simp [results, Try.results30, go_sem, arcV, pairV, r0, r1]) rfl ⟨rfl, HB.out⟩
  · rw [if_neg hv] at hV
    have hv' : avalidB lo hi = true := by cases h : avalidB lo hi <;> simp_all
    rw [hv'] at HV
    have hm : -1099511627776 ≤ lo ∧ lo ≤ 1099511627776 ∧ -1099511627776 ≤ hi ∧ hi ≤ 1099511627776 := by simp [avalidB] at hv'; omega
    have HE := encl_any (lo + 5400000) (hi + 5400000) (by omega) (by omega) (by omega) (by omega)
    have HU := further_any lo hi (by omega) (by omega) (by omega) (by omega)
    obtain ⟨e1, e2, e3, e4⟩ := encl_bd (lo + 5400000) (hi + 5400000)
    generalize encL (lo + 5400000) (hi + 5400000) = p at *
    generalize encH (lo + 5400000) (hi + 5400000) = q at *
    have hV := Lib.hid hV
    unfold pairV at HV HE HU ⊢
    replace HE := Lib.hid HE
    replace HU := Lib.hid HU
    generalize lo + 5400000 = lo' at *
    generalize hi + 5400000 = hi' at *
    clear hv hv' hm
    go_enter Try.func30, Try.ntmps30
    go_wp2_with fail
    refine (HV.out _).mono ?_
    rintro e w1 ⟨rfl, hb⟩
    have n1 := pair_below hb K1.out
    have n2 := pair_below hb K2.out
    have l1 := n1.lt
    have l2 := n2.lt
    obtain ⟨⟨a0, a1⟩, a2, a3⟩ := keep2 n1
    obtain ⟨⟨b0, b1⟩, b2, b3⟩ := keep2 n2
    have K2 := Lib.hid n2
    have HB := Lib.hid (HB.out.trans (hb.mono HB.out.size))
    clear hb n1 n2
    go_wp2_with fail
    refine (HU.out _).mono ?_
    rintro e w3 ⟨rfl, hb⟩
    have n2 := pair_below hb K2.out
    have l2 := n2.lt
    obtain ⟨⟨b0, b1⟩, b2, b3⟩ := keep2 n2
    have K2 := Lib.hid n2
    have HB := Lib.hid (HB.out.trans (hb.mono HB.out.size))
    clear hb n2
    go_wp2_with fail
    refine (HE.out _).mono ?_
    rintro e w2 ⟨rfl, hb⟩
    have n2 := pair_below hb K2.out
    have l2 := n2.lt
    have hz : w.heap.size + 2 ≤ w2.heap.size := by have := l2; omega
    obtain ⟨⟨b0, b1⟩, b2, b3⟩ := keep2 n2
    have N3 := (n2.write ((1073741824 - q) / 2) ((1073741824 - p + 1) / 2)).alloc (.cells #[.int .i64 p, .int .i64 q] 23)
    obtain ⟨⟨r0, r1⟩, r2, r3⟩ := keep2 N3
    have HB := Lib.hid (((HB.out.trans (hb.mono HB.out.size)).setCell (p := ⟨w.heap.size + 1, 0, none⟩) (by simp) (.int .i64 ((1073741824 - q) / 2)) |>.setCell (p := ⟨w.heap.size + 1, 1, none⟩) (by simp) (.int .i64 ((1073741824 - p + 1) / 2))).alloc (by simp; omega) (.cells #[.int .i64 p, .int .i64 q] 23))
    clear hb n2 N3
    go_wp2
    refine bodyPost_ret (v := V) (by rw [hV.out]; simp [results, Try.results30, go_sem, arcV, pairV, r0, r1]) rfl ⟨rfl, HB.out⟩
end Go.Proofs.Ytmlmohcghoelkaa

import Derived.Test.YtioedljihlfcaaaW11

namespace Go.Proofs.Ytioedljihlfcaaa
open Go.RowKit

set_option maxHeartbeats 2000000 in
theorem open_3 (A : Option Addr) (n c : Nat) (l : List Int) (s a : Int) (w : World) (h : Bytes w A n c l) (hv : validB l s a = true) (ha : a ≠ 0) :
    Calls Try.prog 24 #[.agg #[.slice A n c, .int .i64 s, .int .i64 a]] w (DiskPost w (l.take (total (frames l))) (total (frames l) : Int) a 0) := by
  have hB := ((h.alloc (.cells #[.slice A n c, .int .i64 s, .int .i64 a] 24)).alloc (.cells #[.slice none 0 0, .int .i64 0, .int .i64 0] 24))
  have HV := Lib.hid (valid_any A n c l s a _ hB)
  have HB0 := Lib.hid hB
  have HBw := Lib.hid h
  have HLl := Lib.hid h.len
  have hle := h.le
  have hcap := h.cap
  rw [hv] at HV
  have hnl : n ≤ 1048576 := by have := h.len; simp [validB] at hv; omega
  have ha0 : (a == 0) = false := by simpa using ha
  have htl := total_le l.length l (Nat.le_refl _)
  have HLen : (l.take (total (frames l))).length = total (frames l) := by simp; omega
  have HLE := Lib.hid HLen
  have htn : total (frames l) ≤ n := by have := h.len; omega
  generalize hT : total (frames l) = T at *
  have HT := Lib.hid hT
  clear h hB hv ha hT htl HLen
  go_enter Try.func24, Try.ntmps24
  go_wp2_with fail
  refine HV.out.mono ?_
  rintro e w1 ⟨rfl, hb⟩
  obtain ⟨⟨⟨p0, p1, p2⟩, f0, f1, f2⟩, ⟨⟨q0, q1, q2⟩, g0, g1, g2⟩, hz, hbel⟩ := boxes hb
  have HB := Lib.hid hbel
  have HBb := Lib.hid hb
  have HB1 := Lib.hid (HB0.out.below hb (Nat.le_refl _))
  clear hb hbel
  have HWh := Lib.hid (whole_any A n c l s a w1 HB1.out (by omega))
  rw [WholePost_eq] at HWh
  rw [HT.out] at HWh
  go_wp2_with fail
  refine HWh.out.mono ?_
  rintro e w2 ⟨rfl, hb2⟩
  obtain ⟨⟨r0, r1, r2⟩, k0, k1, k2⟩ := boxk hb2 (b := w.heap.size + 1) (by omega) ⟨⟨q0, q1, q2⟩, g0, g1, g2⟩
  obtain ⟨⟨s0, s1, s2⟩, m0, m1, m2⟩ := boxk hb2 (b := w.heap.size) (by omega) ⟨⟨p0, p1, p2⟩, f0, f1, f2⟩
  have HB2 := Lib.hid (HB.out.trans (hb2.mono (by omega)))
  have hz2 := hb2.size
  have HB2l := Lib.hid ((HB1.out.below hb2 (Nat.le_refl _)).upto htn)
  have HC : ∀ W, W = w2.drew → Calls Try.prog 31 #[.slice A T c] W (ClonePost w2.drew T (l.take T)) := by
    rintro _ rfl
    exact clone_any A T c (l.take T) w2.drew (HB2l.out.below (Below.refl _ _).drew (Nat.le_refl _)) (by omega)
  have HCC := Lib.hid HC
  clear q0 q1 q2 g0 g1 g2 p0 p1 p2 f0 f1 f2 hb2 HC
  have hTc : (T : Int) ≤ (c : Int) := by omega
  go_wp2_with fail
  go_region_with (go_at_call 31; refine (HCC.out _ rfl).mono ?_; rintro e w3 ⟨A3, c3, rfl, hown, hb3⟩; obtain ⟨⟨q0, q1, q2⟩, g0, g1, g2⟩ := boxk hb3 (b := w.heap.size + 1) (by show _ < w2.heap.size; omega) ⟨⟨r0, r1, r2⟩, k0, k1, k2⟩; obtain ⟨⟨p0, p1, p2⟩, f0, f1, f2⟩ := boxk hb3 (b := w.heap.size) (by show _ < w2.heap.size; omega) ⟨⟨s0, s1, s2⟩, m0, m1, m2⟩; have HO := Lib.hid hown; have HB3 := Lib.hid (HB2.out.drew.trans (hb3.mono HB2.out.size)); clear hown hb3)
  all_goals
    have hz3 : w.heap.size + 1 < w3.heap.size := by have := HB3.out.size; have := HO.out.lt; have h3 := World.block_lt_of_cell? w3 _ q0; exact h3
    clear HCC
    go_wp2
    refine bodyPost_ret (v := .tuple #[.agg #[.slice A3 T c3, .int .i64 (T : Int), .int .i64 a], .int .i64 0]) (by simp [results, Try.results24, go_sem, q0, q1, q2]) rfl ⟨A3, c3, by rw [HLE.out], ?_, ?_⟩
    · rw [HLE.out]
      exact own_mono (ownsRow_setCell_below (ownsRow_setCell_below (ownsRow_setCell_below HO.out (a := ⟨w.heap.size + 1, 0, none⟩) (by show w.heap.size + 1 < w2.heap.size; omega) (.slice A3 T c3)) (a := ⟨w.heap.size + 1, 1, none⟩) (by show w.heap.size + 1 < w2.heap.size; omega) (.int .i64 (T : Int))) (a := ⟨w.heap.size + 1, 2, none⟩) (by show w.heap.size + 1 < w2.heap.size; omega) (.int .i64 a)) (by show w.heap.size ≤ w2.heap.size; omega)
    · exact (((HB3.out.setCell (by simp) _).setCell (by simp) _).setCell (by simp) _)

theorem mem_cum : ∀ (rs : List (List Int)) (a : Nat) (s : Int), s ∈ cum a rs → (a : Int) ≤ s ∧ s ≤ ((a + total rs : Nat) : Int) := by
  intro rs
  induction rs with
  | nil => intro a s h; simp [cum] at h; subst h; simp [total]
  | cons r rs ih =>
    intro a s h
    simp only [cum, List.mem_cons] at h
    rcases h with rfl | h
    · exact ⟨by omega, by omega⟩
    · have := ih _ _ h
      simp only [total, List.map_cons, List.sum_cons] at this ⊢
      omega
theorem valid_s {l : List Int} {s a : Int} (hv : validB l s a = true) : 0 ≤ s ∧ s ≤ l.length := by
  have h : s ∈ cum 0 (frames l) := by simp [validB] at hv; exact hv.2.2.2
  have h1 := mem_cum _ _ _ h
  have h2 := total_le l.length l (Nat.le_refl _)
  omega

set_option maxHeartbeats 2000000 in
theorem crash_1 (A : Option Addr) (n c : Nat) (l : List Int) (s a : Int) (k : Int) (w : World) (h : Bytes w A n c l) (hv : validB l s a = false) :
    Calls Try.prog 23 #[.agg #[.slice A n c, .int .i64 s, .int .i64 a], .int .i64 k] w (DiskPost w [] 0 0 1) := by
  have hB := ((h.alloc (.cells #[.slice A n c, .int .i64 s, .int .i64 a] 24)).alloc (.cells #[.slice none 0 0, .int .i64 0, .int .i64 0] 24))
  have HV := Lib.hid (valid_any A n c l s a _ hB)
  have HB0 := Lib.hid hB
  have HBw := Lib.hid h
  have HLl := Lib.hid h.len
  have hle := h.le
  have hcap := h.cap
  rw [hv] at HV
  clear h hB hv
  go_enter Try.func23, Try.ntmps23
  go_wp2_with fail
  refine HV.out.mono ?_
  rintro e w1 ⟨rfl, hb⟩
  obtain ⟨⟨⟨p0, p1, p2⟩, f0, f1, f2⟩, ⟨⟨q0, q1, q2⟩, g0, g1, g2⟩, hz, hbel⟩ := boxes hb
  have HB := Lib.hid hbel
  have HBb := Lib.hid hb
  have HB1 := Lib.hid (HB0.out.below hb (Nat.le_refl _))
  clear hb hbel
  go_wp2
  refine bodyPost_ret (v := .tuple #[.agg #[.slice none 0 0, .int .i64 0, .int .i64 0], .int .i64 1]) (by simp [results, Try.results23, go_sem, q0, q1, q2]) rfl (DiskPost.zero 1 ?_)
  exact (((HB.out.setCell (by simp) _).setCell (by simp) _).setCell (by simp) _)

set_option maxHeartbeats 2000000 in
theorem crash_2 (A : Option Addr) (n c : Nat) (l : List Int) (s a : Int) (k : Int) (w : World) (h : Bytes w A n c l) (hv : validB l s a = true) (hk : k < 0) :
    Calls Try.prog 23 #[.agg #[.slice A n c, .int .i64 s, .int .i64 a], .int .i64 k] w (DiskPost w [] 0 0 2) := by
  have hB := ((h.alloc (.cells #[.slice A n c, .int .i64 s, .int .i64 a] 24)).alloc (.cells #[.slice none 0 0, .int .i64 0, .int .i64 0] 24))
  have HV := Lib.hid (valid_any A n c l s a _ hB)
  have HB0 := Lib.hid hB
  have HBw := Lib.hid h
  have HLl := Lib.hid h.len
  have hle := h.le
  have hcap := h.cap
  rw [hv] at HV
  have hnl : n ≤ 1048576 := by have := h.len; simp [validB] at hv; omega
  clear h hB hv
  go_enter Try.func23, Try.ntmps23
  go_wp2_with fail
  refine HV.out.mono ?_
  rintro e w1 ⟨rfl, hb⟩
  obtain ⟨⟨⟨p0, p1, p2⟩, f0, f1, f2⟩, ⟨⟨q0, q1, q2⟩, g0, g1, g2⟩, hz, hbel⟩ := boxes hb
  have HB := Lib.hid hbel
  have HBb := Lib.hid hb
  have HB1 := Lib.hid (HB0.out.below hb (Nat.le_refl _))
  clear hb hbel
  go_wp2
  refine bodyPost_ret (v := .tuple #[.agg #[.slice none 0 0, .int .i64 0, .int .i64 0], .int .i64 2]) (by simp [results, Try.results23, go_sem, q0, q1, q2]) rfl (DiskPost.zero 2 ?_)
  exact (((HB.out.setCell (by simp) _).setCell (by simp) _).setCell (by simp) _)

set_option maxHeartbeats 2000000 in
theorem crash_3 (A : Option Addr) (n c : Nat) (l : List Int) (s a : Int) (k : Int) (w : World) (h : Bytes w A n c l) (hv : validB l s a = true) (hk0 : 0 ≤ k) (hk : (n : Int) - s < k) :
    Calls Try.prog 23 #[.agg #[.slice A n c, .int .i64 s, .int .i64 a], .int .i64 k] w (DiskPost w [] 0 0 2) := by
  have hB := ((h.alloc (.cells #[.slice A n c, .int .i64 s, .int .i64 a] 24)).alloc (.cells #[.slice none 0 0, .int .i64 0, .int .i64 0] 24))
  have HV := Lib.hid (valid_any A n c l s a _ hB)
  have HB0 := Lib.hid hB
  have HBw := Lib.hid h
  have HLl := Lib.hid h.len
  have hle := h.le
  have hcap := h.cap
  rw [hv] at HV
  have hnl : n ≤ 1048576 := by have := h.len; simp [validB] at hv; omega
  have hsb := valid_s hv
  rw [h.len] at hsb
  have hkn : ¬ k < 0 := by omega
  clear h hB hv
  go_enter Try.func23, Try.ntmps23
  go_wp2_with fail
  refine HV.out.mono ?_
  rintro e w1 ⟨rfl, hb⟩
  obtain ⟨⟨⟨p0, p1, p2⟩, f0, f1, f2⟩, ⟨⟨q0, q1, q2⟩, g0, g1, g2⟩, hz, hbel⟩ := boxes hb
  have HB := Lib.hid hbel
  have HBb := Lib.hid hb
  have HB1 := Lib.hid (HB0.out.below hb (Nat.le_refl _))
  clear hb hbel
  go_wp2
  refine bodyPost_ret (v := .tuple #[.agg #[.slice none 0 0, .int .i64 0, .int .i64 0], .int .i64 2]) (by simp [results, Try.results23, go_sem, q0, q1, q2]) rfl (DiskPost.zero 2 ?_)
  exact (((HB.out.setCell (by simp) _).setCell (by simp) _).setCell (by simp) _)

set_option maxHeartbeats 2000000 in
theorem crash_4 (A : Option Addr) (n c : Nat) (l : List Int) (s a : Int) (k : Int) (w : World) (h : Bytes w A n c l) (hv : validB l s a = true) (hk0 : 0 ≤ k) (hk : k ≤ (n : Int) - s) :
    Calls Try.prog 23 #[.agg #[.slice A n c, .int .i64 s, .int .i64 a], .int .i64 k] w (DiskPost w (l.take (s + k).toNat) s (-1) 0) := by
  have hB := ((h.alloc (.cells #[.slice A n c, .int .i64 s, .int .i64 a] 24)).alloc (.cells #[.slice none 0 0, .int .i64 0, .int .i64 0] 24))
  have HV := Lib.hid (valid_any A n c l s a _ hB)
  have HB0 := Lib.hid hB
  have HBw := Lib.hid h
  have HLl := Lib.hid h.len
  have hle := h.le
  have hcap := h.cap
  rw [hv] at HV
  have hnl : n ≤ 1048576 := by have := h.len; simp [validB] at hv; omega
  have hsb := valid_s hv
  rw [h.len] at hsb
  obtain ⟨S, rfl⟩ := Int.eq_ofNat_of_zero_le hsb.1
  obtain ⟨K, rfl⟩ := Int.eq_ofNat_of_zero_le hk0
  have hSK : S + K ≤ n := by omega
  have HLE := Lib.hid (show (l.take (S + K)).length = S + K by have := h.len; simp; omega)
  have eSK : ((S : Int) + (K : Int)).toNat = S + K := by omega
  rw [eSK]
  have hkn : ¬ (K : Int) < 0 := by omega
  clear h hB hv eSK
  go_enter Try.func23, Try.ntmps23
  go_wp2_with fail
  refine HV.out.mono ?_
  rintro e w1 ⟨rfl, hb⟩
  obtain ⟨⟨⟨p0, p1, p2⟩, f0, f1, f2⟩, ⟨⟨q0, q1, q2⟩, g0, g1, g2⟩, hz, hbel⟩ := boxes hb
  have HB := Lib.hid hbel
  have HBb := Lib.hid hb
  have HB1 := Lib.hid (HB0.out.below hb (Nat.le_refl _))
  clear hb hbel
  have HB1l := Lib.hid (HB1.out.upto hSK)
  have HC : ∀ W, W = w1.drew → Calls Try.prog 31 #[.slice A (S + K) c] W (ClonePost w1.drew (S + K) (l.take (S + K))) := by
    rintro _ rfl
    exact clone_any A (S + K) c (l.take (S + K)) w1.drew (HB1l.out.below (Below.refl _ _).drew (Nat.le_refl _)) (by omega)
  have HCC := Lib.hid HC
  clear HC
  have hTc : (S : Int) + (K : Int) ≤ (c : Int) := by omega
  have hTc0 : (0 : Int) ≤ (S : Int) + (K : Int) := by omega
  have eSK : ((S : Int) + (K : Int)).toNat = S + K := by omega
  have wSK : IntKind.i64.wrap ((S : Int) + (K : Int)) = (S : Int) + (K : Int) := IntWalk.i64_in _ (by omega)
  go_wp2_with fail
  go_region_with (go_at_call 31; refine (HCC.out _ rfl).mono ?_; rintro e w3 ⟨A3, c3, rfl, hown, hb3⟩; obtain ⟨⟨r0, r1, r2⟩, k0, k1, k2⟩ := boxk hb3 (b := w.heap.size + 1) (by show _ < w1.heap.size; omega) ⟨⟨q0, q1, q2⟩, g0, g1, g2⟩; obtain ⟨⟨s0, s1, s2⟩, m0, m1, m2⟩ := boxk hb3 (b := w.heap.size) (by show _ < w1.heap.size; omega) ⟨⟨p0, p1, p2⟩, f0, f1, f2⟩; have HO := Lib.hid hown; have HB3 := Lib.hid (HB.out.drew.trans (hb3.mono HB.out.size)); clear hown hb3)
  all_goals
    clear HCC
    go_wp2
    refine bodyPost_ret (v := .tuple #[.agg #[.slice A3 (S + K) c3, .int .i64 (S : Int), .int .i64 (-1)], .int .i64 0]) (by simp [results, Try.results23, go_sem, r0, r1, r2]) rfl ⟨A3, c3, by rw [HLE.out], ?_, ?_⟩
    · rw [HLE.out]
      exact own_mono (ownsRow_setCell_below (ownsRow_setCell_below (ownsRow_setCell_below HO.out (a := ⟨w.heap.size + 1, 0, none⟩) (by show w.heap.size + 1 < w1.heap.size; omega) (.slice A3 (S + K) c3)) (a := ⟨w.heap.size + 1, 1, none⟩) (by show w.heap.size + 1 < w1.heap.size; omega) (.int .i64 (S : Int))) (a := ⟨w.heap.size + 1, 2, none⟩) (by show w.heap.size + 1 < w1.heap.size; omega) (.int .i64 (-1))) (by show w.heap.size ≤ w1.heap.size; omega)
    · exact (((HB3.out.setCell (by simp) _).setCell (by simp) _).setCell (by simp) _)
end Go.Proofs.Ytioedljihlfcaaa

/-
  Journal seat: Append's longer branches (printed by gen9.py, then mended by hand), and Append whole.
-/
import Derived.Test.YtioedljihlfcaaaW9
namespace Go.Proofs.Ytioedljihlfcaaa
open Go.RowKit

set_option maxHeartbeats 2000000 in
theorem append_5 (A : Option Addr) (n c : Nat) (l : List Int) (s a : Int) (A' : Option Addr) (n' c' : Nat) (b : List Int) (w : World) (h : Bytes w A n c l) (h' : Bytes w A' n' c' b) (hv : validB l s a = true) (hn : n' ≤ 65535) (ha : a ≠ 0) (ht : total (frames l) = l.length) (hbig : 1048576 < n + (8 + n')) :
    Calls Try.prog 19 #[.agg #[.slice A n c, .int .i64 s, .int .i64 a], .slice A' n' c'] w (DiskPost w [] 0 0 4) := by
  have hB := ((h.alloc (.cells #[.slice A n c, .int .i64 s, .int .i64 a] 24)).alloc (.cells #[.slice none 0 0, .int .i64 0, .int .i64 0] 24))
  have hB' := ((h'.alloc (.cells #[.slice A n c, .int .i64 s, .int .i64 a] 24)).alloc (.cells #[.slice none 0 0, .int .i64 0, .int .i64 0] 24))
  have HV := Lib.hid (valid_any A n c l s a _ hB)
  have hnl : n ≤ 1048576 := by have := h.len; simp [validB] at hv; omega
  have ham : -1 ≤ a ∧ a ≤ 1048576 := by simp [validB] at hv; omega
  have HB0 := Lib.hid hB
  have HB0' := Lib.hid hB'
  have HLl := Lib.hid h.len
  have HBw := Lib.hid h
  have HLb := Lib.hid h'.len
  rw [hv] at HV
  have hle' := h'.le
  have hcap' := h'.cap
  have hle := h.le
  have hcap := h.cap
  have ha0 : (a == 0) = false := by simpa using ha
  have HT := Lib.hid (show ((total (frames l) : Nat) : Int) = (n : Int) by have := h.len; omega)
  have hF := Lib.hid (frameL_length b)
  have hnb : ((n : Int) != (n : Int)) = false := by simp
  have HFB := Lib.hid (show AllBytes (frameL b) from ((num4_bytes _ (by have := h'.len; omega) (by have := h'.len; omega)).append h'.bytes).append (num4_bytes _ (sumL_bd _).1 (sumL_bd _).2))
  clear h h' hv hB hB' ha ht
  go_enter Try.func19, Try.ntmps19
  go_wp2_with fail
  refine HV.out.mono ?_
  rintro e w1 ⟨rfl, hb⟩
  obtain ⟨⟨⟨p0, p1, p2⟩, f0, f1, f2⟩, ⟨⟨q0, q1, q2⟩, g0, g1, g2⟩, hz, hbel⟩ := boxes hb
  have HB := Lib.hid hbel
  have HBb := Lib.hid hb
  have HB1 := Lib.hid (HB0.out.below hb (Nat.le_refl _))
  have HB1' := Lib.hid (HB0'.out.below hb (Nat.le_refl _))
  clear hb hbel
  go_wp2_with fail
  go_region_held3 (fun w' => (w'.cell? ⟨w.heap.size, 0, none⟩ = some (.slice A n c) ∧ w'.cell? ⟨w.heap.size, 1, none⟩ = some (.int .i64 s) ∧ w'.cell? ⟨w.heap.size, 2, none⟩ = some (.int .i64 a)) ∧ Below w1.heap.size w1 w')
    (first | exact ⟨⟨p0, p1, p2⟩, (Below.refl _ _).drew⟩ | exact keep3 (by assumption) (by assumption))
    (first
      | (go_at_call 42; refine (whole_any _ _ _ _ _ _ _ (HB1.out.below (And.right (by assumption)) (Nat.le_refl _)) (by omega)).mono ?_; rintro e w2 ⟨rfl, hb⟩; rw [HT.out]))
  have hh : Below w1.heap.size w1 w2 := And.right (by assumption)
  have HH := Lib.hid hh
  have HB2 := Lib.hid (HB.out.trans (hh.mono (by omega)))
  have hz2 := hh.size
  obtain ⟨⟨r0, r1, r2⟩, k0, k1, k2⟩ := boxk hh (b := w.heap.size + 1) (by omega) ⟨⟨q0, q1, q2⟩, g0, g1, g2⟩
  obtain ⟨⟨s0, s1, s2⟩, m0, m1, m2⟩ := boxk hh (b := w.heap.size) (by omega) ⟨⟨p0, p1, p2⟩, f0, f1, f2⟩
  have HB2l := Lib.hid (HB1.out.below hh (Nat.le_refl _))
  have HFr := Lib.hid (frame_any _ _ _ _ _ (HB1'.out.below hh (Nat.le_refl _)) hn)
  clear q0 q1 q2 g0 g1 g2 p0 p1 p2 f0 f1 f2 hh
  have hdrop : True := trivial
  go_wp2_with fail
  refine HFr.out.mono ?_
  rintro e w3 ⟨A3, c3, rfl, hown3, hb3⟩
  obtain ⟨⟨q0, q1, q2⟩, g0, g1, g2⟩ := boxk hb3 (b := w.heap.size + 1) (by omega) ⟨⟨r0, r1, r2⟩, k0, k1, k2⟩
  obtain ⟨⟨p0, p1, p2⟩, f0, f1, f2⟩ := boxk hb3 (b := w.heap.size) (by omega) ⟨⟨s0, s1, s2⟩, m0, m1, m2⟩
  have HB3 := Lib.hid (HB2.out.trans (hb3.mono HB2.out.size))
  have hz3 := hb3.size
  have HB3l := Lib.hid (HB2l.out.below hb3 (Nat.le_refl _))
  have HO3 := Lib.hid (own_mono (base' := w.heap.size) hown3 (by omega))
  have HB3f := Lib.hid (bytes_of_own hown3 HFB.out)
  have HO3b := Lib.hid hown3
  have hle3 := HB3f.out.le
  have hcap3 := HB3f.out.cap
  clear r0 r1 r2 k0 k1 k2 s0 s1 s2 m0 m1 m2 hown3 hb3
  go_wp2
  refine bodyPost_ret (v := .tuple #[.agg #[.slice none 0 0, .int .i64 0, .int .i64 0], .int .i64 4]) (by simp [results, Try.results19, go_sem, q0, q1, q2]) rfl (DiskPost.zero 4 ?_)
  exact (((HB3.out.setCell (by simp) _).setCell (by simp) _).setCell (by simp) _)

set_option maxHeartbeats 2000000 in
theorem append_6 (A : Option Addr) (n c : Nat) (l : List Int) (s a : Int) (A' : Option Addr) (n' c' : Nat) (b : List Int) (w : World) (h : Bytes w A n c l) (h' : Bytes w A' n' c' b) (hv : validB l s a = true) (hn : n' ≤ 65535) (ha : a ≠ 0) (ht : total (frames l) = l.length) (hbig : n + (8 + n') ≤ 1048576) (hneg : a < 0) :
    Calls Try.prog 19 #[.agg #[.slice A n c, .int .i64 s, .int .i64 a], .slice A' n' c'] w (DiskPost w (l ++ frameL b) s a 0) := by
  have hB := ((h.alloc (.cells #[.slice A n c, .int .i64 s, .int .i64 a] 24)).alloc (.cells #[.slice none 0 0, .int .i64 0, .int .i64 0] 24))
  have hB' := ((h'.alloc (.cells #[.slice A n c, .int .i64 s, .int .i64 a] 24)).alloc (.cells #[.slice none 0 0, .int .i64 0, .int .i64 0] 24))
  have HV := Lib.hid (valid_any A n c l s a _ hB)
  have hnl : n ≤ 1048576 := by have := h.len; simp [validB] at hv; omega
  have ham : -1 ≤ a ∧ a ≤ 1048576 := by simp [validB] at hv; omega
  have HB0 := Lib.hid hB
  have HB0' := Lib.hid hB'
  have HLl := Lib.hid h.len
  have HBw := Lib.hid h
  have HLb := Lib.hid h'.len
  rw [hv] at HV
  have hle' := h'.le
  have hcap' := h'.cap
  have hle := h.le
  have hcap := h.cap
  have ha0 : (a == 0) = false := by simpa using ha
  have HT := Lib.hid (show ((total (frames l) : Nat) : Int) = (n : Int) by have := h.len; omega)
  have hF := Lib.hid (frameL_length b)
  have hnb : ((n : Int) != (n : Int)) = false := by simp
  have HFB := Lib.hid (show AllBytes (frameL b) from ((num4_bytes _ (by have := h'.len; omega) (by have := h'.len; omega)).append h'.bytes).append (num4_bytes _ (sumL_bd _).1 (sumL_bd _).2))
  clear h h' hv hB hB' ha ht
  go_enter Try.func19, Try.ntmps19
  go_wp2_with fail
  refine HV.out.mono ?_
  rintro e w1 ⟨rfl, hb⟩
  obtain ⟨⟨⟨p0, p1, p2⟩, f0, f1, f2⟩, ⟨⟨q0, q1, q2⟩, g0, g1, g2⟩, hz, hbel⟩ := boxes hb
  have HB := Lib.hid hbel
  have HBb := Lib.hid hb
  have HB1 := Lib.hid (HB0.out.below hb (Nat.le_refl _))
  have HB1' := Lib.hid (HB0'.out.below hb (Nat.le_refl _))
  clear hb hbel
  go_wp2_with fail
  go_region_held3 (fun w' => (w'.cell? ⟨w.heap.size, 0, none⟩ = some (.slice A n c) ∧ w'.cell? ⟨w.heap.size, 1, none⟩ = some (.int .i64 s) ∧ w'.cell? ⟨w.heap.size, 2, none⟩ = some (.int .i64 a)) ∧ Below w1.heap.size w1 w')
    (first | exact ⟨⟨p0, p1, p2⟩, (Below.refl _ _).drew⟩ | exact keep3 (by assumption) (by assumption))
    (first
      | (go_at_call 42; refine (whole_any _ _ _ _ _ _ _ (HB1.out.below (And.right (by assumption)) (Nat.le_refl _)) (by omega)).mono ?_; rintro e w2 ⟨rfl, hb⟩; rw [HT.out]))
  have hh : Below w1.heap.size w1 w2 := And.right (by assumption)
  have HH := Lib.hid hh
  have HB2 := Lib.hid (HB.out.trans (hh.mono (by omega)))
  have hz2 := hh.size
  obtain ⟨⟨r0, r1, r2⟩, k0, k1, k2⟩ := boxk hh (b := w.heap.size + 1) (by omega) ⟨⟨q0, q1, q2⟩, g0, g1, g2⟩
  obtain ⟨⟨s0, s1, s2⟩, m0, m1, m2⟩ := boxk hh (b := w.heap.size) (by omega) ⟨⟨p0, p1, p2⟩, f0, f1, f2⟩
  have HB2l := Lib.hid (HB1.out.below hh (Nat.le_refl _))
  have HFr := Lib.hid (frame_any _ _ _ _ _ (HB1'.out.below hh (Nat.le_refl _)) hn)
  clear q0 q1 q2 g0 g1 g2 p0 p1 p2 f0 f1 f2 hh
  have hdrop : True := trivial
  go_wp2_with fail
  refine HFr.out.mono ?_
  rintro e w3 ⟨A3, c3, rfl, hown3, hb3⟩
  obtain ⟨⟨q0, q1, q2⟩, g0, g1, g2⟩ := boxk hb3 (b := w.heap.size + 1) (by omega) ⟨⟨r0, r1, r2⟩, k0, k1, k2⟩
  obtain ⟨⟨p0, p1, p2⟩, f0, f1, f2⟩ := boxk hb3 (b := w.heap.size) (by omega) ⟨⟨s0, s1, s2⟩, m0, m1, m2⟩
  have HB3 := Lib.hid (HB2.out.trans (hb3.mono HB2.out.size))
  have hz3 := hb3.size
  have HB3l := Lib.hid (HB2l.out.below hb3 (Nat.le_refl _))
  have HO3 := Lib.hid (own_mono (base' := w.heap.size) hown3 (by omega))
  have HB3f := Lib.hid (bytes_of_own hown3 HFB.out)
  have HO3b := Lib.hid hown3
  have hle3 := HB3f.out.le
  have hcap3 := HB3f.out.cap
  clear r0 r1 r2 k0 k1 k2 s0 s1 s2 m0 m1 m2 hown3 hb3
  have hbW : Below w.heap.size w (w3) := HB3.out
  have hf3 : Bytes (w3) A3 (8 + n') c3 (frameL b) := HB3f.out
  have hT3 : Two ((w3).alloc (.cells #[.slice A n c, .slice A3 (8 + n') c3] 22)) (w3).heap.size A n c l A3 (8 + n') c3 (frameL b) :=
    ⟨by rw [World.cell?_alloc_at _ _ _ _ rfl]; rfl, by rw [World.cell?_alloc_at _ _ _ _ rfl]; rfl, (HBw.out.below hbW (Nat.le_refl _)).alloc _, hf3.alloc _⟩
  have HT3 := Lib.hid hT3
  have HBW := Lib.hid hbW
  clear hT3 hf3 hbW
  go_wp2_with fail
  refine (concat_any _ _ _ _ _ _ _ _ _ _ _ HT3.out (by omega) (by omega) (by omega)).mono ?_
  rintro e w4 ⟨A4, c4, rfl, hown4, hb4⟩
  have hb34 : Below w3.heap.size (w3) w4 := ((Below.refl _ _).alloc (by simp) _).trans (hb4.mono (by simp))
  obtain ⟨⟨r0, r1, r2⟩, k0, k1, k2⟩ := boxk (x := .slice none 0 0) (y := .int .i64 0) (z := .int .i64 0) hb34 (b := w.heap.size + 1) (by omega) (by exact ⟨⟨q0, q1, q2⟩, g0, g1, g2⟩)
  obtain ⟨⟨s0, s1, s2⟩, m0, m1, m2⟩ := boxk (x := .slice A n c) (y := .int .i64 s) (z := .int .i64 (a)) hb34 (b := w.heap.size) (by omega) (by exact ⟨⟨p0, p1, p2⟩, f0, f1, f2⟩)
  have HB4 := Lib.hid (HBW.out.trans (hb34.mono (by omega)))
  have hz4 := hb34.size
  have HO4 := Lib.hid (own_mono (base' := w.heap.size + 2) hown4 (by simp <;> omega))
  clear hown4 hb4 hb34 q0 q1 q2 g0 g1 g2 p0 p1 p2 f0 f1 f2
  generalize hN : (l ++ frameL b).length = N at *
  have HN := Lib.hid hN
  clear hN
  go_wp2
  refine bodyPost_ret (v := .tuple #[.agg #[.slice A4 N c4, .int .i64 s, .int .i64 (a)], .int .i64 0]) (by simp [results, Try.results19, go_sem, r0, r1, r2]) rfl ⟨A4, c4, by rw [HN.out], ?_, ?_⟩
  · rw [HN.out]
    exact own_mono (ownsRow_setCell_below (ownsRow_setCell_below (ownsRow_setCell_below (ownsRow_setCell_below HO4.out (a := ⟨w.heap.size, 0, none⟩) (by simp) (.slice A4 N c4)) (a := ⟨w.heap.size + 1, 0, none⟩) (by simp) (.slice A4 N c4)) (a := ⟨w.heap.size + 1, 1, none⟩) (by simp) (.int .i64 s)) (a := ⟨w.heap.size + 1, 2, none⟩) (by simp) (.int .i64 (a))) (by omega)
  · exact ((((HB4.out.setCell (by simp) _).setCell (by simp) _).setCell (by simp) _).setCell (by simp) _)

set_option maxHeartbeats 2000000 in
theorem append_7 (A : Option Addr) (n c : Nat) (l : List Int) (s a : Int) (A' : Option Addr) (n' c' : Nat) (b : List Int) (w : World) (h : Bytes w A n c l) (h' : Bytes w A' n' c' b) (hv : validB l s a = true) (hn : n' ≤ 65535) (ha : a ≠ 0) (ht : total (frames l) = l.length) (hbig : n + (8 + n') ≤ 1048576) (hpos : 0 ≤ a) (hlt : a < 8 + (n' : Int)) :
    Calls Try.prog 19 #[.agg #[.slice A n c, .int .i64 s, .int .i64 a], .slice A' n' c'] w (DiskPost w (l ++ (frameL b).take a.toNat) s 0 19) := by
  have hB := ((h.alloc (.cells #[.slice A n c, .int .i64 s, .int .i64 a] 24)).alloc (.cells #[.slice none 0 0, .int .i64 0, .int .i64 0] 24))
  have hB' := ((h'.alloc (.cells #[.slice A n c, .int .i64 s, .int .i64 a] 24)).alloc (.cells #[.slice none 0 0, .int .i64 0, .int .i64 0] 24))
  have HV := Lib.hid (valid_any A n c l s a _ hB)
  have hnl : n ≤ 1048576 := by have := h.len; simp [validB] at hv; omega
  have ham : -1 ≤ a ∧ a ≤ 1048576 := by simp [validB] at hv; omega
  have HB0 := Lib.hid hB
  have HB0' := Lib.hid hB'
  have HLl := Lib.hid h.len
  have HBw := Lib.hid h
  have HLb := Lib.hid h'.len
  rw [hv] at HV
  have hle' := h'.le
  have hcap' := h'.cap
  have hle := h.le
  have hcap := h.cap
  have ha0 : (a == 0) = false := by simpa using ha
  have HT := Lib.hid (show ((total (frames l) : Nat) : Int) = (n : Int) by have := h.len; omega)
  have hF := Lib.hid (frameL_length b)
  have hnb : ((n : Int) != (n : Int)) = false := by simp
  have HFB := Lib.hid (show AllBytes (frameL b) from ((num4_bytes _ (by have := h'.len; omega) (by have := h'.len; omega)).append h'.bytes).append (num4_bytes _ (sumL_bd _).1 (sumL_bd _).2))
  obtain ⟨m, rfl⟩ := Int.eq_ofNat_of_zero_le hpos
  simp only [Int.toNat_natCast]
  have hneg : ¬ (m : Int) < 0 := by omega
  have hml : m < 8 + n' := by omega
  have hm0 : 0 < m := by omega
  clear h h' hv hB hB' ha ht
  go_enter Try.func19, Try.ntmps19
  go_wp2_with fail
  refine HV.out.mono ?_
  rintro e w1 ⟨rfl, hb⟩
  obtain ⟨⟨⟨p0, p1, p2⟩, f0, f1, f2⟩, ⟨⟨q0, q1, q2⟩, g0, g1, g2⟩, hz, hbel⟩ := boxes hb
  have HB := Lib.hid hbel
  have HBb := Lib.hid hb
  have HB1 := Lib.hid (HB0.out.below hb (Nat.le_refl _))
  have HB1' := Lib.hid (HB0'.out.below hb (Nat.le_refl _))
  clear hb hbel
  go_wp2_with fail
  go_region_held3 (fun w' => (w'.cell? ⟨w.heap.size, 0, none⟩ = some (.slice A n c) ∧ w'.cell? ⟨w.heap.size, 1, none⟩ = some (.int .i64 s) ∧ w'.cell? ⟨w.heap.size, 2, none⟩ = some (.int .i64 (m : Int))) ∧ Below w1.heap.size w1 w')
    (first | exact ⟨⟨p0, p1, p2⟩, (Below.refl _ _).drew⟩ | exact keep3 (by assumption) (by assumption))
    (first
      | (go_at_call 42; refine (whole_any _ _ _ _ _ _ _ (HB1.out.below (And.right (by assumption)) (Nat.le_refl _)) (by omega)).mono ?_; rintro e w2 ⟨rfl, hb⟩; rw [HT.out]))
  have hh : Below w1.heap.size w1 w2 := And.right (by assumption)
  have HH := Lib.hid hh
  have HB2 := Lib.hid (HB.out.trans (hh.mono (by omega)))
  have hz2 := hh.size
  obtain ⟨⟨r0, r1, r2⟩, k0, k1, k2⟩ := boxk hh (b := w.heap.size + 1) (by omega) ⟨⟨q0, q1, q2⟩, g0, g1, g2⟩
  obtain ⟨⟨s0, s1, s2⟩, m0, m1, m2⟩ := boxk hh (b := w.heap.size) (by omega) ⟨⟨p0, p1, p2⟩, f0, f1, f2⟩
  have HB2l := Lib.hid (HB1.out.below hh (Nat.le_refl _))
  have HFr := Lib.hid (frame_any _ _ _ _ _ (HB1'.out.below hh (Nat.le_refl _)) hn)
  clear q0 q1 q2 g0 g1 g2 p0 p1 p2 f0 f1 f2 hh
  have hdrop : True := trivial
  go_wp2_with fail
  refine HFr.out.mono ?_
  rintro e w3 ⟨A3, c3, rfl, hown3, hb3⟩
  obtain ⟨⟨q0, q1, q2⟩, g0, g1, g2⟩ := boxk hb3 (b := w.heap.size + 1) (by omega) ⟨⟨r0, r1, r2⟩, k0, k1, k2⟩
  obtain ⟨⟨p0, p1, p2⟩, f0, f1, f2⟩ := boxk hb3 (b := w.heap.size) (by omega) ⟨⟨s0, s1, s2⟩, m0, m1, m2⟩
  have HB3 := Lib.hid (HB2.out.trans (hb3.mono HB2.out.size))
  have hz3 := hb3.size
  have HB3l := Lib.hid (HB2l.out.below hb3 (Nat.le_refl _))
  have HO3 := Lib.hid (own_mono (base' := w.heap.size) hown3 (by omega))
  have HB3f := Lib.hid (bytes_of_own hown3 HFB.out)
  have HO3b := Lib.hid hown3
  have hle3 := HB3f.out.le
  have hcap3 := HB3f.out.cap
  clear r0 r1 r2 k0 k1 k2 s0 s1 s2 m0 m1 m2 hown3 hb3
  have hbW : Below w.heap.size w (w3.setCell ⟨w.heap.size, 2, none⟩ (.int .i64 0)) := HB3.out.setCell (by simp) _
  have hf3 : Bytes (w3.setCell ⟨w.heap.size, 2, none⟩ (.int .i64 0)) A3 (m) c3 ((frameL b).take m) := bytes_of_own (own_take (ownsRow_setCell_below HO3b.out (a := ⟨w.heap.size, 2, none⟩) (by simp; omega) _) (by omega)) (HFB.out.take m)
  have hT3 : Two ((w3.setCell ⟨w.heap.size, 2, none⟩ (.int .i64 0)).alloc (.cells #[.slice A n c, .slice A3 (m) c3] 22)) w3.heap.size A n c l A3 (m) c3 ((frameL b).take m) :=
    ⟨by rw [World.cell?_alloc_at _ _ _ _ (size_setCell _ _ _).symm]; rfl, by rw [World.cell?_alloc_at _ _ _ _ (size_setCell _ _ _).symm]; rfl, (HBw.out.below hbW (Nat.le_refl _)).alloc _, hf3.alloc _⟩
  have HT3 := Lib.hid hT3
  have HBW := Lib.hid hbW
  clear hT3 hf3 hbW
  go_wp2_with fail
  refine (concat_any _ _ _ _ _ _ _ _ _ _ _ HT3.out (by omega) (by omega) (by omega)).mono ?_
  rintro e w4 ⟨A4, c4, rfl, hown4, hb4⟩
  have hb34 : Below w3.heap.size (w3.setCell ⟨w.heap.size, 2, none⟩ (.int .i64 0)) w4 := ((Below.refl _ _).alloc (by rw [size_setCell]; exact Nat.le_refl _) _).trans (hb4.mono (by rw [World.size_alloc, size_setCell]; omega))
  obtain ⟨⟨r0, r1, r2⟩, k0, k1, k2⟩ := boxk (x := .slice none 0 0) (y := .int .i64 0) (z := .int .i64 0) hb34 (b := w.heap.size + 1) (by omega) (box_far (p := ⟨w.heap.size, 2, none⟩) (by simp) _ ⟨⟨q0, q1, q2⟩, g0, g1, g2⟩)
  obtain ⟨⟨s0, s1, s2⟩, m0, m1, m2⟩ := boxk (x := .slice A n c) (y := .int .i64 s) (z := .int .i64 (0)) hb34 (b := w.heap.size) (by omega) (box_set2 _ ⟨⟨p0, p1, p2⟩, f0, f1, f2⟩)
  have HB4 := Lib.hid (HBW.out.trans (hb34.mono (by omega)))
  have hz4 := hb34.size
  have HO4 := Lib.hid (own_mono (base' := w.heap.size + 2) hown4 (by rw [World.size_alloc, size_setCell]; omega))
  clear hown4 hb4 hb34 q0 q1 q2 g0 g1 g2 p0 p1 p2 f0 f1 f2
  generalize hN : (l ++ (frameL b).take m).length = N at *
  have HN := Lib.hid hN
  clear hN
  go_wp2
  refine bodyPost_ret (v := .tuple #[.agg #[.slice A4 N c4, .int .i64 s, .int .i64 (0)], .int .i64 19]) (by simp [results, Try.results19, go_sem, r0, r1, r2]) rfl ⟨A4, c4, by rw [HN.out], ?_, ?_⟩
  · rw [HN.out]
    exact own_mono (ownsRow_setCell_below (ownsRow_setCell_below (ownsRow_setCell_below (ownsRow_setCell_below HO4.out (a := ⟨w.heap.size, 0, none⟩) (by simp) (.slice A4 N c4)) (a := ⟨w.heap.size + 1, 0, none⟩) (by simp) (.slice A4 N c4)) (a := ⟨w.heap.size + 1, 1, none⟩) (by simp) (.int .i64 s)) (a := ⟨w.heap.size + 1, 2, none⟩) (by simp) (.int .i64 (0))) (by omega)
  · exact ((((HB4.out.setCell (by simp) _).setCell (by simp) _).setCell (by simp) _).setCell (by simp) _)

set_option maxHeartbeats 2000000 in
theorem append_8 (A : Option Addr) (n c : Nat) (l : List Int) (s a : Int) (A' : Option Addr) (n' c' : Nat) (b : List Int) (w : World) (h : Bytes w A n c l) (h' : Bytes w A' n' c' b) (hv : validB l s a = true) (hn : n' ≤ 65535) (ha : a ≠ 0) (ht : total (frames l) = l.length) (hbig : n + (8 + n') ≤ 1048576) (hpos : 8 + (n' : Int) ≤ a) :
    Calls Try.prog 19 #[.agg #[.slice A n c, .int .i64 s, .int .i64 a], .slice A' n' c'] w (DiskPost w (l ++ frameL b) s (a - (8 + (n' : Int))) 0) := by
  have hB := ((h.alloc (.cells #[.slice A n c, .int .i64 s, .int .i64 a] 24)).alloc (.cells #[.slice none 0 0, .int .i64 0, .int .i64 0] 24))
  have hB' := ((h'.alloc (.cells #[.slice A n c, .int .i64 s, .int .i64 a] 24)).alloc (.cells #[.slice none 0 0, .int .i64 0, .int .i64 0] 24))
  have HV := Lib.hid (valid_any A n c l s a _ hB)
  have hnl : n ≤ 1048576 := by have := h.len; simp [validB] at hv; omega
  have ham : -1 ≤ a ∧ a ≤ 1048576 := by simp [validB] at hv; omega
  have HB0 := Lib.hid hB
  have HB0' := Lib.hid hB'
  have HLl := Lib.hid h.len
  have HBw := Lib.hid h
  have HLb := Lib.hid h'.len
  rw [hv] at HV
  have hle' := h'.le
  have hcap' := h'.cap
  have hle := h.le
  have hcap := h.cap
  have ha0 : (a == 0) = false := by simpa using ha
  have HT := Lib.hid (show ((total (frames l) : Nat) : Int) = (n : Int) by have := h.len; omega)
  have hF := Lib.hid (frameL_length b)
  have hnb : ((n : Int) != (n : Int)) = false := by simp
  have HFB := Lib.hid (show AllBytes (frameL b) from ((num4_bytes _ (by have := h'.len; omega) (by have := h'.len; omega)).append h'.bytes).append (num4_bytes _ (sumL_bd _).1 (sumL_bd _).2))
  have hneg : ¬ a < 0 := by omega
  clear h h' hv hB hB' ha ht
  go_enter Try.func19, Try.ntmps19
  go_wp2_with fail
  refine HV.out.mono ?_
  rintro e w1 ⟨rfl, hb⟩
  obtain ⟨⟨⟨p0, p1, p2⟩, f0, f1, f2⟩, ⟨⟨q0, q1, q2⟩, g0, g1, g2⟩, hz, hbel⟩ := boxes hb
  have HB := Lib.hid hbel
  have HBb := Lib.hid hb
  have HB1 := Lib.hid (HB0.out.below hb (Nat.le_refl _))
  have HB1' := Lib.hid (HB0'.out.below hb (Nat.le_refl _))
  clear hb hbel
  go_wp2_with fail
  go_region_held3 (fun w' => (w'.cell? ⟨w.heap.size, 0, none⟩ = some (.slice A n c) ∧ w'.cell? ⟨w.heap.size, 1, none⟩ = some (.int .i64 s) ∧ w'.cell? ⟨w.heap.size, 2, none⟩ = some (.int .i64 a)) ∧ Below w1.heap.size w1 w')
    (first | exact ⟨⟨p0, p1, p2⟩, (Below.refl _ _).drew⟩ | exact keep3 (by assumption) (by assumption))
    (first
      | (go_at_call 42; refine (whole_any _ _ _ _ _ _ _ (HB1.out.below (And.right (by assumption)) (Nat.le_refl _)) (by omega)).mono ?_; rintro e w2 ⟨rfl, hb⟩; rw [HT.out]))
  have hh : Below w1.heap.size w1 w2 := And.right (by assumption)
  have HH := Lib.hid hh
  have HB2 := Lib.hid (HB.out.trans (hh.mono (by omega)))
  have hz2 := hh.size
  obtain ⟨⟨r0, r1, r2⟩, k0, k1, k2⟩ := boxk hh (b := w.heap.size + 1) (by omega) ⟨⟨q0, q1, q2⟩, g0, g1, g2⟩
  obtain ⟨⟨s0, s1, s2⟩, m0, m1, m2⟩ := boxk hh (b := w.heap.size) (by omega) ⟨⟨p0, p1, p2⟩, f0, f1, f2⟩
  have HB2l := Lib.hid (HB1.out.below hh (Nat.le_refl _))
  have HFr := Lib.hid (frame_any _ _ _ _ _ (HB1'.out.below hh (Nat.le_refl _)) hn)
  clear q0 q1 q2 g0 g1 g2 p0 p1 p2 f0 f1 f2 hh
  have hdrop : True := trivial
  go_wp2_with fail
  refine HFr.out.mono ?_
  rintro e w3 ⟨A3, c3, rfl, hown3, hb3⟩
  obtain ⟨⟨q0, q1, q2⟩, g0, g1, g2⟩ := boxk hb3 (b := w.heap.size + 1) (by omega) ⟨⟨r0, r1, r2⟩, k0, k1, k2⟩
  obtain ⟨⟨p0, p1, p2⟩, f0, f1, f2⟩ := boxk hb3 (b := w.heap.size) (by omega) ⟨⟨s0, s1, s2⟩, m0, m1, m2⟩
  have HB3 := Lib.hid (HB2.out.trans (hb3.mono HB2.out.size))
  have hz3 := hb3.size
  have HB3l := Lib.hid (HB2l.out.below hb3 (Nat.le_refl _))
  have HO3 := Lib.hid (own_mono (base' := w.heap.size) hown3 (by omega))
  have HB3f := Lib.hid (bytes_of_own hown3 HFB.out)
  have HO3b := Lib.hid hown3
  have hle3 := HB3f.out.le
  have hcap3 := HB3f.out.cap
  clear r0 r1 r2 k0 k1 k2 s0 s1 s2 m0 m1 m2 hown3 hb3
  have hbW : Below w.heap.size w (w3.setCell ⟨w.heap.size, 2, none⟩ (.int .i64 (a - (8 + (n' : Int))))) := HB3.out.setCell (by simp) _
  have hf3 : Bytes (w3.setCell ⟨w.heap.size, 2, none⟩ (.int .i64 (a - (8 + (n' : Int))))) A3 (8 + n') c3 (frameL b) := bytes_of_own (ownsRow_setCell_below HO3b.out (a := ⟨w.heap.size, 2, none⟩) (by simp; omega) _) HFB.out
  have hT3 : Two ((w3.setCell ⟨w.heap.size, 2, none⟩ (.int .i64 (a - (8 + (n' : Int))))).alloc (.cells #[.slice A n c, .slice A3 (8 + n') c3] 22)) w3.heap.size A n c l A3 (8 + n') c3 (frameL b) :=
    ⟨by rw [World.cell?_alloc_at _ _ _ _ (size_setCell _ _ _).symm]; rfl, by rw [World.cell?_alloc_at _ _ _ _ (size_setCell _ _ _).symm]; rfl, (HBw.out.below hbW (Nat.le_refl _)).alloc _, hf3.alloc _⟩
  have HT3 := Lib.hid hT3
  have HBW := Lib.hid hbW
  clear hT3 hf3 hbW
  go_wp2_with fail
  refine (concat_any _ _ _ _ _ _ _ _ _ _ _ HT3.out (by omega) (by omega) (by omega)).mono ?_
  rintro e w4 ⟨A4, c4, rfl, hown4, hb4⟩
  have hb34 : Below w3.heap.size (w3.setCell ⟨w.heap.size, 2, none⟩ (.int .i64 (a - (8 + (n' : Int))))) w4 := ((Below.refl _ _).alloc (by rw [size_setCell]; exact Nat.le_refl _) _).trans (hb4.mono (by rw [World.size_alloc, size_setCell]; omega))
  obtain ⟨⟨r0, r1, r2⟩, k0, k1, k2⟩ := boxk (x := .slice none 0 0) (y := .int .i64 0) (z := .int .i64 0) hb34 (b := w.heap.size + 1) (by omega) (box_far (p := ⟨w.heap.size, 2, none⟩) (by simp) _ ⟨⟨q0, q1, q2⟩, g0, g1, g2⟩)
  obtain ⟨⟨s0, s1, s2⟩, m0, m1, m2⟩ := boxk (x := .slice A n c) (y := .int .i64 s) (z := .int .i64 (a - (8 + (n' : Int)))) hb34 (b := w.heap.size) (by omega) (box_set2 _ ⟨⟨p0, p1, p2⟩, f0, f1, f2⟩)
  have HB4 := Lib.hid (HBW.out.trans (hb34.mono (by omega)))
  have hz4 := hb34.size
  have HO4 := Lib.hid (own_mono (base' := w.heap.size + 2) hown4 (by rw [World.size_alloc, size_setCell]; omega))
  clear hown4 hb4 hb34 q0 q1 q2 g0 g1 g2 p0 p1 p2 f0 f1 f2
  generalize hN : (l ++ frameL b).length = N at *
  have HN := Lib.hid hN
  clear hN
  go_wp2
  refine bodyPost_ret (v := .tuple #[.agg #[.slice A4 N c4, .int .i64 s, .int .i64 (a - (8 + (n' : Int)))], .int .i64 0]) (by simp [results, Try.results19, go_sem, r0, r1, r2]) rfl ⟨A4, c4, by rw [HN.out], ?_, ?_⟩
  · rw [HN.out]
    exact own_mono (ownsRow_setCell_below (ownsRow_setCell_below (ownsRow_setCell_below (ownsRow_setCell_below HO4.out (a := ⟨w.heap.size, 0, none⟩) (by simp) (.slice A4 N c4)) (a := ⟨w.heap.size + 1, 0, none⟩) (by simp) (.slice A4 N c4)) (a := ⟨w.heap.size + 1, 1, none⟩) (by simp) (.int .i64 s)) (a := ⟨w.heap.size + 1, 2, none⟩) (by simp) (.int .i64 (a - (8 + (n' : Int))))) (by omega)
  · exact ((((HB4.out.setCell (by simp) _).setCell (by simp) _).setCell (by simp) _).setCell (by simp) _)

theorem append_any (A : Option Addr) (n c : Nat) (l : List Int) (s a : Int) (A' : Option Addr) (n' c' : Nat) (b : List Int) (w : World) (h : Bytes w A n c l) (h' : Bytes w A' n' c' b) :
    Calls Try.prog 19 #[.agg #[.slice A n c, .int .i64 s, .int .i64 a], .slice A' n' c'] w (DPost w (appendD l s a b)) := by
  have hl := h.len
  have hb := h'.len
  unfold DPost appendD
  by_cases hv : validB l s a = false
  · rw [if_pos hv]; exact append_1 A n c l s a A' n' c' b w h h' hv
  rw [if_neg hv]
  have hv' : validB l s a = true := by simpa using hv
  by_cases h1 : 65535 < b.length
  · rw [if_pos h1]; exact append_2 A n c l s a A' n' c' b w h h' hv' (by omega)
  rw [if_neg h1]
  by_cases h2 : a = 0
  · rw [if_pos h2]; exact append_3 A n c l s a A' n' c' b w h h' hv' (by omega) h2
  rw [if_neg h2]
  by_cases h3 : total (frames l) ≠ l.length
  · rw [if_pos h3]; exact append_4 A n c l s a A' n' c' b w h h' hv' (by omega) h2 h3
  rw [if_neg h3]
  have h3' : total (frames l) = l.length := by omega
  by_cases h4 : 1048576 < l.length + (8 + b.length)
  · rw [if_pos h4]; exact append_5 A n c l s a A' n' c' b w h h' hv' (by omega) h2 h3' (by omega)
  rw [if_neg h4]
  by_cases h5 : a < 0
  · rw [if_pos h5]; exact append_6 A n c l s a A' n' c' b w h h' hv' (by omega) h2 h3' (by omega) h5
  rw [if_neg h5]
  by_cases h6 : a < ((8 + b.length : Nat) : Int)
  · rw [if_pos h6]; exact append_7 A n c l s a A' n' c' b w h h' hv' (by omega) h2 h3' (by omega) (by omega) (by omega)
  · rw [if_neg h6]
    have e : a - ((8 + b.length : Nat) : Int) = a - (8 + (n' : Int)) := by omega
    rw [e]; exact append_8 A n c l s a A' n' c' b w h h' hv' (by omega) h2 h3' (by omega) (by omega)
end Go.Proofs.Ytioedljihlfcaaa

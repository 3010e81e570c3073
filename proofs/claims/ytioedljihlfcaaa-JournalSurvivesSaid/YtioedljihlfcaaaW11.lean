import Derived.Test.YtioedljihlfcaaaW10
namespace Go.Proofs.Ytioedljihlfcaaa
open Go.RowKit

def syncD (l : List Int) (s a : Int) : DL :=
  if validB l s a = false then ⟨[], 0, 0, 1⟩
  else if a = 0 then ⟨l, s, a, 19⟩
  else if total (frames l) ≠ l.length then ⟨[], 0, 0, 13⟩
  else ⟨l, (l.length : Int), a, 0⟩
def openD (l : List Int) (s a : Int) : DL :=
  if validB l s a = false then ⟨[], 0, 0, 1⟩
  else if a = 0 then ⟨l, s, a, 19⟩
  else ⟨l.take (total (frames l)), (total (frames l) : Int), a, 0⟩
theorem WholePost_eq (w : World) (l : List Int) : WholePost w l = fun e w' => e = .returned (.int .i64 (total (frames l) : Int)) ∧ Below w.heap.size w w' := rfl
def crashD (l : List Int) (s a k : Int) : DL :=
  if validB l s a = false then ⟨[], 0, 0, 1⟩
  else if k < 0 ∨ (l.length : Int) - s < k then ⟨[], 0, 0, 2⟩
  else ⟨l.take (s + k).toNat, s, -1, 0⟩

set_option maxHeartbeats 2000000 in
theorem sync_1 (A : Option Addr) (n c : Nat) (l : List Int) (s a : Int) (w : World) (h : Bytes w A n c l) (hv : validB l s a = false) :
    Calls Try.prog 20 #[.agg #[.slice A n c, .int .i64 s, .int .i64 a]] w (DiskPost w [] 0 0 1) := by
  have hB := ((h.alloc (.cells #[.slice A n c, .int .i64 s, .int .i64 a] 24)).alloc (.cells #[.slice none 0 0, .int .i64 0, .int .i64 0] 24))
  have HV := Lib.hid (valid_any A n c l s a _ hB)
  have HB0 := Lib.hid hB
  have HBw := Lib.hid h
  have HLl := Lib.hid h.len
  have hle := h.le
  have hcap := h.cap
  rw [hv] at HV
  clear h hB hv
  go_enter Try.func20, Try.ntmps20
  go_wp2_with fail
  refine HV.out.mono ?_
  rintro e w1 ⟨rfl, hb⟩
  obtain ⟨⟨⟨p0, p1, p2⟩, f0, f1, f2⟩, ⟨⟨q0, q1, q2⟩, g0, g1, g2⟩, hz, hbel⟩ := boxes hb
  have HB := Lib.hid hbel
  have HBb := Lib.hid hb
  have HB1 := Lib.hid (HB0.out.below hb (Nat.le_refl _))
  clear hb hbel
  go_wp2
  refine bodyPost_ret (v := .tuple #[.agg #[.slice none 0 0, .int .i64 0, .int .i64 0], .int .i64 1]) (by simp [results, Try.results20, go_sem, q0, q1, q2]) rfl (DiskPost.zero 1 ?_)
  exact (((HB.out.setCell (by simp) _).setCell (by simp) _).setCell (by simp) _)

set_option maxHeartbeats 2000000 in
theorem sync_2 (A : Option Addr) (n c : Nat) (l : List Int) (s a : Int) (w : World) (h : Bytes w A n c l) (hv : validB l s a = true) (ha : a = 0) :
    Calls Try.prog 20 #[.agg #[.slice A n c, .int .i64 s, .int .i64 a]] w (DiskPost w l s a 19) := by
  have hB := ((h.alloc (.cells #[.slice A n c, .int .i64 s, .int .i64 a] 24)).alloc (.cells #[.slice none 0 0, .int .i64 0, .int .i64 0] 24))
  have HV := Lib.hid (valid_any A n c l s a _ hB)
  have HB0 := Lib.hid hB
  have HBw := Lib.hid h
  have HLl := Lib.hid h.len
  have hle := h.le
  have hcap := h.cap
  rw [hv] at HV
  have hnl : n ≤ 1048576 := by have := h.len; simp [validB] at hv; omega
  subst ha
  clear h hB hv
  go_enter Try.func20, Try.ntmps20
  go_wp2_with fail
  refine HV.out.mono ?_
  rintro e w1 ⟨rfl, hb⟩
  obtain ⟨⟨⟨p0, p1, p2⟩, f0, f1, f2⟩, ⟨⟨q0, q1, q2⟩, g0, g1, g2⟩, hz, hbel⟩ := boxes hb
  have HB := Lib.hid hbel
  have HBb := Lib.hid hb
  have HB1 := Lib.hid (HB0.out.below hb (Nat.le_refl _))
  clear hb hbel
  have HC := Lib.hid (copied_any A n c l s 0 _ HB1.out (by omega))
  go_wp2_with fail
  refine HC.out.mono ?_
  rintro e w2 ⟨A2, c2, rfl, hown, hb2⟩
  obtain ⟨⟨r0, r1, r2⟩, k0, k1, k2⟩ := boxk hb2 (b := w.heap.size + 1) (by omega) ⟨⟨q0, q1, q2⟩, g0, g1, g2⟩
  have HO := Lib.hid hown
  have HB2 := Lib.hid (HB.out.trans (hb2.mono HB.out.size))
  have hz2 := hb2.size
  clear q0 q1 q2 g0 g1 g2 hown hb2 p0 p1 p2 f0 f1 f2
  go_wp2
  refine bodyPost_ret (v := .tuple #[.agg #[.slice A2 n c2, .int .i64 s, .int .i64 0], .int .i64 19]) (by simp [results, Try.results20, go_sem, r0, r1, r2]) rfl ⟨_, _, by rw [HLl.out], ?_, ?_⟩
  · rw [HLl.out]
    exact own_mono (ownsRow_setCell_below (ownsRow_setCell_below (ownsRow_setCell_below HO.out (a := ⟨w.heap.size + 1, 0, none⟩) (by simp; omega) (.slice A2 n c2)) (a := ⟨w.heap.size + 1, 1, none⟩) (by simp; omega) (.int .i64 s)) (a := ⟨w.heap.size + 1, 2, none⟩) (by simp; omega) (.int .i64 0)) (by omega)
  · exact (((HB2.out.setCell (by simp) _).setCell (by simp) _).setCell (by simp) _)

set_option maxHeartbeats 2000000 in
theorem open_1 (A : Option Addr) (n c : Nat) (l : List Int) (s a : Int) (w : World) (h : Bytes w A n c l) (hv : validB l s a = false) :
    Calls Try.prog 24 #[.agg #[.slice A n c, .int .i64 s, .int .i64 a]] w (DiskPost w [] 0 0 1) := by
  have hB := ((h.alloc (.cells #[.slice A n c, .int .i64 s, .int .i64 a] 24)).alloc (.cells #[.slice none 0 0, .int .i64 0, .int .i64 0] 24))
  have HV := Lib.hid (valid_any A n c l s a _ hB)
  have HB0 := Lib.hid hB
  have HBw := Lib.hid h
  have HLl := Lib.hid h.len
  have hle := h.le
  have hcap := h.cap
  rw [hv] at HV
  clear h hB hv
  go_enter Try.func24, Try.ntmps24
  go_wp2_with fail
  refine HV.out.mono ?_
  rintro e w1 ⟨rfl, hb⟩
  obtain ⟨⟨⟨p0, p1, p2⟩, f0, f1, f2⟩, ⟨⟨q0, q1, q2⟩, g0, g1, g2⟩, hz, hbel⟩ := boxes hb
  have HB := Lib.hid hbel
  have HBb := Lib.hid hb
  have HB1 := Lib.hid (HB0.out.below hb (Nat.le_refl _))
  clear hb hbel
  go_wp2
  refine bodyPost_ret (v := .tuple #[.agg #[.slice none 0 0, .int .i64 0, .int .i64 0], .int .i64 1]) (by simp [results, Try.results24, go_sem, q0, q1, q2]) rfl (DiskPost.zero 1 ?_)
  exact (((HB.out.setCell (by simp) _).setCell (by simp) _).setCell (by simp) _)

set_option maxHeartbeats 2000000 in
theorem open_2 (A : Option Addr) (n c : Nat) (l : List Int) (s a : Int) (w : World) (h : Bytes w A n c l) (hv : validB l s a = true) (ha : a = 0) :
    Calls Try.prog 24 #[.agg #[.slice A n c, .int .i64 s, .int .i64 a]] w (DiskPost w l s a 19) := by
  have hB := ((h.alloc (.cells #[.slice A n c, .int .i64 s, .int .i64 a] 24)).alloc (.cells #[.slice none 0 0, .int .i64 0, .int .i64 0] 24))
  have HV := Lib.hid (valid_any A n c l s a _ hB)
  have HB0 := Lib.hid hB
  have HBw := Lib.hid h
  have HLl := Lib.hid h.len
  have hle := h.le
  have hcap := h.cap
  rw [hv] at HV
  have hnl : n ≤ 1048576 := by have := h.len; simp [validB] at hv; omega
  subst ha
  clear h hB hv
  go_enter Try.func24, Try.ntmps24
  go_wp2_with fail
  refine HV.out.mono ?_
  rintro e w1 ⟨rfl, hb⟩
  obtain ⟨⟨⟨p0, p1, p2⟩, f0, f1, f2⟩, ⟨⟨q0, q1, q2⟩, g0, g1, g2⟩, hz, hbel⟩ := boxes hb
  have HB := Lib.hid hbel
  have HBb := Lib.hid hb
  have HB1 := Lib.hid (HB0.out.below hb (Nat.le_refl _))
  clear hb hbel
  have HC := Lib.hid (copied_any A n c l s 0 _ HB1.out (by omega))
  go_wp2_with fail
  refine HC.out.mono ?_
  rintro e w2 ⟨A2, c2, rfl, hown, hb2⟩
  obtain ⟨⟨r0, r1, r2⟩, k0, k1, k2⟩ := boxk hb2 (b := w.heap.size + 1) (by omega) ⟨⟨q0, q1, q2⟩, g0, g1, g2⟩
  have HO := Lib.hid hown
  have HB2 := Lib.hid (HB.out.trans (hb2.mono HB.out.size))
  have hz2 := hb2.size
  clear q0 q1 q2 g0 g1 g2 hown hb2 p0 p1 p2 f0 f1 f2
  go_wp2
  refine bodyPost_ret (v := .tuple #[.agg #[.slice A2 n c2, .int .i64 s, .int .i64 0], .int .i64 19]) (by simp [results, Try.results24, go_sem, r0, r1, r2]) rfl ⟨_, _, by rw [HLl.out], ?_, ?_⟩
  · rw [HLl.out]
    exact own_mono (ownsRow_setCell_below (ownsRow_setCell_below (ownsRow_setCell_below HO.out (a := ⟨w.heap.size + 1, 0, none⟩) (by simp; omega) (.slice A2 n c2)) (a := ⟨w.heap.size + 1, 1, none⟩) (by simp; omega) (.int .i64 s)) (a := ⟨w.heap.size + 1, 2, none⟩) (by simp; omega) (.int .i64 0)) (by omega)
  · exact (((HB2.out.setCell (by simp) _).setCell (by simp) _).setCell (by simp) _)

set_option maxHeartbeats 2000000 in
theorem sync_3 (A : Option Addr) (n c : Nat) (l : List Int) (s a : Int) (w : World) (h : Bytes w A n c l) (hv : validB l s a = true) (ha : a ≠ 0) (ht : total (frames l) ≠ l.length) :
    Calls Try.prog 20 #[.agg #[.slice A n c, .int .i64 s, .int .i64 a]] w (DiskPost w [] 0 0 13) := by
  have hB := ((h.alloc (.cells #[.slice A n c, .int .i64 s, .int .i64 a] 24)).alloc (.cells #[.slice none 0 0, .int .i64 0, .int .i64 0] 24))
  have HV := Lib.hid (valid_any A n c l s a _ hB)
  have HB0 := Lib.hid hB
  have HBw := Lib.hid h
  have HLl := Lib.hid h.len
  have hle := h.le
  have hcap := h.cap
  rw [hv] at HV
  have hnl : n ≤ 1048576 := by have := h.len; simp [validB] at hv; omega
  have ha0 : (a == 0) = false := by simpa using ha
  have ht0 : ((total (frames l) : Int) != (n : Int)) = true := by rw [bne_iff_ne]; intro hh; apply ht; have := h.len; omega
  generalize hT : ((total (frames l) : Nat) : Int) = T at *
  have HT := Lib.hid hT
  clear h hB hv ha ht hT
  go_enter Try.func20, Try.ntmps20
  go_wp2_with fail
  refine HV.out.mono ?_
  rintro e w1 ⟨rfl, hb⟩
  obtain ⟨⟨⟨p0, p1, p2⟩, f0, f1, f2⟩, ⟨⟨q0, q1, q2⟩, g0, g1, g2⟩, hz, hbel⟩ := boxes hb
  have HB := Lib.hid hbel
  have HBb := Lib.hid hb
  have HB1 := Lib.hid (HB0.out.below hb (Nat.le_refl _))
  clear hb hbel
  go_wp2_with fail
  go_region_held3 (fun w' => (w'.cell? ⟨w.heap.size, 0, none⟩ = some (.slice A n c) ∧ w'.cell? ⟨w.heap.size, 1, none⟩ = some (.int .i64 s) ∧ w'.cell? ⟨w.heap.size, 2, none⟩ = some (.int .i64 a)) ∧ Below w1.heap.size w1 w')
    (first | exact ⟨⟨p0, p1, p2⟩, (Below.refl _ _).drew⟩ | exact keep3 (by assumption) (by assumption))
    (first
      | (go_at_call 42; refine (whole_any _ _ _ _ _ _ _ (HB1.out.below (And.right (by assumption)) (Nat.le_refl _)) (by omega)).mono ?_; rintro e w2 ⟨rfl, hb⟩; rw [HT.out]))
  have hh : Below w1.heap.size w1 w2 := And.right (by assumption)
  have HB2 := Lib.hid (HB.out.trans (hh.mono (by omega)))
  have hz2 := hh.size
  obtain ⟨⟨r0, r1, r2⟩, k0, k1, k2⟩ := boxk hh (b := w.heap.size + 1) (by omega) ⟨⟨q0, q1, q2⟩, g0, g1, g2⟩
  obtain ⟨⟨s0, s1, s2⟩, m0, m1, m2⟩ := boxk hh (b := w.heap.size) (by omega) ⟨⟨p0, p1, p2⟩, f0, f1, f2⟩
  have HB2l := Lib.hid (HB1.out.below hh (Nat.le_refl _))
  clear q0 q1 q2 g0 g1 g2 p0 p1 p2 f0 f1 f2 hh
  clear s0 s1 s2 m0 m1 m2
  go_wp2
  refine bodyPost_ret (v := .tuple #[.agg #[.slice none 0 0, .int .i64 0, .int .i64 0], .int .i64 13]) (by simp [results, Try.results20, go_sem, r0, r1, r2]) rfl (DiskPost.zero 13 ?_)
  exact (((HB2.out.setCell (by simp) _).setCell (by simp) _).setCell (by simp) _)

set_option maxHeartbeats 2000000 in
theorem sync_4 (A : Option Addr) (n c : Nat) (l : List Int) (s a : Int) (w : World) (h : Bytes w A n c l) (hv : validB l s a = true) (ha : a ≠ 0) (ht : total (frames l) = l.length) :
    Calls Try.prog 20 #[.agg #[.slice A n c, .int .i64 s, .int .i64 a]] w (DiskPost w l (l.length : Int) a 0) := by
  have hB := ((h.alloc (.cells #[.slice A n c, .int .i64 s, .int .i64 a] 24)).alloc (.cells #[.slice none 0 0, .int .i64 0, .int .i64 0] 24))
  have HV := Lib.hid (valid_any A n c l s a _ hB)
  have HB0 := Lib.hid hB
  have HBw := Lib.hid h
  have HLl := Lib.hid h.len
  have hle := h.le
  have hcap := h.cap
  rw [hv] at HV
  have hnl : n ≤ 1048576 := by have := h.len; simp [validB] at hv; omega
  have ha0 : (a == 0) = false := by simpa using ha
  have HT := Lib.hid (show ((total (frames l) : Nat) : Int) = (n : Int) by have := h.len; omega)
  have hnb : ((n : Int) != (n : Int)) = false := by simp
  clear h hB hv ha ht
  go_enter Try.func20, Try.ntmps20
  go_wp2_with fail
  refine HV.out.mono ?_
  rintro e w1 ⟨rfl, hb⟩
  obtain ⟨⟨⟨p0, p1, p2⟩, f0, f1, f2⟩, ⟨⟨q0, q1, q2⟩, g0, g1, g2⟩, hz, hbel⟩ := boxes hb
  have HB := Lib.hid hbel
  have HBb := Lib.hid hb
  have HB1 := Lib.hid (HB0.out.below hb (Nat.le_refl _))
  clear hb hbel
  go_wp2_with fail
  go_region_held3 (fun w' => (w'.cell? ⟨w.heap.size, 0, none⟩ = some (.slice A n c) ∧ w'.cell? ⟨w.heap.size, 1, none⟩ = some (.int .i64 s) ∧ w'.cell? ⟨w.heap.size, 2, none⟩ = some (.int .i64 a)) ∧ Below w1.heap.size w1 w')
    (first | exact ⟨⟨p0, p1, p2⟩, (Below.refl _ _).drew⟩ | exact keep3 (by assumption) (by assumption))
    (first
      | (go_at_call 42; refine (whole_any _ _ _ _ _ _ _ (HB1.out.below (And.right (by assumption)) (Nat.le_refl _)) (by omega)).mono ?_; rintro e w2 ⟨rfl, hb⟩; rw [HT.out]))
  have hh : Below w1.heap.size w1 w2 := And.right (by assumption)
  have HB2 := Lib.hid (HB.out.trans (hh.mono (by omega)))
  have hz2 := hh.size
  obtain ⟨⟨r0, r1, r2⟩, k0, k1, k2⟩ := boxk hh (b := w.heap.size + 1) (by omega) ⟨⟨q0, q1, q2⟩, g0, g1, g2⟩
  obtain ⟨⟨s0, s1, s2⟩, m0, m1, m2⟩ := boxk hh (b := w.heap.size) (by omega) ⟨⟨p0, p1, p2⟩, f0, f1, f2⟩
  have HB2l := Lib.hid (HB1.out.below hh (Nat.le_refl _))
  clear q0 q1 q2 g0 g1 g2 p0 p1 p2 f0 f1 f2 hh
  have HC := Lib.hid (copied_any A n c l s a _ HB2l.out (by omega))
  go_wp2_with fail
  refine HC.out.mono ?_
  rintro e w3 ⟨A3, c3, rfl, hown, hb3⟩
  obtain ⟨⟨q0, q1, q2⟩, g0, g1, g2⟩ := boxk hb3 (b := w.heap.size + 1) (by omega) ⟨⟨r0, r1, r2⟩, k0, k1, k2⟩
  obtain ⟨⟨p0, p1, p2⟩, f0, f1, f2⟩ := boxk hb3 (b := w.heap.size) (by omega) ⟨⟨s0, s1, s2⟩, m0, m1, m2⟩
  have HO := Lib.hid hown
  have HB3 := Lib.hid (HB2.out.trans (hb3.mono HB2.out.size))
  have hz3 := hb3.size
  clear r0 r1 r2 k0 k1 k2 s0 s1 s2 m0 m1 m2 hown hb3
  have hlt1 : w.heap.size < w3.heap.size := by omega
  have hlt2 : w.heap.size + 1 < w3.heap.size := by omega
  go_wp2
  refine bodyPost_ret (v := .tuple #[.agg #[.slice A3 n c3, .int .i64 (n : Int), .int .i64 a], .int .i64 0]) (by simp [results, Try.results20, go_sem, q0, q1, q2, hlt2]) rfl ⟨A3, c3, by rw [HLl.out], ?_, ?_⟩
  · rw [HLl.out]
    exact own_mono ((ownsRow_setCell_below (ownsRow_setCell_below (ownsRow_setCell_below HO.out (a := ⟨w.heap.size + 1, 0, none⟩) (by simp; omega) (.slice A3 n c3)) (a := ⟨w.heap.size + 1, 1, none⟩) (by simp; omega) (.int .i64 (n : Int))) (a := ⟨w.heap.size + 1, 2, none⟩) (by simp; omega) (.int .i64 a)).alloc _) (by omega)
  · exact ((((HB3.out.setCell (by simp) _).setCell (by simp) _).setCell (by simp) _).alloc (by simp [World.setCell]; omega) _)

end Go.Proofs.Ytioedljihlfcaaa

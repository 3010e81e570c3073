import Derived.Test.YtioedljihlfcaaaW16
import Derived.Deep.RegionLaw
namespace Go.Proofs.Ytioedljihlfcaaa
open Go.RowKit

set_option maxHeartbeats 2000000 in
theorem rapp_1 (A : Option Addr) (n c : Nat) (l : List Int) (s a : Int) (A' : Option Addr) (n' c' : Nat) (b : List Int) (w : World) (h : Bytes w A n c l) (h' : Bytes w A' n' c' b) (hnl : n ≤ 1048576) (_ham : -1 ≤ a ∧ a ≤ 1048576) (hn : 65535 < n') :
    Calls Try.prog 21 #[.agg #[.slice A n c, .int .i64 s, .int .i64 a], .slice A' n' c'] w (DiskPost w [] 0 0 4) := by
  have hB := ((h.alloc (.cells #[.slice A n c, .int .i64 s, .int .i64 a] 24)).alloc (.cells #[.slice none 0 0, .int .i64 0, .int .i64 0] 24))
  have HB0 := Lib.hid hB
  have HBb := Lib.hid h'
  have HLb := Lib.hid h'.len
  have HLl := Lib.hid h.len
  have hby := Lib.hid h.bytes
  have hle := h.le
  have hcap := h.cap
  have hle' := h'.le
  have hcap' := h'.cap
  have HC := Lib.hid (rcopy_any A n c l s a _ hB (by omega))
  have HBe := Lib.hid (show Below w.heap.size w ((w.alloc (.cells #[.slice A n c, .int .i64 s, .int .i64 a] 24)).alloc (.cells #[.slice none 0 0, .int .i64 0, .int .i64 0] 24)) from ((Below.refl _ _).alloc (Nat.le_refl _) _).alloc (by simp) _)
  clear h h' hB
  clear HC
  go_enter Try.func21, Try.ntmps21
  go_wp2
  refine bodyPost_ret (v := .tuple #[.agg #[.slice none 0 0, .int .i64 0, .int .i64 0], .int .i64 4]) (by simp [results, Try.results21, go_sem]) rfl (DiskPost.zero 4 ?_)
  exact HBe.out

set_option maxHeartbeats 2000000 in
theorem rapp_2 (A : Option Addr) (n c : Nat) (l : List Int) (s a : Int) (A' : Option Addr) (n' c' : Nat) (b : List Int) (w : World) (h : Bytes w A n c l) (h' : Bytes w A' n' c' b) (hnl : n ≤ 1048576) (ham : -1 ≤ a ∧ a ≤ 1048576) (hn : n' ≤ 65535) (ha : a = 0) :
    Calls Try.prog 21 #[.agg #[.slice A n c, .int .i64 s, .int .i64 a], .slice A' n' c'] w (DiskPost w l s a 19) := by
  have hnn : ¬ (65535 : Int) < (n' : Int) := by omega
  have hB := ((h.alloc (.cells #[.slice A n c, .int .i64 s, .int .i64 a] 24)).alloc (.cells #[.slice none 0 0, .int .i64 0, .int .i64 0] 24))
  have HB0 := Lib.hid hB
  have HBb := Lib.hid h'
  have HLb := Lib.hid h'.len
  have HLl := Lib.hid h.len
  have hby := Lib.hid h.bytes
  have hle := h.le
  have hcap := h.cap
  have hle' := h'.le
  have hcap' := h'.cap
  subst ha
  have HC := Lib.hid (rcopy_any A n c l s 0 _ hB (by omega))
  have HBe := Lib.hid (show Below w.heap.size w ((w.alloc (.cells #[.slice A n c, .int .i64 s, .int .i64 0] 24)).alloc (.cells #[.slice none 0 0, .int .i64 0, .int .i64 0] 24)) from ((Below.refl _ _).alloc (Nat.le_refl _) _).alloc (by simp) _)
  clear h h' hB
  go_enter Try.func21, Try.ntmps21
  go_wp2_with fail
  refine HC.out.mono ?_
  rintro e w1 ⟨A1, c1, rfl, hown, hb⟩
  obtain ⟨⟨⟨p0, p1, p2⟩, f0, f1, f2⟩, ⟨⟨q0, q1, q2⟩, g0, g1, g2⟩, hz, hbel⟩ := boxes hb
  have HB := Lib.hid hbel
  have HO := Lib.hid (own_mono (base' := w.heap.size + 2) hown (by simp))
  have HBy := Lib.hid (bytes_of_own hown hby.out)
  clear hb hbel hown
  go_wp2
  refine bodyPost_ret (v := .tuple #[.agg #[.slice A1 n c1, .int .i64 s, .int .i64 0], .int .i64 19]) (by simp [results, Try.results21, go_sem, q0, q1, q2]) rfl ⟨_, _, by rw [HLl.out], ?_, ?_⟩
  · rw [HLl.out]
    exact own_mono (base := w.heap.size + 2) (ownsRow_setCell_below (ownsRow_setCell_below (ownsRow_setCell_below (ownsRow_setCell_below (ownsRow_setCell_below (ownsRow_setCell_below HO.out (by simp) _) (by simp) _) (by simp) _) (by simp) _) (by simp) _) (by simp) _) (by omega)
  · exact (Below.setCell (Below.setCell (Below.setCell (Below.setCell (Below.setCell (Below.setCell HB.out (by simp) _) (by simp) _) (by simp) _) (by simp) _) (by simp) _) (by simp) _)

set_option maxHeartbeats 2000000 in
theorem rapp_3 (A : Option Addr) (n c : Nat) (l : List Int) (s a : Int) (A' : Option Addr) (n' c' : Nat) (b : List Int) (w : World) (h : Bytes w A n c l) (h' : Bytes w A' n' c' b) (hnl : n ≤ 1048576) (_ham : -1 ≤ a ∧ a ≤ 1048576) (hn : n' ≤ 65535) (ha : a ≠ 0) (ht : total (frames l) ≠ l.length) :
    Calls Try.prog 21 #[.agg #[.slice A n c, .int .i64 s, .int .i64 a], .slice A' n' c'] w (DiskPost w [] 0 0 13) := by
  have hB := ((h.alloc (.cells #[.slice A n c, .int .i64 s, .int .i64 a] 24)).alloc (.cells #[.slice none 0 0, .int .i64 0, .int .i64 0] 24))
  have HB0 := Lib.hid hB
  have HBb := Lib.hid h'
  have HLb := Lib.hid h'.len
  have HLl := Lib.hid h.len
  have hby := Lib.hid h.bytes
  have hle := h.le
  have hcap := h.cap
  have hle' := h'.le
  have hcap' := h'.cap
  have HC := Lib.hid (rcopy_any A n c l s a _ hB (by omega))
  have HBe := Lib.hid (show Below w.heap.size w ((w.alloc (.cells #[.slice A n c, .int .i64 s, .int .i64 a] 24)).alloc (.cells #[.slice none 0 0, .int .i64 0, .int .i64 0] 24)) from ((Below.refl _ _).alloc (Nat.le_refl _) _).alloc (by simp) _)
  have ha0 : (a == 0) = false := by simpa using ha
  have hnn : ¬ (65535 : Int) < (n' : Int) := by omega
  have ht0 : ((total (frames l) : Int) != (n : Int)) = true := by rw [bne_iff_ne]; intro hh; apply ht; have := h.len; omega
  generalize hT : ((total (frames l) : Nat) : Int) = T at *
  have HT := Lib.hid hT
  clear ha ht hT
  clear h h' hB
  go_enter Try.func21, Try.ntmps21
  go_wp2_with fail
  refine HC.out.mono ?_
  rintro e w1 ⟨A1, c1, rfl, hown, hb⟩
  obtain ⟨⟨⟨p0, p1, p2⟩, f0, f1, f2⟩, ⟨⟨q0, q1, q2⟩, g0, g1, g2⟩, hz, hbel⟩ := boxes hb
  have HB := Lib.hid hbel
  have HO := Lib.hid (own_mono (base' := w.heap.size + 2) hown (by simp))
  have HBy := Lib.hid (bytes_of_own hown hby.out)
  clear hb hbel hown
  go_wp2_with fail
  have HBx := box_write (.slice A1 n c1) (.int .i64 s) (.int .i64 a) (w := w1) (b := w.heap.size) ⟨⟨p0, p1, p2⟩, f0, f1, f2⟩
  have HBy2 := box_far (p := ⟨w.heap.size, 2, none⟩) (by simp) (.int .i64 a) (box_far (p := ⟨w.heap.size, 1, none⟩) (by simp) (.int .i64 s) (box_far (p := ⟨w.heap.size, 0, none⟩) (by simp) (.slice A1 n c1) (b := w.heap.size + 1) ⟨⟨q0, q1, q2⟩, g0, g1, g2⟩))
  have HOW : (((w1.setCell ⟨w.heap.size, 0, none⟩ (.slice A1 n c1)).setCell ⟨w.heap.size, 1, none⟩ (.int .i64 s)).setCell ⟨w.heap.size, 2, none⟩ (.int .i64 a)).ownsRow (w.heap.size + 2) 5 1 (.slice A1 n c1) n (l.map (Value.int .u8)) :=
    ownsRow_setCell_below (ownsRow_setCell_below (ownsRow_setCell_below HO.out (by simp) _) (by simp) _) (by simp) _
  have HBW : Below w.heap.size w (((w1.setCell ⟨w.heap.size, 0, none⟩ (.slice A1 n c1)).setCell ⟨w.heap.size, 1, none⟩ (.int .i64 s)).setCell ⟨w.heap.size, 2, none⟩ (.int .i64 a)) :=
    ((HB.out.setCell (by simp) _).setCell (by simp) _).setCell (by simp) _
  have hzW : w.heap.size + 2 ≤ (((w1.setCell ⟨w.heap.size, 0, none⟩ (.slice A1 n c1)).setCell ⟨w.heap.size, 1, none⟩ (.int .i64 s)).setCell ⟨w.heap.size, 2, none⟩ (.int .i64 a)).heap.size := by
    rw [size_setCell, size_setCell, size_setCell]; exact hz
  clear p0 p1 p2 f0 f1 f2 q0 q1 q2 g0 g1 g2
  generalize (((w1.setCell ⟨w.heap.size, 0, none⟩ (.slice A1 n c1)).setCell ⟨w.heap.size, 1, none⟩ (.int .i64 s)).setCell ⟨w.heap.size, 2, none⟩ (.int .i64 a)) = W at *
  obtain ⟨⟨p0, p1, p2⟩, f0, f1, f2⟩ := HBx
  obtain ⟨⟨q0, q1, q2⟩, g0, g1, g2⟩ := HBy2
  have HOH := Lib.hid HOW
  have HBH := Lib.hid HBW
  have HByW := Lib.hid (bytes_of_own HOW hby.out)
  clear HOW HBW
  go_region_held3 (fun w' => (w'.cell? ⟨w.heap.size, 0, none⟩ = some (.slice A1 n c1) ∧ w'.cell? ⟨w.heap.size, 1, none⟩ = some (.int .i64 s) ∧ w'.cell? ⟨w.heap.size, 2, none⟩ = some (.int .i64 a)) ∧ Below W.heap.size W w')
    (first | exact ⟨⟨p0, p1, p2⟩, (Below.refl _ _).drew⟩ | exact keep3 (by assumption) (by assumption))
    (first
      | (go_at_call 46; refine (rwhole_any _ _ _ _ _ (HByW.out.below (And.right (by assumption)) (Nat.le_refl _)) (by omega)).mono ?_; rintro e w2 ⟨rfl, hb⟩; rw [HT.out]))
  have hh : Below W.heap.size W w2 := And.right (by assumption)
  have HB2 := Lib.hid (HBH.out.trans (hh.mono (by omega)))
  have hz2 := hh.size
  have HO2 := Lib.hid (own_below HOH.out hh)
  obtain ⟨⟨r0, r1, r2⟩, k0, k1, k2⟩ := boxk hh (b := w.heap.size + 1) (by omega) ⟨⟨q0, q1, q2⟩, g0, g1, g2⟩
  obtain ⟨⟨s0, s1, s2⟩, m0, m1, m2⟩ := boxk hh (b := w.heap.size) (by omega) ⟨⟨p0, p1, p2⟩, f0, f1, f2⟩
  clear q0 q1 q2 g0 g1 g2 p0 p1 p2 f0 f1 f2 hh
  clear s0 s1 s2 m0 m1 m2
  go_wp2
  refine bodyPost_ret (v := .tuple #[.agg #[.slice none 0 0, .int .i64 0, .int .i64 0], .int .i64 13]) (by simp [results, Try.results21, go_sem, r0, r1, r2]) rfl (DiskPost.zero 13 ?_)
  exact (Below.setCell (Below.setCell (Below.setCell HB2.out (by simp) _) (by simp) _) (by simp) _)
end Go.Proofs.Ytioedljihlfcaaa

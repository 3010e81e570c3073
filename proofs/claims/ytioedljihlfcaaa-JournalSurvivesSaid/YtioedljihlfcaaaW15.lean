import Derived.Test.YtioedljihlfcaaaW14
import Derived.Test.YtioedljihlfcaaaW11

namespace Go.Proofs.Ytioedljihlfcaaa
open Go.RowKit

set_option maxHeartbeats 2000000 in
theorem ropen_3 (A : Option Addr) (n c : Nat) (l : List Int) (s a : Int) (w : World) (h : Bytes w A n c l) (hnl : n ≤ 1048576) (ha : a ≠ 0) :
    Calls Try.prog 27 #[.agg #[.slice A n c, .int .i64 s, .int .i64 a]] w (DiskPost w (l.take (total (frames l))) (total (frames l) : Int) a 0) := by
  have hB := ((h.alloc (.cells #[.slice A n c, .int .i64 s, .int .i64 a] 24)).alloc (.cells #[.slice none 0 0, .int .i64 0, .int .i64 0] 24))
  have HB0 := Lib.hid hB
  have HLl := Lib.hid h.len
  have hby := Lib.hid h.bytes
  have hle := h.le
  have hcap := h.cap
  have HC := Lib.hid (rcopy_any A n c l s a _ hB (by omega))
  have ha0 : (a == 0) = false := by simpa using ha
  have htl := total_le l.length l (Nat.le_refl _)
  have HLE := Lib.hid (show (l.take (total (frames l))).length = total (frames l) by simp; omega)
  have htn : total (frames l) ≤ n := by have := h.len; omega
  generalize hT : total (frames l) = T at *
  have HT := Lib.hid hT
  clear ha hT htl
  clear h hB
  go_enter Try.func27, Try.ntmps27
  go_wp2_with fail
  refine HC.out.mono ?_
  rintro e w1 ⟨A1, c1, rfl, hown, hb⟩
  obtain ⟨⟨⟨p0, p1, p2⟩, f0, f1, f2⟩, ⟨⟨q0, q1, q2⟩, g0, g1, g2⟩, hz, hbel⟩ := boxes hb
  have HB := Lib.hid hbel
  have HO := Lib.hid (own_mono (base' := w.heap.size + 2) hown (by simp))
  have HBy := Lib.hid (bytes_of_own hown hby.out)
  clear hb hbel hown
  go_wp2_with fail
  have HBx := box_write (.slice A1 n c1) (.int .i64 s) (.int .i64 a) (w := w1) (b := w.heap.size) ⟨⟨p0, p1, p2⟩, f0, f1, f2⟩
  have HBy2 := box_far (p := ⟨w.heap.size, 2, none⟩) (by simp) (.int .i64 a) (box_far (p := ⟨w.heap.size, 1, none⟩) (by simp) (.int .i64 s) (box_far (p := ⟨w.heap.size, 0, none⟩) (by simp) (.slice A1 n c1) (b := w.heap.size + 1) ⟨⟨q0, q1, q2⟩, g0, g1, g2⟩))
  have HOW : (((w1.setCell ⟨w.heap.size, 0, none⟩ (.slice A1 n c1)).setCell ⟨w.heap.size, 1, none⟩ (.int .i64 s)).setCell ⟨w.heap.size, 2, none⟩ (.int .i64 a)).ownsRow (w.heap.size + 2) 5 1 (.slice A1 n c1) n (l.map (Value.int .u8)) :=
    ownsRow_setCell_below (ownsRow_setCell_below (ownsRow_setCell_below HO.out (by simp) _) (by simp) _) (by simp) _
  have HBW : Below w.heap.size w (((w1.setCell ⟨w.heap.size, 0, none⟩ (.slice A1 n c1)).setCell ⟨w.heap.size, 1, none⟩ (.int .i64 s)).setCell ⟨w.heap.size, 2, none⟩ (.int .i64 a)) :=
    ((HB.out.setCell (by simp) _).setCell (by simp) _).setCell (by simp) _
  have hzW : w.heap.size + 2 ≤ (((w1.setCell ⟨w.heap.size, 0, none⟩ (.slice A1 n c1)).setCell ⟨w.heap.size, 1, none⟩ (.int .i64 s)).setCell ⟨w.heap.size, 2, none⟩ (.int .i64 a)).heap.size := by
    rw [size_setCell, size_setCell, size_setCell]; exact hz
  clear p0 p1 p2 f0 f1 f2 q0 q1 q2 g0 g1 g2
  generalize (((w1.setCell ⟨w.heap.size, 0, none⟩ (.slice A1 n c1)).setCell ⟨w.heap.size, 1, none⟩ (.int .i64 s)).setCell ⟨w.heap.size, 2, none⟩ (.int .i64 a)) = W at *
  obtain ⟨⟨p0, p1, p2⟩, f0, f1, f2⟩ := HBx
  obtain ⟨⟨q0, q1, q2⟩, g0, g1, g2⟩ := HBy2
  have HOH := Lib.hid HOW
  have HBH := Lib.hid HBW
  have HByW := Lib.hid (bytes_of_own HOW hby.out)
  clear HOW HBW
  have hW : ∀ W', W' = W.drew → Calls Try.prog 46 #[.slice A1 n c1] W' (fun e w' => e = .returned (.int .i64 (T : Int)) ∧ Below W.drew.heap.size W.drew w') := by
    rintro _ rfl
    have := rwhole_any A1 n c1 l W.drew (HByW.out.below (Below.refl _ _).drew (Nat.le_refl _)) (by omega)
    rw [WholePost_eq, HT.out] at this
    exact this
  have HWC := Lib.hid hW
  have hc1 := HByW.out.le
  have hTc : (T : Int) ≤ (c1 : Int) := by omega
  clear hW
  go_region_with (go_at_call 46; refine (HWC.out _ rfl).mono ?_; rintro e w3 ⟨rfl, hb3⟩; obtain ⟨⟨r0, r1, r2⟩, k0, k1, k2⟩ := boxk hb3 (b := w.heap.size + 1) (by show _ < W.heap.size; omega) ⟨⟨q0, q1, q2⟩, g0, g1, g2⟩; obtain ⟨⟨s0, s1, s2⟩, m0, m1, m2⟩ := boxk hb3 (b := w.heap.size) (by show _ < W.heap.size; omega) ⟨⟨p0, p1, p2⟩, f0, f1, f2⟩; have HO3 := Lib.hid (own_take (own_below (w := W.drew) HOH.out hb3) htn); have HB3 := Lib.hid (HBH.out.drew.trans (hb3.mono HBH.out.size)); clear hb3)
  all_goals
    clear HWC
    go_wp2
    refine bodyPost_ret (v := .tuple #[.agg #[.slice A1 T c1, .int .i64 (T : Int), .int .i64 a], .int .i64 0]) (by simp [results, Try.results27, go_sem, r0, r1, r2]) rfl ⟨_, _, by rw [HLE.out], ?_, ?_⟩
    · rw [HLE.out]
      exact own_mono (base := w.heap.size + 2) (ownsRow_setCell_below (ownsRow_setCell_below (ownsRow_setCell_below (ownsRow_setCell_below (ownsRow_setCell_below HO3.out (by simp) _) (by simp) _) (by simp) _) (by simp) _) (by simp) _) (by omega)
    · exact (Below.setCell (Below.setCell (Below.setCell (Below.setCell (Below.setCell HB3.out (by simp) _) (by simp) _) (by simp) _) (by simp) _) (by simp) _)
end Go.Proofs.Ytioedljihlfcaaa

import Derived.Test.YtioedljihlfcaaaW18
import Derived.Deep.RegionLaw
namespace Go.Proofs.Ytioedljihlfcaaa
open Go.RowKit

set_option maxHeartbeats 2000000 in
theorem rapp_7 (A : Option Addr) (n c : Nat) (l : List Int) (s a : Int) (A' : Option Addr) (n' c' : Nat) (b : List Int) (w : World) (h : Bytes w A n c l) (h' : Bytes w A' n' c' b) (hnl : n ≤ 1048576) (ham : -1 ≤ a ∧ a ≤ 1048576) (hn : n' ≤ 65535) (ha : a ≠ 0) (ht : total (frames l) = l.length) (hbig : n + (8 + n') ≤ 1048576) (hpos : 0 ≤ a) (hlt : a < 8 + (n' : Int)) :
    Calls Try.prog 21 #[.agg #[.slice A n c, .int .i64 s, .int .i64 a], .slice A' n' c'] w (DiskPost w (l ++ (frameL b).take a.toNat) s 0 19) := by
  have hB := ((h.alloc (.cells #[.slice A n c, .int .i64 s, .int .i64 a] 24)).alloc (.cells #[.slice none 0 0, .int .i64 0, .int .i64 0] 24))
  have HB0 := Lib.hid hB
  have HBb := Lib.hid h'
  have HLb := Lib.hid h'.len
  have HLl := Lib.hid h.len
  have hby := Lib.hid h.bytes
  have hle := h.le
  have hcap := h.cap
  have hle' := h'.le
  have hcap' := h'.cap
  have HC := Lib.hid (rcopy_any A n c l s a _ hB (by omega))
  have HBe := Lib.hid (show Below w.heap.size w ((w.alloc (.cells #[.slice A n c, .int .i64 s, .int .i64 a] 24)).alloc (.cells #[.slice none 0 0, .int .i64 0, .int .i64 0] 24)) from ((Below.refl _ _).alloc (Nat.le_refl _) _).alloc (by simp) _)
  obtain ⟨m, rfl⟩ := Int.eq_ofNat_of_zero_le hpos
  simp only [Int.toNat_natCast]
  have hneg : ¬ (m : Int) < 0 := by omega
  have hml : m < 8 + n' := by omega
  have hm0 : 0 < m := by omega
  have ha0 : ((m : Int) == 0) = false := by simpa using ha
  have hnn : ¬ (65535 : Int) < (n' : Int) := by omega
  have HT := Lib.hid (show ((total (frames l) : Nat) : Int) = (n : Int) by have := h.len; omega)
  have hnb : ((n : Int) != (n : Int)) = false := by simp
  have hF := Lib.hid (frameL_length b)
  have HFB := Lib.hid (show AllBytes (frameL b) from ((num4_bytes _ (by have := h'.len; omega) (by have := h'.len; omega)).append h'.bytes).append (num4_bytes _ (sumL_bd _).1 (sumL_bd _).2))
  obtain ⟨i0, hi, iz0, iz1, iz2⟩ := info_parts u8_info
  clear ha ht
  clear h h' hB
  go_enter Try.func21, Try.ntmps21
  go_wp2_with fail
  refine HC.out.mono ?_
  rintro e w1 ⟨A1, c1, rfl, hown, hb⟩
  obtain ⟨⟨⟨p0, p1, p2⟩, f0, f1, f2⟩, ⟨⟨q0, q1, q2⟩, g0, g1, g2⟩, hz, hbel⟩ := boxes hb
  have HB := Lib.hid hbel
  have HO := Lib.hid (own_mono (base' := w.heap.size + 2) hown (by simp))
  have HBy := Lib.hid (bytes_of_own hown hby.out)
  clear hb hbel hown
  go_wp2_with fail
  have HBx := box_write (.slice A1 n c1) (.int .i64 s) (.int .i64 (m : Int)) (w := w1) (b := w.heap.size) ⟨⟨p0, p1, p2⟩, f0, f1, f2⟩
  have HBy2 := box_far (p := ⟨w.heap.size, 2, none⟩) (by simp) (.int .i64 (m : Int)) (box_far (p := ⟨w.heap.size, 1, none⟩) (by simp) (.int .i64 s) (box_far (p := ⟨w.heap.size, 0, none⟩) (by simp) (.slice A1 n c1) (b := w.heap.size + 1) ⟨⟨q0, q1, q2⟩, g0, g1, g2⟩))
  have HOW : (((w1.setCell ⟨w.heap.size, 0, none⟩ (.slice A1 n c1)).setCell ⟨w.heap.size, 1, none⟩ (.int .i64 s)).setCell ⟨w.heap.size, 2, none⟩ (.int .i64 (m : Int))).ownsRow (w.heap.size + 2) 5 1 (.slice A1 n c1) n (l.map (Value.int .u8)) :=
    ownsRow_setCell_below (ownsRow_setCell_below (ownsRow_setCell_below HO.out (by simp) _) (by simp) _) (by simp) _
  have HBW : Below w.heap.size w (((w1.setCell ⟨w.heap.size, 0, none⟩ (.slice A1 n c1)).setCell ⟨w.heap.size, 1, none⟩ (.int .i64 s)).setCell ⟨w.heap.size, 2, none⟩ (.int .i64 (m : Int))) :=
    ((HB.out.setCell (by simp) _).setCell (by simp) _).setCell (by simp) _
  have hzW : w.heap.size + 2 ≤ (((w1.setCell ⟨w.heap.size, 0, none⟩ (.slice A1 n c1)).setCell ⟨w.heap.size, 1, none⟩ (.int .i64 s)).setCell ⟨w.heap.size, 2, none⟩ (.int .i64 (m : Int))).heap.size := by
    rw [size_setCell, size_setCell, size_setCell]; exact hz
  clear p0 p1 p2 f0 f1 f2 q0 q1 q2 g0 g1 g2
  generalize (((w1.setCell ⟨w.heap.size, 0, none⟩ (.slice A1 n c1)).setCell ⟨w.heap.size, 1, none⟩ (.int .i64 s)).setCell ⟨w.heap.size, 2, none⟩ (.int .i64 (m : Int))) = W at *
  obtain ⟨⟨p0, p1, p2⟩, f0, f1, f2⟩ := HBx
  obtain ⟨⟨q0, q1, q2⟩, g0, g1, g2⟩ := HBy2
  have HOH := Lib.hid HOW
  have HBH := Lib.hid HBW
  have HByW := Lib.hid (bytes_of_own HOW hby.out)
  clear HOW HBW
  go_region_held3 (fun w' => (w'.cell? ⟨w.heap.size, 0, none⟩ = some (.slice A1 n c1) ∧ w'.cell? ⟨w.heap.size, 1, none⟩ = some (.int .i64 s) ∧ w'.cell? ⟨w.heap.size, 2, none⟩ = some (.int .i64 (m : Int))) ∧ Below W.heap.size W w')
    (first | exact ⟨⟨p0, p1, p2⟩, (Below.refl _ _).drew⟩ | exact keep3 (by assumption) (by assumption))
    (first
      | (go_at_call 46; refine (rwhole_any _ _ _ _ _ (HByW.out.below (And.right (by assumption)) (Nat.le_refl _)) (by omega)).mono ?_; rintro e w2 ⟨rfl, hb⟩; rw [HT.out]))
  have hh : Below W.heap.size W w2 := And.right (by assumption)
  have HB2 := Lib.hid (HBH.out.trans (hh.mono (by omega)))
  have hz2 := hh.size
  have HO2 := Lib.hid (own_below HOH.out hh)
  obtain ⟨⟨r0, r1, r2⟩, k0, k1, k2⟩ := boxk hh (b := w.heap.size + 1) (by omega) ⟨⟨q0, q1, q2⟩, g0, g1, g2⟩
  obtain ⟨⟨s0, s1, s2⟩, m0, m1, m2⟩ := boxk hh (b := w.heap.size) (by omega) ⟨⟨p0, p1, p2⟩, f0, f1, f2⟩
  clear q0 q1 q2 g0 g1 g2 p0 p1 p2 f0 f1 f2 hh
  have HB2b := Lib.hid (HBb.out.below HB2.out (Nat.le_refl _))
  have HFr := Lib.hid (rframe_any _ _ _ _ _ HB2b.out hn)
  go_wp2_with fail
  refine HFr.out.mono ?_
  rintro e w3 ⟨A3, c3, rfl, hown3, hb3⟩
  obtain ⟨⟨q0, q1, q2⟩, g0, g1, g2⟩ := boxk hb3 (b := w.heap.size + 1) (by omega) ⟨⟨r0, r1, r2⟩, k0, k1, k2⟩
  obtain ⟨⟨p0, p1, p2⟩, f0, f1, f2⟩ := boxk hb3 (b := w.heap.size) (by omega) ⟨⟨s0, s1, s2⟩, m0, m1, m2⟩
  have HB3 := Lib.hid (HB2.out.trans (hb3.mono HB2.out.size))
  have hz3 := hb3.size
  have HO3 := Lib.hid (own_below HO2.out hb3)
  have HB3f := Lib.hid (bytes_of_own hown3 HFB.out)
  have HRf := Lib.hid (bytes_of_own (own_take hown3 (show m ≤ 8 + n' by omega)) (HFB.out.take m)).reads
  have hle3 := HB3f.out.le
  have hcap3 := HB3f.out.cap
  clear r0 r1 r2 k0 k1 k2 s0 s1 s2 m0 m1 m2 hown3 hb3
  have HN := Lib.hid (show (l ++ (frameL b).take m).length = n + m by rw [List.length_append, List.length_take, hF.out, HLl.out, HLb.out]; omega)
  have fm1 : (m : Int) ≤ (c3 : Int) := by omega
  have fm2 : (0 : Int) ≤ (m : Int) := by omega
  have fm3 : m ≤ c3 := by omega
  go_wp2_with fail
  go_region_law (refine step_append_any _ rfl (.tmp 61) (.tmp 65) 22 rfl (w.heap.size + 2) 5 i0 (.int .u8 0) 1 1 Try.underlying22 hi iz0 iz1 iz2 rfl (by decide) (.slice A1 n c1) n (l.map (Value.int .u8)) rfl HO3.out w3.heap.size A3 m c3 (((frameL b).take m).map (Value.int .u8)) rfl HRf.out (map_one _ _) (by unfold maxLen; omega) (by omega) (by show _ ≤ w3.heap.size; omega) ?_; intro v' w4 hown4 hg _; have hb4 : Below (w.heap.size + 2) w3.drew w4 := (Below.refl _ _).grown hg (by show _ ≤ w3.heap.size; omega) (fun k hk => (HO3.out.lt k hk).1); rw [← List.map_append] at hown4; obtain ⟨A4, c4, rfl⟩ := own_slice hown4; obtain ⟨⟨r0, r1, r2⟩, k0, k1, k2⟩ := boxk hb4 (b := w.heap.size + 1) (by omega) ⟨⟨q0, q1, q2⟩, g0, g1, g2⟩; obtain ⟨⟨s0, s1, s2⟩, m0, m1, m2⟩ := boxk hb4 (b := w.heap.size) (by omega) ⟨⟨p0, p1, p2⟩, f0, f1, f2⟩; have HB4 := Lib.hid (HB3.out.drew.trans (hb4.mono (by omega))); have HO4 := Lib.hid hown4; clear hown4 hg hb4)
  all_goals
    go_wp2
    refine bodyPost_ret (v := .tuple #[.agg #[.slice A4 (n + m) c4, .int .i64 s, .int .i64 0], .int .i64 19]) (by simp [results, Try.results21, go_sem, r0, r1, r2]) rfl ⟨_, _, by rw [HN.out], ?_, ?_⟩
    · rw [HN.out]
      exact own_mono (base := w.heap.size + 2) (ownsRow_setCell_below (ownsRow_setCell_below (ownsRow_setCell_below (ownsRow_setCell_below (ownsRow_setCell_below HO4.out (by simp) _) (by simp) _) (by simp) _) (by simp) _) (by simp) _) (by omega)
    · exact (Below.setCell (Below.setCell (Below.setCell (Below.setCell (Below.setCell HB4.out (by simp) _) (by simp) _) (by simp) _) (by simp) _) (by simp) _)
end Go.Proofs.Ytioedljihlfcaaa

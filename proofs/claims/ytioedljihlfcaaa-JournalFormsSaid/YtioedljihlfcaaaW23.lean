import Derived.Test.YtioedljihlfcaaaW22
import Derived.Deep.RegionHeld3

namespace Go.Proofs.Ytioedljihlfcaaa
open Go.RowKit

theorem SumPost.yes {w : World} {l : List Int} (h : l.length ≤ 1048576) {e : Ending} {w' : World} (hp : SumPost w l e w') : e = .returned (.tuple #[.int .i64 (sumL l), .int .i64 0]) ∧ w = w' := by
  unfold SumPost at hp; rwa [if_pos h] at hp
theorem SumPost.no {w : World} {l : List Int} (h : ¬ l.length ≤ 1048576) {e : Ending} {w' : World} (hp : SumPost w l e w') : e = .returned (.tuple #[.int .i64 0, .int .i64 4]) ∧ w = w' := by
  unfold SumPost at hp; rwa [if_neg h] at hp

set_option maxHeartbeats 2000000 in
theorem forms_1 (x : Int) (A : Option Addr) (n c : Nat) (l : List Int) (s a : Int) (A' : Option Addr) (n' c' : Nat) (b : List Int) (w : World) (h : Bytes w A n c l) (h' : Bytes w A' n' c' b) (hL : largeB n = true) :
    Calls Try.prog 3 #[.int .i64 x, .agg #[.slice A n c, .int .i64 s, .int .i64 a], .slice A' n' c'] w (SamePost w true) := by
  have hle := h.le
  have hcap := h.cap
  have hle' := h'.le
  have hcap' := h'.cap
  have HAW := Lib.hid (awake_any (w.alloc (.cells #[.slice A n c, .int .i64 s, .int .i64 a] 24)))
  have HX0 := Lib.hid (Bx.new w (.slice A n c) (.int .i64 s) (.int .i64 a))
  have HL := Lib.hid h.len
  have HL' := Lib.hid h'.len
  have HY := Lib.hid h
  have HY' := Lib.hid h'
  have HLa := Lib.hid hL
  clear hL
  clear h h'
  go_enter Try.func3, Try.ntmps3
  go_wp2_with fail
  refine HAW.out.mono ?_
  rintro e w1 ⟨rfl, hb1⟩
  have HB1 := Lib.hid (((Below.refl _ _).alloc (Nat.le_refl _) _).trans (hb1.mono (by simp)) : Below w.heap.size w w1)
  obtain ⟨⟨p0, p1, p2⟩, f0, f1, f2⟩ := HX0.out.next hb1
  have HX1 := Lib.hid (HX0.out.next hb1)
  clear hb1 HAW
  go_wp2_with fail
  refine (large_any A n c w1 (by omega)).mono ?_
  rintro e w2 ⟨rfl, rfl⟩
  rw [HLa.out]
  have HF := Lib.hid (show SamePost w true (.returned (.bool true)) w1 from ⟨rfl, HB1.out⟩)
  go_wp2
  go_ret
  exact HF.out

set_option maxHeartbeats 2000000 in
theorem forms_2 (x : Int) (A : Option Addr) (n c : Nat) (l : List Int) (s a : Int) (A' : Option Addr) (n' c' : Nat) (b : List Int) (w : World) (h : Bytes w A n c l) (h' : Bytes w A' n' c' b) (hL : largeB n = false) (hL' : largeB n' = true) :
    Calls Try.prog 3 #[.int .i64 x, .agg #[.slice A n c, .int .i64 s, .int .i64 a], .slice A' n' c'] w (SamePost w true) := by
  have hle := h.le
  have hcap := h.cap
  have hle' := h'.le
  have hcap' := h'.cap
  have HAW := Lib.hid (awake_any (w.alloc (.cells #[.slice A n c, .int .i64 s, .int .i64 a] 24)))
  have HX0 := Lib.hid (Bx.new w (.slice A n c) (.int .i64 s) (.int .i64 a))
  have HL := Lib.hid h.len
  have HL' := Lib.hid h'.len
  have HY := Lib.hid h
  have HY' := Lib.hid h'
  have HLa := Lib.hid hL
  have HLb := Lib.hid hL'
  clear hL hL'
  clear h h'
  go_enter Try.func3, Try.ntmps3
  go_wp2_with fail
  refine HAW.out.mono ?_
  rintro e w1 ⟨rfl, hb1⟩
  have HB1 := Lib.hid (((Below.refl _ _).alloc (Nat.le_refl _) _).trans (hb1.mono (by simp)) : Below w.heap.size w w1)
  obtain ⟨⟨p0, p1, p2⟩, f0, f1, f2⟩ := HX0.out.next hb1
  have HX1 := Lib.hid (HX0.out.next hb1)
  clear hb1 HAW
  go_wp2_with fail
  refine (large_any A n c w1 (by omega)).mono ?_
  rintro e w2 ⟨rfl, rfl⟩
  rw [HLa.out]
  go_wp2_with fail
  refine (large_any A' n' c' w1 (by omega)).mono ?_
  rintro e w2 ⟨rfl, rfl⟩
  rw [HLb.out]
  have HF := Lib.hid (show SamePost w true (.returned (.bool true)) w1 from ⟨rfl, HB1.out⟩)
  go_wp2
  go_ret
  exact HF.out

set_option maxHeartbeats 2000000 in
theorem forms_3 (x : Int) (A : Option Addr) (n c : Nat) (l : List Int) (s a : Int) (A' : Option Addr) (n' c' : Nat) (b : List Int) (w : World) (h : Bytes w A n c l) (h' : Bytes w A' n' c' b) (hL : largeB n = false) (hL' : largeB n' = false) (hn : n' ≤ 1048576) (hx0 : -1 ≤ x) (hx1 : x ≤ 1048576) :
    Calls Try.prog 3 #[.int .i64 x, .agg #[.slice A n c, .int .i64 s, .int .i64 a], .slice A' n' c'] w (SamePost w true) := by
  have hle := h.le
  have hcap := h.cap
  have hle' := h'.le
  have hcap' := h'.cap
  have HAW := Lib.hid (awake_any (w.alloc (.cells #[.slice A n c, .int .i64 s, .int .i64 a] 24)))
  have HX0 := Lib.hid (Bx.new w (.slice A n c) (.int .i64 s) (.int .i64 a))
  have HL := Lib.hid h.len
  have HL' := Lib.hid h'.len
  have HY := Lib.hid h
  have HY' := Lib.hid h'
  have HLa := Lib.hid hL
  have HLb := Lib.hid hL'
  clear hL hL'
  have vbn : (validB l s a != validB l s a) = false := by simp
  clear h h'
  go_enter Try.func3, Try.ntmps3
  go_wp2_with fail
  refine HAW.out.mono ?_
  rintro e w1 ⟨rfl, hb1⟩
  have HB1 := Lib.hid (((Below.refl _ _).alloc (Nat.le_refl _) _).trans (hb1.mono (by simp)) : Below w.heap.size w w1)
  obtain ⟨⟨p0, p1, p2⟩, f0, f1, f2⟩ := HX0.out.next hb1
  have HX1 := Lib.hid (HX0.out.next hb1)
  clear hb1 HAW
  go_wp2_with fail
  refine (large_any A n c w1 (by omega)).mono ?_
  rintro e w2 ⟨rfl, rfl⟩
  rw [HLa.out]
  go_wp2_with fail
  refine (large_any A' n' c' w1 (by omega)).mono ?_
  rintro e w2 ⟨rfl, rfl⟩
  rw [HLb.out]
  go_wp2_with fail
  refine (format_ok x w1 hx0 hx1).mono ?_
  intro e w3 hp
  obtain ⟨A3, c3, rfl, ho3, hb3⟩ := DPost.open' (d := ⟨[], 0, x, 0⟩) hp ⟨rfl, rfl, rfl, rfl⟩ rfl
  have hs1 := HB1.out.size
  have HB3 := Lib.hid (HB1.out.trans (hb3.mono hs1))
  have hs3 := HB3.out.size
  have HX3 := Lib.hid ((HX1.out.next hb3).alloc (.cells #[.slice A3 0 c3, .int .i64 0, .int .i64 x] 24))
  have HN3 := Lib.hid (Bx.new w3 (.slice A3 0 c3) (.int .i64 0) (.int .i64 x))
  have HO3 := Lib.hid ((bytes_of_own ho3 AllBytes.nil).alloc (.cells #[.slice A3 0 c3, .int .i64 0, .int .i64 x] 24))
  have HBE := Lib.hid (HB3.out.alloc hs3 (.cells #[.slice A3 0 c3, .int .i64 0, .int .i64 x] 24))
  have HSm := Lib.hid (jsum_any A' n' c' b _ (HY'.out.below HBE.out (Nat.le_refl _)))
  clear hp ho3 hb3 p0 p1 p2 f0 f1 f2
  go_wp2_with fail
  refine HSm.out.mono ?_
  intro e w4 hp
  obtain ⟨rfl, hw4⟩ := SumPost.yes (by rw [HL'.out]; omega) hp
  have hz3 : w3.heap.size < (w3.alloc (.cells #[.slice A3 0 c3, .int .i64 0, .int .i64 x] 24)).heap.size := by simp
  have hwz : w.heap.size < (w3.alloc (.cells #[.slice A3 0 c3, .int .i64 0, .int .i64 x] 24)).heap.size := by simp; omega
  rw [hw4] at HX3 HN3 HO3 HBE hz3 hwz
  clear hp HSm hw4
  obtain ⟨⟨p0, p1, p2⟩, -, -, -⟩ := HX3.out
  have HYw := Lib.hid (HY.out.below HBE.out (Nat.le_refl _))
  go_wp2_with fail
  go_region_held3 (fun w' => (w'.cell? ⟨w.heap.size, 0, none⟩ = some (.slice A n c) ∧ w'.cell? ⟨w.heap.size, 1, none⟩ = some (.int .i64 s) ∧ w'.cell? ⟨w.heap.size, 2, none⟩ = some (.int .i64 a)) ∧ Below w4.heap.size w4 w')
    (first | exact ⟨⟨p0, p1, p2⟩, (Below.refl _ _).drew⟩ | exact keep3 (by assumption) (by assumption))
    (first
      | (go_at_call 13; refine (valid_any _ _ _ _ _ _ _ (HYw.out.below (And.right (by assumption)) (Nat.le_refl _))).mono ?_; rintro e w5 ⟨rfl, hb⟩)
      | (go_at_call 14; refine (rvalid_any _ _ _ _ _ _ _ (HYw.out.below (And.right (by assumption)) (Nat.le_refl _))).mono ?_; rintro e w6 ⟨rfl, hb⟩))
  have hh : Below w4.heap.size w4 w6 := And.right (by assumption)
  have HB6 := Lib.hid (HBE.out.trans (hh.mono (by omega)))
  have HN6 := Lib.hid (HN3.out.next hh)
  have HO6 := Lib.hid (HO3.out.below hh (Nat.le_refl _))
  have hs6 := HB6.out.size
  obtain ⟨⟨q0, q1, q2⟩, -, -, -⟩ := HN6.out
  clear hh p0 p1 p2
  have HRS := Lib.hid (rsum_any A' n' c' b w6 (HY'.out.below HB6.out (Nat.le_refl _)))
  have hsn : (sumL b != sumL b) = false := by simp
  generalize sumL b = y at *
  generalize validB l s a = vb at *
  go_wp2_with fail
  refine HRS.out.mono ?_
  rintro e w7 ⟨rfl, rfl⟩
  have HSA := Lib.hid (same_any A3 none 0 c3 0 0 [] [] 0 x 0 x w6 HO6.out (Bytes.none_ _))
  have HVA := Lib.hid (show ∀ w7, Below w6.heap.size w6 w7 → _ from fun w7 hb => valid_any A3 0 c3 [] 0 x w7 (HO6.out.below hb (Nat.le_refl _)))
  have hv1 : sameB [] 0 x [] 0 x = true := by simp [sameB]
  have hv2 : validB [] 0 x = true := by simp [validB, hx0, hx1, frames, framesF, cum]
  have HV1 := Lib.hid hv1
  have HV2 := Lib.hid hv2
  have d1 : decide (x < -1) = false := decide_eq_false (by omega)
  have d2 : decide (1048576 < x) = false := decide_eq_false (by omega)
  clear hv1 hv2
  go_wp2_with fail
  refine HSA.out.mono ?_
  rintro e w7 ⟨rfl, hb7⟩
  rw [HV1.out]
  obtain ⟨⟨r0, r1, r2⟩, -, -, -⟩ := HN6.out.next hb7
  have HVB := Lib.hid (HVA.out w7 hb7)
  have HB7 := Lib.hid (HB6.out.trans (hb7.mono hs6))
  clear hb7 q0 q1 q2
  go_wp2_with fail
  refine HVB.out.mono ?_
  rintro e w8 ⟨rfl, hb8⟩
  rw [HV2.out]
  have HF := Lib.hid (show SamePost w true (.returned (.bool true)) w8 from ⟨rfl, HB7.out.trans (hb8.mono HB7.out.size)⟩)
  clear hb8 r0 r1 r2
  go_wp2
  go_ret
  exact HF.out

set_option maxHeartbeats 2000000 in
theorem forms_4 (x : Int) (A : Option Addr) (n c : Nat) (l : List Int) (s a : Int) (A' : Option Addr) (n' c' : Nat) (b : List Int) (w : World) (h : Bytes w A n c l) (h' : Bytes w A' n' c' b) (hL : largeB n = false) (hL' : largeB n' = false) (hn : n' ≤ 1048576) (hx : x < -1 ∨ 1048576 < x) :
    Calls Try.prog 3 #[.int .i64 x, .agg #[.slice A n c, .int .i64 s, .int .i64 a], .slice A' n' c'] w (SamePost w true) := by
  have hle := h.le
  have hcap := h.cap
  have hle' := h'.le
  have hcap' := h'.cap
  have HAW := Lib.hid (awake_any (w.alloc (.cells #[.slice A n c, .int .i64 s, .int .i64 a] 24)))
  have HX0 := Lib.hid (Bx.new w (.slice A n c) (.int .i64 s) (.int .i64 a))
  have HL := Lib.hid h.len
  have HL' := Lib.hid h'.len
  have HY := Lib.hid h
  have HY' := Lib.hid h'
  have HLa := Lib.hid hL
  have HLb := Lib.hid hL'
  clear hL hL'
  have vbn : (validB l s a != validB l s a) = false := by simp
  clear h h'
  go_enter Try.func3, Try.ntmps3
  go_wp2_with fail
  refine HAW.out.mono ?_
  rintro e w1 ⟨rfl, hb1⟩
  have HB1 := Lib.hid (((Below.refl _ _).alloc (Nat.le_refl _) _).trans (hb1.mono (by simp)) : Below w.heap.size w w1)
  obtain ⟨⟨p0, p1, p2⟩, f0, f1, f2⟩ := HX0.out.next hb1
  have HX1 := Lib.hid (HX0.out.next hb1)
  clear hb1 HAW
  go_wp2_with fail
  refine (large_any A n c w1 (by omega)).mono ?_
  rintro e w2 ⟨rfl, rfl⟩
  rw [HLa.out]
  go_wp2_with fail
  refine (large_any A' n' c' w1 (by omega)).mono ?_
  rintro e w2 ⟨rfl, rfl⟩
  rw [HLb.out]
  go_wp2_with fail
  refine (format_no x w1 hx).mono ?_
  intro e w3 hp
  obtain ⟨A3, c3, rfl, ho3, hb3⟩ := DPost.open' (d := ⟨[], 0, 0, 2⟩) hp ⟨rfl, rfl, rfl, rfl⟩ rfl
  have hs1 := HB1.out.size
  have HB3 := Lib.hid (HB1.out.trans (hb3.mono hs1))
  have hs3 := HB3.out.size
  have HX3 := Lib.hid ((HX1.out.next hb3).alloc (.cells #[.slice A3 0 c3, .int .i64 0, .int .i64 0] 24))
  have HN3 := Lib.hid (Bx.new w3 (.slice A3 0 c3) (.int .i64 0) (.int .i64 0))
  have HO3 := Lib.hid ((bytes_of_own ho3 AllBytes.nil).alloc (.cells #[.slice A3 0 c3, .int .i64 0, .int .i64 0] 24))
  have HBE := Lib.hid (HB3.out.alloc hs3 (.cells #[.slice A3 0 c3, .int .i64 0, .int .i64 0] 24))
  have HSm := Lib.hid (jsum_any A' n' c' b _ (HY'.out.below HBE.out (Nat.le_refl _)))
  clear hp ho3 hb3 p0 p1 p2 f0 f1 f2
  go_wp2_with fail
  refine HSm.out.mono ?_
  intro e w4 hp
  obtain ⟨rfl, hw4⟩ := SumPost.yes (by rw [HL'.out]; omega) hp
  have hz3 : w3.heap.size < (w3.alloc (.cells #[.slice A3 0 c3, .int .i64 0, .int .i64 0] 24)).heap.size := by simp
  have hwz : w.heap.size < (w3.alloc (.cells #[.slice A3 0 c3, .int .i64 0, .int .i64 0] 24)).heap.size := by simp; omega
  rw [hw4] at HX3 HN3 HO3 HBE hz3 hwz
  clear hp HSm hw4
  obtain ⟨⟨p0, p1, p2⟩, -, -, -⟩ := HX3.out
  have HYw := Lib.hid (HY.out.below HBE.out (Nat.le_refl _))
  go_wp2_with fail
  go_region_held3 (fun w' => (w'.cell? ⟨w.heap.size, 0, none⟩ = some (.slice A n c) ∧ w'.cell? ⟨w.heap.size, 1, none⟩ = some (.int .i64 s) ∧ w'.cell? ⟨w.heap.size, 2, none⟩ = some (.int .i64 a)) ∧ Below w4.heap.size w4 w')
    (first | exact ⟨⟨p0, p1, p2⟩, (Below.refl _ _).drew⟩ | exact keep3 (by assumption) (by assumption))
    (first
      | (go_at_call 13; refine (valid_any _ _ _ _ _ _ _ (HYw.out.below (And.right (by assumption)) (Nat.le_refl _))).mono ?_; rintro e w5 ⟨rfl, hb⟩)
      | (go_at_call 14; refine (rvalid_any _ _ _ _ _ _ _ (HYw.out.below (And.right (by assumption)) (Nat.le_refl _))).mono ?_; rintro e w6 ⟨rfl, hb⟩))
  have hh : Below w4.heap.size w4 w6 := And.right (by assumption)
  have HB6 := Lib.hid (HBE.out.trans (hh.mono (by omega)))
  have HN6 := Lib.hid (HN3.out.next hh)
  have HO6 := Lib.hid (HO3.out.below hh (Nat.le_refl _))
  have hs6 := HB6.out.size
  obtain ⟨⟨q0, q1, q2⟩, -, -, -⟩ := HN6.out
  clear hh p0 p1 p2
  have HRS := Lib.hid (rsum_any A' n' c' b w6 (HY'.out.below HB6.out (Nat.le_refl _)))
  have hsn : (sumL b != sumL b) = false := by simp
  generalize sumL b = y at *
  generalize validB l s a = vb at *
  go_wp2_with fail
  refine HRS.out.mono ?_
  rintro e w7 ⟨rfl, rfl⟩
  have HSA := Lib.hid (none_any A3 0 c3 [] 0 0 w6 HO6.out)
  have HV1 := Lib.hid (show noneB [] 0 0 = true by simp [noneB])
  rcases hx with hx | hx
  · have d1 : decide (x < -1) = true := decide_eq_true (by omega)
    go_wp2_with fail
    refine HSA.out.mono ?_
    rintro e w7 ⟨rfl, hb7⟩
    rw [HV1.out]
    have HF := Lib.hid (show SamePost w true (.returned (.bool true)) w7 from ⟨rfl, HB6.out.trans (hb7.mono hs6)⟩)
    clear hb7 q0 q1 q2
    go_wp2
    go_ret
    exact HF.out
  · have d1 : decide (x < -1) = false := decide_eq_false (by omega)
    have d2 : decide (1048576 < x) = true := decide_eq_true (by omega)
    go_wp2_with fail
    refine HSA.out.mono ?_
    rintro e w7 ⟨rfl, hb7⟩
    rw [HV1.out]
    have HF := Lib.hid (show SamePost w true (.returned (.bool true)) w7 from ⟨rfl, HB6.out.trans (hb7.mono hs6)⟩)
    clear hb7 q0 q1 q2
    go_wp2
    go_ret
    exact HF.out

set_option maxHeartbeats 2000000 in
theorem forms_5 (x : Int) (A : Option Addr) (n c : Nat) (l : List Int) (s a : Int) (A' : Option Addr) (n' c' : Nat) (b : List Int) (w : World) (h : Bytes w A n c l) (h' : Bytes w A' n' c' b) (hL : largeB n = false) (hL' : largeB n' = false) (hn : 1048576 < n') (hx0 : -1 ≤ x) (hx1 : x ≤ 1048576) :
    Calls Try.prog 3 #[.int .i64 x, .agg #[.slice A n c, .int .i64 s, .int .i64 a], .slice A' n' c'] w (SamePost w true) := by
  have hle := h.le
  have hcap := h.cap
  have hle' := h'.le
  have hcap' := h'.cap
  have HAW := Lib.hid (awake_any (w.alloc (.cells #[.slice A n c, .int .i64 s, .int .i64 a] 24)))
  have HX0 := Lib.hid (Bx.new w (.slice A n c) (.int .i64 s) (.int .i64 a))
  have HL := Lib.hid h.len
  have HL' := Lib.hid h'.len
  have HY := Lib.hid h
  have HY' := Lib.hid h'
  have HLa := Lib.hid hL
  have HLb := Lib.hid hL'
  clear hL hL'
  have vbn : (validB l s a != validB l s a) = false := by simp
  clear h h'
  go_enter Try.func3, Try.ntmps3
  go_wp2_with fail
  refine HAW.out.mono ?_
  rintro e w1 ⟨rfl, hb1⟩
  have HB1 := Lib.hid (((Below.refl _ _).alloc (Nat.le_refl _) _).trans (hb1.mono (by simp)) : Below w.heap.size w w1)
  obtain ⟨⟨p0, p1, p2⟩, f0, f1, f2⟩ := HX0.out.next hb1
  have HX1 := Lib.hid (HX0.out.next hb1)
  clear hb1 HAW
  go_wp2_with fail
  refine (large_any A n c w1 (by omega)).mono ?_
  rintro e w2 ⟨rfl, rfl⟩
  rw [HLa.out]
  go_wp2_with fail
  refine (large_any A' n' c' w1 (by omega)).mono ?_
  rintro e w2 ⟨rfl, rfl⟩
  rw [HLb.out]
  go_wp2_with fail
  refine (format_ok x w1 hx0 hx1).mono ?_
  intro e w3 hp
  obtain ⟨A3, c3, rfl, ho3, hb3⟩ := DPost.open' (d := ⟨[], 0, x, 0⟩) hp ⟨rfl, rfl, rfl, rfl⟩ rfl
  have hs1 := HB1.out.size
  have HB3 := Lib.hid (HB1.out.trans (hb3.mono hs1))
  have hs3 := HB3.out.size
  have HX3 := Lib.hid ((HX1.out.next hb3).alloc (.cells #[.slice A3 0 c3, .int .i64 0, .int .i64 x] 24))
  have HN3 := Lib.hid (Bx.new w3 (.slice A3 0 c3) (.int .i64 0) (.int .i64 x))
  have HO3 := Lib.hid ((bytes_of_own ho3 AllBytes.nil).alloc (.cells #[.slice A3 0 c3, .int .i64 0, .int .i64 x] 24))
  have HBE := Lib.hid (HB3.out.alloc hs3 (.cells #[.slice A3 0 c3, .int .i64 0, .int .i64 x] 24))
  have HSm := Lib.hid (jsum_any A' n' c' b _ (HY'.out.below HBE.out (Nat.le_refl _)))
  clear hp ho3 hb3 p0 p1 p2 f0 f1 f2
  go_wp2_with fail
  refine HSm.out.mono ?_
  intro e w4 hp
  obtain ⟨rfl, hw4⟩ := SumPost.no (by rw [HL'.out]; omega) hp
  have hz3 : w3.heap.size < (w3.alloc (.cells #[.slice A3 0 c3, .int .i64 0, .int .i64 x] 24)).heap.size := by simp
  have hwz : w.heap.size < (w3.alloc (.cells #[.slice A3 0 c3, .int .i64 0, .int .i64 x] 24)).heap.size := by simp; omega
  rw [hw4] at HX3 HN3 HO3 HBE hz3 hwz
  clear hp HSm hw4
  obtain ⟨⟨p0, p1, p2⟩, -, -, -⟩ := HX3.out
  have HYw := Lib.hid (HY.out.below HBE.out (Nat.le_refl _))
  go_wp2_with fail
  go_region_held3 (fun w' => (w'.cell? ⟨w.heap.size, 0, none⟩ = some (.slice A n c) ∧ w'.cell? ⟨w.heap.size, 1, none⟩ = some (.int .i64 s) ∧ w'.cell? ⟨w.heap.size, 2, none⟩ = some (.int .i64 a)) ∧ Below w4.heap.size w4 w')
    (first | exact ⟨⟨p0, p1, p2⟩, (Below.refl _ _).drew⟩ | exact keep3 (by assumption) (by assumption))
    (first
      | (go_at_call 13; refine (valid_any _ _ _ _ _ _ _ (HYw.out.below (And.right (by assumption)) (Nat.le_refl _))).mono ?_; rintro e w5 ⟨rfl, hb⟩)
      | (go_at_call 14; refine (rvalid_any _ _ _ _ _ _ _ (HYw.out.below (And.right (by assumption)) (Nat.le_refl _))).mono ?_; rintro e w6 ⟨rfl, hb⟩))
  have hh : Below w4.heap.size w4 w6 := And.right (by assumption)
  have HB6 := Lib.hid (HBE.out.trans (hh.mono (by omega)))
  have HN6 := Lib.hid (HN3.out.next hh)
  have HO6 := Lib.hid (HO3.out.below hh (Nat.le_refl _))
  have hs6 := HB6.out.size
  obtain ⟨⟨q0, q1, q2⟩, -, -, -⟩ := HN6.out
  clear hh p0 p1 p2
  generalize validB l s a = vb at *
  have HSA := Lib.hid (same_any A3 none 0 c3 0 0 [] [] 0 x 0 x w6 HO6.out (Bytes.none_ _))
  have HVA := Lib.hid (show ∀ w7, Below w6.heap.size w6 w7 → _ from fun w7 hb => valid_any A3 0 c3 [] 0 x w7 (HO6.out.below hb (Nat.le_refl _)))
  have hv1 : sameB [] 0 x [] 0 x = true := by simp [sameB]
  have hv2 : validB [] 0 x = true := by simp [validB, hx0, hx1, frames, framesF, cum]
  have HV1 := Lib.hid hv1
  have HV2 := Lib.hid hv2
  have d1 : decide (x < -1) = false := decide_eq_false (by omega)
  have d2 : decide (1048576 < x) = false := decide_eq_false (by omega)
  clear hv1 hv2
  go_wp2_with fail
  refine HSA.out.mono ?_
  rintro e w7 ⟨rfl, hb7⟩
  rw [HV1.out]
  obtain ⟨⟨r0, r1, r2⟩, -, -, -⟩ := HN6.out.next hb7
  have HVB := Lib.hid (HVA.out w7 hb7)
  have HB7 := Lib.hid (HB6.out.trans (hb7.mono hs6))
  clear hb7 q0 q1 q2
  go_wp2_with fail
  refine HVB.out.mono ?_
  rintro e w8 ⟨rfl, hb8⟩
  rw [HV2.out]
  have HF := Lib.hid (show SamePost w true (.returned (.bool true)) w8 from ⟨rfl, HB7.out.trans (hb8.mono HB7.out.size)⟩)
  clear hb8 r0 r1 r2
  go_wp2
  go_ret
  exact HF.out

set_option maxHeartbeats 2000000 in
theorem forms_6 (x : Int) (A : Option Addr) (n c : Nat) (l : List Int) (s a : Int) (A' : Option Addr) (n' c' : Nat) (b : List Int) (w : World) (h : Bytes w A n c l) (h' : Bytes w A' n' c' b) (hL : largeB n = false) (hL' : largeB n' = false) (hn : 1048576 < n') (hx : x < -1 ∨ 1048576 < x) :
    Calls Try.prog 3 #[.int .i64 x, .agg #[.slice A n c, .int .i64 s, .int .i64 a], .slice A' n' c'] w (SamePost w true) := by
  have hle := h.le
  have hcap := h.cap
  have hle' := h'.le
  have hcap' := h'.cap
  have HAW := Lib.hid (awake_any (w.alloc (.cells #[.slice A n c, .int .i64 s, .int .i64 a] 24)))
  have HX0 := Lib.hid (Bx.new w (.slice A n c) (.int .i64 s) (.int .i64 a))
  have HL := Lib.hid h.len
  have HL' := Lib.hid h'.len
  have HY := Lib.hid h
  have HY' := Lib.hid h'
  have HLa := Lib.hid hL
  have HLb := Lib.hid hL'
  clear hL hL'
  have vbn : (validB l s a != validB l s a) = false := by simp
  clear h h'
  go_enter Try.func3, Try.ntmps3
  go_wp2_with fail
  refine HAW.out.mono ?_
  rintro e w1 ⟨rfl, hb1⟩
  have HB1 := Lib.hid (((Below.refl _ _).alloc (Nat.le_refl _) _).trans (hb1.mono (by simp)) : Below w.heap.size w w1)
  obtain ⟨⟨p0, p1, p2⟩, f0, f1, f2⟩ := HX0.out.next hb1
  have HX1 := Lib.hid (HX0.out.next hb1)
  clear hb1 HAW
  go_wp2_with fail
  refine (large_any A n c w1 (by omega)).mono ?_
  rintro e w2 ⟨rfl, rfl⟩
  rw [HLa.out]
  go_wp2_with fail
  refine (large_any A' n' c' w1 (by omega)).mono ?_
  rintro e w2 ⟨rfl, rfl⟩
  rw [HLb.out]
  go_wp2_with fail
  refine (format_no x w1 hx).mono ?_
  intro e w3 hp
  obtain ⟨A3, c3, rfl, ho3, hb3⟩ := DPost.open' (d := ⟨[], 0, 0, 2⟩) hp ⟨rfl, rfl, rfl, rfl⟩ rfl
  have hs1 := HB1.out.size
  have HB3 := Lib.hid (HB1.out.trans (hb3.mono hs1))
  have hs3 := HB3.out.size
  have HX3 := Lib.hid ((HX1.out.next hb3).alloc (.cells #[.slice A3 0 c3, .int .i64 0, .int .i64 0] 24))
  have HN3 := Lib.hid (Bx.new w3 (.slice A3 0 c3) (.int .i64 0) (.int .i64 0))
  have HO3 := Lib.hid ((bytes_of_own ho3 AllBytes.nil).alloc (.cells #[.slice A3 0 c3, .int .i64 0, .int .i64 0] 24))
  have HBE := Lib.hid (HB3.out.alloc hs3 (.cells #[.slice A3 0 c3, .int .i64 0, .int .i64 0] 24))
  have HSm := Lib.hid (jsum_any A' n' c' b _ (HY'.out.below HBE.out (Nat.le_refl _)))
  clear hp ho3 hb3 p0 p1 p2 f0 f1 f2
  go_wp2_with fail
  refine HSm.out.mono ?_
  intro e w4 hp
  obtain ⟨rfl, hw4⟩ := SumPost.no (by rw [HL'.out]; omega) hp
  have hz3 : w3.heap.size < (w3.alloc (.cells #[.slice A3 0 c3, .int .i64 0, .int .i64 0] 24)).heap.size := by simp
  have hwz : w.heap.size < (w3.alloc (.cells #[.slice A3 0 c3, .int .i64 0, .int .i64 0] 24)).heap.size := by simp; omega
  rw [hw4] at HX3 HN3 HO3 HBE hz3 hwz
  clear hp HSm hw4
  obtain ⟨⟨p0, p1, p2⟩, -, -, -⟩ := HX3.out
  have HYw := Lib.hid (HY.out.below HBE.out (Nat.le_refl _))
  go_wp2_with fail
  go_region_held3 (fun w' => (w'.cell? ⟨w.heap.size, 0, none⟩ = some (.slice A n c) ∧ w'.cell? ⟨w.heap.size, 1, none⟩ = some (.int .i64 s) ∧ w'.cell? ⟨w.heap.size, 2, none⟩ = some (.int .i64 a)) ∧ Below w4.heap.size w4 w')
    (first | exact ⟨⟨p0, p1, p2⟩, (Below.refl _ _).drew⟩ | exact keep3 (by assumption) (by assumption))
    (first
      | (go_at_call 13; refine (valid_any _ _ _ _ _ _ _ (HYw.out.below (And.right (by assumption)) (Nat.le_refl _))).mono ?_; rintro e w5 ⟨rfl, hb⟩)
      | (go_at_call 14; refine (rvalid_any _ _ _ _ _ _ _ (HYw.out.below (And.right (by assumption)) (Nat.le_refl _))).mono ?_; rintro e w6 ⟨rfl, hb⟩))
  have hh : Below w4.heap.size w4 w6 := And.right (by assumption)
  have HB6 := Lib.hid (HBE.out.trans (hh.mono (by omega)))
  have HN6 := Lib.hid (HN3.out.next hh)
  have HO6 := Lib.hid (HO3.out.below hh (Nat.le_refl _))
  have hs6 := HB6.out.size
  obtain ⟨⟨q0, q1, q2⟩, -, -, -⟩ := HN6.out
  clear hh p0 p1 p2
  generalize validB l s a = vb at *
  have HSA := Lib.hid (none_any A3 0 c3 [] 0 0 w6 HO6.out)
  have HV1 := Lib.hid (show noneB [] 0 0 = true by simp [noneB])
  rcases hx with hx | hx
  · have d1 : decide (x < -1) = true := decide_eq_true (by omega)
    go_wp2_with fail
    refine HSA.out.mono ?_
    rintro e w7 ⟨rfl, hb7⟩
    rw [HV1.out]
    have HF := Lib.hid (show SamePost w true (.returned (.bool true)) w7 from ⟨rfl, HB6.out.trans (hb7.mono hs6)⟩)
    clear hb7 q0 q1 q2
    go_wp2
    go_ret
    exact HF.out
  · have d1 : decide (x < -1) = false := decide_eq_false (by omega)
    have d2 : decide (1048576 < x) = true := decide_eq_true (by omega)
    go_wp2_with fail
    refine HSA.out.mono ?_
    rintro e w7 ⟨rfl, hb7⟩
    rw [HV1.out]
    have HF := Lib.hid (show SamePost w true (.returned (.bool true)) w7 from ⟨rfl, HB6.out.trans (hb7.mono hs6)⟩)
    clear hb7 q0 q1 q2
    go_wp2
    go_ret
    exact HF.out

theorem forms_any (x : Int) (A : Option Addr) (n c : Nat) (l : List Int) (s a : Int) (A' : Option Addr) (n' c' : Nat) (b : List Int) (w : World) (h : Bytes w A n c l) (h' : Bytes w A' n' c' b) :
    Calls Try.prog 3 #[.int .i64 x, .agg #[.slice A n c, .int .i64 s, .int .i64 a], .slice A' n' c'] w (SamePost w true) := by
  cases hL : largeB n with
  | true => exact forms_1 x A n c l s a A' n' c' b w h h' hL
  | false =>
    cases hL' : largeB n' with
    | true => exact forms_2 x A n c l s a A' n' c' b w h h' hL hL'
    | false =>
      by_cases hn : n' ≤ 1048576
      · by_cases hx : -1 ≤ x ∧ x ≤ 1048576
        · exact forms_3 x A n c l s a A' n' c' b w h h' hL hL' hn hx.1 hx.2
        · exact forms_4 x A n c l s a A' n' c' b w h h' hL hL' hn (by omega)
      · by_cases hx : -1 ≤ x ∧ x ≤ 1048576
        · exact forms_5 x A n c l s a A' n' c' b w h h' hL hL' (by omega) hx.1 hx.2
        · exact forms_6 x A n c l s a A' n' c' b w h h' hL hL' (by omega) (by omega)
end Go.Proofs.Ytioedljihlfcaaa

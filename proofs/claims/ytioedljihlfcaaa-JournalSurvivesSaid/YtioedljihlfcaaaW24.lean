import Derived.Test.YtioedljihlfcaaaW22

namespace Go.Proofs.Ytioedljihlfcaaa
open Go.RowKit
theorem same_refl (l : List Int) (s a : Int) : sameB l s a l s a = true := by simp [sameB]

set_option maxHeartbeats 2000000 in
theorem apps_1 (A : Option Addr) (n c : Nat) (l : List Int) (s a : Int) (A' : Option Addr) (n' c' : Nat) (b : List Int) (w : World) (h : Bytes w A n c l) (h' : Bytes w A' n' c' b) (hL : largeB n = true) :
    Calls Try.prog 4 #[.agg #[.slice A n c, .int .i64 s, .int .i64 a], .slice A' n' c'] w (SamePost w true) := by
  have hle := h.le
  have hcap := h.cap
  have hle' := h'.le
  have hcap' := h'.cap
  have HAW := Lib.hid (awake_any (w.alloc (.cells #[.slice A n c, .int .i64 s, .int .i64 a] 24)))
  have HX0 := Lib.hid (Bx.new w (.slice A n c) (.int .i64 s) (.int .i64 a))
  have HL := Lib.hid h.len
  have HL' := Lib.hid h'.len
  have HY := Lib.hid h
  have HY' := Lib.hid h'
  have HLa := Lib.hid hL
  clear hL
  clear h h'
  go_enter Try.func4, Try.ntmps4
  go_wp2_with fail
  refine HAW.out.mono ?_
  rintro e w1 ⟨rfl, hb1⟩
  have HB1 := Lib.hid (((Below.refl _ _).alloc (Nat.le_refl _) _).trans (hb1.mono (by simp)) : Below w.heap.size w w1)
  obtain ⟨⟨p0, p1, p2⟩, f0, f1, f2⟩ := HX0.out.next hb1
  have HX1 := Lib.hid (HX0.out.next hb1)
  clear hb1 HAW
  go_wp2_with fail
  refine (large_any A n c w1 (by omega)).mono ?_
  rintro e w2 ⟨rfl, rfl⟩
  rw [HLa.out]
  have HF := Lib.hid (show SamePost w true (.returned (.bool true)) w1 from ⟨rfl, HB1.out⟩)
  go_wp2
  go_ret
  exact HF.out

set_option maxHeartbeats 2000000 in
theorem apps_2 (A : Option Addr) (n c : Nat) (l : List Int) (s a : Int) (A' : Option Addr) (n' c' : Nat) (b : List Int) (w : World) (h : Bytes w A n c l) (h' : Bytes w A' n' c' b) (hL : largeB n = false) (hL' : longB n' = true) :
    Calls Try.prog 4 #[.agg #[.slice A n c, .int .i64 s, .int .i64 a], .slice A' n' c'] w (SamePost w true) := by
  have hle := h.le
  have hcap := h.cap
  have hle' := h'.le
  have hcap' := h'.cap
  have HAW := Lib.hid (awake_any (w.alloc (.cells #[.slice A n c, .int .i64 s, .int .i64 a] 24)))
  have HX0 := Lib.hid (Bx.new w (.slice A n c) (.int .i64 s) (.int .i64 a))
  have HL := Lib.hid h.len
  have HL' := Lib.hid h'.len
  have HY := Lib.hid h
  have HY' := Lib.hid h'
  have HLa := Lib.hid hL
  have HLb := Lib.hid hL'
  clear hL hL'
  clear h h'
  go_enter Try.func4, Try.ntmps4
  go_wp2_with fail
  refine HAW.out.mono ?_
  rintro e w1 ⟨rfl, hb1⟩
  have HB1 := Lib.hid (((Below.refl _ _).alloc (Nat.le_refl _) _).trans (hb1.mono (by simp)) : Below w.heap.size w w1)
  obtain ⟨⟨p0, p1, p2⟩, f0, f1, f2⟩ := HX0.out.next hb1
  have HX1 := Lib.hid (HX0.out.next hb1)
  clear hb1 HAW
  go_wp2_with fail
  refine (large_any A n c w1 (by omega)).mono ?_
  rintro e w2 ⟨rfl, rfl⟩
  rw [HLa.out]
  go_wp2_with fail
  refine (long_any A' n' c' w1 (by omega)).mono ?_
  rintro e w2 ⟨rfl, rfl⟩
  rw [HLb.out]
  have HF := Lib.hid (show SamePost w true (.returned (.bool true)) w1 from ⟨rfl, HB1.out⟩)
  go_wp2
  go_ret
  exact HF.out

set_option maxHeartbeats 2000000 in
theorem apps_3 (A : Option Addr) (n c : Nat) (l : List Int) (s a : Int) (A' : Option Addr) (n' c' : Nat) (b : List Int) (w : World) (h : Bytes w A n c l) (h' : Bytes w A' n' c' b) (hL : largeB n = false) (hL' : longB n' = false) (hv : validB l s a = false) :
    Calls Try.prog 4 #[.agg #[.slice A n c, .int .i64 s, .int .i64 a], .slice A' n' c'] w (SamePost w true) := by
  have hle := h.le
  have hcap := h.cap
  have hle' := h'.le
  have hcap' := h'.cap
  have HAW := Lib.hid (awake_any (w.alloc (.cells #[.slice A n c, .int .i64 s, .int .i64 a] 24)))
  have HX0 := Lib.hid (Bx.new w (.slice A n c) (.int .i64 s) (.int .i64 a))
  have HL := Lib.hid h.len
  have HL' := Lib.hid h'.len
  have HY := Lib.hid h
  have HY' := Lib.hid h'
  have HLa := Lib.hid hL
  have HLb := Lib.hid hL'
  have HV := Lib.hid hv
  clear hL hL' hv
  clear h h'
  go_enter Try.func4, Try.ntmps4
  go_wp2_with fail
  refine HAW.out.mono ?_
  rintro e w1 ⟨rfl, hb1⟩
  have HB1 := Lib.hid (((Below.refl _ _).alloc (Nat.le_refl _) _).trans (hb1.mono (by simp)) : Below w.heap.size w w1)
  obtain ⟨⟨p0, p1, p2⟩, f0, f1, f2⟩ := HX0.out.next hb1
  have HX1 := Lib.hid (HX0.out.next hb1)
  clear hb1 HAW
  go_wp2_with fail
  refine (large_any A n c w1 (by omega)).mono ?_
  rintro e w2 ⟨rfl, rfl⟩
  rw [HLa.out]
  go_wp2_with fail
  refine (long_any A' n' c' w1 (by omega)).mono ?_
  rintro e w2 ⟨rfl, rfl⟩
  rw [HLb.out]
  have hs1 := HB1.out.size
  have hD1 := appendD_bytes (s := s) (a := a) HY.out.bytes HY'.out.bytes
  have hD2 := syncD_bytes (s := s) (a := a) HY.out.bytes
  have HAP := Lib.hid (append_any A n c l s a A' n' c' b w1 (HY.out.below HB1.out (Nat.le_refl _)) (HY'.out.below HB1.out (Nat.le_refl _)))
  have HSY := Lib.hid (fun W hb => sync_any A n c l s a W (HY.out.below (w' := W) hb (Nat.le_refl _)))
  have hd1 : appendD l s a b = ⟨[], 0, 0, 1⟩ := by rw [appendD, if_pos HV.out]
  have hd2 : syncD l s a = ⟨[], 0, 0, 1⟩ := by rw [syncD, if_pos HV.out]
  rw [hd1] at HAP hD1
  rw [hd2] at HSY hD2
  clear hd1 hd2
  generalize hdd : (⟨[], 0, 0, 1⟩ : DL) = d at *
  have HDD := Lib.hid hdd
  clear hdd
  go_wp2_with fail
  refine (HAP.out).mono ?_
  intro e w2 hp
  obtain ⟨A2, c2, rfl, hy2, _, hb⟩ := hp.open_ (hD1)
  have HBp := Lib.hid (HB1.out.trans (hb.mono (hs1)))
  have hs2 := HBp.out.size
  have hn2 := hb.size
  have HX1 := Lib.hid ((HX1.out.next hb).alloc (.cells #[.slice A2 d.l.length c2, .int .i64 d.s, .int .i64 d.a] 24))
  have HX2 := Lib.hid (Bx.new w2 (.slice A2 d.l.length c2) (.int .i64 d.s) (.int .i64 d.a))
  have HY2 := Lib.hid (hy2.alloc (.cells #[.slice A2 d.l.length c2, .int .i64 d.s, .int .i64 d.a] 24))
  have HB2 := Lib.hid (HBp.out.alloc hs2 (.cells #[.slice A2 d.l.length c2, .int .i64 d.s, .int .i64 d.a] 24))
  clear hb hp hy2 HBp p0 p1 p2 f0 f1 f2
  obtain ⟨⟨p0, p1, p2⟩, -, -, -⟩ := HX1.out
  have HS2 := Lib.hid (HSY.out _ HB2.out)
  have hz2 := HB2.out.size
  go_wp2_with fail
  refine (HS2.out).mono ?_
  intro e w3 hp
  obtain ⟨A3, c3, rfl, hy3, _, hb⟩ := hp.open_ (hD2)
  have HBp := Lib.hid (HB2.out.trans (hb.mono (hz2)))
  have hs3 := HBp.out.size
  have hn3 := hb.size
  have HX1 := Lib.hid ((HX1.out.next hb).alloc (.cells #[.slice A3 d.l.length c3, .int .i64 d.s, .int .i64 d.a] 24))
  have HX2 := Lib.hid ((HX2.out.next hb).alloc (.cells #[.slice A3 d.l.length c3, .int .i64 d.s, .int .i64 d.a] 24))
  have HX3 := Lib.hid (Bx.new w3 (.slice A3 d.l.length c3) (.int .i64 d.s) (.int .i64 d.a))
  have HY3 := Lib.hid (hy3.alloc (.cells #[.slice A3 d.l.length c3, .int .i64 d.s, .int .i64 d.a] 24))
  have HB3 := Lib.hid (HBp.out.alloc hs3 (.cells #[.slice A3 d.l.length c3, .int .i64 d.s, .int .i64 d.a] 24))
  have HY2' := Lib.hid ((HY2.out.below hb (Nat.le_refl _)).alloc (.cells #[.slice A3 d.l.length c3, .int .i64 d.s, .int .i64 d.a] 24))
  clear hb hp hy3 HBp p0 p1 p2
  obtain ⟨⟨p0, p1, p2⟩, -, -, -⟩ := HX1.out
  have hz3 := HB3.out.size
  go_wp2_with fail
  refine (rvalid_any _ _ _ _ _ _ _ (HY.out.below HB3.out (Nat.le_refl _))).mono ?_
  rintro e w4 ⟨rfl, hb⟩
  rw [HV.out]
  have HB4 := Lib.hid (HB3.out.trans (hb.mono hz3))
  have HX1 := Lib.hid (HX1.out.next hb)
  have HX2 := Lib.hid (HX2.out.next hb)
  have HX3 := Lib.hid (HX3.out.next hb)
  have HY2 := Lib.hid (HY2'.out.below hb (Nat.le_refl _))
  have HY3 := Lib.hid (HY3.out.below hb (Nat.le_refl _))
  have hz4 := HB4.out.size
  clear hb p0 p1 p2
  rw [← HDD.out] at HY2 HY3 HX2 HX3 ⊢
  obtain ⟨⟨p0, p1, p2⟩, -, -, -⟩ := HX2.out
  have HV1 := Lib.hid (show noneB [] 0 0 = true by simp [noneB])
  go_wp2_with fail
  refine (none_any _ _ _ _ _ _ _ HY2.out).mono ?_
  rintro e w5 ⟨rfl, hb⟩
  rw [HV1.out]
  have HB5 := Lib.hid (HB4.out.trans (hb.mono hz4))
  have HY3 := Lib.hid (HY3.out.below hb (Nat.le_refl _))
  have HX3 := Lib.hid (HX3.out.next hb)
  have hz5 := HB5.out.size
  clear hb p0 p1 p2
  obtain ⟨⟨p0, p1, p2⟩, -, -, -⟩ := HX3.out
  go_wp2_with fail
  refine (none_any _ _ _ _ _ _ _ HY3.out).mono ?_
  rintro e w6 ⟨rfl, hb⟩
  rw [HV1.out]
  have HF := Lib.hid (show SamePost w true (.returned (.bool true)) w6 from ⟨rfl, HB5.out.trans (hb.mono hz5)⟩)
  clear hb p0 p1 p2
  go_wp2
  go_ret
  exact HF.out

set_option maxHeartbeats 2000000 in
theorem apps_4 (A : Option Addr) (n c : Nat) (l : List Int) (s a : Int) (A' : Option Addr) (n' c' : Nat) (b : List Int) (w : World) (h : Bytes w A n c l) (h' : Bytes w A' n' c' b) (hL : largeB n = false) (hL' : longB n' = false) (hv : validB l s a = true) :
    Calls Try.prog 4 #[.agg #[.slice A n c, .int .i64 s, .int .i64 a], .slice A' n' c'] w (SamePost w true) := by
  have hle := h.le
  have hcap := h.cap
  have hle' := h'.le
  have hcap' := h'.cap
  have HAW := Lib.hid (awake_any (w.alloc (.cells #[.slice A n c, .int .i64 s, .int .i64 a] 24)))
  have HX0 := Lib.hid (Bx.new w (.slice A n c) (.int .i64 s) (.int .i64 a))
  have HL := Lib.hid h.len
  have HL' := Lib.hid h'.len
  have HY := Lib.hid h
  have HY' := Lib.hid h'
  have HLa := Lib.hid hL
  have HLb := Lib.hid hL'
  have HV := Lib.hid hv
  clear hL hL' hv
  clear h h'
  go_enter Try.func4, Try.ntmps4
  go_wp2_with fail
  refine HAW.out.mono ?_
  rintro e w1 ⟨rfl, hb1⟩
  have HB1 := Lib.hid (((Below.refl _ _).alloc (Nat.le_refl _) _).trans (hb1.mono (by simp)) : Below w.heap.size w w1)
  obtain ⟨⟨p0, p1, p2⟩, f0, f1, f2⟩ := HX0.out.next hb1
  have HX1 := Lib.hid (HX0.out.next hb1)
  clear hb1 HAW
  go_wp2_with fail
  refine (large_any A n c w1 (by omega)).mono ?_
  rintro e w2 ⟨rfl, rfl⟩
  rw [HLa.out]
  go_wp2_with fail
  refine (long_any A' n' c' w1 (by omega)).mono ?_
  rintro e w2 ⟨rfl, rfl⟩
  rw [HLb.out]
  have hs1 := HB1.out.size
  have hD1 := appendD_bytes (s := s) (a := a) HY.out.bytes HY'.out.bytes
  have hD2 := syncD_bytes (s := s) (a := a) HY.out.bytes
  have HAP := Lib.hid (append_any A n c l s a A' n' c' b w1 (HY.out.below HB1.out (Nat.le_refl _)) (HY'.out.below HB1.out (Nat.le_refl _)))
  have HRA := Lib.hid (fun W hb => rappend_any A n c l s a A' n' c' b W (HY.out.below (w' := W) hb (Nat.le_refl _)) (HY'.out.below hb (Nat.le_refl _)) HV.out)
  have HRS := Lib.hid (fun W hb => rsync_any A n c l s a W (HY.out.below (w' := W) hb (Nat.le_refl _)) HV.out)
  have HSY := Lib.hid (fun W hb => sync_any A n c l s a W (HY.out.below (w' := W) hb (Nat.le_refl _)))
  generalize appendD l s a b = d at *
  generalize syncD l s a = d' at *
  go_wp2_with fail
  refine (HAP.out).mono ?_
  intro e w2 hp
  obtain ⟨A2, c2, rfl, hy2, _, hb⟩ := hp.open_ (hD1)
  have HBp := Lib.hid (HB1.out.trans (hb.mono (hs1)))
  have hs2 := HBp.out.size
  have hn2 := hb.size
  have HX1 := Lib.hid ((HX1.out.next hb).alloc (.cells #[.slice A2 d.l.length c2, .int .i64 d.s, .int .i64 d.a] 24))
  have HX2 := Lib.hid (Bx.new w2 (.slice A2 d.l.length c2) (.int .i64 d.s) (.int .i64 d.a))
  have HY2 := Lib.hid (hy2.alloc (.cells #[.slice A2 d.l.length c2, .int .i64 d.s, .int .i64 d.a] 24))
  have HB2 := Lib.hid (HBp.out.alloc hs2 (.cells #[.slice A2 d.l.length c2, .int .i64 d.s, .int .i64 d.a] 24))
  clear hb hp hy2 HBp p0 p1 p2 f0 f1 f2
  obtain ⟨⟨p0, p1, p2⟩, -, -, -⟩ := HX1.out
  have HS2 := Lib.hid (HSY.out _ HB2.out)
  have hz2 := HB2.out.size
  go_wp2_with fail
  refine (HS2.out).mono ?_
  intro e w3 hp
  obtain ⟨A3, c3, rfl, hy3, _, hb⟩ := hp.open_ (hD2)
  have HBp := Lib.hid (HB2.out.trans (hb.mono (hz2)))
  have hs3 := HBp.out.size
  have hn3 := hb.size
  have HX1 := Lib.hid ((HX1.out.next hb).alloc (.cells #[.slice A3 d'.l.length c3, .int .i64 d'.s, .int .i64 d'.a] 24))
  have HX2 := Lib.hid ((HX2.out.next hb).alloc (.cells #[.slice A3 d'.l.length c3, .int .i64 d'.s, .int .i64 d'.a] 24))
  have HX3 := Lib.hid (Bx.new w3 (.slice A3 d'.l.length c3) (.int .i64 d'.s) (.int .i64 d'.a))
  have HY3 := Lib.hid (hy3.alloc (.cells #[.slice A3 d'.l.length c3, .int .i64 d'.s, .int .i64 d'.a] 24))
  have HB3 := Lib.hid (HBp.out.alloc hs3 (.cells #[.slice A3 d'.l.length c3, .int .i64 d'.s, .int .i64 d'.a] 24))
  have HY2' := Lib.hid ((HY2.out.below hb (Nat.le_refl _)).alloc (.cells #[.slice A3 d'.l.length c3, .int .i64 d'.s, .int .i64 d'.a] 24))
  clear hb hp hy3 HBp p0 p1 p2
  obtain ⟨⟨p0, p1, p2⟩, -, -, -⟩ := HX1.out
  have hz3 := HB3.out.size
  go_wp2_with fail
  refine (rvalid_any _ _ _ _ _ _ _ (HY.out.below HB3.out (Nat.le_refl _))).mono ?_
  rintro e w4 ⟨rfl, hb⟩
  rw [HV.out]
  have HB4 := Lib.hid (HB3.out.trans (hb.mono hz3))
  have HX1 := Lib.hid (HX1.out.next hb)
  have HX2 := Lib.hid (HX2.out.next hb)
  have HX3 := Lib.hid (HX3.out.next hb)
  have HY2 := Lib.hid (HY2'.out.below hb (Nat.le_refl _))
  have HY3 := Lib.hid (HY3.out.below hb (Nat.le_refl _))
  have hz4 := HB4.out.size
  clear hb p0 p1 p2
  obtain ⟨⟨p0, p1, p2⟩, -, -, -⟩ := HX1.out
  have HS4 := Lib.hid (HRA.out _ HB4.out)
  go_wp2_with fail
  refine (HS4.out).mono ?_
  intro e w5 hp
  obtain ⟨A5, c5, rfl, hy5, _, hb⟩ := hp.open_ (hD1)
  have HBp := Lib.hid (HB4.out.trans (hb.mono (hz4)))
  have hs5 := HBp.out.size
  have hn5 := hb.size
  have HX1 := Lib.hid ((HX1.out.next hb).alloc (.cells #[.slice A5 d.l.length c5, .int .i64 d.s, .int .i64 d.a] 24))
  have HX2 := Lib.hid ((HX2.out.next hb).alloc (.cells #[.slice A5 d.l.length c5, .int .i64 d.s, .int .i64 d.a] 24))
  have HX3 := Lib.hid ((HX3.out.next hb).alloc (.cells #[.slice A5 d.l.length c5, .int .i64 d.s, .int .i64 d.a] 24))
  have HX5 := Lib.hid (Bx.new w5 (.slice A5 d.l.length c5) (.int .i64 d.s) (.int .i64 d.a))
  have HY5 := Lib.hid (hy5.alloc (.cells #[.slice A5 d.l.length c5, .int .i64 d.s, .int .i64 d.a] 24))
  have HB5 := Lib.hid (HBp.out.alloc hs5 (.cells #[.slice A5 d.l.length c5, .int .i64 d.s, .int .i64 d.a] 24))
  have HY2 := Lib.hid ((HY2.out.below hb (Nat.le_refl _)).alloc (.cells #[.slice A5 d.l.length c5, .int .i64 d.s, .int .i64 d.a] 24))
  have HY3 := Lib.hid ((HY3.out.below hb (Nat.le_refl _)).alloc (.cells #[.slice A5 d.l.length c5, .int .i64 d.s, .int .i64 d.a] 24))
  clear hb hp hy5 HBp p0 p1 p2
  obtain ⟨⟨p0, p1, p2⟩, -, -, -⟩ := HX1.out
  have HS5 := Lib.hid (HRS.out _ HB5.out)
  have hz5 := HB5.out.size
  go_wp2_with fail
  refine (HS5.out).mono ?_
  intro e w6 hp
  obtain ⟨A6, c6, rfl, hy6, _, hb⟩ := hp.open_ (hD2)
  have HBp := Lib.hid (HB5.out.trans (hb.mono (hz5)))
  have hs6 := HBp.out.size
  have hn6 := hb.size
  have HX1 := Lib.hid ((HX1.out.next hb).alloc (.cells #[.slice A6 d'.l.length c6, .int .i64 d'.s, .int .i64 d'.a] 24))
  have HX2 := Lib.hid ((HX2.out.next hb).alloc (.cells #[.slice A6 d'.l.length c6, .int .i64 d'.s, .int .i64 d'.a] 24))
  have HX3 := Lib.hid ((HX3.out.next hb).alloc (.cells #[.slice A6 d'.l.length c6, .int .i64 d'.s, .int .i64 d'.a] 24))
  have HX5 := Lib.hid ((HX5.out.next hb).alloc (.cells #[.slice A6 d'.l.length c6, .int .i64 d'.s, .int .i64 d'.a] 24))
  have HX6 := Lib.hid (Bx.new w6 (.slice A6 d'.l.length c6) (.int .i64 d'.s) (.int .i64 d'.a))
  have HY6 := Lib.hid (hy6.alloc (.cells #[.slice A6 d'.l.length c6, .int .i64 d'.s, .int .i64 d'.a] 24))
  have HB6 := Lib.hid (HBp.out.alloc hs6 (.cells #[.slice A6 d'.l.length c6, .int .i64 d'.s, .int .i64 d'.a] 24))
  have HY2 := Lib.hid ((HY2.out.below hb (Nat.le_refl _)).alloc (.cells #[.slice A6 d'.l.length c6, .int .i64 d'.s, .int .i64 d'.a] 24))
  have HY3 := Lib.hid ((HY3.out.below hb (Nat.le_refl _)).alloc (.cells #[.slice A6 d'.l.length c6, .int .i64 d'.s, .int .i64 d'.a] 24))
  have HY5 := Lib.hid ((HY5.out.below hb (Nat.le_refl _)).alloc (.cells #[.slice A6 d'.l.length c6, .int .i64 d'.s, .int .i64 d'.a] 24))
  clear hb hp hy6 HBp p0 p1 p2
  obtain ⟨⟨p0, p1, p2⟩, -, -, -⟩ := HX2.out
  obtain ⟨⟨q0, q1, q2⟩, -, -, -⟩ := HX5.out
  have hz6 := HB6.out.size
  have HT1 := Lib.hid (same_refl d.l d.s d.a)
  have HT2 := Lib.hid (same_refl d'.l d'.s d'.a)
  have he1 : (d.e == d.e) = true := by simp
  have he2 : (d'.e == d'.e) = true := by simp
  go_wp2_with fail
  refine (same_any _ _ _ _ _ _ _ _ _ _ _ _ _ HY2.out HY5.out).mono ?_
  rintro e w7 ⟨rfl, hb⟩
  rw [HT1.out]
  have HB7 := Lib.hid (HB6.out.trans (hb.mono hz6))
  have HX3 := Lib.hid (HX3.out.next hb)
  have HX6 := Lib.hid (HX6.out.next hb)
  have HY3 := Lib.hid (HY3.out.below hb (Nat.le_refl _))
  have HY6 := Lib.hid (HY6.out.below hb (Nat.le_refl _))
  have hz7 := HB7.out.size
  clear hb p0 p1 p2 q0 q1 q2
  obtain ⟨⟨p0, p1, p2⟩, -, -, -⟩ := HX3.out
  obtain ⟨⟨q0, q1, q2⟩, -, -, -⟩ := HX6.out
  go_wp2_with fail
  refine (same_any _ _ _ _ _ _ _ _ _ _ _ _ _ HY3.out HY6.out).mono ?_
  rintro e w8 ⟨rfl, hb⟩
  rw [HT2.out]
  have HF := Lib.hid (show SamePost w true (.returned (.bool true)) w8 from ⟨rfl, HB7.out.trans (hb.mono hz7)⟩)
  clear hb p0 p1 p2 q0 q1 q2
  go_wp2
  go_ret
  exact HF.out

theorem apps_any (A : Option Addr) (n c : Nat) (l : List Int) (s a : Int) (A' : Option Addr) (n' c' : Nat) (b : List Int) (w : World) (h : Bytes w A n c l) (h' : Bytes w A' n' c' b) :
    Calls Try.prog 4 #[.agg #[.slice A n c, .int .i64 s, .int .i64 a], .slice A' n' c'] w (SamePost w true) := by
  cases hL : largeB n with
  | true => exact apps_1 A n c l s a A' n' c' b w h h' hL
  | false =>
    cases hL' : longB n' with
    | true => exact apps_2 A n c l s a A' n' c' b w h h' hL hL'
    | false =>
      cases hv : validB l s a with
      | false => exact apps_3 A n c l s a A' n' c' b w h h' hL hL' hv
      | true => exact apps_4 A n c l s a A' n' c' b w h h' hL hL' hv
end Go.Proofs.Ytioedljihlfcaaa

import Derived.Test.YtioedljihlfcaaaW24
import Derived.Test.YtioedljihlfcaaaW25

namespace Go.Proofs.Ytioedljihlfcaaa
open Go.RowKit
theorem framesF_bytes : ∀ (f : Nat) (l : List Int), AllBytes l → ∀ r ∈ framesF f l, AllBytes r
  | 0, _, _, r, hr => by simp [framesF] at hr
  | f + 1, l, h, r, hr => by
    simp only [framesF] at hr
    by_cases hok : frameOk l = true
    · rw [if_pos hok] at hr
      rcases List.mem_cons.1 hr with rfl | hr
      · exact (h.drop 4).take _
      · exact framesF_bytes f _ (h.drop _) r hr
    · rw [if_neg hok] at hr; simp at hr
theorem frames_bytes {l : List Int} (h : AllBytes l) : ∀ r ∈ frames l, AllBytes r := framesF_bytes _ l h

set_option maxHeartbeats 2000000 in
theorem opens_1 (A : Option Addr) (n c : Nat) (l : List Int) (s a : Int) (k : Int) (w : World) (h : Bytes w A n c l) (hL : largeB n = true) :
    Calls Try.prog 5 #[.agg #[.slice A n c, .int .i64 s, .int .i64 a], .int .i64 k] w (SamePost w true) := by
  have hle := h.le
  have hcap := h.cap
  have HAW := Lib.hid (awake_any (w.alloc (.cells #[.slice A n c, .int .i64 s, .int .i64 a] 24)))
  have HX0 := Lib.hid (Bx.new w (.slice A n c) (.int .i64 s) (.int .i64 a))
  have HL := Lib.hid h.len
  have HY := Lib.hid h
  have HLa := Lib.hid hL
  clear hL
  clear h
  go_enter Try.func5, Try.ntmps5
  go_wp2_with fail
  refine HAW.out.mono ?_
  rintro e w1 ⟨rfl, hb1⟩
  have HB1 := Lib.hid (((Below.refl _ _).alloc (Nat.le_refl _) _).trans (hb1.mono (by simp)) : Below w.heap.size w w1)
  obtain ⟨⟨p0, p1, p2⟩, f0, f1, f2⟩ := HX0.out.next hb1
  have HX1 := Lib.hid (HX0.out.next hb1)
  clear hb1 HAW
  go_wp2_with fail
  refine (large_any A n c w1 (by omega)).mono ?_
  rintro e w2 ⟨rfl, rfl⟩
  rw [HLa.out]
  have HF := Lib.hid (show SamePost w true (.returned (.bool true)) w1 from ⟨rfl, HB1.out⟩)
  go_wp2
  go_ret
  exact HF.out

set_option maxHeartbeats 2000000 in
theorem opens_3 (A : Option Addr) (n c : Nat) (l : List Int) (s a : Int) (k : Int) (w : World) (h : Bytes w A n c l) (hL : largeB n = false) (hv : validB l s a = false) :
    Calls Try.prog 5 #[.agg #[.slice A n c, .int .i64 s, .int .i64 a], .int .i64 k] w (SamePost w true) := by
  have hle := h.le
  have hcap := h.cap
  have HAW := Lib.hid (awake_any (w.alloc (.cells #[.slice A n c, .int .i64 s, .int .i64 a] 24)))
  have HX0 := Lib.hid (Bx.new w (.slice A n c) (.int .i64 s) (.int .i64 a))
  have HL := Lib.hid h.len
  have HY := Lib.hid h
  have HLa := Lib.hid hL
  have HV := Lib.hid hv
  clear hL hv
  clear h
  go_enter Try.func5, Try.ntmps5
  go_wp2_with fail
  refine HAW.out.mono ?_
  rintro e w1 ⟨rfl, hb1⟩
  have HB1 := Lib.hid (((Below.refl _ _).alloc (Nat.le_refl _) _).trans (hb1.mono (by simp)) : Below w.heap.size w w1)
  obtain ⟨⟨p0, p1, p2⟩, f0, f1, f2⟩ := HX0.out.next hb1
  have HX1 := Lib.hid (HX0.out.next hb1)
  clear hb1 HAW
  go_wp2_with fail
  refine (large_any A n c w1 (by omega)).mono ?_
  rintro e w2 ⟨rfl, rfl⟩
  rw [HLa.out]
  have hs1 := HB1.out.size
  have hD1 := crashD_bytes (s := s) (a := a) (k := k) HY.out.bytes
  have hD2 := openD_bytes (s := s) (a := a) HY.out.bytes
  have HAP := Lib.hid (crash_any A n c l s a k w1 (HY.out.below HB1.out (Nat.le_refl _)))
  have HSY := Lib.hid (fun W hb => open_any A n c l s a W (HY.out.below (w' := W) hb (Nat.le_refl _)))
  have hd1 : crashD l s a k = ⟨[], 0, 0, 1⟩ := by rw [crashD, if_pos HV.out]
  have hd2 : openD l s a = ⟨[], 0, 0, 1⟩ := by rw [openD, if_pos HV.out]
  rw [hd1] at HAP hD1
  rw [hd2] at HSY hD2
  clear hd1 hd2
  generalize hdd : (⟨[], 0, 0, 1⟩ : DL) = d at *
  have HDD := Lib.hid hdd
  clear hdd
  go_wp2_with fail
  refine (HAP.out).mono ?_
  intro e w2 hp
  obtain ⟨A2, c2, rfl, hy2, _, hb⟩ := hp.open_ (hD1)
  have HBp := Lib.hid (HB1.out.trans (hb.mono (hs1)))
  have hs2 := HBp.out.size
  have hn2 := hb.size
  have HX1 := Lib.hid ((HX1.out.next hb).alloc (.cells #[.slice A2 d.l.length c2, .int .i64 d.s, .int .i64 d.a] 24))
  have HX2 := Lib.hid (Bx.new w2 (.slice A2 d.l.length c2) (.int .i64 d.s) (.int .i64 d.a))
  have HY2 := Lib.hid (hy2.alloc (.cells #[.slice A2 d.l.length c2, .int .i64 d.s, .int .i64 d.a] 24))
  have HB2 := Lib.hid (HBp.out.alloc hs2 (.cells #[.slice A2 d.l.length c2, .int .i64 d.s, .int .i64 d.a] 24))
  clear hb hp hy2 HBp p0 p1 p2 f0 f1 f2
  obtain ⟨⟨p0, p1, p2⟩, -, -, -⟩ := HX1.out
  have HS2 := Lib.hid (HSY.out _ HB2.out)
  have hz2 := HB2.out.size
  go_wp2_with fail
  refine (HS2.out).mono ?_
  intro e w3 hp
  obtain ⟨A3, c3, rfl, hy3, _, hb⟩ := hp.open_ (hD2)
  have HBp := Lib.hid (HB2.out.trans (hb.mono (hz2)))
  have hs3 := HBp.out.size
  have hn3 := hb.size
  have HX1 := Lib.hid ((HX1.out.next hb).alloc (.cells #[.slice A3 d.l.length c3, .int .i64 d.s, .int .i64 d.a] 24))
  have HX2 := Lib.hid ((HX2.out.next hb).alloc (.cells #[.slice A3 d.l.length c3, .int .i64 d.s, .int .i64 d.a] 24))
  have HX3 := Lib.hid (Bx.new w3 (.slice A3 d.l.length c3) (.int .i64 d.s) (.int .i64 d.a))
  have HY3 := Lib.hid (hy3.alloc (.cells #[.slice A3 d.l.length c3, .int .i64 d.s, .int .i64 d.a] 24))
  have HB3 := Lib.hid (HBp.out.alloc hs3 (.cells #[.slice A3 d.l.length c3, .int .i64 d.s, .int .i64 d.a] 24))
  have HY2 := Lib.hid ((HY2.out.below hb (Nat.le_refl _)).alloc (.cells #[.slice A3 d.l.length c3, .int .i64 d.s, .int .i64 d.a] 24))
  clear hb hp hy3 HBp p0 p1 p2
  obtain ⟨⟨p0, p1, p2⟩, -, -, -⟩ := HX1.out
  have hz3 := HB3.out.size
  have HRC := Lib.hid (records_no A n c l s a _ (HY.out.below HB3.out (Nat.le_refl _)) HV.out)
  go_wp2_with fail
  refine HRC.out.mono ?_
  rintro e w4 ⟨rfl, hb⟩
  have HB4 := Lib.hid (HB3.out.trans (hb.mono hz3))
  have HX1 := Lib.hid (HX1.out.next hb)
  have HX2 := Lib.hid (HX2.out.next hb)
  have HX3 := Lib.hid (HX3.out.next hb)
  have HY2 := Lib.hid (HY2.out.below hb (Nat.le_refl _))
  have HY3 := Lib.hid (HY3.out.below hb (Nat.le_refl _))
  have hz4 := HB4.out.size
  clear hb p0 p1 p2 HRC
  obtain ⟨⟨p0, p1, p2⟩, -, -, -⟩ := HX1.out
  go_wp2_with fail
  refine (rvalid_any _ _ _ _ _ _ _ (HY.out.below HB4.out (Nat.le_refl _))).mono ?_
  rintro e w5 ⟨rfl, hb⟩
  rw [HV.out]
  have HB5 := Lib.hid (HB4.out.trans (hb.mono hz4))
  have HX1 := Lib.hid (HX1.out.next hb)
  have HX2 := Lib.hid (HX2.out.next hb)
  have HX3 := Lib.hid (HX3.out.next hb)
  have HY2 := Lib.hid (HY2.out.below hb (Nat.le_refl _))
  have HY3 := Lib.hid (HY3.out.below hb (Nat.le_refl _))
  have hz5 := HB5.out.size
  clear hb p0 p1 p2
  rw [← HDD.out] at HY2 HY3 HX2 HX3 ⊢
  obtain ⟨⟨p0, p1, p2⟩, -, -, -⟩ := HX2.out
  have HV1 := Lib.hid (show noneB [] 0 0 = true by simp [noneB])
  go_wp2_with fail
  refine (none_any _ _ _ _ _ _ _ HY2.out).mono ?_
  rintro e w6 ⟨rfl, hb⟩
  rw [HV1.out]
  have HB6 := Lib.hid (HB5.out.trans (hb.mono hz5))
  have HY3 := Lib.hid (HY3.out.below hb (Nat.le_refl _))
  have HX3 := Lib.hid (HX3.out.next hb)
  have hz6 := HB6.out.size
  clear hb p0 p1 p2
  obtain ⟨⟨p0, p1, p2⟩, -, -, -⟩ := HX3.out
  go_wp2_with fail
  refine (none_any _ _ _ _ _ _ _ HY3.out).mono ?_
  rintro e w7 ⟨rfl, hb⟩
  rw [HV1.out]
  have HF := Lib.hid (show SamePost w true (.returned (.bool true)) w7 from ⟨rfl, HB6.out.trans (hb.mono hz6)⟩)
  clear hb p0 p1 p2
  go_wp2
  go_ret
  exact HF.out

set_option maxHeartbeats 2000000 in
theorem opens_4 (A : Option Addr) (n c : Nat) (l : List Int) (s a : Int) (k : Int) (w : World) (h : Bytes w A n c l) (hL : largeB n = false) (hv : validB l s a = true) :
    Calls Try.prog 5 #[.agg #[.slice A n c, .int .i64 s, .int .i64 a], .int .i64 k] w (SamePost w true) := by
  have hle := h.le
  have hcap := h.cap
  have HAW := Lib.hid (awake_any (w.alloc (.cells #[.slice A n c, .int .i64 s, .int .i64 a] 24)))
  have HX0 := Lib.hid (Bx.new w (.slice A n c) (.int .i64 s) (.int .i64 a))
  have HL := Lib.hid h.len
  have HY := Lib.hid h
  have HLa := Lib.hid hL
  have HV := Lib.hid hv
  clear hL hv
  clear h
  go_enter Try.func5, Try.ntmps5
  go_wp2_with fail
  refine HAW.out.mono ?_
  rintro e w1 ⟨rfl, hb1⟩
  have HB1 := Lib.hid (((Below.refl _ _).alloc (Nat.le_refl _) _).trans (hb1.mono (by simp)) : Below w.heap.size w w1)
  obtain ⟨⟨p0, p1, p2⟩, f0, f1, f2⟩ := HX0.out.next hb1
  have HX1 := Lib.hid (HX0.out.next hb1)
  clear hb1 HAW
  go_wp2_with fail
  refine (large_any A n c w1 (by omega)).mono ?_
  rintro e w2 ⟨rfl, rfl⟩
  rw [HLa.out]
  have hs1 := HB1.out.size
  have hD1 := crashD_bytes (s := s) (a := a) (k := k) HY.out.bytes
  have hD2 := openD_bytes (s := s) (a := a) HY.out.bytes
  have HAP := Lib.hid (crash_any A n c l s a k w1 (HY.out.below HB1.out (Nat.le_refl _)))
  have HSY := Lib.hid (fun W hb => open_any A n c l s a W (HY.out.below (w' := W) hb (Nat.le_refl _)))
  have HRA := Lib.hid (fun W hb => rcrash_any A n c l s a k W (HY.out.below (w' := W) hb (Nat.le_refl _)) HV.out)
  have HRS := Lib.hid (fun W hb => ropen_any A n c l s a W (HY.out.below (w' := W) hb (Nat.le_refl _)) HV.out)
  generalize crashD l s a k = d at *
  generalize openD l s a = d' at *
  go_wp2_with fail
  refine (HAP.out).mono ?_
  intro e w2 hp
  obtain ⟨A2, c2, rfl, hy2, _, hb⟩ := hp.open_ (hD1)
  have HBp := Lib.hid (HB1.out.trans (hb.mono (hs1)))
  have hs2 := HBp.out.size
  have hn2 := hb.size
  have HX1 := Lib.hid ((HX1.out.next hb).alloc (.cells #[.slice A2 d.l.length c2, .int .i64 d.s, .int .i64 d.a] 24))
  have HX2 := Lib.hid (Bx.new w2 (.slice A2 d.l.length c2) (.int .i64 d.s) (.int .i64 d.a))
  have HY2 := Lib.hid (hy2.alloc (.cells #[.slice A2 d.l.length c2, .int .i64 d.s, .int .i64 d.a] 24))
  have HB2 := Lib.hid (HBp.out.alloc hs2 (.cells #[.slice A2 d.l.length c2, .int .i64 d.s, .int .i64 d.a] 24))
  clear hb hp hy2 HBp p0 p1 p2 f0 f1 f2
  obtain ⟨⟨p0, p1, p2⟩, -, -, -⟩ := HX1.out
  have HS2 := Lib.hid (HSY.out _ HB2.out)
  have hz2 := HB2.out.size
  go_wp2_with fail
  refine (HS2.out).mono ?_
  intro e w3 hp
  obtain ⟨A3, c3, rfl, hy3, _, hb⟩ := hp.open_ (hD2)
  have HBp := Lib.hid (HB2.out.trans (hb.mono (hz2)))
  have hs3 := HBp.out.size
  have hn3 := hb.size
  have HX1 := Lib.hid ((HX1.out.next hb).alloc (.cells #[.slice A3 d'.l.length c3, .int .i64 d'.s, .int .i64 d'.a] 24))
  have HX2 := Lib.hid ((HX2.out.next hb).alloc (.cells #[.slice A3 d'.l.length c3, .int .i64 d'.s, .int .i64 d'.a] 24))
  have HX3 := Lib.hid (Bx.new w3 (.slice A3 d'.l.length c3) (.int .i64 d'.s) (.int .i64 d'.a))
  have HY3 := Lib.hid (hy3.alloc (.cells #[.slice A3 d'.l.length c3, .int .i64 d'.s, .int .i64 d'.a] 24))
  have HB3 := Lib.hid (HBp.out.alloc hs3 (.cells #[.slice A3 d'.l.length c3, .int .i64 d'.s, .int .i64 d'.a] 24))
  have HY2 := Lib.hid ((HY2.out.below hb (Nat.le_refl _)).alloc (.cells #[.slice A3 d'.l.length c3, .int .i64 d'.s, .int .i64 d'.a] 24))
  clear hb hp hy3 HBp p0 p1 p2
  obtain ⟨⟨p0, p1, p2⟩, -, -, -⟩ := HX1.out
  have hz3 := HB3.out.size
  have HRC := Lib.hid (records_yes A n c l s a _ (HY.out.below HB3.out (Nat.le_refl _)) HV.out)
  go_wp2_with fail
  refine HRC.out.mono ?_
  intro e w4 hp
  obtain ⟨A4, c4, vs4, rfl, ho4, hr4, hb⟩ := hp
  have HR4 := Lib.hid (rows_of_own ho4 hr4 rfl (frames_bytes HY.out.bytes))
  have HB4 := Lib.hid (HB3.out.trans (hb.mono hz3))
  clear ho4 hr4
  have HX1 := Lib.hid (HX1.out.next hb)
  have HX2 := Lib.hid (HX2.out.next hb)
  have HX3 := Lib.hid (HX3.out.next hb)
  have HY2 := Lib.hid (HY2.out.below hb (Nat.le_refl _))
  have HY3 := Lib.hid (HY3.out.below hb (Nat.le_refl _))
  have hz4 := HB4.out.size
  clear hb p0 p1 p2 HRC
  obtain ⟨⟨p0, p1, p2⟩, -, -, -⟩ := HX1.out
  go_wp2_with fail
  refine (rvalid_any _ _ _ _ _ _ _ (HY.out.below HB4.out (Nat.le_refl _))).mono ?_
  rintro e w5 ⟨rfl, hb⟩
  rw [HV.out]
  have HB5 := Lib.hid (HB4.out.trans (hb.mono hz4))
  have HX1 := Lib.hid (HX1.out.next hb)
  have HX2 := Lib.hid (HX2.out.next hb)
  have HX3 := Lib.hid (HX3.out.next hb)
  have HY2 := Lib.hid (HY2.out.below hb (Nat.le_refl _))
  have HY3 := Lib.hid (HY3.out.below hb (Nat.le_refl _))
  have HR4 := Lib.hid (HR4.out.below hb (Nat.le_refl _))
  have hz5 := HB5.out.size
  clear hb p0 p1 p2
  obtain ⟨⟨p0, p1, p2⟩, -, -, -⟩ := HX1.out
  have HS5 := Lib.hid (HRA.out _ HB5.out)
  go_wp2_with fail
  refine (HS5.out).mono ?_
  intro e w6 hp
  obtain ⟨A6, c6, rfl, hy6, _, hb⟩ := hp.open_ (hD1)
  have HBp := Lib.hid (HB5.out.trans (hb.mono (hz5)))
  have hs6 := HBp.out.size
  have hn6 := hb.size
  have HX1 := Lib.hid ((HX1.out.next hb).alloc (.cells #[.slice A6 d.l.length c6, .int .i64 d.s, .int .i64 d.a] 24))
  have HX2 := Lib.hid ((HX2.out.next hb).alloc (.cells #[.slice A6 d.l.length c6, .int .i64 d.s, .int .i64 d.a] 24))
  have HX3 := Lib.hid ((HX3.out.next hb).alloc (.cells #[.slice A6 d.l.length c6, .int .i64 d.s, .int .i64 d.a] 24))
  have HX6 := Lib.hid (Bx.new w6 (.slice A6 d.l.length c6) (.int .i64 d.s) (.int .i64 d.a))
  have HY6 := Lib.hid (hy6.alloc (.cells #[.slice A6 d.l.length c6, .int .i64 d.s, .int .i64 d.a] 24))
  have HB6 := Lib.hid (HBp.out.alloc hs6 (.cells #[.slice A6 d.l.length c6, .int .i64 d.s, .int .i64 d.a] 24))
  have HY2 := Lib.hid ((HY2.out.below hb (Nat.le_refl _)).alloc (.cells #[.slice A6 d.l.length c6, .int .i64 d.s, .int .i64 d.a] 24))
  have HY3 := Lib.hid ((HY3.out.below hb (Nat.le_refl _)).alloc (.cells #[.slice A6 d.l.length c6, .int .i64 d.s, .int .i64 d.a] 24))
  have HR4 := Lib.hid ((HR4.out.below hb (Nat.le_refl _)).below ((Below.refl _ _).alloc (Nat.le_refl _) (.cells #[.slice A6 d.l.length c6, .int .i64 d.s, .int .i64 d.a] 24)) (Nat.le_refl _))
  clear hb hp hy6 HBp p0 p1 p2
  obtain ⟨⟨p0, p1, p2⟩, -, -, -⟩ := HX1.out
  have HS6 := Lib.hid (HRS.out _ HB6.out)
  have hz6 := HB6.out.size
  go_wp2_with fail
  refine (HS6.out).mono ?_
  intro e w7 hp
  obtain ⟨A7, c7, rfl, hy7, _, hb⟩ := hp.open_ (hD2)
  have HBp := Lib.hid (HB6.out.trans (hb.mono (hz6)))
  have hs7 := HBp.out.size
  have hn7 := hb.size
  have HX1 := Lib.hid ((HX1.out.next hb).alloc (.cells #[.slice A7 d'.l.length c7, .int .i64 d'.s, .int .i64 d'.a] 24))
  have HX2 := Lib.hid ((HX2.out.next hb).alloc (.cells #[.slice A7 d'.l.length c7, .int .i64 d'.s, .int .i64 d'.a] 24))
  have HX3 := Lib.hid ((HX3.out.next hb).alloc (.cells #[.slice A7 d'.l.length c7, .int .i64 d'.s, .int .i64 d'.a] 24))
  have HX6 := Lib.hid ((HX6.out.next hb).alloc (.cells #[.slice A7 d'.l.length c7, .int .i64 d'.s, .int .i64 d'.a] 24))
  have HX7 := Lib.hid (Bx.new w7 (.slice A7 d'.l.length c7) (.int .i64 d'.s) (.int .i64 d'.a))
  have HY7 := Lib.hid (hy7.alloc (.cells #[.slice A7 d'.l.length c7, .int .i64 d'.s, .int .i64 d'.a] 24))
  have HB7 := Lib.hid (HBp.out.alloc hs7 (.cells #[.slice A7 d'.l.length c7, .int .i64 d'.s, .int .i64 d'.a] 24))
  have HY2 := Lib.hid ((HY2.out.below hb (Nat.le_refl _)).alloc (.cells #[.slice A7 d'.l.length c7, .int .i64 d'.s, .int .i64 d'.a] 24))
  have HY3 := Lib.hid ((HY3.out.below hb (Nat.le_refl _)).alloc (.cells #[.slice A7 d'.l.length c7, .int .i64 d'.s, .int .i64 d'.a] 24))
  have HY6 := Lib.hid ((HY6.out.below hb (Nat.le_refl _)).alloc (.cells #[.slice A7 d'.l.length c7, .int .i64 d'.s, .int .i64 d'.a] 24))
  have HR4 := Lib.hid ((HR4.out.below hb (Nat.le_refl _)).below ((Below.refl _ _).alloc (Nat.le_refl _) (.cells #[.slice A7 d'.l.length c7, .int .i64 d'.s, .int .i64 d'.a] 24)) (Nat.le_refl _))
  clear hb hp hy7 HBp p0 p1 p2
  obtain ⟨⟨p0, p1, p2⟩, -, -, -⟩ := HX2.out
  obtain ⟨⟨q0, q1, q2⟩, -, -, -⟩ := HX6.out
  have hz7 := HB7.out.size
  have HT1 := Lib.hid (same_refl d.l d.s d.a)
  have HT2 := Lib.hid (same_refl d'.l d'.s d'.a)
  have he1 : (d.e == d.e) = true := by simp
  have he2 : (d'.e == d'.e) = true := by simp
  go_wp2_with fail
  refine (same_any _ _ _ _ _ _ _ _ _ _ _ _ _ HY2.out HY6.out).mono ?_
  rintro e w8 ⟨rfl, hb⟩
  rw [HT1.out]
  have HB8 := Lib.hid (HB7.out.trans (hb.mono hz7))
  have HX1 := Lib.hid (HX1.out.next hb)
  have HX3 := Lib.hid (HX3.out.next hb)
  have HX7 := Lib.hid (HX7.out.next hb)
  have HY3 := Lib.hid (HY3.out.below hb (Nat.le_refl _))
  have HY7 := Lib.hid (HY7.out.below hb (Nat.le_refl _))
  have HR4 := Lib.hid (HR4.out.below hb (Nat.le_refl _))
  have hz8 := HB8.out.size
  clear hb p0 p1 p2 q0 q1 q2
  obtain ⟨⟨p0, p1, p2⟩, -, -, -⟩ := HX3.out
  obtain ⟨⟨q0, q1, q2⟩, -, -, -⟩ := HX7.out
  go_wp2_with fail
  refine (same_any _ _ _ _ _ _ _ _ _ _ _ _ _ HY3.out HY7.out).mono ?_
  rintro e w9 ⟨rfl, hb⟩
  rw [HT2.out]
  have HB9 := Lib.hid (HB8.out.trans (hb.mono hz8))
  have HX1 := Lib.hid (HX1.out.next hb)
  have HR4 := Lib.hid (HR4.out.below hb (Nat.le_refl _))
  have hz9 := HB9.out.size
  have HRR := Lib.hid (rrecords_any A n c l w9 (HY.out.below HB9.out (Nat.le_refl _)) (by have := (vb_true HV.out).1; have := HL.out; omega))
  clear hb p0 p1 p2 q0 q1 q2
  obtain ⟨⟨p0, p1, p2⟩, -, -, -⟩ := HX1.out
  go_wp2_with fail
  refine HRR.out.mono ?_
  rintro e w10 ⟨A10, c10, vs10, rfl, ho, hr, hb⟩
  have HR10 := Lib.hid (rows_of_own ho hr rfl (frames_bytes HY.out.bytes))
  have HR4 := Lib.hid (HR4.out.below hb (Nat.le_refl _))
  have HQ := Lib.hid (eqfunc_any _ _ _ c4 _ c10 _ _ _ HR4.out HR10.out)
  have HF := Lib.hid (show SamePost w true (.returned (.bool true)) w10 from ⟨rfl, HB9.out.trans (hb.mono hz9)⟩)
  have HDT := Lib.hid (show decide (frames l = frames l) = true by simp)
  rw [HDT.out] at HQ
  clear hb ho hr p0 p1 p2
  go_wp2_with fail
  refine HQ.out.mono ?_
  rintro e w11 ⟨rfl, rfl⟩
  go_wp2
  go_ret
  exact HF.out

theorem opens_any (A : Option Addr) (n c : Nat) (l : List Int) (s a k : Int) (w : World) (h : Bytes w A n c l) :
    Calls Try.prog 5 #[.agg #[.slice A n c, .int .i64 s, .int .i64 a], .int .i64 k] w (SamePost w true) := by
  cases hL : largeB n with
  | true => exact opens_1 A n c l s a k w h hL
  | false =>
    cases hv : validB l s a with
    | false => exact opens_3 A n c l s a k w h hL hv
    | true => exact opens_4 A n c l s a k w h hL hv
end Go.Proofs.Ytioedljihlfcaaa

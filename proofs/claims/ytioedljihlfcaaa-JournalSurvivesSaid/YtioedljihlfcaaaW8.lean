import Derived.Test.YtioedljihlfcaaaW7

namespace Go.Proofs.Ytioedljihlfcaaa
open Go.RowKit

theorem own_below {w w' : World} {B : Nat} {e : TypeId} {size n : Nat} {v : Value} {xs : List Value} (h : w.ownsRow B e size v n xs) (hb : Below w.heap.size w w') : w'.ownsRow B e size v n xs := by
  obtain ⟨h1, h2⟩ := h
  refine ⟨h1, ?_⟩
  rcases h2 with h2 | ⟨g, cap, cur, hv, hg, hh, r⟩
  · exact Or.inl h2
  · have hlt : g < w.heap.size := by
      rcases Nat.lt_or_ge g w.heap.size with hlt | hge
      · exact hlt
      · rw [Array.getElem?_eq_none hge] at hh; cases hh
    exact Or.inr ⟨g, cap, cur, hv, hg, (hb.block g hlt).trans hh, r⟩

def headL (l : List Int) : List Int := num4 (l.length : Int) ++ l
def frameL (l : List Int) : List Int := headL l ++ num4 (sumL (headL l))
theorem num4_bytes (x : Int) (h0 : 0 ≤ x) (h1 : x < 4294967296) : AllBytes (num4 x) := by
  intro b hb
  simp [num4] at hb
  rcases hb with rfl | rfl | rfl | rfl <;> omega
theorem num4_length (x : Int) : (num4 x).length = 4 := rfl
theorem headL_length (l : List Int) : (headL l).length = 4 + l.length := by simp [headL, num4_length]
theorem frameL_length (l : List Int) : (frameL l).length = 8 + l.length := by simp [frameL, headL_length, num4_length]; omega

/-- A new row of bytes. -/
def RowPost (w : World) (n : Nat) (l : List Int) (e : Ending) (w' : World) : Prop := ∃ A c, e = .returned (.slice A n c) ∧ w'.ownsRow w.heap.size 5 1 (.slice A n c) n (l.map (Value.int .u8)) ∧ Below w.heap.size w w'

theorem number_row (x : Int) (w : World) (h0 : 0 ≤ x) (h1 : x < 4294967296) : Calls Try.prog 53 #[.int .u32 x] w (RowPost w 4 (num4 x)) :=
  (number_any x w h0 h1).mono fun e w' ⟨v, he, ho, hb⟩ => by
    obtain ⟨A, c, rfl⟩ := own_slice ho
    exact ⟨A, c, he, ho, hb⟩

set_option maxHeartbeats 400000 in
theorem four_any (x : Int) (w : World) (h0 : 0 ≤ x) (h1 : x < 4294967296) : Calls Try.prog 55 #[.int .i64 x] w (RowPost w 4 (num4 x)) := by
  have HF := Lib.hid (show RowPost w 4 (num4 x) (.returned (.slice (some ⟨w.heap.size, 0, none⟩) 4 4)) (w.alloc (.cells #[.int .u8 (x / 16777216), .int .u8 (x / 65536 % 256), .int .u8 (x / 256 % 256), .int .u8 (x % 256)] 5)) from
    ⟨_, _, rfl, ⟨by simp [num4], .inr ⟨w.heap.size, 4, #[.int .u8 (x / 16777216), .int .u8 (x / 65536 % 256), .int .u8 (x / 256 % 256), .int .u8 (x % 256)], rfl, Nat.le_refl _, heap_alloc_new w _, by omega, by decide, rfl, by simp [num4]⟩⟩, (Below.refl _ _).alloc (Nat.le_refl _) _⟩)
  go_enter Try.func55, Try.ntmps55
  go_wp2
  go_ret
  exact HF.out

set_option maxHeartbeats 1000000 in
theorem frame_any (A : Option Addr) (n c : Nat) (l : List Int) (w : World) (h : Bytes w A n c l) (hn : n ≤ 65535) :
    Calls Try.prog 43 #[.slice A n c] w (RowPost w (8 + n) (frameL l)) := by
  obtain ⟨i0, hi, hz0, hz1, hz2⟩ := info_parts u8_info
  have HL := Lib.hid h.len
  have HB := Lib.hid h
  clear h
  go_enter Try.func43, Try.ntmps43
  go_wp2_with fail
  refine (number_row (n : Int) _ (by omega) (by omega)).mono ?_
  rintro e w1 ⟨A1, c1, rfl, hown, hb⟩
  have hB1 := bytes_of_own hown (num4_bytes _ (by omega) (by omega))
  have htwo : Two (w1.alloc (.cells #[.slice A1 4 c1, .slice A n c] 22)) w1.heap.size A1 4 c1 (num4 (n : Int)) A n c l :=
    ⟨by rw [World.cell?_alloc_at _ _ _ _ rfl]; rfl, by rw [World.cell?_alloc_at _ _ _ _ rfl]; rfl, hB1.alloc _, (HB.out.below hb (Nat.le_refl _)).alloc _⟩
  have HT := Lib.hid htwo
  have HBW := Lib.hid hb
  clear htwo hB1 hown hb
  go_wp2_with fail
  refine (concat_any _ _ _ _ _ _ _ _ _ _ _ HT.out (by omega) (by omega) (by omega)).mono ?_
  rintro e w2 ⟨A2, c2, rfl, hown2, hb2⟩
  have hlen : (num4 (n : Int) ++ l).length = 4 + n := by simp [num4_length, HL.out]
  have hhd : num4 (n : Int) ++ l = headL l := by rw [headL, HL.out]
  rw [hlen, hhd] at hown2
  rw [hlen]
  have hbel2 : Below w.heap.size w w2 := (HBW.out.alloc HBW.out.size _).trans (hb2.mono (by simp; have := HBW.out.size; omega))
  have hB2 := bytes_of_own hown2 (by rw [headL, HL.out]; exact (num4_bytes _ (by omega) (by omega)).append HB.out.bytes)
  have HO := Lib.hid (own_mono (base' := w.heap.size) hown2 (by simp; have := HBW.out.size; omega))
  have HB2 := Lib.hid hB2
  have HBE := Lib.hid hbel2
  have hsb := sumL_bd (headL l)
  have HS := Lib.hid (sum_any _ _ _ _ _ hB2)
  have HF0 := Lib.hid (show frameL l = headL l ++ num4 (sumL (headL l)) from rfl)
  generalize sumL (headL l) = y at *
  clear hown2 hb2 hbel2 hB2 hhd hlen
  go_wp2_with fail
  refine HS.out.mono ?_
  rintro e w3 ⟨rfl, rfl⟩
  go_wp2_with fail
  refine (number_row y _ hsb.1 hsb.2).mono ?_
  rintro e w3 ⟨A3, c3, rfl, hown3, hb3⟩
  have HR := Lib.hid ((bytes_of_own hown3 (num4_bytes _ hsb.1 hsb.2)).reads)
  have HO3 := Lib.hid (own_below HO.out hb3)
  have HB3 := Lib.hid hb3
  have HBE3 := Lib.hid (HBE.out.trans (hb3.mono HBE.out.size))
  clear hown3 hb3
  go_wp2_with (at_builtin; refine wpList_append_any _ rfl (.tmp 11) (.tmp 14) 22 rfl w.heap.size 5 i0 (.int .u8 0) 1 1 Try.underlying22 hi hz0 hz1 hz2 rfl (by decide) (.slice A2 (4 + n) c2) (4 + n) ((headL l).map (Value.int .u8)) rfl HO3.out w3.heap.size A3 4 c3 ((num4 y).map (Value.int .u8)) rfl HR.out (map_one _ _) ?c1 ?c2 ?c3 ?_)
  case c1 => unfold maxLen; omega
  case c2 => omega
  case c3 => exact HBE3.out.size
  intro v' w4 hown4 hg _
  have hb4 := HBE3.out.grown hg HBE3.out.size (fun k hk => (HO3.out.lt k hk).1)
  rw [← List.map_append, ← HF0.out, show 4 + n + 4 = 8 + n by omega] at hown4
  obtain ⟨A4, c4, rfl⟩ := own_slice hown4
  have HF := Lib.hid (show RowPost w (8 + n) (frameL l) (.returned (.slice A4 (8 + n) c4)) w4 from ⟨_, _, rfl, hown4, hb4⟩)
  clear hown4 hg hb4
  go_wp2
  go_ret
  exact HF.out

set_option maxHeartbeats 1000000 in
theorem rframe_any (A : Option Addr) (n c : Nat) (l : List Int) (w : World) (h : Bytes w A n c l) (hn : n ≤ 65535) :
    Calls Try.prog 47 #[.slice A n c] w (RowPost w (8 + n) (frameL l)) := by
  obtain ⟨i0, hi, hz0, hz1, hz2⟩ := info_parts u8_info
  have HL := Lib.hid h.len
  have HB := Lib.hid h
  clear h
  go_enter Try.func47, Try.ntmps47
  go_wp2_with fail
  refine (four_any (n : Int) _ (by omega) (by omega)).mono ?_
  rintro e w1 ⟨A1, c1, rfl, hown, hb⟩
  have HO1 := Lib.hid hown
  have HBW := Lib.hid hb
  have HR1 := Lib.hid (HB.out.reads_in hb)
  clear hown hb
  go_wp2_with (at_builtin; refine wpList_append_any _ rfl (.tmp 6) (.tmp 7) 22 rfl w.heap.size 5 i0 (.int .u8 0) 1 1 Try.underlying22 hi hz0 hz1 hz2 rfl (by decide) (.slice A1 4 c1) 4 ((num4 (n : Int)).map (Value.int .u8)) rfl HO1.out w.heap.size A n c (l.map (Value.int .u8)) rfl HR1.out (map_one _ _) ?d1 ?d2 ?d3 ?_)
  case d1 => unfold maxLen; omega
  case d2 => omega
  case d3 => exact HBW.out.size
  intro v' w2 hown2 hg _
  have hbel2 := HBW.out.grown hg HBW.out.size (fun k hk => (HO1.out.lt k hk).1)
  rw [← List.map_append, show num4 (n : Int) ++ l = headL l by rw [headL, HL.out]] at hown2
  obtain ⟨A2, c2, rfl⟩ := own_slice hown2
  have hB2 := bytes_of_own hown2 (by rw [headL, HL.out]; exact (num4_bytes _ (by omega) (by omega)).append HB.out.bytes)
  have HO := Lib.hid hown2
  have HB2 := Lib.hid hB2
  have HBE := Lib.hid hbel2
  have hsb := sumL_bd (headL l)
  have HS := Lib.hid (rsum_any _ _ _ _ _ hB2)
  have HF0 := Lib.hid (show frameL l = headL l ++ num4 (sumL (headL l)) from rfl)
  generalize sumL (headL l) = y at *
  clear hown2 hg hbel2 hB2
  go_wp2_with fail
  refine HS.out.mono ?_
  rintro e w3 ⟨rfl, rfl⟩
  go_wp2_with fail
  refine (four_any y _ hsb.1 hsb.2).mono ?_
  rintro e w3 ⟨A3, c3, rfl, hown3, hb3⟩
  have HR := Lib.hid ((bytes_of_own hown3 (num4_bytes _ hsb.1 hsb.2)).reads)
  have HO3 := Lib.hid (own_below HO.out hb3)
  have HB3 := Lib.hid hb3
  have HBE3 := Lib.hid (HBE.out.trans (hb3.mono HBE.out.size))
  clear hown3 hb3
  go_wp2_with (at_builtin; refine wpList_append_any _ rfl (.tmp 9) (.tmp 12) 22 rfl w.heap.size 5 i0 (.int .u8 0) 1 1 Try.underlying22 hi hz0 hz1 hz2 rfl (by decide) (.slice A2 (4 + n) c2) (4 + n) ((headL l).map (Value.int .u8)) rfl HO3.out w3.heap.size A3 4 c3 ((num4 y).map (Value.int .u8)) rfl HR.out (map_one _ _) ?c1 ?c2 ?c3 ?_)
  case c1 => unfold maxLen; omega
  case c2 => omega
  case c3 => exact HBE3.out.size
  intro v' w4 hown4 hg _
  have hb4 := HBE3.out.grown hg HBE3.out.size (fun k hk => (HO3.out.lt k hk).1)
  rw [← List.map_append, ← HF0.out, show 4 + n + 4 = 8 + n by omega] at hown4
  obtain ⟨A4, c4, rfl⟩ := own_slice hown4
  have HF := Lib.hid (show RowPost w (8 + n) (frameL l) (.returned (.slice A4 (8 + n) c4)) w4 from ⟨_, _, rfl, hown4, hb4⟩)
  clear hown4 hg hb4
  go_wp2
  go_ret
  exact HF.out

/-- append([]byte[], s...): a new row; nil becomes an empty row. -/
def rcopyPost (w : World) (n : Nat) (l : List Int) (s a : Int) (e : Ending) (w' : World) : Prop := CopiedPost w n l s a e w'

set_option maxHeartbeats 1000000 in
theorem rcopy_any (A : Option Addr) (n c : Nat) (l : List Int) (s a : Int) (w : World) (h : Bytes w A n c l) (hn : n ≤ 2000000) :
    Calls Try.prog 45 #[.agg #[.slice A n c, .int .i64 s, .int .i64 a]] w (CopiedPost w n l s a) := by
  obtain ⟨i0, hi, hz0, hz1, hz2⟩ := info_parts u8_info
  have HR := Lib.hid ((h.reads_in (w' := ((w.alloc (.cells #[.slice A n c, .int .i64 s, .int .i64 a] 24)).alloc (.cells #[.slice none 0 0, .int .i64 0, .int .i64 0] 24)).alloc (.cells #[] 5)) ((((Below.refl _ _).alloc (Nat.le_refl _) _).alloc (by simp) _).alloc (by simp; omega) _)))
  have hown : (((w.alloc (.cells #[.slice A n c, .int .i64 s, .int .i64 a] 24)).alloc (.cells #[.slice none 0 0, .int .i64 0, .int .i64 0] 24)).alloc (.cells #[] 5)).ownsRow (w.heap.size + 2) 5 1 (.slice (some ⟨w.heap.size + 2, 0, none⟩) 0 0) 0 [] := by
    have := World.ownsRow_made (base := w.heap.size + 2) (e := 5) (size := 1) ((w.alloc (.cells #[.slice A n c, .int .i64 s, .int .i64 a] 24)).alloc (.cells #[.slice none 0 0, .int .i64 0, .int .i64 0] 24)) #[] 0 (by simp) (by decide) rfl
    simpa using this
  have HO := Lib.hid hown
  clear h hown
  go_enter Try.func45, Try.ntmps45
  go_wp2_with (at_builtin; refine wpList_append_any _ rfl (.tmp 3) (.tmp 5) 22 rfl (w.heap.size + 2) 5 i0 (.int .u8 0) 1 1 Try.underlying22 hi hz0 hz1 hz2 rfl (by decide) (.slice (some ⟨w.heap.size + 2, 0, none⟩) 0 0) 0 [] rfl HO.out w.heap.size A n c (l.map (Value.int .u8)) rfl HR.out (map_one _ _) ?c1 ?c2 ?c3 ?_)
  case c1 => unfold maxLen; omega
  case c2 => omega
  case c3 => simp
  intro v' w1 hown2 hg _
  have hb : Below (w.heap.size + 2) (((w.alloc (.cells #[.slice A n c, .int .i64 s, .int .i64 a] 24)).alloc (.cells #[.slice none 0 0, .int .i64 0, .int .i64 0] 24)).alloc (.cells #[] 5)) w1 :=
    (Below.refl _ _).grown hg (by simp) (fun k hk => (HO.out.lt k hk).1)
  have e1 : (((w.alloc (.cells #[.slice A n c, .int .i64 s, .int .i64 a] 24)).alloc (.cells #[.slice none 0 0, .int .i64 0, .int .i64 0] 24)).alloc (.cells #[] 5)).heap[w.heap.size]? = some (.cells #[.slice A n c, .int .i64 s, .int .i64 a] 24) := by
    rw [Below.heap_alloc _ _ _ (by simp; omega), blk_first]
  have e2 : (((w.alloc (.cells #[.slice A n c, .int .i64 s, .int .i64 a] 24)).alloc (.cells #[.slice none 0 0, .int .i64 0, .int .i64 0] 24)).alloc (.cells #[] 5)).heap[w.heap.size + 1]? = some (.cells #[.slice none 0 0, .int .i64 0, .int .i64 0] 24) := by
    rw [Below.heap_alloc _ _ _ (by simp), blk_second]
  obtain ⟨⟨p0, p1, p2⟩, f0, f1, f2⟩ := box3 hb (by omega) e1
  obtain ⟨⟨q0, q1, q2⟩, g0, g1, g2⟩ := box3 hb (by omega) e2
  have hz := hb.size
  obtain ⟨A', c', rfl⟩ := own_slice hown2
  have HO2 := Lib.hid hown2
  have HBE := Lib.hid (show Below w.heap.size w w1 from ((((Below.refl _ _).alloc (Nat.le_refl _) _).alloc (by simp) _).alloc (by simp; omega) _).trans (hb.mono (by omega)))
  clear hown2 hg hb e1 e2
  go_wp2
  refine bodyPost_ret (v := .agg #[.slice A' n c', .int .i64 s, .int .i64 a]) (by simp [results, Try.results45, go_sem, q0, q1, q2]) rfl ⟨A', c', rfl, ?_, ?_⟩
  · have h2 := ownsRow_setCell_below (ownsRow_setCell_below (ownsRow_setCell_below (ownsRow_setCell_below HO2.out (a := ⟨w.heap.size, 0, none⟩) (by simp) (.slice A' n c')) (a := ⟨w.heap.size + 1, 0, none⟩) (by simp) (.slice A' n c')) (a := ⟨w.heap.size + 1, 1, none⟩) (by simp) (.int .i64 s)) (a := ⟨w.heap.size + 1, 2, none⟩) (by simp) (.int .i64 a)
    exact own_mono h2 (by omega)
  · exact ((((HBE.out.setCell (by simp) _).setCell (by simp) _).setCell (by simp) _).setCell (by simp) _)
end Go.Proofs.Ytioedljihlfcaaa

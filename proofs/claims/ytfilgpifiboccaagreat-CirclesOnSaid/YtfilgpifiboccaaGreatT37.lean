import Derived.Test.YtfilgpifiboccaaGreatT34
namespace Go.Proofs.YtfilgpifiboccaaGreat
open Go.RowKit
def bef (p q : Int × Int) : Bool := decide (p.2 * q.1 ≤ p.1 * q.2)
def cor (yl yh xl xh : Int) : Nat → Int × Int
  | 0 => (xl, yl)
  | 1 => (xl, yh)
  | 2 => (xh, yl)
  | _ => (xh, yh)
def fstP (yl yh xl xh : Int) : Nat → Int × Int
  | 0 => (xl, yl)
  | j + 1 => if bef (cor yl yh xl xh j) (fstP yl yh xl xh j) then cor yl yh xl xh j else fstP yl yh xl xh j
def lstP (yl yh xl xh : Int) : Nat → Int × Int
  | 0 => (xl, yl)
  | j + 1 => if bef (lstP yl yh xl xh j) (cor yl yh xl xh j) then cor yl yh xl xh j else lstP yl yh xl xh j
/-- The upper end of the arc. -/
def upE (lo hi : Int) (ex : Bool) : Int := (if hi < lo then hi + 21600000 else hi) + (if ex then 0 else 1)
def originB (yl yh xl xh : Int) : Bool := decide (xl ≤ 0 ∧ 0 ≤ xh ∧ yl ≤ 0 ∧ 0 ≤ yh)
def bearR (yl yh xl xh : Int) : Int × Int × Int :=
  if (validB xl xh && validB yl yh) = false then (0, 0, 1)
  else if originB yl yh xl xh then (0, 21600000, 0)
  else (angF (fstP yl yh xl xh 4).1 (fstP yl yh xl xh 4).2, upE (angF (fstP yl yh xl xh 4).1 (fstP yl yh xl xh 4).2) (angF (lstP yl yh xl xh 4).1 (lstP yl yh xl xh 4).2) (excF (lstP yl yh xl xh 4).1 (lstP yl yh xl xh 4).2), 0)
/-- Three blocks, new. -/
theorem blk3 (w : World) (a b c : Obj) : (((w.alloc a).alloc b).alloc c).heap[w.heap.size]? = some a ∧ (((w.alloc a).alloc b).alloc c).heap[w.heap.size + 1]? = some b ∧ (((w.alloc a).alloc b).alloc c).heap[w.heap.size + 1 + 1]? = some c := by
  refine ⟨?_, ?_, ?_⟩
  · rw [Below.heap_alloc _ _ _ (by simp; omega), blk2_first]
  · rw [Below.heap_alloc _ _ _ (by simp), blk2_second]
  · have := heap_alloc_new ((w.alloc a).alloc b) c
    simpa using this
theorem cor_mem (yl yh xl xh : Int) (j : Nat) : ((cor yl yh xl xh j).1 = xl ∨ (cor yl yh xl xh j).1 = xh) ∧ ((cor yl yh xl xh j).2 = yl ∨ (cor yl yh xl xh j).2 = yh) := by
  unfold cor; split <;> simp
theorem fst_mem (yl yh xl xh : Int) : ∀ j, ((fstP yl yh xl xh j).1 = xl ∨ (fstP yl yh xl xh j).1 = xh) ∧ ((fstP yl yh xl xh j).2 = yl ∨ (fstP yl yh xl xh j).2 = yh)
  | 0 => by simp [fstP]
  | j + 1 => by
    unfold fstP; split
    · exact cor_mem _ _ _ _ _
    · exact fst_mem yl yh xl xh j
theorem lst_mem (yl yh xl xh : Int) : ∀ j, ((lstP yl yh xl xh j).1 = xl ∨ (lstP yl yh xl xh j).1 = xh) ∧ ((lstP yl yh xl xh j).2 = yl ∨ (lstP yl yh xl xh j).2 = yh)
  | 0 => by simp [lstP]
  | j + 1 => by
    unfold lstP; split
    · exact cor_mem _ _ _ _ _
    · exact lst_mem yl yh xl xh j
set_option maxRecDepth 100000 in
set_option maxHeartbeats 1000000 in
theorem bear_bad (yl yh xl xh : Int) (h : (validB xl xh && validB yl yh) = false) (w : World) : Calls Tryz.prog 32 #[pairV yl yh, pairV xl xh] w (GPost (arcV (0, 0, 1)) w) := by
  have HX := Lib.hid (valid_any xl xh)
  have HY := Lib.hid (valid_any yl yh)
  have b3 := blk3 w (.cells #[.int .i64 yl, .int .i64 yh] 60) (.cells #[.int .i64 xl, .int .i64 xh] 60) (.cells #[.int .i64 0, .int .i64 0] 23)
  have K2 := Lib.hid (show Pair 60 _ w.heap.size yl yh from b3.1)
  have K3 := Lib.hid (show Pair 60 _ (w.heap.size + 1) xl xh from b3.2.1)
  have K4 := Lib.hid (show Pair 23 _ (w.heap.size + 1 + 1) 0 0 from b3.2.2)
  have HB := Lib.hid ((((Below.refl w.heap.size w).alloc (Nat.le_refl _) (.cells #[.int .i64 yl, .int .i64 yh] 60)).alloc (by simp) (.cells #[.int .i64 xl, .int .i64 xh] 60)).alloc (by simp; omega) (.cells #[.int .i64 0, .int .i64 0] 23))
  clear b3
  cases hx : validB xl xh
  · rw [hx] at HX
    clear h hx HY
    unfold pairV at HX ⊢
    go_enter Tryz.func32, Tryz.ntmps32
    go_wp2_with fail
    refine (HX.out _).mono ?_
    rintro e w1 ⟨rfl, hb⟩
    have k4 := pair_below hb K4.out
    have l4 := k4.lt
    obtain ⟨⟨a0, a1⟩, a2, a3⟩ := keep2 k4
    have KF := k4.write 0 0
    obtain ⟨⟨r0, r1⟩, r2, r3⟩ := keep2 KF
    have HF := Lib.hid (((HB.out.trans (hb.mono HB.out.size)).setCell (p := ⟨w.heap.size + 1 + 1, 0, none⟩) (by simp; omega) (.int .i64 0)).setCell (p := ⟨w.heap.size + 1 + 1, 1, none⟩) (by simp; omega) (.int .i64 0))
    clear hb k4 KF
    go_wp2
    refine bodyPost_ret (v := arcV (0, 0, 1)) (by simp [results, Tryz.results32, go_sem, arcV, pairV, r0, r1]) rfl ⟨rfl, HF.out⟩
  · have hy : validB yl yh = false := by rw [hx] at h; simpa using h
    rw [hx] at HX
    rw [hy] at HY
    clear h hx hy
    unfold pairV at HX HY ⊢
    go_enter Tryz.func32, Tryz.ntmps32
    go_wp2_with fail
    refine (HX.out _).mono ?_
    rintro e w1 ⟨rfl, hb⟩
    have k2 := pair_below hb K2.out
    have l2 := k2.lt
    obtain ⟨⟨c0, c1⟩, c2, c3⟩ := keep2 k2
    have K4 := Lib.hid (pair_below hb K4.out)
    have HB := Lib.hid (HB.out.trans (hb.mono HB.out.size))
    clear hb k2
    go_wp2_with fail
    refine (HY.out _).mono ?_
    rintro e w2 ⟨rfl, hb⟩
    have k4 := pair_below hb K4.out
    have l4 := k4.lt
    obtain ⟨⟨a0, a1⟩, a2, a3⟩ := keep2 k4
    have KF := k4.write 0 0
    obtain ⟨⟨r0, r1⟩, r2, r3⟩ := keep2 KF
    have HF := Lib.hid (((HB.out.trans (hb.mono HB.out.size)).setCell (p := ⟨w.heap.size + 1 + 1, 0, none⟩) (by simp; omega) (.int .i64 0)).setCell (p := ⟨w.heap.size + 1 + 1, 1, none⟩) (by simp; omega) (.int .i64 0))
    clear hb k4 KF
    go_wp2
    refine bodyPost_ret (v := arcV (0, 0, 1)) (by simp [results, Tryz.results32, go_sem, arcV, pairV, r0, r1]) rfl ⟨rfl, HF.out⟩
set_option maxRecDepth 100000 in
set_option maxHeartbeats 1000000 in
theorem bear_origin (yl yh xl xh : Int) (hx : validB xl xh = true) (hy : validB yl yh = true) (h : originB yl yh xl xh = true) (w : World) : Calls Tryz.prog 32 #[pairV yl yh, pairV xl xh] w (GPost (arcV (0, 21600000, 0)) w) := by
  have HX := Lib.hid (valid_any xl xh)
  have HY := Lib.hid (valid_any yl yh)
  have b3 := blk3 w (.cells #[.int .i64 yl, .int .i64 yh] 60) (.cells #[.int .i64 xl, .int .i64 xh] 60) (.cells #[.int .i64 0, .int .i64 0] 23)
  have K2 := Lib.hid (show Pair 60 _ w.heap.size yl yh from b3.1)
  have K3 := Lib.hid (show Pair 60 _ (w.heap.size + 1) xl xh from b3.2.1)
  have K4 := Lib.hid (show Pair 23 _ (w.heap.size + 1 + 1) 0 0 from b3.2.2)
  have HB := Lib.hid ((((Below.refl w.heap.size w).alloc (Nat.le_refl _) (.cells #[.int .i64 yl, .int .i64 yh] 60)).alloc (by simp) (.cells #[.int .i64 xl, .int .i64 xh] 60)).alloc (by simp; omega) (.cells #[.int .i64 0, .int .i64 0] 23))
  clear b3
  rw [hx] at HX
  rw [hy] at HY
  clear hx hy
  simp only [originB, decide_eq_true_eq] at h
  obtain ⟨h1, h2, h3, h4⟩ := h
  unfold pairV at HX HY ⊢
  go_enter Tryz.func32, Tryz.ntmps32
  go_wp2_with fail
  refine (HX.out _).mono ?_
  rintro e w1 ⟨rfl, hb⟩
  have k2 := pair_below hb K2.out
  have l2 := k2.lt
  obtain ⟨⟨c0, c1⟩, c2, c3⟩ := keep2 k2
  have K2 := Lib.hid k2
  have K3 := Lib.hid (pair_below hb K3.out)
  have K4 := Lib.hid (pair_below hb K4.out)
  have HB := Lib.hid (HB.out.trans (hb.mono HB.out.size))
  clear hb k2
  go_wp2_with fail
  refine (HY.out _).mono ?_
  rintro e w2 ⟨rfl, hb⟩
  have k2 := pair_below hb K2.out
  have k3 := pair_below hb K3.out
  have k4 := pair_below hb K4.out
  have l2 := k2.lt
  have l3 := k3.lt
  have l4 := k4.lt
  obtain ⟨⟨d0, d1⟩, d2, d3⟩ := keep2 k2
  obtain ⟨⟨e0, e1⟩, e2, e3⟩ := keep2 k3
  obtain ⟨⟨a0, a1⟩, a2, a3⟩ := keep2 k4
  have KF := k4.write 0 21600000
  obtain ⟨⟨r0, r1⟩, r2, r3⟩ := keep2 KF
  have HF := Lib.hid (((HB.out.trans (hb.mono HB.out.size)).setCell (p := ⟨w.heap.size + 1 + 1, 0, none⟩) (by simp; omega) (.int .i64 0)).setCell (p := ⟨w.heap.size + 1 + 1, 1, none⟩) (by simp; omega) (.int .i64 21600000))
  clear hb k2 k3 k4 KF
  go_wp2
  refine bodyPost_ret (v := arcV (0, 21600000, 0)) (by simp [results, Tryz.results32, go_sem, arcV, pairV, r0, r1]) rfl ⟨rfl, HF.out⟩
end Go.Proofs.YtfilgpifiboccaaGreat
namespace Go.Proofs.YtfilgpifiboccaaGreat
open Go.RowKit
theorem keep8 {w : World} {b : Nat} {t : TypeId} {v0 v1 v2 v3 v4 v5 v6 v7 : Value} (h : w.heap[b]? = some (.cells #[v0, v1, v2, v3, v4, v5, v6, v7] t (0, 0))) :
    (w.cell? ⟨b, 0, none⟩ = some v0 ∧ w.cell? ⟨b, 1, none⟩ = some v1 ∧ w.cell? ⟨b, 2, none⟩ = some v2 ∧ w.cell? ⟨b, 3, none⟩ = some v3 ∧ w.cell? ⟨b, 4, none⟩ = some v4 ∧ w.cell? ⟨b, 5, none⟩ = some v5 ∧ w.cell? ⟨b, 6, none⟩ = some v6 ∧ w.cell? ⟨b, 7, none⟩ = some v7) := by
  refine ⟨?_, ?_, ?_, ?_, ?_, ?_, ?_, ?_⟩ <;> simp [World.cell?, h]
theorem idx0 (a b c d e f g h : Int) (w : World) : (Instr.index 109 (.agg #[.int .i64 a, .int .i64 b, .int .i64 c, .int .i64 d, .int .i64 e, .int .i64 f, .int .i64 g, .int .i64 h]) (.int .i64 0)).run Tryz.prog w = .ok (.agg #[.int .i64 a, .int .i64 b]) w := by
  have u := Tryz.underlying108
  have a3 := Tryz.isAgg108
  have z3 := Tryz.sizeOf108
  simp [Instr.index, run_underlying Tryz.underlying109, asIntOf, go_sem]
theorem idx1 (a b c d e f g h : Int) (w : World) : (Instr.index 109 (.agg #[.int .i64 a, .int .i64 b, .int .i64 c, .int .i64 d, .int .i64 e, .int .i64 f, .int .i64 g, .int .i64 h]) (.int .i64 1)).run Tryz.prog w = .ok (.agg #[.int .i64 c, .int .i64 d]) w := by
  have u := Tryz.underlying108
  have a3 := Tryz.isAgg108
  have z3 := Tryz.sizeOf108
  simp [Instr.index, run_underlying Tryz.underlying109, asIntOf, go_sem]
theorem idx2 (a b c d e f g h : Int) (w : World) : (Instr.index 109 (.agg #[.int .i64 a, .int .i64 b, .int .i64 c, .int .i64 d, .int .i64 e, .int .i64 f, .int .i64 g, .int .i64 h]) (.int .i64 2)).run Tryz.prog w = .ok (.agg #[.int .i64 e, .int .i64 f]) w := by
  have u := Tryz.underlying108
  have a3 := Tryz.isAgg108
  have z3 := Tryz.sizeOf108
  simp [Instr.index, run_underlying Tryz.underlying109, asIntOf, go_sem]
theorem idx3 (a b c d e f g h : Int) (w : World) : (Instr.index 109 (.agg #[.int .i64 a, .int .i64 b, .int .i64 c, .int .i64 d, .int .i64 e, .int .i64 f, .int .i64 g, .int .i64 h]) (.int .i64 3)).run Tryz.prog w = .ok (.agg #[.int .i64 g, .int .i64 h]) w := by
  have u := Tryz.underlying108
  have a3 := Tryz.isAgg108
  have z3 := Tryz.sizeOf108
  simp [Instr.index, run_underlying Tryz.underlying109, asIntOf, go_sem]
theorem srch_le (f : Nat → Bool) : ∀ n l h : Nat, l ≤ h → l ≤ srch f n l h ∧ srch f n l h ≤ h
  | 0, l, h, hl => ⟨Nat.le_refl _, hl⟩
  | n + 1, l, h, hl => by
    unfold srch
    split
    · exact ⟨Nat.le_refl _, hl⟩
    · split
      · have := srch_le f n ((l + h) / 2) h (by omega); omega
      · have := srch_le f n l ((l + h) / 2) (by omega); omega
theorem angF_bd (x y : Int) : 0 ≤ angF x y ∧ angF x y ≤ 21600000 := by
  have h := qr_le x y
  have h2 := srch_le (reaB (rot x y (qr x y)).1.toNat (rot x y (qr x y)).2.toNat) 23 0 5400000 (by omega)
  unfold angF low1
  omega
set_option maxRecDepth 100000 in
set_option maxHeartbeats 8000000 in
theorem bear_main (yl yh xl xh : Int) (hx : validB xl xh = true) (hy : validB yl yh = true) (h : originB yl yh xl xh = false) (w : World) :
    Calls Tryz.prog 32 #[pairV yl yh, pairV xl xh] w (GPost (arcV (angF (fstP yl yh xl xh 4).1 (fstP yl yh xl xh 4).2, upE (angF (fstP yl yh xl xh 4).1 (fstP yl yh xl xh 4).2) (angF (lstP yl yh xl xh 4).1 (lstP yl yh xl xh 4).2) (excF (lstP yl yh xl xh 4).1 (lstP yl yh xl xh 4).2), 0)) w) := by
  obtain ⟨V, hV⟩ : ∃ V, V = arcV (angF (fstP yl yh xl xh 4).1 (fstP yl yh xl xh 4).2, upE (angF (fstP yl yh xl xh 4).1 (fstP yl yh xl xh 4).2) (angF (lstP yl yh xl xh 4).1 (lstP yl yh xl xh 4).2) (excF (lstP yl yh xl xh 4).1 (lstP yl yh xl xh 4).2), 0) := ⟨_, rfl⟩
  rw [← hV]
  have HX := Lib.hid (valid_any xl xh)
  have HY := Lib.hid (valid_any yl yh)
  rw [hx] at HX
  rw [hy] at HY
  simp only [validB, decide_eq_true_eq] at hx hy
  obtain ⟨x1, x2, x3⟩ := hx
  obtain ⟨y1, y2, y3⟩ := hy
  have ho : ¬ (xl ≤ 0 ∧ 0 ≤ xh ∧ yl ≤ 0 ∧ 0 ≤ yh) := by simpa [originB] using h
  clear h
  have b3 := blk3 w (.cells #[.int .i64 yl, .int .i64 yh] 60) (.cells #[.int .i64 xl, .int .i64 xh] 60) (.cells #[.int .i64 0, .int .i64 0] 23)
  have K2 := Lib.hid (show Pair 60 _ w.heap.size yl yh from b3.1)
  have K3 := Lib.hid (show Pair 60 _ (w.heap.size + 1) xl xh from b3.2.1)
  have K4 := Lib.hid (show Pair 23 _ (w.heap.size + 1 + 1) 0 0 from b3.2.2)
  have HB := Lib.hid ((((Below.refl w.heap.size w).alloc (Nat.le_refl _) (.cells #[.int .i64 yl, .int .i64 yh] 60)).alloc (by simp) (.cells #[.int .i64 xl, .int .i64 xh] 60)).alloc (by simp; omega) (.cells #[.int .i64 0, .int .i64 0] 23))
  clear b3
  have HO := Lib.hid ho
  replace hV := Lib.hid hV
  clear ho
  unfold pairV at HX HY ⊢
  go_enter Tryz.func32, Tryz.ntmps32
  go_wp2_with fail
  refine (HX.out _).mono ?_
  rintro e w1 ⟨rfl, hb⟩
  have k2 := pair_below hb K2.out
  have l2 := k2.lt
  obtain ⟨⟨c0, c1⟩, c2, c3⟩ := keep2 k2
  have K2 := Lib.hid k2
  have K3 := Lib.hid (pair_below hb K3.out)
  have K4 := Lib.hid (pair_below hb K4.out)
  have HB := Lib.hid (HB.out.trans (hb.mono HB.out.size))
  clear hb k2
  go_wp2_with fail
  refine (HY.out _).mono ?_
  rintro e w2 ⟨rfl, hb⟩
  have k2 := pair_below hb K2.out
  have k3 := pair_below hb K3.out
  have k4 := pair_below hb K4.out
  have l2 := k2.lt
  have l3 := k3.lt
  have l4 := k4.lt
  obtain ⟨⟨d0, d1⟩, d2, d3⟩ := keep2 k2
  obtain ⟨⟨e0, e1⟩, e2, e3⟩ := keep2 k3
  have K4 := Lib.hid k4
  have HB := Lib.hid (HB.out.trans (hb.mono HB.out.size))
  clear hb k2 k3 k4 HX HY K2 K3
  go_upto_region 3 with fail
  go_cut [41] from 24 to 41 (fun c wx => c = .bool false ∧ wx = w2)
  case first =>
    by_cases z1 : xl ≤ 0
    · by_cases z2 : 0 ≤ xh
      · by_cases z3 : yl ≤ 0
        · have z4 : ¬ 0 ≤ yh := fun h => HO.out ⟨z1, z2, z3, h⟩
          go_wp2_with fail
          go_meet
          exact ⟨by simp, rfl⟩
        · go_wp2_with fail
          go_meet
          exact ⟨by simp, rfl⟩
      · go_wp2_with fail
        go_meet
        exact ⟨by simp, rfl⟩
    · go_wp2_with fail
      go_meet
      exact ⟨by simp, rfl⟩
  case rest =>
    obtain ⟨rfl, rfl⟩ := hcut
    generalize wc = wd at *
    have hs2 := HB.out.size
    have HI : ∀ p7 p8 b7 b8, (p7 = Value.pointer (some ⟨b7, 0, none⟩) ∧ p8 = Value.pointer (some ⟨b8, 0, none⟩)) → ((b7 = wd.heap.size + 1 ∧ b8 = wd.heap.size + 1 + 1) ∨ (b8 = wd.heap.size + 1 ∧ b7 = wd.heap.size + 1 + 1)) →
      ∃ c7 c8 : Nat, p7 = Value.pointer (some ⟨c7, 0, none⟩) ∧ p8 = Value.pointer (some ⟨c8, 0, none⟩) ∧ c7 ≠ c8 ∧ w.heap.size + 1 + 1 < c7 ∧ w.heap.size + 1 + 1 < c8 ∧ wd.heap.size < c7 ∧ wd.heap.size < c8 ∧ Pair 108 (((wd.alloc (.cells #[.int .i64 xl, .int .i64 yl, .int .i64 xl, .int .i64 yh, .int .i64 xh, .int .i64 yl, .int .i64 xh, .int .i64 yh] 109)).alloc (.cells #[.int .i64 xl, .int .i64 yl] 108)).alloc (.cells #[.int .i64 xl, .int .i64 yl] 108)).drew c7 xl yl ∧ Pair 108 (((wd.alloc (.cells #[.int .i64 xl, .int .i64 yl, .int .i64 xl, .int .i64 yh, .int .i64 xh, .int .i64 yl, .int .i64 xh, .int .i64 yh] 109)).alloc (.cells #[.int .i64 xl, .int .i64 yl] 108)).alloc (.cells #[.int .i64 xl, .int .i64 yl] 108)).drew c8 xl yl ∧ Pair 23 (((wd.alloc (.cells #[.int .i64 xl, .int .i64 yl, .int .i64 xl, .int .i64 yh, .int .i64 xh, .int .i64 yl, .int .i64 xh, .int .i64 yh] 109)).alloc (.cells #[.int .i64 xl, .int .i64 yl] 108)).alloc (.cells #[.int .i64 xl, .int .i64 yl] 108)).drew (w.heap.size + 1 + 1) 0 0 ∧ (((wd.alloc (.cells #[.int .i64 xl, .int .i64 yl, .int .i64 xl, .int .i64 yh, .int .i64 xh, .int .i64 yl, .int .i64 xh, .int .i64 yh] 109)).alloc (.cells #[.int .i64 xl, .int .i64 yl] 108)).alloc (.cells #[.int .i64 xl, .int .i64 yl] 108)).drew.heap[wd.heap.size]? = some (.cells #[.int .i64 xl, .int .i64 yl, .int .i64 xl, .int .i64 yh, .int .i64 xh, .int .i64 yl, .int .i64 xh, .int .i64 yh] 109 (0, 0)) ∧ Below w.heap.size w (((wd.alloc (.cells #[.int .i64 xl, .int .i64 yl, .int .i64 xl, .int .i64 yh, .int .i64 xh, .int .i64 yl, .int .i64 xh, .int .i64 yh] 109)).alloc (.cells #[.int .i64 xl, .int .i64 yl] 108)).alloc (.cells #[.int .i64 xl, .int .i64 yl] 108)).drew := by
      intro p7 p8 b7 b8 ⟨e7, e8⟩ hb
      have l4' := K4.out.lt
      have b3 := blk3 wd (.cells #[.int .i64 xl, .int .i64 yl, .int .i64 xl, .int .i64 yh, .int .i64 xh, .int .i64 yl, .int .i64 xh, .int .i64 yh] 109) (.cells #[.int .i64 xl, .int .i64 yl] 108) (.cells #[.int .i64 xl, .int .i64 yl] 108)
      have k4 := ((K4.out.alloc (.cells #[.int .i64 xl, .int .i64 yl, .int .i64 xl, .int .i64 yh, .int .i64 xh, .int .i64 yl, .int .i64 xh, .int .i64 yh] 109)).alloc (.cells #[.int .i64 xl, .int .i64 yl] 108)).alloc (.cells #[.int .i64 xl, .int .i64 yl] 108)
      have hB := ((HB.out.alloc (by omega) (.cells #[.int .i64 xl, .int .i64 yl, .int .i64 xl, .int .i64 yh, .int .i64 xh, .int .i64 yl, .int .i64 xh, .int .i64 yh] 109)).alloc (by simp; omega) (.cells #[.int .i64 xl, .int .i64 yl] 108)).alloc (by simp; omega) (.cells #[.int .i64 xl, .int .i64 yl] 108)
      rcases hb with ⟨h7, h8⟩ | ⟨h8, h7⟩
      · exact ⟨b7, b8, e7, e8, by omega, by omega, by omega, by omega, by omega, by rw [h7]; exact b3.2.1, by rw [h8]; exact b3.2.2, k4, b3.1, hB.drew⟩
      · exact ⟨b7, b8, e7, e8, by omega, by omega, by omega, by omega, by omega, by rw [h7]; exact b3.2.2, by rw [h8]; exact b3.2.1, k4, b3.1, hB.drew⟩
    have HI := Lib.hid HI
    go_upto_region 6 with fail
    go_cut [7, 8] from 64 to 67 (fun p7 p8 wx => ∃ c7 c8 : Nat, p7 = Value.pointer (some ⟨c7, 0, none⟩) ∧ p8 = Value.pointer (some ⟨c8, 0, none⟩) ∧ c7 ≠ c8 ∧ w.heap.size + 1 + 1 < c7 ∧ w.heap.size + 1 + 1 < c8 ∧ wd.heap.size < c7 ∧ wd.heap.size < c8 ∧ Pair 108 wx c7 xl yl ∧ Pair 108 wx c8 xl yl ∧ Pair 23 wx (w.heap.size + 1 + 1) 0 0 ∧ wx.heap[wd.heap.size]? = some (.cells #[.int .i64 xl, .int .i64 yl, .int .i64 xl, .int .i64 yh, .int .i64 xh, .int .i64 yl, .int .i64 xh, .int .i64 yh] 109 (0, 0)) ∧ Below w.heap.size w wx)
    case first =>
      go_region_with fail
      all_goals (
        go_wp2_with fail
        go_meet
        first
          | exact HI.out _ _ _ _ ⟨rfl, rfl⟩ (.inl ⟨rfl, rfl⟩)
          | exact HI.out _ _ _ _ ⟨rfl, rfl⟩ (.inr ⟨rfl, rfl⟩))
    case rest =>
      obtain ⟨b7, b8, rfl, rfl, h78, h7, h8, h9, h10, kF, kL, kR, kA, hb⟩ := hcut
      clear HI
      obtain ⟨a0, a1, a2, a3, a4, a5, a6, a7⟩ := keep8 kA
      have lA := (Array.getElem?_eq_some_iff.1 kA).1
      have KF := Lib.hid kF
      have KL := Lib.hid kL
      have KR := Lib.hid kR
      have HBc := Lib.hid hb
      clear kF kL kR kA hb K4 HB hs2
      go_wp2
      go_loopw [69] (fun t wr => ∃ j : Nat, j ≤ 4 ∧ t = .int .i64 (j : Int) ∧ Pair 108 wr b7 (fstP yl yh xl xh j).1 (fstP yl yh xl xh j).2 ∧ Pair 108 wr b8 (lstP yl yh xl xh j).1 (lstP yl yh xl xh j).2 ∧ Pair 23 wr (w.heap.size + 1 + 1) 0 0 ∧ Below w.heap.size w wr) (fun t _ => (4 - loOf t).toNat)
      case atStart => exact ⟨0, by omega, rfl, KF.out, KL.out, KR.out, HBc.out⟩
      case round =>
        clear KF KL KR HBc a0 a1 a2 a3 a4 a5 a6 a7 lA
        obtain ⟨j, hj, rfl, kF, kL, kR, hb⟩ := hrel
        have lF := kF.lt
        have lL := kL.lt
        rcases (show j = 0 ∨ j = 1 ∨ j = 2 ∨ j = 3 ∨ j = 4 by omega) with rfl | rfl | rfl | rfl | rfl
        · have hj : True := trivial
          have XJ := idx0 xl yl xl yh xh yl xh yh
          have hf1 : fstP yl yh xl xh (0 + 1) = if bef (xl, yl) (fstP yl yh xl xh 0) then (xl, yl) else fstP yl yh xl xh 0 := rfl
          have hl1 : lstP yl yh xl xh (0 + 1) = if bef (lstP yl yh xl xh 0) (xl, yl) then (xl, yl) else lstP yl yh xl xh 0 := rfl
          have hm := fst_mem yl yh xl xh 0
          have hn := lst_mem yl yh xl xh 0
          generalize fstP yl yh xl xh 0 = F at *
          generalize lstP yl yh xl xh 0 = L at *
          obtain ⟨fa, fb⟩ := F
          obtain ⟨la, lb⟩ := L
          simp only at kF kL hm hn
          have g1 : -2147483648 ≤ fa ∧ fa ≤ 2147483648 := by omega
          have g2 : -2147483648 ≤ fb ∧ fb ≤ 2147483648 := by omega
          have g3 : -2147483648 ≤ la ∧ la ≤ 2147483648 := by omega
          have g4 : -2147483648 ≤ lb ∧ lb ≤ 2147483648 := by omega
          have H1 := Lib.hid (before_any xl yl fa fb (by omega) (by omega) g1 g2)
          have H2 := Lib.hid (before_any la lb xl yl g3 g4 (by omega) (by omega))
          change Hid (∀ w, Calls Tryz.prog 70 #[pairV xl yl, pairV fa fb] w (GPost (.bool (bef (xl, yl) (fa, fb))) w)) at H1
          change Hid (∀ w, Calls Tryz.prog 70 #[pairV la lb, pairV xl yl] w (GPost (.bool (bef (la, lb) (xl, yl))) w)) at H2
          generalize bef (xl, yl) (fa, fb) = B1 at *
          generalize bef (la, lb) (xl, yl) = B2 at *
          have hf1 := Lib.hid hf1
          have hl1 := Lib.hid hl1
          clear hm hn g1 g2 g3 g4
          have lF := kF.lt
          have lL := kL.lt
          obtain ⟨⟨p0, p1⟩, p2, p3⟩ := keep2 kF
          obtain ⟨⟨q0, q1⟩, q2, q3⟩ := keep2 kL
          have KF := Lib.hid (kF.alloc (.cells #[.int .i64 xl, .int .i64 yl] 108))
          have KL := Lib.hid (kL.alloc (.cells #[.int .i64 xl, .int .i64 yl] 108))
          have KR := Lib.hid (kR.alloc (.cells #[.int .i64 xl, .int .i64 yl] 108))
          have KC := Lib.hid (show Pair 108 _ wr.heap.size xl yl from heap_alloc_new wr (.cells #[.int .i64 xl, .int .i64 yl] 108))
          have HB := Lib.hid (hb.alloc (by have := hb.size; omega) (.cells #[.int .i64 xl, .int .i64 yl] 108))
          have hc7 : b7 ≠ wr.heap.size := by omega
          have hc8 : b8 ≠ wr.heap.size := by omega
          clear kF kL kR hb hj
          unfold pairV at H1 H2
          go_wp2_with fail
          refine (H1.out _).mono ?_
          rintro e w3 ⟨rfl, hb⟩
          have kF := pair_below hb KF.out
          have kL := pair_below hb KL.out
          have kC := pair_below hb KC.out
          have KR := Lib.hid (pair_below hb KR.out)
          have HB := Lib.hid (HB.out.trans (hb.mono HB.out.size))
          clear hb KF KL KC p0 p1 p2 p3 q0 q1 q2 q3
          have lC := kC.lt
          have lF := kF.lt
          have lL := kL.lt
          obtain ⟨⟨p0, p1⟩, p2, p3⟩ := keep2 kF
          obtain ⟨⟨q0, q1⟩, q2, q3⟩ := keep2 kL
          obtain ⟨⟨s0, s1⟩, s2, s3⟩ := keep2 kC
          cases B1
          · have hz : True := trivial
            go_wp2_with fail
            refine (H2.out _).mono ?_
            rintro e w4 ⟨rfl, hb⟩
            have kF := pair_below hb kF
            have kL := pair_below hb kL
            have kC := pair_below hb kC
            have KR := Lib.hid (pair_below hb KR.out)
            have HB := Lib.hid (HB.out.trans (hb.mono HB.out.size))
            have lC := kC.lt
            have lF := kF.lt
            have lL := kL.lt
            obtain ⟨⟨p0, p1⟩, p2, p3⟩ := keep2 kF
            obtain ⟨⟨q0, q1⟩, q2, q3⟩ := keep2 kL
            obtain ⟨⟨s0, s1⟩, s2, s3⟩ := keep2 kC
            clear hb
            cases B2
            · have KF := Lib.hid kF
              have KL := Lib.hid kL
              clear kF kL kC
              go_wp2
              go_roundw
              case rel => exact ⟨1, by omega, rfl, by rw [hf1.out]; exact KF.out, by rw [hl1.out]; exact KL.out, KR.out, HB.out⟩
              case measure => decide
            · have KF := Lib.hid (kF.other h78 (.int .i64 xl) (.int .i64 yl))
              have KL := Lib.hid (kL.write xl yl)
              have KR := Lib.hid (KR.out.other (b' := b8) (by omega) (.int .i64 xl) (.int .i64 yl))
              have HB := Lib.hid ((HB.out.setCell (p := ⟨b8, 0, none⟩) (by simp; omega) (.int .i64 xl)).setCell (p := ⟨b8, 1, none⟩) (by simp; omega) (.int .i64 yl))
              clear kF kL kC
              go_wp2
              go_roundw
              case rel => exact ⟨1, by omega, rfl, by rw [hf1.out]; exact KF.out, by rw [hl1.out]; exact KL.out, KR.out, HB.out⟩
              case measure => decide
          · have kF := kF.write xl yl
            have kL := kL.other (b' := b7) h78.symm (.int .i64 xl) (.int .i64 yl)
            have kC := kC.other (b' := b7) hc7.symm (.int .i64 xl) (.int .i64 yl)
            have KR := Lib.hid (KR.out.other (b' := b7) (by omega) (.int .i64 xl) (.int .i64 yl))
            have HB := Lib.hid ((HB.out.setCell (p := ⟨b7, 0, none⟩) (by simp; omega) (.int .i64 xl)).setCell (p := ⟨b7, 1, none⟩) (by simp; omega) (.int .i64 yl))
            have lF := kF.lt
            have lL := kL.lt
            have lC := kC.lt
            obtain ⟨⟨i0, i1⟩, i2, i3⟩ := keep2 kF
            obtain ⟨⟨m0, m1⟩, m2, m3⟩ := keep2 kL
            obtain ⟨⟨n0, n1⟩, n2, n3⟩ := keep2 kC
            go_wp2_with fail
            generalize (w3.setCell ⟨b7, 0, none⟩ (.int .i64 xl)).setCell ⟨b7, 1, none⟩ (.int .i64 yl) = w3 at *
            refine (H2.out _).mono ?_
            rintro e w4 ⟨rfl, hb⟩
            have kF := pair_below hb kF
            have kL := pair_below hb kL
            have kC := pair_below hb kC
            have KR := Lib.hid (pair_below hb KR.out)
            have HB := Lib.hid (HB.out.trans (hb.mono HB.out.size))
            have lC := kC.lt
            have lF := kF.lt
            have lL := kL.lt
            obtain ⟨⟨p0, p1⟩, p2, p3⟩ := keep2 kF
            obtain ⟨⟨q0, q1⟩, q2, q3⟩ := keep2 kL
            obtain ⟨⟨s0, s1⟩, s2, s3⟩ := keep2 kC
            clear hb
            cases B2
            · have KF := Lib.hid kF
              have KL := Lib.hid kL
              clear kF kL kC
              go_wp2
              go_roundw
              case rel => exact ⟨1, by omega, rfl, by rw [hf1.out]; exact KF.out, by rw [hl1.out]; exact KL.out, KR.out, HB.out⟩
              case measure => decide
            · have KF := Lib.hid (kF.other h78 (.int .i64 xl) (.int .i64 yl))
              have KL := Lib.hid (kL.write xl yl)
              have KR := Lib.hid (KR.out.other (b' := b8) (by omega) (.int .i64 xl) (.int .i64 yl))
              have HB := Lib.hid ((HB.out.setCell (p := ⟨b8, 0, none⟩) (by simp; omega) (.int .i64 xl)).setCell (p := ⟨b8, 1, none⟩) (by simp; omega) (.int .i64 yl))
              clear kF kL kC
              go_wp2
              go_roundw
              case rel => exact ⟨1, by omega, rfl, by rw [hf1.out]; exact KF.out, by rw [hl1.out]; exact KL.out, KR.out, HB.out⟩
              case measure => decide
        · have hj : True := trivial
          have XJ := idx1 xl yl xl yh xh yl xh yh
          have hf1 : fstP yl yh xl xh (1 + 1) = if bef (xl, yh) (fstP yl yh xl xh 1) then (xl, yh) else fstP yl yh xl xh 1 := rfl
          have hl1 : lstP yl yh xl xh (1 + 1) = if bef (lstP yl yh xl xh 1) (xl, yh) then (xl, yh) else lstP yl yh xl xh 1 := rfl
          have hm := fst_mem yl yh xl xh 1
          have hn := lst_mem yl yh xl xh 1
          generalize fstP yl yh xl xh 1 = F at *
          generalize lstP yl yh xl xh 1 = L at *
          obtain ⟨fa, fb⟩ := F
          obtain ⟨la, lb⟩ := L
          simp only at kF kL hm hn
          have g1 : -2147483648 ≤ fa ∧ fa ≤ 2147483648 := by omega
          have g2 : -2147483648 ≤ fb ∧ fb ≤ 2147483648 := by omega
          have g3 : -2147483648 ≤ la ∧ la ≤ 2147483648 := by omega
          have g4 : -2147483648 ≤ lb ∧ lb ≤ 2147483648 := by omega
          have H1 := Lib.hid (before_any xl yh fa fb (by omega) (by omega) g1 g2)
          have H2 := Lib.hid (before_any la lb xl yh g3 g4 (by omega) (by omega))
          change Hid (∀ w, Calls Tryz.prog 70 #[pairV xl yh, pairV fa fb] w (GPost (.bool (bef (xl, yh) (fa, fb))) w)) at H1
          change Hid (∀ w, Calls Tryz.prog 70 #[pairV la lb, pairV xl yh] w (GPost (.bool (bef (la, lb) (xl, yh))) w)) at H2
          generalize bef (xl, yh) (fa, fb) = B1 at *
          generalize bef (la, lb) (xl, yh) = B2 at *
          have hf1 := Lib.hid hf1
          have hl1 := Lib.hid hl1
          clear hm hn g1 g2 g3 g4
          have lF := kF.lt
          have lL := kL.lt
          obtain ⟨⟨p0, p1⟩, p2, p3⟩ := keep2 kF
          obtain ⟨⟨q0, q1⟩, q2, q3⟩ := keep2 kL
          have KF := Lib.hid (kF.alloc (.cells #[.int .i64 xl, .int .i64 yh] 108))
          have KL := Lib.hid (kL.alloc (.cells #[.int .i64 xl, .int .i64 yh] 108))
          have KR := Lib.hid (kR.alloc (.cells #[.int .i64 xl, .int .i64 yh] 108))
          have KC := Lib.hid (show Pair 108 _ wr.heap.size xl yh from heap_alloc_new wr (.cells #[.int .i64 xl, .int .i64 yh] 108))
          have HB := Lib.hid (hb.alloc (by have := hb.size; omega) (.cells #[.int .i64 xl, .int .i64 yh] 108))
          have hc7 : b7 ≠ wr.heap.size := by omega
          have hc8 : b8 ≠ wr.heap.size := by omega
          clear kF kL kR hb hj
          unfold pairV at H1 H2
          go_wp2_with fail
          refine (H1.out _).mono ?_
          rintro e w3 ⟨rfl, hb⟩
          have kF := pair_below hb KF.out
          have kL := pair_below hb KL.out
          have kC := pair_below hb KC.out
          have KR := Lib.hid (pair_below hb KR.out)
          have HB := Lib.hid (HB.out.trans (hb.mono HB.out.size))
          clear hb KF KL KC p0 p1 p2 p3 q0 q1 q2 q3
          have lC := kC.lt
          have lF := kF.lt
          have lL := kL.lt
          obtain ⟨⟨p0, p1⟩, p2, p3⟩ := keep2 kF
          obtain ⟨⟨q0, q1⟩, q2, q3⟩ := keep2 kL
          obtain ⟨⟨s0, s1⟩, s2, s3⟩ := keep2 kC
          cases B1
          · have hz : True := trivial
            go_wp2_with fail
            refine (H2.out _).mono ?_
            rintro e w4 ⟨rfl, hb⟩
            have kF := pair_below hb kF
            have kL := pair_below hb kL
            have kC := pair_below hb kC
            have KR := Lib.hid (pair_below hb KR.out)
            have HB := Lib.hid (HB.out.trans (hb.mono HB.out.size))
            have lC := kC.lt
            have lF := kF.lt
            have lL := kL.lt
            obtain ⟨⟨p0, p1⟩, p2, p3⟩ := keep2 kF
            obtain ⟨⟨q0, q1⟩, q2, q3⟩ := keep2 kL
            obtain ⟨⟨s0, s1⟩, s2, s3⟩ := keep2 kC
            clear hb
            cases B2
            · have KF := Lib.hid kF
              have KL := Lib.hid kL
              clear kF kL kC
              go_wp2
              go_roundw
              case rel => exact ⟨2, by omega, rfl, by rw [hf1.out]; exact KF.out, by rw [hl1.out]; exact KL.out, KR.out, HB.out⟩
              case measure => decide
            · have KF := Lib.hid (kF.other h78 (.int .i64 xl) (.int .i64 yh))
              have KL := Lib.hid (kL.write xl yh)
              have KR := Lib.hid (KR.out.other (b' := b8) (by omega) (.int .i64 xl) (.int .i64 yh))
              have HB := Lib.hid ((HB.out.setCell (p := ⟨b8, 0, none⟩) (by simp; omega) (.int .i64 xl)).setCell (p := ⟨b8, 1, none⟩) (by simp; omega) (.int .i64 yh))
              clear kF kL kC
              go_wp2
              go_roundw
              case rel => exact ⟨2, by omega, rfl, by rw [hf1.out]; exact KF.out, by rw [hl1.out]; exact KL.out, KR.out, HB.out⟩
              case measure => decide
          · have kF := kF.write xl yh
            have kL := kL.other (b' := b7) h78.symm (.int .i64 xl) (.int .i64 yh)
            have kC := kC.other (b' := b7) hc7.symm (.int .i64 xl) (.int .i64 yh)
            have KR := Lib.hid (KR.out.other (b' := b7) (by omega) (.int .i64 xl) (.int .i64 yh))
            have HB := Lib.hid ((HB.out.setCell (p := ⟨b7, 0, none⟩) (by simp; omega) (.int .i64 xl)).setCell (p := ⟨b7, 1, none⟩) (by simp; omega) (.int .i64 yh))
            have lF := kF.lt
            have lL := kL.lt
            have lC := kC.lt
            obtain ⟨⟨i0, i1⟩, i2, i3⟩ := keep2 kF
            obtain ⟨⟨m0, m1⟩, m2, m3⟩ := keep2 kL
            obtain ⟨⟨n0, n1⟩, n2, n3⟩ := keep2 kC
            go_wp2_with fail
            generalize (w3.setCell ⟨b7, 0, none⟩ (.int .i64 xl)).setCell ⟨b7, 1, none⟩ (.int .i64 yh) = w3 at *
            refine (H2.out _).mono ?_
            rintro e w4 ⟨rfl, hb⟩
            have kF := pair_below hb kF
            have kL := pair_below hb kL
            have kC := pair_below hb kC
            have KR := Lib.hid (pair_below hb KR.out)
            have HB := Lib.hid (HB.out.trans (hb.mono HB.out.size))
            have lC := kC.lt
            have lF := kF.lt
            have lL := kL.lt
            obtain ⟨⟨p0, p1⟩, p2, p3⟩ := keep2 kF
            obtain ⟨⟨q0, q1⟩, q2, q3⟩ := keep2 kL
            obtain ⟨⟨s0, s1⟩, s2, s3⟩ := keep2 kC
            clear hb
            cases B2
            · have KF := Lib.hid kF
              have KL := Lib.hid kL
              clear kF kL kC
              go_wp2
              go_roundw
              case rel => exact ⟨2, by omega, rfl, by rw [hf1.out]; exact KF.out, by rw [hl1.out]; exact KL.out, KR.out, HB.out⟩
              case measure => decide
            · have KF := Lib.hid (kF.other h78 (.int .i64 xl) (.int .i64 yh))
              have KL := Lib.hid (kL.write xl yh)
              have KR := Lib.hid (KR.out.other (b' := b8) (by omega) (.int .i64 xl) (.int .i64 yh))
              have HB := Lib.hid ((HB.out.setCell (p := ⟨b8, 0, none⟩) (by simp; omega) (.int .i64 xl)).setCell (p := ⟨b8, 1, none⟩) (by simp; omega) (.int .i64 yh))
              clear kF kL kC
              go_wp2
              go_roundw
              case rel => exact ⟨2, by omega, rfl, by rw [hf1.out]; exact KF.out, by rw [hl1.out]; exact KL.out, KR.out, HB.out⟩
              case measure => decide
        · have hj : True := trivial
          have XJ := idx2 xl yl xl yh xh yl xh yh
          have hf1 : fstP yl yh xl xh (2 + 1) = if bef (xh, yl) (fstP yl yh xl xh 2) then (xh, yl) else fstP yl yh xl xh 2 := rfl
          have hl1 : lstP yl yh xl xh (2 + 1) = if bef (lstP yl yh xl xh 2) (xh, yl) then (xh, yl) else lstP yl yh xl xh 2 := rfl
          have hm := fst_mem yl yh xl xh 2
          have hn := lst_mem yl yh xl xh 2
          generalize fstP yl yh xl xh 2 = F at *
          generalize lstP yl yh xl xh 2 = L at *
          obtain ⟨fa, fb⟩ := F
          obtain ⟨la, lb⟩ := L
          simp only at kF kL hm hn
          have g1 : -2147483648 ≤ fa ∧ fa ≤ 2147483648 := by omega
          have g2 : -2147483648 ≤ fb ∧ fb ≤ 2147483648 := by omega
          have g3 : -2147483648 ≤ la ∧ la ≤ 2147483648 := by omega
          have g4 : -2147483648 ≤ lb ∧ lb ≤ 2147483648 := by omega
          have H1 := Lib.hid (before_any xh yl fa fb (by omega) (by omega) g1 g2)
          have H2 := Lib.hid (before_any la lb xh yl g3 g4 (by omega) (by omega))
          change Hid (∀ w, Calls Tryz.prog 70 #[pairV xh yl, pairV fa fb] w (GPost (.bool (bef (xh, yl) (fa, fb))) w)) at H1
          change Hid (∀ w, Calls Tryz.prog 70 #[pairV la lb, pairV xh yl] w (GPost (.bool (bef (la, lb) (xh, yl))) w)) at H2
          generalize bef (xh, yl) (fa, fb) = B1 at *
          generalize bef (la, lb) (xh, yl) = B2 at *
          have hf1 := Lib.hid hf1
          have hl1 := Lib.hid hl1
          clear hm hn g1 g2 g3 g4
          have lF := kF.lt
          have lL := kL.lt
          obtain ⟨⟨p0, p1⟩, p2, p3⟩ := keep2 kF
          obtain ⟨⟨q0, q1⟩, q2, q3⟩ := keep2 kL
          have KF := Lib.hid (kF.alloc (.cells #[.int .i64 xh, .int .i64 yl] 108))
          have KL := Lib.hid (kL.alloc (.cells #[.int .i64 xh, .int .i64 yl] 108))
          have KR := Lib.hid (kR.alloc (.cells #[.int .i64 xh, .int .i64 yl] 108))
          have KC := Lib.hid (show Pair 108 _ wr.heap.size xh yl from heap_alloc_new wr (.cells #[.int .i64 xh, .int .i64 yl] 108))
          have HB := Lib.hid (hb.alloc (by have := hb.size; omega) (.cells #[.int .i64 xh, .int .i64 yl] 108))
          have hc7 : b7 ≠ wr.heap.size := by omega
          have hc8 : b8 ≠ wr.heap.size := by omega
          clear kF kL kR hb hj
          unfold pairV at H1 H2
          go_wp2_with fail
          refine (H1.out _).mono ?_
          rintro e w3 ⟨rfl, hb⟩
          have kF := pair_below hb KF.out
          have kL := pair_below hb KL.out
          have kC := pair_below hb KC.out
          have KR := Lib.hid (pair_below hb KR.out)
          have HB := Lib.hid (HB.out.trans (hb.mono HB.out.size))
          clear hb KF KL KC p0 p1 p2 p3 q0 q1 q2 q3
          have lC := kC.lt
          have lF := kF.lt
          have lL := kL.lt
          obtain ⟨⟨p0, p1⟩, p2, p3⟩ := keep2 kF
          obtain ⟨⟨q0, q1⟩, q2, q3⟩ := keep2 kL
          obtain ⟨⟨s0, s1⟩, s2, s3⟩ := keep2 kC
          cases B1
          · have hz : True := trivial
            go_wp2_with fail
            refine (H2.out _).mono ?_
            rintro e w4 ⟨rfl, hb⟩
            have kF := pair_below hb kF
            have kL := pair_below hb kL
            have kC := pair_below hb kC
            have KR := Lib.hid (pair_below hb KR.out)
            have HB := Lib.hid (HB.out.trans (hb.mono HB.out.size))
            have lC := kC.lt
            have lF := kF.lt
            have lL := kL.lt
            obtain ⟨⟨p0, p1⟩, p2, p3⟩ := keep2 kF
            obtain ⟨⟨q0, q1⟩, q2, q3⟩ := keep2 kL
            obtain ⟨⟨s0, s1⟩, s2, s3⟩ := keep2 kC
            clear hb
            cases B2
            · have KF := Lib.hid kF
              have KL := Lib.hid kL
              clear kF kL kC
              go_wp2
              go_roundw
              case rel => exact ⟨3, by omega, rfl, by rw [hf1.out]; exact KF.out, by rw [hl1.out]; exact KL.out, KR.out, HB.out⟩
              case measure => decide
            · have KF := Lib.hid (kF.other h78 (.int .i64 xh) (.int .i64 yl))
              have KL := Lib.hid (kL.write xh yl)
              have KR := Lib.hid (KR.out.other (b' := b8) (by omega) (.int .i64 xh) (.int .i64 yl))
              have HB := Lib.hid ((HB.out.setCell (p := ⟨b8, 0, none⟩) (by simp; omega) (.int .i64 xh)).setCell (p := ⟨b8, 1, none⟩) (by simp; omega) (.int .i64 yl))
              clear kF kL kC
              go_wp2
              go_roundw
              case rel => exact ⟨3, by omega, rfl, by rw [hf1.out]; exact KF.out, by rw [hl1.out]; exact KL.out, KR.out, HB.out⟩
              case measure => decide
          · have kF := kF.write xh yl
            have kL := kL.other (b' := b7) h78.symm (.int .i64 xh) (.int .i64 yl)
            have kC := kC.other (b' := b7) hc7.symm (.int .i64 xh) (.int .i64 yl)
            have KR := Lib.hid (KR.out.other (b' := b7) (by omega) (.int .i64 xh) (.int .i64 yl))
            have HB := Lib.hid ((HB.out.setCell (p := ⟨b7, 0, none⟩) (by simp; omega) (.int .i64 xh)).setCell (p := ⟨b7, 1, none⟩) (by simp; omega) (.int .i64 yl))
            have lF := kF.lt
            have lL := kL.lt
            have lC := kC.lt
            obtain ⟨⟨i0, i1⟩, i2, i3⟩ := keep2 kF
            obtain ⟨⟨m0, m1⟩, m2, m3⟩ := keep2 kL
            obtain ⟨⟨n0, n1⟩, n2, n3⟩ := keep2 kC
            go_wp2_with fail
            generalize (w3.setCell ⟨b7, 0, none⟩ (.int .i64 xh)).setCell ⟨b7, 1, none⟩ (.int .i64 yl) = w3 at *
            refine (H2.out _).mono ?_
            rintro e w4 ⟨rfl, hb⟩
            have kF := pair_below hb kF
            have kL := pair_below hb kL
            have kC := pair_below hb kC
            have KR := Lib.hid (pair_below hb KR.out)
            have HB := Lib.hid (HB.out.trans (hb.mono HB.out.size))
            have lC := kC.lt
            have lF := kF.lt
            have lL := kL.lt
            obtain ⟨⟨p0, p1⟩, p2, p3⟩ := keep2 kF
            obtain ⟨⟨q0, q1⟩, q2, q3⟩ := keep2 kL
            obtain ⟨⟨s0, s1⟩, s2, s3⟩ := keep2 kC
            clear hb
            cases B2
            · have KF := Lib.hid kF
              have KL := Lib.hid kL
              clear kF kL kC
              go_wp2
              go_roundw
              case rel => exact ⟨3, by omega, rfl, by rw [hf1.out]; exact KF.out, by rw [hl1.out]; exact KL.out, KR.out, HB.out⟩
              case measure => decide
            · have KF := Lib.hid (kF.other h78 (.int .i64 xh) (.int .i64 yl))
              have KL := Lib.hid (kL.write xh yl)
              have KR := Lib.hid (KR.out.other (b' := b8) (by omega) (.int .i64 xh) (.int .i64 yl))
              have HB := Lib.hid ((HB.out.setCell (p := ⟨b8, 0, none⟩) (by simp; omega) (.int .i64 xh)).setCell (p := ⟨b8, 1, none⟩) (by simp; omega) (.int .i64 yl))
              clear kF kL kC
              go_wp2
              go_roundw
              case rel => exact ⟨3, by omega, rfl, by rw [hf1.out]; exact KF.out, by rw [hl1.out]; exact KL.out, KR.out, HB.out⟩
              case measure => decide
        · have hj : True := trivial
          have XJ := idx3 xl yl xl yh xh yl xh yh
          have hf1 : fstP yl yh xl xh (3 + 1) = if bef (xh, yh) (fstP yl yh xl xh 3) then (xh, yh) else fstP yl yh xl xh 3 := rfl
          have hl1 : lstP yl yh xl xh (3 + 1) = if bef (lstP yl yh xl xh 3) (xh, yh) then (xh, yh) else lstP yl yh xl xh 3 := rfl
          have hm := fst_mem yl yh xl xh 3
          have hn := lst_mem yl yh xl xh 3
          generalize fstP yl yh xl xh 3 = F at *
          generalize lstP yl yh xl xh 3 = L at *
          obtain ⟨fa, fb⟩ := F
          obtain ⟨la, lb⟩ := L
          simp only at kF kL hm hn
          have g1 : -2147483648 ≤ fa ∧ fa ≤ 2147483648 := by omega
          have g2 : -2147483648 ≤ fb ∧ fb ≤ 2147483648 := by omega
          have g3 : -2147483648 ≤ la ∧ la ≤ 2147483648 := by omega
          have g4 : -2147483648 ≤ lb ∧ lb ≤ 2147483648 := by omega
          have H1 := Lib.hid (before_any xh yh fa fb (by omega) (by omega) g1 g2)
          have H2 := Lib.hid (before_any la lb xh yh g3 g4 (by omega) (by omega))
          change Hid (∀ w, Calls Tryz.prog 70 #[pairV xh yh, pairV fa fb] w (GPost (.bool (bef (xh, yh) (fa, fb))) w)) at H1
          change Hid (∀ w, Calls Tryz.prog 70 #[pairV la lb, pairV xh yh] w (GPost (.bool (bef (la, lb) (xh, yh))) w)) at H2
          generalize bef (xh, yh) (fa, fb) = B1 at *
          generalize bef (la, lb) (xh, yh) = B2 at *
          have hf1 := Lib.hid hf1
          have hl1 := Lib.hid hl1
          clear hm hn g1 g2 g3 g4
          have lF := kF.lt
          have lL := kL.lt
          obtain ⟨⟨p0, p1⟩, p2, p3⟩ := keep2 kF
          obtain ⟨⟨q0, q1⟩, q2, q3⟩ := keep2 kL
          have KF := Lib.hid (kF.alloc (.cells #[.int .i64 xh, .int .i64 yh] 108))
          have KL := Lib.hid (kL.alloc (.cells #[.int .i64 xh, .int .i64 yh] 108))
          have KR := Lib.hid (kR.alloc (.cells #[.int .i64 xh, .int .i64 yh] 108))
          have KC := Lib.hid (show Pair 108 _ wr.heap.size xh yh from heap_alloc_new wr (.cells #[.int .i64 xh, .int .i64 yh] 108))
          have HB := Lib.hid (hb.alloc (by have := hb.size; omega) (.cells #[.int .i64 xh, .int .i64 yh] 108))
          have hc7 : b7 ≠ wr.heap.size := by omega
          have hc8 : b8 ≠ wr.heap.size := by omega
          clear kF kL kR hb hj
          unfold pairV at H1 H2
          go_wp2_with fail
          refine (H1.out _).mono ?_
          rintro e w3 ⟨rfl, hb⟩
          have kF := pair_below hb KF.out
          have kL := pair_below hb KL.out
          have kC := pair_below hb KC.out
          have KR := Lib.hid (pair_below hb KR.out)
          have HB := Lib.hid (HB.out.trans (hb.mono HB.out.size))
          clear hb KF KL KC p0 p1 p2 p3 q0 q1 q2 q3
          have lC := kC.lt
          have lF := kF.lt
          have lL := kL.lt
          obtain ⟨⟨p0, p1⟩, p2, p3⟩ := keep2 kF
          obtain ⟨⟨q0, q1⟩, q2, q3⟩ := keep2 kL
          obtain ⟨⟨s0, s1⟩, s2, s3⟩ := keep2 kC
          cases B1
          · have hz : True := trivial
            go_wp2_with fail
            refine (H2.out _).mono ?_
            rintro e w4 ⟨rfl, hb⟩
            have kF := pair_below hb kF
            have kL := pair_below hb kL
            have kC := pair_below hb kC
            have KR := Lib.hid (pair_below hb KR.out)
            have HB := Lib.hid (HB.out.trans (hb.mono HB.out.size))
            have lC := kC.lt
            have lF := kF.lt
            have lL := kL.lt
            obtain ⟨⟨p0, p1⟩, p2, p3⟩ := keep2 kF
            obtain ⟨⟨q0, q1⟩, q2, q3⟩ := keep2 kL
            obtain ⟨⟨s0, s1⟩, s2, s3⟩ := keep2 kC
            clear hb
            cases B2
            · have KF := Lib.hid kF
              have KL := Lib.hid kL
              clear kF kL kC
              go_wp2
              go_roundw
              case rel => exact ⟨4, by omega, rfl, by rw [hf1.out]; exact KF.out, by rw [hl1.out]; exact KL.out, KR.out, HB.out⟩
              case measure => decide
            · have KF := Lib.hid (kF.other h78 (.int .i64 xh) (.int .i64 yh))
              have KL := Lib.hid (kL.write xh yh)
              have KR := Lib.hid (KR.out.other (b' := b8) (by omega) (.int .i64 xh) (.int .i64 yh))
              have HB := Lib.hid ((HB.out.setCell (p := ⟨b8, 0, none⟩) (by simp; omega) (.int .i64 xh)).setCell (p := ⟨b8, 1, none⟩) (by simp; omega) (.int .i64 yh))
              clear kF kL kC
              go_wp2
              go_roundw
              case rel => exact ⟨4, by omega, rfl, by rw [hf1.out]; exact KF.out, by rw [hl1.out]; exact KL.out, KR.out, HB.out⟩
              case measure => decide
          · have kF := kF.write xh yh
            have kL := kL.other (b' := b7) h78.symm (.int .i64 xh) (.int .i64 yh)
            have kC := kC.other (b' := b7) hc7.symm (.int .i64 xh) (.int .i64 yh)
            have KR := Lib.hid (KR.out.other (b' := b7) (by omega) (.int .i64 xh) (.int .i64 yh))
            have HB := Lib.hid ((HB.out.setCell (p := ⟨b7, 0, none⟩) (by simp; omega) (.int .i64 xh)).setCell (p := ⟨b7, 1, none⟩) (by simp; omega) (.int .i64 yh))
            have lF := kF.lt
            have lL := kL.lt
            have lC := kC.lt
            obtain ⟨⟨i0, i1⟩, i2, i3⟩ := keep2 kF
            obtain ⟨⟨m0, m1⟩, m2, m3⟩ := keep2 kL
            obtain ⟨⟨n0, n1⟩, n2, n3⟩ := keep2 kC
            go_wp2_with fail
            generalize (w3.setCell ⟨b7, 0, none⟩ (.int .i64 xh)).setCell ⟨b7, 1, none⟩ (.int .i64 yh) = w3 at *
            refine (H2.out _).mono ?_
            rintro e w4 ⟨rfl, hb⟩
            have kF := pair_below hb kF
            have kL := pair_below hb kL
            have kC := pair_below hb kC
            have KR := Lib.hid (pair_below hb KR.out)
            have HB := Lib.hid (HB.out.trans (hb.mono HB.out.size))
            have lC := kC.lt
            have lF := kF.lt
            have lL := kL.lt
            obtain ⟨⟨p0, p1⟩, p2, p3⟩ := keep2 kF
            obtain ⟨⟨q0, q1⟩, q2, q3⟩ := keep2 kL
            obtain ⟨⟨s0, s1⟩, s2, s3⟩ := keep2 kC
            clear hb
            cases B2
            · have KF := Lib.hid kF
              have KL := Lib.hid kL
              clear kF kL kC
              go_wp2
              go_roundw
              case rel => exact ⟨4, by omega, rfl, by rw [hf1.out]; exact KF.out, by rw [hl1.out]; exact KL.out, KR.out, HB.out⟩
              case measure => decide
            · have KF := Lib.hid (kF.other h78 (.int .i64 xh) (.int .i64 yh))
              have KL := Lib.hid (kL.write xh yh)
              have KR := Lib.hid (KR.out.other (b' := b8) (by omega) (.int .i64 xh) (.int .i64 yh))
              have HB := Lib.hid ((HB.out.setCell (p := ⟨b8, 0, none⟩) (by simp; omega) (.int .i64 xh)).setCell (p := ⟨b8, 1, none⟩) (by simp; omega) (.int .i64 yh))
              clear kF kL kC
              go_wp2
              go_roundw
              case rel => exact ⟨4, by omega, rfl, by rw [hf1.out]; exact KF.out, by rw [hl1.out]; exact KL.out, KR.out, HB.out⟩
              case measure => decide
        · have hm := fst_mem yl yh xl xh 4
          have hn := lst_mem yl yh xl xh 4
          generalize fstP yl yh xl xh 4 = F at *
          generalize lstP yl yh xl xh 4 = L at *
          obtain ⟨fa, fb⟩ := F
          obtain ⟨la, lb⟩ := L
          simp only at kF kL hm hn
          have hV := hV.out
          simp only at hV
          have ho := HO.out
          have H1 := angle_any fa fb (by omega) (by omega) (by omega)
          have H2 := angle_any la lb (by omega) (by omega) (by omega)
          obtain ⟨g1, g2⟩ := angF_bd fa fb
          obtain ⟨g3, g4⟩ := angF_bd la lb
          generalize angF fa fb = A1 at *
          generalize excF fa fb = E1 at *
          generalize angF la lb = A2 at *
          generalize excF la lb = E2 at *
          replace H1 := Lib.hid H1
          replace H2 := Lib.hid H2
          replace hV := Lib.hid hV
          obtain ⟨⟨p0, p1⟩, p2, p3⟩ := keep2 kF
          obtain ⟨⟨q0, q1⟩, q2, q3⟩ := keep2 kL
          have KL := Lib.hid kL
          have KR := Lib.hid kR
          have HB := Lib.hid hb
          clear kF kL kR hb hm hn ho hj
          unfold pairV at H1 H2
          go_wp2_with fail
          refine (H1.out _).mono ?_
          rintro e w3 ⟨rfl, hb⟩
          have kL := pair_below hb KL.out
          have KR := Lib.hid (pair_below hb KR.out)
          have HB := Lib.hid (HB.out.trans (hb.mono HB.out.size))
          have lL := kL.lt
          obtain ⟨⟨q0, q1⟩, q2, q3⟩ := keep2 kL
          clear hb kL KL
          go_wp2_with fail
          refine (H2.out _).mono ?_
          rintro e w4 ⟨rfl, hb⟩
          have kR := pair_below hb KR.out
          have HB := Lib.hid (HB.out.trans (hb.mono HB.out.size))
          have lR := kR.lt
          obtain ⟨⟨r0, r1⟩, r2, r3⟩ := keep2 kR
          have KR := Lib.hid kR
          clear hb kR H1 H2
          by_cases hh : A2 < A1
          · cases E2
            · have hU := Lib.hid (show upE A1 A2 false = A2 + 21600000 + 1 by simp [upE, hh])
              have kF := KR.out.write A1 (A2 + 21600000 + 1)
              obtain ⟨⟨s0, s1⟩, s2, s3⟩ := keep2 kF
              have HF := Lib.hid ((HB.out.setCell (p := ⟨w.heap.size + 1 + 1, 0, none⟩) (by simp; omega) (.int .i64 A1)).setCell (p := ⟨w.heap.size + 1 + 1, 1, none⟩) (by simp; omega) (.int .i64 (A2 + 21600000 + 1)))
              clear kF
              go_wp2
              refine bodyPost_ret (v := V) (by rw [hV.out, hU.out]; simp [results, Tryz.results32, go_sem, arcV, pairV, s0, s1]) rfl ⟨rfl, HF.out⟩
            · have hU := Lib.hid (show upE A1 A2 true = A2 + 21600000 by simp [upE, hh])
              have kF := KR.out.write A1 (A2 + 21600000)
              obtain ⟨⟨s0, s1⟩, s2, s3⟩ := keep2 kF
              have HF := Lib.hid ((HB.out.setCell (p := ⟨w.heap.size + 1 + 1, 0, none⟩) (by simp; omega) (.int .i64 A1)).setCell (p := ⟨w.heap.size + 1 + 1, 1, none⟩) (by simp; omega) (.int .i64 (A2 + 21600000)))
              clear kF
              go_wp2
              refine bodyPost_ret (v := V) (by rw [hV.out, hU.out]; simp [results, Tryz.results32, go_sem, arcV, pairV, s0, s1]) rfl ⟨rfl, HF.out⟩
          · cases E2
            · have hU := Lib.hid (show upE A1 A2 false = A2 + 1 by simp [upE, hh])
              have kF := KR.out.write A1 (A2 + 1)
              obtain ⟨⟨s0, s1⟩, s2, s3⟩ := keep2 kF
              have HF := Lib.hid ((HB.out.setCell (p := ⟨w.heap.size + 1 + 1, 0, none⟩) (by simp; omega) (.int .i64 A1)).setCell (p := ⟨w.heap.size + 1 + 1, 1, none⟩) (by simp; omega) (.int .i64 (A2 + 1)))
              clear kF
              go_wp2
              refine bodyPost_ret (v := V) (by rw [hV.out, hU.out]; simp [results, Tryz.results32, go_sem, arcV, pairV, s0, s1]) rfl ⟨rfl, HF.out⟩
            · have hU := Lib.hid (show upE A1 A2 true = A2 by simp [upE, hh])
              have kF := KR.out.write A1 (A2)
              obtain ⟨⟨s0, s1⟩, s2, s3⟩ := keep2 kF
              have HF := Lib.hid ((HB.out.setCell (p := ⟨w.heap.size + 1 + 1, 0, none⟩) (by simp; omega) (.int .i64 A1)).setCell (p := ⟨w.heap.size + 1 + 1, 1, none⟩) (by simp; omega) (.int .i64 (A2)))
              clear kF
              go_wp2
              refine bodyPost_ret (v := V) (by rw [hV.out, hU.out]; simp [results, Tryz.results32, go_sem, arcV, pairV, s0, s1]) rfl ⟨rfl, HF.out⟩
end Go.Proofs.YtfilgpifiboccaaGreat
namespace Go.Proofs.YtfilgpifiboccaaGreat
open Go.RowKit
theorem bear_any (yl yh xl xh : Int) (w : World) : Calls Tryz.prog 32 #[pairV yl yh, pairV xl xh] w (GPost (arcV (bearR yl yh xl xh)) w) := by
  unfold bearR
  by_cases h : (validB xl xh && validB yl yh) = false
  · rw [if_pos h]; exact bear_bad yl yh xl xh h w
  · have h2 : validB xl xh = true ∧ validB yl yh = true := by
      cases hx : validB xl xh <;> cases hy : validB yl yh <;> simp [hx, hy] at h ⊢
    rw [if_neg h]
    by_cases ho : originB yl yh xl xh = true
    · rw [if_pos ho]; exact bear_origin yl yh xl xh h2.1 h2.2 ho w
    · rw [if_neg ho]; exact bear_main yl yh xl xh h2.1 h2.2 (by simpa using ho) w
end Go.Proofs.YtfilgpifiboccaaGreat
namespace Go.Proofs.YtfilgpifiboccaaGreat
open Go.RowKit
end Go.Proofs.YtfilgpifiboccaaGreat

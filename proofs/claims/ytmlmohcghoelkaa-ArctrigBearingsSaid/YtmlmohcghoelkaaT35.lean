import Derived.Test.YtmlmohcghoelkaaT34
namespace Go.Proofs.Ytmlmohcghoelkaa
open Go.RowKit
def bef (p q : Int × Int) : Bool := decide (p.2 * q.1 ≤ p.1 * q.2)
def cor (yl yh xl xh : Int) : Nat → Int × Int
  | 0 => (xl, yl)
  | 1 => (xl, yh)
  | 2 => (xh, yl)
  | _ => (xh, yh)
def fstP (yl yh xl xh : Int) : Nat → Int × Int
  | 0 => (xl, yl)
  | j + 1 => if bef (cor yl yh xl xh j) (fstP yl yh xl xh j) then cor yl yh xl xh j else fstP yl yh xl xh j
def lstP (yl yh xl xh : Int) : Nat → Int × Int
  | 0 => (xl, yl)
  | j + 1 => if bef (lstP yl yh xl xh j) (cor yl yh xl xh j) then cor yl yh xl xh j else lstP yl yh xl xh j
/-- The upper end of the arc. -/
def upE (lo hi : Int) (ex : Bool) : Int := (if hi < lo then hi + 21600000 else hi) + (if ex then 0 else 1)
def originB (yl yh xl xh : Int) : Bool := decide (xl ≤ 0 ∧ 0 ≤ xh ∧ yl ≤ 0 ∧ 0 ≤ yh)
def bearR (yl yh xl xh : Int) : Int × Int × Int :=
  if (validB xl xh && validB yl yh) = false then (0, 0, 1)
  else if originB yl yh xl xh then (0, 21600000, 0)
  else (angF (fstP yl yh xl xh 4).1 (fstP yl yh xl xh 4).2, upE (angF (fstP yl yh xl xh 4).1 (fstP yl yh xl xh 4).2) (angF (lstP yl yh xl xh 4).1 (lstP yl yh xl xh 4).2) (excF (lstP yl yh xl xh 4).1 (lstP yl yh xl xh 4).2), 0)
/-- Three blocks, new. -/
theorem blk3 (w : World) (a b c : Obj) : (((w.alloc a).alloc b).alloc c).heap[w.heap.size]? = some a ∧ (((w.alloc a).alloc b).alloc c).heap[w.heap.size + 1]? = some b ∧ (((w.alloc a).alloc b).alloc c).heap[w.heap.size + 1 + 1]? = some c := by
  refine ⟨?_, ?_, ?_⟩
  · rw [Below.heap_alloc _ _ _ (by simp; omega), blk2_first]
  · rw [Below.heap_alloc _ _ _ (by simp), blk2_second]
  · have := heap_alloc_new ((w.alloc a).alloc b) c
    simpa using this
theorem cor_mem (yl yh xl xh : Int) (j : Nat) : ((cor yl yh xl xh j).1 = xl ∨ (cor yl yh xl xh j).1 = xh) ∧ ((cor yl yh xl xh j).2 = yl ∨ (cor yl yh xl xh j).2 = yh) := by
  unfold cor; split <;> simp
theorem fst_mem (yl yh xl xh : Int) : ∀ j, ((fstP yl yh xl xh j).1 = xl ∨ (fstP yl yh xl xh j).1 = xh) ∧ ((fstP yl yh xl xh j).2 = yl ∨ (fstP yl yh xl xh j).2 = yh)
  | 0 => by simp [fstP]
  | j + 1 => by
    unfold fstP; split
    · exact cor_mem _ _ _ _ _
    · exact fst_mem yl yh xl xh j
theorem lst_mem (yl yh xl xh : Int) : ∀ j, ((lstP yl yh xl xh j).1 = xl ∨ (lstP yl yh xl xh j).1 = xh) ∧ ((lstP yl yh xl xh j).2 = yl ∨ (lstP yl yh xl xh j).2 = yh)
  | 0 => by simp [lstP]
  | j + 1 => by
    unfold lstP; split
    · exact cor_mem _ _ _ _ _
    · exact lst_mem yl yh xl xh j
set_option maxRecDepth 100000 in
set_option maxHeartbeats 1000000 in
theorem bear_bad (yl yh xl xh : Int) (h : (validB xl xh && validB yl yh) = false) (w : World) : Calls Try.prog 18 #[pairV yl yh, pairV xl xh] w (GPost (arcV (0, 0, 1)) w) := by
  have HX := Lib.hid (valid_any xl xh)
  have HY := Lib.hid (valid_any yl yh)
  have b3 := blk3 w (.cells #[.int .i64 yl, .int .i64 yh] 23) (.cells #[.int .i64 xl, .int .i64 xh] 23) (.cells #[.int .i64 0, .int .i64 0] 25)
  have K2 := Lib.hid (show Pair 23 _ w.heap.size yl yh from b3.1)
  have K3 := Lib.hid (show Pair 23 _ (w.heap.size + 1) xl xh from b3.2.1)
  have K4 := Lib.hid (show Pair 25 _ (w.heap.size + 1 + 1) 0 0 from b3.2.2)
  have HB := Lib.hid ((((Below.refl w.heap.size w).alloc (Nat.le_refl _) (.cells #[.int .i64 yl, .int .i64 yh] 23)).alloc (by simp) (.cells #[.int .i64 xl, .int .i64 xh] 23)).alloc (by simp; omega) (.cells #[.int .i64 0, .int .i64 0] 25))
  clear b3
  cases hx : validB xl xh
  · rw [hx] at HX
    clear h hx HY
    unfold pairV at HX ⊢
    go_enter Try.func18, Try.ntmps18
    go_wp2_with fail
    refine (HX.out _).mono ?_
    rintro e w1 ⟨rfl, hb⟩
    have k4 := pair_below hb K4.out
    have l4 := k4.lt
    obtain ⟨⟨a0, a1⟩, a2, a3⟩ := keep2 k4
    have KF := k4.write 0 0
    obtain ⟨⟨r0, r1⟩, r2, r3⟩ := keep2 KF
    have HF := Lib.hid (((HB.out.trans (hb.mono HB.out.size)).setCell (p := ⟨w.heap.size + 1 + 1, 0, none⟩) (by simp; omega) (.int .i64 0)).setCell (p := ⟨w.heap.size + 1 + 1, 1, none⟩) (by simp; omega) (.int .i64 0))
    clear hb k4 KF
    go_wp2
    refine bodyPost_ret (v := arcV (0, 0, 1)) (by simp [results, Try.results18, go_sem, arcV, pairV, r0, r1]) rfl ⟨rfl, HF.out⟩
  · have hy : validB yl yh = false := by rw [hx] at h; simpa using h
    rw [hx] at HX
    rw [hy] at HY
    clear h hx hy
    unfold pairV at HX HY ⊢
    go_enter Try.func18, Try.ntmps18
    go_wp2_with fail
    refine (HX.out _).mono ?_
    rintro e w1 ⟨rfl, hb⟩
    have k2 := pair_below hb K2.out
    have l2 := k2.lt
    obtain ⟨⟨c0, c1⟩, c2, c3⟩ := keep2 k2
    have K4 := Lib.hid (pair_below hb K4.out)
    have HB := Lib.hid (HB.out.trans (hb.mono HB.out.size))
    clear hb k2
    go_wp2_with fail
    refine (HY.out _).mono ?_
    rintro e w2 ⟨rfl, hb⟩
    have k4 := pair_below hb K4.out
    have l4 := k4.lt
    obtain ⟨⟨a0, a1⟩, a2, a3⟩ := keep2 k4
    have KF := k4.write 0 0
    obtain ⟨⟨r0, r1⟩, r2, r3⟩ := keep2 KF
    have HF := Lib.hid (((HB.out.trans (hb.mono HB.out.size)).setCell (p := ⟨w.heap.size + 1 + 1, 0, none⟩) (by simp; omega) (.int .i64 0)).setCell (p := ⟨w.heap.size + 1 + 1, 1, none⟩) (by simp; omega) (.int .i64 0))
    clear hb k4 KF
    go_wp2
    refine bodyPost_ret (v := arcV (0, 0, 1)) (by simp [results, Try.results18, go_sem, arcV, pairV, r0, r1]) rfl ⟨rfl, HF.out⟩
set_option maxRecDepth 100000 in
set_option maxHeartbeats 1000000 in
theorem bear_origin (yl yh xl xh : Int) (hx : validB xl xh = true) (hy : validB yl yh = true) (h : originB yl yh xl xh = true) (w : World) : Calls Try.prog 18 #[pairV yl yh, pairV xl xh] w (GPost (arcV (0, 21600000, 0)) w) := by
  have HX := Lib.hid (valid_any xl xh)
  have HY := Lib.hid (valid_any yl yh)
  have b3 := blk3 w (.cells #[.int .i64 yl, .int .i64 yh] 23) (.cells #[.int .i64 xl, .int .i64 xh] 23) (.cells #[.int .i64 0, .int .i64 0] 25)
  have K2 := Lib.hid (show Pair 23 _ w.heap.size yl yh from b3.1)
  have K3 := Lib.hid (show Pair 23 _ (w.heap.size + 1) xl xh from b3.2.1)
  have K4 := Lib.hid (show Pair 25 _ (w.heap.size + 1 + 1) 0 0 from b3.2.2)
  have HB := Lib.hid ((((Below.refl w.heap.size w).alloc (Nat.le_refl _) (.cells #[.int .i64 yl, .int .i64 yh] 23)).alloc (by simp) (.cells #[.int .i64 xl, .int .i64 xh] 23)).alloc (by simp; omega) (.cells #[.int .i64 0, .int .i64 0] 25))
  clear b3
  rw [hx] at HX
  rw [hy] at HY
  clear hx hy
  simp only [originB, decide_eq_true_eq] at h
  obtain ⟨h1, h2, h3, h4⟩ := h
  unfold pairV at HX HY ⊢
  go_enter Try.func18, Try.ntmps18
  go_wp2_with fail
  refine (HX.out _).mono ?_
  rintro e w1 ⟨rfl, hb⟩
  have k2 := pair_below hb K2.out
  have l2 := k2.lt
  obtain ⟨⟨c0, c1⟩, c2, c3⟩ := keep2 k2
  have K2 := Lib.hid k2
  have K3 := Lib.hid (pair_below hb K3.out)
  have K4 := Lib.hid (pair_below hb K4.out)
  have HB := Lib.hid (HB.out.trans (hb.mono HB.out.size))
  clear hb k2
  go_wp2_with fail
  refine (HY.out _).mono ?_
  rintro e w2 ⟨rfl, hb⟩
  have k2 := pair_below hb K2.out
  have k3 := pair_below hb K3.out
  have k4 := pair_below hb K4.out
  have l2 := k2.lt
  have l3 := k3.lt
  have l4 := k4.lt
  obtain ⟨⟨d0, d1⟩, d2, d3⟩ := keep2 k2
  obtain ⟨⟨e0, e1⟩, e2, e3⟩ := keep2 k3
  obtain ⟨⟨a0, a1⟩, a2, a3⟩ := keep2 k4
  have KF := k4.write 0 21600000
  obtain ⟨⟨r0, r1⟩, r2, r3⟩ := keep2 KF
  have HF := Lib.hid (((HB.out.trans (hb.mono HB.out.size)).setCell (p := ⟨w.heap.size + 1 + 1, 0, none⟩) (by simp; omega) (.int .i64 0)).setCell (p := ⟨w.heap.size + 1 + 1, 1, none⟩) (by simp; omega) (.int .i64 21600000))
  clear hb k2 k3 k4 KF
  go_wp2
  refine bodyPost_ret (v := arcV (0, 21600000, 0)) (by simp [results, Try.results18, go_sem, arcV, pairV, r0, r1]) rfl ⟨rfl, HF.out⟩
end Go.Proofs.Ytmlmohcghoelkaa

import Derived.Test.YtmlmohcghoelkaaT20
import Derived.Deep.RegionHeld3
namespace Go.Proofs.Ytmlmohcghoelkaa
open Go.RowKit
/-- A block that holds two integers: an interval or an arc. -/
def Pair (t : TypeId) (w : World) (b : Nat) (x y : Int) : Prop := w.heap[b]? = some (.cells #[.int .i64 x, .int .i64 y] t (0, 0))
theorem Pair.lt {t : TypeId} {w : World} {b : Nat} {x y : Int} (h : Pair t w b x y) : b < w.heap.size := by
  unfold Pair at h
  exact (Array.getElem?_eq_some_iff.1 h).1
theorem Pair.below {t : TypeId} {w w' : World} {b : Nat} {x y : Int} (h : Pair t w b x y) (hb : Below w.heap.size w w') : Pair t w' b x y := (hb.block b h.lt).trans h
theorem pair_below {t : TypeId} {w w' : World} {b : Nat} {x y : Int} (hb : Below w.heap.size w w') (h : Pair t w b x y) : Pair t w' b x y := h.below hb
theorem Pair.alloc {t : TypeId} {w : World} {b : Nat} {x y : Int} (h : Pair t w b x y) (o : Obj) : Pair t (w.alloc o) b x y := h.below ((Below.refl _ _).alloc (Nat.le_refl _) _)
theorem Pair.write {t : TypeId} {w : World} {b : Nat} {x y : Int} (h : Pair t w b x y) (u v : Int) :
    Pair t ((w.setCell ⟨b, 0, none⟩ (.int .i64 u)).setCell ⟨b, 1, none⟩ (.int .i64 v)) b u v := by
  unfold Pair at *
  simp [World.setCell, h, Array.getElem?_modify]
theorem Pair.other {t : TypeId} {w : World} {b b' : Nat} {x y : Int} (h : Pair t w b x y) (hb : b ≠ b') (u v : Value) :
    Pair t ((w.setCell ⟨b', 0, none⟩ u).setCell ⟨b', 1, none⟩ v) b x y := by
  unfold Pair at *
  have hb' : b' ≠ b := fun e => hb e.symm
  simp [World.setCell, h, Array.getElem?_modify, hb']
theorem keep2 {t : TypeId} {w : World} {b : Nat} {x y : Int} (h : Pair t w b x y) :
    (w.cell? ⟨b, 0, none⟩ = some (.int .i64 x) ∧ w.cell? ⟨b, 1, none⟩ = some (.int .i64 y)) ∧ w.frozen? ⟨b, 0, none⟩ = false ∧ w.frozen? ⟨b, 1, none⟩ = false := by
  unfold Pair at h
  refine ⟨⟨?_, ?_⟩, ?_, ?_⟩
  · simp [World.cell?, h]
  · simp [World.cell?, h]
  · simp [World.frozen?, h]
  · simp [World.frozen?, h]
set_option maxHeartbeats 1000000 in
theorem part_any (x y lo hi : Int) (w : World) : Calls Try.prog 34 #[pairV x y, .int .i64 lo, .int .i64 hi] w (GPost (.tuple #[pairV (max x lo) (min y hi), .bool (decide (max x lo ≤ min y hi))]) w) := by
  have HB := Lib.hid (((Below.refl w.heap.size w).alloc (Nat.le_refl _) (.cells #[.int .i64 (max x lo), .int .i64 (min y hi)] 23)).alloc (by simp) (.cells #[.int .i64 (max x lo), .int .i64 (min y hi)] 23))
  unfold pairV
  go_enter Try.func34, Try.ntmps34
  go_wp2
  go_region_with fail
  all_goals (
    go_wp2
    refine bodyPost_ret (v := .tuple #[pairV (max x lo) (min y hi), .bool (decide (max x lo ≤ min y hi))]) (by simp [results, Try.results34, go_sem, pairV]) rfl ⟨rfl, ?_⟩
    first
      | exact HB.out.drew
      | exact HB.out)
noncomputable def asinR (x y : Int) : Int × Int × Int := if validB x y = false then (0, 0, 1) else if max x (-1073741824) ≤ min y 1073741824 then (asn (max x (-1073741824)), - asn (- min y 1073741824), 0) else (0, 0, 2)
def arcV (r : Int × Int × Int) : Value := .tuple #[pairV r.1 r.2.1, .int .i64 r.2.2]
theorem blk2_first (w : World) (o o' : Obj) : ((w.alloc o).alloc o').heap[w.heap.size]? = some o := by
  rw [Below.heap_alloc _ _ _ (by simp), heap_alloc_new]
theorem blk2_second (w : World) (o o' : Obj) : ((w.alloc o).alloc o').heap[w.heap.size + 1]? = some o' := by
  have := heap_alloc_new (w.alloc o) o'
  simpa using this
set_option maxRecDepth 100000 in
set_option maxHeartbeats 1000000 in
theorem asin_r (x y : Int) (w : World) : Calls Try.prog 12 #[pairV x y] w (GPost (arcV (asinR x y)) w) := by
  have HV := Lib.hid (valid_any x y)
  have HQ := Lib.hid (part_any x y (-1073741824) 1073741824)
  have B0 : Below w.heap.size w ((w.alloc (.cells #[.int .i64 x, .int .i64 y] 23)).alloc (.cells #[.int .i64 0, .int .i64 0] 25)) := ((Below.refl w.heap.size w).alloc (Nat.le_refl _) _).alloc (by simp) _
  obtain ⟨V, hV⟩ : ∃ V, V = arcV (asinR x y) := ⟨_, rfl⟩
  rw [← hV]
  unfold asinR at hV
  unfold pairV at HV HQ ⊢
  have n1 : Pair 23 ((w.alloc (.cells #[.int .i64 x, .int .i64 y] 23)).alloc (.cells #[.int .i64 0, .int .i64 0] 25)) w.heap.size x y := blk2_first _ _ _
  have n2 : Pair 25 ((w.alloc (.cells #[.int .i64 x, .int .i64 y] 23)).alloc (.cells #[.int .i64 0, .int .i64 0] 25)) (w.heap.size + 1) 0 0 := blk2_second _ _ _
  have N1 := Lib.hid n1
  have N2 := Lib.hid n2
  have HB := Lib.hid B0
  clear n1 n2 B0
  by_cases hv : validB x y = false
  · rw [if_pos hv] at hV
    rw [hv] at HV
    have hV := Lib.hid hV
    clear hv HQ
    go_enter Try.func12, Try.ntmps12
    go_wp2_with fail
    refine (HV.out _).mono ?_
    rintro e w1 ⟨rfl, hb⟩
    have n1 := pair_below hb N1.out
    have n2 := pair_below hb N2.out
    have l1 := n1.lt
    have l2 := n2.lt
    obtain ⟨⟨a0, a1⟩, a2, a3⟩ := keep2 n1
    obtain ⟨⟨b0, b1⟩, b2, b3⟩ := keep2 n2
    have HB := Lib.hid ((HB.out.trans (hb.mono HB.out.size)).setCell (p := ⟨w.heap.size + 1, 0, none⟩) (by simp) (.int .i64 0) |>.setCell (p := ⟨w.heap.size + 1, 1, none⟩) (by simp) (.int .i64 0))
    clear hb n1 n2
    go_wp2
    refine bodyPost_ret (v := V) (by rw [hV.out]; simp [results, Try.results12, go_sem, arcV, pairV, b0, b1]) rfl ⟨rfl, HB.out⟩
  · rw [if_neg hv] at hV
    have hv' : validB x y = true := by cases h : validB x y <;> simp_all
    rw [hv'] at HV
    have hm1 : -1073741824 ≤ max x (-1073741824) := by omega
    have hm2 : -1073741824 ≤ - min y 1073741824 := by omega
    have hm3 : max x (-1073741824) ≤ 2147483648 ∧ -2147483648 ≤ min y 1073741824 := by simp [validB] at hv'; omega
    clear hv hv'
    generalize max x (-1073741824) = u at *
    generalize min y 1073741824 = v at *
    by_cases hc : u ≤ v
    · rw [if_pos hc] at hV
      rw [decide_eq_true hc] at HQ
      have hA := asn_is u hm1
      have hC := asn_is (-v) hm2
      have wv : IntKind.i64.wrap (-v) = -v := IntWalk.i64_in _ (by omega)
      have wq : IntKind.i64.wrap (-(asn (-v))) = -(asn (-v)) := IntWalk.i64_in _ (by have := hC.1; have := hC.2.1; omega)
      clear hA hC
      have hV := Lib.hid hV
      go_enter Try.func12, Try.ntmps12
      go_wp2_with fail
      refine (HV.out _).mono ?_
      rintro e w1 ⟨rfl, hb⟩
      have n1 := pair_below hb N1.out
      have n2 := pair_below hb N2.out
      have l1 := n1.lt
      have l2 := n2.lt
      obtain ⟨⟨a0, a1⟩, a2, a3⟩ := keep2 n1
      obtain ⟨⟨b0, b1⟩, b2, b3⟩ := keep2 n2
      have HB := Lib.hid (HB.out.trans (hb.mono HB.out.size))
      have N1 := Lib.hid n1
      have N2 := Lib.hid n2
      clear hb n1 n2
      go_wp2_with fail
      refine (HQ.out _).mono ?_
      rintro e w2 ⟨rfl, hb⟩
      have m1 := pair_below hb N1.out
      have m2 := pair_below hb N2.out
      have k1 := m1.lt
      have k2 := m2.lt
      obtain ⟨⟨c0, c1⟩, c2, c3⟩ := keep2 m1
      obtain ⟨⟨d0, d1⟩, d2, d3⟩ := keep2 m2
      have HB := Lib.hid ((HB.out.trans (hb.mono HB.out.size)).setCell (p := ⟨w.heap.size, 0, none⟩) (Nat.le_refl _) (.int .i64 u) |>.setCell (p := ⟨w.heap.size, 1, none⟩) (Nat.le_refl _) (.int .i64 v))
      have N1 := Lib.hid (m1.write u v)
      have N2 := Lib.hid (m2.other (b' := w.heap.size) (by omega) (.int .i64 u) (.int .i64 v))
      clear hb m1 m2
      go_wp2_with fail
      generalize (w2.setCell ⟨w.heap.size, 0, none⟩ (.int .i64 u)).setCell ⟨w.heap.size, 1, none⟩ (.int .i64 v) = w3 at *
      have k1 := N1.out.lt
      have k2 := N2.out.lt
      obtain ⟨⟨e0, e1⟩, e2, e3⟩ := keep2 N1.out
      obtain ⟨⟨f0, f1⟩, f2, f3⟩ := keep2 N2.out
      clear a0 a1 a2 a3 b0 b1 b2 b3 c0 c1 c2 c3 d0 d1 d2 d3 l1 l2
      go_region_with (
        go_at_call 35
        refine (asin_any _ (by omega) _).mono ?_
        rintro e w4 ⟨rfl, hb⟩
        have n1 := pair_below hb (by exact N1.out)
        have n2 := pair_below hb (by exact N2.out)
        have l1 := n1.lt
        have l2 := n2.lt
        obtain ⟨⟨a0, a1⟩, a2, a3⟩ := keep2 n1
        obtain ⟨⟨b0, b1⟩, b2, b3⟩ := keep2 n2
        have HB := Lib.hid (show Below w.heap.size w w4 from by first | exact HB.out.trans (hb.mono HB.out.size) | exact HB.out.drew.trans (hb.mono HB.out.size))
        have N1 := Lib.hid n1
        have N2 := Lib.hid n2
        clear hb n1 n2)
      all_goals (
        have n3 := N2.out.write (asn u) (-asn (-v))
        obtain ⟨⟨r0, r1⟩, r2, r3⟩ := keep2 n3
        have HF := Lib.hid ((HB.out.setCell (p := ⟨w.heap.size + 1, 0, none⟩) (by simp) (.int .i64 (asn u))).setCell (p := ⟨w.heap.size + 1, 1, none⟩) (by simp) (.int .i64 (-asn (-v))))
        clear n3
        go_wp2
        refine bodyPost_ret (v := V) (by rw [hV.out]; simp [results, Try.results12, go_sem, arcV, pairV, r0, r1]) rfl ⟨rfl, ?_⟩
        first
          | exact HF.out
          | exact HF.out.drew)
    · rw [if_neg hc] at hV
      rw [decide_eq_false hc] at HQ
      have hV := Lib.hid hV
      go_enter Try.func12, Try.ntmps12
      go_wp2_with fail
      refine (HV.out _).mono ?_
      rintro e w1 ⟨rfl, hb⟩
      have n1 := pair_below hb N1.out
      have n2 := pair_below hb N2.out
      have l1 := n1.lt
      have l2 := n2.lt
      obtain ⟨⟨a0, a1⟩, a2, a3⟩ := keep2 n1
      obtain ⟨⟨b0, b1⟩, b2, b3⟩ := keep2 n2
      have HB := Lib.hid (HB.out.trans (hb.mono HB.out.size))
      have N1 := Lib.hid n1
      have N2 := Lib.hid n2
      clear hb n1 n2
      go_wp2_with fail
      refine (HQ.out _).mono ?_
      rintro e w2 ⟨rfl, hb⟩
      have m1 := pair_below hb N1.out
      have m2 := pair_below hb N2.out
      have k1 := m1.lt
      have k2 := m2.lt
      obtain ⟨⟨c0, c1⟩, c2, c3⟩ := keep2 m1
      obtain ⟨⟨d0, d1⟩, d2, d3⟩ := keep2 m2
      have N3 := (m2.other (b' := w.heap.size) (by omega) (.int .i64 u) (.int .i64 v)).write 0 0
      obtain ⟨⟨r0, r1⟩, r2, r3⟩ := keep2 N3
      have HB := Lib.hid ((HB.out.trans (hb.mono HB.out.size)).setCell (p := ⟨w.heap.size, 0, none⟩) (Nat.le_refl _) (.int .i64 u) |>.setCell (p := ⟨w.heap.size, 1, none⟩) (Nat.le_refl _) (.int .i64 v) |>.setCell (p := ⟨w.heap.size + 1, 0, none⟩) (by simp) (.int .i64 0) |>.setCell (p := ⟨w.heap.size + 1, 1, none⟩) (by simp) (.int .i64 0))
      clear hb m1 m2 N3
      go_wp2
      refine bodyPost_ret (v := V) (by rw [hV.out]; simp [results, Try.results12, go_sem, arcV, pairV, r0, r1]) rfl ⟨rfl, HB.out⟩
end Go.Proofs.Ytmlmohcghoelkaa

import Derived.Test.YtmlmohcghoelkaaT10
namespace Go.Proofs.Ytmlmohcghoelkaa
open Go.RowKit
def NumT (v : Int × Int × Int × Int) : Value := numD v.1 v.2.1 v.2.2.1 v.2.2.2
/-- A round's state: k terms are left. -/
def LRel (w : World) (b5 b6 : Nat) (y : Int × Int × Int × Int) (f : Nat → Int × Int × Int × Int) (K : Value) (wr : World) (k : Nat) : Prop :=
  k ≤ 34 ∧ K = .int .u64 (k : Int) ∧ Num wr (w.heap.size + 1) 0 0 0 0 ∧ Num wr b5 y.1 y.2.1 y.2.2.1 y.2.2.2 ∧ Num wr b6 (f k).1 (f k).2.1 (f k).2.2.1 (f k).2.2.2 ∧ Below w.heap.size w wr
theorem blk_second (w : World) (o o' : Obj) : ((w.alloc o).alloc o').heap[w.heap.size + 1]? = some o' := by
  have := heap_alloc_new (w.alloc o) o'
  simpa using this
theorem Num.alloc {w : World} {b : Nat} {a0 a1 a2 a3 : Int} (h : Num w b a0 a1 a2 a3) (o : Obj) : Num (w.alloc o) b a0 a1 a2 a3 := h.below ((Below.refl _ _).alloc (Nat.le_refl _) _)
theorem num_below {w w' : World} {b : Nat} {a0 a1 a2 a3 : Int} (hb : Below w.heap.size w w') (h : Num w b a0 a1 a2 a3) : Num w' b a0 a1 a2 a3 := h.below hb
theorem Num.write {w : World} {b : Nat} {a0 a1 a2 a3 : Int} (h : Num w b a0 a1 a2 a3) (v0 v1 v2 v3 : Int) :
    Num ((((w.setCell ⟨b, 0, none⟩ (.int .u64 v0)).setCell ⟨b, 1, none⟩ (.int .u64 v1)).setCell ⟨b, 2, none⟩ (.int .u64 v2)).setCell ⟨b, 3, none⟩ (.int .u64 v3)) b v0 v1 v2 v3 := by
  unfold Num at *
  simp [World.setCell, h, Array.getElem?_modify]
theorem Num.other {w : World} {b b' : Nat} {a0 a1 a2 a3 : Int} (h : Num w b a0 a1 a2 a3) (hb : b < b') (v0 v1 v2 v3 : Value) :
    Num ((((w.setCell ⟨b', 0, none⟩ v0).setCell ⟨b', 1, none⟩ v1).setCell ⟨b', 2, none⟩ v2).setCell ⟨b', 3, none⟩ v3) b a0 a1 a2 a3 :=
  ((((Below.refl b' w).setCell (Nat.le_refl _) _).setCell (Nat.le_refl _) _).setCell (Nat.le_refl _) _ |>.setCell (Nat.le_refl _) _).block b hb |>.trans h
def uOf : Value → Nat | .int _ x => x.toNat | _ => 0
set_option maxRecDepth 100000 in
set_option maxHeartbeats 1000000 in
theorem less_walk (x0 x1 x2 x3 o : Int) (y : Int × Int × Int × Int) (f : Nat → Int × Int × Int × Int) (h0 : 0 ≤ o) (h1 : o ≤ 1) (hf : Series y o f)
    (H : ∀ w, Calls Try.prog 66 #[numD x0 x1 x2 x3, numD x0 x1 x2 x3] w (NumPost w (numD y.1 y.2.1 y.2.2.1 y.2.2.2))) (w : World) : Calls Try.prog 67 #[numD x0 x1 x2 x3, .int .u64 o] w (NumPost w (numD (f 0).1 (f 0).2.1 (f 0).2.2.1 (f 0).2.2.2)) := by
  have HF := Lib.hid hf
  have H := Lib.hid H
  obtain ⟨y0, y1, y2, y3⟩ := y
  clear hf
  unfold numD at H
  unfold numD
  go_enter Try.func67, Try.ntmps67
  go_wp2_with fail
  refine (H.out _).mono ?_
  rintro e w' ⟨rfl, hb⟩
  have HB := Lib.hid hb
  have hsz := hb.size
  clear hb
  go_wp2_with fail
  have HS := Lib.hid (show LRel w w'.heap.size (w'.heap.size + 1) (y0, y1, y2, y3) f (.int .u64 34) ((w'.alloc (.cells #[.int .u64 y0, .int .u64 y1, .int .u64 y2, .int .u64 y3] 80)).alloc (.cells #[.int .u64 0, .int .u64 0, .int .u64 0, .int .u64 0] 80)) 34 from
    ⟨Nat.le_refl _, rfl, (((Num.below (show Num _ (w.heap.size + 1) 0 0 0 0 from blk_second w _ _) HB.out).alloc _).alloc _), blk_first w' _ _, by rw [HF.out.2.1]; exact blk_second w' _ _,
      ((((Below.refl _ _).alloc (Nat.le_refl _) _).alloc (by simp) _).trans (HB.out.mono (by simp; omega))).alloc (by simp at hsz; omega) _ |>.alloc (by simp at hsz ⊢; omega) _⟩)
  clear HB
  go_loopw [7] (fun K wr => ∃ k, LRel w w'.heap.size (w'.heap.size + 1) (y0, y1, y2, y3) f K wr k) (fun K _ => uOf K)
  case atStart => exact ⟨_, HS.out⟩
  case round =>
    clear HS
    obtain ⟨k, hk, rfl, n1, n2, n3, hb⟩ := hrel
    have HB := Lib.hid hb
    have N1 := Lib.hid n1
    have N2 := Lib.hid n2
    have N3 := Lib.hid n3
    have l1 := n1.lt
    have l2 := n2.lt
    have l3 := n3.lt
    obtain ⟨⟨a0, a1, a2, a3⟩, a4, a5, a6, a7⟩ := keep4 (Below.refl (wr.heap.size) wr) l1 n1
    obtain ⟨⟨b0, b1, b2, b3⟩, b4, b5, b6, b7⟩ := keep4 (Below.refl (wr.heap.size) wr) l2 n2
    obtain ⟨⟨c0, c1, c2, c3⟩, c4, c5, c6, c7⟩ := keep4 (Below.refl (wr.heap.size) wr) l3 n3
    clear n1 n2 n3 hb
    rcases Nat.eq_zero_or_pos k with rfl | hkp
    · have HG := Lib.hid (show Below w.heap.size w ((((wr.setCell ⟨w.heap.size + 1, 0, none⟩ (.int .u64 (f 0).1)).setCell ⟨w.heap.size + 1, 1, none⟩ (.int .u64 (f 0).2.1)).setCell ⟨w.heap.size + 1, 2, none⟩ (.int .u64 (f 0).2.2.1)).setCell ⟨w.heap.size + 1, 3, none⟩ (.int .u64 (f 0).2.2.2)) from
        (((HB.out.setCell (Nat.le_succ _) _).setCell (Nat.le_succ _) _).setCell (Nat.le_succ _) _).setCell (Nat.le_succ _) _)
      go_wp2_with fail
      simp [bodyPost, results, Try.results67, go_sem, a0, a1, a2, a3]
      exact ⟨rfl, HG.out⟩
    · obtain ⟨j, rfl⟩ : ∃ j, k = j + 1 := ⟨k - 1, by omega⟩
      obtain ⟨hd0, hd1⟩ := divisor_bd j o (by omega) h0 h1
      obtain ⟨q0, q1, q2, q3, m0, m1, m2, m3, r, hq, hm, hr0, hr1, hqy, hm1, hm2, hv, H1, H2, H3⟩ := (HF.out.2.2 j (by omega)).out
      clear hq hm hr0 hr1 hqy hm1 hm2 hv
      have H1 := Lib.hid H1
      have H2 := Lib.hid H2
      have H3 := Lib.hid H3
      have e1 : IntKind.u64.wrap (2 * ((j : Int) + 1)) = 2 * ((j : Int) + 1) := wrap_id _ (by omega) (by omega)
      have e2 : IntKind.u64.wrap (2 * ((j : Int) + 1) - 1) = 2 * ((j : Int) + 1) - 1 := wrap_id _ (by omega) (by omega)
      have e3 : IntKind.u64.wrap (2 * ((j : Int) + 1) - 1 + o) = 2 * ((j : Int) + 1) - 1 + o := wrap_id _ (by omega) (by omega)
      have e4 : IntKind.u64.wrap (2 * ((j : Int) + 1) + o) = 2 * ((j : Int) + 1) + o := wrap_id _ (by omega) (by omega)
      have e5 : IntKind.u64.wrap ((2 * ((j : Int) + 1) - 1 + o) * (2 * ((j : Int) + 1) + o)) = divisor j o := wrap_id (divisor j o) (by omega) (by omega)
      clear hd0 hd1
      generalize f (j + 1) = u at *
      obtain ⟨u0, u1, u2, u3⟩ := u
      generalize hDv : divisor j o = D at *
      clear hDv
      unfold numD at H1
      go_wp2_with fail
      refine (H1.out _).mono ?_
      rintro e w2 ⟨rfl, hb2⟩
      have l4 := hb2.size
      have M1 := Lib.hid (N1.out.below hb2)
      have M2 := Lib.hid (N2.out.below hb2)
      have M3 := Lib.hid (N3.out.below hb2)
      have HB2 := Lib.hid (HB.out.trans (hb2.mono (by omega)))
      clear hb2 a0 a1 a2 a3 a4 a5 a6 a7 b0 b1 b2 b3 b4 b5 b6 b7 c0 c1 c2 c3 c4 c5 c6 c7
      obtain ⟨⟨c0, c1, c2, c3⟩, c4, c5, c6, c7⟩ := keep4 (Below.refl (w2.heap.size) w2) (by omega) M3.out
      go_wp2_with fail
      have NQ := Lib.hid (show Num (w2.alloc (.cells #[.int .u64 q0, .int .u64 q1, .int .u64 q2, .int .u64 q3] 80)) w2.heap.size q0 q1 q2 q3 from heap_alloc_new w2 _)
      have M4 := Lib.hid (M3.out.alloc (.cells #[.int .u64 q0, .int .u64 q1, .int .u64 q2, .int .u64 q3] 80))
      unfold numD at H2 H3
      have l7 : w'.heap.size + 1 < w2.heap.size := M3.out.lt
      go_region_with (first
        | (go_at_call 66; refine (H2.out _).mono ?_; rintro e w3 ⟨rfl, hb3⟩; have n4 := num_below hb3 (by exact M4.out); have n5 := num_below hb3 (by exact NQ.out); have l5 := n4.lt; obtain ⟨⟨p0, p1, p2, p3⟩, p4, p5, p6, p7⟩ := keep4 (Below.refl w3.heap.size w3) n5.lt n5; obtain ⟨⟨r0, r1, r2, r3⟩, r4, r5, r6, r7⟩ := keep4 (Below.refl w3.heap.size w3) n4.lt n4; have n4 := Lib.hid n4; have hb3 := Lib.hid hb3; clear n5)
        | (go_at_call 65; refine (H3.out _).mono ?_; rintro e w4 ⟨rfl, hb4⟩; have n6 := num_below hb4 (by exact n4.out); obtain ⟨⟨s0, s1, s2, s3⟩, s4, s5, s6, s7⟩ := keep4 (Below.refl w4.heap.size w4) n6.lt n6; have l6 := n6.lt; have n6 := Lib.hid n6; have hb4 := Lib.hid hb4))
      all_goals (
        have hz : w.heap.size + 2 ≤ w'.heap.size := by simp at hsz; omega
        have hq2 := HB2.out.alloc (by have := HB2.out.size; omega) (.cells #[.int .u64 q0, .int .u64 q1, .int .u64 q2, .int .u64 q3] 80)
        have hb5 : Below w.heap.size w w3 := by first
          | exact hq2.trans (hb3.out.mono (by have := hq2.size; simp at this ⊢; omega))
          | exact hq2.drew.trans (hb3.out.mono (by have := hq2.size; simp at this ⊢; omega))
        have hb6 : Below w.heap.size w w4 := by first
          | exact hb5.trans (hb4.out.mono hb5.size)
          | exact hb5.drew.trans (hb4.out.mono hb5.size)
        have A1 := num_below hb4.out (by exact num_below hb3.out (by exact (M1.out.alloc (.cells #[.int .u64 q0, .int .u64 q1, .int .u64 q2, .int .u64 q3] 80))))
        have A2 := num_below hb4.out (by exact num_below hb3.out (by exact (M2.out.alloc (.cells #[.int .u64 q0, .int .u64 q1, .int .u64 q2, .int .u64 q3] 80))))
        have HR := Lib.hid (show LRel w w'.heap.size (w'.heap.size + 1) (y0, y1, y2, y3) f (.int .u64 (j : Int)) ((((w4.setCell ⟨w'.heap.size + 1, 0, none⟩ (.int .u64 (f j).1)).setCell ⟨w'.heap.size + 1, 1, none⟩ (.int .u64 (f j).2.1)).setCell ⟨w'.heap.size + 1, 2, none⟩ (.int .u64 (f j).2.2.1)).setCell ⟨w'.heap.size + 1, 3, none⟩ (.int .u64 (f j).2.2.2)) j from
          ⟨by omega, rfl, A1.other (by omega) _ _ _ _, A2.other (by omega) _ _ _ _, n6.out.write _ _ _ _, (((hb6.setCell (by simp; omega) _).setCell (by simp; omega) _).setCell (by simp; omega) _).setCell (by simp; omega) _⟩)
        have e6 : IntKind.u64.wrap (j : Int) = (j : Int) := wrap_id _ (by omega) (by omega)
        clear A1 A2 hb5 hb6 hq2
        go_wp2_with fail
        go_roundw
        case rel => exact ⟨_, HR.out⟩
        case measure => simp [uOf])
end Go.Proofs.Ytmlmohcghoelkaa

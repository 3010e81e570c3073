import Derived.Test.YtcjkfchjcealbaaGreatT48
import Derived.Test.YtcjkfchjcealbaaGreatT24
namespace Go.Proofs.YtcjkfchjcealbaaGreat
open Go.RowKit
set_option maxHeartbeats 400000 in
theorem rvalid_any (lo hi : Int) (w : World) : Calls Tryz.prog 57 #[pairV lo hi] w (GPost (.bool (validB lo hi)) w) := by
  obtain ⟨V, hV⟩ : ∃ V, V = Value.bool (validB lo hi) := ⟨_, rfl⟩
  have HP : ∀ b w', validB lo hi = b → Below w.heap.size w w' → GPost V w (.returned (.bool b)) w' := fun b w' h hb => ⟨by rw [hV, h], hb⟩
  have HP := Lib.hid HP
  have HB := Lib.hid ((Below.refl w.heap.size w).alloc (Nat.le_refl _) (.cells #[.int .i64 lo, .int .i64 hi] 45))
  rw [← hV]
  clear hV
  unfold pairV
  by_cases h2 : lo ≤ hi
  · by_cases h1 : -2147483648 ≤ lo
    · by_cases h3 : hi ≤ 2147483648
      · have HF := Lib.hid (HP.out true _ (by unfold validB; rw [decide_eq_true]; omega) HB.out)
        go_enter Tryz.func57, Tryz.ntmps57
        go_wp2
        go_ret
        exact HF.out
      · have HF := Lib.hid (HP.out false _ (by unfold validB; rw [decide_eq_false]; omega) HB.out)
        go_enter Tryz.func57, Tryz.ntmps57
        go_wp2
        go_ret
        exact HF.out
    · have HF := Lib.hid (HP.out false _ (by unfold validB; rw [decide_eq_false]; omega) HB.out)
      go_enter Tryz.func57, Tryz.ntmps57
      go_wp2
      go_ret
      exact HF.out
  · have HF := Lib.hid (HP.out false _ (by unfold validB; rw [decide_eq_false]; omega) HB.out)
    go_enter Tryz.func57, Tryz.ntmps57
    go_wp2
    go_ret
    exact HF.out
theorem rceil_any (v : Int) (hv : v ≤ 1073741824) (hv2 : -1073741824 ≤ v) (w : World) : Calls Tryz.prog 101 #[.int .i64 v] w (GPost (.int .i64 (- asn (-v))) w) := by
  have HA := Lib.hid (rasin_any (-v) (by omega))
  obtain ⟨g0, g1, _, _⟩ := asn_is (-v) (by omega)
  generalize asn (-v) = a at *
  have e : (0 - v) = -v := by omega
  go_enter Tryz.func101, Tryz.ntmps101
  go_wp2_with fail
  try rw [e]
  refine (HA.out _).mono ?_
  rintro e w1 ⟨rfl, hb⟩
  have HB := Lib.hid hb
  clear hb
  go_wp2
  go_ret
  refine ⟨?_, HB.out⟩
  first
    | rfl
    | rw [show (0 - a) = -a by omega]
set_option maxRecDepth 100000 in
set_option maxHeartbeats 1000000 in
theorem rasin_r (x y : Int) (w : World) : Calls Tryz.prog 79 #[pairV x y] w (GPost (arcV (asinR x y)) w) := by
  have HV := Lib.hid (rvalid_any x y)
  have B0 : Below w.heap.size w ((w.alloc (.cells #[.int .i64 x, .int .i64 y] 45)).alloc (.cells #[.int .i64 0, .int .i64 0] 23)) := ((Below.refl w.heap.size w).alloc (Nat.le_refl _) _).alloc (by simp) _
  obtain ⟨V, hV⟩ : ∃ V, V = arcV (asinR x y) := ⟨_, rfl⟩
  rw [← hV]
  unfold asinR at hV
  unfold pairV at HV ⊢
  have n1 : Pair 45 ((w.alloc (.cells #[.int .i64 x, .int .i64 y] 45)).alloc (.cells #[.int .i64 0, .int .i64 0] 23)) w.heap.size x y := blk2_first _ _ _
  have n2 : Pair 23 ((w.alloc (.cells #[.int .i64 x, .int .i64 y] 45)).alloc (.cells #[.int .i64 0, .int .i64 0] 23)) (w.heap.size + 1) 0 0 := blk2_second _ _ _
  have N1 := Lib.hid n1
  have N2 := Lib.hid n2
  have HB := Lib.hid B0
  clear n1 n2 B0
  by_cases hv : validB x y = false
  · rw [if_pos hv] at hV
    rw [hv] at HV
    have hV := Lib.hid hV
    clear hv
    go_enter Tryz.func79, Tryz.ntmps79
    go_wp2_with fail
    refine (HV.out _).mono ?_
    rintro e w1 ⟨rfl, hb⟩
    have n1 := pair_below hb N1.out
    have n2 := pair_below hb N2.out
    have l1 := n1.lt
    have l2 := n2.lt
    obtain ⟨⟨a0, a1⟩, a2, a3⟩ := keep2 n1
    obtain ⟨⟨b0, b1⟩, b2, b3⟩ := keep2 n2
    have HB := Lib.hid ((HB.out.trans (hb.mono HB.out.size)).setCell (p := ⟨w.heap.size + 1, 0, none⟩) (by simp) (.int .i64 0) |>.setCell (p := ⟨w.heap.size + 1, 1, none⟩) (by simp) (.int .i64 0))
    clear hb n1 n2
    go_wp2
    refine bodyPost_ret (v := V) (by rw [hV.out]; simp [results, Tryz.results79, go_sem, arcV, pairV, b0, b1]) rfl ⟨rfl, HB.out⟩
  · rw [if_neg hv] at hV
    have hv' : validB x y = true := by cases h : validB x y <;> simp_all
    rw [hv'] at HV
    obtain ⟨u, hu⟩ : ∃ u, max x (-1073741824) = u := ⟨_, rfl⟩
    obtain ⟨v, hv⟩ : ∃ v, min y 1073741824 = v := ⟨_, rfl⟩
    rw [hu, hv] at hV
    have hb1 : -1073741824 ≤ u ∧ u ≤ 2147483648 ∧ v ≤ 1073741824 ∧ -2147483648 ≤ v := by simp [validB] at hv'; omega
    have hux : x < -1073741824 ∧ u = -1073741824 ∨ -1073741824 ≤ x ∧ u = x := by omega
    have hvy : 1073741824 < y ∧ v = 1073741824 ∨ y ≤ 1073741824 ∧ v = y := by omega
    clear hv' hu hv
    obtain ⟨g0, g1, g2, g3⟩ := hb1
    by_cases hc : u ≤ v
    · rw [if_pos hc] at hV
      have HF := Lib.hid (rasin_any u g0)
      have HC := Lib.hid (rceil_any v g2 (by omega))
      generalize asn u = p at *
      generalize -asn (-v) = q at *
      have hV := Lib.hid hV
      go_enter Tryz.func79, Tryz.ntmps79
      go_wp2_with fail
      refine (HV.out _).mono ?_
      rintro e w1 ⟨rfl, hb⟩
      have n1 := pair_below hb N1.out
      have n2 := pair_below hb N2.out
      have l1 := n1.lt
      have l2 := n2.lt
      obtain ⟨⟨a0, a1⟩, a2, a3⟩ := keep2 n1
      obtain ⟨⟨b0, b1⟩, b2, b3⟩ := keep2 n2
      have HB := Lib.hid (HB.out.trans (hb.mono HB.out.size))
      have N1 := Lib.hid n1
      have N2 := Lib.hid n2
      clear hb n1 n2
      rcases hux with ⟨c1, e1⟩ | ⟨c1, e1⟩ <;> rcases hvy with ⟨c2, e2⟩ | ⟨c2, e2⟩
      all_goals (
        rw [e1] at HF hc
        rw [e2] at HC hc
        clear e1 e2
        go_wp2_with fail
        refine (HF.out _).mono ?_
        rintro e w2 ⟨rfl, hb⟩
        have n1 := pair_below hb N1.out
        have n2 := pair_below hb N2.out
        have l1 := n1.lt
        have l2 := n2.lt
        obtain ⟨⟨a0, a1⟩, a2, a3⟩ := keep2 n1
        obtain ⟨⟨b0, b1⟩, b2, b3⟩ := keep2 n2
        have HB := Lib.hid (HB.out.trans (hb.mono HB.out.size))
        have N1 := Lib.hid n1
        have N2 := Lib.hid n2
        clear hb n1 n2
        go_wp2_with fail
        refine (HC.out _).mono ?_
        rintro e w3 ⟨rfl, hb⟩
        have n1 := pair_below hb N1.out
        have n2 := pair_below hb N2.out
        have l1 := n1.lt
        have l2 := n2.lt
        obtain ⟨⟨a0, a1⟩, a2, a3⟩ := keep2 n1
        obtain ⟨⟨b0, b1⟩, b2, b3⟩ := keep2 n2
        have HB := Lib.hid ((HB.out.trans (hb.mono HB.out.size)).setCell (p := ⟨w.heap.size + 1, 0, none⟩) (by simp) (.int .i64 p) |>.setCell (p := ⟨w.heap.size + 1, 1, none⟩) (by simp) (.int .i64 q))
        have n3 := n2.write p q
        obtain ⟨⟨r0, r1⟩, r2, r3⟩ := keep2 n3
        clear hb n1 n2 n3
        go_wp2
        refine bodyPost_ret (v := V) (by rw [hV.out]; simp [results, Tryz.results79, go_sem, arcV, pairV, r0, r1]) rfl ⟨rfl, HB.out⟩)
    · rw [if_neg hc] at hV
      have hV := Lib.hid hV
      go_enter Tryz.func79, Tryz.ntmps79
      go_wp2_with fail
      refine (HV.out _).mono ?_
      rintro e w1 ⟨rfl, hb⟩
      have n1 := pair_below hb N1.out
      have n2 := pair_below hb N2.out
      have l1 := n1.lt
      have l2 := n2.lt
      obtain ⟨⟨a0, a1⟩, a2, a3⟩ := keep2 n1
      obtain ⟨⟨b0, b1⟩, b2, b3⟩ := keep2 n2
      have HB := Lib.hid ((HB.out.trans (hb.mono HB.out.size)).setCell (p := ⟨w.heap.size + 1, 0, none⟩) (by simp) (.int .i64 0) |>.setCell (p := ⟨w.heap.size + 1, 1, none⟩) (by simp) (.int .i64 0))
      have n3 := n2.write 0 0
      obtain ⟨⟨r0, r1⟩, r2, r3⟩ := keep2 n3
      clear hb n1 n2 n3
      rcases hux with ⟨c1, e1⟩ | ⟨c1, e1⟩ <;> rcases hvy with ⟨c2, e2⟩ | ⟨c2, e2⟩
      all_goals first
        | (exfalso; omega)
        | (rw [e1, e2] at hc
           clear e1 e2
           go_wp2
           refine bodyPost_ret (v := V) (by rw [hV.out]; simp [results, Tryz.results79, go_sem, arcV, pairV, r0, r1]) rfl ⟨rfl, HB.out⟩)
end Go.Proofs.YtcjkfchjcealbaaGreat

import Derived.Test.YtmlmohcghoelkaaT25
namespace Go.Proofs.Ytmlmohcghoelkaa
open Go.RowKit
set_option maxRecDepth 100000 in
set_option maxHeartbeats 1000000 in
theorem blt_any (a b : Int) (ha : Big a) (hb : Big b) (w : World) : Calls Try.prog 61 #[bigV a, bigV b] w (GPost (.bool (decide (a < b))) w) := by
  obtain ⟨a0, a1, a2, a3, ⟨⟨_, _⟩, ⟨_, _⟩, ⟨_, _⟩, ⟨_, _⟩⟩, hA, ea⟩ := big_words ha
  obtain ⟨b0, b1, b2, b3, ⟨⟨_, _⟩, ⟨_, _⟩, ⟨_, _⟩, ⟨_, _⟩⟩, hB, eb⟩ := big_words hb
  rw [ea, eb]
  obtain ⟨V, hV⟩ : ∃ V, V = Value.bool (decide (a < b)) := ⟨_, rfl⟩
  rw [← hV]
  have HB : ∀ v : Bool, decide (a < b) = v → ∀ w', Below w.heap.size w w' → GPost V w (.returned (.bool v)) w' := fun v h w' hb => ⟨by rw [hV, h], hb⟩
  have BL := Lib.hid (((Below.refl w.heap.size w).alloc (Nat.le_refl _) (.cells #[.int .u64 a0, .int .u64 a1, .int .u64 a2, .int .u64 a3] 73)).alloc (by simp) (.cells #[.int .u64 b0, .int .u64 b1, .int .u64 b2, .int .u64 b3] 73))
  unfold num at hA hB
  unfold numD
  clear hV ea eb
  rcases Int.lt_trichotomy a0 b0 with h | h | h
  · have HP := Lib.hid (HB true (by rw [decide_eq_true]; omega))
    clear HB hA hB ha hb
    go_enter Try.func61, Try.ntmps61
    go_wp2
    refine wp_loop_rounds 5 ?_
    rw [rounds_succ]
    go_wp2
    go_quiet (fail)
    go_wp2
    go_quiet (fail)
    go_wp2
    go_ret
    refine HP.out _ ?_
    first
      | exact (below_drewN (below_drewN (below_drewN (below_drewN (below_drewN BL.out _) _) _) _) _)
      | exact (below_drewN (below_drewN (below_drewN (below_drewN BL.out _) _) _) _)
      | exact (below_drewN (below_drewN (below_drewN BL.out _) _) _)
      | exact (below_drewN (below_drewN BL.out _) _)
      | exact (below_drewN BL.out _)
  · subst h
    rcases Int.lt_trichotomy a1 b1 with h | h | h
    · have HP := Lib.hid (HB true (by rw [decide_eq_true]; omega))
      clear HB hA hB ha hb
      go_enter Try.func61, Try.ntmps61
      go_wp2
      refine wp_loop_rounds 5 ?_
      rw [rounds_succ]
      go_wp2
      go_quiet (fail)
      go_wp2
      rw [rounds_succ]
      go_wp2
      go_quiet (fail)
      go_wp2
      go_quiet (fail)
      go_wp2
      go_ret
      refine HP.out _ ?_
      first
        | exact (below_drewN (below_drewN (below_drewN (below_drewN (below_drewN BL.out _) _) _) _) _)
        | exact (below_drewN (below_drewN (below_drewN (below_drewN BL.out _) _) _) _)
        | exact (below_drewN (below_drewN (below_drewN BL.out _) _) _)
        | exact (below_drewN (below_drewN BL.out _) _)
        | exact (below_drewN BL.out _)
    · subst h
      rcases Int.lt_trichotomy a2 b2 with h | h | h
      · have HP := Lib.hid (HB true (by rw [decide_eq_true]; omega))
        clear HB hA hB ha hb
        go_enter Try.func61, Try.ntmps61
        go_wp2
        refine wp_loop_rounds 5 ?_
        rw [rounds_succ]
        go_wp2
        go_quiet (fail)
        go_wp2
        rw [rounds_succ]
        go_wp2
        go_quiet (fail)
        go_wp2
        rw [rounds_succ]
        go_wp2
        go_quiet (fail)
        go_wp2
        go_quiet (fail)
        go_wp2
        go_ret
        refine HP.out _ ?_
        first
          | exact (below_drewN (below_drewN (below_drewN (below_drewN (below_drewN BL.out _) _) _) _) _)
          | exact (below_drewN (below_drewN (below_drewN (below_drewN BL.out _) _) _) _)
          | exact (below_drewN (below_drewN (below_drewN BL.out _) _) _)
          | exact (below_drewN (below_drewN BL.out _) _)
          | exact (below_drewN BL.out _)
      · subst h
        rcases Int.lt_trichotomy a3 b3 with h | h | h
        · have HP := Lib.hid (HB true (by rw [decide_eq_true]; omega))
          clear HB hA hB ha hb
          go_enter Try.func61, Try.ntmps61
          go_wp2
          refine wp_loop_rounds 5 ?_
          rw [rounds_succ]
          go_wp2
          go_quiet (fail)
          go_wp2
          rw [rounds_succ]
          go_wp2
          go_quiet (fail)
          go_wp2
          rw [rounds_succ]
          go_wp2
          go_quiet (fail)
          go_wp2
          rw [rounds_succ]
          go_wp2
          go_quiet (fail)
          go_wp2
          go_quiet (fail)
          go_wp2
          go_ret
          refine HP.out _ ?_
          first
            | exact (below_drewN (below_drewN (below_drewN (below_drewN (below_drewN BL.out _) _) _) _) _)
            | exact (below_drewN (below_drewN (below_drewN (below_drewN BL.out _) _) _) _)
            | exact (below_drewN (below_drewN (below_drewN BL.out _) _) _)
            | exact (below_drewN (below_drewN BL.out _) _)
            | exact (below_drewN BL.out _)
        · subst h
          have HP := Lib.hid (HB false (by rw [decide_eq_false]; omega))
          clear HB hA hB ha hb
          go_enter Try.func61, Try.ntmps61
          go_wp2
          refine wp_loop_rounds 5 ?_
          rw [rounds_succ]
          go_wp2
          go_quiet (fail)
          go_wp2
          rw [rounds_succ]
          go_wp2
          go_quiet (fail)
          go_wp2
          rw [rounds_succ]
          go_wp2
          go_quiet (fail)
          go_wp2
          rw [rounds_succ]
          go_wp2
          go_quiet (fail)
          go_wp2
          rw [rounds_succ]
          go_wp2
          go_ret
          refine HP.out _ ?_
          first
            | exact (below_drewN (below_drewN (below_drewN (below_drewN (below_drewN BL.out _) _) _) _) _)
            | exact (below_drewN (below_drewN (below_drewN (below_drewN BL.out _) _) _) _)
            | exact (below_drewN (below_drewN (below_drewN BL.out _) _) _)
            | exact (below_drewN (below_drewN BL.out _) _)
            | exact (below_drewN BL.out _)
        · have HP := Lib.hid (HB (decide (a3 < b3)) (by rw [decide_eq_false (by omega), decide_eq_false (by omega)]))
          clear HB hA hB ha hb
          go_enter Try.func61, Try.ntmps61
          go_wp2
          refine wp_loop_rounds 5 ?_
          rw [rounds_succ]
          go_wp2
          go_quiet (fail)
          go_wp2
          rw [rounds_succ]
          go_wp2
          go_quiet (fail)
          go_wp2
          rw [rounds_succ]
          go_wp2
          go_quiet (fail)
          go_wp2
          rw [rounds_succ]
          go_wp2
          go_quiet (fail)
          go_wp2
          go_quiet (fail)
          go_wp2
          go_ret
          refine HP.out _ ?_
          first
            | exact (below_drewN (below_drewN (below_drewN (below_drewN (below_drewN BL.out _) _) _) _) _)
            | exact (below_drewN (below_drewN (below_drewN (below_drewN BL.out _) _) _) _)
            | exact (below_drewN (below_drewN (below_drewN BL.out _) _) _)
            | exact (below_drewN (below_drewN BL.out _) _)
            | exact (below_drewN BL.out _)
      · have HP := Lib.hid (HB (decide (a2 < b2)) (by rw [decide_eq_false (by omega), decide_eq_false (by omega)]))
        clear HB hA hB ha hb
        go_enter Try.func61, Try.ntmps61
        go_wp2
        refine wp_loop_rounds 5 ?_
        rw [rounds_succ]
        go_wp2
        go_quiet (fail)
        go_wp2
        rw [rounds_succ]
        go_wp2
        go_quiet (fail)
        go_wp2
        rw [rounds_succ]
        go_wp2
        go_quiet (fail)
        go_wp2
        go_quiet (fail)
        go_wp2
        go_ret
        refine HP.out _ ?_
        first
          | exact (below_drewN (below_drewN (below_drewN (below_drewN (below_drewN BL.out _) _) _) _) _)
          | exact (below_drewN (below_drewN (below_drewN (below_drewN BL.out _) _) _) _)
          | exact (below_drewN (below_drewN (below_drewN BL.out _) _) _)
          | exact (below_drewN (below_drewN BL.out _) _)
          | exact (below_drewN BL.out _)
    · have HP := Lib.hid (HB (decide (a1 < b1)) (by rw [decide_eq_false (by omega), decide_eq_false (by omega)]))
      clear HB hA hB ha hb
      go_enter Try.func61, Try.ntmps61
      go_wp2
      refine wp_loop_rounds 5 ?_
      rw [rounds_succ]
      go_wp2
      go_quiet (fail)
      go_wp2
      rw [rounds_succ]
      go_wp2
      go_quiet (fail)
      go_wp2
      go_quiet (fail)
      go_wp2
      go_ret
      refine HP.out _ ?_
      first
        | exact (below_drewN (below_drewN (below_drewN (below_drewN (below_drewN BL.out _) _) _) _) _)
        | exact (below_drewN (below_drewN (below_drewN (below_drewN BL.out _) _) _) _)
        | exact (below_drewN (below_drewN (below_drewN BL.out _) _) _)
        | exact (below_drewN (below_drewN BL.out _) _)
        | exact (below_drewN BL.out _)
  · have HP := Lib.hid (HB (decide (a0 < b0)) (by rw [decide_eq_false (by omega), decide_eq_false (by omega)]))
    clear HB hA hB ha hb
    go_enter Try.func61, Try.ntmps61
    go_wp2
    refine wp_loop_rounds 5 ?_
    rw [rounds_succ]
    go_wp2
    go_quiet (fail)
    go_wp2
    go_quiet (fail)
    go_wp2
    go_ret
    refine HP.out _ ?_
    first
      | exact (below_drewN (below_drewN (below_drewN (below_drewN (below_drewN BL.out _) _) _) _) _)
      | exact (below_drewN (below_drewN (below_drewN (below_drewN BL.out _) _) _) _)
      | exact (below_drewN (below_drewN (below_drewN BL.out _) _) _)
      | exact (below_drewN (below_drewN BL.out _) _)
      | exact (below_drewN BL.out _)
end Go.Proofs.Ytmlmohcghoelkaa

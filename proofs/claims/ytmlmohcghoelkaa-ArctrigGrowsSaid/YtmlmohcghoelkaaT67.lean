import Derived.Test.YtmlmohcghoelkaaT66
namespace Go.Proofs.Ytmlmohcghoelkaa
open Go.RowKit
set_option maxRecDepth 100000 in
set_option maxHeartbeats 2000000 in
theorem grows_bad (al ah bl bh l h : Int) (hv : validB al ah = false ∨ (validB al ah = true ∧ validB bl bh = false)) (w : World) :
    Calls Try.prog 7 #[pairV al ah, pairV bl bh, .int .u32 l, .int .u32 h] w (GPost (.bool true) w) := by
  have hmf : ∀ (fn : Fn) (first cap : Array Value) (w : World), (Instr.makeFunc fn first cap).run Try.prog w = .ok (.func fn first cap) w := fun _ _ _ _ => rfl
  have HA := Lib.hid awake_any
  have HVa := rval_any al ah
  have HVb := rval_any bl bh
  have b4 := blk4 w (.cells #[.int .i64 al, .int .i64 ah] 23) (.cells #[.int .i64 bl, .int .i64 bh] 23) (.cells #[.int .u32 l] 36) (.cells #[.int .u32 h] 36)
  have Ka := Lib.hid (show Pair 23 _ w.heap.size al ah from b4.1)
  have Kb := Lib.hid (show Pair 23 _ (w.heap.size + 1) bl bh from b4.2.1)
  have HB := Lib.hid (((((Below.refl w.heap.size w).alloc (Nat.le_refl _) (.cells #[.int .i64 al, .int .i64 ah] 23)).alloc (by simp) (.cells #[.int .i64 bl, .int .i64 bh] 23)).alloc (by simp; omega) (.cells #[.int .u32 l] 36)).alloc (by simp; omega) (.cells #[.int .u32 h] 36))
  clear b4
  unfold pairV at HVa HVb ⊢
  rcases hv with hv | ⟨hv, hv2⟩
  · rw [hv] at HVa
    replace HVa := Lib.hid HVa
    replace HVb := Lib.hid HVb
    clear hv
    go_enter Try.func7, Try.ntmps7
    go_wp2_with fail
    refine (HA.out _).mono ?_
    rintro e w1 ⟨rfl, hb⟩
    have ka := pair_below hb Ka.out
    have kb := pair_below hb Kb.out
    have HB := Lib.hid (HB.out.trans (hb.mono HB.out.size))
    obtain ⟨⟨a0, a1⟩, a2, a3⟩ := keep2 ka
    obtain ⟨⟨b0, b1⟩, b2, b3⟩ := keep2 kb
    have Ka := Lib.hid ka
    clear hb ka kb
    go_wp2_with fail
    refine (HVa.out _).mono ?_
    rintro e w2 ⟨rfl, hb⟩
    have HB := Lib.hid (HB.out.trans (hb.mono HB.out.size))
    clear hb
    go_wp2
    go_ret
    exact ⟨rfl, HB.out⟩
  · rw [hv] at HVa
    rw [hv2] at HVb
    replace HVa := Lib.hid HVa
    replace HVb := Lib.hid HVb
    clear hv hv2
    go_enter Try.func7, Try.ntmps7
    go_wp2_with fail
    refine (HA.out _).mono ?_
    rintro e w1 ⟨rfl, hb⟩
    have ka := pair_below hb Ka.out
    have kb := pair_below hb Kb.out
    have HB := Lib.hid (HB.out.trans (hb.mono HB.out.size))
    obtain ⟨⟨a0, a1⟩, a2, a3⟩ := keep2 ka
    obtain ⟨⟨b0, b1⟩, b2, b3⟩ := keep2 kb
    have Kb := Lib.hid kb
    clear hb ka kb
    go_wp2_with fail
    refine (HVa.out _).mono ?_
    rintro e w2 ⟨rfl, hb⟩
    have kb := pair_below hb Kb.out
    have HB := Lib.hid (HB.out.trans (hb.mono HB.out.size))
    obtain ⟨⟨c0, c1⟩, c2, c3⟩ := keep2 kb
    clear hb kb
    go_wp2_with fail
    refine (HVb.out _).mono ?_
    rintro e w3 ⟨rfl, hb⟩
    have HB := Lib.hid (HB.out.trans (hb.mono HB.out.size))
    clear hb
    go_wp2
    go_ret
    exact ⟨rfl, HB.out⟩
theorem grows_any (al ah bl bh l h : Int) (l0 : 0 ≤ l) (l1 : l ≤ 4294967295) (h0 : 0 ≤ h) (h1 : h ≤ 4294967295) (w : World) :
    Calls Try.prog 7 #[pairV al ah, pairV bl bh, .int .u32 l, .int .u32 h] w (GPost (.bool true) w) := by
  cases hva : validB al ah
  · exact grows_bad al ah bl bh l h (.inl hva) w
  · cases hvb : validB bl bh
    · exact grows_bad al ah bl bh l h (.inr ⟨hva, hvb⟩) w
    · exact grows_valid al ah bl bh l h hva hvb l0 l1 h0 h1 w
end Go.Proofs.Ytmlmohcghoelkaa

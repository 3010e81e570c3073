import Derived.Test.YtmlmohcghoelkaaT54
namespace Go.Proofs.Ytmlmohcghoelkaa
open Go.RowKit
def fitB (n : Int) : Bool := decide (-1099511627776 ≤ n ∧ n ≤ 1099511627776)
theorem fits_any (n : Int) (w : World) : Calls Try.prog 55 #[.int .i64 n] w (GPost (.bool (fitB n)) w) := by
  have HB := Lib.hid (Below.refl w.heap.size w)
  obtain ⟨V, hV⟩ : ∃ V, V = Value.bool (fitB n) := ⟨_, rfl⟩
  have HP : ∀ b, fitB n = b → GPost V w (.returned (.bool b)) w := fun b h => ⟨by rw [hV, h], HB.out⟩
  have HP := Lib.hid HP
  rw [← hV]
  clear hV
  by_cases h1 : -1099511627776 ≤ n
  · by_cases h2 : n ≤ 1099511627776
    · have HF := Lib.hid (HP.out true (by unfold fitB; rw [decide_eq_true]; omega))
      go_enter Try.func55, Try.ntmps55
      go_wp2
      go_ret
      exact HF.out
    · have HF := Lib.hid (HP.out false (by unfold fitB; rw [decide_eq_false]; omega))
      go_enter Try.func55, Try.ntmps55
      go_wp2
      go_ret
      exact HF.out
  · have HF := Lib.hid (HP.out false (by unfold fitB; rw [decide_eq_false]; omega))
    go_enter Try.func55, Try.ntmps55
    go_wp2
    go_ret
    exact HF.out
theorem gvalid_any (lo hi : Int) (w : World) : Calls Try.prog 44 #[pairV lo hi] w (GPost (.bool (avalidB lo hi)) w) := by
  obtain ⟨V, hV⟩ : ∃ V, V = Value.bool (avalidB lo hi) := ⟨_, rfl⟩
  have HP : ∀ b w', avalidB lo hi = b → Below w.heap.size w w' → GPost V w (.returned (.bool b)) w' := fun b w' h hb => ⟨by rw [hV, h], hb⟩
  have HP := Lib.hid HP
  have HB := Lib.hid ((Below.refl w.heap.size w).alloc (Nat.le_refl _) (.cells #[.int .i64 lo, .int .i64 hi] 25))
  have K1 := Lib.hid (show Pair 25 _ w.heap.size lo hi from heap_alloc_new w (.cells #[.int .i64 lo, .int .i64 hi] 25))
  rw [← hV]
  clear hV
  have H1 := fits_any lo
  have H2 := fits_any hi
  have e1 : fitB lo = decide (-1099511627776 ≤ lo ∧ lo ≤ 1099511627776) := rfl
  have e2 : fitB hi = decide (-1099511627776 ≤ hi ∧ hi ≤ 1099511627776) := rfl
  have he : avalidB lo hi = (decide (lo ≤ hi) && (fitB lo && fitB hi)) := by
    rw [e1, e2]; unfold avalidB
    rw [Bool.eq_iff_iff]
    simp only [Bool.and_eq_true, decide_eq_true_eq]
    omega
  have HE := Lib.hid he
  clear e1 e2 he
  generalize fitB lo = f1 at *
  generalize fitB hi = f2 at *
  have H1 := Lib.hid H1
  have H2 := Lib.hid H2
  unfold pairV
  by_cases h : lo ≤ hi
  · have HE := Lib.hid (show avalidB lo hi = (f1 && f2) by rw [HE.out, decide_eq_true h]; rfl)
    go_enter Try.func44, Try.ntmps44
    go_wp2_with fail
    refine (H1.out _).mono ?_
    rintro e w1 ⟨rfl, hb⟩
    have HB := Lib.hid (HB.out.trans (hb.mono HB.out.size))
    have k1 := pair_below hb K1.out
    obtain ⟨⟨a0, a1⟩, a2, a3⟩ := keep2 k1
    clear hb k1
    cases f1
    · have HF := Lib.hid (HP.out false w1 (by rw [HE.out]; rfl) HB.out)
      go_wp2
      go_ret
      exact HF.out
    · go_wp2_with fail
      refine (H2.out _).mono ?_
      rintro e w2 ⟨rfl, hb⟩
      have HB := Lib.hid (HB.out.trans (hb.mono HB.out.size))
      clear hb
      have HF := Lib.hid (HP.out f2 w2 (by rw [HE.out]; rfl) HB.out)
      go_wp2
      go_ret
      exact HF.out
  · have HF := Lib.hid (HP.out false _ (by rw [HE.out, decide_eq_false h]; rfl) HB.out)
    go_enter Try.func44, Try.ntmps44
    go_wp2
    go_ret
    exact HF.out
end Go.Proofs.Ytmlmohcghoelkaa
namespace Go.Proofs.Ytmlmohcghoelkaa
open Go.RowKit
theorem avalid_yes {lo hi : Int} (h1 : -1099511627776 ≤ lo) (h2 : lo ≤ hi) (h3 : hi ≤ 1099511627776) : avalidB lo hi = true := by
  unfold avalidB; rw [decide_eq_true]; omega
set_option maxHeartbeats 1000000 in
theorem inside_yes (a b c d : Int) (h1 : -1099511627776 ≤ c) (h2 : c ≤ a) (h3 : a ≤ b) (h4 : b ≤ d) (h5 : d ≤ 1099511627776) (w : World) : Calls Try.prog 24 #[pairV a b, pairV c d] w (GPost (.bool true) w) := by
  have H1 := gvalid_any a b
  have H2 := gvalid_any c d
  rw [avalid_yes (by omega) (by omega) (by omega)] at H1
  rw [avalid_yes (by omega) (by omega) (by omega)] at H2
  have K1 := Lib.hid (show Pair 25 _ w.heap.size a b from blk2_first w (.cells #[.int .i64 a, .int .i64 b] 25) (.cells #[.int .i64 c, .int .i64 d] 25))
  have K2 := Lib.hid (show Pair 25 _ (w.heap.size + 1) c d from blk2_second w (.cells #[.int .i64 a, .int .i64 b] 25) (.cells #[.int .i64 c, .int .i64 d] 25))
  have HB := Lib.hid (((Below.refl w.heap.size w).alloc (Nat.le_refl _) (.cells #[.int .i64 a, .int .i64 b] 25)).alloc (by simp) (.cells #[.int .i64 c, .int .i64 d] 25))
  unfold pairV at H1 H2 ⊢
  replace H1 := Lib.hid H1
  replace H2 := Lib.hid H2
  go_enter Try.func24, Try.ntmps24
  go_wp2_with fail
  refine (H1.out _).mono ?_
  rintro e w1 ⟨rfl, hb⟩
  have k1 := pair_below hb K1.out
  have k2 := pair_below hb K2.out
  have HB := Lib.hid (HB.out.trans (hb.mono HB.out.size))
  obtain ⟨⟨a0, a1⟩, a2, a3⟩ := keep2 k1
  obtain ⟨⟨b0, b1⟩, b2, b3⟩ := keep2 k2
  have K1 := Lib.hid k1
  have K2 := Lib.hid k2
  clear hb k1 k2
  go_wp2_with fail
  refine (H2.out _).mono ?_
  rintro e w2 ⟨rfl, hb⟩
  have k1 := pair_below hb K1.out
  have k2 := pair_below hb K2.out
  have HB := Lib.hid (HB.out.trans (hb.mono HB.out.size))
  obtain ⟨⟨a0, a1⟩, a2, a3⟩ := keep2 k1
  obtain ⟨⟨b0, b1⟩, b2, b3⟩ := keep2 k2
  clear hb k1 k2
  go_wp2
  go_ret
  exact ⟨rfl, HB.out⟩
theorem turned_hm2 (n : Int) : n.tmod 21600000 = n % 21600000 ∨ n.tmod 21600000 + 21600000 = n % 21600000 ∧ n.tmod 21600000 < 0 := by
  obtain ⟨k1, k2, _, _⟩ := tmod_turn n
  by_cases h : 0 ≤ n.tmod 21600000
  · exact .inl (k1 h)
  · exact .inr ⟨k2 (by omega), by omega⟩
set_option maxHeartbeats 400000 in
theorem wrap_any (n : Int) (w : World) : Calls Try.prog 45 #[.int .i64 n] w (GPost (.int .i64 (n % 21600000)) w) := by
  have hm := turned_hm2 n
  have HB := Lib.hid (Below.refl w.heap.size w)
  obtain ⟨m, h⟩ : ∃ m, n % 21600000 = m := ⟨_, rfl⟩
  rw [h] at hm ⊢
  have h0 : 0 ≤ m := by omega
  clear h
  rcases hm with hs | ⟨hs, hs2⟩
  all_goals (
    go_enter Try.func45, Try.ntmps45
    go_wp2
    go_ret
    exact ⟨rfl, HB.out⟩)
/-- The direction form of a valid arc. -/
def turnL (lo hi : Int) : Int := if 21600000 ≤ hi - lo then 0 else lo % 21600000
def turnH (lo hi : Int) : Int := if 21600000 ≤ hi - lo then 21600000 else lo % 21600000 + (hi - lo)
set_option maxRecDepth 100000 in
set_option maxHeartbeats 1000000 in
theorem turn_ok (lo hi : Int) (h1 : -1099511627776 ≤ lo) (h2 : lo ≤ hi) (h3 : hi ≤ 1099511627776) (w : World) : Calls Try.prog 26 #[pairV lo hi] w (GPost (arcV (turnL lo hi, turnH lo hi, 0)) w) := by
  have H1 := gvalid_any lo hi
  rw [avalid_yes h1 h2 h3] at H1
  have H2 := Lib.hid (wrap_any lo)
  obtain ⟨V, hV⟩ : ∃ V, V = arcV (turnL lo hi, turnH lo hi, 0) := ⟨_, rfl⟩
  rw [← hV]
  unfold turnL turnH at hV
  have K1 := Lib.hid (show Pair 25 _ w.heap.size lo hi from blk2_first w (.cells #[.int .i64 lo, .int .i64 hi] 25) (.cells #[.int .i64 0, .int .i64 0] 25))
  have K2 := Lib.hid (show Pair 25 _ (w.heap.size + 1) 0 0 from blk2_second w (.cells #[.int .i64 lo, .int .i64 hi] 25) (.cells #[.int .i64 0, .int .i64 0] 25))
  have HB := Lib.hid (((Below.refl w.heap.size w).alloc (Nat.le_refl _) (.cells #[.int .i64 lo, .int .i64 hi] 25)).alloc (by simp) (.cells #[.int .i64 0, .int .i64 0] 25))
  have m0 : 0 ≤ lo % 21600000 ∧ lo % 21600000 < 21600000 := by omega
  generalize lo % 21600000 = m at *
  unfold pairV at H1 ⊢
  replace H1 := Lib.hid H1
  by_cases hw : 21600000 ≤ hi - lo
  · rw [if_pos hw, if_pos hw] at hV
    replace hV := Lib.hid hV
    go_enter Try.func26, Try.ntmps26
    go_wp2_with fail
    refine (H1.out _).mono ?_
    rintro e w1 ⟨rfl, hb⟩
    have k1 := pair_below hb K1.out
    have k2 := pair_below hb K2.out
    have l1 := k1.lt
    have l2 := k2.lt
    obtain ⟨⟨a0, a1⟩, a2, a3⟩ := keep2 k1
    obtain ⟨⟨b0, b1⟩, b2, b3⟩ := keep2 k2
    have HB := Lib.hid ((HB.out.trans (hb.mono HB.out.size)).setCell (p := ⟨w.heap.size + 1, 0, none⟩) (by simp) (.int .i64 0) |>.setCell (p := ⟨w.heap.size + 1, 1, none⟩) (by simp) (.int .i64 21600000))
    have n3 := k2.write 0 21600000
    obtain ⟨⟨r0, r1⟩, r2, r3⟩ := keep2 n3
    clear hb k1 k2 n3
    go_wp2
    refine bodyPost_ret (v := V) (by rw [hV.out]; simp [results, Try.results26, go_sem, arcV, pairV, r0, r1]) rfl ⟨rfl, HB.out⟩
  · rw [if_neg hw, if_neg hw] at hV
    replace hV := Lib.hid hV
    go_enter Try.func26, Try.ntmps26
    go_wp2_with fail
    refine (H1.out _).mono ?_
    rintro e w1 ⟨rfl, hb⟩
    have k1 := pair_below hb K1.out
    have k2 := pair_below hb K2.out
    have l1 := k1.lt
    have l2 := k2.lt
    obtain ⟨⟨a0, a1⟩, a2, a3⟩ := keep2 k1
    obtain ⟨⟨b0, b1⟩, b2, b3⟩ := keep2 k2
    have HB := Lib.hid (HB.out.trans (hb.mono HB.out.size))
    have K2 := Lib.hid k2
    clear hb k1 k2
    go_wp2_with fail
    refine (H2.out _).mono ?_
    rintro e w2 ⟨rfl, hb⟩
    have k2 := pair_below hb K2.out
    have l2 := k2.lt
    obtain ⟨⟨b0, b1⟩, b2, b3⟩ := keep2 k2
    have HB := Lib.hid ((HB.out.trans (hb.mono HB.out.size)).setCell (p := ⟨w.heap.size + 1, 0, none⟩) (by simp) (.int .i64 m) |>.setCell (p := ⟨w.heap.size + 1, 1, none⟩) (by simp) (.int .i64 (m + (hi - lo))))
    have n3 := k2.write m (m + (hi - lo))
    obtain ⟨⟨r0, r1⟩, r2, r3⟩ := keep2 n3
    clear hb k2 n3
    go_wp2
    refine bodyPost_ret (v := V) (by rw [hV.out]; simp [results, Try.results26, go_sem, arcV, pairV, r0, r1]) rfl ⟨rfl, HB.out⟩
end Go.Proofs.Ytmlmohcghoelkaa

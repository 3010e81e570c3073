import Derived.Test.YtcjkfchjcealbaaT54
namespace Go.Proofs.Ytcjkfchjcealbaa
open Go.RowKit
def fitB (n : Int) : Bool := decide (-1099511627776 ≤ n ∧ n ≤ 1099511627776)
theorem fits_any (n : Int) (w : World) : Calls Try.prog 54 #[.int .i64 n] w (GPost (.bool (fitB n)) w) := by
  have HB := Lib.hid (Below.refl w.heap.size w)
  obtain ⟨V, hV⟩ : ∃ V, V = Value.bool (fitB n) := ⟨_, rfl⟩
  have HP : ∀ b, fitB n = b → GPost V w (.returned (.bool b)) w := fun b h => ⟨by rw [hV, h], HB.out⟩
  have HP := Lib.hid HP
  rw [← hV]
  clear hV
  by_cases h1 : -1099511627776 ≤ n
  · by_cases h2 : n ≤ 1099511627776
    · have HF := Lib.hid (HP.out true (by unfold fitB; rw [decide_eq_true]; omega))
      go_enter Try.func54, Try.ntmps54
      go_wp2
      go_ret
      exact HF.out
    · have HF := Lib.hid (HP.out false (by unfold fitB; rw [decide_eq_false]; omega))
      go_enter Try.func54, Try.ntmps54
      go_wp2
      go_ret
      exact HF.out
  · have HF := Lib.hid (HP.out false (by unfold fitB; rw [decide_eq_false]; omega))
    go_enter Try.func54, Try.ntmps54
    go_wp2
    go_ret
    exact HF.out
theorem gvalid_any (lo hi : Int) (w : World) : Calls Try.prog 35 #[pairV lo hi] w (GPost (.bool (avalidB lo hi)) w) := by
  obtain ⟨V, hV⟩ : ∃ V, V = Value.bool (avalidB lo hi) := ⟨_, rfl⟩
  have HP : ∀ b w', avalidB lo hi = b → Below w.heap.size w w' → GPost V w (.returned (.bool b)) w' := fun b w' h hb => ⟨by rw [hV, h], hb⟩
  have HP := Lib.hid HP
  have HB := Lib.hid ((Below.refl w.heap.size w).alloc (Nat.le_refl _) (.cells #[.int .i64 lo, .int .i64 hi] 25))
  have K1 := Lib.hid (show Pair 25 _ w.heap.size lo hi from heap_alloc_new w (.cells #[.int .i64 lo, .int .i64 hi] 25))
  rw [← hV]
  clear hV
  have H1 := fits_any lo
  have H2 := fits_any hi
  have e1 : fitB lo = decide (-1099511627776 ≤ lo ∧ lo ≤ 1099511627776) := rfl
  have e2 : fitB hi = decide (-1099511627776 ≤ hi ∧ hi ≤ 1099511627776) := rfl
  have he : avalidB lo hi = (decide (lo ≤ hi) && (fitB lo && fitB hi)) := by
    rw [e1, e2]; unfold avalidB
    rw [Bool.eq_iff_iff]
    simp only [Bool.and_eq_true, decide_eq_true_eq]
    omega
  have HE := Lib.hid he
  clear e1 e2 he
  generalize fitB lo = f1 at *
  generalize fitB hi = f2 at *
  have H1 := Lib.hid H1
  have H2 := Lib.hid H2
  unfold pairV
  by_cases h : lo ≤ hi
  · have HE := Lib.hid (show avalidB lo hi = (f1 && f2) by rw [HE.out, decide_eq_true h]; rfl)
    go_enter Try.func35, Try.ntmps35
    go_wp2_with fail
    refine (H1.out _).mono ?_
    rintro e w1 ⟨rfl, hb⟩
    have HB := Lib.hid (HB.out.trans (hb.mono HB.out.size))
    have k1 := pair_below hb K1.out
    obtain ⟨⟨a0, a1⟩, a2, a3⟩ := keep2 k1
    clear hb k1
    cases f1
    · have HF := Lib.hid (HP.out false w1 (by rw [HE.out]; rfl) HB.out)
      go_wp2
      go_ret
      exact HF.out
    · go_wp2_with fail
      refine (H2.out _).mono ?_
      rintro e w2 ⟨rfl, hb⟩
      have HB := Lib.hid (HB.out.trans (hb.mono HB.out.size))
      clear hb
      have HF := Lib.hid (HP.out f2 w2 (by rw [HE.out]; rfl) HB.out)
      go_wp2
      go_ret
      exact HF.out
  · have HF := Lib.hid (HP.out false _ (by rw [HE.out, decide_eq_false h]; rfl) HB.out)
    go_enter Try.func35, Try.ntmps35
    go_wp2
    go_ret
    exact HF.out
end Go.Proofs.Ytcjkfchjcealbaa

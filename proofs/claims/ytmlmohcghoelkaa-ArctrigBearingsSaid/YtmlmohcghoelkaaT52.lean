import Derived.Test.YtmlmohcghoelkaaT38
import Derived.Deep.RegionHeld3
namespace Go.Proofs.Ytmlmohcghoelkaa
open Go.RowKit SM
def avalidB (lo hi : Int) : Bool := decide (-1099511627776 ≤ lo ∧ lo ≤ hi ∧ hi ≤ 1099511627776)
set_option maxHeartbeats 400000 in
theorem avalid_any (lo hi : Int) (w : World) : Calls Try.prog 46 #[pairV lo hi] w (GPost (.bool (avalidB lo hi)) w) := by
  obtain ⟨V, hV⟩ : ∃ V, V = Value.bool (avalidB lo hi) := ⟨_, rfl⟩
  have HP : ∀ b w', avalidB lo hi = b → Below w.heap.size w w' → GPost V w (.returned (.bool b)) w' := fun b w' h hb => ⟨by rw [hV, h], hb⟩
  have HP := Lib.hid HP
  have HB := Lib.hid ((Below.refl w.heap.size w).alloc (Nat.le_refl _) (.cells #[.int .i64 lo, .int .i64 hi] 25))
  rw [← hV]
  clear hV
  unfold pairV
  by_cases h1 : -1099511627776 ≤ lo
  · by_cases h2 : lo ≤ hi
    · by_cases h3 : hi ≤ 1099511627776
      · have HF := Lib.hid (HP.out true _ (by unfold avalidB; rw [decide_eq_true]; omega) HB.out)
        go_enter Try.func46, Try.ntmps46
        go_wp2
        go_ret
        exact HF.out
      · have HF := Lib.hid (HP.out false _ (by unfold avalidB; rw [decide_eq_false]; omega) HB.out)
        go_enter Try.func46, Try.ntmps46
        go_wp2
        go_ret
        exact HF.out
    · have HF := Lib.hid (HP.out false _ (by unfold avalidB; rw [decide_eq_false]; omega) HB.out)
      go_enter Try.func46, Try.ntmps46
      go_wp2
      go_ret
      exact HF.out
  · have HF := Lib.hid (HP.out false _ (by unfold avalidB; rw [decide_eq_false]; omega) HB.out)
    go_enter Try.func46, Try.ntmps46
    go_wp2
    go_ret
    exact HF.out
def meetB (lo hi n : Int) : Bool := decide ((n - lo) % 21600000 ≤ hi - lo)
theorem keepc {w0 W w1 : World} {b : Nat} {v0 v1 : Value} (h : (W.cell? ⟨b, 0, none⟩ = some v0 ∧ W.cell? ⟨b, 1, none⟩ = some v1) ∧ Below w0.heap.size w0 W) (hb : Below W.heap.size W w1) :
    (w1.cell? ⟨b, 0, none⟩ = some v0 ∧ w1.cell? ⟨b, 1, none⟩ = some v1) ∧ Below w0.heap.size w0 w1 := by
  obtain ⟨⟨h0, h1⟩, hB⟩ := h
  have hlt := World.block_lt_of_cell? W _ h0
  exact ⟨⟨(hb.cell (p := ⟨b, 0, none⟩) hlt).trans h0, (hb.cell (p := ⟨b, 1, none⟩) hlt).trans h1⟩, hB.trans (hb.mono hB.size)⟩
set_option maxRecDepth 100000 in
set_option maxHeartbeats 1000000 in
theorem meets_any (lo hi n : Int) (h0 : -2000000000000 ≤ lo) (h1 : lo ≤ 2000000000000) (h2 : -2000000000000 ≤ hi) (h3 : hi ≤ 2000000000000) (h4 : 0 ≤ n) (h5 : n ≤ 21600000) (w : World) : Calls Try.prog 56 #[pairV lo hi, .int .i64 n] w (GPost (.bool (meetB lo hi n)) w) := by
  have K1 := Lib.hid (show Pair 25 _ w.heap.size lo hi from heap_alloc_new w (.cells #[.int .i64 lo, .int .i64 hi] 25))
  have HB := Lib.hid ((Below.refl w.heap.size w).alloc (Nat.le_refl _) (.cells #[.int .i64 lo, .int .i64 hi] 25))
  have HT := Lib.hid (fun m (hm : m = n - lo) w => (turned_any m w).mono (fun e w' h => (⟨by rw [← hm]; exact h.1, h.2 ▸ Below.refl _ _⟩ : GPost (.int .i64 ((n - lo) % 21600000)) w e w')))
  have wv := Lib.hid (show IntKind.i64.wrap (n - lo) = n - lo from IntWalk.i64_in _ (by omega))
  have wu : IntKind.i64.wrap (hi - lo) = hi - lo := IntWalk.i64_in _ (by omega)
  have HD : decide ((n - lo) % 21600000 ≤ hi - lo) = meetB lo hi n := rfl
  obtain ⟨t, ht⟩ : ∃ t, (n - lo) % 21600000 = t := ⟨_, rfl⟩
  rw [ht] at HT HD
  have HD := Lib.hid HD
  have t0 : 0 ≤ t := by omega
  have t1 : t < 21600000 := by omega
  clear ht
  unfold pairV
  go_enter Try.func56, Try.ntmps56
  go_wp2_with fail
  generalize w.alloc (.cells #[.int .i64 lo, .int .i64 hi] 25) = W at *
  obtain ⟨⟨a0, a1⟩, a2, a3⟩ := keep2 K1.out
  go_region_held3 (fun w' => (w'.cell? ⟨w.heap.size, 0, none⟩ = some (.int .i64 lo) ∧ w'.cell? ⟨w.heap.size, 1, none⟩ = some (.int .i64 hi)) ∧ Below W.heap.size W w')
    (first | exact ⟨⟨a0, a1⟩, (Below.refl _ _).drew⟩ | exact keepc (by assumption) (by assumption))
    (first
      | (go_at_call 53; (with_reducible refine (HT.out _ wv.out _).mono ?_); rintro e w6 ⟨rfl, hb⟩))
  have hh : Below W.heap.size W w6 := And.right (by assumption)
  have HF := Lib.hid (HB.out.trans (hh.mono HB.out.size))
  clear hh
  go_wp2
  go_ret
  refine ⟨?_, HF.out⟩
  rw [← HD.out, ← wu]
  rfl
/-- The enclosure of the sine over an arc. -/
def encL (lo hi : Int) : Int := if meetB lo hi 16200000 then -1073741824 else min (lob lo) (lob hi)
def encH (lo hi : Int) : Int := if meetB lo hi 5400000 then 1073741824 else max (hib lo) (hib hi)
set_option maxRecDepth 100000 in
set_option maxHeartbeats 1000000 in
theorem encl_any (lo hi : Int) (h0 : -2000000000000 ≤ lo) (h1 : lo ≤ 2000000000000) (h2 : -2000000000000 ≤ hi) (h3 : hi ≤ 2000000000000) (w : World) : Calls Try.prog 47 #[pairV lo hi] w (GPost (pairV (encL lo hi) (encH lo hi)) w) := by
  have HL := Lib.hid (bounds_any lo)
  have HH := Lib.hid (bounds_any hi)
  have H1 := meets_any lo hi 5400000 h0 h1 h2 h3 (by omega) (by omega)
  have H2 := meets_any lo hi 16200000 h0 h1 h2 h3 (by omega) (by omega)
  obtain ⟨V, hV⟩ : ∃ V, V = pairV (encL lo hi) (encH lo hi) := ⟨_, rfl⟩
  rw [← hV]
  unfold encL encH at hV
  generalize meetB lo hi 5400000 = c1 at *
  generalize meetB lo hi 16200000 = c2 at *
  generalize lob lo = a at *
  generalize hib lo = b at *
  generalize lob hi = c at *
  generalize hib hi = d at *
  unfold pairV at H1 H2 ⊢
  replace H1 := Lib.hid H1
  replace H2 := Lib.hid H2
  replace hV := Lib.hid hV
  clear h0 h1 h2 h3
  have b3 := blk2_second w (.cells #[.int .i64 lo, .int .i64 hi] 25) (.cells #[.int .i64 0, .int .i64 0] 23)
  have b2 := blk2_first w (.cells #[.int .i64 lo, .int .i64 hi] 25) (.cells #[.int .i64 0, .int .i64 0] 23)
  have K1 := Lib.hid (show Pair 25 _ w.heap.size lo hi from b2)
  have K2 := Lib.hid (show Pair 23 _ (w.heap.size + 1) 0 0 from b3)
  have HB := Lib.hid (((Below.refl w.heap.size w).alloc (Nat.le_refl _) (.cells #[.int .i64 lo, .int .i64 hi] 25)).alloc (by simp) (.cells #[.int .i64 0, .int .i64 0] 23))
  clear b2 b3
  go_enter Try.func47, Try.ntmps47
  go_wp2_with fail
  refine (HL.out _).mono ?_
  rintro e w1 ⟨rfl, hb⟩
  have k1 := pair_below hb K1.out
  have k2 := pair_below hb K2.out
  have l1 := k1.lt
  have l2 := k2.lt
  obtain ⟨⟨a10, a11⟩, a12, a13⟩ := keep2 k1
  obtain ⟨⟨a20, a21⟩, a22, a23⟩ := keep2 k2
  have HB := Lib.hid (HB.out.trans (hb.mono HB.out.size))
  have K1 := Lib.hid k1
  have K2 := Lib.hid k2
  clear hb k1 k2
  go_wp2_with fail
  refine (HH.out _).mono ?_
  rintro e w2 ⟨rfl, hb⟩
  have k1 := pair_below hb K1.out
  have k2 := pair_below hb K2.out
  have l1 := k1.lt
  have l2 := k2.lt
  obtain ⟨⟨a10, a11⟩, a12, a13⟩ := keep2 k1
  obtain ⟨⟨a20, a21⟩, a22, a23⟩ := keep2 k2
  have HB := Lib.hid (HB.out.trans (hb.mono HB.out.size))
  have K1 := Lib.hid k1
  have K2 := Lib.hid k2
  clear hb k1 k2
  go_wp2_with fail
  refine (H1.out _).mono ?_
  rintro e w3 ⟨rfl, hb⟩
  have k1 := pair_below hb K1.out
  have k2 := pair_below hb K2.out
  have l1 := k1.lt
  have l2 := k2.lt
  obtain ⟨⟨a10, a11⟩, a12, a13⟩ := keep2 k1
  obtain ⟨⟨a20, a21⟩, a22, a23⟩ := keep2 k2
  have HB := Lib.hid (HB.out.trans (hb.mono HB.out.size))
  have K1 := Lib.hid k1
  have K2 := Lib.hid k2
  clear hb k1 k2
  cases c1 <;> cases c2
  all_goals (
    replace hV := Lib.hid hV.out
    go_wp2_with fail
    refine (H2.out _).mono ?_
    rintro e w4 ⟨rfl, hb⟩
    have k2 := pair_below hb K2.out
    have l2 := k2.lt
    obtain ⟨⟨a20, a21⟩, a22, a23⟩ := keep2 k2
    have HB := Lib.hid (HB.out.trans (hb.mono HB.out.size))
    have K2 := Lib.hid k2
    clear hb k2)
  · have hV := hV.out
    simp only [Bool.false_eq_true, reduceIte] at hV
    have K3 := K2.out.write (min a c) (max b d)
    obtain ⟨⟨r0, r1⟩, r2, r3⟩ := keep2 K3
    have HB := Lib.hid ((HB.out.setCell (p := ⟨w.heap.size + 1, 0, none⟩) (by simp) (.int .i64 (min a c))).setCell (p := ⟨w.heap.size + 1, 1, none⟩) (by simp) (.int .i64 (max b d)))
    replace hV := Lib.hid hV
    clear K3
    go_wp2
    refine bodyPost_ret (v := V) (by rw [hV.out]; simp [results, Try.results47, go_sem, pairV, r0, r1]) rfl ⟨rfl, HB.out⟩
  · have hV := hV.out
    simp only [Bool.false_eq_true, reduceIte] at hV
    have K3 := K2.out.write (-1073741824) (max b d)
    obtain ⟨⟨r0, r1⟩, r2, r3⟩ := keep2 K3
    have HB := Lib.hid ((HB.out.setCell (p := ⟨w.heap.size + 1, 0, none⟩) (by simp) (.int .i64 (-1073741824))).setCell (p := ⟨w.heap.size + 1, 1, none⟩) (by simp) (.int .i64 (max b d)))
    replace hV := Lib.hid hV
    clear K3
    go_wp2
    refine bodyPost_ret (v := V) (by rw [hV.out]; simp [results, Try.results47, go_sem, pairV, r0, r1]) rfl ⟨rfl, HB.out⟩
  · have hV := hV.out
    simp only [Bool.false_eq_true, reduceIte] at hV
    have K3 := K2.out.write (min a c) 1073741824
    obtain ⟨⟨r0, r1⟩, r2, r3⟩ := keep2 K3
    have HB := Lib.hid ((HB.out.setCell (p := ⟨w.heap.size + 1, 0, none⟩) (by simp) (.int .i64 (min a c))).setCell (p := ⟨w.heap.size + 1, 1, none⟩) (by simp) (.int .i64 1073741824))
    replace hV := Lib.hid hV
    clear K3
    go_wp2
    refine bodyPost_ret (v := V) (by rw [hV.out]; simp [results, Try.results47, go_sem, pairV, r0, r1]) rfl ⟨rfl, HB.out⟩
  · have hV := hV.out
    simp only [reduceIte] at hV
    have K3 := K2.out.write (-1073741824) 1073741824
    obtain ⟨⟨r0, r1⟩, r2, r3⟩ := keep2 K3
    have HB := Lib.hid ((HB.out.setCell (p := ⟨w.heap.size + 1, 0, none⟩) (by simp) (.int .i64 (-1073741824))).setCell (p := ⟨w.heap.size + 1, 1, none⟩) (by simp) (.int .i64 1073741824))
    replace hV := Lib.hid hV
    clear K3
    go_wp2
    refine bodyPost_ret (v := V) (by rw [hV.out]; simp [results, Try.results47, go_sem, pairV, r0, r1]) rfl ⟨rfl, HB.out⟩
end Go.Proofs.Ytmlmohcghoelkaa

import Derived.Test.YtfilgpifiboccaaGreatT37
import Derived.Deep.RegionHeld3
namespace Go.Proofs.YtfilgpifiboccaaGreat
open Go.RowKit SM
def avalidB (lo hi : Int) : Bool := decide (-1099511627776 ≤ lo ∧ lo ≤ hi ∧ hi ≤ 1099511627776)
set_option maxHeartbeats 400000 in
theorem avalid_any (lo hi : Int) (w : World) : Calls Tryz.prog 110 #[pairV lo hi] w (GPost (.bool (avalidB lo hi)) w) := by
  obtain ⟨V, hV⟩ : ∃ V, V = Value.bool (avalidB lo hi) := ⟨_, rfl⟩
  have HP : ∀ b w', avalidB lo hi = b → Below w.heap.size w w' → GPost V w (.returned (.bool b)) w' := fun b w' h hb => ⟨by rw [hV, h], hb⟩
  have HP := Lib.hid HP
  have HB := Lib.hid ((Below.refl w.heap.size w).alloc (Nat.le_refl _) (.cells #[.int .i64 lo, .int .i64 hi] 23))
  rw [← hV]
  clear hV
  unfold pairV
  by_cases h1 : -1099511627776 ≤ lo
  · by_cases h2 : lo ≤ hi
    · by_cases h3 : hi ≤ 1099511627776
      · have HF := Lib.hid (HP.out true _ (by unfold avalidB; rw [decide_eq_true]; omega) HB.out)
        go_enter Tryz.func110, Tryz.ntmps110
        go_wp2
        go_ret
        exact HF.out
      · have HF := Lib.hid (HP.out false _ (by unfold avalidB; rw [decide_eq_false]; omega) HB.out)
        go_enter Tryz.func110, Tryz.ntmps110
        go_wp2
        go_ret
        exact HF.out
    · have HF := Lib.hid (HP.out false _ (by unfold avalidB; rw [decide_eq_false]; omega) HB.out)
      go_enter Tryz.func110, Tryz.ntmps110
      go_wp2
      go_ret
      exact HF.out
  · have HF := Lib.hid (HP.out false _ (by unfold avalidB; rw [decide_eq_false]; omega) HB.out)
    go_enter Tryz.func110, Tryz.ntmps110
    go_wp2
    go_ret
    exact HF.out
def meetB (lo hi n : Int) : Bool := decide ((n - lo) % 21600000 ≤ hi - lo)
theorem keepc {w0 W w1 : World} {b : Nat} {v0 v1 : Value} (h : (W.cell? ⟨b, 0, none⟩ = some v0 ∧ W.cell? ⟨b, 1, none⟩ = some v1) ∧ Below w0.heap.size w0 W) (hb : Below W.heap.size W w1) :
    (w1.cell? ⟨b, 0, none⟩ = some v0 ∧ w1.cell? ⟨b, 1, none⟩ = some v1) ∧ Below w0.heap.size w0 w1 := by
  obtain ⟨⟨h0, h1⟩, hB⟩ := h
  have hlt := World.block_lt_of_cell? W _ h0
  exact ⟨⟨(hb.cell (p := ⟨b, 0, none⟩) hlt).trans h0, (hb.cell (p := ⟨b, 1, none⟩) hlt).trans h1⟩, hB.trans (hb.mono hB.size)⟩
set_option maxRecDepth 100000 in
set_option maxHeartbeats 1000000 in
theorem meets_any (lo hi n : Int) (h0 : -2000000000000 ≤ lo) (h1 : lo ≤ 2000000000000) (h2 : -2000000000000 ≤ hi) (h3 : hi ≤ 2000000000000) (h4 : 0 ≤ n) (h5 : n ≤ 21600000) (w : World) : Calls Tryz.prog 149 #[pairV lo hi, .int .i64 n] w (GPost (.bool (meetB lo hi n)) w) := by
  have K1 := Lib.hid (show Pair 23 _ w.heap.size lo hi from heap_alloc_new w (.cells #[.int .i64 lo, .int .i64 hi] 23))
  have HB := Lib.hid ((Below.refl w.heap.size w).alloc (Nat.le_refl _) (.cells #[.int .i64 lo, .int .i64 hi] 23))
  have HT := Lib.hid (fun m (hm : m = n - lo) w => (turned_any m w).mono (fun e w' h => (⟨by rw [← hm]; exact h.1, h.2 ▸ Below.refl _ _⟩ : GPost (.int .i64 ((n - lo) % 21600000)) w e w')))
  have wv := Lib.hid (show IntKind.i64.wrap (n - lo) = n - lo from IntWalk.i64_in _ (by omega))
  have wu : IntKind.i64.wrap (hi - lo) = hi - lo := IntWalk.i64_in _ (by omega)
  have HD : decide ((n - lo) % 21600000 ≤ hi - lo) = meetB lo hi n := rfl
  obtain ⟨t, ht⟩ : ∃ t, (n - lo) % 21600000 = t := ⟨_, rfl⟩
  rw [ht] at HT HD
  have HD := Lib.hid HD
  have t0 : 0 ≤ t := by omega
  have t1 : t < 21600000 := by omega
  clear ht
  unfold pairV
  go_enter Tryz.func149, Tryz.ntmps149
  go_wp2_with fail
  generalize w.alloc (.cells #[.int .i64 lo, .int .i64 hi] 23) = W at *
  obtain ⟨⟨a0, a1⟩, a2, a3⟩ := keep2 K1.out
  go_region_held3 (fun w' => (w'.cell? ⟨w.heap.size, 0, none⟩ = some (.int .i64 lo) ∧ w'.cell? ⟨w.heap.size, 1, none⟩ = some (.int .i64 hi)) ∧ Below W.heap.size W w')
    (first | exact ⟨⟨a0, a1⟩, (Below.refl _ _).drew⟩ | exact keepc (by assumption) (by assumption))
    (first
      | (go_at_call 168; (with_reducible refine (HT.out _ wv.out _).mono ?_); rintro e w6 ⟨rfl, hb⟩))
  have hh : Below W.heap.size W w6 := And.right (by assumption)
  have HF := Lib.hid (HB.out.trans (hh.mono HB.out.size))
  clear hh
  go_wp2
  go_ret
  refine ⟨?_, HF.out⟩
  rw [← HD.out, ← wu]
  rfl
/-- The enclosure of the sine over an arc. -/
def encL (lo hi : Int) : Int := if meetB lo hi 16200000 then -1073741824 else min (lob lo) (lob hi)
def encH (lo hi : Int) : Int := if meetB lo hi 5400000 then 1073741824 else max (hib lo) (hib hi)
set_option maxRecDepth 100000 in
set_option maxHeartbeats 1000000 in
theorem encl_any (lo hi : Int) (h0 : -2000000000000 ≤ lo) (h1 : lo ≤ 2000000000000) (h2 : -2000000000000 ≤ hi) (h3 : hi ≤ 2000000000000) (w : World) : Calls Tryz.prog 111 #[pairV lo hi] w (GPost (pairV (encL lo hi) (encH lo hi)) w) := by
  have HL := Lib.hid (bounds_any lo)
  have HH := Lib.hid (bounds_any hi)
  have H1 := meets_any lo hi 5400000 h0 h1 h2 h3 (by omega) (by omega)
  have H2 := meets_any lo hi 16200000 h0 h1 h2 h3 (by omega) (by omega)
  obtain ⟨V, hV⟩ : ∃ V, V = pairV (encL lo hi) (encH lo hi) := ⟨_, rfl⟩
  rw [← hV]
  unfold encL encH at hV
  generalize meetB lo hi 5400000 = c1 at *
  generalize meetB lo hi 16200000 = c2 at *
  generalize lob lo = a at *
  generalize hib lo = b at *
  generalize lob hi = c at *
  generalize hib hi = d at *
  unfold pairV at H1 H2 ⊢
  replace H1 := Lib.hid H1
  replace H2 := Lib.hid H2
  replace hV := Lib.hid hV
  clear h0 h1 h2 h3
  have b3 := blk2_second w (.cells #[.int .i64 lo, .int .i64 hi] 23) (.cells #[.int .i64 0, .int .i64 0] 60)
  have b2 := blk2_first w (.cells #[.int .i64 lo, .int .i64 hi] 23) (.cells #[.int .i64 0, .int .i64 0] 60)
  have K1 := Lib.hid (show Pair 23 _ w.heap.size lo hi from b2)
  have K2 := Lib.hid (show Pair 60 _ (w.heap.size + 1) 0 0 from b3)
  have HB := Lib.hid (((Below.refl w.heap.size w).alloc (Nat.le_refl _) (.cells #[.int .i64 lo, .int .i64 hi] 23)).alloc (by simp) (.cells #[.int .i64 0, .int .i64 0] 60))
  clear b2 b3
  go_enter Tryz.func111, Tryz.ntmps111
  go_wp2_with fail
  refine (HL.out _).mono ?_
  rintro e w1 ⟨rfl, hb⟩
  have k1 := pair_below hb K1.out
  have k2 := pair_below hb K2.out
  have l1 := k1.lt
  have l2 := k2.lt
  obtain ⟨⟨a10, a11⟩, a12, a13⟩ := keep2 k1
  obtain ⟨⟨a20, a21⟩, a22, a23⟩ := keep2 k2
  have HB := Lib.hid (HB.out.trans (hb.mono HB.out.size))
  have K1 := Lib.hid k1
  have K2 := Lib.hid k2
  clear hb k1 k2
  go_wp2_with fail
  refine (HH.out _).mono ?_
  rintro e w2 ⟨rfl, hb⟩
  have k1 := pair_below hb K1.out
  have k2 := pair_below hb K2.out
  have l1 := k1.lt
  have l2 := k2.lt
  obtain ⟨⟨a10, a11⟩, a12, a13⟩ := keep2 k1
  obtain ⟨⟨a20, a21⟩, a22, a23⟩ := keep2 k2
  have HB := Lib.hid (HB.out.trans (hb.mono HB.out.size))
  have K1 := Lib.hid k1
  have K2 := Lib.hid k2
  clear hb k1 k2
  go_wp2_with fail
  refine (H1.out _).mono ?_
  rintro e w3 ⟨rfl, hb⟩
  have k1 := pair_below hb K1.out
  have k2 := pair_below hb K2.out
  have l1 := k1.lt
  have l2 := k2.lt
  obtain ⟨⟨a10, a11⟩, a12, a13⟩ := keep2 k1
  obtain ⟨⟨a20, a21⟩, a22, a23⟩ := keep2 k2
  have HB := Lib.hid (HB.out.trans (hb.mono HB.out.size))
  have K1 := Lib.hid k1
  have K2 := Lib.hid k2
  clear hb k1 k2
  cases c1 <;> cases c2
  all_goals (
    replace hV := Lib.hid hV.out
    go_wp2_with fail
    refine (H2.out _).mono ?_
    rintro e w4 ⟨rfl, hb⟩
    have k2 := pair_below hb K2.out
    have l2 := k2.lt
    obtain ⟨⟨a20, a21⟩, a22, a23⟩ := keep2 k2
    have HB := Lib.hid (HB.out.trans (hb.mono HB.out.size))
    have K2 := Lib.hid k2
    clear hb k2)
  · have hV := hV.out
    simp only [Bool.false_eq_true, reduceIte] at hV
    have K3 := K2.out.write (min a c) (max b d)
    obtain ⟨⟨r0, r1⟩, r2, r3⟩ := keep2 K3
    have HB := Lib.hid ((HB.out.setCell (p := ⟨w.heap.size + 1, 0, none⟩) (by simp) (.int .i64 (min a c))).setCell (p := ⟨w.heap.size + 1, 1, none⟩) (by simp) (.int .i64 (max b d)))
    replace hV := Lib.hid hV
    clear K3
    go_wp2
    refine bodyPost_ret (v := V) (by rw [hV.out]; simp [results, Tryz.results111, go_sem, pairV, r0, r1]) rfl ⟨rfl, HB.out⟩
  · have hV := hV.out
    simp only [Bool.false_eq_true, reduceIte] at hV
    have K3 := K2.out.write (-1073741824) (max b d)
    obtain ⟨⟨r0, r1⟩, r2, r3⟩ := keep2 K3
    have HB := Lib.hid ((HB.out.setCell (p := ⟨w.heap.size + 1, 0, none⟩) (by simp) (.int .i64 (-1073741824))).setCell (p := ⟨w.heap.size + 1, 1, none⟩) (by simp) (.int .i64 (max b d)))
    replace hV := Lib.hid hV
    clear K3
    go_wp2
    refine bodyPost_ret (v := V) (by rw [hV.out]; simp [results, Tryz.results111, go_sem, pairV, r0, r1]) rfl ⟨rfl, HB.out⟩
  · have hV := hV.out
    simp only [Bool.false_eq_true, reduceIte] at hV
    have K3 := K2.out.write (min a c) 1073741824
    obtain ⟨⟨r0, r1⟩, r2, r3⟩ := keep2 K3
    have HB := Lib.hid ((HB.out.setCell (p := ⟨w.heap.size + 1, 0, none⟩) (by simp) (.int .i64 (min a c))).setCell (p := ⟨w.heap.size + 1, 1, none⟩) (by simp) (.int .i64 1073741824))
    replace hV := Lib.hid hV
    clear K3
    go_wp2
    refine bodyPost_ret (v := V) (by rw [hV.out]; simp [results, Tryz.results111, go_sem, pairV, r0, r1]) rfl ⟨rfl, HB.out⟩
  · have hV := hV.out
    simp only [reduceIte] at hV
    have K3 := K2.out.write (-1073741824) 1073741824
    obtain ⟨⟨r0, r1⟩, r2, r3⟩ := keep2 K3
    have HB := Lib.hid ((HB.out.setCell (p := ⟨w.heap.size + 1, 0, none⟩) (by simp) (.int .i64 (-1073741824))).setCell (p := ⟨w.heap.size + 1, 1, none⟩) (by simp) (.int .i64 1073741824))
    replace hV := Lib.hid hV
    clear K3
    go_wp2
    refine bodyPost_ret (v := V) (by rw [hV.out]; simp [results, Tryz.results111, go_sem, pairV, r0, r1]) rfl ⟨rfl, HB.out⟩
end Go.Proofs.YtfilgpifiboccaaGreat
namespace Go.Proofs.YtfilgpifiboccaaGreat
open Go.RowKit SM
theorem further_any (lo hi : Int) (h0 : -2000000000000 ≤ lo) (h1 : lo ≤ 2000000000000) (h2 : -2000000000000 ≤ hi) (h3 : hi ≤ 2000000000000) (w : World) : Calls Tryz.prog 112 #[pairV lo hi] w (GPost (pairV (lo + 5400000) (hi + 5400000)) w) := by
  have b2 := blk2_second w (.cells #[.int .i64 lo, .int .i64 hi] 23) (.cells #[.int .i64 0, .int .i64 0] 23)
  have HB := Lib.hid (((Below.refl w.heap.size w).alloc (Nat.le_refl _) (.cells #[.int .i64 lo, .int .i64 hi] 23)).alloc (by simp) (.cells #[.int .i64 0, .int .i64 0] 23))
  have HB2 := Lib.hid (((Below.refl w.heap.size w).alloc (Nat.le_refl _) (.cells #[.int .i64 lo, .int .i64 hi] 23)).alloc (by simp) (.cells #[.int .i64 (lo + 5400000), .int .i64 (hi + 5400000)] 23))
  clear b2
  unfold pairV
  go_enter Tryz.func112, Tryz.ntmps112
  go_wp2
  refine bodyPost_ret (v := pairV (lo + 5400000) (hi + 5400000)) (by simp [results, Tryz.results112, go_sem, pairV]) rfl ⟨rfl, ?_⟩
  first
    | exact HB2.out
    | exact HB.out
theorem encl_bd (lo hi : Int) : -1073741824 ≤ encL lo hi ∧ encL lo hi ≤ 1073741824 ∧ -1073741824 ≤ encH lo hi ∧ encH lo hi ≤ 1073741824 := by
  obtain ⟨a1, a2, a3⟩ := lob_hib lo
  obtain ⟨b1, b2, b3⟩ := lob_hib hi
  unfold encL encH
  refine ⟨?_, ?_, ?_, ?_⟩ <;> split <;> omega
def sinR (lo hi : Int) : Int × Int × Int := if avalidB lo hi = false then (0, 0, 1) else (encL lo hi, encH lo hi, 0)
def cosR (lo hi : Int) : Int × Int × Int := if avalidB lo hi = false then (0, 0, 1) else (encL (lo + 5400000) (hi + 5400000), encH (lo + 5400000) (hi + 5400000), 0)
def havR (lo hi : Int) : Int × Int × Int := if avalidB lo hi = false then (0, 0, 1) else ((1073741824 - encH (lo + 5400000) (hi + 5400000)) / 2, (1073741824 - encL (lo + 5400000) (hi + 5400000) + 1) / 2, 0)
set_option maxRecDepth 100000 in
set_option maxHeartbeats 1000000 in
theorem sin_r (lo hi : Int) (w : World) : Calls Tryz.prog 62 #[pairV lo hi] w (GPost (arcV (sinR lo hi)) w) := by
  have HV := Lib.hid (avalid_any lo hi)
  obtain ⟨V, hV⟩ : ∃ V, V = arcV (sinR lo hi) := ⟨_, rfl⟩
  rw [← hV]
  unfold sinR at hV
  have K1 := Lib.hid (show Pair 23 _ w.heap.size lo hi from blk2_first w (.cells #[.int .i64 lo, .int .i64 hi] 23) (.cells #[.int .i64 0, .int .i64 0] 60))
  have K2 := Lib.hid (show Pair 60 _ (w.heap.size + 1) 0 0 from blk2_second w (.cells #[.int .i64 lo, .int .i64 hi] 23) (.cells #[.int .i64 0, .int .i64 0] 60))
  have HB := Lib.hid (((Below.refl w.heap.size w).alloc (Nat.le_refl _) (.cells #[.int .i64 lo, .int .i64 hi] 23)).alloc (by simp) (.cells #[.int .i64 0, .int .i64 0] 60))
  by_cases hv : avalidB lo hi = false
  · rw [if_pos hv] at hV
    rw [hv] at HV
    have hV := Lib.hid hV
    unfold pairV at HV ⊢
    clear hv
    go_enter Tryz.func62, Tryz.ntmps62
    go_wp2_with fail
    refine (HV.out _).mono ?_
    rintro e w1 ⟨rfl, hb⟩
    have n2 := pair_below hb K2.out
    have l2 := n2.lt
    obtain ⟨⟨b0, b1⟩, b2, b3⟩ := keep2 n2
    have HB := Lib.hid ((HB.out.trans (hb.mono HB.out.size)).setCell (p := ⟨w.heap.size + 1, 0, none⟩) (by simp) (.int .i64 0) |>.setCell (p := ⟨w.heap.size + 1, 1, none⟩) (by simp) (.int .i64 0))
    have n3 := n2.write 0 0
    obtain ⟨⟨r0, r1⟩, r2, r3⟩ := keep2 n3
    clear hb n2 n3
    go_wp2
    refine bodyPost_ret (v := V) (by rw [hV.out]; simp [results, Tryz.results62, go_sem, arcV, pairV, r0, r1]) rfl ⟨rfl, HB.out⟩
  · rw [if_neg hv] at hV
    have hv' : avalidB lo hi = true := by cases h : avalidB lo hi <;> simp_all
    rw [hv'] at HV
    have hm : -1099511627776 ≤ lo ∧ lo ≤ 1099511627776 ∧ -1099511627776 ≤ hi ∧ hi ≤ 1099511627776 := by simp [avalidB] at hv'; omega
    have HE := encl_any lo hi (by omega) (by omega) (by omega) (by omega)
    generalize encL lo hi = p at *
    generalize encH lo hi = q at *
    have hV := Lib.hid hV
    unfold pairV at HV HE ⊢
    replace HE := Lib.hid HE
    clear hv hv' hm
    go_enter Tryz.func62, Tryz.ntmps62
    go_wp2_with fail
    refine (HV.out _).mono ?_
    rintro e w1 ⟨rfl, hb⟩
    have n1 := pair_below hb K1.out
    have n2 := pair_below hb K2.out
    have l1 := n1.lt
    have l2 := n2.lt
    obtain ⟨⟨a0, a1⟩, a2, a3⟩ := keep2 n1
    obtain ⟨⟨b0, b1⟩, b2, b3⟩ := keep2 n2
    have K2 := Lib.hid n2
    have HB := Lib.hid (HB.out.trans (hb.mono HB.out.size))
    clear hb n1 n2
    go_wp2_with fail
    refine (HE.out _).mono ?_
    rintro e w2 ⟨rfl, hb⟩
    have n2 := pair_below hb K2.out
    have l2 := n2.lt
    obtain ⟨⟨b0, b1⟩, b2, b3⟩ := keep2 n2
    have HB := Lib.hid ((HB.out.trans (hb.mono HB.out.size)).setCell (p := ⟨w.heap.size + 1, 0, none⟩) (by simp) (.int .i64 p) |>.setCell (p := ⟨w.heap.size + 1, 1, none⟩) (by simp) (.int .i64 q))
    have n3 := n2.write p q
    obtain ⟨⟨r0, r1⟩, r2, r3⟩ := keep2 n3
    clear hb n2 n3
    go_wp2
    refine bodyPost_ret (v := V) (by rw [hV.out]; simp [results, Tryz.results62, go_sem, arcV, pairV, r0, r1]) rfl ⟨rfl, HB.out⟩
set_option maxRecDepth 100000 in
set_option maxHeartbeats 1000000 in
theorem cos_r (lo hi : Int) (w : World) : Calls Tryz.prog 64 #[pairV lo hi] w (GPost (arcV (cosR lo hi)) w) := by
  have HV := Lib.hid (avalid_any lo hi)
  obtain ⟨V, hV⟩ : ∃ V, V = arcV (cosR lo hi) := ⟨_, rfl⟩
  rw [← hV]
  unfold cosR at hV
  have K1 := Lib.hid (show Pair 23 _ w.heap.size lo hi from blk2_first w (.cells #[.int .i64 lo, .int .i64 hi] 23) (.cells #[.int .i64 0, .int .i64 0] 60))
  have K2 := Lib.hid (show Pair 60 _ (w.heap.size + 1) 0 0 from blk2_second w (.cells #[.int .i64 lo, .int .i64 hi] 23) (.cells #[.int .i64 0, .int .i64 0] 60))
  have HB := Lib.hid (((Below.refl w.heap.size w).alloc (Nat.le_refl _) (.cells #[.int .i64 lo, .int .i64 hi] 23)).alloc (by simp) (.cells #[.int .i64 0, .int .i64 0] 60))
  by_cases hv : avalidB lo hi = false
  · rw [if_pos hv] at hV
    rw [hv] at HV
    have hV := Lib.hid hV
    unfold pairV at HV ⊢
    clear hv
    go_enter Tryz.func64, Tryz.ntmps64
    go_wp2_with fail
    refine (HV.out _).mono ?_
    rintro e w1 ⟨rfl, hb⟩
    have n2 := pair_below hb K2.out
    have l2 := n2.lt
    obtain ⟨⟨b0, b1⟩, b2, b3⟩ := keep2 n2
    have HB := Lib.hid ((HB.out.trans (hb.mono HB.out.size)).setCell (p := ⟨w.heap.size + 1, 0, none⟩) (by simp) (.int .i64 0) |>.setCell (p := ⟨w.heap.size + 1, 1, none⟩) (by simp) (.int .i64 0))
    have n3 := n2.write 0 0
    obtain ⟨⟨r0, r1⟩, r2, r3⟩ := keep2 n3
    clear hb n2 n3
    go_wp2
    refine bodyPost_ret (v := V) (by rw [hV.out]; simp [results, Tryz.results64, go_sem, arcV, pairV, r0, r1]) rfl ⟨rfl, HB.out⟩
  · rw [if_neg hv] at hV
    have hv' : avalidB lo hi = true := by cases h : avalidB lo hi <;> simp_all
    rw [hv'] at HV
    have hm : -1099511627776 ≤ lo ∧ lo ≤ 1099511627776 ∧ -1099511627776 ≤ hi ∧ hi ≤ 1099511627776 := by simp [avalidB] at hv'; omega
    have HE := encl_any (lo + 5400000) (hi + 5400000) (by omega) (by omega) (by omega) (by omega)
    have HU := further_any lo hi (by omega) (by omega) (by omega) (by omega)
    generalize encL (lo + 5400000) (hi + 5400000) = p at *
    generalize encH (lo + 5400000) (hi + 5400000) = q at *
    have hV := Lib.hid hV
    unfold pairV at HV HE HU ⊢
    replace HE := Lib.hid HE
    replace HU := Lib.hid HU
    generalize lo + 5400000 = lo' at *
    generalize hi + 5400000 = hi' at *
    clear hv hv' hm
    go_enter Tryz.func64, Tryz.ntmps64
    go_wp2_with fail
    refine (HV.out _).mono ?_
    rintro e w1 ⟨rfl, hb⟩
    have n1 := pair_below hb K1.out
    have n2 := pair_below hb K2.out
    have l1 := n1.lt
    have l2 := n2.lt
    obtain ⟨⟨a0, a1⟩, a2, a3⟩ := keep2 n1
    obtain ⟨⟨b0, b1⟩, b2, b3⟩ := keep2 n2
    have K2 := Lib.hid n2
    have HB := Lib.hid (HB.out.trans (hb.mono HB.out.size))
    clear hb n1 n2
    go_wp2_with fail
    refine (HU.out _).mono ?_
    rintro e w3 ⟨rfl, hb⟩
    have n2 := pair_below hb K2.out
    have l2 := n2.lt
    obtain ⟨⟨b0, b1⟩, b2, b3⟩ := keep2 n2
    have K2 := Lib.hid n2
    have HB := Lib.hid (HB.out.trans (hb.mono HB.out.size))
    clear hb n2
    go_wp2_with fail
    refine (HE.out _).mono ?_
    rintro e w2 ⟨rfl, hb⟩
    have n2 := pair_below hb K2.out
    have l2 := n2.lt
    obtain ⟨⟨b0, b1⟩, b2, b3⟩ := keep2 n2
    have HB := Lib.hid ((HB.out.trans (hb.mono HB.out.size)).setCell (p := ⟨w.heap.size + 1, 0, none⟩) (by simp) (.int .i64 p) |>.setCell (p := ⟨w.heap.size + 1, 1, none⟩) (by simp) (.int .i64 q))
    have n3 := n2.write p q
    obtain ⟨⟨r0, r1⟩, r2, r3⟩ := keep2 n3
    clear hb n2 n3
    go_wp2
    refine bodyPost_ret (v := V) (by rw [hV.out]; simp [results, Tryz.results64, go_sem, arcV, pairV, r0, r1]) rfl ⟨rfl, HB.out⟩
end Go.Proofs.YtfilgpifiboccaaGreat
namespace Go.Proofs.YtfilgpifiboccaaGreat
open Go.RowKit SM
theorem asn_mono {u v : Int} (hu : -1073741824 ≤ u) (h : u ≤ v) : asn u ≤ asn v := by
  obtain ⟨a0, a1, a2, a3⟩ := asn_is u hu
  obtain ⟨b0, b1, b2, b3⟩ := asn_is v (by omega)
  rcases Int.lt_or_le (asn v) (asn u) with h2 | h2
  · have := hib_mono (m := asn v + 1) (n := asn u) (by omega) (by omega) a1
    omega
  · exact h2
/-- The sine is the same on both sides of the right angle. -/
theorem lob_sym (n : Int) : lob (n + 5400000) = lob (5400000 - n) ∧ hib (n + 5400000) = hib (5400000 - n) := by
  have e : red (n + 5400000) = red (5400000 - n) ∧ (south (n + 5400000) = south (5400000 - n) ∨ exa (red (5400000 - n)) = true ∧ flo (red (5400000 - n)) = 0) := by
    have a0 := Int.emod_nonneg (n + 5400000) (show (21600000 : Int) ≠ 0 by omega)
    have a1 := Int.emod_lt_of_pos (n + 5400000) (show (0 : Int) < 21600000 by omega)
    have b0 := Int.emod_nonneg (5400000 - n) (show (21600000 : Int) ≠ 0 by omega)
    have b1 := Int.emod_lt_of_pos (5400000 - n) (show (0 : Int) < 21600000 by omega)
    have hs : ((n + 5400000) % 21600000 + (5400000 - n) % 21600000 = 10800000) ∨ ((n + 5400000) % 21600000 + (5400000 - n) % 21600000 = 32400000) := by omega
    have hr : red (n + 5400000) = red (5400000 - n) := by
      unfold red
      generalize (n + 5400000) % 21600000 = p at *
      generalize (5400000 - n) % 21600000 = q at *
      simp only
      repeat' split
      all_goals omega
    refine ⟨hr, ?_⟩
    by_cases h : (n + 5400000) % 21600000 = 10800000 ∨ (5400000 - n) % 21600000 = 10800000
    · right
      rw [← hr]
      have : red (n + 5400000) = 0 := by
        unfold red
        generalize (n + 5400000) % 21600000 = p at *
        generalize (5400000 - n) % 21600000 = q at *
        simp only
        repeat' split
        all_goals omega
      rw [this]
      decide
    · left
      unfold south
      generalize (n + 5400000) % 21600000 = p at *
      generalize (5400000 - n) % 21600000 = q at *
      simp only [decide_eq_decide]
      omega
  unfold lob hib upf
  rw [e.1]
  rcases e.2 with h | ⟨h, h2⟩
  · rw [h]; exact ⟨rfl, rfl⟩
  · rw [h, h2]
    simp only [reduceIte]
    constructor <;> (repeat' split) <;> rfl
end Go.Proofs.YtfilgpifiboccaaGreat
namespace Go.Proofs.YtfilgpifiboccaaGreat
open Go.RowKit
def fitB (n : Int) : Bool := decide (-1099511627776 ≤ n ∧ n ≤ 1099511627776)
theorem fits_any (n : Int) (w : World) : Calls Tryz.prog 61 #[.int .i64 n] w (GPost (.bool (fitB n)) w) := by
  have HB := Lib.hid (Below.refl w.heap.size w)
  obtain ⟨V, hV⟩ : ∃ V, V = Value.bool (fitB n) := ⟨_, rfl⟩
  have HP : ∀ b, fitB n = b → GPost V w (.returned (.bool b)) w := fun b h => ⟨by rw [hV, h], HB.out⟩
  have HP := Lib.hid HP
  rw [← hV]
  clear hV
  by_cases h1 : -1099511627776 ≤ n
  · by_cases h2 : n ≤ 1099511627776
    · have HF := Lib.hid (HP.out true (by unfold fitB; rw [decide_eq_true]; omega))
      go_enter Tryz.func61, Tryz.ntmps61
      go_wp2
      go_ret
      exact HF.out
    · have HF := Lib.hid (HP.out false (by unfold fitB; rw [decide_eq_false]; omega))
      go_enter Tryz.func61, Tryz.ntmps61
      go_wp2
      go_ret
      exact HF.out
  · have HF := Lib.hid (HP.out false (by unfold fitB; rw [decide_eq_false]; omega))
    go_enter Tryz.func61, Tryz.ntmps61
    go_wp2
    go_ret
    exact HF.out
theorem gvalid_any (lo hi : Int) (w : World) : Calls Tryz.prog 25 #[pairV lo hi] w (GPost (.bool (avalidB lo hi)) w) := by
  obtain ⟨V, hV⟩ : ∃ V, V = Value.bool (avalidB lo hi) := ⟨_, rfl⟩
  have HP : ∀ b w', avalidB lo hi = b → Below w.heap.size w w' → GPost V w (.returned (.bool b)) w' := fun b w' h hb => ⟨by rw [hV, h], hb⟩
  have HP := Lib.hid HP
  have HB := Lib.hid ((Below.refl w.heap.size w).alloc (Nat.le_refl _) (.cells #[.int .i64 lo, .int .i64 hi] 23))
  have K1 := Lib.hid (show Pair 23 _ w.heap.size lo hi from heap_alloc_new w (.cells #[.int .i64 lo, .int .i64 hi] 23))
  rw [← hV]
  clear hV
  have H1 := fits_any lo
  have H2 := fits_any hi
  have e1 : fitB lo = decide (-1099511627776 ≤ lo ∧ lo ≤ 1099511627776) := rfl
  have e2 : fitB hi = decide (-1099511627776 ≤ hi ∧ hi ≤ 1099511627776) := rfl
  have he : avalidB lo hi = (decide (lo ≤ hi) && (fitB lo && fitB hi)) := by
    rw [e1, e2]; unfold avalidB
    rw [Bool.eq_iff_iff]
    simp only [Bool.and_eq_true, decide_eq_true_eq]
    omega
  have HE := Lib.hid he
  clear e1 e2 he
  generalize fitB lo = f1 at *
  generalize fitB hi = f2 at *
  have H1 := Lib.hid H1
  have H2 := Lib.hid H2
  unfold pairV
  by_cases h : lo ≤ hi
  · have HE := Lib.hid (show avalidB lo hi = (f1 && f2) by rw [HE.out, decide_eq_true h]; rfl)
    go_enter Tryz.func25, Tryz.ntmps25
    go_wp2_with fail
    refine (H1.out _).mono ?_
    rintro e w1 ⟨rfl, hb⟩
    have HB := Lib.hid (HB.out.trans (hb.mono HB.out.size))
    have k1 := pair_below hb K1.out
    obtain ⟨⟨a0, a1⟩, a2, a3⟩ := keep2 k1
    clear hb k1
    cases f1
    · have HF := Lib.hid (HP.out false w1 (by rw [HE.out]; rfl) HB.out)
      go_wp2
      go_ret
      exact HF.out
    · go_wp2_with fail
      refine (H2.out _).mono ?_
      rintro e w2 ⟨rfl, hb⟩
      have HB := Lib.hid (HB.out.trans (hb.mono HB.out.size))
      clear hb
      have HF := Lib.hid (HP.out f2 w2 (by rw [HE.out]; rfl) HB.out)
      go_wp2
      go_ret
      exact HF.out
  · have HF := Lib.hid (HP.out false _ (by rw [HE.out, decide_eq_false h]; rfl) HB.out)
    go_enter Tryz.func25, Tryz.ntmps25
    go_wp2
    go_ret
    exact HF.out
end Go.Proofs.YtfilgpifiboccaaGreat
namespace Go.Proofs.YtfilgpifiboccaaGreat
open Go.RowKit
theorem turned_hm2 (n : Int) : n.tmod 21600000 = n % 21600000 ∨ n.tmod 21600000 + 21600000 = n % 21600000 ∧ n.tmod 21600000 < 0 := by
  obtain ⟨k1, k2, _, _⟩ := tmod_turn n
  by_cases h : 0 ≤ n.tmod 21600000
  · exact .inl (k1 h)
  · exact .inr ⟨k2 (by omega), by omega⟩
set_option maxHeartbeats 400000 in
theorem wrap_any (n : Int) (w : World) : Calls Tryz.prog 115 #[.int .i64 n] w (GPost (.int .i64 (n % 21600000)) w) := by
  have hm := turned_hm2 n
  have HB := Lib.hid (Below.refl w.heap.size w)
  obtain ⟨m, h⟩ : ∃ m, n % 21600000 = m := ⟨_, rfl⟩
  rw [h] at hm ⊢
  have h0 : 0 ≤ m := by omega
  clear h
  rcases hm with hs | ⟨hs, hs2⟩
  all_goals (
    go_enter Tryz.func115, Tryz.ntmps115
    go_wp2
    go_ret
    exact ⟨rfl, HB.out⟩)
end Go.Proofs.YtfilgpifiboccaaGreat

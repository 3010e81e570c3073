import Derived.Test.YtmlmohcghoelkaaT62
import Derived.Test.YtmlmohcghoelkaaT64
import Derived.Test.YtmlmohcghoelkaaT65
namespace Go.Proofs.Ytmlmohcghoelkaa
open Go.RowKit
set_option maxHeartbeats 400000 in
theorem rval_any (lo hi : Int) (w : World) : Calls Try.prog 23 #[pairV lo hi] w (GPost (.bool (validB lo hi)) w) := by
  obtain ⟨V, hV⟩ : ∃ V, V = Value.bool (validB lo hi) := ⟨_, rfl⟩
  have HP : ∀ b w', validB lo hi = b → Below w.heap.size w w' → GPost V w (.returned (.bool b)) w' := fun b w' h hb => ⟨by rw [hV, h], hb⟩
  have HP := Lib.hid HP
  have HB := Lib.hid ((Below.refl w.heap.size w).alloc (Nat.le_refl _) (.cells #[.int .i64 lo, .int .i64 hi] 23))
  rw [← hV]
  clear hV
  unfold pairV
  by_cases h2 : lo ≤ hi
  · by_cases h1 : -2147483648 ≤ lo
    · by_cases h3 : hi ≤ 2147483648
      · have HF := Lib.hid (HP.out true _ (by unfold validB; rw [decide_eq_true]; omega) HB.out)
        go_enter Try.func23, Try.ntmps23
        go_wp2
        go_ret
        exact HF.out
      · have HF := Lib.hid (HP.out false _ (by unfold validB; rw [decide_eq_false]; omega) HB.out)
        go_enter Try.func23, Try.ntmps23
        go_wp2
        go_ret
        exact HF.out
    · have HF := Lib.hid (HP.out false _ (by unfold validB; rw [decide_eq_false]; omega) HB.out)
      go_enter Try.func23, Try.ntmps23
      go_wp2
      go_ret
      exact HF.out
  · have HF := Lib.hid (HP.out false _ (by unfold validB; rw [decide_eq_false]; omega) HB.out)
    go_enter Try.func23, Try.ntmps23
    go_wp2
    go_ret
    exact HF.out
theorem Pair.drew {t : TypeId} {w : World} {b : Nat} {x y : Int} (h : Pair t w b x y) : Pair t w.drew b x y := h
theorem pair_new {w : World} {b : Nat} {x y : Int} (h : b = w.heap.size) : Pair 23 (w.alloc (.cells #[.int .i64 x, .int .i64 y] 23)) b x y := by
  subst h; exact heap_alloc_new w _
/-- A variable of one cell. -/
def OneC (t : TypeId) (w : World) (b : Nat) (v : Value) : Prop := w.heap[b]? = some (.cells #[v] t (0, 0))
theorem OneC.lt {t : TypeId} {w : World} {b : Nat} {v : Value} (h : OneC t w b v) : b < w.heap.size := by
  unfold OneC at h
  exact (Array.getElem?_eq_some_iff.1 h).1
theorem OneC.below {t : TypeId} {w w' : World} {b : Nat} {v : Value} (h : OneC t w b v) (hb : Below w.heap.size w w') : OneC t w' b v := (hb.block b h.lt).trans h
theorem OneC.drew {t : TypeId} {w : World} {b : Nat} {v : Value} (h : OneC t w b v) : OneC t w.drew b v := h
theorem OneC.alloc {t : TypeId} {w : World} {b : Nat} {v : Value} (h : OneC t w b v) (o : Obj) : OneC t (w.alloc o) b v := h.below ((Below.refl _ _).alloc (Nat.le_refl _) _)
theorem OneC.cell {t : TypeId} {w : World} {b : Nat} {v : Value} (h : OneC t w b v) : w.cell? ⟨b, 0, none⟩ = some v := by
  unfold OneC at h
  simp [World.cell?, h]
theorem blk4 (w : World) (a b c d : Obj) : ((((w.alloc a).alloc b).alloc c).alloc d).heap[w.heap.size]? = some a ∧ ((((w.alloc a).alloc b).alloc c).alloc d).heap[w.heap.size + 1]? = some b ∧ ((((w.alloc a).alloc b).alloc c).alloc d).heap[w.heap.size + 2]? = some c ∧ ((((w.alloc a).alloc b).alloc c).alloc d).heap[w.heap.size + 3]? = some d := by
  refine ⟨?_, ?_, ?_, ?_⟩
  · rw [Below.heap_alloc _ _ _ (by simp <;> omega), (blk3 w a b c).1]
  · rw [Below.heap_alloc _ _ _ (by simp <;> omega), (blk3 w a b c).2.1]
  · rw [Below.heap_alloc _ _ _ (by simp), (blk3 w a b c).2.2]
  · have := heap_alloc_new (((w.alloc a).alloc b).alloc c) d
    simpa using this
theorem keepG {w0 W w1 : World} {a b : Nat} {v0 v1 v2 v3 : Value} (h : (W.cell? ⟨a, 0, none⟩ = some v0 ∧ W.cell? ⟨a, 1, none⟩ = some v1 ∧ W.cell? ⟨b, 0, none⟩ = some v2 ∧ W.cell? ⟨b, 1, none⟩ = some v3) ∧ Below w0.heap.size w0 W) (hb : Below W.heap.size W w1) :
    (w1.cell? ⟨a, 0, none⟩ = some v0 ∧ w1.cell? ⟨a, 1, none⟩ = some v1 ∧ w1.cell? ⟨b, 0, none⟩ = some v2 ∧ w1.cell? ⟨b, 1, none⟩ = some v3) ∧ Below w0.heap.size w0 w1 := by
  obtain ⟨⟨h0, h1, h2, h3⟩, hB⟩ := h
  have hla := World.block_lt_of_cell? W _ h0
  have hlb := World.block_lt_of_cell? W _ h2
  exact ⟨⟨(hb.cell (p := ⟨a, 0, none⟩) hla).trans h0, (hb.cell (p := ⟨a, 1, none⟩) hla).trans h1, (hb.cell (p := ⟨b, 0, none⟩) hlb).trans h2, (hb.cell (p := ⟨b, 1, none⟩) hlb).trans h3⟩, hB.trans (hb.mono hB.size)⟩
theorem keepGA {w0 W : World} {a b : Nat} {v0 v1 v2 v3 : Value} (h : (W.cell? ⟨a, 0, none⟩ = some v0 ∧ W.cell? ⟨a, 1, none⟩ = some v1 ∧ W.cell? ⟨b, 0, none⟩ = some v2 ∧ W.cell? ⟨b, 1, none⟩ = some v3) ∧ Below w0.heap.size w0 W) (o : Obj) :
    ((W.alloc o).cell? ⟨a, 0, none⟩ = some v0 ∧ (W.alloc o).cell? ⟨a, 1, none⟩ = some v1 ∧ (W.alloc o).cell? ⟨b, 0, none⟩ = some v2 ∧ (W.alloc o).cell? ⟨b, 1, none⟩ = some v3) ∧ Below w0.heap.size w0 (W.alloc o) :=
  keepG h ((Below.refl _ _).alloc (Nat.le_refl _) o)
theorem keepGD {w0 W : World} {a b : Nat} {v0 v1 v2 v3 : Value} (h : (W.cell? ⟨a, 0, none⟩ = some v0 ∧ W.cell? ⟨a, 1, none⟩ = some v1 ∧ W.cell? ⟨b, 0, none⟩ = some v2 ∧ W.cell? ⟨b, 1, none⟩ = some v3) ∧ Below w0.heap.size w0 W) :
    (W.drew.cell? ⟨a, 0, none⟩ = some v0 ∧ W.drew.cell? ⟨a, 1, none⟩ = some v1 ∧ W.drew.cell? ⟨b, 0, none⟩ = some v2 ∧ W.drew.cell? ⟨b, 1, none⟩ = some v3) ∧ Below w0.heap.size w0 W.drew := ⟨h.1, h.2.drew⟩
theorem keepGS {w0 W : World} {a b c i : Nat} {v0 v1 v2 v3 : Value} (ha : a < w0.heap.size) (hb : b < w0.heap.size) (hc : w0.heap.size ≤ c) (h : (W.cell? ⟨a, 0, none⟩ = some v0 ∧ W.cell? ⟨a, 1, none⟩ = some v1 ∧ W.cell? ⟨b, 0, none⟩ = some v2 ∧ W.cell? ⟨b, 1, none⟩ = some v3) ∧ Below w0.heap.size w0 W) (v : Value) :
    ((W.setCell ⟨c, i, none⟩ v).cell? ⟨a, 0, none⟩ = some v0 ∧ (W.setCell ⟨c, i, none⟩ v).cell? ⟨a, 1, none⟩ = some v1 ∧ (W.setCell ⟨c, i, none⟩ v).cell? ⟨b, 0, none⟩ = some v2 ∧ (W.setCell ⟨c, i, none⟩ v).cell? ⟨b, 1, none⟩ = some v3) ∧ Below w0.heap.size w0 (W.setCell ⟨c, i, none⟩ v) := by
  obtain ⟨⟨h0, h1, h2, h3⟩, hB⟩ := h
  have hs : Below w0.heap.size W (W.setCell ⟨c, i, none⟩ v) := (Below.refl _ _).setCell (p := ⟨c, i, none⟩) hc v
  exact ⟨⟨(hs.cell (p := ⟨a, 0, none⟩) ha).trans h0, (hs.cell (p := ⟨a, 1, none⟩) ha).trans h1, (hs.cell (p := ⟨b, 0, none⟩) hb).trans h2, (hs.cell (p := ⟨b, 1, none⟩) hb).trans h3⟩, hB.trans hs⟩
theorem grow_use {yl yh xl xh a b c d : Int} (hvy : validB yl yh = true) (hvx : validB xl xh = true) (h1 : yl ≤ a) (h2 : b ≤ yh) (h3 : xl ≤ c) (h4 : d ≤ xh) (hab : a ≤ b) (hcd : c ≤ d) :
    ∃ p q r s : Int, bearR yl yh xl xh = (p, q, 0) ∧ bearR a b c d = (r, s, 0) ∧ 0 ≤ p ∧ p < 21600000 ∧ 0 ≤ r ∧ r < 21600000 ∧ p ≤ q ∧ q ≤ p + 21600000 ∧ r ≤ s ∧ s ≤ r + 21600000 ∧
      (¬ (p = 0 ∧ q = 21600000) → r < p → ∀ w, Calls Try.prog 24 #[pairV (r + 21600000) (s + 21600000), pairV p q] w (GPost (.bool true) w)) ∧
      (¬ (p = 0 ∧ q = 21600000) → p ≤ r → ∀ w, Calls Try.prog 24 #[pairV r s, pairV p q] w (GPost (.bool true) w)) := by
  obtain ⟨p, q, r, s, e1, e2, q1, q2, q3, q4, q5, q6, q7, q8, q9⟩ := grow_plain hvy hvx h1 h2 h3 h4 hab hcd
  refine ⟨p, q, r, s, e1, e2, q1, q2, q3, q4, q5, q6, q7, q8, ?_, ?_⟩
  · clear e1 e2
    intro z1 z2 w
    exact inside_yes _ _ _ _ (by omega) (by omega) (by omega) (by omega) (by omega) w
  · clear e1 e2
    intro z1 z2 w
    exact inside_yes _ _ _ _ (by omega) (by omega) (by omega) (by omega) (by omega) w
set_option maxRecDepth 100000 in
set_option maxHeartbeats 20000000 in
theorem grows_valid (al ah bl bh l h : Int) (hva : validB al ah = true) (hvb : validB bl bh = true) (l0 : 0 ≤ l) (l1 : l ≤ 4294967295) (h0 : 0 ≤ h) (h1 : h ≤ 4294967295) (w : World) :
    Calls Try.prog 7 #[pairV al ah, pairV bl bh, .int .u32 l, .int .u32 h] w (GPost (.bool true) w) := by
  have hmf : ∀ (fn : Fn) (first cap : Array Value) (w : World), (Instr.makeFunc fn first cap).run Try.prog w = .ok (.func fn first cap) w := fun _ _ _ _ => rfl
  have HA := Lib.hid awake_any
  have HVa := rval_any al ah
  have HVb := rval_any bl bh
  have HW := within_any al ah
  rw [hva] at HVa
  rw [hvb] at HVb
  have b4 := blk4 w (.cells #[.int .i64 al, .int .i64 ah] 23) (.cells #[.int .i64 bl, .int .i64 bh] 23) (.cells #[.int .u32 l] 36) (.cells #[.int .u32 h] 36)
  have Ka := Lib.hid (show Pair 23 _ w.heap.size al ah from b4.1)
  have Kb := Lib.hid (show Pair 23 _ (w.heap.size + 1) bl bh from b4.2.1)
  have Kl := Lib.hid (show OneC 36 _ (w.heap.size + 1 + 1) (.int .u32 l) from b4.2.2.1)
  have Kh := Lib.hid (show OneC 36 _ (w.heap.size + 1 + 1 + 1) (.int .u32 h) from b4.2.2.2)
  have HB := Lib.hid (((((Below.refl w.heap.size w).alloc (Nat.le_refl _) (.cells #[.int .i64 al, .int .i64 ah] 23)).alloc (by simp) (.cells #[.int .i64 bl, .int .i64 bh] 23)).alloc (by simp; omega) (.cells #[.int .u32 l] 36)).alloc (by simp; omega) (.cells #[.int .u32 h] 36))
  clear b4
  unfold pairV at HVa HVb HW ⊢
  replace HVa := Lib.hid HVa
  replace HVb := Lib.hid HVb
  replace HW := Lib.hid HW
  go_enter Try.func7, Try.ntmps7
  go_wp2_with fail
  refine (HA.out _).mono ?_
  rintro e w1 ⟨rfl, hb⟩
  have ka := pair_below hb Ka.out
  have kb := pair_below hb Kb.out
  have kl := Kl.out.below hb
  have kh := Kh.out.below hb
  have HB := Lib.hid (HB.out.trans (hb.mono HB.out.size))
  obtain ⟨⟨a0, a1⟩, a2, a3⟩ := keep2 ka
  obtain ⟨⟨b0, b1⟩, b2, b3⟩ := keep2 kb
  have Ka := Lib.hid ka
  have Kb := Lib.hid kb
  have Kl := Lib.hid kl
  have Kh := Lib.hid kh
  clear hb ka kb kl kh
  go_wp2_with fail
  refine (HVa.out _).mono ?_
  rintro e w2 ⟨rfl, hb⟩
  clear a0 a1 a2 a3 b0 b1 b2 b3
  have ka := pair_below hb Ka.out
  have kb := pair_below hb Kb.out
  have kl := Kl.out.below hb
  have kh := Kh.out.below hb
  have HB := Lib.hid (HB.out.trans (hb.mono HB.out.size))
  obtain ⟨⟨a0, a1⟩, a2, a3⟩ := keep2 ka
  obtain ⟨⟨b0, b1⟩, b2, b3⟩ := keep2 kb
  have Ka := Lib.hid ka
  have Kb := Lib.hid kb
  have Kl := Lib.hid kl
  have Kh := Lib.hid kh
  clear hb ka kb kl kh
  go_wp2_with fail
  refine (HVb.out _).mono ?_
  rintro e w3 ⟨rfl, hb⟩
  clear a0 a1 a2 a3 b0 b1 b2 b3
  have ka := pair_below hb Ka.out
  have kb := pair_below hb Kb.out
  have kl := Kl.out.below hb
  have kh := Kh.out.below hb
  have HB := Lib.hid (HB.out.trans (hb.mono HB.out.size))
  obtain ⟨⟨a0, a1⟩, a2, a3⟩ := keep2 ka
  obtain ⟨⟨b0, b1⟩, b2, b3⟩ := keep2 kb
  have Ka := Lib.hid ka
  have Kb := Lib.hid kb
  have Kl := Lib.hid kl
  have Kh := Lib.hid kh
  clear hb ka kb kl kh
  have la := Ka.out.lt
  have lb := Kb.out.lt
  have la3 := Lib.hid la
  have lb3 := Lib.hid lb
  have HB3 := Lib.hid (Below.refl w3.heap.size w3)
  have HBw := HB
  have Ka3 := Ka
  have Kb3 := Kb
  have SS := Lib.hid (show (w3.cell? ⟨w.heap.size, 0, none⟩ = some (.int .i64 al) ∧ w3.cell? ⟨w.heap.size, 1, none⟩ = some (.int .i64 ah) ∧ w3.cell? ⟨w.heap.size + 1, 0, none⟩ = some (.int .i64 bl) ∧ w3.cell? ⟨w.heap.size + 1, 1, none⟩ = some (.int .i64 bh)) ∧ Below w3.heap.size w3 w3 from ⟨⟨a0, a1, b0, b1⟩, Below.refl _ _⟩)
  go_upto_region 6 with fail
  obtain ⟨va1, va2, va3⟩ := (show -2147483648 ≤ al ∧ al ≤ ah ∧ ah ≤ 2147483648 by simpa [validB] using hva)
  obtain ⟨vb1, vb2, vb3⟩ := (show -2147483648 ≤ bl ∧ bl ≤ bh ∧ bh ≤ 2147483648 by simpa [validB] using hvb)
  obtain ⟨p, q, r, s, eb1, eb2, q1, q2, q3, q4, q5, q6, q7, q8, HI1, HI2⟩ := grow_use (yl := al) (yh := ah) (xl := bl) (xh := bh) (a := partLo al ah l) (b := partHi al ah l h) (c := partLo bl bh l) (d := partHi bl bh l h) hva hvb (part_bd (h := h) va2).1 (part_bd (l := l) (h := h) va2).2.2 (part_bd (h := h) vb2).1 (part_bd (l := l) (h := h) vb2).2.2 (part_bd (l := l) (h := h) va2).2.1 (part_bd (l := l) (h := h) vb2).2.1
  have B1 := bear_any al ah bl bh
  have B2 := bear_any (partLo al ah l) (partHi al ah l h) (partLo bl bh l) (partHi bl bh l h)
  rw [eb1] at B1
  rw [eb2] at B2
  have HG : -1073741824 ≤ al → ah ≤ 1073741824 → ∃ u1 v1 u2 v2 : Int, asinR al ah = (u1, v1, 0) ∧ asinR (partLo al ah l) (partHi al ah l h) = (u2, v2, 0) ∧ acosR al ah = (5400000 - v1, 5400000 - u1, 0) ∧ acosR (partLo al ah l) (partHi al ah l h) = (5400000 - v2, 5400000 - u2, 0) ∧ u1 ≤ u2 ∧ v2 ≤ v1 := fun z1 z2 => by
    obtain ⟨y1, y2, y3⟩ := part_bd (l := l) (h := h) va2
    have m1 := asn_mono z1 y1
    have m2 := asn_mono (u := -ah) (v := -(partHi al ah l h)) (by omega) (by omega)
    refine ⟨_, _, _, _, asinR_in al ah va2 z1 z2, asinR_in _ _ y2 (by omega) (by omega), ?_, ?_, m1, by omega⟩
    · rw [acosR_in al ah va2 z1 z2]; simp
    · rw [acosR_in _ _ y2 (by omega) (by omega)]; simp
  unfold arcV pairV at B1 B2
  unfold pairV at HI1 HI2
  simp only at B1 B2
  clear eb1 eb2
  have CP1 := Lib.hid (fun wx (hl : OneC 36 wx (w.heap.size + 1 + 1) (.int .u32 l)) (hh : OneC 36 wx (w.heap.size + 1 + 1 + 1) (.int .u32 h)) => cpart_any al ah l h _ _ va2 va1 va3 l0 l1 h0 h1 wx hl.cell hh.cell)
  have CP2 := Lib.hid (fun wx (hl : OneC 36 wx (w.heap.size + 1 + 1) (.int .u32 l)) (hh : OneC 36 wx (w.heap.size + 1 + 1 + 1) (.int .u32 h)) => cpart_any bl bh l h _ _ vb2 vb1 vb3 l0 l1 h0 h1 wx hl.cell hh.cell)
  generalize partLo al ah l = cl at *
  generalize partHi al ah l h = ch at *
  generalize partLo bl bh l = dl at *
  generalize partHi bl bh l h = dh at *
  unfold pairV at CP1 CP2
  replace B1 := Lib.hid B1
  replace B2 := Lib.hid B2
  replace HG := Lib.hid HG
  replace HI1 := Lib.hid HI1
  replace HI2 := Lib.hid HI2
  go_cut [10, 11] from 35 to 40 (fun c d wx => ∃ bc bd : Nat, c = Value.pointer (some ⟨bc, 0, none⟩) ∧ d = Value.pointer (some ⟨bd, 0, none⟩) ∧ RowKit.Hid (Pair 23 wx bc cl ch) ∧ RowKit.Hid (Pair 23 wx bd dl dh) ∧ RowKit.Hid (Pair 23 wx w.heap.size al ah) ∧ RowKit.Hid (Pair 23 wx (w.heap.size + 1) bl bh) ∧ RowKit.Hid (Below w.heap.size w wx))
  case first =>
    go_region_held3 (fun w' => (w'.cell? ⟨w.heap.size, 0, none⟩ = some (.int .i64 al) ∧ w'.cell? ⟨w.heap.size, 1, none⟩ = some (.int .i64 ah) ∧ w'.cell? ⟨w.heap.size + 1, 0, none⟩ = some (.int .i64 bl) ∧ w'.cell? ⟨w.heap.size + 1, 1, none⟩ = some (.int .i64 bh)) ∧ Below w3.heap.size w3 w')
      (first
        | exact ⟨⟨a0, a1, b0, b1⟩, (Below.refl _ _).drew⟩
        | (with_reducible exact keepGA (by assumption) _)
        | (with_reducible exact keepG (by assumption) (by assumption))
        | (repeat' first | (with_reducible exact SS.out) | (with_reducible refine keepGD ?_) | (with_reducible refine keepGA ?_ _) | (with_reducible refine keepGS la3.out lb3.out (by omega) ?_ _)))
      (first
        | (go_at_call 22
           with_reducible refine (CP1.out _ (by (repeat' first | exact Kl.out | refine OneC.drew ?_ | refine OneC.alloc ?_ _)) (by (repeat' first | exact Kh.out | refine OneC.drew ?_ | refine OneC.alloc ?_ _))).mono ?_
           rintro e w4 ⟨rfl, hb4⟩
           have ka := pair_below hb4 (show Pair 23 _ w.heap.size al ah by (repeat' first | (with_reducible exact Ka.out) | (with_reducible refine Pair.drew ?_) | (with_reducible refine Pair.alloc ?_ _)))
           have kb := pair_below hb4 (show Pair 23 _ (w.heap.size + 1) bl bh by (repeat' first | (with_reducible exact Kb.out) | (with_reducible refine Pair.drew ?_) | (with_reducible refine Pair.alloc ?_ _)))
           have kl := OneC.below (show OneC 36 _ (w.heap.size + 1 + 1) (.int .u32 l) by (repeat' first | exact Kl.out | refine OneC.drew ?_ | refine OneC.alloc ?_ _)) hb4
           have kh := OneC.below (show OneC 36 _ (w.heap.size + 1 + 1 + 1) (.int .u32 h) by (repeat' first | exact Kh.out | refine OneC.drew ?_ | refine OneC.alloc ?_ _)) hb4
           have hB3 : Below w3.heap.size w3 w4 := by
             first
               | exact HB3.out.trans (hb4.mono HB3.out.size)
               | exact (HB3.out.alloc HB3.out.size (.cells #[.int .i64 0, .int .i64 0] 23)).trans (hb4.mono (HB3.out.alloc HB3.out.size (.cells #[.int .i64 0, .int .i64 0] 23)).size)
               | exact ((HB3.out.alloc HB3.out.size (.cells #[.int .i64 0, .int .i64 0] 23)).alloc (HB3.out.alloc HB3.out.size (.cells #[.int .i64 0, .int .i64 0] 23)).size (.cells #[.int .i64 0, .int .i64 0] 23)).trans (hb4.mono ((HB3.out.alloc HB3.out.size (.cells #[.int .i64 0, .int .i64 0] 23)).alloc (HB3.out.alloc HB3.out.size (.cells #[.int .i64 0, .int .i64 0] 23)).size (.cells #[.int .i64 0, .int .i64 0] 23)).size)
               | exact HB3.out.drew.trans (hb4.mono HB3.out.drew.size)
               | exact (HB3.out.drew.alloc HB3.out.drew.size (.cells #[.int .i64 0, .int .i64 0] 23)).trans (hb4.mono (HB3.out.drew.alloc HB3.out.drew.size (.cells #[.int .i64 0, .int .i64 0] 23)).size)
               | exact ((HB3.out.drew.alloc HB3.out.drew.size (.cells #[.int .i64 0, .int .i64 0] 23)).alloc (HB3.out.drew.alloc HB3.out.drew.size (.cells #[.int .i64 0, .int .i64 0] 23)).size (.cells #[.int .i64 0, .int .i64 0] 23)).trans (hb4.mono ((HB3.out.drew.alloc HB3.out.drew.size (.cells #[.int .i64 0, .int .i64 0] 23)).alloc (HB3.out.drew.alloc HB3.out.drew.size (.cells #[.int .i64 0, .int .i64 0] 23)).size (.cells #[.int .i64 0, .int .i64 0] 23)).size)
           have hz4 : w3.heap.size ≤ w4.heap.size := by
             have := hb4.size
             first
               | omega
               | (simp at this; omega)
           have hB : Below w.heap.size w w4 := HBw.out.trans (hB3.mono HBw.out.size)
           obtain ⟨⟨ss0, ss1⟩, _, _⟩ := keep2 ka
           obtain ⟨⟨ss2, ss3⟩, _, _⟩ := keep2 kb
           have SS := Lib.hid (show (w4.cell? ⟨w.heap.size, 0, none⟩ = some (.int .i64 al) ∧ w4.cell? ⟨w.heap.size, 1, none⟩ = some (.int .i64 ah) ∧ w4.cell? ⟨w.heap.size + 1, 0, none⟩ = some (.int .i64 bl) ∧ w4.cell? ⟨w.heap.size + 1, 1, none⟩ = some (.int .i64 bh)) ∧ Below w3.heap.size w3 w4 from ⟨⟨ss0, ss1, ss2, ss3⟩, hB3⟩)
           have HB3 := Lib.hid hB3
           clear ss0 ss1 ss2 ss3 hB3
           first
             | (have kc := pair_below hb4 (show Pair 23 _ _ 0 0 from blk2_second _ (.cells #[.int .i64 0, .int .i64 0] 23) (.cells #[.int .i64 0, .int .i64 0] 23))
                have kd := pair_below hb4 (show Pair 23 _ _ 0 0 from blk2_first _ (.cells #[.int .i64 0, .int .i64 0] 23) (.cells #[.int .i64 0, .int .i64 0] 23))
                have lkc := kc.lt
                have lkd := kd.lt
                obtain ⟨⟨ukc0, ukc1⟩, ukc2, ukc3⟩ := keep2 kc
                obtain ⟨⟨ukd0, ukd1⟩, ukd2, ukd3⟩ := keep2 kd)
             | (have kc := pair_below hb4 (show Pair 23 _ _ 0 0 from heap_alloc_new _ (.cells #[.int .i64 0, .int .i64 0] 23))
                have lkc := kc.lt
                obtain ⟨⟨ukc0, ukc1⟩, ukc2, ukc3⟩ := keep2 kc)
             | skip
           first
             | (have ke := pair_below hb4 KC.out
                have lke := ke.lt
                obtain ⟨⟨uke0, uke1⟩, uke2, uke3⟩ := keep2 ke)
             | (have ke := pair_below hb4 (Pair.alloc KC.out (.cells #[.int .i64 0, .int .i64 0] 23))
                have lke := ke.lt
                obtain ⟨⟨uke0, uke1⟩, uke2, uke3⟩ := keep2 ke)
             | skip
           first
             | (have kf := pair_below hb4 KD.out
                have lkf := kf.lt
                obtain ⟨⟨ukf0, ukf1⟩, ukf2, ukf3⟩ := keep2 kf)
             | skip
           have Ka := Lib.hid ka
           have Kb := Lib.hid kb
           have Kl := Lib.hid kl
           have Kh := Lib.hid kh
           have HB := Lib.hid hB
           have lb := kb.lt
           have la := ka.lt
           obtain ⟨⟨b0, b1⟩, b2, b3⟩ := keep2 kb
           try have KC := Lib.hid kc
           try have KD := Lib.hid kd
           try have KE := Lib.hid ke
           try have KF := Lib.hid kf
           clear ka kb kl kh hB)
        | (go_at_call 22
           with_reducible refine (CP2.out _ (by (repeat' first | exact Kl.out | refine OneC.drew ?_ | refine OneC.alloc ?_ _)) (by (repeat' first | exact Kh.out | refine OneC.drew ?_ | refine OneC.alloc ?_ _))).mono ?_
           rintro e w5 ⟨rfl, hb5⟩
           have ka := pair_below hb5 (show Pair 23 _ w.heap.size al ah by (repeat' first | (with_reducible exact Ka.out) | (with_reducible refine Pair.drew ?_) | (with_reducible refine Pair.alloc ?_ _)))
           have kb := pair_below hb5 (show Pair 23 _ (w.heap.size + 1) bl bh by (repeat' first | (with_reducible exact Kb.out) | (with_reducible refine Pair.drew ?_) | (with_reducible refine Pair.alloc ?_ _)))
           have kl := OneC.below (show OneC 36 _ (w.heap.size + 1 + 1) (.int .u32 l) by (repeat' first | exact Kl.out | refine OneC.drew ?_ | refine OneC.alloc ?_ _)) hb5
           have kh := OneC.below (show OneC 36 _ (w.heap.size + 1 + 1 + 1) (.int .u32 h) by (repeat' first | exact Kh.out | refine OneC.drew ?_ | refine OneC.alloc ?_ _)) hb5
           have hB3 : Below w3.heap.size w3 w5 := by
             first
               | exact HB3.out.trans (hb5.mono HB3.out.size)
               | exact (HB3.out.alloc HB3.out.size (.cells #[.int .i64 0, .int .i64 0] 23)).trans (hb5.mono (HB3.out.alloc HB3.out.size (.cells #[.int .i64 0, .int .i64 0] 23)).size)
               | exact ((HB3.out.alloc HB3.out.size (.cells #[.int .i64 0, .int .i64 0] 23)).alloc (HB3.out.alloc HB3.out.size (.cells #[.int .i64 0, .int .i64 0] 23)).size (.cells #[.int .i64 0, .int .i64 0] 23)).trans (hb5.mono ((HB3.out.alloc HB3.out.size (.cells #[.int .i64 0, .int .i64 0] 23)).alloc (HB3.out.alloc HB3.out.size (.cells #[.int .i64 0, .int .i64 0] 23)).size (.cells #[.int .i64 0, .int .i64 0] 23)).size)
               | exact HB3.out.drew.trans (hb5.mono HB3.out.drew.size)
               | exact (HB3.out.drew.alloc HB3.out.drew.size (.cells #[.int .i64 0, .int .i64 0] 23)).trans (hb5.mono (HB3.out.drew.alloc HB3.out.drew.size (.cells #[.int .i64 0, .int .i64 0] 23)).size)
               | exact ((HB3.out.drew.alloc HB3.out.drew.size (.cells #[.int .i64 0, .int .i64 0] 23)).alloc (HB3.out.drew.alloc HB3.out.drew.size (.cells #[.int .i64 0, .int .i64 0] 23)).size (.cells #[.int .i64 0, .int .i64 0] 23)).trans (hb5.mono ((HB3.out.drew.alloc HB3.out.drew.size (.cells #[.int .i64 0, .int .i64 0] 23)).alloc (HB3.out.drew.alloc HB3.out.drew.size (.cells #[.int .i64 0, .int .i64 0] 23)).size (.cells #[.int .i64 0, .int .i64 0] 23)).size)
           have hz5 : w4.heap.size ≤ w5.heap.size := by
             have := hb5.size
             first
               | omega
               | (simp at this; omega)
           have hB : Below w.heap.size w w5 := HBw.out.trans (hB3.mono HBw.out.size)
           obtain ⟨⟨ss0, ss1⟩, _, _⟩ := keep2 ka
           obtain ⟨⟨ss2, ss3⟩, _, _⟩ := keep2 kb
           have SS := Lib.hid (show (w5.cell? ⟨w.heap.size, 0, none⟩ = some (.int .i64 al) ∧ w5.cell? ⟨w.heap.size, 1, none⟩ = some (.int .i64 ah) ∧ w5.cell? ⟨w.heap.size + 1, 0, none⟩ = some (.int .i64 bl) ∧ w5.cell? ⟨w.heap.size + 1, 1, none⟩ = some (.int .i64 bh)) ∧ Below w3.heap.size w3 w5 from ⟨⟨ss0, ss1, ss2, ss3⟩, hB3⟩)
           have HB3 := Lib.hid hB3
           clear ss0 ss1 ss2 ss3 hB3
           first
             | (have kc := pair_below hb5 (show Pair 23 _ _ 0 0 from blk2_second _ (.cells #[.int .i64 0, .int .i64 0] 23) (.cells #[.int .i64 0, .int .i64 0] 23))
                have kd := pair_below hb5 (show Pair 23 _ _ 0 0 from blk2_first _ (.cells #[.int .i64 0, .int .i64 0] 23) (.cells #[.int .i64 0, .int .i64 0] 23))
                have lkc := kc.lt
                have lkd := kd.lt
                obtain ⟨⟨ukc0, ukc1⟩, ukc2, ukc3⟩ := keep2 kc
                obtain ⟨⟨ukd0, ukd1⟩, ukd2, ukd3⟩ := keep2 kd)
             | (have kc := pair_below hb5 (show Pair 23 _ _ 0 0 from heap_alloc_new _ (.cells #[.int .i64 0, .int .i64 0] 23))
                have lkc := kc.lt
                obtain ⟨⟨ukc0, ukc1⟩, ukc2, ukc3⟩ := keep2 kc)
             | skip
           first
             | (have ke := pair_below hb5 KC.out
                have lke := ke.lt
                obtain ⟨⟨uke0, uke1⟩, uke2, uke3⟩ := keep2 ke)
             | (have ke := pair_below hb5 (Pair.alloc KC.out (.cells #[.int .i64 0, .int .i64 0] 23))
                have lke := ke.lt
                obtain ⟨⟨uke0, uke1⟩, uke2, uke3⟩ := keep2 ke)
             | skip
           first
             | (have kf := pair_below hb5 KD.out
                have lkf := kf.lt
                obtain ⟨⟨ukf0, ukf1⟩, ukf2, ukf3⟩ := keep2 kf)
             | skip
           have Ka := Lib.hid ka
           have Kb := Lib.hid kb
           have Kl := Lib.hid kl
           have Kh := Lib.hid kh
           have HB := Lib.hid hB
           have lb := kb.lt
           have la := ka.lt
           obtain ⟨⟨b0, b1⟩, b2, b3⟩ := keep2 kb
           try have KC := Lib.hid kc
           try have KD := Lib.hid kd
           try have KE := Lib.hid ke
           try have KF := Lib.hid kf
           clear ka kb kl kh hB))
    all_goals (
      go_wp2_with fail
      go_meet
      have l1 := la3.out
      have l2 := lb3.out
      exact ⟨_, _, rfl, rfl, Lib.hid (by (repeat' first | (with_reducible exact KC.out) | (with_reducible exact KD.out) | (with_reducible exact KE.out) | (with_reducible exact KF.out) | (with_reducible exact pair_new (by simp)) | (with_reducible refine Pair.drew ?_) | (with_reducible refine Pair.alloc ?_ _) | (with_reducible refine Pair.write (x := 0) (y := 0) ?_ _ _) | (with_reducible refine Pair.other ?_ (by omega) _ _))), Lib.hid (by (repeat' first | (with_reducible exact KC.out) | (with_reducible exact KD.out) | (with_reducible exact KE.out) | (with_reducible exact KF.out) | (with_reducible exact pair_new (by simp)) | (with_reducible refine Pair.drew ?_) | (with_reducible refine Pair.alloc ?_ _) | (with_reducible refine Pair.write (x := 0) (y := 0) ?_ _ _) | (with_reducible refine Pair.other ?_ (by omega) _ _))), Lib.hid (pair_below (And.right (by assumption)) Ka3.out), Lib.hid (pair_below (And.right (by assumption)) Kb3.out), Lib.hid (HBw.out.trans ((And.right (by assumption) : Below w3.heap.size w3 _).mono HBw.out.size))⟩)
  case rest =>
    obtain ⟨bc, bd, rfl, rfl, Kc, Kd, Ka, Kb, HB⟩ := hcut
    rename World => W
    clear hmf HVa HVb HA CP1 CP2 l0 l1 h0 h1 vb1 vb2 vb3 va1 va3 a0 a1 a2 a3 b0 b1 b2 b3 la lb
    try clear hva
    try clear hvb
    try clear SS
    try clear HBw
    try clear HB3
    try clear Ka3
    try clear Kb3
    have KA := Ka
    have KB := Kb
    have KC := Kc
    have KD := Kd
    have lA := KA.out.lt
    have lB := KB.out.lt
    have lC := KC.out.lt
    have lD := KD.out.lt
    obtain ⟨⟨aA0, aA1⟩, aA2, aA3⟩ := keep2 KA.out
    obtain ⟨⟨aB0, aB1⟩, aB2, aB3⟩ := keep2 KB.out
    obtain ⟨⟨aC0, aC1⟩, aC2, aC3⟩ := keep2 KC.out
    obtain ⟨⟨aD0, aD1⟩, aD2, aD3⟩ := keep2 KD.out
    clear Ka Kb Kc Kd
    cases hw : withinB al ah
    · rw [hw] at HW
      go_wp2_with fail
      refine (HW.out _).mono ?_
      rintro e w20 ⟨rfl, hb⟩
      clear lA aA0 aA1 aA2 aA3
      clear lB aB0 aB1 aB2 aB3
      clear lC aC0 aC1 aC2 aC3
      clear lD aD0 aD1 aD2 aD3
      have kA := pair_below hb KA.out
      have kB := pair_below hb KB.out
      have kC := pair_below hb KC.out
      have kD := pair_below hb KD.out
      have HB := Lib.hid (HB.out.trans (hb.mono HB.out.size))
      have lA := kA.lt
      obtain ⟨⟨aA0, aA1⟩, aA2, aA3⟩ := keep2 kA
      have lB := kB.lt
      obtain ⟨⟨aB0, aB1⟩, aB2, aB3⟩ := keep2 kB
      have lC := kC.lt
      obtain ⟨⟨aC0, aC1⟩, aC2, aC3⟩ := keep2 kC
      have lD := kD.lt
      obtain ⟨⟨aD0, aD1⟩, aD2, aD3⟩ := keep2 kD
      have KA := Lib.hid kA
      have KB := Lib.hid kB
      have KC := Lib.hid kC
      have KD := Lib.hid kD
      clear hb kA kB kC kD
      go_wp2_with fail
      refine (B1.out _).mono ?_
      rintro e w21 ⟨rfl, hb⟩
      clear lA aA0 aA1 aA2 aA3
      clear lB aB0 aB1 aB2 aB3
      clear lC aC0 aC1 aC2 aC3
      clear lD aD0 aD1 aD2 aD3
      have kA := (pair_below hb KA.out).alloc (.cells #[.int .i64 p, .int .i64 q] 25)
      have kB := (pair_below hb KB.out).alloc (.cells #[.int .i64 p, .int .i64 q] 25)
      have kC := (pair_below hb KC.out).alloc (.cells #[.int .i64 p, .int .i64 q] 25)
      have kD := (pair_below hb KD.out).alloc (.cells #[.int .i64 p, .int .i64 q] 25)
      have kX : Pair 25 _ w21.heap.size p q := heap_alloc_new w21 (.cells #[.int .i64 p, .int .i64 q] 25)
      have HB := Lib.hid ((HB.out.trans (hb.mono HB.out.size)).alloc (by have := HB.out.size; have := hb.size; omega) (.cells #[.int .i64 p, .int .i64 q] 25))
      have lA := kA.lt
      obtain ⟨⟨aA0, aA1⟩, aA2, aA3⟩ := keep2 kA
      have lB := kB.lt
      obtain ⟨⟨aB0, aB1⟩, aB2, aB3⟩ := keep2 kB
      have lC := kC.lt
      obtain ⟨⟨aC0, aC1⟩, aC2, aC3⟩ := keep2 kC
      have lD := kD.lt
      obtain ⟨⟨aD0, aD1⟩, aD2, aD3⟩ := keep2 kD
      have lX := kX.lt
      obtain ⟨⟨aX0, aX1⟩, aX2, aX3⟩ := keep2 kX
      have KA := Lib.hid kA
      have KB := Lib.hid kB
      have KC := Lib.hid kC
      have KD := Lib.hid kD
      have KX := Lib.hid kX
      clear hb kA kB kC kD kX
      go_wp2_with fail
      refine (B2.out _).mono ?_
      rintro e w22 ⟨rfl, hb⟩
      clear lA aA0 aA1 aA2 aA3
      clear lB aB0 aB1 aB2 aB3
      clear lC aC0 aC1 aC2 aC3
      clear lD aD0 aD1 aD2 aD3
      clear lX aX0 aX1 aX2 aX3
      have KX0 := Lib.hid (pair_below hb KX.out)
      have HB0 := Lib.hid (HB.out.trans (hb.mono HB.out.size))
      have kA := (pair_below hb KA.out).alloc (.cells #[.int .i64 r, .int .i64 s] 25)
      have kB := (pair_below hb KB.out).alloc (.cells #[.int .i64 r, .int .i64 s] 25)
      have kC := (pair_below hb KC.out).alloc (.cells #[.int .i64 r, .int .i64 s] 25)
      have kD := (pair_below hb KD.out).alloc (.cells #[.int .i64 r, .int .i64 s] 25)
      have kX := (pair_below hb KX.out).alloc (.cells #[.int .i64 r, .int .i64 s] 25)
      have kY : Pair 25 _ w22.heap.size r s := heap_alloc_new w22 (.cells #[.int .i64 r, .int .i64 s] 25)
      have HB := Lib.hid ((HB.out.trans (hb.mono HB.out.size)).alloc (by have := HB.out.size; have := hb.size; omega) (.cells #[.int .i64 r, .int .i64 s] 25))
      have lA := kA.lt
      obtain ⟨⟨aA0, aA1⟩, aA2, aA3⟩ := keep2 kA
      have lB := kB.lt
      obtain ⟨⟨aB0, aB1⟩, aB2, aB3⟩ := keep2 kB
      have lC := kC.lt
      obtain ⟨⟨aC0, aC1⟩, aC2, aC3⟩ := keep2 kC
      have lD := kD.lt
      obtain ⟨⟨aD0, aD1⟩, aD2, aD3⟩ := keep2 kD
      have lX := kX.lt
      obtain ⟨⟨aX0, aX1⟩, aX2, aX3⟩ := keep2 kX
      have lY := kY.lt
      obtain ⟨⟨aY0, aY1⟩, aY2, aY3⟩ := keep2 kY
      have KA := Lib.hid kA
      have KB := Lib.hid kB
      have KC := Lib.hid kC
      have KD := Lib.hid kD
      have KX := Lib.hid kX
      have KY := Lib.hid kY
      clear hb kA kB kC kD kX kY
      by_cases hfull : p = 0 ∧ q = 21600000
      · have EQ := eq25 p q 0 21600000
        rw [show (p == 0 && q == 21600000) = true by rw [hfull.1, hfull.2]; rfl] at EQ
        go_wp2
        go_ret
        exact ⟨rfl, HB.out⟩
      · have EQ := eq25 p q 0 21600000
        rw [show (p == 0 && q == 21600000) = false by rw [Bool.eq_false_iff]; intro hh; simp only [Bool.and_eq_true, beq_iff_eq] at hh; exact hfull hh] at EQ
        by_cases hlt : r < p
        · have HI := Lib.hid (HI1.out hfull hlt)
          have kY : Pair 25 _ w22.heap.size (r + 21600000) (s + 21600000) := heap_alloc_new w22 (.cells #[.int .i64 (r + 21600000), .int .i64 (s + 21600000)] 25)
          have kX := KX0.out.alloc (.cells #[.int .i64 (r + 21600000), .int .i64 (s + 21600000)] 25)
          have HF := Lib.hid (HB0.out.alloc HB0.out.size (.cells #[.int .i64 (r + 21600000), .int .i64 (s + 21600000)] 25))
          have lX0 := kX.lt
          have lY0 := kY.lt
          obtain ⟨⟨y0, y1⟩, y2, y3⟩ := keep2 kY
          obtain ⟨⟨x0, x1⟩, x2, x3⟩ := keep2 kX
          clear kY kX
          go_wp2_with fail
          refine (HI.out _).mono ?_
          rintro e w99 ⟨rfl, hb⟩
          have HB := Lib.hid (HF.out.trans (hb.mono HF.out.size))
          clear hb
          go_wp2
          go_ret
          exact ⟨rfl, HB.out⟩
        · have HI := Lib.hid (HI2.out hfull (by omega))
          go_wp2_with fail
          refine (HI.out _).mono ?_
          rintro e w99 ⟨rfl, hb⟩
          have HB := Lib.hid (HB.out.trans (hb.mono HB.out.size))
          clear hb
          go_wp2
          go_ret
          exact ⟨rfl, HB.out⟩
    · rw [hw] at HW
      simp only [withinB, decide_eq_true_eq] at hw
      obtain ⟨u1, v1, u2, v2, e1, e2, e3, e4, g1, g2⟩ := HG.out hw.2.1 hw.2.2
      have A1 := asin_r al ah
      have A2 := asin_r cl ch
      have A3 := acos_r al ah
      have A4 := acos_r cl ch
      rw [e1] at A1
      rw [e2] at A2
      rw [e3] at A3
      rw [e4] at A4
      unfold arcV pairV at A1 A2 A3 A4
      simp only at A1 A2 A3 A4
      replace A1 := Lib.hid A1
      replace A2 := Lib.hid A2
      replace A3 := Lib.hid A3
      replace A4 := Lib.hid A4
      clear e1 e2 e3 e4 hw
      go_wp2_with fail
      refine (HW.out _).mono ?_
      rintro e w20 ⟨rfl, hb⟩
      clear lA aA0 aA1 aA2 aA3
      clear lB aB0 aB1 aB2 aB3
      clear lC aC0 aC1 aC2 aC3
      clear lD aD0 aD1 aD2 aD3
      have kA := pair_below hb KA.out
      have kB := pair_below hb KB.out
      have kC := pair_below hb KC.out
      have kD := pair_below hb KD.out
      have HB := Lib.hid (HB.out.trans (hb.mono HB.out.size))
      have lA := kA.lt
      obtain ⟨⟨aA0, aA1⟩, aA2, aA3⟩ := keep2 kA
      have lB := kB.lt
      obtain ⟨⟨aB0, aB1⟩, aB2, aB3⟩ := keep2 kB
      have lC := kC.lt
      obtain ⟨⟨aC0, aC1⟩, aC2, aC3⟩ := keep2 kC
      have lD := kD.lt
      obtain ⟨⟨aD0, aD1⟩, aD2, aD3⟩ := keep2 kD
      have KA := Lib.hid kA
      have KB := Lib.hid kB
      have KC := Lib.hid kC
      have KD := Lib.hid kD
      clear hb kA kB kC kD
      go_wp2_with fail
      refine (A1.out _).mono ?_
      rintro e w21 ⟨rfl, hb⟩
      clear lA aA0 aA1 aA2 aA3
      clear lB aB0 aB1 aB2 aB3
      clear lC aC0 aC1 aC2 aC3
      clear lD aD0 aD1 aD2 aD3
      have kA := (pair_below hb KA.out).alloc (.cells #[.int .i64 u1, .int .i64 v1] 25)
      have kB := (pair_below hb KB.out).alloc (.cells #[.int .i64 u1, .int .i64 v1] 25)
      have kC := (pair_below hb KC.out).alloc (.cells #[.int .i64 u1, .int .i64 v1] 25)
      have kD := (pair_below hb KD.out).alloc (.cells #[.int .i64 u1, .int .i64 v1] 25)
      have kE : Pair 25 _ w21.heap.size u1 v1 := heap_alloc_new w21 (.cells #[.int .i64 u1, .int .i64 v1] 25)
      have HB := Lib.hid ((HB.out.trans (hb.mono HB.out.size)).alloc (by have := HB.out.size; have := hb.size; omega) (.cells #[.int .i64 u1, .int .i64 v1] 25))
      have lA := kA.lt
      obtain ⟨⟨aA0, aA1⟩, aA2, aA3⟩ := keep2 kA
      have lB := kB.lt
      obtain ⟨⟨aB0, aB1⟩, aB2, aB3⟩ := keep2 kB
      have lC := kC.lt
      obtain ⟨⟨aC0, aC1⟩, aC2, aC3⟩ := keep2 kC
      have lD := kD.lt
      obtain ⟨⟨aD0, aD1⟩, aD2, aD3⟩ := keep2 kD
      have lE := kE.lt
      obtain ⟨⟨aE0, aE1⟩, aE2, aE3⟩ := keep2 kE
      have KA := Lib.hid kA
      have KB := Lib.hid kB
      have KC := Lib.hid kC
      have KD := Lib.hid kD
      have KE := Lib.hid kE
      clear hb kA kB kC kD kE
      go_wp2_with fail
      refine (A2.out _).mono ?_
      rintro e w22 ⟨rfl, hb⟩
      clear lA aA0 aA1 aA2 aA3
      clear lB aB0 aB1 aB2 aB3
      clear lC aC0 aC1 aC2 aC3
      clear lD aD0 aD1 aD2 aD3
      clear lE aE0 aE1 aE2 aE3
      have kA := (pair_below hb KA.out).alloc (.cells #[.int .i64 u2, .int .i64 v2] 25)
      have kB := (pair_below hb KB.out).alloc (.cells #[.int .i64 u2, .int .i64 v2] 25)
      have kC := (pair_below hb KC.out).alloc (.cells #[.int .i64 u2, .int .i64 v2] 25)
      have kD := (pair_below hb KD.out).alloc (.cells #[.int .i64 u2, .int .i64 v2] 25)
      have kE := (pair_below hb KE.out).alloc (.cells #[.int .i64 u2, .int .i64 v2] 25)
      have kG : Pair 25 _ w22.heap.size u2 v2 := heap_alloc_new w22 (.cells #[.int .i64 u2, .int .i64 v2] 25)
      have HB := Lib.hid ((HB.out.trans (hb.mono HB.out.size)).alloc (by have := HB.out.size; have := hb.size; omega) (.cells #[.int .i64 u2, .int .i64 v2] 25))
      have lA := kA.lt
      obtain ⟨⟨aA0, aA1⟩, aA2, aA3⟩ := keep2 kA
      have lB := kB.lt
      obtain ⟨⟨aB0, aB1⟩, aB2, aB3⟩ := keep2 kB
      have lC := kC.lt
      obtain ⟨⟨aC0, aC1⟩, aC2, aC3⟩ := keep2 kC
      have lD := kD.lt
      obtain ⟨⟨aD0, aD1⟩, aD2, aD3⟩ := keep2 kD
      have lE := kE.lt
      obtain ⟨⟨aE0, aE1⟩, aE2, aE3⟩ := keep2 kE
      have lG := kG.lt
      obtain ⟨⟨aG0, aG1⟩, aG2, aG3⟩ := keep2 kG
      have KA := Lib.hid kA
      have KB := Lib.hid kB
      have KC := Lib.hid kC
      have KD := Lib.hid kD
      have KE := Lib.hid kE
      have KG := Lib.hid kG
      clear hb kA kB kC kD kE kG
      go_wp2_with fail
      refine (A3.out _).mono ?_
      rintro e w23 ⟨rfl, hb⟩
      clear lA aA0 aA1 aA2 aA3
      clear lB aB0 aB1 aB2 aB3
      clear lC aC0 aC1 aC2 aC3
      clear lD aD0 aD1 aD2 aD3
      clear lE aE0 aE1 aE2 aE3
      clear lG aG0 aG1 aG2 aG3
      have kA := (pair_below hb KA.out).alloc (.cells #[.int .i64 (5400000 - v1), .int .i64 (5400000 - u1)] 25)
      have kB := (pair_below hb KB.out).alloc (.cells #[.int .i64 (5400000 - v1), .int .i64 (5400000 - u1)] 25)
      have kC := (pair_below hb KC.out).alloc (.cells #[.int .i64 (5400000 - v1), .int .i64 (5400000 - u1)] 25)
      have kD := (pair_below hb KD.out).alloc (.cells #[.int .i64 (5400000 - v1), .int .i64 (5400000 - u1)] 25)
      have kE := (pair_below hb KE.out).alloc (.cells #[.int .i64 (5400000 - v1), .int .i64 (5400000 - u1)] 25)
      have kG := (pair_below hb KG.out).alloc (.cells #[.int .i64 (5400000 - v1), .int .i64 (5400000 - u1)] 25)
      have kH : Pair 25 _ w23.heap.size (5400000 - v1) (5400000 - u1) := heap_alloc_new w23 (.cells #[.int .i64 (5400000 - v1), .int .i64 (5400000 - u1)] 25)
      have HB := Lib.hid ((HB.out.trans (hb.mono HB.out.size)).alloc (by have := HB.out.size; have := hb.size; omega) (.cells #[.int .i64 (5400000 - v1), .int .i64 (5400000 - u1)] 25))
      have lA := kA.lt
      obtain ⟨⟨aA0, aA1⟩, aA2, aA3⟩ := keep2 kA
      have lB := kB.lt
      obtain ⟨⟨aB0, aB1⟩, aB2, aB3⟩ := keep2 kB
      have lC := kC.lt
      obtain ⟨⟨aC0, aC1⟩, aC2, aC3⟩ := keep2 kC
      have lD := kD.lt
      obtain ⟨⟨aD0, aD1⟩, aD2, aD3⟩ := keep2 kD
      have lE := kE.lt
      obtain ⟨⟨aE0, aE1⟩, aE2, aE3⟩ := keep2 kE
      have lG := kG.lt
      obtain ⟨⟨aG0, aG1⟩, aG2, aG3⟩ := keep2 kG
      have lH := kH.lt
      obtain ⟨⟨aH0, aH1⟩, aH2, aH3⟩ := keep2 kH
      have KA := Lib.hid kA
      have KB := Lib.hid kB
      have KC := Lib.hid kC
      have KD := Lib.hid kD
      have KE := Lib.hid kE
      have KG := Lib.hid kG
      have KH := Lib.hid kH
      clear hb kA kB kC kD kE kG kH
      go_wp2_with fail
      refine (A4.out _).mono ?_
      rintro e w24 ⟨rfl, hb⟩
      clear lA aA0 aA1 aA2 aA3
      clear lB aB0 aB1 aB2 aB3
      clear lC aC0 aC1 aC2 aC3
      clear lD aD0 aD1 aD2 aD3
      clear lE aE0 aE1 aE2 aE3
      clear lG aG0 aG1 aG2 aG3
      clear lH aH0 aH1 aH2 aH3
      have kA := (pair_below hb KA.out).alloc (.cells #[.int .i64 (5400000 - v2), .int .i64 (5400000 - u2)] 25)
      have kB := (pair_below hb KB.out).alloc (.cells #[.int .i64 (5400000 - v2), .int .i64 (5400000 - u2)] 25)
      have kC := (pair_below hb KC.out).alloc (.cells #[.int .i64 (5400000 - v2), .int .i64 (5400000 - u2)] 25)
      have kD := (pair_below hb KD.out).alloc (.cells #[.int .i64 (5400000 - v2), .int .i64 (5400000 - u2)] 25)
      have kE := (pair_below hb KE.out).alloc (.cells #[.int .i64 (5400000 - v2), .int .i64 (5400000 - u2)] 25)
      have kG := (pair_below hb KG.out).alloc (.cells #[.int .i64 (5400000 - v2), .int .i64 (5400000 - u2)] 25)
      have kH := (pair_below hb KH.out).alloc (.cells #[.int .i64 (5400000 - v2), .int .i64 (5400000 - u2)] 25)
      have kI : Pair 25 _ w24.heap.size (5400000 - v2) (5400000 - u2) := heap_alloc_new w24 (.cells #[.int .i64 (5400000 - v2), .int .i64 (5400000 - u2)] 25)
      have HB := Lib.hid ((HB.out.trans (hb.mono HB.out.size)).alloc (by have := HB.out.size; have := hb.size; omega) (.cells #[.int .i64 (5400000 - v2), .int .i64 (5400000 - u2)] 25))
      have lA := kA.lt
      obtain ⟨⟨aA0, aA1⟩, aA2, aA3⟩ := keep2 kA
      have lB := kB.lt
      obtain ⟨⟨aB0, aB1⟩, aB2, aB3⟩ := keep2 kB
      have lC := kC.lt
      obtain ⟨⟨aC0, aC1⟩, aC2, aC3⟩ := keep2 kC
      have lD := kD.lt
      obtain ⟨⟨aD0, aD1⟩, aD2, aD3⟩ := keep2 kD
      have lE := kE.lt
      obtain ⟨⟨aE0, aE1⟩, aE2, aE3⟩ := keep2 kE
      have lG := kG.lt
      obtain ⟨⟨aG0, aG1⟩, aG2, aG3⟩ := keep2 kG
      have lH := kH.lt
      obtain ⟨⟨aH0, aH1⟩, aH2, aH3⟩ := keep2 kH
      have lI := kI.lt
      obtain ⟨⟨aI0, aI1⟩, aI2, aI3⟩ := keep2 kI
      have KA := Lib.hid kA
      have KB := Lib.hid kB
      have KC := Lib.hid kC
      have KD := Lib.hid kD
      have KE := Lib.hid kE
      have KG := Lib.hid kG
      have KH := Lib.hid kH
      have KI := Lib.hid kI
      clear hb kA kB kC kD kE kG kH kI
      go_wp2_with fail
      refine (B1.out _).mono ?_
      rintro e w25 ⟨rfl, hb⟩
      clear lA aA0 aA1 aA2 aA3
      clear lB aB0 aB1 aB2 aB3
      clear lC aC0 aC1 aC2 aC3
      clear lD aD0 aD1 aD2 aD3
      clear lE aE0 aE1 aE2 aE3
      clear lG aG0 aG1 aG2 aG3
      clear lH aH0 aH1 aH2 aH3
      clear lI aI0 aI1 aI2 aI3
      have kA := (pair_below hb KA.out).alloc (.cells #[.int .i64 p, .int .i64 q] 25)
      have kB := (pair_below hb KB.out).alloc (.cells #[.int .i64 p, .int .i64 q] 25)
      have kC := (pair_below hb KC.out).alloc (.cells #[.int .i64 p, .int .i64 q] 25)
      have kD := (pair_below hb KD.out).alloc (.cells #[.int .i64 p, .int .i64 q] 25)
      have kE := (pair_below hb KE.out).alloc (.cells #[.int .i64 p, .int .i64 q] 25)
      have kG := (pair_below hb KG.out).alloc (.cells #[.int .i64 p, .int .i64 q] 25)
      have kH := (pair_below hb KH.out).alloc (.cells #[.int .i64 p, .int .i64 q] 25)
      have kI := (pair_below hb KI.out).alloc (.cells #[.int .i64 p, .int .i64 q] 25)
      have kX : Pair 25 _ w25.heap.size p q := heap_alloc_new w25 (.cells #[.int .i64 p, .int .i64 q] 25)
      have HB := Lib.hid ((HB.out.trans (hb.mono HB.out.size)).alloc (by have := HB.out.size; have := hb.size; omega) (.cells #[.int .i64 p, .int .i64 q] 25))
      have lA := kA.lt
      obtain ⟨⟨aA0, aA1⟩, aA2, aA3⟩ := keep2 kA
      have lB := kB.lt
      obtain ⟨⟨aB0, aB1⟩, aB2, aB3⟩ := keep2 kB
      have lC := kC.lt
      obtain ⟨⟨aC0, aC1⟩, aC2, aC3⟩ := keep2 kC
      have lD := kD.lt
      obtain ⟨⟨aD0, aD1⟩, aD2, aD3⟩ := keep2 kD
      have lE := kE.lt
      obtain ⟨⟨aE0, aE1⟩, aE2, aE3⟩ := keep2 kE
      have lG := kG.lt
      obtain ⟨⟨aG0, aG1⟩, aG2, aG3⟩ := keep2 kG
      have lH := kH.lt
      obtain ⟨⟨aH0, aH1⟩, aH2, aH3⟩ := keep2 kH
      have lI := kI.lt
      obtain ⟨⟨aI0, aI1⟩, aI2, aI3⟩ := keep2 kI
      have lX := kX.lt
      obtain ⟨⟨aX0, aX1⟩, aX2, aX3⟩ := keep2 kX
      have KA := Lib.hid kA
      have KB := Lib.hid kB
      have KC := Lib.hid kC
      have KD := Lib.hid kD
      have KE := Lib.hid kE
      have KG := Lib.hid kG
      have KH := Lib.hid kH
      have KI := Lib.hid kI
      have KX := Lib.hid kX
      clear hb kA kB kC kD kE kG kH kI kX
      clear KE lE aE0 aE1 aE2 aE3
      clear KG lG aG0 aG1 aG2 aG3
      clear KH lH aH0 aH1 aH2 aH3
      clear KI lI aI0 aI1 aI2 aI3
      go_wp2_with fail
      refine (B2.out _).mono ?_
      rintro e w26 ⟨rfl, hb⟩
      clear lA aA0 aA1 aA2 aA3
      clear lB aB0 aB1 aB2 aB3
      clear lC aC0 aC1 aC2 aC3
      clear lD aD0 aD1 aD2 aD3
      clear lX aX0 aX1 aX2 aX3
      have KX0 := Lib.hid (pair_below hb KX.out)
      have HB0 := Lib.hid (HB.out.trans (hb.mono HB.out.size))
      have kA := (pair_below hb KA.out).alloc (.cells #[.int .i64 r, .int .i64 s] 25)
      have kB := (pair_below hb KB.out).alloc (.cells #[.int .i64 r, .int .i64 s] 25)
      have kC := (pair_below hb KC.out).alloc (.cells #[.int .i64 r, .int .i64 s] 25)
      have kD := (pair_below hb KD.out).alloc (.cells #[.int .i64 r, .int .i64 s] 25)
      have kX := (pair_below hb KX.out).alloc (.cells #[.int .i64 r, .int .i64 s] 25)
      have kY : Pair 25 _ w26.heap.size r s := heap_alloc_new w26 (.cells #[.int .i64 r, .int .i64 s] 25)
      have HB := Lib.hid ((HB.out.trans (hb.mono HB.out.size)).alloc (by have := HB.out.size; have := hb.size; omega) (.cells #[.int .i64 r, .int .i64 s] 25))
      have lA := kA.lt
      obtain ⟨⟨aA0, aA1⟩, aA2, aA3⟩ := keep2 kA
      have lB := kB.lt
      obtain ⟨⟨aB0, aB1⟩, aB2, aB3⟩ := keep2 kB
      have lC := kC.lt
      obtain ⟨⟨aC0, aC1⟩, aC2, aC3⟩ := keep2 kC
      have lD := kD.lt
      obtain ⟨⟨aD0, aD1⟩, aD2, aD3⟩ := keep2 kD
      have lX := kX.lt
      obtain ⟨⟨aX0, aX1⟩, aX2, aX3⟩ := keep2 kX
      have lY := kY.lt
      obtain ⟨⟨aY0, aY1⟩, aY2, aY3⟩ := keep2 kY
      have KA := Lib.hid kA
      have KB := Lib.hid kB
      have KC := Lib.hid kC
      have KD := Lib.hid kD
      have KX := Lib.hid kX
      have KY := Lib.hid kY
      clear hb kA kB kC kD kX kY
      by_cases hfull : p = 0 ∧ q = 21600000
      · have EQ := eq25 p q 0 21600000
        rw [show (p == 0 && q == 21600000) = true by rw [hfull.1, hfull.2]; rfl] at EQ
        go_wp2
        go_ret
        exact ⟨rfl, HB.out⟩
      · have EQ := eq25 p q 0 21600000
        rw [show (p == 0 && q == 21600000) = false by rw [Bool.eq_false_iff]; intro hh; simp only [Bool.and_eq_true, beq_iff_eq] at hh; exact hfull hh] at EQ
        by_cases hlt : r < p
        · have HI := Lib.hid (HI1.out hfull hlt)
          have kY : Pair 25 _ w26.heap.size (r + 21600000) (s + 21600000) := heap_alloc_new w26 (.cells #[.int .i64 (r + 21600000), .int .i64 (s + 21600000)] 25)
          have kX := KX0.out.alloc (.cells #[.int .i64 (r + 21600000), .int .i64 (s + 21600000)] 25)
          have HF := Lib.hid (HB0.out.alloc HB0.out.size (.cells #[.int .i64 (r + 21600000), .int .i64 (s + 21600000)] 25))
          have lX0 := kX.lt
          have lY0 := kY.lt
          obtain ⟨⟨y0, y1⟩, y2, y3⟩ := keep2 kY
          obtain ⟨⟨x0, x1⟩, x2, x3⟩ := keep2 kX
          clear kY kX
          go_wp2_with fail
          refine (HI.out _).mono ?_
          rintro e w99 ⟨rfl, hb⟩
          have HB := Lib.hid (HF.out.trans (hb.mono HF.out.size))
          clear hb
          go_wp2
          go_ret
          exact ⟨rfl, HB.out⟩
        · have HI := Lib.hid (HI2.out hfull (by omega))
          go_wp2_with fail
          refine (HI.out _).mono ?_
          rintro e w99 ⟨rfl, hb⟩
          have HB := Lib.hid (HB.out.trans (hb.mono HB.out.size))
          clear hb
          go_wp2
          go_ret
          exact ⟨rfl, HB.out⟩
end Go.Proofs.Ytmlmohcghoelkaa

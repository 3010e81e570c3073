/-
  The least longitudes around some arcs: the walk of place.around (some pair), and of place.Meet. place.Meet: two places with latitudes and longitudes in common meet. The walk. CirclesOn (row 52): the walk of the law.
-/
import Derived.Test.YtfilgpifiboccaaGreatW52
import Derived.Test.YtfilgpifiboccaaGreatL36o
namespace Go.Proofs.YtfilgpifiboccaaGreat
open Go.RowKit
open Ev (Gives)
noncomputable section
def PairPost (w : World) (e : Ending) (w' : World) : Prop := ∃ x y : Int, e = .returned (pairV x y) ∧ Below w.heap.size w w'
structure AroRel (w0 : World) (gl : Nat) (A : Option Addr) (n : Nat) (l : List Pr) (v13 v4 : Value) (wr : World) (i : Nat) : Prop where
  le : i ≤ n
  num : v13 = .int .i64 (i : Int)
  span : ∃ s : Int, v4 = .int .i64 s
  res : ∃ x y, Bx wr w0.heap.size x y
  least : ∃ x y, Bx wr gl x y
  arcs : Arcs wr A n l
  below : Below w0.heap.size w0 wr
structure InnRel (w0 : World) (gl g : Nat) (A : Option Addr) (n : Nat) (l : List Pr) (p q : Int) (v22 v7 : Value) (wr : World) (i : Nat) : Prop where
  le : i ≤ n
  num : v22 = .int .i64 (i : Int)
  reach : ∃ s : Int, v7 = .int .i64 s
  res : ∃ x y, Bx wr w0.heap.size x y
  least : ∃ x y, Bx wr gl x y
  one : Bx wr g p q
  arcs : Arcs wr A n l
  below : Below w0.heap.size w0 wr
set_option maxRecDepth 100000 in
set_option maxHeartbeats 2000000 in
theorem around_any (A : Option Addr) (n k : Nat) (l : List Pr) (w : World) (h : Arcs w A n l) : Calls Tryz.prog 41 #[.slice A n k] w (PairPost w) := by
  have HAR := Lib.hid h
  obtain ⟨z1, z2, hz⟩ : ∃ z1 z2, evwM = (z1, z2) := ⟨_, _, rfl⟩
  have HEV := Lib.hid (fun w => at0 evwM_gives w)
  rw [hz] at HEV
  have hn := h.le
  clear h hz
  unfold pairV at HEV
  go_enter Tryz.func41, Tryz.ntmps41
  go_wp2_with fail
  refine (HEV.out _).mono ?_
  rintro e w1 ⟨rfl, hb1⟩
  have HB0 := Lib.hid ((Below.refl w.heap.size w).alloc (Nat.le_refl _) (.cells #[.int .i64 0, .int .i64 0] 23))
  have HB1 := Lib.hid (HB0.out.trans (hb1.mono (by simp)))
  have HR1 := Lib.hid ((Bx.new w 0 0).next hb1)
  have HA1 := Lib.hid (HAR.out.below HB1.out (Nat.le_refl _))
  have HB2 := Lib.hid (HB1.out.alloc HB1.out.size (.cells #[.int .i64 z1, .int .i64 z2] 23))
  have HR2 := Lib.hid (HR1.out.next ((Below.refl _ _).alloc (Nat.le_refl _) (.cells #[.int .i64 z1, .int .i64 z2] 23)))
  have HL2 := Lib.hid (Bx.new w1 z1 z2)
  have HA2 := Lib.hid (HA1.out.below ((Below.refl _ _).alloc (Nat.le_refl _) (.cells #[.int .i64 z1, .int .i64 z2] 23)) (Nat.le_refl _))
  have hgl : w.heap.size < w1.heap.size := HR1.out.lt
  have HST := Lib.hid (show AroRel w w1.heap.size A n l (.int .i64 0) (.int .i64 21600000) (w1.alloc (.cells #[.int .i64 z1, .int .i64 z2] 23)) 0 from ⟨by omega, rfl, ⟨_, rfl⟩, ⟨_, _, HR2.out⟩, ⟨_, _, HL2.out⟩, HA2.out, HB2.out⟩)
  clear hb1 HEV HB0 HB1 HR1 HA1 HB2 HR2 HL2 HA2
  go_wp2_with fail
  generalize w1.heap.size = gl at *
  go_loopw [13, 4] (fun v13 v4 wr => ∃ i, AroRel w gl A n l v13 v4 wr i) (fun v13 _ _ => n - (intOf v13).toNat)
  case atStart => exact ⟨_, HST.out⟩
  case round =>
    clear HST
    obtain ⟨i, hi, rfl, ⟨s0, rfl⟩, ⟨x0, y0, hR⟩, ⟨x1, y1, hL⟩, hA, hB⟩ := hrel
    by_cases hin : i < n
    · obtain ⟨b, off, a1, a2, rfl, hbl, _, e0, e1⟩ := hA.at_ hin (Below.refl _ _)
      have hin' : (i : Int) < (n : Int) := by omega
      have HR := Lib.hid hR
      have HL := Lib.hid hL
      have HA := Lib.hid hA
      have HB := Lib.hid hB
      clear hR hL hA hB
      have HK := Lib.hid (Bx.new wr a1 a2)
      have HBa := Lib.hid ((Below.refl wr.heap.size wr).alloc (Nat.le_refl _) (.cells #[.int .i64 a1, .int .i64 a2] 23))
      have HP := Lib.hid (at1 (pallM_gives a1 a2) (wr.alloc (.cells #[.int .i64 a1, .int .i64 a2] 23)))
      obtain ⟨bp, hbp⟩ : ∃ x, x = pallM a1 a2 := ⟨_, rfl⟩
      rw [← hbp] at HP
      clear hbp
      go_wp2_with fail
      refine HP.out.mono ?_
      rintro e W2 ⟨rfl, hb2⟩
      have HBb := Lib.hid (HBa.out.trans (hb2.mono (by simp)))
      have HK2 := Lib.hid (HK.out.next hb2)
      have HR2 := Lib.hid (HR.out.next HBb.out)
      have HL2 := Lib.hid (HL.out.next HBb.out)
      have HA2 := Lib.hid (HA.out.below HBb.out (Nat.le_refl _))
      have HB2 := Lib.hid (HB.out.trans (HBb.out.mono HB.out.size))
      have hg6 : gl < wr.heap.size := HL.out.lt
      have hg7 : w.heap.size < wr.heap.size := HR.out.lt
      clear hb2 HP HK HBa HBb HR HL HA HB e0 e1
      generalize wr.heap.size = g6 at *
      cases bp with
      | true =>
        obtain ⟨l0, l1, lf0, lf1⟩ := HL2.out.keep
        obtain ⟨r0, r1, rf0, rf1⟩ := HR2.out.keep
        have HF := Lib.hid (show ∀ W', Below w.heap.size w W' → PairPost w (.returned (.agg #[.int .i64 x1, .int .i64 y1])) W' from fun W' hb => ⟨x1, y1, rfl, hb⟩)
        have HW := Lib.hid (Bx.write HR2.out x1 y1)
        obtain ⟨t0, t1, _, _⟩ := HW.out.keep
        have HBW := Lib.hid (Below.set2 HB2.out (Nat.le_refl _) (.int .i64 x1) (.int .i64 y1))
        go_wp2
        refine bodyPost_ret (v := .agg #[.int .i64 x1, .int .i64 y1]) (by simp [results, Tryz.results41, go_sem, t0, t1]) rfl (HF.out _ HBW.out)
      | false =>
        go_wp2_with fail
        go_loopw [22, 7] (fun v22 v7 wq => ∃ j, InnRel w gl g6 (some ⟨b, off, none⟩) n l a1 a2 v22 v7 wq j) (fun v22 _ _ => n - (intOf v22).toNat)
        case atStart => exact ⟨0, by omega, rfl, ⟨_, rfl⟩, ⟨_, _, HR2.out⟩, ⟨_, _, HL2.out⟩, HK2.out, HA2.out, HB2.out⟩
        case round =>
          clear HK2 HR2 HL2 HA2 HB2
          obtain ⟨j, hj, rfl, ⟨s7, rfl⟩, ⟨x2, y2, hR⟩, ⟨x3, y3, hL⟩, hO, hA, hB⟩ := hrel
          by_cases hjn : j < n
          · obtain ⟨b', off', c1, c2, hbe, hbl2, _, f0, f1⟩ := hA.at_ hjn (Below.refl _ _)
            cases hbe
            have hjn' : (j : Int) < (n : Int) := by omega
            have HR := Lib.hid hR
            have HL := Lib.hid hL
            have HO := Lib.hid hO
            have HA := Lib.hid hA
            have HB := Lib.hid hB
            have HBa := Lib.hid ((Below.refl wr.heap.size wr).alloc (Nat.le_refl _) (.cells #[.int .i64 c1, .int .i64 c2] 23))
            have hk4 := (hO.next HBa.out).keep
            have hn4 := (Bx.new wr c1 c2).keep
            have HX := Lib.hid (show ((wr.alloc (.cells #[.int .i64 c1, .int .i64 c2] 23)).cell? ⟨g6, 0, none⟩ = some (.int .i64 a1) ∧ (wr.alloc (.cells #[.int .i64 c1, .int .i64 c2] 23)).cell? ⟨g6, 1, none⟩ = some (.int .i64 a2) ∧ (wr.alloc (.cells #[.int .i64 c1, .int .i64 c2] 23)).cell? ⟨wr.heap.size, 0, none⟩ = some (.int .i64 c1) ∧ (wr.alloc (.cells #[.int .i64 c1, .int .i64 c2] 23)).cell? ⟨wr.heap.size, 1, none⟩ = some (.int .i64 c2)) ∧ Below (wr.alloc (.cells #[.int .i64 c1, .int .i64 c2] 23)).heap.size (wr.alloc (.cells #[.int .i64 c1, .int .i64 c2] 23)) (wr.alloc (.cells #[.int .i64 c1, .int .i64 c2] 23)) from ⟨⟨hk4.1, hk4.2.1, hn4.1, hn4.2.1⟩, Below.refl _ _⟩)
            have HBY := Lib.hid (fun w => at2 (beyM_gives a1 a2 c1) w)
            obtain ⟨yb, hyb⟩ : ∃ x, x = beyM a1 a2 c1 := ⟨_, rfl⟩
            rw [← hyb] at HBY
            clear hR hL hO hA hB hk4 hn4 hyb
            go_wp2_with fail
            clear f0 f1
            go_region_held3 (fun w' => (w'.cell? ⟨g6, 0, none⟩ = some (.int .i64 a1) ∧ w'.cell? ⟨g6, 1, none⟩ = some (.int .i64 a2) ∧ w'.cell? ⟨wr.heap.size, 0, none⟩ = some (.int .i64 c1) ∧ w'.cell? ⟨wr.heap.size, 1, none⟩ = some (.int .i64 c2)) ∧ Below (wr.alloc (.cells #[.int .i64 c1, .int .i64 c2] 23)).heap.size (wr.alloc (.cells #[.int .i64 c1, .int .i64 c2] 23)) w')
              (first
                | (with_reducible exact HX.out)
                | (with_reducible exact SS.out)
                | (with_reducible exact keepC HX.out (Below.drew (Below.refl _ _)))
                | (with_reducible exact keepC SS.out (Below.drew (Below.refl _ _)))
                | fail)
              (first
                | (go_at_call 80
                   with_reducible refine (HBY.out _).mono ?_
                   rintro e w5 ⟨rfl, hb5⟩
                   have SS := Lib.hid (keepC (w1 := w5) (by assumption) hb5))
                | fail)
            all_goals (
              have HBz := Lib.hid (HBa.out.trans (SS.out.2.mono (by simp)))
              have HBy := Lib.hid (Below.drew HBz.out)
              go_wp2
              go_roundw
              case rel =>
                first
                  | exact ⟨j + 1, hjn, by rw [Int.natCast_add]; rfl, ⟨_, rfl⟩, ⟨_, _, HR.out.next HBz.out⟩, ⟨_, _, HL.out.next HBz.out⟩, HO.out.next HBz.out, HA.out.below HBz.out (Nat.le_refl _), HB.out.trans (HBz.out.mono HB.out.size)⟩
                  | exact ⟨j + 1, hjn, by rw [Int.natCast_add]; rfl, ⟨_, rfl⟩, ⟨_, _, HR.out.next HBy.out⟩, ⟨_, _, HL.out.next HBy.out⟩, HO.out.next HBy.out, HA.out.below HBy.out (Nat.le_refl _), HB.out.trans (HBy.out.mono HB.out.size)⟩
              case measure => simp [intOf]; omega)
          · have hjn2 : ¬ (j : Int) < (n : Int) := by omega
            obtain ⟨l0, l1, lf0, lf1⟩ := hL.keep
            obtain ⟨o0, o1, of0, of1⟩ := hO.keep
            have HR := Lib.hid hR
            have HL := Lib.hid hL
            have HA := Lib.hid hA
            have HB := Lib.hid hB
            have hgne : gl ≠ w.heap.size := by omega
            have HRW := Lib.hid (Bx.other hR (Ne.symm hgne) (.int .i64 a1) (.int .i64 (wrap64 (a1 + s7))))
            have HLW := Lib.hid (Bx.write hL a1 (wrap64 (a1 + s7)))
            have HBW := Lib.hid (Below.set2 hB (show w.heap.size ≤ gl by omega) (.int .i64 a1) (.int .i64 (wrap64 (a1 + s7))))
            have HAW := Lib.hid (HAR.out.below HBW.out (Nat.le_refl _))
            clear hR hL hA hB hO
            by_cases k1 : s7 < s0
            · go_wp2
              exact ⟨⟨i + 1, hin, by rw [Int.natCast_add]; rfl, ⟨_, rfl⟩, ⟨_, _, HRW.out⟩, ⟨_, _, HLW.out⟩, HAW.out, HBW.out⟩, by simp [intOf]; omega⟩
            · by_cases k2 : s7 = s0
              · subst k2
                by_cases k3 : s7 < 21600000
                · by_cases k4 : a1 < x3
                  · go_wp2
                    exact ⟨⟨i + 1, hin, by rw [Int.natCast_add]; rfl, ⟨_, rfl⟩, ⟨_, _, HRW.out⟩, ⟨_, _, HLW.out⟩, HAW.out, HBW.out⟩, by simp [intOf]; omega⟩
                  · go_wp2
                    exact ⟨⟨i + 1, hin, by rw [Int.natCast_add]; rfl, ⟨_, rfl⟩, ⟨_, _, HR.out⟩, ⟨_, _, HL.out⟩, HA.out, HB.out⟩, by simp [intOf]; omega⟩
                · go_wp2
                  exact ⟨⟨i + 1, hin, by rw [Int.natCast_add]; rfl, ⟨_, rfl⟩, ⟨_, _, HR.out⟩, ⟨_, _, HL.out⟩, HA.out, HB.out⟩, by simp [intOf]; omega⟩
              · have k2' : (s7 == s0) = false := beq_eq_false_iff_ne.2 k2
                go_wp2
                exact ⟨⟨i + 1, hin, by rw [Int.natCast_add]; rfl, ⟨_, rfl⟩, ⟨_, _, HR.out⟩, ⟨_, _, HL.out⟩, HA.out, HB.out⟩, by simp [intOf]; omega⟩
    · have hin2 : ¬ (i : Int) < (n : Int) := by omega
      obtain ⟨l0, l1, lf0, lf1⟩ := hL.keep
      obtain ⟨r0, r1, rf0, rf1⟩ := hR.keep
      have HF := Lib.hid (show ∀ W', Below w.heap.size w W' → PairPost w (.returned (.agg #[.int .i64 x1, .int .i64 y1])) W' from fun W' hb => ⟨x1, y1, rfl, hb⟩)
      have HW := Lib.hid (Bx.write hR x1 y1)
      obtain ⟨t0, t1, _, _⟩ := HW.out.keep
      have HBW := Lib.hid (Below.set2 hB (Nat.le_refl _) (.int .i64 x1) (.int .i64 y1))
      clear hL hR hA hB
      go_wp2
      refine bodyPost_ret (v := .agg #[.int .i64 x1, .int .i64 y1]) (by simp [results, Tryz.results41, go_sem, t0, t1]) rfl (HF.out _ HBW.out)
end
end Go.Proofs.YtfilgpifiboccaaGreat
namespace Go.Proofs.YtfilgpifiboccaaGreat
open Go.RowKit
open Ev (Gives)
noncomputable section
def B4 (w : World) (g : Nat) (a b c d : Int) : Prop := w.heap[g]? = some (.cells #[.int .i64 a, .int .i64 b, .int .i64 c, .int .i64 d] 30 (0, 0))
theorem B4.lt {w : World} {g : Nat} {a b c d : Int} (h : B4 w g a b c d) : g < w.heap.size := (Array.getElem?_eq_some_iff.1 h).1
theorem B4.next {w w' : World} {g : Nat} {a b c d : Int} (h : B4 w g a b c d) (hb : Below w.heap.size w w') : B4 w' g a b c d := (hb.block g h.lt).trans h
theorem B4.keep {w : World} {g : Nat} {a b c d : Int} (h : B4 w g a b c d) : (w.cell? ⟨g, 0, none⟩ = some (.int .i64 a) ∧ w.cell? ⟨g, 1, none⟩ = some (.int .i64 b) ∧ w.cell? ⟨g, 2, none⟩ = some (.int .i64 c) ∧ w.cell? ⟨g, 3, none⟩ = some (.int .i64 d)) ∧ w.frozen? ⟨g, 0, none⟩ = false ∧ w.frozen? ⟨g, 1, none⟩ = false ∧ w.frozen? ⟨g, 2, none⟩ = false ∧ w.frozen? ⟨g, 3, none⟩ = false := by
  unfold B4 at h
  refine ⟨⟨?_, ?_, ?_, ?_⟩, ?_, ?_, ?_, ?_⟩ <;> simp [World.cell?, World.frozen?, h]
theorem B4.write {w : World} {g : Nat} {a b c d : Int} (h : B4 w g a b c d) (x y z u : Int) : B4 ((((w.setCell ⟨g, 0, none⟩ (.int .i64 x)).setCell ⟨g, 1, none⟩ (.int .i64 y)).setCell ⟨g, 2, none⟩ (.int .i64 z)).setCell ⟨g, 3, none⟩ (.int .i64 u)) g x y z u := by
  unfold B4 at *
  simp [World.setCell, h, Array.getElem?_modify]
theorem three_boxes (w : World) (a b c d e f g h : Int) : ∃ W, W = ((w.alloc (.cells ⟨[.int .i64 a, .int .i64 b, .int .i64 c, .int .i64 d]⟩ 30)).alloc (.cells ⟨[.int .i64 e, .int .i64 f, .int .i64 g, .int .i64 h]⟩ 30)).alloc (.cells #[.int .i64 0, .int .i64 0, .int .i64 0, .int .i64 0] 30) ∧ B4 W w.heap.size a b c d ∧ B4 W (w.heap.size + 1) e f g h ∧ B4 W (w.heap.size + 1 + 1) 0 0 0 0 ∧ W.heap.size = w.heap.size + 3 ∧ Below w.heap.size w W := by
  have h1 : B4 (w.alloc (.cells ⟨[.int .i64 a, .int .i64 b, .int .i64 c, .int .i64 d]⟩ 30)) w.heap.size a b c d := heap_alloc_new w _
  have n1 : ∀ (W : World) o, Below W.heap.size W (W.alloc o) := fun W o => (Below.refl _ _).alloc (Nat.le_refl _) o
  have h2 : B4 ((w.alloc (.cells ⟨[.int .i64 a, .int .i64 b, .int .i64 c, .int .i64 d]⟩ 30)).alloc (.cells ⟨[.int .i64 e, .int .i64 f, .int .i64 g, .int .i64 h]⟩ 30)) (w.heap.size + 1) e f g h := by
    have := heap_alloc_new (w.alloc (.cells ⟨[.int .i64 a, .int .i64 b, .int .i64 c, .int .i64 d]⟩ 30)) (.cells ⟨[.int .i64 e, .int .i64 f, .int .i64 g, .int .i64 h]⟩ 30)
    have z : (w.alloc (.cells ⟨[.int .i64 a, .int .i64 b, .int .i64 c, .int .i64 d]⟩ 30)).heap.size = w.heap.size + 1 := by simp
    rw [z] at this
    exact this
  have h3 : B4 (((w.alloc (.cells ⟨[.int .i64 a, .int .i64 b, .int .i64 c, .int .i64 d]⟩ 30)).alloc (.cells ⟨[.int .i64 e, .int .i64 f, .int .i64 g, .int .i64 h]⟩ 30)).alloc (.cells #[.int .i64 0, .int .i64 0, .int .i64 0, .int .i64 0] 30)) (w.heap.size + 1 + 1) 0 0 0 0 := by
    have := heap_alloc_new ((w.alloc (.cells ⟨[.int .i64 a, .int .i64 b, .int .i64 c, .int .i64 d]⟩ 30)).alloc (.cells ⟨[.int .i64 e, .int .i64 f, .int .i64 g, .int .i64 h]⟩ 30)) (.cells #[.int .i64 0, .int .i64 0, .int .i64 0, .int .i64 0] 30)
    have z : ((w.alloc (.cells ⟨[.int .i64 a, .int .i64 b, .int .i64 c, .int .i64 d]⟩ 30)).alloc (.cells ⟨[.int .i64 e, .int .i64 f, .int .i64 g, .int .i64 h]⟩ 30)).heap.size = w.heap.size + 1 + 1 := by simp
    rw [z] at this
    exact this
  exact ⟨_, rfl, (h1.next (n1 _ _)).next (n1 _ _), h2.next (n1 _ _), h3, by simp, (((Below.refl _ _).alloc (Nat.le_refl _) _).alloc (by simp) _).alloc (by simp; omega) _⟩
theorem keepR {w w2 W w1 : World} {lo hi : Int} (h : ((W.cell? ⟨w2.heap.size, 0, none⟩ = some (.int .i64 lo) ∧ W.cell? ⟨w2.heap.size, 1, none⟩ = some (.int .i64 hi)) ∧ Below w.heap.size w W)) (hb : Below W.heap.size W w1) : ((w1.cell? ⟨w2.heap.size, 0, none⟩ = some (.int .i64 lo) ∧ w1.cell? ⟨w2.heap.size, 1, none⟩ = some (.int .i64 hi)) ∧ Below w.heap.size w w1) := by
  obtain ⟨⟨h0, h1⟩, hB⟩ := h
  have s1 := World.block_lt_of_cell? W _ h0
  exact ⟨⟨(hb.cell (p := ⟨w2.heap.size, 0, none⟩) s1).trans h0, (hb.cell (p := ⟨w2.heap.size, 1, none⟩) s1).trans h1⟩, hB.trans (hb.mono hB.size)⟩
theorem keepRS {w w2 W : World} {lo hi : Int} (hl : w.heap.size + 1 + 1 < w2.heap.size) (h : ((W.cell? ⟨w2.heap.size, 0, none⟩ = some (.int .i64 lo) ∧ W.cell? ⟨w2.heap.size, 1, none⟩ = some (.int .i64 hi)) ∧ Below w.heap.size w W)) (x y z u : Value) : ((((((W.setCell ⟨w.heap.size + 1 + 1, 0, none⟩ x).setCell ⟨w.heap.size + 1 + 1, 1, none⟩ y).setCell ⟨w.heap.size + 1 + 1, 2, none⟩ z).setCell ⟨w.heap.size + 1 + 1, 3, none⟩ u).cell? ⟨w2.heap.size, 0, none⟩ = some (.int .i64 lo) ∧ ((((W.setCell ⟨w.heap.size + 1 + 1, 0, none⟩ x).setCell ⟨w.heap.size + 1 + 1, 1, none⟩ y).setCell ⟨w.heap.size + 1 + 1, 2, none⟩ z).setCell ⟨w.heap.size + 1 + 1, 3, none⟩ u).cell? ⟨w2.heap.size, 1, none⟩ = some (.int .i64 hi)) ∧ Below w.heap.size w ((((W.setCell ⟨w.heap.size + 1 + 1, 0, none⟩ x).setCell ⟨w.heap.size + 1 + 1, 1, none⟩ y).setCell ⟨w.heap.size + 1 + 1, 2, none⟩ z).setCell ⟨w.heap.size + 1 + 1, 3, none⟩ u)) := by
  obtain ⟨⟨h0, h1⟩, hB⟩ := h
  have n : w.heap.size + 1 + 1 ≠ w2.heap.size := by omega
  refine ⟨⟨?_, ?_⟩, (((hB.setCell (by simp; omega) _).setCell (by simp; omega) _).setCell (by simp; omega) _).setCell (by simp; omega) _⟩
  · rw [World.cell?_setCell_far _ _ _ _ n, World.cell?_setCell_far _ _ _ _ n, World.cell?_setCell_far _ _ _ _ n, World.cell?_setCell_far _ _ _ _ n]; exact h0
  · rw [World.cell?_setCell_far _ _ _ _ n, World.cell?_setCell_far _ _ _ _ n, World.cell?_setCell_far _ _ _ _ n, World.cell?_setCell_far _ _ _ _ n]; exact h1
def PairPost2 (w : World) (e : Ending) (w' : World) : Prop := ∃ x y : Int, e = .returned (.agg #[.int .i64 x, .int .i64 y]) ∧ Below w.heap.size w w'
theorem around_2 (A : Option Addr) (n k : Nat) (l : List Pr) (w : World) (h : Arcs w A n l) : Calls Tryz.prog 41 #[.slice A n k] w (PairPost2 w) := (around_any A n k l w h).mono fun _ _ h => h
def MeetPost (w : World) (e : Ending) (w' : World) : Prop := ∃ x y z u : Int, e = .returned (.tuple #[.agg #[.int .i64 x, .int .i64 y, .int .i64 z, .int .i64 u], .int .i64 0]) ∧ Below w.heap.size w w'
set_option maxRecDepth 100000 in
set_option maxHeartbeats 2000000 in
theorem meetP_any {a b c d e f g h : Int} (v1 : pvalM a b c d = true) (v2 : pvalM e f g h = true) (k1 : LonP c d) (k2 : LonP g h) (m1 : max a e ≤ min b f) (hc : comC c d g h) (w : World) :
    Calls Tryz.prog 12 #[.agg ⟨[.int .i64 a, .int .i64 b, .int .i64 c, .int .i64 d]⟩, .agg ⟨[.int .i64 e, .int .i64 f, .int .i64 g, .int .i64 h]⟩] w (MeetPost w) := by
  obtain ⟨W, hW, B1, B2, B3, hs, hb⟩ := three_boxes w a b c d e f g h
  have HC1 := Lib.hid (fun w => at1 (pvalM_gives a b c d) w)
  have HC2 := Lib.hid (fun w => at1 (pvalM_gives e f g h) w)
  rw [v1] at HC1
  rw [v2] at HC2
  have HCM := Lib.hid (fun w => common_any k1 k2 w)
  have HCC := Lib.hid hc
  have HB1 := Lib.hid B1
  have HB2 := Lib.hid B2
  have HB3 := Lib.hid B3
  have HBW := Lib.hid hb
  obtain ⟨⟨p0, p1, p2, p3⟩, _, _, _, _⟩ := B1.keep
  have HM := Lib.hid m1
  clear v1 v2 B1 B2 B3 hb hc k1 k2 m1
  unfold pairV at HCM
  go_enter Tryz.func12, Tryz.ntmps12
  go_wp2_with fail
  rw [← hW]
  refine (HC1.out _).mono ?_
  rintro _ w1 ⟨rfl, hb1⟩
  have HBW1 := Lib.hid (HBW.out.trans (hb1.mono (by omega)))
  have H11 := Lib.hid (HB1.out.next hb1)
  have H12 := Lib.hid (HB2.out.next hb1)
  have H13 := Lib.hid (HB3.out.next hb1)
  clear hb1 p0 p1 p2 p3 HB1 HB2 HB3 HBW HC1
  obtain ⟨⟨p0, p1, p2, p3⟩, _, _, _, _⟩ := H12.out.keep
  go_wp2_with fail
  refine (HC2.out _).mono ?_
  rintro _ w2 ⟨rfl, hb2⟩
  have HBW2 := Lib.hid (HBW1.out.trans (hb2.mono HBW1.out.size))
  have H21 := Lib.hid (H11.out.next hb2)
  have H22 := Lib.hid (H12.out.next hb2)
  have H23 := Lib.hid (H13.out.next hb2)
  clear hb2 p0 p1 p2 p3 H11 H12 H13 HBW1 HC2
  obtain ⟨⟨p0, p1, p2, p3⟩, _, _, _, _⟩ := H21.out.keep
  obtain ⟨⟨q0, q1, q2, q3⟩, _, _, _, _⟩ := H22.out.keep
  have hs1 : w.heap.size < w2.heap.size := H21.out.lt
  have hs2 : w.heap.size + 1 < w2.heap.size := H22.out.lt
  have hl4 : w.heap.size + 1 + 1 < w2.heap.size := H23.out.lt
  obtain ⟨lo, hlo⟩ : ∃ x, x = max a e := ⟨_, rfl⟩
  obtain ⟨hi, hhi⟩ : ∃ x, x = min b f := ⟨_, rfl⟩
  go_wp2_with fail
  rw [← hlo, ← hhi]
  have HN6 := Lib.hid (Bx.new w2 lo hi)
  have HB6 := Lib.hid ((Below.refl w2.heap.size w2).alloc (Nat.le_refl _) (.cells #[.int .i64 lo, .int .i64 hi] 23))
  have H63 := Lib.hid (H23.out.next HB6.out)
  have HBW6 := Lib.hid (HBW2.out.trans (HB6.out.mono HBW2.out.size))
  have hle : lo ≤ hi := by rw [hlo, hhi]; exact HM.out
  clear p0 p1 p2 p3 q0 q1 q2 q3 hlo hhi H21 H22 H23 HB6 HM
  refine (HCM.out _).mono ?_
  rintro _ w3 ⟨A, n, kk, l, rfl, hA, hb3, hpos⟩
  have hn := hpos HCC.out
  have hn1 : ((n : Int) == 0) = false := beq_eq_false_iff_ne.2 (by omega)
  have hn2 : ¬ hi < lo := by omega
  have HA := Lib.hid hA
  have HBW3 := Lib.hid (HBW6.out.trans (hb3.mono HBW6.out.size))
  have H33 := Lib.hid (H63.out.next hb3)
  have HN3 := Lib.hid (HN6.out.next hb3)
  obtain ⟨r0, r1, _, _⟩ := HN3.out.keep
  obtain ⟨⟨t0, t1, t2, t3⟩, f0, f1, f2, f3⟩ := H33.out.keep
  have HX := Lib.hid (show ((w3.cell? ⟨w2.heap.size, 0, none⟩ = some (.int .i64 lo) ∧ w3.cell? ⟨w2.heap.size, 1, none⟩ = some (.int .i64 hi)) ∧ Below w.heap.size w w3) from ⟨⟨r0, r1⟩, HBW3.out⟩)
  have HAR := Lib.hid (around_2 A n kk l w3 HA.out)
  have HAD := Lib.hid (around_2 A n kk l w3.drew (HA.out.below (Below.drew (Below.refl _ _)) (Nat.le_refl _)))
  have h3d := Lib.hid (Below.drew (Below.refl w3.heap.size w3))
  clear hA hb3 hpos HCC HCM HN6 H63 HN3 t0 t1 t2 t3 f0 f1 f2 f3
  go_wp2_with fail
  clear r0 r1
  go_region_held3 (fun w' => ((w'.cell? ⟨w2.heap.size, 0, none⟩ = some (.int .i64 lo) ∧ w'.cell? ⟨w2.heap.size, 1, none⟩ = some (.int .i64 hi)) ∧ Below w.heap.size w w'))
    (first
      | (with_reducible exact HX.out)
      | (with_reducible exact SS.out)
      | (with_reducible exact keepR HX.out (Below.drew (Below.refl _ _)))
      | (with_reducible exact keepRS hl4 SS.out _ _ _ _)
      | (with_reducible exact keepR SS.out (Below.drew (Below.refl _ _)))
      | fail)
    (first
      | (go_at_call 41
         with_reducible refine HAR.out.mono ?_
         rintro e w5 ⟨x5, y5, rfl, hb5⟩
         have SS := Lib.hid (keepR (w1 := w5) (by assumption) hb5)
         have HK5 := Lib.hid (H33.out.next hb5)
         have hk5 := (H33.out.next hb5).keep
         have uk0 := hk5.1.1
         have uk1 := hk5.1.2.1
         have uk2 := hk5.1.2.2.1
         have uk3 := hk5.1.2.2.2
         have uf0 := hk5.2.1
         have uf1 := hk5.2.2.1
         have uf2 := hk5.2.2.2.1
         have uf3 := hk5.2.2.2.2)
      | (go_at_call 41
         with_reducible refine HAD.out.mono ?_
         rintro e w5 ⟨x5, y5, rfl, hb5⟩
         have SS := Lib.hid (keepR (w1 := w5) (by assumption) hb5)
         have HK5 := Lib.hid ((H33.out.next h3d.out).next hb5)
         have hk5 := ((H33.out.next h3d.out).next hb5).keep
         have uk0 := hk5.1.1
         have uk1 := hk5.1.2.1
         have uk2 := hk5.1.2.2.1
         have uk3 := hk5.1.2.2.2
         have uf0 := hk5.2.1
         have uf1 := hk5.2.2.1
         have uf2 := hk5.2.2.2.1
         have uf3 := hk5.2.2.2.2)
      | fail)
  all_goals (
    obtain ⟨⟨g0, g1, g2, g3⟩, _⟩ := (B4.write HK5.out lo hi x5 y5).keep
    have HF := Lib.hid (show MeetPost w (.returned (.tuple #[.agg #[.int .i64 lo, .int .i64 hi, .int .i64 x5, .int .i64 y5], .int .i64 0])) _ from ⟨lo, hi, x5, y5, rfl, (keepRS hl4 SS.out (.int .i64 lo) (.int .i64 hi) (.int .i64 x5) (.int .i64 y5)).2⟩)
    go_wp2
    refine bodyPost_ret (v := .tuple #[.agg #[.int .i64 lo, .int .i64 hi, .int .i64 x5, .int .i64 y5], .int .i64 0]) (by simp [results, Tryz.results12, go_sem, g0, g1, g2, g3]) rfl HF.out)
end
end Go.Proofs.YtfilgpifiboccaaGreat
namespace Go.Proofs.YtfilgpifiboccaaGreat
open Go.RowKit
open Ev (Gives)
noncomputable section
def C6 (w : World) (g : Nat) (a b c d e f : Int) : Prop := w.heap[g]? = some (.cells ⟨[.int .i64 a, .int .i64 b, .int .i64 c, .int .i64 d, .int .i64 e, .int .i64 f]⟩ 25 (0, 0))
theorem C6.lt {w : World} {g : Nat} {a b c d e f : Int} (h : C6 w g a b c d e f) : g < w.heap.size := (Array.getElem?_eq_some_iff.1 h).1
theorem C6.next {w w' : World} {g : Nat} {a b c d e f : Int} (h : C6 w g a b c d e f) (hb : Below w.heap.size w w') : C6 w' g a b c d e f := (hb.block g h.lt).trans h
theorem C6.keep {w : World} {g : Nat} {a b c d e f : Int} (h : C6 w g a b c d e f) : w.cell? ⟨g, 0, none⟩ = some (.int .i64 a) ∧ w.cell? ⟨g, 1, none⟩ = some (.int .i64 b) ∧ w.cell? ⟨g, 2, none⟩ = some (.int .i64 c) ∧ w.cell? ⟨g, 3, none⟩ = some (.int .i64 d) ∧ w.cell? ⟨g, 4, none⟩ = some (.int .i64 e) ∧ w.cell? ⟨g, 5, none⟩ = some (.int .i64 f) := by
  unfold C6 at h
  refine ⟨?_, ?_, ?_, ?_, ?_, ?_⟩ <;> simp [World.cell?, h]
theorem law_boxes (w : World) (a b c d e f p q : Int) : ∃ W, W = (w.alloc (.cells ⟨[.int .i64 a, .int .i64 b, .int .i64 c, .int .i64 d, .int .i64 e, .int .i64 f]⟩ 25)).alloc (.cells ⟨[.int .i64 p, .int .i64 q]⟩ 23) ∧ C6 W w.heap.size a b c d e f ∧ Bx W (w.heap.size + 1) p q ∧ W.heap.size = w.heap.size + 2 ∧ Below w.heap.size w W := by
  have h1 : C6 (w.alloc (.cells ⟨[.int .i64 a, .int .i64 b, .int .i64 c, .int .i64 d, .int .i64 e, .int .i64 f]⟩ 25)) w.heap.size a b c d e f := heap_alloc_new w _
  refine ⟨_, rfl, h1.next ((Below.refl _ _).alloc (Nat.le_refl _) _), ?_, by simp, ((Below.refl _ _).alloc (Nat.le_refl _) _).alloc (by simp) _⟩
  have := Bx.new (w.alloc (.cells ⟨[.int .i64 a, .int .i64 b, .int .i64 c, .int .i64 d, .int .i64 e, .int .i64 f]⟩ 25)) p q
  have z : (w.alloc (.cells ⟨[.int .i64 a, .int .i64 b, .int .i64 c, .int .i64 d, .int .i64 e, .int .i64 f]⟩ 25)).heap.size = w.heap.size + 1 := by simp
  rw [z] at this
  exact this
theorem pval_le {x y z u : Int} (h : pvalM x y z u = true) : x ≤ y := by
  unfold pvalM at h
  rw [vlat_eq] at h
  cases hl : latB x y with
  | true => have := lat_bd hl; omega
  | false => rw [hl] at h; simp at h
set_option maxRecDepth 100000 in
set_option maxHeartbeats 2000000 in
theorem c35on_any (a b c d e f p q : Int) : Gives Tryz.prog 3 [.agg ⟨[.int .i64 a, .int .i64 b, .int .i64 c, .int .i64 d, .int .i64 e, .int .i64 f]⟩, .agg ⟨[.int .i64 p, .int .i64 q]⟩] (.bool true) := fun w => by
  obtain ⟨W, hW, B1, B2, hs, hb⟩ := law_boxes w a b c d e f p q
  have HAW := Lib.hid (at0 awake35_gives W)
  have HCV := Lib.hid (fun w => at1 (rcvM_gives a b c d e f) w)
  have HAV := Lib.hid (fun w => at1 (rvalM_gives p q) w)
  have HB1 := Lib.hid B1
  have HB2 := Lib.hid B2
  have HBW := Lib.hid hb
  clear B1 B2 hb
  go_enter Tryz.func3, Tryz.ntmps3
  go_wp2_with fail
  rw [← hW]
  refine HAW.out.mono ?_
  rintro _ w1 ⟨rfl, hb1⟩
  have HBW1 := Lib.hid (HBW.out.trans (hb1.mono (by omega)))
  have H11 := Lib.hid (HB1.out.next hb1)
  have H12 := Lib.hid (HB2.out.next hb1)
  have HF := Lib.hid (show ∀ W', Below w.heap.size w W' → GP (.bool true) w (.returned (.bool true)) W' from fun W' hb => ⟨rfl, hb⟩)
  clear hb1 HB1 HB2 HBW HAW hW hs
  cases hc : rcvM a b c d e f with
  | false =>
    rw [hc] at HCV
    obtain ⟨p0, p1, p2, p3, p4, p5⟩ := H11.out.keep
    go_wp2_with fail
    refine (HCV.out _).mono ?_
    rintro _ w2 ⟨rfl, hb2⟩
    have HBW2 := Lib.hid (HBW1.out.trans (hb2.mono HBW1.out.size))
    clear hb2 p0 p1 p2 p3 p4 p5
    go_wp2
    go_ret
    exact HF.out _ HBW2.out
  | true =>
    rw [hc] at HCV
    obtain ⟨la, kc, e0, ef, f1⟩ := rcv_bd hc
    obtain ⟨p0, p1, p2, p3, p4, p5⟩ := H11.out.keep
    go_wp2_with fail
    refine (HCV.out _).mono ?_
    rintro _ w2 ⟨rfl, hb2⟩
    have HBW2 := Lib.hid (HBW1.out.trans (hb2.mono HBW1.out.size))
    have H21 := Lib.hid (H11.out.next hb2)
    have H22 := Lib.hid (H12.out.next hb2)
    clear hb2 p0 p1 p2 p3 p4 p5 HCV H11 H12 HBW1
    cases hv : rvalM p q with
    | false =>
      rw [hv] at HAV
      obtain ⟨q0, q1, _, _⟩ := H22.out.keep
      go_wp2_with fail
      refine (HAV.out _).mono ?_
      rintro _ w3 ⟨rfl, hb3⟩
      have HBW3 := Lib.hid (HBW2.out.trans (hb3.mono HBW2.out.size))
      clear hb3 q0 q1
      go_wp2
      go_ret
      exact HF.out _ HBW3.out
    | true =>
      rw [hv] at HAV
      rw [rval_eq] at hv
      obtain ⟨g1, g2, g3, g4, g5, g6⟩ := on_fin la kc e0 ef f1 hv
      obtain ⟨L, R, hx, hLP, hk⟩ := cext_ok la kc e0 ef f1
      have hcom := on_com la kc e0 ef hv hk f1
      have hcat := cat_ok la kc e0 ef f1 hv
      have lb := lat_bd la
      rw [hcat] at g1 g2 g3 g4 g5 g6
      dsimp only at g1 g2 g3 g4 g5 g6
      have HCA := Lib.hid (fun w => at2 (catM_gives a b c d e f p q) w)
      rw [hcat] at HCA
      have kP : LonP (lonL (c + (atB a b e f p q).1) (d + (atB a b e f p q).2.1)) (lonH (c + (atB a b e f p q).1) (d + (atB a b e f p q).2.1)) := lon_P (by
        have vr : avalidB e f = true := avalid_mk (by omega) ef (by omega)
        obtain ⟨_, B1, B2, _⟩ := at_one la vr hv
        have := lonP_bd kc
        omega)
      generalize lonL (c + (atB a b e f p q).1) (d + (atB a b e f p q).2.1) = z3 at *
      generalize lonH (c + (atB a b e f p q).1) (d + (atB a b e f p q).2.1) = z4 at *
      generalize (atA a b e f p q).1 = z1 at *
      generalize (atA a b e f p q).2.1 = z2 at *
      have HPV := Lib.hid (fun w => at1 (pvalM_gives z1 z2 z3 z4) w)
      have HSD := Lib.hid (fun w => at2 (csidM_gives a b c d e f z1 z2 z3 z4) w)
      have HEX := Lib.hid (fun w => at1 (cextM_gives a b c d e f) w)
      have hv2 : pvalM (max (-5400000) (a - f)) (min 5400000 (b + f)) L R = true := pval_mk (by unfold latB avalidB; simp; omega) hLP
      have HPX := Lib.hid (fun w => at1 (pvalM_gives (max (-5400000) (a - f)) (min 5400000 (b + f)) L R) w)
      have hz : z1 ≤ z2 := pval_le g1
      have HME := Lib.hid (fun w => meetP_any g1 hv2 kP hLP (by omega) hcom w)
      rw [g1] at HPV
      rw [hv2] at HPX
      rw [g2] at HSD
      rw [hx] at HEX
      clear hcom hcat hx hk g1 g2 g3 g4 g5 g6 hv2 hz kP hLP lb la kc e0 ef f1 hv hc
      unfold solV at HCA HEX
      unfold twoI at HSD
      generalize max (-5400000) (a - f) = e1 at *
      generalize min 5400000 (b + f) = e2 at *
      obtain ⟨q0, q1, _, _⟩ := H22.out.keep
      go_wp2_with fail
      refine (HAV.out _).mono ?_
      rintro _ w3 ⟨rfl, hb3⟩
      have HBW3 := Lib.hid (HBW2.out.trans (hb3.mono HBW2.out.size))
      have H31 := Lib.hid (H21.out.next hb3)
      have H32 := Lib.hid (H22.out.next hb3)
      clear hb3 q0 q1 H21 H22 HBW2 HAV
      obtain ⟨p0, p1, p2, p3, p4, p5⟩ := H31.out.keep
      obtain ⟨q0, q1, _, _⟩ := H32.out.keep
      go_wp2_with fail
      refine (HCA.out _).mono ?_
      rintro _ w4 ⟨rfl, hb4⟩
      have HN4 := Lib.hid ((Below.refl w4.heap.size w4).alloc (Nat.le_refl _) (.cells #[.int .i64 z1, .int .i64 z2, .int .i64 z3, .int .i64 z4] 30))
      have HC4 := Lib.hid (hb4.trans (HN4.out.mono hb4.size))
      have HBW4 := Lib.hid (HBW3.out.trans (HC4.out.mono HBW3.out.size))
      have H41 := Lib.hid (H31.out.next HC4.out)
      have HP4 := Lib.hid (show B4 (w4.alloc (.cells #[.int .i64 z1, .int .i64 z2, .int .i64 z3, .int .i64 z4] 30)) w4.heap.size z1 z2 z3 z4 from heap_alloc_new w4 _)
      clear hb4 p0 p1 p2 p3 p4 p5 q0 q1 H31 H32 HBW3 HCA HN4 HC4
      obtain ⟨⟨q0, q1, q2, q3⟩, _⟩ := HP4.out.keep
      go_wp2_with fail
      refine (HPV.out _).mono ?_
      rintro _ w5 ⟨rfl, hb5⟩
      have HBW5 := Lib.hid (HBW4.out.trans (hb5.mono HBW4.out.size))
      have H51 := Lib.hid (H41.out.next hb5)
      have HP5 := Lib.hid (HP4.out.next hb5)
      clear hb5 q0 q1 q2 q3 H41 HP4 HBW4 HPV
      obtain ⟨p0, p1, p2, p3, p4, p5⟩ := H51.out.keep
      obtain ⟨⟨q0, q1, q2, q3⟩, _⟩ := HP5.out.keep
      go_wp2_with fail
      refine (HSD.out _).mono ?_
      rintro _ w6 ⟨rfl, hb6⟩
      have HBW6 := Lib.hid (HBW5.out.trans (hb6.mono HBW5.out.size))
      have H61 := Lib.hid (H51.out.next hb6)
      have HP6 := Lib.hid (HP5.out.next hb6)
      clear hb6 p0 p1 p2 p3 p4 p5 q0 q1 q2 q3 H51 HP5 HBW5 HSD
      obtain ⟨p0, p1, p2, p3, p4, p5⟩ := H61.out.keep
      go_wp2_with fail
      refine (HEX.out _).mono ?_
      rintro _ w7 ⟨rfl, hb7⟩
      have HN7 := Lib.hid ((Below.refl w7.heap.size w7).alloc (Nat.le_refl _) (.cells #[.int .i64 e1, .int .i64 e2, .int .i64 L, .int .i64 R] 30))
      have HC7 := Lib.hid (hb7.trans (HN7.out.mono hb7.size))
      have HBW7 := Lib.hid (HBW6.out.trans (HC7.out.mono HBW6.out.size))
      have HP7 := Lib.hid (HP6.out.next HC7.out)
      have HQ7 := Lib.hid (show B4 (w7.alloc (.cells #[.int .i64 e1, .int .i64 e2, .int .i64 L, .int .i64 R] 30)) w7.heap.size e1 e2 L R from heap_alloc_new w7 _)
      clear hb7 p0 p1 p2 p3 p4 p5 H61 HP6 HBW6 HEX HN7 HC7
      obtain ⟨⟨q0, q1, q2, q3⟩, _⟩ := HQ7.out.keep
      go_wp2_with fail
      refine (HPX.out _).mono ?_
      rintro _ w8 ⟨rfl, hb8⟩
      have HBW8 := Lib.hid (HBW7.out.trans (hb8.mono HBW7.out.size))
      have HP8 := Lib.hid (HP7.out.next hb8)
      have HQ8 := Lib.hid (HQ7.out.next hb8)
      clear hb8 q0 q1 q2 q3 HP7 HQ7 HBW7 HPX
      obtain ⟨⟨q0, q1, q2, q3⟩, _⟩ := HQ8.out.keep
      obtain ⟨⟨p0, p1, p2, p3⟩, _⟩ := HP8.out.keep
      go_wp2_with fail
      refine (HME.out _).mono ?_
      rintro _ w9 ⟨x1, x2, x3, x4, rfl, hb9⟩
      have HBW9 := Lib.hid ((HBW8.out.trans (hb9.mono HBW8.out.size)).alloc (Nat.le_trans HBW8.out.size hb9.size) (.cells #[.int .i64 x1, .int .i64 x2, .int .i64 x3, .int .i64 x4] 30))
      clear hb9 p0 p1 p2 p3 q0 q1 q2 q3 HP8 HQ8 HBW8 HME
      go_wp2
      go_ret
      exact HF.out _ HBW9.out
end
end Go.Proofs.YtfilgpifiboccaaGreat

import Derived.Test.YtmlmohcghoelkaaT61
import Derived.Test.YtmlmohcghoelkaaT38
import Derived.Deep.CutRange
import Derived.Deep.CutBlock
namespace Go.Proofs.Ytmlmohcghoelkaa
open Go.RowKit
/-- A part of an interval. -/
def partLo (lo hi l : Int) : Int := lo + l % (hi - lo + 1)
def partHi (lo hi l h : Int) : Int := partLo lo hi l + h % (hi - partLo lo hi l + 1)
theorem part_bd {lo hi l h : Int} (hv : lo ≤ hi) : lo ≤ partLo lo hi l ∧ partLo lo hi l ≤ partHi lo hi l h ∧ partHi lo hi l h ≤ hi := by
  have a := Int.emod_nonneg l (show hi - lo + 1 ≠ 0 by omega)
  have b := Int.emod_lt_of_pos l (show 0 < hi - lo + 1 by omega)
  have e : partLo lo hi l = lo + l % (hi - lo + 1) := rfl
  have c := Int.emod_nonneg h (show hi - partLo lo hi l + 1 ≠ 0 by omega)
  have d := Int.emod_lt_of_pos h (show 0 < hi - partLo lo hi l + 1 by omega)
  have e2 : partHi lo hi l h = partLo lo hi l + h % (hi - partLo lo hi l + 1) := rfl
  omega
theorem Pair.write1 {t : TypeId} {w : World} {b : Nat} {x y : Int} (h : Pair t w b x y) (v : Int) : Pair t (w.setCell ⟨b, 1, none⟩ (.int .i64 v)) b x v := by
  unfold Pair at *
  simp [World.setCell, h, Array.getElem?_modify]
theorem Pair.other1 {t : TypeId} {w : World} {b b' : Nat} {x y : Int} (h : Pair t w b x y) (hb : b ≠ b') (u : Value) : Pair t (w.setCell ⟨b', 1, none⟩ u) b x y := by
  unfold Pair at *
  have hb' : b' ≠ b := fun e => hb e.symm
  simp [World.setCell, h, Array.getElem?_modify, hb']
set_option maxRecDepth 100000 in
set_option maxHeartbeats 2000000 in
theorem cpart_any (lo hi l h : Int) (bl bh : Nat) (hv : lo ≤ hi) (h1 : -2147483648 ≤ lo) (h2 : hi ≤ 2147483648) (l0 : 0 ≤ l) (l1 : l ≤ 4294967295) (h0 : 0 ≤ h) (h3 : h ≤ 4294967295) (w : World)
    (cl : w.cell? ⟨bl, 0, none⟩ = some (.int .u32 l)) (ch : w.cell? ⟨bh, 0, none⟩ = some (.int .u32 h)) :
    Calls Try.prog 22 #[pairV lo hi, .pointer (some ⟨bl, 0, none⟩), .pointer (some ⟨bh, 0, none⟩)] w (GPost (pairV (partLo lo hi l) (partHi lo hi l h)) w) := by
  have pb := part_bd (l := l) (h := h) hv
  have e1 : l.tmod (hi - lo + 1) = partLo lo hi l - lo := by unfold partLo; rw [Int.tmod_eq_emod_of_nonneg l0]; omega
  have e2 : h.tmod (hi - partLo lo hi l + 1) = partHi lo hi l h - partLo lo hi l := by unfold partHi; rw [Int.tmod_eq_emod_of_nonneg h0]; omega
  generalize partHi lo hi l h = q at *
  generalize partLo lo hi l = p at *
  have lbl := World.block_lt_of_cell? w _ cl
  have lbh := World.block_lt_of_cell? w _ ch
  unfold pairV
  go_enter Try.func22, Try.ntmps22
  go_upto_region 2 with fail
  have K1 := Lib.hid (show Pair 23 _ w.heap.size lo hi from blk2_first w (.cells #[.int .i64 lo, .int .i64 hi] 23) (.cells #[.int .i64 0, .int .i64 0] 23))
  have K2 := Lib.hid (show Pair 23 _ (w.heap.size + 1) 0 0 from blk2_second w (.cells #[.int .i64 lo, .int .i64 hi] 23) (.cells #[.int .i64 0, .int .i64 0] 23))
  have HB := Lib.hid (((Below.refl w.heap.size w).alloc (Nat.le_refl _) (.cells #[.int .i64 lo, .int .i64 hi] 23)).alloc (by simp) (.cells #[.int .i64 0, .int .i64 0] 23))
  have HS := Lib.hid (show ((w.alloc (.cells #[.int .i64 lo, .int .i64 hi] 23)).alloc (.cells #[.int .i64 0, .int .i64 0] 23)).heap.size = w.heap.size + 2 by simp)
  generalize (w.alloc (.cells #[.int .i64 lo, .int .i64 hi] 23)).alloc (.cells #[.int .i64 0, .int .i64 0] 23) = W at *
  have KA := Lib.hid (show Pair 23 (W.alloc (.cells #[.int .i64 p, .int .i64 0] 23)).drew W.heap.size p 0 from heap_alloc_new W (.cells #[.int .i64 p, .int .i64 0] 23))
  have KB := Lib.hid (show Pair 23 (W.alloc (.cells #[.int .i64 p, .int .i64 0] 23)).drew w.heap.size lo hi from K1.out.alloc (.cells #[.int .i64 p, .int .i64 0] 23))
  have KC := Lib.hid (show Pair 23 (W.alloc (.cells #[.int .i64 p, .int .i64 0] 23)).drew (w.heap.size + 1) 0 0 from K2.out.alloc (.cells #[.int .i64 p, .int .i64 0] 23))
  have BB := Lib.hid ((HB.out.alloc HB.out.size (.cells #[.int .i64 p, .int .i64 0] 23)).drew)
  have HCH := Lib.hid (show ∀ W3, Below w.heap.size w W3 → W3.cell? ⟨bh, 0, none⟩ = some (.int .u32 h) from fun W3 hb => (hb.cell (p := ⟨bh, 0, none⟩) lbh).trans ch)
  have cl2 : W.cell? ⟨bl, 0, none⟩ = some (.int .u32 l) := (HB.out.cell (p := ⟨bl, 0, none⟩) lbl).trans cl
  clear cl ch
  have m1 : bl < W.heap.size := Nat.lt_of_lt_of_le lbl HB.out.size
  have m3 := K1.out.lt
  have m4 := K2.out.lt
  go_cut [6] from 12 to 20 (fun c wx => c = Value.pointer (some ⟨W.heap.size, 0, none⟩) ∧ RowKit.Hid (Pair 23 wx W.heap.size p 0) ∧ RowKit.Hid (Pair 23 wx w.heap.size lo hi) ∧ RowKit.Hid (Pair 23 wx (w.heap.size + 1) 0 0) ∧ RowKit.Hid (Below w.heap.size w wx))
  case first =>
    obtain ⟨⟨a0, a1⟩, a2, a3⟩ := keep2 K1.out
    obtain ⟨⟨b0, b1⟩, b2, b3⟩ := keep2 K2.out
    have wl : IntKind.i64.wrap l = l := IntWalk.i64_in _ (by omega)
    have wd : IntKind.i64.wrap (hi - lo + 1) = hi - lo + 1 := IntWalk.i64_in _ (by omega)
    have wn : ¬ hi - lo + 1 = 0 := by omega
    have wn2 : ¬ 0 = hi - lo + 1 := by omega
    have wp : IntKind.i64.wrap (p - lo) = p - lo := IntWalk.i64_in _ (by omega)
    have wq : lo + (p - lo) = p := by omega
    have wp2 : IntKind.i64.wrap p = p := IntWalk.i64_in _ (by omega)
    clear e2
    go_region_with fail
    all_goals (
      go_wp2_with fail
      go_meet
      exact ⟨rfl, KA, KB, KC, BB⟩)
  case rest =>
    obtain ⟨rfl, KA, KB, KC, BB⟩ := hcut
    rename World => W3
    clear cl2 m1 m3 m4 e1
    go_upto_region 3 with fail
    have KD := Lib.hid (KA.out.write1 q)
    have KE := Lib.hid (KC.out.other1 (b' := W.heap.size) (by have := K2.out.lt; omega) (.int .i64 q))
    have BF := Lib.hid ((BB.out.setCell (p := ⟨W.heap.size, 1, none⟩) (HB.out.size) (.int .i64 q)))
    have SZ := Lib.hid (show (W3.setCell ⟨W.heap.size, 1, none⟩ (.int .i64 q)).heap.size = W3.heap.size by simp)
    go_cut [21] from 22 to 33 (fun c wx => RowKit.Hid (Pair 23 wx W.heap.size p q) ∧ RowKit.Hid (Pair 23 wx (w.heap.size + 1) 0 0) ∧ RowKit.Hid (Below w.heap.size w wx))
    case first =>
      have ch3 : W3.cell? ⟨bh, 0, none⟩ = some (.int .u32 h) := HCH.out W3 BB.out
      obtain ⟨⟨a0, a1⟩, a2, a3⟩ := keep2 KA.out
      obtain ⟨⟨b0, b1⟩, b2, b3⟩ := keep2 KB.out
      obtain ⟨⟨c0, c1⟩, c2, c3⟩ := keep2 KC.out
      have wp2 : IntKind.i64.wrap p = p := IntWalk.i64_in _ (by omega)
      have wq2 : IntKind.i64.wrap q = q := IntWalk.i64_in _ (by omega)
      have wh : IntKind.i64.wrap h = h := IntWalk.i64_in _ (by omega)
      have vd : IntKind.i64.wrap (hi - p + 1) = hi - p + 1 := IntWalk.i64_in _ (by omega)
      have vd2 : IntKind.i64.wrap (hi - p) = hi - p := IntWalk.i64_in _ (by omega)
      have vn : ¬ hi - p + 1 = 0 := by omega
      have vp : IntKind.i64.wrap (q - p) = q - p := IntWalk.i64_in _ (by omega)
      have vq : p + (q - p) = q := by omega
      have hz := KA.out.lt
      go_region_with fail
      all_goals (
        go_wp2_with fail
        go_meet
        exact ⟨KD, KE, (Lib.hid BF.out.drew)⟩)
    case rest =>
      obtain ⟨KD, KE, BF⟩ := hcut
      rename World => W4
      obtain ⟨⟨a0, a1⟩, a2, a3⟩ := keep2 KD.out
      obtain ⟨⟨c0, c1⟩, c2, c3⟩ := keep2 KE.out
      have hz1 := KD.out.lt
      have hz2 := KE.out.lt
      have KF := KE.out.write p q
      obtain ⟨⟨r0, r1⟩, r2, r3⟩ := keep2 KF
      have BG := Lib.hid ((BF.out.setCell (p := ⟨w.heap.size + 1, 0, none⟩) (by simp) (.int .i64 p)).setCell (p := ⟨w.heap.size + 1, 1, none⟩) (by simp) (.int .i64 q))
      clear KF
      go_wp2
      refine bodyPost_ret (v := pairV p q) (by simp [results, Try.results22, go_sem, pairV, r0, r1]) rfl ⟨rfl, BG.out⟩
end Go.Proofs.Ytmlmohcghoelkaa

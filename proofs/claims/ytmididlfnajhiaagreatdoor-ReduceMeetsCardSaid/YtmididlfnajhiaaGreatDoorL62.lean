/-
  ReduceMeets answers true.
-/
import Derived.Test.YtmididlfnajhiaaGreatDoorG30
namespace Go.Proofs.YtmididlfnajhiaaGreatDoor
open Go.RowKit
open Ev (Glob Gives)
theorem at1' {P : Program} {g : FuncId} {a V : Value} (h : Gives P g [a] V) {w : World} (hg : Glob w) : Calls P g #[a] w (GP V w) := h w hg
theorem eqSol (a b : Sol) (w : World) : (Op.equalIn 10000 28 (.agg #[.int .i64 a.1, .int .i64 a.2.1, .int .i64 a.2.2.1, .int .i64 a.2.2.2]) (.agg #[.int .i64 b.1, .int .i64 b.2.1, .int .i64 b.2.2.1, .int .i64 b.2.2.2])).run Tryz.prog w = .ok (eqS a b) w := by
  have := fitSol.2 [.int .i64 a.1, .int .i64 a.2.1, .int .i64 a.2.2.1, .int .i64 a.2.2.2] [.int .i64 b.1, .int .i64 b.2.1, .int .i64 b.2.2.1, .int .i64 b.2.2.2] (eqS a b) rfl rfl (by unfold eqS; simp [Ev.eqInts]) w
  exact this
set_option maxHeartbeats 2000000 in
theorem meets_no {a b c d e f : Int} (hv : triB a b c d e f = false) (w : World) (hg : Glob w) : Calls Tryz.prog 7 #[triP a b c d e f] w (GP (.bool true) w) := by
  have HG := Lib.hid hg
  have HB0 := Lib.hid ((Below.refl w.heap.size w).alloc (Nat.le_refl _) (.cells ⟨[.int .i64 a, .int .i64 b, .int .i64 c, .int .i64 d, .int .i64 e, .int .i64 f]⟩ 25))
  have HK0 := Lib.hid (show Tk (w.alloc (.cells ⟨[.int .i64 a, .int .i64 b, .int .i64 c, .int .i64 d, .int .i64 e, .int .i64 f]⟩ 25)) w.heap.size a b c d e f from heap_alloc_new w _)
  have HAW := Lib.hid (at0 awake30_gives (hg.below HB0.out))
  have HAL := Lib.hid (fun w (hg : Glob w) => all_none hv w hg)
  have HBE := Lib.hid (best_gives a b c d e f)
  rw [show bestR a b c d e f = (0, 0, 0, 0, 1) by unfold bestR; rw [hv]; rfl] at HBE
  clear hg hv
  unfold triP at HAL HBE ⊢
  go_enter Tryz.func7, Tryz.ntmps7
  go_wp2_with fail
  refine HAW.out.mono ?_
  rintro e w1 ⟨rfl, hb1⟩
  have HB1 := Lib.hid (HB0.out.trans (hb1.mono (by simp)))
  have HK1 := Lib.hid (HK0.out.below hb1 (by simp))
  obtain ⟨p0, p1, p2, p3, p4, p5⟩ := HK1.out.keep
  have HA := Lib.hid (HAL.out w1 (HG.out.below HB1.out))
  clear hb1 HAW
  go_wp2_with fail
  refine HA.out.mono ?_
  rintro e w2 ⟨rfl, hb2⟩
  have HB2 := Lib.hid (HB1.out.trans (hb2.mono HB1.out.size))
  clear p0 p1 p2 p3 p4 p5
  obtain ⟨p0, p1, p2, p3, p4, p5⟩ := (HK1.out.below hb2 HK1.out.lt).keep
  have HB := Lib.hid (at1' HBE.out (HG.out.below HB2.out))
  clear hb2 HA
  go_wp2_with fail
  refine HB.out.mono ?_
  rintro e w3 ⟨rfl, hb3⟩
  have HF := Lib.hid (show GP (.bool true) w (.returned (.bool true)) (w3.alloc (.cells #[.int .i64 0, .int .i64 0, .int .i64 0, .int .i64 0] 28)) from ⟨rfl, (HB2.out.trans (hb3.mono HB2.out.size)).alloc (Nat.le_trans HB2.out.size hb3.size) _⟩)
  clear hb3 HB p0 p1 p2 p3 p4 p5
  unfold solV
  go_wp2
  go_ret
  exact HF.out
set_option maxRecDepth 100000 in
set_option maxHeartbeats 4000000 in
theorem meets_yes {a b c d e f : Int} (hv : triB a b c d e f = true) (w : World) (hg : Glob w) : Calls Tryz.prog 7 #[triP a b c d e f] w (GP (.bool true) w) := by
  obtain ⟨t1, t2, t3⟩ := tri_point hv
  obtain ⟨h, z, hs⟩ := sees (a : Rat) (c : Rat) (e : Rat)
  have hgood := all_good hv t1 t2 t3 hs
  obtain ⟨q, hq, gq, hin⟩ := best_good hv t1 t2 t3 hs
  have HBY := Lib.hid (fun m h1 h5 => by_good hv t1 t2 t3 hs m h1 h5)
  have HG := Lib.hid hg
  have HGD := Lib.hid hgood.2
  have hn4 := hgood.1
  have hn5 := allL_len a b c d e f
  have HGQ := Lib.hid gq
  have HIN := Lib.hid hin
  have HB0 := Lib.hid ((Below.refl w.heap.size w).alloc (Nat.le_refl _) (.cells ⟨[.int .i64 a, .int .i64 b, .int .i64 c, .int .i64 d, .int .i64 e, .int .i64 f]⟩ 25))
  have HK0 := Lib.hid (show Tk (w.alloc (.cells ⟨[.int .i64 a, .int .i64 b, .int .i64 c, .int .i64 d, .int .i64 e, .int .i64 f]⟩ 25)) w.heap.size a b c d e f from heap_alloc_new w _)
  have HAW := Lib.hid (at0 awake30_gives (hg.below HB0.out))
  have HAL := Lib.hid (fun w (hg : Glob w) => all_gives hv w hg)
  have HBE := Lib.hid (best_gives a b c d e f)
  have HM := Lib.hid (fun m h1 h5 => byM_gives m a b c d e f h1 h5)
  have HMEM := Lib.hid (fun m h1 h5 q hq => by_mem (a := a) (b := b) (c := c) (d := d) (e := e) (f := f) m h1 h5 (q := q) hq)
  rw [hq] at HBE
  obtain ⟨q1, q2, q3, q4⟩ := q
  clear hg hgood hq gq hin t1 t2 t3 hs
  generalize allL a b c d e f = l at *
  obtain ⟨n, hn⟩ : ∃ n, l.length = n := ⟨_, rfl⟩
  rw [hn] at hn4 hn5
  have HN := Lib.hid hn
  clear hn
  unfold triP at HAL HBE HM ⊢
  go_enter Tryz.func7, Tryz.ntmps7
  go_wp2_with fail
  refine HAW.out.mono ?_
  rintro e w1 ⟨rfl, hb1⟩
  have HB1 := Lib.hid (HB0.out.trans (hb1.mono (by simp)))
  have HK1 := Lib.hid (HK0.out.below hb1 (by simp))
  obtain ⟨p0, p1, p2, p3, p4, p5⟩ := HK1.out.keep
  have HA := Lib.hid (HAL.out w1 (HG.out.below HB1.out))
  clear hb1 HAW
  go_wp2_with fail
  refine HA.out.mono ?_
  rintro e w2 ⟨A, cp, rfl, hown, hb2⟩
  rw [HN.out] at hown
  rw [HN.out]
  have HB2 := Lib.hid (HB1.out.trans (hb2.mono HB1.out.size))
  have HK2 := Lib.hid (HK1.out.below hb2 HK1.out.lt)
  have HS2 := Lib.hid (sols_of hown (by omega))
  clear p0 p1 p2 p3 p4 p5 hown
  obtain ⟨p0, p1, p2, p3, p4, p5⟩ := HK2.out.keep
  have HB := Lib.hid (at1' HBE.out (HG.out.below HB2.out))
  clear hb2 HA
  go_wp2_with fail
  refine HB.out.mono ?_
  rintro e w3 ⟨rfl, hb3⟩
  have hs3 := hb3.size
  have HB3 := Lib.hid ((HB2.out.trans (hb3.mono HB2.out.size)).alloc (Nat.le_trans HB2.out.size hb3.size) (.cells #[.int .i64 q1, .int .i64 q2, .int .i64 q3, .int .i64 q4] 28))
  have HK3 := Lib.hid (HK2.out.below (hb3.alloc (by omega) (.cells #[.int .i64 q1, .int .i64 q2, .int .i64 q3, .int .i64 q4] 28)) HK2.out.lt)
  have HS3 := Lib.hid (HS2.out.below (hb3.alloc (by omega) (.cells #[.int .i64 q1, .int .i64 q2, .int .i64 q3, .int .i64 q4] 28)) (Nat.le_refl _))
  have HQ3 := Lib.hid (Bk.new w3 (q1, q2, q3, q4))
  dsimp only at HQ3
  clear hb3 HB p0 p1 p2 p3 p4 p5
  unfold solV
  have g1 : ¬ (n : Int) < 4 := by omega
  go_wp2_with fail
  generalize hWW : (w3.alloc (.cells #[.int .i64 q1, .int .i64 q2, .int .i64 q3, .int .i64 q4] 28)) = W at *
  have hWs : W.heap.size = w3.heap.size + 1 := by rw [← hWW]; simp
  clear hWW
  go_loopw [50] (fun v wr => ∃ k : Nat, k ≤ n ∧ v = .int .i64 (k : Int) ∧ Below W.heap.size W wr) (fun v _ => n - (intOf v).toNat)
  case atStart => exact ⟨0, by omega, rfl, Below.refl _ _⟩
  case round =>
    obtain ⟨k, hk, rfl, hbel⟩ := hrel
    have HBr := Lib.hid hbel
    have hsr := hbel.size
    by_cases hlt : k < n
    · obtain ⟨b1, off, x1, x2, x3, x4, rfl, hb1, hy, d0, d1, d2, d3⟩ := HS3.out.at_ hlt hbel
      have hx := HGD.out _ (getD_mem (l := l) (k := k) (by rw [HN.out]; exact hlt))
      have hi := HIN.out _ (getD_mem (l := l) (k := k) (by rw [HN.out]; exact hlt))
      rw [hy] at hx hi
      have HX := Lib.hid hx
      have bx := sval_bd hx.val
      have bq := sval_bd HGQ.out.val
      have hins : insideB q1 q2 x1 x2 = true := by
        have v1 := bq.1
        have v2 := bx.1
        dsimp only at v1 v2 hi
        unfold insideB
        rw [v1, v2]
        simp
        omega
      have HB4 := Lib.hid (HBr.out.alloc hsr (.cells #[.int .i64 x1, .int .i64 x2, .int .i64 x3, .int .i64 x4] 28))
      have HX4 := Lib.hid (Bk.new wr (x1, x2, x3, x4))
      have HCI := Lib.hid (at2 (insideB_gives q1 q2 x1 x2) (HG.out.below (HB3.out.trans (HB4.out.mono HB3.out.size))))
      rw [hins] at HCI
      obtain ⟨⟨r0, r1, r2, r3⟩, _, _, _, _⟩ := (HQ3.out.below HBr.out (by omega)).keep
      dsimp only at HX4 r0 r1 r2 r3
      have hql : w3.heap.size < wr.heap.size := by omega
      clear hy hx hi bx bq hins hbel
      go_wp2_with fail
      refine HCI.out.mono ?_
      rintro e w4 ⟨rfl, hb4⟩
      have HB5 := Lib.hid (HB4.out.trans (hb4.mono (Nat.le_trans hsr (by simp))))
      have HX5 := Lib.hid ((show Bk (wr.alloc (.cells #[.int .i64 x1, .int .i64 x2, .int .i64 x3, .int .i64 x4] 28)) wr.heap.size (x1, x2, x3, x4) from HX4.out).next hb4)
      have hs4 := hb4.size
      simp at hs4
      clear hb4 HCI d0 d1 d2 d3 r0 r1 r2 r3
      have hW4 : W.heap.size ≤ w4.heap.size := HB5.out.size
      obtain ⟨wo, hwo⟩ : ∃ x, x = wr := ⟨_, rfl⟩
      subst hwo
      go_wp2_with fail
      go_loopw [62] (fun v wy => ∃ j : Nat, j ≤ n ∧ v = .int .i64 (j : Int) ∧ Below w4.heap.size w4 wy) (fun v _ => n - (intOf v).toNat)
      case atStart => exact ⟨0, by omega, rfl, Below.refl _ _⟩
      case round =>
        obtain ⟨j, hj, rfl, hbel⟩ := hrel
        have HBy := Lib.hid hbel
        have hsy := hbel.size
        have HX6 := Lib.hid (HX5.out.next hbel)
        have hB6 := HB5.out.trans (hbel.mono hW4)
        have HB6 := Lib.hid hB6
        by_cases hlj : j < n
        · obtain ⟨b2, off2, y1, y2, y3, y4, hbo, hb2, hy, d0, d1, d2, d3⟩ := HS3.out.at_ hlj hB6
          injection hbo with hbo
          injection hbo with hbo1 hbo2
          subst hbo1 hbo2
          have hy' := HGD.out _ (getD_mem (l := l) (k := j) (by rw [HN.out]; exact hlj))
          rw [hy] at hy'
          have ag := gd_agree HX.out hy'
          dsimp only at ag
          have HA8 := Lib.hid (hB6.alloc (Nat.le_trans hW4 hsy) (.cells #[.int .i64 y1, .int .i64 y2, .int .i64 y3, .int .i64 y4] 28))
          have HX8 := Lib.hid (HX6.out.next ((Below.refl _ _).alloc (Nat.le_refl _) (.cells #[.int .i64 y1, .int .i64 y2, .int .i64 y3, .int .i64 y4] 28)))
          have HY8 := Lib.hid (Bk.new wr (y1, y2, y3, y4))
          have HCA := Lib.hid (at2 (agreeR_gives x3 x4 y3 y4) (HG.out.below (HB3.out.trans (HA8.out.mono HB3.out.size))))
          rw [ag.1] at HCA
          have hmz := ag.2
          obtain ⟨m1, m2, m3, hm⟩ : ∃ m1 m2 m3, ameetR x1 x2 y1 y2 = (m1, m2, m3) := ⟨_, _, _, rfl⟩
          rw [hm] at hmz
          dsimp only at hmz
          subst hmz
          have HMT := Lib.hid (show ∀ w, Glob w → Calls Tryz.prog 28 #[.agg #[.int .i64 x1, .int .i64 x2], .agg #[.int .i64 y1, .int .i64 y2]] w (GP (.tuple #[.agg #[.int .i64 m1, .int .i64 m2], .int .i64 0]) w) from fun w hg => by
            have := at2 (ameetR_gives x1 x2 y1 y2) hg
            rw [hm] at this
            exact this)
          obtain ⟨⟨p0, p1, p2, p3⟩, _, _, _, _⟩ := HX6.out.keep
          dsimp only at p0 p1 p2 p3
          have hxl := HX6.out.lt
          clear hy hy' ag hm hbel hB6
          unfold boolV at HCA
          go_wp2_with fail
          refine HCA.out.mono ?_
          rintro e w5 ⟨rfl, hb5⟩
          have hs5 := hb5.size
          simp at hs5
          have HB7 := Lib.hid (HA8.out.trans (hb5.mono HA8.out.size))
          obtain ⟨⟨q0, q1', q2', q3'⟩, _, _, _, _⟩ := (HX8.out.next hb5).keep
          obtain ⟨⟨y0', y1', y2', y3'⟩, _, _, _, _⟩ := (show Bk (wr.alloc (.cells #[.int .i64 y1, .int .i64 y2, .int .i64 y3, .int .i64 y4] 28)) wr.heap.size (y1, y2, y3, y4) from HY8.out).next hb5 |>.keep
          dsimp only at q0 q1' q2' q3' y0' y1' y2' y3'
          have HM6 := Lib.hid (HMT.out w5 (HG.out.below (HB3.out.trans (HB7.out.mono HB3.out.size))))
          have HX7 := Lib.hid (HX8.out.next hb5)
          have HBZ := Lib.hid ((HBy.out.alloc hsy (.cells #[.int .i64 y1, .int .i64 y2, .int .i64 y3, .int .i64 y4] 28)).trans (hb5.mono (Nat.le_trans hsy (by simp))))
          clear hb5 HCA p0 p1 p2 p3 d0 d1 d2 d3
          go_wp2_with fail
          refine HM6.out.mono ?_
          rintro e w6 ⟨rfl, hb6⟩
          have HST := Lib.hid (show Below w4.heap.size w4 (w6.alloc (.cells #[.int .i64 m1, .int .i64 m2] 23)) from (HBZ.out.trans (hb6.mono HBZ.out.size)).alloc (Nat.le_trans HBZ.out.size hb6.size) _)
          clear hb6 q0 q1' q2' q3' y0' y1' y2' y3' HM6
          go_wp2
          go_roundw
          case rel => exact ⟨j + 1, by omega, by go_num, HST.out⟩
          case measure => simp [intOf]; omega
        · have hjn : j = n := by omega
          subst hjn
          have ag := (gd_agree HX.out HGQ.out).1
          dsimp only at ag
          have HCA := Lib.hid (at2 (agreeR_gives x3 x4 q3 q4) (HG.out.below (HB3.out.trans (HB6.out.mono HB3.out.size))))
          rw [ag] at HCA
          obtain ⟨⟨p0, p1, p2, p3⟩, _, _, _, _⟩ := HX6.out.keep
          obtain ⟨⟨r0, r1, r2, r3⟩, _, _, _, _⟩ := (HQ3.out.below HB6.out (by omega)).keep
          dsimp only at p0 p1 p2 p3 r0 r1 r2 r3
          clear ag hbel hB6
          unfold boolV at HCA
          go_wp2_with fail
          refine HCA.out.mono ?_
          rintro e w5 ⟨rfl, hb5⟩
          have HST := Lib.hid (HB6.out.trans (hb5.mono HB6.out.size))
          clear hb5 HCA p0 p1 p2 p3 r0 r1 r2 r3
          go_wp2
          go_roundw
          case rel => exact ⟨k + 1, by omega, by go_num, HST.out⟩
          case measure => simp [intOf]; omega
    · have hkn : k = n := by omega
      subst hkn
      clear hbel
      have HBw := Lib.hid (HB3.out.trans (HBr.out.mono HB3.out.size))
      go_wp2_with fail
      refine (meth_any wr).mono ?_
      rintro e w4 ⟨g, rfl, hg1, hm, hb4⟩
      have HB4 := Lib.hid (HBr.out.trans (hb4.mono hsr))
      have hs4 := hb4.size
      have hg2 : g < w4.heap.size := (Array.getElem?_eq_some_iff.1 hm).1
      have HMt := Lib.hid hm
      obtain ⟨wo, hwo⟩ : ∃ x, x = wr := ⟨_, rfl⟩
      subst hwo
      clear hb4 hm
      go_wp2_with fail
      go_loopw [110] (fun v wy => ∃ i : Nat, i ≤ 5 ∧ v = .int .i64 (i : Int) ∧ Below w4.heap.size w4 wy) (fun v _ => 5 - (intOf v).toNat)
      case atStart => exact ⟨0, by omega, rfl, Below.refl _ _⟩
      case round =>
        obtain ⟨i, hi, rfl, hbel⟩ := hrel
        have HBy := Lib.hid hbel
        have hsy := hbel.size
        have hB6 := HB4.out.trans (hbel.mono (Nat.le_trans hsr hs4))
        have HB6 := Lib.hid hB6
        by_cases hli : i < 5
        · have c0 := meth_at ((hbel.block g hg2).trans HMt.out) i hli
          obtain ⟨t0, t1, t2, t3, t4, t5⟩ := (HK3.out.below HB6.out (Nat.lt_of_lt_of_le HK3.out.lt (Nat.le_refl _))).keep
          have HBD := Lib.hid (HB3.out.trans (HB6.out.mono HB3.out.size))
          have HC := Lib.hid (at2 (HM.out ((i : Int) + 1) (by omega) (by omega)) (HG.out.below HBD.out))
          have hby := HBY.out ((i : Int) + 1) (by omega) (by omega)
          have hme := HMEM.out ((i : Int) + 1) (by omega) (by omega)
          obtain ⟨x1, x2, x3, x4, xe, hx⟩ : ∃ x1 x2 x3 x4 xe, byM ((i : Int) + 1) a b c d e f = (x1, x2, x3, x4, xe) := ⟨_, _, _, _, _, rfl⟩
          rw [hx] at HC hby hme
          dsimp only at hby
          have HXE := Lib.hid hby.2.2
          have HME := Lib.hid hme
          clear hbel hB6 hby hx hme
          unfold solV at HC
          go_wp2_with fail
          refine HC.out.mono ?_
          rintro e w5 ⟨rfl, hb5⟩
          have hs5 := hb5.size
          have HB7 := Lib.hid (HB6.out.trans (hb5.mono HB6.out.size))
          have HBz := Lib.hid ((HBy.out.trans (hb5.mono hsy)).alloc (Nat.le_trans hsy hs5) (.cells #[.int .i64 x1, .int .i64 x2, .int .i64 x3, .int .i64 x4] 28))
          clear hb5 HC t0 t1 t2 t3 t4 t5 c0
          rcases HXE.out with hxe | hxe
          · subst hxe
            have hmem := HME.out (x1, x2, x3, x4) rfl
            have HS7 := Lib.hid ((HS3.out.below HB7.out (Nat.le_refl _)).below ((Below.refl _ _).alloc (Nat.le_refl _) (.cells #[.int .i64 x1, .int .i64 x2, .int .i64 x3, .int .i64 x4] 28)) (Nat.le_refl _))
            have HCC := Lib.hid (conS_any eqSol A k cp l x1 x2 x3 x4 _ HS7.out)
            rw [show (l.any fun s => eqS (x1, x2, x3, x4) s) = true from List.any_eq_true.2 ⟨_, hmem, (eqS_iff _ _).2 rfl⟩] at HCC
            clear hmem
            go_wp2_with fail
            refine HCC.out.mono ?_
            rintro e w6 ⟨rfl, hb6⟩
            have HST := Lib.hid (HBz.out.trans (hb6.mono HBz.out.size))
            clear hb6 HCC
            go_wp2
            go_roundw
            case rel => exact ⟨i + 1, by omega, by go_num, HST.out⟩
            case measure => simp [intOf]; omega
          · subst hxe
            go_wp2
            go_roundw
            case rel => exact ⟨i + 1, by omega, by go_num, HBz.out⟩
            case measure => simp [intOf]; omega
        · have HF := Lib.hid (show GP (.bool true) w (.returned (.bool true)) wr from ⟨rfl, HB3.out.trans (HB6.out.mono HB3.out.size)⟩)
          clear hbel hB6
          go_wp2
          go_ret
          exact HF.out
theorem rmeets_any (a b c d e f : Int) (w : World) (hg : Glob w) : Calls Tryz.prog 7 #[triP a b c d e f] w (GP (.bool true) w) := by
  cases h : triB a b c d e f with
  | true => exact meets_yes h w hg
  | false => exact meets_no h w hg
theorem re62_any (a b c d e f : Int) : Gives Tryz.prog 7 [.agg ⟨[.int .i64 a, .int .i64 b, .int .i64 c, .int .i64 d, .int .i64 e, .int .i64 f]⟩] (.bool true) := fun w hg => rmeets_any a b c d e f w hg
end Go.Proofs.YtmididlfnajhiaaGreatDoor

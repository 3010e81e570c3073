/-
  ReduceOrder: the walk.
-/
import Derived.Test.YtmididlfnajhiaaGreatDoorQ30
import Derived.Test.YtmididlfnajhiaaGreatDoorE30
namespace Go.Proofs.YtmididlfnajhiaaGreatDoor
open Go.RowKit
open Ev (Glob Gives)
theorem two_sl (w : World) (o : Obj) (u v : Value) : ((w.alloc o).alloc (.cells #[u, v] 35)).cell? ⟨w.heap.size + 1, 0, none⟩ = some u ∧ ((w.alloc o).alloc (.cells #[u, v] 35)).cell? ⟨w.heap.size + 1, 1, none⟩ = some v := by
  have h := heap_alloc_new (w.alloc o) (.cells #[u, v] 35)
  rw [show (w.alloc o).heap.size = w.heap.size + 1 by simp] at h
  exact ⟨cell_of_row _ _ _ _ _ _ h, cell_of_row _ _ _ _ _ _ h⟩
theorem eqArc (a b : Int) (w : World) : (Op.equalIn 10000 23 (.agg #[.int .i64 a, .int .i64 b]) (.agg #[.int .i64 a, .int .i64 b])).run Tryz.prog w = .ok true w :=
  fitArc.2 [.int .i64 a, .int .i64 b] [.int .i64 a, .int .i64 b] true rfl rfl (by simp [Ev.eqInts]) w
theorem keepI {w W w1 : World} {q b o1 o2 : Nat} {x1 x2 s1 s2 u1 u2 : Value}
    (h : (w.cell? ⟨q, 0, none⟩ = some x1 ∧ w.cell? ⟨q, 1, none⟩ = some x2 ∧ w.cell? ⟨b, o1, none⟩ = some s1 ∧ w.cell? ⟨b, o1 + 1, none⟩ = some s2 ∧ w.cell? ⟨b, o2, none⟩ = some u1 ∧ w.cell? ⟨b, o2 + 1, none⟩ = some u2) ∧ Below W.heap.size W w) (hb : Below w.heap.size w w1) :
    (w1.cell? ⟨q, 0, none⟩ = some x1 ∧ w1.cell? ⟨q, 1, none⟩ = some x2 ∧ w1.cell? ⟨b, o1, none⟩ = some s1 ∧ w1.cell? ⟨b, o1 + 1, none⟩ = some s2 ∧ w1.cell? ⟨b, o2, none⟩ = some u1 ∧ w1.cell? ⟨b, o2 + 1, none⟩ = some u2) ∧ Below W.heap.size W w1 := by
  obtain ⟨⟨h0, h1, h2, h3, h4, h5⟩, hB⟩ := h
  have k : ∀ p u, w.cell? p = some u → w1.cell? p = some u := fun p u e => (hb.cell (World.block_lt_of_cell? w _ e)).trans e
  exact ⟨⟨k _ _ h0, k _ _ h1, k _ _ h2, k _ _ h3, k _ _ h4, k _ _ h5⟩, hB.trans (hb.mono hB.size)⟩
set_option maxRecDepth 100000 in
set_option maxHeartbeats 4000000 in
theorem order_any (A : Option Addr) (n c : Nat) (l : List Sol) (w : World) (hg : Glob w) (h : Sols w A n l) (hc : n ≤ c) (hc' : c ≤ 9223372036854775807) :
    Calls Tryz.prog 9 #[.slice A n c] w (GP (.bool true) w) := by
  have HG := Lib.hid hg
  have HL := Lib.hid h.len
  have hle := h.le
  have HS := Lib.hid h
  have HAW := Lib.hid (at0 awake30_gives hg)
  have HF := Lib.hid (show ∀ w', Below w.heap.size w w' → GP (.bool true) w (.returned (.bool true)) w' from fun w' hb => ⟨rfl, hb⟩)
  clear hg h
  go_enter Tryz.func9, Tryz.ntmps9
  go_wp2_with fail
  refine HAW.out.mono ?_
  rintro e w1 ⟨rfl, hb1⟩
  have HB1 := Lib.hid hb1
  clear hb1 HAW
  by_cases q0 : n = 0
  · subst q0
    go_wp2
    go_ret
    exact HF.out _ HB1.out
  by_cases q1 : 20 < n
  · have g1 : (20 : Int) < (n : Int) := by omega
    have g2 : ((n : Int) == 0) = false := beq_eq_false_iff_ne.2 (by omega)
    clear q1 q0
    go_wp2
    go_ret
    exact HF.out _ HB1.out
  have g1 : ¬ (20 : Int) < (n : Int) := by omega
  have g2 : ((n : Int) == 0) = false := beq_eq_false_iff_ne.2 (by omega)
  have hn0 : 0 < n := by omega
  have hn20 : n ≤ 20 := by omega
  clear q0 q1
  obtain ⟨s, r, rfl⟩ : ∃ s r, l = s :: r := by
    have hl := HL.out
    cases l with
    | nil => simp at hl; omega
    | cons s r => exact ⟨s, r, rfl⟩
  obtain ⟨b, off, rfl, hbl, hcells⟩ := HS.out.cells hn0
  obtain ⟨d0, d1, d2, d3⟩ := hcells 0 hn0
  have HBL := Lib.hid hbl
  have HCE := Lib.hid hcells
  clear hcells hbl
  have HM := Lib.hid (fun A' n' l' w1 (hg1 : Glob w1) (h1 : Sols w1 A' n' l') (hn1 : n' ≤ c) => meet_gives A' n' c l' w1 hg1 h1 hn1 hc')
  have HM1 := Lib.hid (HM.out _ 1 [s] w1 (HG.out.below HB1.out) (HS.out.below HB1.out (Nat.le_refl _)).one (by omega))
  obtain ⟨s1, s2, s3, s4⟩ := s
  have HD := Lib.hid (show ∀ w', Below w.heap.size w w' → w'.cell? ⟨b, off, none⟩ = some (.int .i64 s1) ∧ w'.cell? ⟨b, off + 1, none⟩ = some (.int .i64 s2) ∧ w'.cell? ⟨b, off + 2, none⟩ = some (.int .i64 s3) ∧ w'.cell? ⟨b, off + 3, none⟩ = some (.int .i64 s4) from fun w' hb => by
    have k : ∀ o, w'.cell? ⟨b, o, none⟩ = w.cell? ⟨b, o, none⟩ := fun o => hb.cell (p := ⟨b, o, none⟩) HBL.out
    have := HCE.out 0 (by omega)
    rw [k, k, k, k]
    simpa using this)
  clear d0 d1 d2 d3
  rcases meetR_one (s1, s2, s3, s4) with hm | hm
  · rw [hm] at HM1
    clear hm
    unfold solV at HM1
    go_wp2_with fail
    refine HM1.out.mono ?_
    rintro e w2 ⟨rfl, hb2⟩
    have HB2 := Lib.hid ((HB1.out.trans (hb2.mono HB1.out.size)).alloc (Nat.le_trans HB1.out.size hb2.size) (.cells #[.int .i64 0, .int .i64 0, .int .i64 0, .int .i64 0] 28))
    clear hb2 HM1
    go_wp2
    go_ret
    exact HF.out _ HB2.out
  have hex := fun w => eqSol (s1, s2, s3, s4) (s1, s2, s3, s4) w
  rw [(eqS_iff _ _).2 rfl] at hex
  rw [hm] at HM1
  clear hm
  unfold solV at HM1
  dsimp only at HM1 hex
  go_wp2_with fail
  refine HM1.out.mono ?_
  rintro e w2 ⟨rfl, hb2⟩
  have HB2 := Lib.hid ((HB1.out.trans (hb2.mono HB1.out.size)).alloc (Nat.le_trans HB1.out.size hb2.size) (.cells #[.int .i64 s1, .int .i64 s2, .int .i64 s3, .int .i64 s4] 28))
  have HK2 := Lib.hid (Bk.new w2 (s1, s2, s3, s4))
  obtain ⟨⟨r0, r1, r2, r3⟩, _, _, _, _⟩ := HK2.out.keep
  have hlt := HK2.out.lt
  obtain ⟨d0, d1, d2, d3⟩ := HD.out _ HB2.out
  dsimp only at r0 r1 r2 r3 d0 d1 d2 d3
  clear hb2 HM1
  go_wp2_with fail
  go_region_with fail
  all_goals (
    obtain ⟨W3, hW3, hB3⟩ : ∃ W, W = (w2.alloc (Obj.cells #[Value.int IntKind.i64 s1, Value.int IntKind.i64 s2, Value.int IntKind.i64 s3, Value.int IntKind.i64 s4] 28)).drew ∧ Below w.heap.size w W := ⟨_, rfl, HB2.out.drew⟩
    rw [← hW3]
    clear hW3 r0 r1 r2 r3 d0 d1 d2 d3 HK2 hlt HB2
    have HB3 := Lib.hid hB3
    clear hB3
    have HM3 := Lib.hid (HM.out _ n _ W3 (HG.out.below HB3.out) (HS.out.below HB3.out (Nat.le_refl _)) hc)
    rcases meetR_ans ((s1, s2, s3, s4) :: r) with ⟨er, her, hm⟩ | ⟨x, hm, hext, hvx, hall⟩
    · rw [hm] at HM3
      clear hm
      have heq := fun w => eqSol (0, 0, 0, 0) (0, 0, 0, 0) w
      have hes : eqS (0, 0, 0, 0) (0, 0, 0, 0) = true := rfl
      rw [hes] at heq
      dsimp only at heq
      unfold solV at HM3
      go_wp2_with fail
      refine HM3.out.mono ?_
      rintro e w4 ⟨rfl, hb4⟩
      have HB4 := Lib.hid ((HB3.out.trans (hb4.mono HB3.out.size)).alloc (Nat.le_trans HB3.out.size hb4.size) (.cells #[.int .i64 0, .int .i64 0, .int .i64 0, .int .i64 0] 28))
      have g3 : (er == 0) = false := beq_eq_false_iff_ne.2 her
      obtain ⟨⟨r0, r1, r2, r3⟩, _, _, _, _⟩ := (Bk.new w4 (0, 0, 0, 0)).keep
      have hlt := (Bk.new w4 (0, 0, 0, 0)).lt
      dsimp only at r0 r1 r2 r3
      clear hb4 HM3
      go_wp2
      go_ret
      exact HF.out _ HB4.out
    obtain ⟨x1, x2, x3, x4⟩ := x
    have HX := Lib.hid hext
    have HV := Lib.hid hall
    have HXV := Lib.hid hvx
    clear hext hall hvx
    rw [hm] at HM3
    clear hm
    unfold solV at HM3
    dsimp only at HM3
    go_wp2_with fail
    refine HM3.out.mono ?_
    rintro e w4 ⟨rfl, hb4⟩
    have HB4 := Lib.hid ((HB3.out.trans (hb4.mono HB3.out.size)).alloc (Nat.le_trans HB3.out.size hb4.size) (.cells #[.int .i64 x1, .int .i64 x2, .int .i64 x3, .int .i64 x4] 28))
    have HK4 := Lib.hid (Bk.new w4 (x1, x2, x3, x4))
    clear hb4 HM3
    have hlen := HL.out
    have HC4 := Lib.hid (clone_any (some ⟨b, off, none⟩) n c _ _ (HS.out.below HB4.out (Nat.le_refl _)) hn0 (by omega))
    go_wp2_with fail
    refine HC4.out.mono ?_
    rintro e w5 ⟨A2, c2, rfl, hown, hb5⟩
    rw [hlen] at hown ⊢
    obtain ⟨g, rfl, hgb, hc2, hc2m, hrw⟩ := Rw.of_own hown hlen hn0
    have hlt4 := HK4.out.lt
    have HBG := Lib.hid (Nat.le_trans HB4.out.size hgb)
    have HKG := Lib.hid (Nat.lt_of_lt_of_le hlt4 hgb)
    have HB5 := Lib.hid (HB4.out.trans (hb5.mono HB4.out.size))
    have HK5 := Lib.hid (HK4.out.next hb5)
    have HR5 := Lib.hid (reverse_any g c2 n _ w5 hrw hn0 (by omega) hc2)
    clear hb5 hown hrw HC4 hgb hlen hlt4
    go_wp2_with fail
    refine HR5.out.mono ?_
    rintro e w6 ⟨⟨v6, rfl⟩, hrw6, hb6, hz6⟩
    have HB6 := Lib.hid (HB5.out.trans (hb6.mono HBG.out))
    have HK6 := Lib.hid (HK5.out.below hb6 HKG.out)
    have HM6 := Lib.hid (meet_gives _ n c2 _ w6 (HG.out.below HB6.out) (hrw6.sols (by omega)) hc2 (Nat.le_trans hc2m (by decide)))
    clear hrw6 hb6 hz6 HR5 HBG HKG HB5 HK5 HB4 HK4
    obtain ⟨y1, y2, y3, y4, e1, hm, HY⟩ : ∃ y1 y2 y3 y4 e1, meetR ((s1, s2, s3, s4) :: r).reverse = (y1, y2, y3, y4, e1) ∧ RowKit.Hid (e1 = 0 → y1 = x1 ∧ y2 = x2) := by
      rcases meetR_ans ((s1, s2, s3, s4) :: r).reverse with ⟨er, her, hm⟩ | ⟨y, hm, hext, -, -⟩
      · exact ⟨0, 0, 0, 0, er, hm, Lib.hid (fun h => absurd h her)⟩
      · exact ⟨_, _, _, _, _, hm, Lib.hid (fun _ => hext.same HX.out (fun s => by rw [List.mem_reverse]))⟩
    rw [hm] at HM6
    clear hm
    unfold solV at HM6
    dsimp only at HM6
    go_wp2_with fail
    refine HM6.out.mono ?_
    rintro e w7 ⟨rfl, hb7⟩
    have HB7 := Lib.hid ((HB6.out.trans (hb7.mono HB6.out.size)).alloc (Nat.le_trans HB6.out.size hb7.size) (.cells #[.int .i64 y1, .int .i64 y2, .int .i64 y3, .int .i64 y4] 28))
    have HY7 := Lib.hid (Bk.new w7 (y1, y2, y3, y4))
    have HK7 := Lib.hid (HK6.out.next (hb7.alloc hb7.size (.cells #[.int .i64 y1, .int .i64 y2, .int .i64 y3, .int .i64 y4] 28)))
    clear hb7 HM6 HK6 HB6
    have HB8 := Lib.hid (HB7.out.alloc HB7.out.size (.cells #[.slice (some ⟨b, off, none⟩) n c, .slice (some ⟨b, off, none⟩) 1 c] 35))
    have HC8 := Lib.hid (concat_any (w7.heap.size + 1) 2 (some ⟨b, off, none⟩) n c ((s1, s2, s3, s4) :: r) (some ⟨b, off, none⟩) 1 c [(s1, s2, s3, s4)] _ ⟨(two_sl w7 _ _ _).1, (two_sl w7 _ _ _).2, HS.out.below HB8.out (Nat.le_refl _), (HS.out.below HB8.out (Nat.le_refl _)).one⟩ (by omega) (by omega) (by omega))
    go_wp2_with fail
    refine HC8.out.mono ?_
    rintro e w9 ⟨A3, c3, rfl, hown, hb9⟩
    have hlen : (((s1, s2, s3, s4) :: r) ++ [(s1, s2, s3, s4)]).length = n + 1 := by rw [List.length_append, HL.out]; rfl
    rw [hlen] at hown ⊢
    obtain ⟨g', rfl, hgb, hc3, hc3m, hrw⟩ := Rw.of_own hown hlen (by omega)
    have HB9 := Lib.hid (HB8.out.trans (hb9.mono HB8.out.size))
    have h79 := (Below.alloc (Below.refl _ _) (Nat.le_refl _) (.cells #[.slice (some ⟨b, off, none⟩) n c, .slice (some ⟨b, off, none⟩) 1 c] 35)).trans (hb9.mono (Below.alloc (Below.refl _ _) (Nat.le_refl _) _).size)
    have HK9 := Lib.hid (HK7.out.next h79)
    have HY9 := Lib.hid (HY7.out.next h79)
    have HM9 := Lib.hid (meet_gives _ (n + 1) c3 _ w9 (HG.out.below HB9.out) (hrw.sols (by omega)) hc3 (Nat.le_trans hc3m (by decide)))
    clear hb9 hown hrw HC8 hgb hlen h79 HB8 HB7 HK7 HY7
    obtain ⟨z1, z2, z3, z4, e2, hm, HZ⟩ : ∃ z1 z2 z3 z4 e2, meetR (((s1, s2, s3, s4) :: r) ++ [(s1, s2, s3, s4)]) = (z1, z2, z3, z4, e2) ∧ RowKit.Hid (e2 = 0 → z1 = x1 ∧ z2 = x2) := by
      rcases meetR_ans (((s1, s2, s3, s4) :: r) ++ [(s1, s2, s3, s4)]) with ⟨er, her, hm⟩ | ⟨z, hm, hext, -, -⟩
      · exact ⟨0, 0, 0, 0, er, hm, Lib.hid (fun h => absurd h her)⟩
      · exact ⟨_, _, _, _, _, hm, Lib.hid (fun _ => hext.same HX.out (fun s => ⟨fun h => (List.mem_append.1 h).elim id (fun h => List.mem_cons.2 (Or.inl (List.mem_singleton.1 h))), fun h => List.mem_append.2 (Or.inl h)⟩))⟩
    rw [hm] at HM9
    clear hm
    unfold solV at HM9
    dsimp only at HM9
    go_wp2_with fail
    refine HM9.out.mono ?_
    rintro e w10 ⟨rfl, hb10⟩
    have hal := hb10.alloc hb10.size (.cells #[.int .i64 z1, .int .i64 z2, .int .i64 z3, .int .i64 z4] 28)
    have HB10 := Lib.hid (HB9.out.trans (hal.mono HB9.out.size))
    have HZ10 := Lib.hid (Bk.new w10 (z1, z2, z3, z4))
    have HK10 := Lib.hid (HK9.out.next hal)
    have HY10 := Lib.hid (HY9.out.next hal)
    clear hb10 hal HM9 HK9 HY9 HB9
    obtain ⟨⟨p0, p1, p2, p3⟩, -⟩ := HK10.out.keep
    obtain ⟨⟨i0, i1, i2, i3⟩, -⟩ := HY10.out.keep
    obtain ⟨⟨j0, j1, j2, j3⟩, -⟩ := HZ10.out.keep
    have lk := HK10.out.lt
    have ly := HY10.out.lt
    have lz := HZ10.out.lt
    dsimp only at p0 p1 p2 p3 i0 i1 i2 i3 j0 j1 j2 j3
    have hea := fun w => eqArc x1 x2 w
    have G1 : (e1 = 0 ∧ x1 = y1 ∧ x2 = y2) ∨ (e1 == 0) = false := by
      by_cases q : e1 = 0
      · exact Or.inl ⟨q, (HY.out q).1.symm, (HY.out q).2.symm⟩
      · exact Or.inr (beq_eq_false_iff_ne.2 q)
    have G2 : (e2 = 0 ∧ x1 = z1 ∧ x2 = z2) ∨ (e2 == 0) = false := by
      by_cases q : e2 = 0
      · exact Or.inl ⟨q, (HZ.out q).1.symm, (HZ.out q).2.symm⟩
      · exact Or.inr (beq_eq_false_iff_ne.2 q)
    have HE10 := Lib.hid (show ∃ W, W = (w10.alloc (Obj.cells #[Value.int IntKind.i64 z1, Value.int IntKind.i64 z2, Value.int IntKind.i64 z3, Value.int IntKind.i64 z4] 28)) ∧ Below w.heap.size w W ∧ W.cell? ⟨w4.heap.size, 0, none⟩ = some (.int .i64 x1) ∧ W.cell? ⟨w4.heap.size, 1, none⟩ = some (.int .i64 x2) from ⟨_, rfl, HB10.out, p0, p1⟩)
    clear HY HZ HK10 HY10 HZ10
    rcases G1 with ⟨rfl, rfl, rfl⟩ | g5 <;> rcases G2 with ⟨rfl, rfl, rfl⟩ | g6
    all_goals (
      go_wp2_with fail
      obtain ⟨m, rfl⟩ : ∃ m, n = m + 1 := ⟨n - 1, by omega⟩
      obtain ⟨u1, u2, u3, u4, hu⟩ : ∃ u1 u2 u3 u4, ((s1, s2, s3, s4) :: r).getD m nos = (u1, u2, u3, u4) := ⟨_, _, _, _, rfl⟩
      have hum : (u1, u2, u3, u4) ∈ (s1, s2, s3, s4) :: r := hu ▸ getD_mem (by rw [HL.out]; omega)
      have hce := HCE.out m (by omega)
      rw [hu] at hce
      have HT1 := Lib.hid (ext_inside HX.out HV.out (s := (s1, s2, s3, s4)) (by simp) HXV.out)
      have HT2 := Lib.hid (ext_inside HX.out HV.out hum HXV.out)
      obtain ⟨W, hW, hBW, hp0, hp1⟩ := HE10.out
      rw [← hW]
      obtain ⟨d0, d1, -, -⟩ := HD.out W hBW
      have k : ∀ o, W.cell? ⟨b, o, none⟩ = w.cell? ⟨b, o, none⟩ := fun o => hBW.cell (p := ⟨b, o, none⟩) HBL.out
      have e0 := (k _).trans hce.1
      have e1' := (k _).trans hce.2.1
      have hBW' := hBW.size
      have HI1 := Lib.hid (show ∀ W', Below W.heap.size W W' → Calls Tryz.prog 29 #[.agg #[.int .i64 x1, .int .i64 x2], .agg #[.int .i64 s1, .int .i64 s2]] W' (GP (.bool true) W') from fun W' hb => HT1.out ▸ at2 (insideB_gives x1 x2 s1 s2) (HG.out.below (hBW.trans (hb.mono hBW'))))
      have HI2 := Lib.hid (show ∀ W', Below W.heap.size W W' → Calls Tryz.prog 29 #[.agg #[.int .i64 x1, .int .i64 x2], .agg #[.int .i64 u1, .int .i64 u2]] W' (GP (.bool true) W') from fun W' hb => HT2.out ▸ at2 (insideB_gives x1 x2 u1 u2) (HG.out.below (hBW.trans (hb.mono hBW'))))
      have HFW := Lib.hid (show ∀ W', Below W.heap.size W W' → GP (.bool true) w (.returned (.bool true)) W' from fun W' hb => HF.out W' (hBW.trans (hb.mono hBW')))
      have HS0 := Lib.hid (show (W.cell? ⟨w4.heap.size, 0, none⟩ = some (.int .i64 x1) ∧ W.cell? ⟨w4.heap.size, 1, none⟩ = some (.int .i64 x2) ∧ W.cell? ⟨b, off, none⟩ = some (.int .i64 s1) ∧ W.cell? ⟨b, off + 1, none⟩ = some (.int .i64 s2) ∧ W.cell? ⟨b, off + m * 4, none⟩ = some (.int .i64 u1) ∧ W.cell? ⟨b, off + m * 4 + 1, none⟩ = some (.int .i64 u2)) ∧ Below W.heap.size W W from ⟨⟨hp0, hp1, d0, d1, e0, e1'⟩, Below.refl _ _⟩)
      have h0m : (0 : Int) ≤ (m : Int) := by omega
      have hmi : (m : Int) < (m : Int) + 1 := by omega
      have hmn : m < m + 1 := by omega
      have hm19 : (m : Int) ≤ 19 := by omega
      have hwr0 : IntKind.i64.wrap (m : Int) = (m : Int) := i64w (by omega)
      have hwr : IntKind.i64.wrap ((m : Int) + 1 - 1) = (m : Int) := by rw [i64w (by omega)]; omega
      clear hW k hce HE10 HT1 HT2 hum hu HX HV HXV HD hBW p0 p1 p2 p3 i0 i1 i2 i3 j0 j1 j2 j3 lk ly lz hea hex
      go_region_held3 (fun w' => (w'.cell? ⟨w4.heap.size, 0, none⟩ = some (.int .i64 x1) ∧ w'.cell? ⟨w4.heap.size, 1, none⟩ = some (.int .i64 x2) ∧ w'.cell? ⟨b, off, none⟩ = some (.int .i64 s1) ∧ w'.cell? ⟨b, off + 1, none⟩ = some (.int .i64 s2) ∧ w'.cell? ⟨b, off + m * 4, none⟩ = some (.int .i64 u1) ∧ w'.cell? ⟨b, off + m * 4 + 1, none⟩ = some (.int .i64 u2)) ∧ Below W.heap.size W w')
        (first
          | (with_reducible exact HS0.out)
          | (with_reducible exact SS.out)
          | (with_reducible exact keepI HS0.out (Below.drew (Below.refl _ _)))
          | fail)
        (first
          | (go_at_call 29
             first
               | (with_reducible refine (HI1.out _ (And.right (by assumption))).mono ?_)
               | (with_reducible refine (HI2.out _ (And.right (by assumption))).mono ?_)
             rintro e w11 ⟨rfl, hb11⟩
             have SS := Lib.hid (keepI (w1 := w11) (by assumption) hb11))
          | fail)
      all_goals (
        go_wp2
        go_ret
        first
          | exact HFW.out _ SS.out.2
          | exact HFW.out _ (Below.drew SS.out.2))))
end Go.Proofs.YtmididlfnajhiaaGreatDoor

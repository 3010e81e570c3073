/-
  ReduceCommon answers true.
-/
import Derived.Test.YtmididlfnajhiaaGreatDoorR30
import Derived.Test.YtmididlfnajhiaaGreatDoorE30
namespace Go.Proofs.YtmididlfnajhiaaGreatDoor
open Go.RowKit
open Ev (Glob Gives)
set_option maxHeartbeats 400000 in
theorem index_21 {vS : Sol → Bool} (hv : ∀ a b c d : Int, Gives Tryz.prog 21 [.agg #[.int .i64 a, .int .i64 b, .int .i64 c, .int .i64 d]] (.bool (!vS (a, b, c, d))))
    (A : Option Addr) (n c : Nat) (l : List Sol) (w : World) (hg : Glob w) (h : Sols w A n l) :
    Calls Tryz.prog 53 #[.slice A n c, .func (.func 21) #[] #[]] w (IdxPost vS l w) := by
  have hn := h.le
  have HS := Lib.hid h
  have HL := Lib.hid h.len
  have HV := Lib.hid hv
  have HG := Lib.hid hg
  clear h hv hg
  go_enter Tryz.func53, Tryz.ntmps53
  go_wp2
  go_loopw [8] (fun i wr => ∃ k : Nat, k ≤ n ∧ i = .int .i64 k ∧ (∀ j, j < k → vS (l.getD j nos) = true) ∧ Below w.heap.size w wr) (fun i _ => n - (intOf i).toNat)
  case atStart => exact ⟨0, Nat.zero_le _, rfl, fun j hj => absurd hj (by omega), Below.refl _ _⟩
  case round =>
    obtain ⟨k, hk, rfl, hno, hbel⟩ := hrel
    have HN := Lib.hid hno
    have HB := Lib.hid hbel
    clear hno
    by_cases hlt : k < n
    · obtain ⟨b, off, a1, a2, a3, a4, rfl, hb, hy, d0, d1, d2, d3⟩ := HS.out.at_ hlt hbel
      have HY := Lib.hid hy
      clear hbel hy
      go_wp2_with fail
      refine (at1 (HV.out a1 a2 a3 a4) (HG.out.below HB.out)).mono ?_
      rintro e w1 ⟨rfl, hb1⟩
      have HB1 := Lib.hid (HB.out.trans (hb1.mono HB.out.size))
      clear hb1
      cases hs : vS (a1, a2, a3, a4) with
      | false =>
        have HF := Lib.hid (show IdxPost vS l w (.returned (.int .i64 (k : Int))) w1 from ⟨⟨k, rfl, by
          rw [decide_eq_true (by omega)]
          exact (List.any_eq_true.2 ⟨_, getD_mem (l := l) (k := k) (by rw [HL.out]; exact hlt), by rw [HY.out, hs]; rfl⟩).symm, by omega, by omega⟩, HB1.out⟩)
        clear hs
        go_wp2
        go_ret
        exact HF.out
      | true =>
        have HST := Lib.hid (show ∀ j, j < k + 1 → vS (l.getD j nos) = true from fun j hj => by
          by_cases e : j = k
          · rw [e, HY.out]; exact hs
          · exact HN.out j (by omega))
        clear hs
        go_wp2
        go_roundw
        case rel => exact ⟨k + 1, by omega, by go_num, HST.out, HB1.out⟩
        case measure => simp [intOf]; omega
    · have hno : l.any (fun s => !vS s) = false := by
        rw [List.any_eq_false]
        intro x hx
        obtain ⟨i, hi, he⟩ := List.getElem_of_mem hx
        have := HN.out i (by have := HL.out; omega)
        rw [List.getD_eq_getElem?_getD, List.getElem?_eq_getElem hi] at this
        simp only [Option.getD_some, he] at this
        rw [this]; simp
      have HF := Lib.hid (show IdxPost vS l w (.returned (.int .i64 (-1 : Int))) wr from ⟨⟨-1, rfl, by rw [hno]; rfl, by omega, by omega⟩, hbel⟩)
      clear hno hbel
      go_wp2
      go_ret
      exact HF.out
theorem contains_21 {vS : Sol → Bool} (hv : ∀ a b c d : Int, Gives Tryz.prog 21 [.agg #[.int .i64 a, .int .i64 b, .int .i64 c, .int .i64 d]] (.bool (!vS (a, b, c, d))))
    (A : Option Addr) (n c : Nat) (l : List Sol) (w : World) (hg : Glob w) (h : Sols w A n l) :
    Calls Tryz.prog 20 #[.slice A n c, .func (.func 21) #[] #[]] w fun e w' => e = .returned (.bool (l.any fun s => !vS s)) ∧ Below w.heap.size w w' := by
  have HI := Lib.hid (index_21 hv A n c l w hg h)
  clear h hv hg
  go_enter Tryz.func20, Tryz.ntmps20
  go_wp2_with fail
  refine HI.out.mono ?_
  rintro e w' ⟨⟨r, rfl, hr, _, _⟩, hb⟩
  have HR := Lib.hid hr
  have HB := Lib.hid hb
  clear hr hb
  go_wp2
  go_ret
  rw [← HR.out]
  exact ⟨rfl, HB.out⟩

theorem form_val {s : Sol} (h : svalB s = true) : (s.2.2.1 = 0 ∧ s.2.2.2 = 21600000) ∨ (0 ≤ s.2.2.1 ∧ s.2.2.1 < 21600000 ∧ s.2.2.1 ≤ s.2.2.2 ∧ s.2.2.2 - s.2.2.1 < 21600000) := by
  have b := sval_bd h
  have v := aval_bd b.2.1
  unfold svalB at h
  simp only [Bool.and_eq_true, Bool.or_eq_true, beq_iff_eq, decide_eq_true_eq] at h
  omega
theorem dirs_form {a b c d : Int} (fa : (a = 0 ∧ b = 21600000) ∨ (0 ≤ a ∧ a < 21600000 ∧ a ≤ b ∧ b - a < 21600000)) (fc : (c = 0 ∧ d = 21600000) ∨ (0 ≤ c ∧ c < 21600000 ∧ c ≤ d ∧ d - c < 21600000)) (h0 : (dirsR a b c d).2.2 = 0) :
    (((dirsR a b c d).1 = 0 ∧ (dirsR a b c d).2.1 = 21600000) ∨ (0 ≤ (dirsR a b c d).1 ∧ (dirsR a b c d).1 < 21600000 ∧ (dirsR a b c d).1 ≤ (dirsR a b c d).2.1 ∧ (dirsR a b c d).2.1 - (dirsR a b c d).1 < 21600000)) := by
  unfold dirsR at *
  by_cases h1 : a = 0 ∧ b = 21600000
  · rw [if_pos h1] at *; exact fc
  rw [if_neg h1] at *
  by_cases h2 : c = 0 ∧ d = 21600000
  · rw [if_pos h2] at *; exact fa
  rw [if_neg h2] at *
  have fa' := fa.resolve_left h1
  have fc' := fc.resolve_left h2
  cases hL : dirL a b c d 3 with
  | nil => rw [hL] at h0; cases h0
  | cons p L =>
    cases L with
    | nil =>
      have hp : p ∈ dirL a b c d 3 := by rw [hL]; simp
      unfold dirL at hp
      rw [List.mem_filterMap] at hp
      obtain ⟨k, hk, hp⟩ := hp
      unfold dirP at hp
      split at hp
      · cases hp
      · cases hp
        rename_i hle
        have m1 : a ≤ mx a (c + k) ∧ mn b (d + k) ≤ b ∧ mx a (c + k) ≤ mn b (d + k) := by
          refine ⟨?_, ?_, by omega⟩
          · unfold mx; split <;> omega
          · unfold mn; split <;> omega
        generalize mx a (c + k) = X at *
        generalize mn b (d + k) = Y at *
        simp only [dirF]
        unfold turnR
        rw [if_pos (avm (by omega) (by omega) (by omega))]
        dsimp only
        unfold turnL turnH
        rw [if_neg (by omega), if_neg (by omega)]
        have m0 := Int.emod_nonneg X (show (21600000 : Int) ≠ 0 by omega)
        have m2 := Int.emod_lt_of_pos X (show (0 : Int) < 21600000 by omega)
        omega
    | cons q L =>
      simp only [dirF]
      split
      · exact .inr fc'
      · exact .inr fa'
theorem meetO_sval {o s x : Sol} (ho : svalB o = true) (hs : svalB s = true) (hx : meetO o s = some x) : svalB x = true := by
  have bo := sval_bd ho
  have bs := sval_bd hs
  have vo := aval_bd bo.1
  have vs := aval_bd bs.1
  unfold meetO at hx
  split at hx
  · rename_i hh
    cases hx
    have f := dirs_form (form_val ho) (form_val hs) hh.2
    have ha := hh.1
    unfold ameetR at ha
    rw [if_pos ⟨bo.1, bs.1⟩] at ha
    have e : ameetR o.1 o.2.1 s.1 s.2.1 = (mx o.1 s.1, mn o.2.1 s.2.1, 0) := by
      unfold ameetR
      rw [if_pos ⟨bo.1, bs.1⟩]
      split
      · rename_i hgt; rw [if_pos hgt] at ha; cases ha
      · rfl
    have hle : mx o.1 s.1 ≤ mn o.2.1 s.2.1 := by
      by_cases h : mx o.1 s.1 > mn o.2.1 s.2.1
      · rw [if_pos h] at ha; cases ha
      · omega
    have hb : o.1 ≤ mx o.1 s.1 ∧ mn o.2.1 s.2.1 ≤ o.2.1 := by unfold mx mn; constructor <;> split <;> omega
    unfold svalB
    rw [e]
    dsimp only
    rw [avm (by omega) hle (by omega), avm (by omega) (by omega) (by omega)]
    simp only [Bool.true_and, Bool.or_eq_true, Bool.and_eq_true, beq_iff_eq, decide_eq_true_eq]
    omega
  · cases hx
theorem rmeetO_eq {o s : Sol} (ho : svalB o = true) (hs : svalB s = true) : rmeetO rcomM o s = meetO o s := by
  have bo := sval_bd ho
  have bs := sval_bd hs
  have hc := rcom_eq (form_val ho) (form_val hs)
  unfold rmeetO meetO
  have e : ameetR o.1 o.2.1 s.1 s.2.1 = if mx o.1 s.1 > mn o.2.1 s.2.1 then (0, 0, 23) else (mx o.1 s.1, mn o.2.1 s.2.1, 0) := by
    unfold ameetR
    rw [if_pos ⟨bo.1, bs.1⟩]
  rw [hc, e]
  by_cases h1 : (dirsR o.2.2.1 o.2.2.2 s.2.2.1 s.2.2.2).2.2 = 0
  · rw [if_pos h1]
    by_cases h2 : mx o.1 s.1 > mn o.2.1 s.2.1
    · rw [if_pos h2, if_neg (by simp [h2]), if_neg (by simp)]
    · rw [if_neg h2, if_pos ⟨rfl, h2⟩, if_pos ⟨rfl, h1⟩]
  · rw [if_neg h1, if_neg (by simp), if_neg (fun h => h1 h.2)]
theorem rmeetF_eq : ∀ (l : List Sol) (o : Sol), svalB o = true → (∀ s ∈ l, svalB s = true) → rmeetF rcomM o l = meetF o l
  | [], _, _, _ => rfl
  | s :: l, o, ho, hl => by
    simp only [rmeetF, meetF]
    rw [rmeetO_eq ho (hl s (by simp))]
    cases hx : meetO o s with
    | none => rfl
    | some x => exact rmeetF_eq l x (meetO_sval ho (hl s (by simp)) hx) (fun t ht => hl t (by simp [ht]))
set_option maxRecDepth 100000 in
set_option maxHeartbeats 4000000 in
theorem common_any (A : Option Addr) (n c : Nat) (l : List Sol) (w : World) (hg : Glob w) (h : Sols w A n l) (hc : n ≤ c) (hc' : c ≤ 9223372036854775807) :
    Calls Tryz.prog 5 #[.slice A n c] w (GP (.bool true) w) := by
  have HG := Lib.hid hg
  have HL := Lib.hid h.len
  have hle := h.le
  have HS := Lib.hid h
  have HAW := Lib.hid (at0 awake30_gives hg)
  have HM := Lib.hid (fun w1 (hb : Below w.heap.size w w1) => meet_gives A n c l w1 (hg.below hb) (h.below hb (Nat.le_refl _)) hc hc')
  have HCO := Lib.hid (fun w1 (hb : Below w.heap.size w w1) => contains_21 rsn_gives A n c l w1 (hg.below hb) (h.below hb (Nat.le_refl _)))
  have heq := fun w => eqSol (0, 0, 0, 0) (0, 0, 0, 0) w
  have hes : eqS (0, 0, 0, 0) (0, 0, 0, 0) = true := rfl
  rw [hes] at heq
  dsimp only at heq
  clear hg h hes
  have HF := Lib.hid (show ∀ w', Below w.heap.size w w' → GP (.bool true) w (.returned (.bool true)) w' from fun w' hb => ⟨rfl, hb⟩)
  go_enter Tryz.func5, Tryz.ntmps5
  go_wp2_with fail
  refine HAW.out.mono ?_
  rintro e w1 ⟨rfl, hb1⟩
  have HB1 := Lib.hid hb1
  clear hb1 HAW
  by_cases q1 : 20 < n ∧ n ≤ 1000
  · have g1 : (20 : Int) < (n : Int) := by omega
    have g2 : (n : Int) ≤ 1000 := by omega
    clear q1
    go_wp2
    go_ret
    exact HF.out _ HB1.out
  by_cases q2 : 1005 < n
  · have g1 : (20 : Int) < (n : Int) := by omega
    have g2 : ¬ (n : Int) ≤ 1000 := by omega
    have g3 : (1005 : Int) < (n : Int) := by omega
    clear q1 q2
    go_wp2
    go_ret
    exact HF.out _ HB1.out
  have HM1 := Lib.hid (HM.out w1 HB1.out)
  by_cases q3 : n = 0 ∨ 1000 < n
  · have hm : meetR l = (0, 0, 0, 0, if n = 0 then 14 else 4) := by
      have := HL.out
      rcases q3 with q3 | q3
      · have e : l = [] := List.eq_nil_of_length_eq_zero (by omega)
        rw [e, if_pos q3]; rfl
      · cases l with
        | nil => simp at this; omega
        | cons s r => rw [meetR_many (by omega), if_neg (by omega)]
    rw [hm] at HM1
    clear hm
    unfold solV at HM1
    rcases q3 with q3 | q3
    · subst q3
      rw [if_pos rfl] at HM1
      clear q1 q2
      go_wp2_with fail
      refine HM1.out.mono ?_
      rintro e w2 ⟨rfl, hb2⟩
      have HB2 := Lib.hid ((HB1.out.trans (hb2.mono HB1.out.size)).alloc (Nat.le_trans HB1.out.size hb2.size) (.cells #[.int .i64 0, .int .i64 0, .int .i64 0, .int .i64 0] 28))
      clear hb2 HM1
      go_wp2
      go_ret
      exact HF.out _ HB2.out
    · rw [if_neg (by omega)] at HM1
      have g1 : (20 : Int) < (n : Int) := by omega
      have g2 : ¬ (n : Int) ≤ 1000 := by omega
      have g3 : ¬ (1005 : Int) < (n : Int) := by omega
      have g4 : ((n : Int) == 0) = false := beq_eq_false_iff_ne.2 (by omega)
      have g5 : (1000 : Int) < (n : Int) := by omega
      clear q1 q2
      go_wp2_with fail
      refine HM1.out.mono ?_
      rintro e w2 ⟨rfl, hb2⟩
      have HB2 := Lib.hid ((HB1.out.trans (hb2.mono HB1.out.size)).alloc (Nat.le_trans HB1.out.size hb2.size) (.cells #[.int .i64 0, .int .i64 0, .int .i64 0, .int .i64 0] 28))
      clear hb2 HM1
      go_wp2
      go_ret
      exact HF.out _ HB2.out
  have g1 : ¬ (20 : Int) < (n : Int) := by omega
  have g3 : ¬ (1005 : Int) < (n : Int) := by omega
  have g4 : ((n : Int) == 0) = false := beq_eq_false_iff_ne.2 (by omega)
  have g5 : ¬ (1000 : Int) < (n : Int) := by omega
  have hn0 : 0 < n := by omega
  have hn20 : n ≤ 20 := by omega
  clear q1 q2 q3
  cases hA : l.any (fun s => !svalB s) with
  | true =>
    have hm : meetR l = (0, 0, 0, 0, 1) := by
      have := HL.out
      cases l with
      | nil => simp at this; omega
      | cons s r => rw [meetR_bad (by omega) hA]
    rw [hm] at HM1
    rw [hA] at HCO
    clear hm hA
    unfold solV at HM1
    go_wp2_with fail
    refine HM1.out.mono ?_
    rintro e w2 ⟨rfl, hb2⟩
    have hs2 := hb2.size
    have HB2 := Lib.hid ((HB1.out.trans (hb2.mono HB1.out.size)).alloc (Nat.le_trans HB1.out.size hb2.size) (.cells #[.int .i64 0, .int .i64 0, .int .i64 0, .int .i64 0] 28))
    have HK2 := Lib.hid (Bk.new w2 (0, 0, 0, 0))
    have HC2 := Lib.hid (HCO.out _ HB2.out)
    clear hb2 HM1
    go_wp2_with fail
    refine HC2.out.mono ?_
    rintro e w3 ⟨rfl, hb3⟩
    have HB3 := Lib.hid (HB2.out.trans (hb3.mono HB2.out.size))
    obtain ⟨⟨r0, r1, r2, r3⟩, _, _, _, _⟩ := (show Bk (w2.alloc (.cells #[.int .i64 0, .int .i64 0, .int .i64 0, .int .i64 0] 28)) w2.heap.size (0, 0, 0, 0) from HK2.out).next hb3 |>.keep
    dsimp only at r0 r1 r2 r3
    clear hb3 HC2
    go_wp2
    go_ret
    exact HF.out _ HB3.out
  | false =>
    have hv : ∀ s ∈ l, svalB s = true := fun s hs => by
      rw [List.any_eq_false] at hA
      have := hA s hs
      simpa using this
    have hl := HL.out
    have HMR := Lib.hid (show meetR l = match meetF (l.getD 0 nos) (l.drop 1) with
      | none => (0, 0, 0, 0, 23)
      | some x => (x.1, x.2.1, x.2.2.1, x.2.2.2, 0) by
      cases l with
      | nil => simp at hl; omega
      | cons s r => rw [meetR_ok (by omega) hA]; rfl)
    have HRM := Lib.hid (fun w1 (hb : Below w.heap.size w w1) => rmeet_any rcomM_gives A n c l w1 (HG.out.below hb) (HS.out.below hb (Nat.le_refl _)) hn0 (by omega))
    rw [rmeetF_eq (l.drop 1) (l.getD 0 nos) (hv _ (getD_mem (by omega))) (fun s hs => hv s (List.mem_of_mem_drop hs))] at HRM
    rw [HMR.out] at HM1
    rw [hA] at HCO
    clear hv hA HMR hl
    generalize meetF (l.getD 0 nos) (l.drop 1) = m at *
    cases m with
    | none =>
      unfold rmV at HRM
      dsimp only at HM1
      unfold solV at HM1
      go_wp2_with fail
      refine HM1.out.mono ?_
      rintro e w2 ⟨rfl, hb2⟩
      have HB2 := Lib.hid ((HB1.out.trans (hb2.mono HB1.out.size)).alloc (Nat.le_trans HB1.out.size hb2.size) (.cells #[.int .i64 0, .int .i64 0, .int .i64 0, .int .i64 0] 28))
      have HK2 := Lib.hid (Bk.new w2 (0, 0, 0, 0))
      have HC2 := Lib.hid (HCO.out _ HB2.out)
      clear hb2 HM1
      go_wp2_with fail
      refine HC2.out.mono ?_
      rintro e w3 ⟨rfl, hb3⟩
      have HB3 := Lib.hid (HB2.out.trans (hb3.mono HB2.out.size))
      have HK3 := Lib.hid ((show Bk (w2.alloc (.cells #[.int .i64 0, .int .i64 0, .int .i64 0, .int .i64 0] 28)) w2.heap.size (0, 0, 0, 0) from HK2.out).next hb3)
      have HR3 := Lib.hid (HRM.out w3 HB3.out)
      clear hb3 HC2
      go_wp2_with fail
      refine HR3.out.mono ?_
      rintro e w4 ⟨rfl, hb4⟩
      have HB4 := Lib.hid ((HB3.out.trans (hb4.mono HB3.out.size)).alloc (Nat.le_trans HB3.out.size hb4.size) (.cells #[.int .i64 0, .int .i64 0, .int .i64 0, .int .i64 0] 28))
      obtain ⟨⟨r0, r1, r2, r3⟩, _, _, _, _⟩ := (HK3.out.next hb4).keep
      have hlt := (HK3.out.next hb4).lt
      dsimp only at r0 r1 r2 r3
      clear hb4 HR3
      go_wp2
      go_ret
      exact HF.out _ HB4.out
    | some x =>
      obtain ⟨x1, x2, x3, x4⟩ := x
      have hex := fun w => eqSol (x1, x2, x3, x4) (x1, x2, x3, x4) w
      rw [(eqS_iff _ _).2 rfl] at hex
      dsimp only at hex
      unfold rmV at HRM
      dsimp only at HM1 HRM
      unfold solV at HM1
      go_wp2_with fail
      refine HM1.out.mono ?_
      rintro e w2 ⟨rfl, hb2⟩
      have HB2 := Lib.hid ((HB1.out.trans (hb2.mono HB1.out.size)).alloc (Nat.le_trans HB1.out.size hb2.size) (.cells #[.int .i64 x1, .int .i64 x2, .int .i64 x3, .int .i64 x4] 28))
      have HK2 := Lib.hid (Bk.new w2 (x1, x2, x3, x4))
      have HC2 := Lib.hid (HCO.out _ HB2.out)
      clear hb2 HM1
      go_wp2_with fail
      refine HC2.out.mono ?_
      rintro e w3 ⟨rfl, hb3⟩
      have HB3 := Lib.hid (HB2.out.trans (hb3.mono HB2.out.size))
      have HK3 := Lib.hid ((show Bk (w2.alloc (.cells #[.int .i64 x1, .int .i64 x2, .int .i64 x3, .int .i64 x4] 28)) w2.heap.size (x1, x2, x3, x4) from HK2.out).next hb3)
      have HR3 := Lib.hid (HRM.out w3 HB3.out)
      clear hb3 HC2
      go_wp2_with fail
      refine HR3.out.mono ?_
      rintro e w4 ⟨rfl, hb4⟩
      have HB4 := Lib.hid ((HB3.out.trans (hb4.mono HB3.out.size)).alloc (Nat.le_trans HB3.out.size hb4.size) (.cells #[.int .i64 x1, .int .i64 x2, .int .i64 x3, .int .i64 x4] 28))
      obtain ⟨⟨r0, r1, r2, r3⟩, _, _, _, _⟩ := (HK3.out.next hb4).keep
      have hlt := (HK3.out.next hb4).lt
      dsimp only at r0 r1 r2 r3
      clear hb4 HR3
      go_wp2
      go_ret
      exact HF.out _ HB4.out
end Go.Proofs.YtmididlfnajhiaaGreatDoor

import Derived.Test.YtioedljihlfcaaaW13
import Derived.Test.YtioedljihlfcaaaW6

namespace Go.Proofs.Ytioedljihlfcaaa
open Go.RowKit

theorem take_succ_total (fs : List (List Int)) (i : Nat) (h : i < fs.length) : total (fs.take (i + 1)) = total (fs.take i) + (8 + (fs.getD i []).length) := by
  rw [List.take_succ_eq_append_getElem h, total_snoc]
  simp [List.getD_eq_getElem?_getD, h]

theorem frames_at (l : List Int) (hb : AllBytes l) : ∀ i, i ≤ (frames l).length → frames (l.drop (total ((frames l).take i))) = (frames l).drop i ∧ total ((frames l).take i) ≤ l.length := by
  intro i
  induction i with
  | zero => intro _; simp [total]
  | succ i ih =>
    intro hi
    obtain ⟨h1, h2⟩ := ih (by omega)
    have hne : frames (l.drop (total ((frames l).take i))) ≠ [] := by
      rw [h1]; intro e; have := congrArg List.length e; simp at this; omega
    have hok : frameOk (l.drop (total ((frames l).take i))) = true := by
      cases hf : frameOk (l.drop (total ((frames l).take i))) with
      | true => rfl
      | false => exact absurd (frames_no hf) hne
    have hy := frames_yes hok
    have hrl := recOf_length hok (hb.drop _)
    have h8 := (frameOk_iff _).1 hok
    rw [h1, List.drop_eq_getElem_cons (by omega)] at hy
    injection hy with hy1 hy2
    have hg : (frames l).getD i [] = recOf (l.drop (total ((frames l).take i))) := by
      rw [← hy1]; simp [List.getD_eq_getElem?_getD, List.getElem?_eq_getElem (show i < (frames l).length by omega)]
    have ht := take_succ_total (frames l) i (by omega)
    rw [hg, hrl] at ht
    refine ⟨?_, ?_⟩
    · rw [hy2, ht, restOf, List.drop_drop]
    · rw [ht]; have := h8.2.2.1; simp at this; have := (hb.drop (total ((frames l).take i))).rd_bd; omega

theorem frames_rec (l : List Int) (hb : AllBytes l) (i : Nat) (hi : i < (frames l).length) :
    (frames l).getD i [] = (l.drop (total ((frames l).take i) + 4)).take ((frames l).getD i []).length ∧ total ((frames l).take i) + (8 + ((frames l).getD i []).length) ≤ l.length := by
  obtain ⟨h1, h2⟩ := frames_at l hb i (by omega)
  obtain ⟨h3, h4⟩ := frames_at l hb (i + 1) (by omega)
  rw [take_succ_total _ _ hi] at h4
  refine ⟨?_, h4⟩
  have hne : frames (l.drop (total ((frames l).take i))) ≠ [] := by
    rw [h1]; intro e; have := congrArg List.length e; simp at this; omega
  have hok : frameOk (l.drop (total ((frames l).take i))) = true := by
    cases hf : frameOk (l.drop (total ((frames l).take i))) with
    | true => rfl
    | false => exact absurd (frames_no hf) hne
  have hy := frames_yes hok
  have hrl := recOf_length hok (hb.drop _)
  rw [h1, List.drop_eq_getElem_cons (by omega)] at hy
  injection hy with hy1 hy2
  have hg : (frames l).getD i [] = recOf (l.drop (total ((frames l).take i))) := by
    rw [← hy1]; simp [List.getD_eq_getElem?_getD, List.getElem?_eq_getElem hi]
  rw [hg, hrl]
  unfold recOf
  rw [List.drop_drop]

theorem cum_getD (rs : List (List Int)) : ∀ (a i : Nat), i ≤ rs.length → (cum a rs).getD i 0 = ((a + total (rs.take i) : Nat) : Int) := by
  induction rs with
  | nil => intro a i hi; simp at hi; subst hi; simp [cum, total]
  | cons r rs ih =>
    intro a i hi
    cases i with
    | zero => simp [cum, total]
    | succ i =>
      simp only [cum, List.getD_cons_succ]
      rw [ih _ _ (by simpa using hi)]
      simp [total]; omega
theorem tl_getD (rs : List (List Int)) (i : Nat) (hi : i < rs.length) : (tl rs).getD i 0 = ((total (rs.take (i + 1)) : Nat) : Int) := by
  have := cum_getD rs 0 (i + 1) (by omega)
  rw [cum_cons, List.getD_cons_succ] at this
  rw [tl, this]; simp

theorem take_succ_getD' (fs : List (List Int)) (k : Nat) (h : k < fs.length) : fs.take (k + 1) = fs.take k ++ [fs.getD k []] := by
  rw [List.take_succ_eq_append_getElem h]; simp [List.getD_eq_getElem?_getD, h]

def RRecsPost (w : World) (rs : List (List Int)) (e : Ending) (w' : World) : Prop :=
  ∃ A c vs, e = .returned (.slice A rs.length c) ∧ w'.ownsRow w.heap.size 22 1 (.slice A rs.length c) rs.length vs ∧ Recs w' w.heap.size vs rs ∧ Below w.heap.size w w'

structure RRel (w w1 : World) (fs : List (List Int)) (v x i : Value) (wr : World) (k : Nat) (vs : List Value) : Prop where
  le : k ≤ fs.length
  i_ : i = .int .i64 (k : Int)
  at_ : x = .int .i64 ((total (fs.take k) : Nat) : Int)
  own : wr.ownsRow w1.heap.size 22 1 v k vs
  recs : Recs wr w.heap.size vs (fs.take k)
  below : Below w1.heap.size w1 wr

set_option maxHeartbeats 2000000 in
theorem rrecords_any (A : Option Addr) (n c : Nat) (l : List Int) (w : World) (h : Bytes w A n c l) (hn : n ≤ 2000000) :
    Calls Try.prog 29 #[.slice A n c] w (RRecsPost w (frames l)) := by
  obtain ⟨i0, hi, hz0, hz1, hz2⟩ := info_parts sl_info
  obtain ⟨i1, hj, hy0, hy1, hy2⟩ := info_parts u8_info
  have HE := Lib.hid (rends_any A n c l w h hn)
  have HBw := Lib.hid h
  have hl := Lib.hid h.len
  have hby := h.bytes
  have hcap := h.cap
  have hle := h.le
  have hfl := total_le l.length l (Nat.le_refl _)
  have hfn := total_len (frames l)
  rw [h.len] at hfl
  have HFA : ∀ i, i < (frames l).length → (frames l).getD i [] = (l.drop (total ((frames l).take i) + 4)).take ((frames l).getD i []).length ∧ total ((frames l).take i) + (8 + ((frames l).getD i []).length) ≤ n := by
    intro i hi; have := frames_rec l hby i hi; rwa [h.len] at this
  have HFA' := Lib.hid HFA
  clear HFA
  have HTL := Lib.hid (fun i hi => tl_getD (frames l) i hi)
  clear h hby
  go_enter Try.func29, Try.ntmps29
  go_wp2_with fail
  refine HE.out.mono ?_
  rintro e w1 ⟨v, rfl, hown, hb⟩
  obtain ⟨A', c', rfl, hI⟩ := own_ints hown
  have hle' := hI.le
  have HI := Lib.hid hI
  have HB1 := Lib.hid hb
  have hs1 := hb.size
  generalize hfs : frames l = fs at *
  have HST := Lib.hid (show RRel w w1 fs (.slice none 0 0) (.int .i64 0) (.int .i64 0) w1 0 [] from ⟨by omega, rfl, by simp [total], World.ownsRow_nil _ _ _ _, trivial, Below.refl _ _⟩)
  have HFS := Lib.hid hfs
  clear hown hI hb hfs
  go_wp2
  go_loopw [3, 5, 6] (fun v x i wr => ∃ k vs, RRel w w1 fs v x i wr k vs) (fun _ _ i _ => fs.length - (intOf i).toNat)
  case atStart => exact ⟨_, _, HST.out⟩
  case round =>
    clear HST
    obtain ⟨k, vs, hk, rfl, rfl, hown, hrecs, hbel⟩ := hrel
    have HO := Lib.hid hown
    have HR := Lib.hid hrecs
    have hs2 := hbel.size
    have HB2 := Lib.hid (HB1.out.trans (hbel.mono hs1))
    have HBE := Lib.hid hbel
    clear hown hrecs hbel
    by_cases hlt : k < fs.length
    · have hm := (HFA'.out k hlt)
      obtain ⟨hm1, hm2⟩ := hm
      have ht := HTL.out k hlt
      have hts := take_succ_total fs k hlt
      obtain ⟨bI, offI, rfl, hbI, hcI⟩ := HI.out.cells (by omega)
      have hcell := hcI k hlt
      have hcw := (HBE.out.cell (p := ⟨bI, offI + k, none⟩) hbI).trans hcell
      rw [ht, hts] at hcw
      have HTS := Lib.hid hts
      have hsnoc := Lib.hid (take_succ_getD' fs k hlt)
      generalize hR : fs.getD k [] = R at *
      generalize hP : total (fs.take k) = P at *
      have HRR := Lib.hid hR
      have HM1 := Lib.hid hm1
      have hBu := HBw.out.cut (lo := P + 4) (hi := P + 4 + R.length) (by omega) (by omega)
      rw [show P + 4 + R.length - (P + 4) = R.length by omega, ← HM1.out] at hBu
      obtain ⟨bb, off, rfl, hbb, _⟩ := HBw.out.cells (by omega)
      rw [if_neg (by omega)] at hBu
      simp only [Option.map, Addr.add, if_neg (show ¬ P + 4 = 0 by omega)] at hBu
      have HRd := Lib.hid (hBu.reads_in (w' := wr.alloc (.cells #[] 5)) (HB2.out.alloc HB2.out.size _))
      have hpc : (((P + (8 + R.length) : Nat) : Int)) = (P : Int) + (8 + (R.length : Int)) := by omega
      rw [hpc] at hcw
      have hw1 : IntKind.i64.wrap ((P : Int) + 4) = (P : Int) + 4 := IntWalk.i64_in _ (by omega)
      have hw2 : IntKind.i64.wrap ((P : Int) + (8 + (R.length : Int)) - 4) = (P : Int) + (8 + (R.length : Int)) - 4 := IntWalk.i64_in _ (by omega)
      have hbI2 : bI < wr.heap.size := by omega
      have hcw2 : (wr.alloc (.cells #[] 5)).cell? ⟨bI, offI + k, none⟩ = some (.int .i64 ((P : Int) + (8 + (R.length : Int)))) := by rw [World.cell?_alloc_lt _ _ _ hbI2]; exact hcw
      have f1 : (0 : Int) ≤ (P : Int) + 4 := by omega
      have f2 : (P : Int) + 4 ≤ (P : Int) + (8 + (R.length : Int)) - 4 := by omega
      have f3 : (P : Int) + (8 + (R.length : Int)) - 4 ≤ (c : Int) := by omega
      have f4 : ((P : Int) + 4).toNat = P + 4 := by omega
      have f5 : ((P : Int) + (8 + (R.length : Int)) - 4).toNat = P + 4 + R.length := by omega
      have f6 : ¬ c = P + 4 := by omega
      have f7 : P + 4 + R.length - (P + 4) = R.length := by omega
      clear hpc hBu hm1 hR hP ht hts hcell hcI
      generalize hRL : R.length = r at *
      have HRL := Lib.hid hRL
      clear hRL
      have HO1 := Lib.hid (World.ownsRow_made (base := wr.heap.size) (e := 5) (size := 1) wr #[] 0 (Nat.le_refl _) (by decide) rfl)
      go_wp2_with (at_builtin; refine wpList_append_any _ rfl (.tmp 16) (.tmp 25) 22 rfl wr.heap.size 5 i1 (.int .u8 0) 1 1 Try.underlying22 hj hy0 hy1 hy2 rfl (by decide) (.slice (some ⟨wr.heap.size, 0, none⟩) 0 0) 0 [] rfl HO1.out w.heap.size (some ⟨bb, off + (P + 4), none⟩) r (c - (P + 4)) (R.map (Value.int .u8)) rfl HRd.out (map_one _ _) ?c1 ?c2 ?c3 ?_)
      case c1 => unfold maxLen; omega
      case c2 => omega
      case c3 => simp
      intro v1 w3 hown3 hg3 _
      obtain ⟨A3, c3, rfl⟩ := own_slice hown3
      have hb3 : Below wr.heap.size wr w3 := ((Below.refl _ _).alloc (Nat.le_refl _) _).grown hg3 (by simp) (fun k hk => (HO1.out.lt k hk).1)
      have HB3 := Lib.hid (HB2.out.trans (hb3.mono HB2.out.size))
      have hs3 := hb3.size
      have HO3 := Lib.hid (World.ownsRow.alloc (own_below HO.out hb3) (.cells #[.slice A3 r c3] 22))
      have HR3 := Lib.hid (Recs.below ((Below.refl _ _).alloc (Nat.le_refl _) (.cells #[.slice A3 r c3] 22)) (Recs.below hb3 HR.out))
      have HO4 := Lib.hid (World.ownsRow.alloc (own_mono (base' := w.heap.size) hown3 (by omega)) (.cells #[.slice A3 r c3] 22))
      have HBE3 := Lib.hid ((HBE.out.trans (hb3.mono hs2)).alloc (by omega) (.cells #[.slice A3 r c3] 22))
      clear hown3 hg3 hb3 hcw2
      go_wp2_with (at_builtin; refine wpList_append_own _ rfl (.tmp 15) (.tmp 27) 43 rfl w1.heap.size 22 i0 (.slice none 0 0) 1 24 Try.underlying43 hi hz0 hz1 hz2 rfl (by decide) u3 k _ rfl HO3.out ⟨w3.heap.size, 0, none⟩ 1 1 [.slice A3 r c3] rfl rfl ?c1 ?c2 ?c3 ?c4 ?c5 ?_)
      case c1 => exact one_new w3 _ 22
      case c2 => intro u hu; simp at hu; subst hu; rfl
      case c3 => unfold maxLen; omega
      case c4 => omega
      case c5 => simp; omega
      intro v' w4 hown5 hg5 _
      have hb5 : Below w1.heap.size w1 w4 := (HBE3.out.grown hg5 (by simp; omega) (fun k hk => (HO3.out.lt k hk).1))
      have hrl : R.length = r := HRL.out
      have hrec5 : Recs w4 w.heap.size (vs ++ [.slice A3 r c3]) (fs.take k ++ [R]) :=
        Recs.snoc ⟨A3, c3, by rw [hrl], by rw [hrl]; exact HO4.out.kept hg5 (own_type_ne HO4.out HO3.out (by decide))⟩ (HR3.out.grown HO3.out hg5)
      rw [← hsnoc.out] at hrec5
      have hcw4 : w4.cell? ⟨bI, offI + k, none⟩ = some (.int .i64 ((P : Int) + (8 + (r : Int)))) := (hb5.cell (p := ⟨bI, offI + k, none⟩) hbI).trans ((HBE.out.cell (p := ⟨bI, offI + k, none⟩) hbI).symm.trans hcw)
      have HST := Lib.hid (show RRel w w1 fs v' (.int .i64 ((P : Int) + (8 + (r : Int)))) (.int .i64 ((k : Int) + 1)) w4 (k + 1) (vs ++ [.slice A3 r c3]) from ⟨by omega, rfl, by rw [HTS.out]; rfl, hown5, hrec5, hb5⟩)
      clear hown5 hg5 hb5 hrec5
      go_wp2
      go_roundw
      case rel => exact ⟨_, _, HST.out⟩
      case measure => simp [intOf]; omega
    · obtain rfl : k = fs.length := by omega
      obtain ⟨A4, c4, rfl⟩ := own_slice HO.out
      have HF := Lib.hid (show RRecsPost w fs (.returned (.slice A4 fs.length c4)) wr from
        ⟨A4, c4, vs, rfl, own_mono HO.out hs1, by have := HR.out; rwa [List.take_of_length_le (Nat.le_refl _)] at this, HB2.out⟩)
      go_wp2
      go_ret
      exact HF.out
end Go.Proofs.Ytioedljihlfcaaa

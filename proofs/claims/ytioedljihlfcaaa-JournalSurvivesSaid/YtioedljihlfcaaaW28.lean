import Derived.Test.YtioedljihlfcaaaW27

namespace Go.Proofs.Ytioedljihlfcaaa
open Go.RowKit

theorem zero_cum (rs : List (List Int)) : (0 : Int) ∈ cum 0 rs := by rw [cum_cons]; simp
theorem valid_flat {pre : List (List Int)} {s a : Int} (h : ∀ r ∈ pre, r.length ≤ 65535) (ht : total pre ≤ 1048576) (ha : -1 ≤ a ∧ a ≤ 1048576) (hs : s ∈ cum 0 pre) : validB (flat pre) s a = true := by
  simp [validB, flat_length, frames_flat0 pre h, ht, ha.1, ha.2, hs]
theorem appendD_flat {pre : List (List Int)} {r : List Int} {s : Int} (h : ∀ x ∈ pre, x.length ≤ 65535) (hr : r.length ≤ 65535) (ht : total pre + (8 + r.length) ≤ 1048576) (hs : s ∈ cum 0 pre) :
    (appendD (flat pre) s (-1) r).l = flat (pre ++ [r]) ∧ (appendD (flat pre) s (-1) r).s = s ∧ (appendD (flat pre) s (-1) r).a = -1 ∧ (appendD (flat pre) s (-1) r).e = 0 := by
  have hv := valid_flat (s := s) (a := -1) h (by omega) (by omega) hs
  have hf := frames_flat0 pre h
  have hl := flat_length pre
  unfold appendD
  rw [if_neg (by rw [hv]; decide), if_neg (by omega), if_neg (by omega), if_neg (by rw [hf, hl]; omega), if_neg (by rw [hl]; omega), if_pos (by omega), flat_append, flat_one]
  exact ⟨rfl, rfl, rfl, rfl⟩
theorem total_60 : ∀ (rs : List (List Int)), (∀ r ∈ rs, r.length ≤ 60) → total rs ≤ 68 * rs.length
  | [], _ => by simp [total]
  | r :: rs, h => by
    have h1 := total_60 rs (fun x hx => h x (by simp [hx]))
    have h2 := h r (by simp)
    simp [total] at h1 ⊢; omega
theorem Good.bytes {rs : List (List Int)} (h : Good rs) (hn : ∀ r ∈ rs, r.length ≤ 65535) : AllBytes (flat rs) := by
  intro b hb
  obtain ⟨r, hr, hb⟩ := List.mem_flatMap.1 hb
  exact frameL_bytes (h r hr).1 (hn r hr) b hb
theorem Good.take {rs : List (List Int)} (h : Good rs) (k : Nat) : Good (rs.take k) := fun r hr => h r (List.mem_of_mem_take hr)

/-- What is left of frames when a byte behind the last one's length is changed. -/
theorem torn_law {pre : List (List Int)} {r : List Int} (hp : ∀ x ∈ pre, x.length ≤ 65535) (hr : AllBytes r ∧ r.length ≤ 65535) (ht : total pre + (8 + r.length) ≤ 1048576) (j : Nat) (hj : j < r.length + 4) (x : Int) (hx : 0 ≤ x ∧ x < 256)
    (hne : x ≠ (flat (pre ++ [r])).getD (total pre + 4 + j) 0) :
    frames ((flat (pre ++ [r])).set (total pre + 4 + j) x) = pre ∧ validB ((flat (pre ++ [r])).set (total pre + 4 + j) x) 0 (-1) = true ∧
    ((openD ((flat (pre ++ [r])).set (total pre + 4 + j) x) 0 (-1)).l = flat pre ∧ (openD ((flat (pre ++ [r])).set (total pre + 4 + j) x) 0 (-1)).s = (total pre : Int) ∧ (openD ((flat (pre ++ [r])).set (total pre + 4 + j) x) 0 (-1)).a = -1 ∧ (openD ((flat (pre ++ [r])).set (total pre + 4 + j) x) 0 (-1)).e = 0) := by
  have hl := flat_length pre
  have e1 : (flat (pre ++ [r])).set (total pre + 4 + j) x = flat pre ++ (frameL r).set (4 + j) x := by
    rw [flat_append, flat_one, List.set_append_right _ _ (by omega), hl, show total pre + 4 + j - total pre = 4 + j by omega]
  have e2 : (flat (pre ++ [r])).getD (total pre + 4 + j) 0 = (frameL r).getD (4 + j) 0 := by
    rw [flat_append, flat_one, List.getD_eq_getElem?_getD, List.getD_eq_getElem?_getD, List.getElem?_append_right (by omega), hl, show total pre + 4 + j - total pre = 4 + j by omega]
  rw [e2] at hne
  have h1 := torn r hr.1 hr.2 (4 + j) (by omega) (by rw [frameL_length]; omega) x hx hne
  rw [e1]
  have hf : frames (flat pre ++ (frameL r).set (4 + j) x) = pre := by rw [frames_flat _ _ hp, frames_no h1, List.append_nil]
  have hlen : (flat pre ++ (frameL r).set (4 + j) x).length = total pre + (8 + r.length) := by simp [hl, frameL_length]
  have hv : validB (flat pre ++ (frameL r).set (4 + j) x) 0 (-1) = true := by
    unfold validB
    rw [hlen, hf]
    simp [ht, zero_cum]
  refine ⟨hf, hv, ?_⟩
  unfold openD
  rw [if_neg (by rw [hv]; decide), if_neg (by omega), hf]
  refine ⟨?_, rfl, rfl, rfl⟩
  show (flat pre ++ (frameL r).set (4 + j) x).take (total pre) = flat pre
  rw [← hl, List.take_left]
theorem Bytes.set {w : World} {b off n c k : Nat} {l : List Int} {x : Int} (h : Bytes w (some ⟨b, off, none⟩) n c l) (hk : k < n) (hx : 0 ≤ x ∧ x < 256) : Bytes (w.setCell ⟨b, off + k, none⟩ (.int .u8 x)) (some ⟨b, off, none⟩) n c (l.set k x) := by
  have hl := h.len
  refine ⟨by simpa using hl, h.le, h.cap, ?_, fun hn => ?_, fun h => by cases h⟩
  · intro y hy
    rcases List.mem_or_eq_of_mem_set hy with h' | rfl
    · exact h.bytes y h'
    · exact hx
  · obtain ⟨b', off', e, hlt, hc⟩ := h.cells hn
    injection e with e
    injection e with e1 e2
    subst e1 e2
    refine ⟨b, off, rfl, by simpa [World.setCell] using hlt, fun i hi => ?_⟩
    by_cases e : i = k
    · subst e
      rw [World.cell?_setCell_same _ _ _ (hc i hi)]
      simp [List.getD_eq_getElem?_getD, show i < l.length by omega]
    · rw [World.cell?_setCell_other _ _ _ _ (by intro h; simp only [Addr.mk.injEq] at h; omega), hc i hi]
      simp [List.getD_eq_getElem?_getD, Ne.symm e]
theorem own_addr {w : World} {B n c : Nat} {A : Option Addr} {xs : List Value} (h : w.ownsRow B 5 1 (.slice A n c) n xs) (hn : 0 < n) : ∃ g, A = some ⟨g, 0, none⟩ ∧ B ≤ g ∧ g < w.heap.size ∧ (∀ i, w.frozen? ⟨g, i, none⟩ = false) := by
  rcases h.2 with ⟨hv, h0⟩ | ⟨g, cap, cur, hv, hg, hh, _⟩
  · injection hv with h1 h2 h3; omega
  · injection hv with h1 h2 h3
    subst h1
    refine ⟨g, rfl, hg, ?_, fun i => by simp [World.frozen?, hh]⟩
    rcases Nat.lt_or_ge g w.heap.size with hlt | hge
    · exact hlt
    · rw [Array.getElem?_eq_none hge] at hh; cases hh
theorem RowsIn.upto {w : World} {A : Option Addr} {n : Nat} {rs : List (List Int)} (h : RowsIn w A n rs) {m : Nat} (hm : m ≤ n) : RowsIn w A m (rs.take m) := by
  have hl := h.len
  refine ⟨by simp; omega, by have := h.le; omega, fun hn => ?_⟩
  obtain ⟨b, off, e, hlt, hc⟩ := h.cells (by omega)
  refine ⟨b, off, e, hlt, fun i hi => ?_⟩
  obtain ⟨Ai, ni, ci, h1, h2⟩ := hc i (by omega)
  refine ⟨Ai, ni, ci, h1, ?_⟩
  have : (rs.take m).getD i [] = rs.getD i [] := by simp [List.getD_eq_getElem?_getD, hi]
  rw [this]; exact h2

structure TRel (w : World) (g : Nat) (rs : List (List Int)) (v8 v9 v42 : Value) (wr : World) (i : Nat) (A : Option Addr) (c : Nat) : Prop where
  le : i ≤ rs.length
  at_ : v42 = .int .i64 (i : Int)
  e_ : v8 = .int .i64 0
  before : v9 = .int .i64 ((total (rs.take (i - 1)) : Nat) : Int)
  box : Bx wr g (.slice A (total (rs.take i)) c) (.int .i64 0) (.int .i64 (-1))
  bytes : Bytes wr A (total (rs.take i)) c (flat (rs.take i))
  below : Below w.heap.size w wr

set_option maxHeartbeats 1000000 in
theorem torn_1 (A : Option Addr) (n c : Nat) (rs : List (List Int)) (at_ v : Int) (w : World) (h : RowsIn w A n rs)
    (hs : n = 0 ∨ 10 < n ∨ v = 0 ∨ tooLong rs = true) : Calls Try.prog 7 #[.slice A n c, .int .u16 at_, .int .u8 v] w (SamePost w true) := by
  have hle := h.le
  have HA := Lib.hid (awake_any w)
  have HC := Lib.hid (fun W hb => containsf_any A n c rs W (h.below (w' := W) hb (Nat.le_refl _)))
  have HS := Lib.hid hs
  clear h hs
  go_enter Try.func7, Try.ntmps7
  go_wp2_with fail
  refine HA.out.mono ?_
  rintro e w1 ⟨rfl, hb⟩
  have HB := Lib.hid hb
  have HF := Lib.hid (show SamePost w true (.returned (.bool true)) w1 from ⟨rfl, HB.out⟩)
  clear hb
  by_cases h0 : n = 0
  · subst h0
    go_wp2
    go_ret
    exact HF.out
  have d0 : ((n : Int) == 0) = false := by simpa using h0
  by_cases h1 : 10 < n
  · have d1 : decide ((10 : Int) < (n : Int)) = true := decide_eq_true (by omega)
    clear h0
    go_wp2
    go_ret
    exact HF.out
  have d1 : decide ((10 : Int) < (n : Int)) = false := decide_eq_false (by omega)
  by_cases h2 : v = 0
  · subst h2
    clear h0
    go_wp2
    go_ret
    exact HF.out
  have d2 : (v == 0) = false := by simpa using h2
  have HT := Lib.hid (show tooLong rs = true by rcases HS.out with h | h | h | h <;> first | exact h | omega)
  have HCC := Lib.hid (HC.out _ HB.out)
  rw [HT.out] at HCC
  clear h0 h2
  go_wp2_with fail
  refine HCC.out.mono ?_
  rintro e w2 ⟨rfl, rfl⟩
  go_wp2
  go_ret
  exact HF.out

set_option maxHeartbeats 2000000 in
theorem torn_2 (A : Option Addr) (n c : Nat) (rs : List (List Int)) (at_ v : Int) (w : World) (h : RowsIn w A n rs) (hg : Good rs) (hat : 0 ≤ at_ ∧ at_ < 65536) (hv : 0 ≤ v ∧ v < 256)
    (h0 : n ≠ 0) (h1 : n ≤ 10) (h2 : v ≠ 0) (hl : tooLong rs = false) (hnc : n ≤ c) : Calls Try.prog 7 #[.slice A n c, .int .u16 at_, .int .u8 v] w (SamePost w true) := by
  have hle := h.le
  have HA := Lib.hid (awake_any w)
  have HC := Lib.hid (fun W hb => containsf_any A n c rs W (h.below (w' := W) hb (Nat.le_refl _)))
  have d0 : ((n : Int) == 0) = false := by simpa using h0
  have d1 : decide ((10 : Int) < (n : Int)) = false := decide_eq_false (by omega)
  have d2 : (v == 0) = false := by simpa using h2
  have HT := Lib.hid hl
  have HG := Lib.hid hg
  have HR := Lib.hid h
  have HL := Lib.hid h.len
  have H2 := Lib.hid h2
  have hn0 : 0 < n := by omega
  clear h hl hg h2 h0
  go_enter Try.func7, Try.ntmps7
  go_wp2_with fail
  refine HA.out.mono ?_
  rintro e w1 ⟨rfl, hb⟩
  have HB1 := Lib.hid hb
  have hs1 := hb.size
  have HCC := Lib.hid (HC.out _ hb)
  rw [HT.out] at HCC
  clear hb HC HA
  go_wp2_with fail
  refine HCC.out.mono ?_
  rintro e w2 ⟨rfl, rfl⟩
  go_wp2_with fail
  refine (format_ok (-1) w1 (by omega) (by omega)).mono ?_
  intro e w2 hp
  obtain ⟨A2, c2, rfl, ho2, hb2⟩ := DPost.open' (d := ⟨[], 0, -1, 0⟩) hp ⟨rfl, rfl, rfl, rfl⟩ rfl
  have HB2 := Lib.hid (HB1.out.trans (hb2.mono hs1))
  have hs2 := HB2.out.size
  have HST := Lib.hid (show TRel w w2.heap.size rs (.int .i64 0) (.int .i64 0) (.int .i64 0) (w2.alloc (.cells #[.slice A2 0 c2, .int .i64 0, .int .i64 (-1)] 24)) 0 A2 c2 from
    ⟨by omega, rfl, rfl, by simp [total], by simpa [total] using Bx.new w2 (.slice A2 0 c2) (.int .i64 0) (.int .i64 (-1)), by simpa [total, flat] using (bytes_of_own ho2 AllBytes.nil).alloc _, HB2.out.alloc hs2 _⟩)
  clear hp ho2 hb2 HCC
  have HSH := Lib.hid (show ∀ r ∈ rs, r.length ≤ 60 by
    intro r hr
    have := HT.out
    rw [tooLong, List.any_eq_false] at this
    simpa using this r hr)
  go_wp2_with fail
  go_loopw [8, 9, 42] (fun v8 v9 v42 wr => ∃ i A c, TRel w w2.heap.size rs v8 v9 v42 wr i A c) (fun _ _ i _ => n - (intOf i).toNat)
  case atStart => exact ⟨_, _, _, HST.out⟩
  case round =>
    clear HST
    obtain ⟨i, Ad, cd, hi, rfl, rfl, rfl, hbox, hby, hbel⟩ := hrel
    have HX := Lib.hid hbox
    have HY := Lib.hid hby
    have HB := Lib.hid hbel
    have hsr := hbel.size
    have hbx := hbox.lt
    have hcn := hby.le
    have hcc := hby.cap
    have htl := total_60 (rs.take i) (fun r hr => HSH.out r (List.mem_of_mem_take hr))
    have hli : (rs.take i).length ≤ 10 := by have := HL.out; simp; omega
    obtain ⟨⟨p0, p1, p2⟩, f0, f1, f2⟩ := hbox
    clear hby hbel
    by_cases hlt : i < n
    · obtain ⟨b, off, rfl, hbl, hcell⟩ := HR.out.cells (by omega)
      obtain ⟨Ai, ni, ci, hc1, hB1⟩ := hcell i hlt
      have hc2 := (HB.out.cell (p := ⟨b, off + i, none⟩) hbl).trans hc1
      have hil : i < rs.length := by have := HL.out; omega
      have hrm : rs.getD i [] ∈ rs := by
        rw [List.getD_eq_getElem?_getD, List.getElem?_eq_getElem hil]; exact List.getElem_mem _
      have hr60 := HSH.out _ hrm
      have HBi := Lib.hid (hB1.below HB.out (Nat.le_refl _))
      have HTS := Lib.hid (take_succ_getD' rs i hil)
      have HTT := Lib.hid (take_succ_total rs i hil)
      have HGi := Lib.hid ((HG.out.take (i + 1)).bytes (fun r hr => by have := HSH.out r (List.mem_of_mem_take hr); omega))
      have HAD := Lib.hid (appendD_flat (pre := rs.take i) (r := rs.getD i []) (s := 0) (fun r hr => by have := HSH.out r (List.mem_of_mem_take hr); omega) (by omega) (by omega) (zero_cum _))
      have HAP := Lib.hid (append_any Ad (total (rs.take i)) cd (flat (rs.take i)) 0 (-1) Ai ni ci (rs.getD i []) wr HY.out HBi.out)
      clear hcell hc1 hB1 hrm
      generalize hT : total (rs.take i) = T at *
      go_wp2_with fail
      refine HAP.out.mono ?_
      intro e w3 hp
      obtain ⟨A3, c3, rfl, ho3, hb3⟩ := DPost.open' hp HAD.out (n := T + (8 + (rs.getD i []).length)) (by rw [flat_length, total_append, hT]; simp [total])
      rw [← HTS.out] at ho3
      rw [← HTT.out] at ho3 ⊢
      have hsw := hb3.size
      have HB3 := Lib.hid (below_set3 (HB.out.trans (hb3.mono hsr)) (b := w2.heap.size) hs2 (.slice A3 (total (rs.take (i + 1))) c3) (.int .i64 0) (.int .i64 (-1)))
      obtain ⟨⟨q0, q1, q2⟩, g0, g1, g2⟩ := HX.out.next hb3
      have HX3 := Lib.hid (Bx.write (w := w3) (b := w2.heap.size) ⟨⟨q0, q1, q2⟩, g0, g1, g2⟩ (.slice A3 (total (rs.take (i + 1))) c3) (.int .i64 0) (.int .i64 (-1)))
      have HY3 := Lib.hid (bytes_set3 (b := w2.heap.size) ho3 HGi.out hbx (.slice A3 (total (rs.take (i + 1))) c3) (.int .i64 0) (.int .i64 (-1)))
      have HST := Lib.hid (show TRel w w2.heap.size rs (.int .i64 0) (.int .i64 (T : Int)) (.int .i64 ((i : Int) + 1)) _ (i + 1) A3 c3 from ⟨hil, rfl, rfl, by rw [Nat.add_sub_cancel, hT], HX3.out, HY3.out, HB3.out⟩)
      clear hp ho3 hb3 p0 p1 p2 f0 f1 f2
      generalize total (rs.take (i + 1)) = T3 at *
      go_wp2
      go_roundw
      case rel => exact ⟨_, _, _, HST.out⟩
      case measure => simp [intOf]; omega
    · have hin : i = n := by have := HL.out; omega
      subst hin
      clear hlt hi
      have hT := total_60 rs HSH.out
      have HRT := Lib.hid (show rs.take i = rs from List.take_of_length_le (by have := HL.out; omega))
      rw [HRT.out] at HY HX htl hcn p0
      obtain ⟨b, off, rfl, hbl, hcell⟩ := HR.out.cells (by omega)
      obtain ⟨Ai, ni, ci, hc1, hB1⟩ := hcell (i - 1) (by omega)
      have hc2 := (HB.out.cell (p := ⟨b, off + (i - 1), none⟩) hbl).trans hc1
      have HTT := Lib.hid (take_succ_total rs (i - 1) (by have := HL.out; omega))
      have HTS := Lib.hid (take_succ_getD' rs (i - 1) (by have := HL.out; omega))
      have hii : i - 1 + 1 = i := by omega
      rw [hii, HRT.out] at HTT HTS
      have hni := hB1.len
      have hnic := hB1.le
      have hncc := hB1.cap
      have hrm : rs.getD (i - 1) [] ∈ rs := by
        rw [List.getD_eq_getElem?_getD, List.getElem?_eq_getElem (by have := HL.out; omega)]; exact List.getElem_mem _
      have hr60 := HSH.out _ hrm
      have HGL := Lib.hid (HG.out _ hrm)
      have HGP := Lib.hid (show ∀ x ∈ rs.take (i - 1), x.length ≤ 65535 from fun x hx => by have := HSH.out x (List.mem_of_mem_take hx); omega)
      have HPL := Lib.hid (show (rs.take (i - 1)).length = i - 1 by have := HL.out; simp; omega)
      have HPB := Lib.hid (show ∀ r ∈ rs.take (i - 1), AllBytes r from fun r hr => (HG.out r (List.mem_of_mem_take hr)).1)
      have HPF := Lib.hid ((HG.out.take (i - 1)).bytes HGP.out)
      generalize hpe : rs.take (i - 1) = pre at *
      have HPE := Lib.hid hpe
      clear hpe
      generalize rs.getD (i - 1) [] = L at *
      have HLN := Lib.hid hni
      rw [hni] at HTT hr60
      generalize hP : total pre = P at *
      have HP := Lib.hid hP
      have hTT := HTT.out
      have hTle : P + (8 + ni) ≤ 680 := by have := HL.out; omega
      rw [hTT] at p0 HX HY hcn
      have g0 : IntKind.i64.wrap ((i : Int) - 1) = (i : Int) - 1 := IntWalk.i64_in _ (by omega)
      have g1 : (0 : Int) ≤ (i : Int) - 1 := by omega
      have g2 : (i : Int) - 1 < (i : Int) := by omega
      have g3 : ((i : Int) - 1).toNat = i - 1 := by omega
      have g4 : IntKind.i64.wrap ((P : Int) + (ni : Int)) = (P : Int) + (ni : Int) := IntWalk.i64_in _ (by omega)
      have g5 : IntKind.i64.wrap ((P : Int) + (ni : Int) + 8) = (P : Int) + (ni : Int) + 8 := IntWalk.i64_in _ (by omega)
      have g6 : ((P : Int) + (8 + (ni : Int)) != (P : Int) + (ni : Int) + 8) = false := by rw [bne_eq_false_iff_eq]; omega
      have g7 : decide ((2000 : Int) < (P : Int) + (8 + (ni : Int))) = false := decide_eq_false (by omega)
      clear hcell hc1 hB1 hrm hni hP hTT hii
      go_wp2_with fail
      go_quiet (fail)
      go_wp2_with fail
      obtain ⟨j, hj, hjl⟩ : ∃ j : Nat, at_ % ((P : Int) + (8 + (ni : Int)) - (P : Int) - 4) = (j : Int) ∧ j < ni + 4 := by
        have e1 : (P : Int) + (8 + (ni : Int)) - (P : Int) - 4 = (ni : Int) + 4 := by omega
        rw [e1]
        have h1 := Int.emod_nonneg at_ (show (ni : Int) + 4 ≠ 0 by omega)
        have h2 := Int.emod_lt_of_pos at_ (show (0 : Int) < (ni : Int) + 4 by omega)
        exact ⟨(at_ % ((ni : Int) + 4)).toNat, by omega, by omega⟩
      rw [hj, show wrap64 ((P : Int) + 4 + (j : Int)) = ((P + 4 + j : Nat) : Int) by rw [IntWalk.wrap64_in _ (by omega)]; omega]
      clear hj
      refine (clone_any _ _ _ _ _ (HY.out.drewN nq) (by omega)).mono ?_
      rintro e w3 ⟨A3, c3, rfl, ho3, hb3⟩
      have hTpos : 0 < P + (8 + ni) := by omega
      obtain ⟨g, rfl, hgw, hg3, hgf⟩ := own_addr ho3 hTpos
      have hyb := bytes_of_own ho3 HY.out.bytes
      have hcK0 := (hyb.cells hTpos)
      obtain ⟨K, hK⟩ : ∃ K, K = P + 4 + j := ⟨_, rfl⟩
      have hKT : K < P + (8 + ni) := by omega
      have hKc : w3.cell? ⟨g, K, none⟩ = some (.int .u8 ((flat rs).getD K 0)) := by
        obtain ⟨b', off', e, _, hc⟩ := hcK0
        injection e with e
        injection e with e1 e2
        subst e1 e2
        have := hc K hKT
        rwa [Nat.zero_add] at this
      have hfK := hgf K
      rw [← hK]
      have hold := hyb.bytes.getD K
      have HXO := Lib.hid (xor_u8 _ v hold hv)
      have HTL := Lib.hid (show ∀ y, (0 ≤ y ∧ y < 256) → y ≠ (flat rs).getD K 0 → _ from fun y hy hne => torn_law (pre := pre) (r := L) HGP.out ⟨HGL.out.1, by rw [HLN.out]; omega⟩ (by rw [HP.out, HLN.out]; omega) j (by rw [HLN.out]; omega) y hy (by rw [← HTS.out, HP.out, ← hK]; exact hne))
      rw [← HTS.out, HP.out, ← hK] at HTL
      have HTL2 := Lib.hid (HTL.out _ ⟨HXO.out.1, HXO.out.2.1⟩ (HXO.out.2.2 H2.out))
      have HYX := Lib.hid (show Bytes ((w3.setCell ⟨g, K, none⟩ (.int .u8 (bits BinOp.xor IntKind.u8 ((flat rs).getD K 0) v))).alloc (.cells #[.slice (some ⟨g, 0, none⟩) (P + (8 + ni)) c3, .int .i64 0, .int .i64 (-1)] 24)) (some ⟨g, 0, none⟩) (P + (8 + ni)) c3 ((flat rs).set K (bits BinOp.xor IntKind.u8 ((flat rs).getD K 0) v)) by
        have := (Bytes.set hyb hKT ⟨HXO.out.1, HXO.out.2.1⟩).alloc (.cells #[.slice (some ⟨g, 0, none⟩) (P + (8 + ni)) c3, .int .i64 0, .int .i64 (-1)] 24)
        rwa [Nat.zero_add] at this)
      have HBC := Lib.hid (show ∀ y, Below wr.heap.size wr ((w3.setCell ⟨g, K, none⟩ y).alloc (.cells #[.slice (some ⟨g, 0, none⟩) (P + (8 + ni)) c3, .int .i64 0, .int .i64 (-1)] 24)) from fun y => ((below_drewN (Below.refl _ _) nq).trans ((hb3.setCell hgw y).alloc (by rw [size_setCell]; exact hb3.size) _)))
      have HXX := Lib.hid (show ∀ y, Bx ((w3.setCell ⟨g, K, none⟩ y).alloc (.cells #[.slice (some ⟨g, 0, none⟩) (P + (8 + ni)) c3, .int .i64 0, .int .i64 (-1)] 24)) w3.heap.size (.slice (some ⟨g, 0, none⟩) (P + (8 + ni)) c3) (.int .i64 0) (.int .i64 (-1)) from fun y => by
        have := Bx.new (w3.setCell ⟨g, K, none⟩ y) (.slice (some ⟨g, 0, none⟩) (P + (8 + ni)) c3) (.int .i64 0) (.int .i64 (-1))
        rwa [size_setCell] at this)
      generalize (flat rs).getD K 0 = old at *
      generalize (flat rs).set K (bits BinOp.xor IntKind.u8 old v) = l' at *
      have hKi : (K : Int) < (P : Int) + (8 + (ni : Int)) := by omega
      have HK := Lib.hid hK
      clear hK ho3 hb3 hyb hcK0 hgf p0 p1 p2 f0 f1 f2
      go_wp2_with fail
      generalize bits BinOp.xor IntKind.u8 old v = nw at *
      have HBW := Lib.hid (HBC.out (.int .u8 nw))
      have HXW := Lib.hid (HXX.out (.int .u8 nw))
      have hzW : wr.heap.size ≤ ((w3.setCell ⟨g, K, none⟩ (.int .u8 nw)).alloc (.cells #[.slice (some ⟨g, 0, none⟩) (P + (8 + ni)) c3, .int .i64 0, .int .i64 (-1)] 24)).heap.size := HBW.out.size
      clear HBC HXX hKc hfK hc2
      generalize ((w3.setCell ⟨g, K, none⟩ (.int .u8 nw)).alloc (.cells #[.slice (some ⟨g, 0, none⟩) (P + (8 + ni)) c3, .int .i64 0, .int .i64 (-1)] 24)) = W4 at *
      generalize w3.heap.size = gx at *
      have HXD := Lib.hid (HX.out.next HBW.out)
      have HYD := Lib.hid (HY.out.below HBW.out (Nat.le_refl _))
      have HB4 := Lib.hid (HB.out.trans (HBW.out.mono hsr))
      have hs4 := HB4.out.size
      refine (records_yes _ _ _ _ _ _ _ HYX.out HTL2.out.2.1).mono ?_
      intro e w5 hp
      obtain ⟨A5, c5, vs5, rfl, ho5, hr5, hb5⟩ := RecsPost.open' hp HTL2.out.1 (n := i - 1) HPL.out
      have HR5 := Lib.hid (rows_of_own ho5 hr5 HPL.out HPB.out)
      have HXW := Lib.hid (HXW.out.next hb5)
      have HXD := Lib.hid (HXD.out.next hb5)
      have HYD := Lib.hid (HYD.out.below hb5 (Nat.le_refl _))
      have HYX := Lib.hid (HYX.out.below hb5 (Nat.le_refl _))
      have HB5 := Lib.hid (HB4.out.trans (hb5.mono hs4))
      have hs5 := HB5.out.size
      clear hp ho5 hr5 hb5
      obtain ⟨⟨p0, p1, p2⟩, -, -, -⟩ := HXW.out
      go_wp2_with fail
      refine (open_any _ _ _ _ _ _ _ HYX.out).mono ?_
      intro e w6 hp
      obtain ⟨A6, c6, rfl, ho6, hb6⟩ := DPost.open' hp HTL2.out.2.2 (n := P) (by rw [flat_length, HP.out])
      have HR6 := Lib.hid ((HR5.out.below hb6 (Nat.le_refl _)).below ((Below.refl _ _).alloc (Nat.le_refl _) (.cells #[.slice A6 P c6, .int .i64 (P : Int), .int .i64 (-1)] 24)) (Nat.le_refl _))
      have HXD := Lib.hid ((HXD.out.next hb6).alloc (.cells #[.slice A6 P c6, .int .i64 (P : Int), .int .i64 (-1)] 24))
      have HYD := Lib.hid ((HYD.out.below hb6 (Nat.le_refl _)).alloc (.cells #[.slice A6 P c6, .int .i64 (P : Int), .int .i64 (-1)] 24))
      have HX6 := Lib.hid (Bx.new w6 (.slice A6 P c6) (.int .i64 (P : Int)) (.int .i64 (-1)))
      have HY6 := Lib.hid ((bytes_of_own ho6 HPF.out).alloc (.cells #[.slice A6 P c6, .int .i64 (P : Int), .int .i64 (-1)] 24))
      have HB6 := Lib.hid ((HB5.out.trans (hb6.mono hs5)).alloc (by have := hb6.size; omega) (.cells #[.slice A6 P c6, .int .i64 (P : Int), .int .i64 (-1)] 24))
      have HRN := Lib.hid ((HR.out.below HB6.out (Nat.le_refl _)).upto (m := i - 1) (by omega))
      clear hp ho6 hb6 p0 p1 p2
      have HQ1 := Lib.hid (show ∀ W, (∃ k, W = (w6.alloc (.cells #[.slice A6 P c6, .int .i64 (P : Int), .int .i64 (-1)] 24)).drewN k) → Calls Try.prog 28 #[.slice A5 (i - 1) c5, .slice (some ⟨b, off, none⟩) (i - 1) c, .func (.func 30) #[] #[]] W (fun e w' => e = .returned (.bool true) ∧ W = w') from by
        rintro _ ⟨k, rfl⟩
        have := eqfunc_any A5 (some ⟨b, off, none⟩) (i - 1) c5 (i - 1) c _ _ _ (HR6.out.below (below_drewN (Below.refl _ _) k) (Nat.le_refl _)) (HRN.out.below (below_drewN (Below.refl _ _) k) (Nat.le_refl _))
        rw [decide_eq_true HPE.out.symm] at this
        exact this)
      have HQ2 := Lib.hid (show ∀ W, (∃ k, W = (w6.alloc (.cells #[.slice A6 P c6, .int .i64 (P : Int), .int .i64 (-1)] 24)).drewN k) → Calls Try.prog 30 #[.slice A6 P c6, .slice Ad P cd] W (fun e w' => e = .returned (.bool true) ∧ W = w') from by
        rintro _ ⟨k, rfl⟩
        have := equal_any A6 Ad P c6 P cd _ _ _ (HY6.out.drewN k) ((HYD.out.upto (hi := P) (by omega)).drewN k)
        rw [decide_eq_true (by rw [HTS.out, flat_append, ← HP.out, ← flat_length, List.take_left])] at this
        exact this)
      have g8 : (i : Int) - 1 ≤ (c : Int) := by omega
      have g9 : (P : Int) ≤ (cd : Int) := by omega
      obtain ⟨⟨p0, p1, p2⟩, -, -, -⟩ := HX6.out
      obtain ⟨⟨q0, q1, q2⟩, -, -, -⟩ := HXD.out
      have HF := Lib.hid (show ∀ k, SamePost w true (.returned (.bool true)) ((w6.alloc (.cells #[.slice A6 P c6, .int .i64 (P : Int), .int .i64 (-1)] 24)).drewN k) from fun k => ⟨rfl, below_drewN HB6.out k⟩)
      go_wp2_with fail
      go_quiet (first
        | (go_at_call 28; exact quiet_left (HQ1.out _ ⟨_, rfl⟩))
        | (go_at_call 30; exact quiet_left (HQ2.out _ ⟨_, rfl⟩)))
      go_wp2
      go_ret
      exact HF.out _

theorem rows_bytes {w : World} {A : Option Addr} {n : Nat} {rs : List (List Int)} (h : RowsIn w A n rs) : ∀ r ∈ rs, AllBytes r := by
  intro r hr
  obtain ⟨i, hi, he⟩ := List.getElem_of_mem hr
  have hl := h.len
  obtain ⟨b, off, _, _, hc⟩ := h.cells (by omega)
  obtain ⟨Ai, ni, ci, _, hB⟩ := hc i (by omega)
  have := hB.bytes
  rw [List.getD_eq_getElem?_getD, List.getElem?_eq_getElem hi] at this
  simpa [he] using this

theorem torn_any (A : Option Addr) (n c : Nat) (rs : List (List Int)) (at_ v : Int) (w : World) (h : RowsIn w A n rs) (hnc : n ≤ c) (hat : 0 ≤ at_ ∧ at_ < 65536) (hv : 0 ≤ v ∧ v < 256) :
    Calls Try.prog 7 #[.slice A n c, .int .u16 at_, .int .u8 v] w (SamePost w true) := by
  by_cases hs : n = 0 ∨ 10 < n ∨ v = 0 ∨ tooLong rs = true
  · exact torn_1 A n c rs at_ v w h hs
  · have hl : tooLong rs = false := by
      cases ht : tooLong rs with
      | false => rfl
      | true => exact absurd (Or.inr (Or.inr (Or.inr ht))) hs
    refine torn_2 A n c rs at_ v w h (fun r hr => ⟨rows_bytes h r hr, ?_⟩) hat hv (by omega) (by omega) (by omega) hl hnc
    rw [tooLong, List.any_eq_false] at hl
    have := hl r hr
    simp at this
    omega
end Go.Proofs.Ytioedljihlfcaaa

import Derived.Test.YtioedljihlfcaaaW28
import Derived.Test.YtioedljihlfcaaaP2

namespace Go.Proofs.Ytioedljihlfcaaa
open Go.RowKit

/-- A slice of acts. -/
structure ActsIn (w : World) (A : Option Addr) (n : Nat) (ac : List (Bool × List Int)) : Prop where
  len : ac.length = n
  le : n ≤ 9223372036854775807
  cells : 0 < n → ∃ b off, A = some ⟨b, off, none⟩ ∧ b < w.heap.size ∧ ∀ i, i < n → ∃ Ai ni ci, w.cell? ⟨b, off + i * 2, none⟩ = some (.bool (ac.getD i (false, [])).1) ∧ w.cell? ⟨b, off + i * 2 + 1, none⟩ = some (.slice Ai ni ci) ∧ Bytes w Ai ni ci (ac.getD i (false, [])).2
theorem ActsIn.below {w w' : World} {A : Option Addr} {n : Nat} {ac : List (Bool × List Int)} {B : Nat} (h : ActsIn w A n ac) (hb : Below B w w') (hB : w.heap.size ≤ B) : ActsIn w' A n ac :=
  ⟨h.len, h.le, fun hn => by
    obtain ⟨b, off, e, hlt, hc⟩ := h.cells hn
    refine ⟨b, off, e, Nat.lt_of_lt_of_le hlt hb.size, fun i hi => ?_⟩
    obtain ⟨Ai, ni, ci, h0, h1, h2⟩ := hc i hi
    exact ⟨Ai, ni, ci, (hb.cell (p := ⟨b, off + i * 2, none⟩) (Nat.lt_of_lt_of_le hlt hB)).trans h0, (hb.cell (p := ⟨b, off + i * 2 + 1, none⟩) (Nat.lt_of_lt_of_le hlt hB)).trans h1, h2.below hb hB⟩⟩

set_option maxHeartbeats 400000 in
theorem surv1_any (s : Bool) (A : Option Addr) (n c : Nat) (w : World) (hn : n ≤ 9223372036854775807) : Calls Try.prog 35 #[.agg #[.bool s, .slice A n c]] w (SamePost w (decide (60 < n))) := by
  have HF := Lib.hid (show SamePost w (decide (60 < n)) (.returned (.bool (decide ((60 : Int) < (n : Int))))) (w.alloc (.cells #[.bool s, .slice A n c] 58)) from ⟨by rw [decide_eq_decide.2 (show ((60 : Int) < (n : Int)) ↔ 60 < n by omega)], (Below.refl _ _).alloc (Nat.le_refl _) _⟩)
  go_enter Try.func35, Try.ntmps35
  go_wp2
  go_ret
  exact HF.out

def tooLongA (ac : List (Bool × List Int)) : Bool := ac.any fun r => decide (60 < r.2.length)
def IdxAPost (b : Bool) (w : World) (e : Ending) (w' : World) : Prop := (∃ r : Int, e = .returned (.int .i64 r) ∧ decide (0 ≤ r) = b ∧ -1 ≤ r ∧ r < 9223372036854775807) ∧ Below w.heap.size w w'

set_option maxHeartbeats 400000 in
theorem indexa_any (A : Option Addr) (n c : Nat) (rs : List (Bool × List Int)) (w : World) (h : ActsIn w A n rs) :
    Calls Try.prog 50 #[.slice A n c, .func (.func 35) #[] #[]] w (IdxAPost (tooLongA rs) w) := by
  have hle := h.le
  have HL := Lib.hid h.len
  have HA := Lib.hid h
  clear h
  go_enter Try.func50, Try.ntmps50
  go_wp2
  go_loopw [8] (fun i wr => ∃ k : Nat, k ≤ n ∧ i = .int .i64 (k : Int) ∧ (∀ j, j < k → (rs.getD j (false, [])).2.length ≤ 60) ∧ Below w.heap.size w wr) (fun i _ => n - (intOf i).toNat)
  case atStart => exact ⟨0, Nat.zero_le _, rfl, fun j hj => absurd hj (by omega), Below.refl _ _⟩
  case round =>
    obtain ⟨k, hk, rfl, hno, hbel⟩ := hrel
    have HS := Lib.hid hno
    have HB := Lib.hid hbel
    have hsz := hbel.size
    clear hno hbel
    by_cases hlt : k < n
    · obtain ⟨b, off, rfl, hbl, hcc⟩ := HA.out.cells (by omega)
      obtain ⟨Ai, ni, ci, hc0, hc1, hB1⟩ := hcc k hlt
      have hd0 := (HB.out.cell (p := ⟨b, off + k * 2, none⟩) hbl).trans hc0
      have hd1 := (HB.out.cell (p := ⟨b, off + k * 2 + 1, none⟩) hbl).trans hc1
      have hni := Lib.hid hB1.len
      have hnb := hB1.le
      have hnc := hB1.cap
      have HE := Lib.hid (surv1_any (rs.getD k (false, [])).1 Ai ni ci wr (by omega))
      clear hB1 hcc hc0 hc1
      generalize (rs.getD k (false, [])).1 = sk at *
      by_cases hx : 60 < ni
      · rw [decide_eq_true hx] at HE
        have HF := Lib.hid (show ∀ w1, Below wr.heap.size wr w1 → IdxAPost (tooLongA rs) w (.returned (.int .i64 (k : Int))) w1 from fun w1 hb => ⟨⟨k, rfl, by
          rw [decide_eq_true (by omega)]
          symm
          rw [tooLongA, List.any_eq_true]
          have hkl : k < rs.length := by rw [HL.out]; exact hlt
          have he : rs.getD k (false, []) = rs[k] := by simp [List.getD_eq_getElem?_getD, hkl]
          refine ⟨rs[k], List.getElem_mem hkl, ?_⟩
          rw [← he, hni.out]; simpa using hx, by omega, by omega⟩, HB.out.trans (hb.mono hsz)⟩)
        go_wp2_with fail
        refine HE.out.mono ?_
        rintro e w1 ⟨rfl, hb⟩
        have HF1 := Lib.hid (HF.out w1 hb)
        clear hb hd0 hd1
        go_wp2
        go_ret
        exact HF1.out
      · rw [decide_eq_false hx] at HE
        go_wp2_with fail
        refine HE.out.mono ?_
        rintro e w1 ⟨rfl, hb⟩
        have HB1 := Lib.hid (HB.out.trans (hb.mono hsz))
        clear hb hd0 hd1
        go_wp2
        go_roundw
        case rel =>
          refine ⟨k + 1, by omega, by go_num, fun j hj => ?_, HB1.out⟩
          by_cases e : j = k
          · rw [e, hni.out]; omega
          · exact HS.out j (by omega)
        case measure => simp [intOf]; omega
    · have HF := Lib.hid (show IdxAPost (tooLongA rs) w (.returned (.int .i64 (-1))) wr from ⟨⟨-1, rfl, by
        rw [decide_eq_false (by omega)]
        symm
        rw [tooLongA, List.any_eq_false]
        intro r hr
        obtain ⟨i, hi, he⟩ := List.getElem_of_mem hr
        have := HS.out i (by have := HL.out; omega)
        rw [List.getD_eq_getElem?_getD, List.getElem?_eq_getElem hi] at this
        simp only [Option.getD_some] at this
        rw [← he]; simpa using this, by omega, by omega⟩, HB.out⟩)
      go_wp2
      go_ret
      exact HF.out

set_option maxHeartbeats 400000 in
theorem containsa_any (A : Option Addr) (n c : Nat) (rs : List (Bool × List Int)) (w : World) (h : ActsIn w A n rs) :
    Calls Try.prog 34 #[.slice A n c, .func (.func 35) #[] #[]] w (SamePost w (tooLongA rs)) := by
  have HI := Lib.hid (indexa_any A n c rs w h)
  clear h
  generalize tooLongA rs = t at *
  go_enter Try.func34, Try.ntmps34
  go_wp2_with fail
  refine HI.out.mono ?_
  rintro e w' ⟨⟨r, rfl, hr, _, _⟩, hb⟩
  have HF := Lib.hid (show SamePost w t (.returned (.bool (decide (0 ≤ r)))) w' from ⟨by rw [hr], hb⟩)
  clear hr hb
  go_wp2
  go_ret
  exact HF.out

/-- Slice values that read ac lists of bytes. -/
def ValsIn (w : World) (vs : List Value) (rs : List (List Int)) : Prop :=
  vs.length = rs.length ∧ ∀ i, i < rs.length → ∃ Ai ni ci, vs[i]? = some (.slice Ai ni ci) ∧ Bytes w Ai ni ci (rs.getD i [])
theorem ValsIn.nil (w : World) : ValsIn w [] [] := ⟨rfl, fun i hi => by simp at hi⟩
theorem ValsIn.below {w w' : World} {vs : List Value} {rs : List (List Int)} {B : Nat} (h : ValsIn w vs rs) (hb : Below B w w') (hB : w.heap.size ≤ B) : ValsIn w' vs rs :=
  ⟨h.1, fun i hi => by obtain ⟨Ai, ni, ci, h1, h2⟩ := h.2 i hi; exact ⟨Ai, ni, ci, h1, h2.below hb hB⟩⟩
theorem ValsIn.snoc {w : World} {vs : List Value} {rs : List (List Int)} {A : Option Addr} {n c : Nat} {r : List Int} (h : ValsIn w vs rs) (hr : Bytes w A n c r) : ValsIn w (vs ++ [.slice A n c]) (rs ++ [r]) := by
  refine ⟨by simp [h.1], fun i hi => ?_⟩
  simp at hi
  by_cases e : i < rs.length
  · obtain ⟨Ai, ni, ci, h1, h2⟩ := h.2 i e
    refine ⟨Ai, ni, ci, by rw [List.getElem?_append_left (by rw [h.1]; exact e)]; exact h1, ?_⟩
    rw [List.getD_eq_getElem?_getD, List.getElem?_append_left e, ← List.getD_eq_getElem?_getD]; exact h2
  · have : i = rs.length := by omega
    subst this
    refine ⟨A, n, c, by rw [← h.1]; simp, ?_⟩
    simpa [List.getD_eq_getElem?_getD] using hr
theorem ValsIn.one {w : World} {vs : List Value} {rs : List (List Int)} (h : ValsIn w vs rs) : ∀ u ∈ vs, u.oneCell' = true := by
  intro u hu
  obtain ⟨i, hi, he⟩ := List.getElem_of_mem hu
  obtain ⟨Ai, ni, ci, h1, _⟩ := h.2 i (by rw [← h.1]; exact hi)
  rw [List.getElem?_eq_getElem hi, he] at h1
  injection h1 with h1
  rw [h1]; rfl
theorem ValsIn.of_recs {w : World} {B : Nat} {vs : List Value} {rs : List (List Int)} (h : Recs w B vs rs) (hb : ∀ r ∈ rs, AllBytes r) : ValsIn w vs rs := by
  refine ⟨h.length, fun i hi => ?_⟩
  obtain ⟨Ai, ci, e, ho⟩ := h.at_ i hi
  exact ⟨Ai, _, ci, e, bytes_of_own ho (hb _ (by rw [List.getD_eq_getElem?_getD, List.getElem?_eq_getElem hi]; exact List.getElem_mem _))⟩
theorem rows_of_vals {w : World} {B n c : Nat} {A : Option Addr} {vs : List Value} {rs : List (List Int)} (h : w.ownsRow B 22 1 (.slice A n c) n vs) (hv : ValsIn w vs rs) : RowsIn w A n rs := by
  have hl : vs.length = n := by have := h.1; simpa using this
  have hn : rs.length = n := by rw [← hv.1]; exact hl
  rcases h.2 with ⟨hvv, rfl⟩ | ⟨g, cap, cur, hvv, _, hg, hnc, hm, _⟩
  · injection hvv with h1 h2 h3
    exact ⟨hn, by omega, fun h => absurd h (by omega)⟩
  · injection hvv with h1 h2 h3
    subst h1 h3
    refine ⟨hn, by unfold maxLen at hm; omega, fun hn' => ⟨g, 0, rfl, ?_, fun i hi => ?_⟩⟩
    · rcases Nat.lt_or_ge g w.heap.size with hlt | hge
      · exact hlt
      · rw [Array.getElem?_eq_none hge] at hg; cases hg
    · obtain ⟨Ai, ni, ci, e, hB⟩ := hv.2 i (by omega)
      exact ⟨Ai, ni, ci, by rw [Nat.zero_add, h.cellAt i (by omega), e], hB⟩

def Clone2Post (w : World) (n : Nat) (vs : List Value) (e : Ending) (w' : World) : Prop := ∃ A c, e = .returned (.slice A n c) ∧ w'.ownsRow w.heap.size 22 1 (.slice A n c) n vs ∧ Below w.heap.size w w'

set_option maxHeartbeats 400000 in
theorem clone2_any (B : Nat) (A : Option Addr) (n c : Nat) (vs : List Value) (w : World) (h : w.ownsRow B 22 1 (.slice A n c) n vs) (h1 : ∀ u ∈ vs, u.oneCell' = true) (hn : n ≤ 2000000) :
    Calls Try.prog 36 #[.slice A n c] w (Clone2Post w n vs) := by
  have hl : vs.length = n := by have := h.1; simpa using this
  cases A with
  | none =>
    have h0 : n = 0 ∧ c = 0 ∧ vs = [] := by
      rcases h.2 with ⟨hv, hx⟩ | ⟨g, cap, cur, hv, _⟩
      · injection hv with i1 i2 i3
        exact ⟨hx, i3, List.eq_nil_of_length_eq_zero (by omega)⟩
      · injection hv with i1; cases i1
    obtain ⟨rfl, rfl, rfl⟩ := h0
    have HF := Lib.hid (show Clone2Post w 0 [] (.returned (.slice none 0 0)) w from ⟨none, 0, rfl, World.ownsRow_nil _ _ _ _, Below.refl _ _⟩)
    have he : ∀ w, (binOp .eql 43 (.slice none 0 0) (.slice none 0 0)).run Try.prog w = .ok (.bool true) w := fun w => Lib.run_eql_slice_nil (P := Try.prog) w 43 22 none 0 0 0 0 Try.underlying43
    clear h h1 hl
    go_enter Try.func36, Try.ntmps36
    go_wp2
    go_ret
    exact HF.out
  | some a =>
    obtain ⟨i0, hi, iz0, iz1, iz2⟩ := info_parts sl_info
    have he : ∀ w, (binOp .eql 43 (.slice (some a) n c) (.slice none 0 0)).run Try.prog w = .ok (.bool false) w := fun w => Lib.run_eql_slice_nil (P := Try.prog) w 43 22 (some a) n c 0 0 Try.underlying43
    have hr := Lib.hid ((Reads.of_own h).alloc (Nat.le_refl _) (.cells #[] 22))
    have HO := Lib.hid (World.ownsRow_made (base := w.heap.size) (e := 22) (size := 1) w #[] 0 (Nat.le_refl _) (by decide) rfl)
    have H1 := Lib.hid h1
    clear h h1 hl
    go_enter Try.func36, Try.ntmps36
    go_wp2_with (at_builtin; refine wpList_append_any _ rfl (.tmp 5) (.tmp 6) 43 rfl w.heap.size 22 i0 (.slice none 0 0) 1 24 Try.underlying43 hi iz0 iz1 iz2 rfl (by decide) (.slice (some ⟨w.heap.size, 0, none⟩) 0 0) 0 [] rfl HO.out w.heap.size (some a) n c vs rfl hr.out H1.out ?c1 ?c2 ?c3 ?_)
    case c1 => unfold maxLen; omega
    case c2 => omega
    case c3 => simp
    intro v' w1 hown2 hg _
    have hb : Below w.heap.size w w1 := ((Below.refl _ _).alloc (Nat.le_refl _) _).grown hg (by simp) (fun k hk => by simp [Value.ownBlock] at hk; omega)
    obtain ⟨A', c', rfl⟩ := own_slice hown2
    have HF := Lib.hid (show Clone2Post w n vs (.returned (.slice A' n c')) w1 from ⟨A', c', rfl, by simpa using hown2, hb⟩)
    clear hown2 hg hb HO hr
    go_wp2
    go_ret
    exact HF.out
end Go.Proofs.Ytioedljihlfcaaa

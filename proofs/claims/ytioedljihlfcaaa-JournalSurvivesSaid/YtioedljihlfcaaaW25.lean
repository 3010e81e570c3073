import Derived.Test.YtioedljihlfcaaaW22
import Derived.Laws.BytesArg
import Derived.Lib.Bytes

namespace Go.Proofs.Ytioedljihlfcaaa
open Go.RowKit

theorem conv_zero {P : Program} (w : World) (src e : TypeId) (hs : P.underlying src = some (.slice e)) (he : P.underlying e = some (.int .u8)) (p : Option Addr) (c : Nat) (dst : TypeId) (hd : P.underlying dst = some .string) :
    (convert src dst (.slice p 0 c)).run P w = .ok (.string (strOfNums [])) w := by
  rw [run_convert_bytes_string w src dst e _ 0 c hs he hd]
  cases p <;> simp [Conv.bytesToString, loadCells]
  all_goals rfl
theorem Bytes.conv {w : World} {A : Option Addr} {n c : Nat} {l : List Int} (h : Bytes w A n c l) : (convert 22 9 (.slice A n c)).run Try.prog w = .ok (.string (strOfNums l)) w := by
  rcases Nat.eq_zero_or_pos n with hn | hn
  · have hl : l = [] := List.eq_nil_of_length_eq_zero (by rw [h.len, hn])
    subst hn; subst hl
    exact conv_zero w 22 5 Try.underlying22 Try.underlying5 A c 9 Try.underlying9
  · obtain ⟨b, off, rfl, _, hc⟩ := h.cells hn
    exact run_convert_bytes_arg (P := Try.prog) w 22 5 Try.underlying22 Try.underlying5 b off n c l h.len hc 9 Try.underlying9
theorem map_u8_inj : ∀ {l l' : List Int}, AllBytes l → AllBytes l' → l.map (fun n => UInt8.ofNat n.toNat) = l'.map (fun n => UInt8.ofNat n.toNat) → l = l'
  | [], [], _, _, _ => rfl
  | [], _ :: _, _, _, h => by simp at h
  | _ :: _, [], _, _, h => by simp at h
  | a :: l, b :: l', ha, hb, h => by
    simp only [List.map_cons, List.cons.injEq] at h
    have h1 := ha a (by simp)
    have h2 := hb b (by simp)
    have e : a = b := by
      have := congrArg UInt8.toNat h.1
      simp at this
      omega
    rw [e, map_u8_inj (fun x hx => ha x (by simp [hx])) (fun x hx => hb x (by simp [hx])) h.2]
theorem str_eq {l l' : List Int} (h : AllBytes l) (h' : AllBytes l') : ((strOfNums l).toList == (strOfNums l').toList) = decide (l = l') := by
  rw [Lib.strOfNums_toList, Lib.strOfNums_toList]
  by_cases e : l = l'
  · subst e; simp
  · rw [decide_eq_false e, beq_eq_false_iff_ne]
    intro hh
    exact e (map_u8_inj h h' hh)

set_option maxHeartbeats 400000 in
theorem equal_any (A A' : Option Addr) (n c n' c' : Nat) (l l' : List Int) (w : World) (h : Bytes w A n c l) (h' : Bytes w A' n' c' l') :
    Calls Try.prog 30 #[.slice A n c, .slice A' n' c'] w (BoolPost (decide (l = l')) w) := by
  have k1 := h.conv
  have k2 := h'.conv
  have HE := Lib.hid (show BoolPost (decide (l = l')) w (.returned (.bool ((strOfNums l).toList == (strOfNums l').toList))) w from ⟨by rw [str_eq h.bytes h'.bytes], rfl⟩)
  clear h h'
  generalize strOfNums l = x at *
  generalize strOfNums l' = y at *
  go_enter Try.func30, Try.ntmps30
  go_wp2
  go_ret
  exact HE.out

/-- A slice of slices of bytes. -/
structure RowsIn (w : World) (A : Option Addr) (n : Nat) (rs : List (List Int)) : Prop where
  len : rs.length = n
  le : n ≤ 9223372036854775807
  cells : 0 < n → ∃ b off, A = some ⟨b, off, none⟩ ∧ b < w.heap.size ∧ ∀ i, i < n → ∃ Ai ni ci, w.cell? ⟨b, off + i, none⟩ = some (.slice Ai ni ci) ∧ Bytes w Ai ni ci (rs.getD i [])
theorem RowsIn.below {w w' : World} {A : Option Addr} {n : Nat} {rs : List (List Int)} {B : Nat} (h : RowsIn w A n rs) (hb : Below B w w') (hB : w.heap.size ≤ B) : RowsIn w' A n rs :=
  ⟨h.len, h.le, fun hn => by
    obtain ⟨b, off, e, hlt, hc⟩ := h.cells hn
    refine ⟨b, off, e, Nat.lt_of_lt_of_le hlt hb.size, fun i hi => ?_⟩
    obtain ⟨Ai, ni, ci, h1, h2⟩ := hc i hi
    exact ⟨Ai, ni, ci, (hb.cell (p := ⟨b, off + i, none⟩) (Nat.lt_of_lt_of_le hlt hB)).trans h1, h2.below hb hB⟩⟩
theorem Recs.at_ {w : World} {B : Nat} : ∀ {vs : List Value} {rs : List (List Int)}, Recs w B vs rs → ∀ i, i < rs.length → ∃ Ai ci, vs[i]? = some (.slice Ai (rs.getD i []).length ci) ∧ w.ownsRow B 5 1 (.slice Ai (rs.getD i []).length ci) (rs.getD i []).length ((rs.getD i []).map (Value.int .u8))
  | [], [], _, i, hi => by simp at hi
  | v :: vs, r :: rs, ⟨⟨A, c, hv, ho⟩, h⟩, i, hi => by
    subst hv
    cases i with
    | zero => exact ⟨A, c, by simp, by simpa using ho⟩
    | succ i => simpa using Recs.at_ h i (by simpa using hi)
theorem rows_of_own {w : World} {B B' n c : Nat} {A : Option Addr} {vs : List Value} {rs : List (List Int)} (h : w.ownsRow B 22 1 (.slice A n c) n vs) (hr : Recs w B' vs rs) (hn : rs.length = n) (hb : ∀ r ∈ rs, AllBytes r) : RowsIn w A n rs := by
  rcases h.2 with ⟨hv, rfl⟩ | ⟨g, cap, cur, hv, _, hg, hnc, hm, _⟩
  · injection hv with h1 h2 h3
    subst h1 h3
    exact ⟨hn, by omega, fun h => absurd h (by omega)⟩
  · injection hv with h1 h2 h3
    subst h1 h3
    refine ⟨hn, by unfold maxLen at hm; omega, fun hn' => ⟨g, 0, rfl, ?_, fun i hi => ?_⟩⟩
    · rcases Nat.lt_or_ge g w.heap.size with hlt | hge
      · exact hlt
      · rw [Array.getElem?_eq_none hge] at hg; cases hg
    · obtain ⟨Ai, ci, e, ho⟩ := hr.at_ i (by omega)
      refine ⟨Ai, _, ci, ?_, bytes_of_own ho (hb _ ?_)⟩
      · rw [Nat.zero_add, h.cellAt i (by omega), e]
      · rw [List.getD_eq_getElem?_getD, List.getElem?_eq_getElem (by omega)]; exact List.getElem_mem _

set_option maxHeartbeats 400000 in
theorem eqfunc_any (A A' : Option Addr) (n c n' c' : Nat) (rs rs' : List (List Int)) (w : World) (h : RowsIn w A n rs) (h' : RowsIn w A' n' rs') :
    Calls Try.prog 28 #[.slice A n c, .slice A' n' c', .func (.func 30) #[] #[]] w (BoolPost (decide (rs = rs')) w) := by
  have hle := h.le
  have hle' := h'.le
  by_cases hnn : n = n'
  · subst hnn
    have HC := h.cells
    have HC' := h'.cells
    have hne : ((n : Int) != (n : Int)) = false := by simp
    have HL := Lib.hid h.len
    have HL' := Lib.hid h'.len
    clear h h'
    go_enter Try.func28, Try.ntmps28
    go_wp2
    go_loop [17] (fun i => ∃ k : Nat, k ≤ n ∧ i = .int .i64 (k : Int) ∧ ∀ j, j < k → rs.getD j [] = rs'.getD j []) (fun i => n - (intOf i).toNat)
    case atStart => exact ⟨0, Nat.zero_le _, rfl, fun j hj => absurd hj (by omega)⟩
    case round =>
      obtain ⟨k, hk, rfl, hsame⟩ := hrel
      have HS := Lib.hid hsame
      clear hsame
      by_cases hlt : k < n
      · obtain ⟨b, off, rfl, _, hcc⟩ := HC (by omega)
        obtain ⟨b', off', rfl, _, hcc'⟩ := HC' (by omega)
        obtain ⟨Ai, ni, ci, hc1, hB1⟩ := hcc k hlt
        obtain ⟨Aj, nj, cj, hc2, hB2⟩ := hcc' k hlt
        have HE := Lib.hid (equal_any Ai Aj ni ci nj cj _ _ w hB1 hB2)
        clear hB1 hB2 HC HC' hcc hcc'
        by_cases hx : rs.getD k [] = rs'.getD k []
        · have HX := Lib.hid hx
          rw [decide_eq_true hx] at HE
          clear hx
          go_wp2_with fail
          refine HE.out.mono ?_
          rintro e w1 ⟨rfl, rfl⟩
          go_wp2
          go_round
          case rel =>
            refine ⟨k + 1, by omega, by go_num, fun j hj => ?_⟩
            by_cases e : j = k
            · rw [e, HX.out]
            · exact HS.out j (by omega)
          case measure => simp [intOf]; omega
        · rw [decide_eq_false hx] at HE
          have HF := Lib.hid (show BoolPost (decide (rs = rs')) w (.returned (.bool false)) w from ⟨by rw [decide_eq_false (fun e => hx (by rw [e]))], rfl⟩)
          clear hx
          go_wp2_with fail
          refine HE.out.mono ?_
          rintro e w1 ⟨rfl, rfl⟩
          go_wp2
          go_ret
          exact HF.out
      · have HF := Lib.hid (show BoolPost (decide (rs = rs')) w (.returned (.bool true)) w from ⟨by
          rw [decide_eq_true]
          apply List.ext_getElem (by rw [HL.out, HL'.out])
          intro i h1 h2
          have := HS.out i (by have := HL.out; omega)
          simpa [List.getD_eq_getElem?_getD, h1, h2] using this, rfl⟩)
        clear HC HC'
        go_wp2
        go_ret
        exact HF.out
  · have HF := Lib.hid (show BoolPost (decide (rs = rs')) w (.returned (.bool false)) w from ⟨by rw [decide_eq_false (fun e => hnn (by rw [← h.len, ← h'.len, e]))], rfl⟩)
    have hne : ((n : Int) != (n' : Int)) = true := by rw [bne_iff_ne]; intro hh; exact hnn (by omega)
    clear h h' hnn
    go_enter Try.func28, Try.ntmps28
    go_wp2
    go_ret
    exact HF.out
end Go.Proofs.Ytioedljihlfcaaa

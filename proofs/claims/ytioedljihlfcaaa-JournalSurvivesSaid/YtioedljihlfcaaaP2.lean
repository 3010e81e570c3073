import Derived.Test.YtioedljihlfcaaaW28

/- The plain law of survival. No program here. -/
namespace Go.Proofs.Ytioedljihlfcaaa
open Go.RowKit

/-- A part of a frame is none. -/
theorem frame_part (r : List Int) (hr : r.length ≤ 65535) (k : Nat) (hk : k < 8 + r.length) : frameOk ((frameL r).take k) = false := by
  cases hf : frameOk ((frameL r).take k) with
  | false => rfl
  | true =>
    exfalso
    have h := (frameOk_iff _).1 hf
    have hl : ((frameL r).take k).length = k := by rw [List.length_take, frameL_length]; omega
    have hrd : rd ((frameL r).take k) = r.length := by
      rw [rd_take _ _ (by omega)]
      have := rd_num4 (r.length : Int) (by omega) (by omega) (r ++ num4 (sumL (headL r)))
      rw [← List.append_assoc] at this
      exact this
    omega
/-- The frames of the first bytes are the first frames. -/
theorem frames_take : ∀ (rs : List (List Int)) (t : List Int), (∀ r ∈ rs, r.length ≤ 65535) → frames t = [] → (∀ k, frames (t.take k) = []) → ∀ m : Nat, ∃ j, j ≤ rs.length ∧ frames ((flat rs ++ t).take m) = rs.take j ∧ (∀ i, i ≤ rs.length → total (rs.take i) ≤ m → i ≤ j) := by
  intro rs
  induction rs with
  | nil =>
    intro t _ _ ht m
    exact ⟨0, Nat.le_refl _, by simpa [flat] using ht m, fun i hi _ => by simpa using hi⟩
  | cons r rs ih =>
    intro t hr h0 ht m
    have hrl := hr r (by simp)
    have hfl := frameL_length r
    have hcat : flat (r :: rs) ++ t = frameL r ++ (flat rs ++ t) := by simp [flat]
    rw [hcat]
    by_cases hm : 8 + r.length ≤ m
    · obtain ⟨j, hj, hf, hi⟩ := ih t (fun x hx => hr x (by simp [hx])) h0 ht (m - (8 + r.length))
      refine ⟨j + 1, by simpa using hj, ?_, ?_⟩
      · rw [List.take_append, hfl, List.take_of_length_le (by omega), frames_app _ _ hrl, hf]; rfl
      · intro i hi' ht'
        cases i with
        | zero => omega
        | succ i =>
          have : total ((r :: rs).take (i + 1)) = (8 + r.length) + total (rs.take i) := by simp [total]
          rw [this] at ht'
          have := hi i (by simpa using hi') (by omega)
          omega
    · refine ⟨0, Nat.zero_le _, ?_, ?_⟩
      · rw [List.take_append, hfl, show m - (8 + r.length) = 0 by omega, List.take_zero, List.append_nil, frames_no (frame_part r hrl m (by omega))]; rfl
      · intro i hi' ht'
        cases i with
        | zero => omega
        | succ i =>
          exfalso
          have : total ((r :: rs).take (i + 1)) = (8 + r.length) + total (rs.take i) := by simp [total]
          omega

/-- A disk while it is written: its whole frames are what was appended; what was synced; behind a crash a part of a frame may stand. -/
structure Live (l : List Int) (s a : Int) (D : List (List Int)) (sy k : Nat) : Prop where
  good : Good D
  short : ∀ r ∈ D, r.length ≤ 60
  data : ∃ t, l = flat D ++ t ∧ (t = [] ∨ (a = 0 ∧ ∃ r q, AllBytes r ∧ r.length ≤ 60 ∧ q < 8 + r.length ∧ t = (frameL r).take q))
  le : sy ≤ D.length
  synced : s = ((total (D.take sy) : Nat) : Int)
  after : -1 ≤ a ∧ a ≤ 1048576
  cnt : D.length ≤ k
theorem part_frames (r : List Int) (hr : r.length ≤ 60) (q : Nat) (hq : q < 8 + r.length) : frames ((frameL r).take q) = [] ∧ ∀ k, frames (((frameL r).take q).take k) = [] := by
  refine ⟨frames_no (frame_part r (by omega) q hq), fun k => ?_⟩
  rw [List.take_take]
  exact frames_no (frame_part r (by omega) _ (by omega))
theorem Live.tail {l : List Int} {s a : Int} {D : List (List Int)} {sy k : Nat} (h : Live l s a D sy k) : ∃ t, l = flat D ++ t ∧ frames t = [] ∧ (∀ k, frames (t.take k) = []) ∧ t.length ≤ 68 ∧ AllBytes t ∧ (a ≠ 0 → t = []) := by
  obtain ⟨t, hl, ht⟩ := h.data
  refine ⟨t, hl, ?_⟩
  rcases ht with rfl | ⟨ha, r, q, hrb, hr, hq, rfl⟩
  · exact ⟨frames_nil, fun k => by simp [frames_nil], by simp, AllBytes.nil, fun _ => rfl⟩
  · obtain ⟨h1, h2⟩ := part_frames r hr q hq
    exact ⟨h1, h2, by rw [List.length_take, frameL_length]; omega, (frameL_bytes hrb (by omega)).take q, fun h => absurd ha h⟩
theorem Live.frs {l : List Int} {s a : Int} {D : List (List Int)} {sy k : Nat} (h : Live l s a D sy k) : frames l = D := by
  obtain ⟨t, hl, ht, _⟩ := h.tail
  rw [hl, frames_flat _ _ (fun r hr => (h.good r hr).2), ht, List.append_nil]
theorem Live.tot {l : List Int} {s a : Int} {D : List (List Int)} {sy k : Nat} (h : Live l s a D sy k) : total D ≤ 68 * D.length := total_60 D h.short
theorem Live.len {l : List Int} {s a : Int} {D : List (List Int)} {sy k : Nat} (h : Live l s a D sy k) : l.length ≤ 68 * (k + 1) := by
  obtain ⟨t, hl, _, _, h1, _⟩ := h.tail
  have := h.tot
  have := h.cnt
  rw [hl, List.length_append, flat_length]; omega
theorem Live.bytes {l : List Int} {s a : Int} {D : List (List Int)} {sy k : Nat} (h : Live l s a D sy k) : AllBytes l := by
  obtain ⟨t, hl, _, _, _, hb, _⟩ := h.tail
  rw [hl]
  exact (h.good.bytes (fun r hr => (h.good r hr).2)).append hb
theorem cum_take (rs : List (List Int)) (i : Nat) (hi : i ≤ rs.length) : ((total (rs.take i) : Nat) : Int) ∈ cum 0 rs := by
  have h := cum_getD rs 0 i hi
  rw [Nat.zero_add] at h
  rw [← h, List.getD_eq_getElem?_getD, List.getElem?_eq_getElem (by rw [cum_length]; omega)]
  exact List.getElem_mem _
theorem Live.valid {l : List Int} {s a : Int} {D : List (List Int)} {sy k : Nat} (h : Live l s a D sy k) (hk : k ≤ 14) : validB l s a = true := by
  have h1 := h.len
  have h2 := h.frs
  have h3 := cum_take D sy h.le
  rw [← h.synced] at h3
  unfold validB
  rw [h2]
  simp [h.after.1, h.after.2, h3, show l.length ≤ 1048576 by omega]
theorem Live.start (a : Int) (ha : -1 ≤ a ∧ a ≤ 1048576) : Live [] 0 a [] 0 0 :=
  ⟨(fun r hr => absurd hr (by simp)), (fun r hr => absurd hr (by simp)), ⟨[], rfl, .inl rfl⟩, Nat.le_refl _, rfl, ha, Nat.le_refl _⟩
theorem Live.more {l : List Int} {s a : Int} {D : List (List Int)} {sy k : Nat} (h : Live l s a D sy k) : Live l s a D sy (k + 1) := { h with cnt := by have := h.cnt; omega }
/-- A record is appended. -/
theorem Live.append {l : List Int} {s a : Int} {D : List (List Int)} {sy k : Nat} (h : Live l s a D sy k) (hk : k < 14) {r : List Int} (hb : AllBytes r) (hr : r.length ≤ 60) :
    ((appendD l s a r).e = 0 ∧ Live (appendD l s a r).l (appendD l s a r).s (appendD l s a r).a (D ++ [r]) sy (k + 1)) ∨ ((appendD l s a r).e = 19 ∧ Live (appendD l s a r).l (appendD l s a r).s (appendD l s a r).a D sy (k + 1)) := by
  have hv := h.valid (by omega)
  have hf := h.frs
  have hlen := h.len
  obtain ⟨t, hl, ht, _, _, _, ht0⟩ := h.tail
  unfold appendD
  rw [if_neg (by rw [hv]; decide), if_neg (by omega)]
  by_cases ha : a = 0
  · rw [if_pos ha]; exact .inr ⟨rfl, h.more⟩
  rw [if_neg ha]
  obtain rfl := ht0 ha
  rw [List.append_nil] at hl
  have htl : total (frames l) = l.length := by rw [hf, hl, flat_length]
  rw [if_neg (by omega), if_neg (by omega)]
  have hgood : Good (D ++ [r]) := by
    intro x hx
    rcases List.mem_append.1 hx with hx | hx
    · exact h.good x hx
    · simp at hx; subst hx; exact ⟨hb, by omega⟩
  have hshort : ∀ x ∈ D ++ [r], x.length ≤ 60 := by
    intro x hx
    rcases List.mem_append.1 hx with hx | hx
    · exact h.short x hx
    · simp at hx; subst hx; exact hr
  have hsyn : s = ((total ((D ++ [r]).take sy) : Nat) : Int) := by rw [List.take_append_of_le_length h.le]; exact h.synced
  have hle : sy ≤ (D ++ [r]).length := by have := h.le; simp; omega
  have hcnt : (D ++ [r]).length ≤ k + 1 := by have := h.cnt; simp; omega
  have hdat : ∀ a' : Int, ∃ t, l ++ frameL r = flat (D ++ [r]) ++ t ∧ (t = [] ∨ (a' = 0 ∧ ∃ r q, AllBytes r ∧ r.length ≤ 60 ∧ q < 8 + r.length ∧ t = (frameL r).take q)) :=
    fun _ => ⟨[], by rw [flat_append, flat_one, hl, List.append_nil], .inl rfl⟩
  have haf := h.after
  by_cases hn : a < 0
  · rw [if_pos hn]
    exact .inl ⟨rfl, hgood, hshort, hdat _, hle, hsyn, h.after, hcnt⟩
  rw [if_neg hn]
  by_cases hs : a < ((8 + r.length : Nat) : Int)
  · rw [if_pos hs]
    refine .inr ⟨rfl, h.good, h.short, ⟨(frameL r).take a.toNat, by rw [hl], .inr ⟨rfl, r, a.toNat, hb, hr, by omega, rfl⟩⟩, h.le, h.synced, (by show (-1 : Int) ≤ 0 ∧ (0 : Int) ≤ 1048576; omega), by have := h.cnt; omega⟩
  · rw [if_neg hs]
    exact .inl ⟨rfl, hgood, hshort, hdat _, hle, hsyn, (by show -1 ≤ a - ((8 + r.length : Nat) : Int) ∧ a - ((8 + r.length : Nat) : Int) ≤ 1048576; omega), hcnt⟩
theorem Live.sync {l : List Int} {s a : Int} {D : List (List Int)} {sy k : Nat} (h : Live l s a D sy k) (hk : k ≤ 14) :
    ((syncD l s a).e = 0 ∧ Live (syncD l s a).l (syncD l s a).s (syncD l s a).a D D.length k) ∨ ((syncD l s a).e = 19 ∧ Live (syncD l s a).l (syncD l s a).s (syncD l s a).a D sy k) := by
  have hv := h.valid hk
  have hf := h.frs
  obtain ⟨t, hl, ht, _, _, _, ht0⟩ := h.tail
  unfold syncD
  rw [if_neg (by rw [hv]; decide)]
  by_cases ha : a = 0
  · rw [if_pos ha]; exact .inr ⟨rfl, h⟩
  rw [if_neg ha]
  obtain rfl := ht0 ha
  rw [List.append_nil] at hl
  rw [if_neg (by rw [hf, hl, flat_length]; omega)]
  exact .inl ⟨rfl, h.good, h.short, ⟨[], by rw [List.append_nil]; exact hl, .inl rfl⟩, Nat.le_refl _, by rw [List.take_length]; show ((l.length : Nat) : Int) = _; rw [hl, flat_length], h.after, h.cnt⟩

/-- After a crash at any byte, and opening. -/
theorem Live.crash {l : List Int} {s a : Int} {D : List (List Int)} {sy k : Nat} (h : Live l s a D sy k) (hk : k ≤ 14) (keep : Int) (h0 : 0 ≤ keep) (h1 : keep ≤ (l.length : Int) - s) :
    (crashD l s a keep).e = 0 ∧ ∃ j, sy ≤ j ∧ j ≤ D.length ∧
      ((openD (crashD l s a keep).l (crashD l s a keep).s (crashD l s a keep).a).l = flat (D.take j) ∧ (openD (crashD l s a keep).l (crashD l s a keep).s (crashD l s a keep).a).s = ((total (D.take j) : Nat) : Int) ∧
       (openD (crashD l s a keep).l (crashD l s a keep).s (crashD l s a keep).a).a = -1 ∧ (openD (crashD l s a keep).l (crashD l s a keep).s (crashD l s a keep).a).e = 0) := by
  have hv := h.valid hk
  obtain ⟨t, hl, ht, htk, _, _, _⟩ := h.tail
  have hlen := h.len
  have hs := h.synced
  have hcr : crashD l s a keep = ⟨l.take (s + keep).toNat, s, -1, 0⟩ := by
    unfold crashD; rw [if_neg (by rw [hv]; decide), if_neg (by omega)]
  rw [hcr]
  obtain ⟨j, hj, hf, hi⟩ := frames_take D t (fun r hr => (h.good r hr).2) ht htk (s + keep).toNat
  rw [← hl] at hf
  have hsj : sy ≤ j := hi sy h.le (by omega)
  have hvv : validB (l.take (s + keep).toNat) s (-1) = true := by
    have hm : s ∈ cum 0 (D.take j) := by
      have := cum_take (D.take j) sy (by simp; omega)
      rw [List.take_take, Nat.min_eq_left hsj] at this
      rw [hs]; exact this
    unfold validB
    rw [hf]
    simp [hm, show min (s + keep).toNat l.length ≤ 1048576 by omega]
  refine ⟨rfl, j, hsj, hj, ?_⟩
  unfold openD
  rw [if_neg (by rw [hvv]; decide), if_neg (show ¬ (-1 : Int) = 0 by omega), hf]
  refine ⟨?_, rfl, rfl, rfl⟩
  show (l.take (s + keep).toNat).take (total (D.take j)) = flat (D.take j)
  have h4 : total (D.take j) ≤ (l.take (s + keep).toNat).length := by
    have := total_le _ (l.take (s + keep).toNat) (Nat.le_refl _)
    rwa [hf] at this
  have h5 : l.take (s + keep).toNat = flat (D.take j) ++ (l.take (s + keep).toNat).drop (total (D.take j)) := by
    have := (frames_split _ (l.take (s + keep).toNat) (Nat.le_refl _) (fun b hb => h.bytes b (List.mem_of_mem_take hb))).1
    rwa [hf] at this
  rw [h5, ← flat_length, List.take_left]
/-- .. it can be appended to, and synced. -/
theorem live_last {D : List (List Int)} {r : List Int} {s : Int} (hg : Good D) (h60 : ∀ x ∈ D, x.length ≤ 60) (hD : D.length ≤ 14) (hr : r.length ≤ 60) (hb : AllBytes r) (hs : s = ((total D : Nat) : Int)) :
    frames (flat D) = D ∧ validB (flat D) s (-1) = true ∧
    ((appendD (flat D) s (-1) r).l = flat (D ++ [r]) ∧ (appendD (flat D) s (-1) r).s = s ∧ (appendD (flat D) s (-1) r).a = -1 ∧ (appendD (flat D) s (-1) r).e = 0) ∧
    ((syncD (flat (D ++ [r])) s (-1)).l = flat (D ++ [r]) ∧ (syncD (flat (D ++ [r])) s (-1)).s = ((total (D ++ [r]) : Nat) : Int) ∧ (syncD (flat (D ++ [r])) s (-1)).a = -1 ∧ (syncD (flat (D ++ [r])) s (-1)).e = 0) ∧
    validB (flat (D ++ [r])) ((total (D ++ [r]) : Nat) : Int) (-1) = true ∧ frames (flat (D ++ [r])) = D ++ [r] := by
  have ht := total_60 D h60
  have hl : ∀ x ∈ D, x.length ≤ 65535 := fun x hx => (hg x hx).2
  have hsm : s ∈ cum 0 D := by
    have := cum_take D D.length (Nat.le_refl _)
    rw [List.take_length, ← hs] at this; exact this
  have hl' : ∀ x ∈ D ++ [r], x.length ≤ 65535 := by
    intro x hx
    rcases List.mem_append.1 hx with hx | hx
    · exact hl x hx
    · simp at hx; subst hx; omega
  have ht' : total (D ++ [r]) ≤ 1048576 := by rw [total_append]; simp [total] at ht ⊢; omega
  have hf' := frames_flat0 (D ++ [r]) hl'
  have hfl := flat_length (D ++ [r])
  have hm1 : s ∈ cum 0 (D ++ [r]) := by rw [cum_snoc]; exact List.mem_append_left _ hsm
  have hm2 : ((total (D ++ [r]) : Nat) : Int) ∈ cum 0 (D ++ [r]) := by rw [cum_snoc]; simp
  have hv2 := valid_flat (s := s) (a := -1) hl' ht' (by omega) hm1
  refine ⟨frames_flat0 D hl, valid_flat hl (by omega) (by omega) hsm, appendD_flat hl (by omega) (by omega) hsm, ?_, valid_flat hl' ht' (by omega) hm2, hf'⟩
  unfold syncD
  rw [if_neg (by rw [hv2]; decide), if_neg (by omega), if_neg (by rw [hf', hfl]; omega)]
  exact ⟨rfl, by rw [hfl], rfl, rfl⟩
end Go.Proofs.Ytioedljihlfcaaa

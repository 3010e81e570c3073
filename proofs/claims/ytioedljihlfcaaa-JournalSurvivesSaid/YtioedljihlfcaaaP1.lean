import Derived.Test.YtioedljihlfcaaaW9

/- The plain law of frames: what is framed is read back; a changed byte is noticed. No program here. -/
namespace Go.Proofs.Ytioedljihlfcaaa
open Go.RowKit

def flat (rs : List (List Int)) : List Int := rs.flatMap frameL
def Good (rs : List (List Int)) : Prop := ∀ r ∈ rs, AllBytes r ∧ r.length ≤ 65535

theorem rd_num4 (x : Int) (_h0 : 0 ≤ x) (_h1 : x < 4294967296) (t : List Int) : rd (num4 x ++ t) = x := by
  simp [rd, num4]; omega
theorem rd_take (l : List Int) (k : Nat) (h : 4 ≤ k) : rd (l.take k) = rd l := by
  unfold rd
  rw [getD_take _ _ _ (by omega), getD_take _ _ _ (by omega), getD_take _ _ _ (by omega), getD_take _ _ _ (by omega)]
theorem frame_head (b t : List Int) (hn : b.length ≤ 65535) : frameOk (frameL b ++ t) = true ∧ recOf (frameL b ++ t) = b ∧ restOf (frameL b ++ t) = t ∧ (rd (frameL b ++ t)).toNat = b.length := by
  have h1 : rd (frameL b ++ t) = b.length := by
    rw [frameL, headL, List.append_assoc, List.append_assoc]
    exact rd_num4 _ (by omega) (by omega) _
  have hl := frameL_length b
  have e : ((b.length : Int)).toNat = b.length := by omega
  have hhd : (headL b).length = 4 + b.length := headL_length b
  have hs := sumL_bd (headL b)
  refine ⟨?_, ?_, ?_, by rw [h1, e]⟩
  · rw [frameOk_iff, h1]
    refine ⟨by simp [hl]; omega, by omega, by simp [hl]; omega, ?_⟩
    rw [e, frameL, List.append_assoc, ← hhd, List.drop_left, List.take_left]
    exact rd_num4 _ hs.1 hs.2 _
  · rw [recOf, h1, e, frameL, headL, List.append_assoc, List.append_assoc, show 4 = (num4 (b.length : Int)).length from rfl, List.drop_left, List.take_left]
  · rw [restOf, h1, e, ← hl, List.drop_left]
theorem frames_app (b t : List Int) (hn : b.length ≤ 65535) : frames (frameL b ++ t) = b :: frames t := by
  obtain ⟨h1, h2, h3, _⟩ := frame_head b t hn
  rw [frames_yes h1, h2, h3]
theorem frames_flat : ∀ (rs : List (List Int)) (t : List Int), (∀ r ∈ rs, r.length ≤ 65535) → frames (flat rs ++ t) = rs ++ frames t
  | [], t, _ => rfl
  | r :: rs, t, h => by
    have ih := frames_flat rs t (fun x hx => h x (by simp [hx]))
    rw [flat, List.flatMap_cons, List.append_assoc, frames_app _ _ (h r (by simp))]
    rw [flat] at ih
    rw [ih]; rfl
theorem flat_append (a b : List (List Int)) : flat (a ++ b) = flat a ++ flat b := by simp [flat]
theorem flat_one (b : List Int) : flat [b] = frameL b := by simp [flat]
theorem flat_length (rs : List (List Int)) : (flat rs).length = total rs := by
  induction rs with
  | nil => rfl
  | cons r rs ih => simp [flat, total, frameL_length] at ih ⊢
theorem total_append (a b : List (List Int)) : total (a ++ b) = total a + total b := by simp [total]
theorem frames_nil : frames [] = [] := rfl
theorem frames_flat0 (rs : List (List Int)) (h : ∀ r ∈ rs, r.length ≤ 65535) : frames (flat rs) = rs := by
  have := frames_flat rs [] h
  simpa [frames_nil] using this

/-- Four bytes are the number's own. -/
theorem num4_rd (l : List Int) (hb : AllBytes l) (h : 4 ≤ l.length) : num4 (rd l) = l.take 4 := by
  match l, h with
  | a :: b :: c :: d :: t, _ =>
    have h0 := hb a (by simp); have h1 := hb b (by simp); have h2 := hb c (by simp); have h3 := hb d (by simp)
    simp [rd, num4]
    omega
theorem frame_split {l : List Int} (hb : AllBytes l) (hok : frameOk l = true) : l = frameL (recOf l) ++ restOf l ∧ (recOf l).length ≤ 65535 := by
  have h := (frameOk_iff l).1 hok
  have hr := hb.rd_bd
  have hrl := recOf_length hok hb
  obtain ⟨m, hm⟩ : ∃ m : Nat, rd l = m := ⟨(rd l).toNat, by omega⟩
  have e : (rd l).toNat = m := by omega
  rw [e] at hrl
  have hh : headL (recOf l) = l.take (4 + m) := by
    rw [headL, hrl, ← hm, num4_rd l hb (by omega), recOf, e, List.take_add]
  have ht : num4 (sumL (headL (recOf l))) = (l.drop (4 + m)).take 4 := by
    rw [hh, ← e, ← h.2.2.2, e]
    exact num4_rd _ (hb.drop _) (by rw [List.length_drop]; omega)
  refine ⟨?_, by omega⟩
  rw [frameL, ht, hh, restOf, e, List.append_assoc]
  have : (l.drop (4 + m)).take 4 ++ l.drop (8 + m) = l.drop (4 + m) := by
    have := List.take_append_drop 4 (l.drop (4 + m))
    rw [List.drop_drop] at this
    rw [show 8 + m = 4 + m + 4 by omega]; exact this
  rw [this, List.take_append_drop]
theorem frames_split : ∀ (f : Nat) (l : List Int), l.length ≤ f → AllBytes l → l = flat (frames l) ++ l.drop (total (frames l)) ∧ frames (l.drop (total (frames l))) = [] ∧ Good (frames l) := by
  intro f
  induction f using Nat.strongRecOn with
  | _ f ih =>
    intro l hl hb
    cases hok : frameOk l with
    | false =>
      rw [frames_no hok]
      exact ⟨by simp [flat, total], by simp [total, frames_no hok], fun r hr => by simp at hr⟩
    | true =>
      obtain ⟨h1, h2⟩ := frame_split hb hok
      have h := (frameOk_iff l).1 hok
      have hr := restOf_length l
      have hbr : AllBytes (restOf l) := hb.drop _
      obtain ⟨i1, i2, i3⟩ := ih (f - 8) (by omega) (restOf l) (by omega) hbr
      have hrec : AllBytes (recOf l) := (hb.drop 4).take _
      have hd : l.drop (total (frames l)) = (restOf l).drop (total (frames (restOf l))) := by
        rw [frames_yes hok]
        have ht : total (recOf l :: frames (restOf l)) = (8 + (rd l).toNat) + total (frames (restOf l)) := by
          simp [total, recOf_length hok hb]
        rw [ht, restOf, List.drop_drop]
      rw [hd]
      refine ⟨?_, i2, ?_⟩
      · rw [frames_yes hok]
        show l = flat (recOf l :: frames (restOf l)) ++ _
        rw [flat, List.flatMap_cons, List.append_assoc]
        rw [← flat, ← i1]; exact h1
      · rw [frames_yes hok]
        intro r hr'
        rcases List.mem_cons.1 hr' with rfl | hr'
        · exact ⟨hrec, h2⟩
        · exact i3 r hr'
theorem frames_whole {l : List Int} (hb : AllBytes l) (ht : total (frames l) = l.length) : l = flat (frames l) := by
  have := (frames_split l.length l (Nat.le_refl _) hb).1
  rwa [ht, List.drop_length, List.append_nil] at this
theorem frames_good {l : List Int} (hb : AllBytes l) : Good (frames l) := (frames_split l.length l (Nat.le_refl _) hb).2.2

/-- A frame appended to whole frames is read back. -/
theorem frames_push {l b : List Int} (hb : AllBytes l) (ht : total (frames l) = l.length) (hn : b.length ≤ 65535) : frames (l ++ frameL b) = frames l ++ [b] ∧ total (frames (l ++ frameL b)) = (l ++ frameL b).length := by
  have h1 := frames_whole hb ht
  have hg := frames_good hb
  have e : frames (l ++ frameL b) = frames l ++ [b] := by
    have h2 : l ++ frameL b = flat (frames l) ++ frameL b := by rw [← h1]
    rw [h2, frames_flat _ _ (fun r hr => (hg r hr).2)]
    have := frames_app b [] hn
    rw [List.append_nil] at this
    rw [this]; rfl
  refine ⟨e, ?_⟩
  rw [e, total_append, ht, List.length_append, frameL_length]
  simp [total]

/-! ### sums notice -/
theorem step_inj_s {s s' b : Int} (h : 0 ≤ s ∧ s < 4294967296) (h' : 0 ≤ s' ∧ s' < 4294967296) (he : sumStep s b = sumStep s' b) : s = s' := by
  unfold sumStep at he; omega
theorem step_inj_b {s b b' : Int} (h : 0 ≤ b ∧ b < 256) (h' : 0 ≤ b' ∧ b' < 256) (he : sumStep s b = sumStep s b') : b = b' := by
  unfold sumStep at he; omega
theorem fold_bd (l : List Int) (s : Int) (h : 0 ≤ s ∧ s < 4294967296) : 0 ≤ l.foldl sumStep s ∧ l.foldl sumStep s < 4294967296 := by
  induction l generalizing s with
  | nil => exact h
  | cons a r ih => exact ih _ (sumStep_bd s a)
theorem fold_inj (l : List Int) : ∀ {s s' : Int}, (0 ≤ s ∧ s < 4294967296) → (0 ≤ s' ∧ s' < 4294967296) → l.foldl sumStep s = l.foldl sumStep s' → s = s' := by
  induction l with
  | nil => intro s s' _ _ h; exact h
  | cons a r ih => intro s s' h h' he; exact step_inj_s h h' (ih (sumStep_bd s a) (sumStep_bd s' a) he)
theorem sum_set {l : List Int} (hb : AllBytes l) (k : Nat) (hk : k < l.length) (v : Int) (hv : 0 ≤ v ∧ v < 256) (hne : v ≠ l.getD k 0) : sumL (l.set k v) ≠ sumL l := by
  intro he
  have h1 : l = l.take k ++ l.getD k 0 :: l.drop (k + 1) := by
    rw [show l.getD k 0 = l[k] by simp [List.getD_eq_getElem?_getD, hk], ← List.drop_eq_getElem_cons hk, List.take_append_drop]
  have h2 : l.set k v = l.take k ++ v :: l.drop (k + 1) := by rw [List.set_eq_take_append_cons_drop, if_pos hk]
  have hbk := hb.getD k
  rw [h2] at he
  have e2 : sumL l = sumL (l.take k ++ l.getD k 0 :: l.drop (k + 1)) := congrArg sumL h1
  rw [e2] at he
  unfold sumL at he
  rw [List.foldl_append, List.foldl_append, List.foldl_cons, List.foldl_cons] at he
  exact hne (step_inj_b hv hbk (fold_inj _ (sumStep_bd _ _) (sumStep_bd _ _) he))

/-- A byte behind the length is changed: no frame any more. -/
theorem torn (b : List Int) (hb : AllBytes b) (hn : b.length ≤ 65535) (k : Nat) (hk4 : 4 ≤ k) (hk : k < (frameL b).length) (v : Int) (hv : 0 ≤ v ∧ v < 256) (hne : v ≠ (frameL b).getD k 0) : frameOk ((frameL b).set k v) = false := by
  have hl := frameL_length b
  have hhd := headL_length b
  have hs := sumL_bd (headL b)
  have hbH : AllBytes (headL b) := (num4_bytes _ (by omega) (by omega)).append hb
  cases hf : frameOk ((frameL b).set k v) with
  | false => rfl
  | true =>
    exfalso
    have h := ((frameOk_iff _).1 hf).2.2.2
    have hrd : rd ((frameL b).set k v) = b.length := by
      have e4 : ∀ i, i < 4 → ((frameL b).set k v).getD i 0 = (frameL b).getD i 0 := by
        intro i hi
        simp [List.getD_eq_getElem?_getD, show ¬ k = i by omega]
      unfold rd
      rw [e4 0 (by omega), e4 1 (by omega), e4 2 (by omega), e4 3 (by omega)]
      have := rd_num4 (b.length : Int) (by omega) (by omega) (b ++ num4 (sumL (headL b)))
      rw [← List.append_assoc] at this
      exact this
    rw [hrd, show ((b.length : Int)).toNat = b.length by omega] at h
    by_cases hkh : k < 4 + b.length
    · have e1 : ((frameL b).set k v).take (4 + b.length) = (headL b).set k v := by
        rw [List.take_set, frameL, ← hhd, List.take_left]
      have e2 : ((frameL b).set k v).drop (4 + b.length) = num4 (sumL (headL b)) := by
        rw [List.drop_set_of_lt hkh, frameL, ← hhd, List.drop_left]
      rw [e1, e2] at h
      have h3 := rd_num4 (sumL (headL b)) hs.1 hs.2 []
      rw [List.append_nil] at h3
      rw [h3] at h
      refine sum_set hbH k (by omega) v hv ?_ h.symm
      intro e
      apply hne
      rw [e, frameL]
      simp [List.getD_eq_getElem?_getD, List.getElem?_append_left (show k < (headL b).length by omega)]
    · have e1 : ((frameL b).set k v).take (4 + b.length) = headL b := by
        rw [List.take_set_of_le (by omega), frameL, ← hhd, List.take_left]
      have e2 : ((frameL b).set k v).drop (4 + b.length) = (num4 (sumL (headL b))).set (k - (4 + b.length)) v := by
        rw [List.drop_set, if_neg (by omega), frameL, ← hhd, List.drop_left]
      rw [e1, e2] at h
      generalize hy : sumL (headL b) = y at *
      have hv' : v ≠ (num4 y).getD (k - (4 + b.length)) 0 := by
        intro e
        apply hne
        rw [e]
        have hfe : frameL b = headL b ++ num4 (sumL (headL b)) := rfl
        rw [hy] at hfe
        rw [hfe, List.getD_eq_getElem?_getD, List.getD_eq_getElem?_getD, List.getElem?_append_right (by omega), hhd]
      have hj : k - (4 + b.length) < 4 := by omega
      generalize k - (4 + b.length) = j at *
      have hj4 : j = 0 ∨ j = 1 ∨ j = 2 ∨ j = 3 := by omega
      rcases hj4 with rfl | rfl | rfl | rfl <;> simp [num4, rd] at h hv' <;> omega
end Go.Proofs.Ytioedljihlfcaaa

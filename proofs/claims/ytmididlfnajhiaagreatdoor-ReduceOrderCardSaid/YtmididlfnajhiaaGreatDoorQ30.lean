/-
  ReduceOrder: the plain law (what solutions have in common does not hang on their order).
-/
import Derived.Test.YtmididlfnajhiaaGreatDoorO30
namespace Go.Proofs.YtmididlfnajhiaaGreatDoor
open Go.RowKit
open Ev (Glob Gives)
/-- The hour angle of what they have in common: the greatest beginning, the least end. -/
structure Ext (L : List Sol) (x : Sol) : Prop where
  le : ∀ s ∈ L, s.1 ≤ x.1 ∧ x.2.1 ≤ s.2.1
  lo : ∃ s ∈ L, s.1 = x.1
  hi : ∃ s ∈ L, s.2.1 = x.2.1
theorem mx_cases (a b : Int) : (mx a b = a ∧ b ≤ a) ∨ (mx a b = b ∧ a ≤ b) := by unfold mx; split <;> omega
theorem mn_cases (a b : Int) : (mn a b = a ∧ a ≤ b) ∨ (mn a b = b ∧ b ≤ a) := by unfold mn; split <;> omega
theorem meetO_H {o s x : Sol} (h : meetO o s = some x) : x.1 = mx o.1 s.1 ∧ x.2.1 = mn o.2.1 s.2.1 := by
  unfold meetO at h
  split at h
  · rename_i c
    obtain ⟨c1, -⟩ := c
    simp only [Option.some.injEq] at h
    subst h
    unfold ameetR at c1 ⊢
    split at c1
    · rename_i v
      rw [if_pos v]
      split at c1
      · exact absurd c1 (by decide)
      · rename_i q
        rw [if_neg q]
        exact ⟨rfl, rfl⟩
    · exact absurd c1 (by decide)
  · cases h
theorem meetF_ext : ∀ (l : List Sol) (o x : Sol), meetF o l = some x → Ext (o :: l) x
  | [], o, x, h => by
    simp only [meetF, Option.some.injEq] at h
    subst h
    exact ⟨fun s hs => by simp at hs; subst hs; omega, ⟨o, by simp, rfl⟩, ⟨o, by simp, rfl⟩⟩
  | s :: l, o, x, h => by
    simp only [meetF] at h
    cases hm : meetO o s with
    | none => rw [hm] at h; cases h
    | some y =>
      rw [hm] at h
      have ih := meetF_ext l y x h
      obtain ⟨e1, e2⟩ := meetO_H hm
      have hy := ih.le y (by simp)
      rcases mx_cases o.1 s.1 with ⟨m1, m2⟩ | ⟨m1, m2⟩ <;> rcases mn_cases o.2.1 s.2.1 with ⟨m3, m4⟩ | ⟨m3, m4⟩ <;>
      (refine ⟨fun t ht => ?_, ?_, ?_⟩
       · simp only [List.mem_cons] at ht
         rcases ht with rfl | rfl | ht
         · omega
         · omega
         · exact ih.le t (by simp [ht])
       · obtain ⟨t, ht, et⟩ := ih.lo
         simp only [List.mem_cons] at ht
         rcases ht with rfl | ht
         · first
             | exact ⟨o, by simp, by omega⟩
             | exact ⟨s, by simp, by omega⟩
         · exact ⟨t, by simp [ht], et⟩
       · obtain ⟨t, ht, et⟩ := ih.hi
         simp only [List.mem_cons] at ht
         rcases ht with rfl | ht
         · first
             | exact ⟨o, by simp, by omega⟩
             | exact ⟨s, by simp, by omega⟩
         · exact ⟨t, by simp [ht], et⟩)
theorem Ext.same {L M : List Sol} {x y : Sol} (h : Ext L x) (g : Ext M y) (e : ∀ s, s ∈ L ↔ s ∈ M) : x.1 = y.1 ∧ x.2.1 = y.2.1 := by
  obtain ⟨s, hs, es⟩ := h.lo
  obtain ⟨t, ht, et⟩ := h.hi
  obtain ⟨s', hs', es'⟩ := g.lo
  obtain ⟨t', ht', et'⟩ := g.hi
  have a1 := g.le s ((e s).1 hs)
  have a2 := g.le t ((e t).1 ht)
  have a3 := h.le s' ((e s').2 hs')
  have a4 := h.le t' ((e t').2 ht')
  omega
theorem meetF_valid : ∀ (l : List Sol) (o x : Sol), avalidB o.1 o.2.1 = true → meetF o l = some x → avalidB x.1 x.2.1 = true
  | [], o, x, hv, h => by simp only [meetF, Option.some.injEq] at h; subst h; exact hv
  | s :: l, o, x, hv, h => by
    simp only [meetF] at h
    cases hm : meetO o s with
    | none => rw [hm] at h; cases h
    | some y =>
      rw [hm] at h
      refine meetF_valid l y x ?_ h
      unfold meetO at hm
      split at hm
      · rename_i c
        obtain ⟨c1, -⟩ := c
        simp only [Option.some.injEq] at hm
        subst hm
        dsimp only
        unfold ameetR at c1 ⊢
        split at c1
        · rename_i v
          obtain ⟨v1, v2⟩ := v
          rw [if_pos ⟨v1, v2⟩]
          split at c1
          · exact absurd c1 (by decide)
          · rename_i q
            rw [if_neg q]
            dsimp only
            unfold avalidB at v1 v2 ⊢
            simp only [decide_eq_true_eq] at v1 v2 ⊢
            rcases mx_cases o.1 s.1 with ⟨m1, m2⟩ | ⟨m1, m2⟩ <;> rcases mn_cases o.2.1 s.2.1 with ⟨m3, m4⟩ | ⟨m3, m4⟩ <;> rw [m1, m3] at q ⊢ <;> omega
        · exact absurd c1 (by decide)
      · cases hm
/-- Meet's answer: an error and the zero solution, or what the hour angles have in common. -/
theorem meetR_ans (l : List Sol) : (∃ e, e ≠ 0 ∧ meetR l = (0, 0, 0, 0, e)) ∨ ∃ x, meetR l = (x.1, x.2.1, x.2.2.1, x.2.2.2, 0) ∧ Ext l x ∧ avalidB x.1 x.2.1 = true ∧ ∀ s ∈ l, svalB s = true := by
  cases l with
  | nil => exact Or.inl ⟨14, by decide, rfl⟩
  | cons s r =>
    by_cases h1 : 1000 < (s :: r).length
    · exact Or.inl ⟨4, by decide, meetR_many h1⟩
    · cases hb : (s :: r).any (fun s => !svalB s) with
      | true => exact Or.inl ⟨1, by decide, meetR_bad h1 hb⟩
      | false =>
        have hv : ∀ t ∈ s :: r, svalB t = true := fun t ht => by
          rw [List.any_eq_false] at hb
          simpa using hb t ht
        have hr := meetR_ok h1 hb
        cases hm : meetF s r with
        | none => rw [hm] at hr; exact Or.inl ⟨23, by decide, hr⟩
        | some x => rw [hm] at hr; exact Or.inr ⟨x, hr, meetF_ext r s x hm, meetF_valid r s x (sval_bd (hv s (by simp))).1 hm, hv⟩
theorem meetR_one (s : Sol) : meetR [s] = (0, 0, 0, 0, 1) ∨ meetR [s] = (s.1, s.2.1, s.2.2.1, s.2.2.2, 0) := by
  cases hb : [s].any (fun s => !svalB s) with
  | true => exact Or.inl (meetR_bad (by simp) hb)
  | false => exact Or.inr (by have := meetR_ok (s := s) (r := []) (by simp) hb; exact this)
theorem ext_inside {L : List Sol} {x s : Sol} (h : Ext L x) (hv : ∀ s ∈ L, svalB s = true) (hs : s ∈ L) (hx : avalidB x.1 x.2.1 = true) : insideB x.1 x.2.1 s.1 s.2.1 = true := by
  have h1 := (sval_bd (hv s hs)).1
  have h2 := h.le s hs
  unfold insideB
  rw [hx, h1]
  simp
  omega
/-- A row of one's own is one that may be written, and one that reads. -/
theorem Rw.of_own {w : World} {base n c : Nat} {A : Option Addr} {l : List Sol} (h : w.ownsRow base 28 4 (.slice A n c) n (flatS l)) (hl : l.length = n) (h0 : 0 < n) : ∃ g, A = some ⟨g, 0, none⟩ ∧ base ≤ g ∧ n ≤ c ∧ c ≤ maxLen ∧ Rw w g c n l := by
  obtain ⟨_, h1 | ⟨g, cap, cur, hv, hb, hh, hc, hm, hs, ht⟩⟩ := h
  · omega
  · injection hv with e1 e2 e3
    subst e1 e3
    exact ⟨g, rfl, hb, hc, hm, hl, cur, hh, hs, ht⟩
theorem Rw.lt {w : World} {g c n : Nat} {l : List Sol} (h : Rw w g c n l) : g < w.heap.size := by
  obtain ⟨_, cur, h1, _⟩ := h
  exact (Array.getElem?_eq_some_iff.1 h1).1
theorem Rw.sols {w : World} {g c n : Nat} {l : List Sol} (h : Rw w g c n l) (hn : n ≤ 1000) : Sols w (some ⟨g, 0, none⟩) n l :=
  ⟨h.1, by omega, fun _ => ⟨g, 0, rfl, h.lt, fun i hi => by
    obtain ⟨a1, a2, a3, a4, e, c0, c1, c2, c3, -⟩ := h.at_ i hi
    rw [e, Nat.zero_add]
    exact ⟨c0, c1, c2, c3⟩⟩⟩
theorem Sols.one {w : World} {A : Option Addr} {n : Nat} {s : Sol} {l : List Sol} (h : Sols w A n (s :: l)) : Sols w A 1 [s] :=
  ⟨rfl, by omega, fun _ => by
    have hl := h.len
    obtain ⟨b, off, e, hb, hc⟩ := h.cells (by simp at hl; omega)
    refine ⟨b, off, e, hb, fun i hi => ?_⟩
    have h0 : i = 0 := by omega
    subst h0
    have := hc 0 (by simp at hl; omega)
    simpa using this⟩
end Go.Proofs.YtmididlfnajhiaaGreatDoor

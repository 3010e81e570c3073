import Derived.Test.YtioedljihlfcaaaW28

namespace Go.Proofs.Ytioedljihlfcaaa
open Go.RowKit

def recsU (l : List Int) (s a : Int) : List (List Int) := if validB l s a = true then frames l else []
def errU (l : List Int) (s a : Int) : Int := if validB l s a = true then 0 else 1
def RecUPost (w : World) (rs : List (List Int)) (err : Int) (e : Ending) (w' : World) : Prop :=
  ∃ A c vs, e = .returned (.tuple #[.slice A rs.length c, .int .i64 err]) ∧ w'.ownsRow w.heap.size 22 1 (.slice A rs.length c) rs.length vs ∧ Recs w' w.heap.size vs rs ∧ Below w.heap.size w w'
theorem recs_u (A : Option Addr) (n c : Nat) (l : List Int) (s a : Int) (w : World) (h : Bytes w A n c l) :
    Calls Try.prog 25 #[.agg #[.slice A n c, .int .i64 s, .int .i64 a]] w (RecUPost w (recsU l s a) (errU l s a)) := by
  cases hv : validB l s a with
  | true => rw [recsU, errU, if_pos hv, if_pos hv]; exact records_yes A n c l s a w h hv
  | false =>
    rw [recsU, errU, if_neg (by rw [hv]; decide), if_neg (by rw [hv]; decide)]
    exact (records_no A n c l s a w h hv).mono fun e w' ⟨he, hb⟩ => ⟨none, 0, [], he, World.ownsRow_nil _ _ _ _, trivial, hb⟩

/-- A slice of bytes in memory of the call's own (above B): what its bytes are is not said. -/
def Inn (B : Nat) (w : World) (v : Value) : Prop :=
  ∃ A n c, v = .slice A n c ∧ n ≤ c ∧ c ≤ 9223372036854775807 ∧ (0 < n → ∃ g cs, A = some ⟨g, 0, none⟩ ∧ B ≤ g ∧ w.heap[g]? = some (.cells cs 5 (0, 0)) ∧ ∀ i, i < n → ∃ x, cs[i]? = some (.int .u8 x))
theorem Inn.of_own {B B' n c : Nat} {A : Option Addr} {l : List Int} {w : World} (h : w.ownsRow B' 5 1 (.slice A n c) n (l.map (Value.int .u8))) (hB : B ≤ B') : Inn B w (.slice A n c) := by
  have hl : l.length = n := by have := h.1; simpa using this
  rcases h.2 with ⟨hv, h0⟩ | ⟨g, cap, cur, hv, hg, hh, hnc, hcm, hs, ht⟩
  · injection hv with h1 h2 h3
    exact ⟨A, n, c, rfl, by omega, by omega, fun hn => by omega⟩
  · injection hv with h1 h2 h3
    subst h1 h3
    refine ⟨_, n, c, rfl, hnc, by unfold maxLen at hcm; omega, fun hn => ⟨g, cur, rfl, by omega, hh, fun i hi => ?_⟩⟩
    have h4 : (cur.toList.take (n * 1))[i]? = some (.int .u8 (l.getD i 0)) := by rw [ht, map_getD _ _ _ (by omega)]
    rw [List.getElem?_take_of_lt (by omega)] at h4
    exact ⟨l.getD i 0, by simpa using h4⟩
theorem Inn.keep {B : Nat} {w w' : World} {v : Value} (h : Inn B w v) (hk : ∀ g cs, B ≤ g → w.heap[g]? = some (.cells cs 5 (0, 0)) → w'.heap[g]? = some (.cells cs 5 (0, 0))) : Inn B w' v := by
  obtain ⟨A, n, c, rfl, h1, h2, h3⟩ := h
  refine ⟨A, n, c, rfl, h1, h2, fun hn => ?_⟩
  obtain ⟨g, cs, hA, hg, hh, hc⟩ := h3 hn
  exact ⟨g, cs, hA, hg, hk g cs hg hh, hc⟩
theorem lt_of_heap {w : World} {g : Nat} {o : Obj} (h : w.heap[g]? = some o) : g < w.heap.size := by
  rcases Nat.lt_or_ge g w.heap.size with hlt | hge
  · exact hlt
  · rw [Array.getElem?_eq_none hge] at h; cases h
theorem Inn.next {B : Nat} {w w' : World} {v : Value} (h : Inn B w v) (hb : Below w.heap.size w w') : Inn B w' v :=
  h.keep fun g _ _ hh => (hb.block g (lt_of_heap hh)).trans hh
theorem heap_set (w : World) (g i : Nat) (cs : Array Value) (t : TypeId) (u : Value) (h : w.heap[g]? = some (.cells cs t (0, 0))) : (w.setCell ⟨g, i, none⟩ u).heap[g]? = some (.cells (cs.setIfInBounds i u) t (0, 0)) := by
  simp [World.setCell, Array.getElem?_modify, h]
theorem heap_far (w : World) (g g' i : Nat) (u : Value) (h : g' ≠ g) : (w.setCell ⟨g, i, none⟩ u).heap[g']? = w.heap[g']? := Below.heap_setCell w ⟨g, i, none⟩ u g' h
theorem Inn.set {B : Nat} {w : World} {v : Value} (h : Inn B w v) (g i : Nat) (y : Int) : Inn B (w.setCell ⟨g, i, none⟩ (.int .u8 y)) v := by
  obtain ⟨A, n, c, rfl, h1, h2, h3⟩ := h
  refine ⟨A, n, c, rfl, h1, h2, fun hn => ?_⟩
  obtain ⟨g', cs, hA, hg, hh, hc⟩ := h3 hn
  by_cases e : g' = g
  · subst e
    refine ⟨g', _, hA, hg, heap_set w g' i cs 5 _ hh, fun k hk => ?_⟩
    obtain ⟨x, hx⟩ := hc k hk
    by_cases ek : k = i
    · subst ek
      refine ⟨y, ?_⟩
      have hlt := (Array.getElem?_eq_some_iff.1 hx).1
      rw [Array.getElem?_setIfInBounds_self_of_lt hlt]
    · exact ⟨x, by rw [Array.getElem?_setIfInBounds_ne (Ne.symm ek)]; exact hx⟩
  · exact ⟨g', cs, hA, hg, by rw [heap_far _ _ _ _ _ e]; exact hh, hc⟩
/-- The outer row stays, for its block is of another type. -/
theorem own22_set {B n : Nat} {w : World} {v : Value} {xs : List Value} (h : w.ownsRow B 22 1 v n xs) {g i : Nat} {cs : Array Value} (hg : w.heap[g]? = some (.cells cs 5 (0, 0))) (u : Value) : (w.setCell ⟨g, i, none⟩ u).ownsRow B 22 1 v n xs := by
  refine ⟨h.1, ?_⟩
  rcases h.2 with h2 | ⟨g', cap, cur, hv, hg', hh, r⟩
  · exact Or.inl h2
  · have hne : g' ≠ g := by
      rintro rfl
      rw [hg] at hh
      injection hh with hh
      injection hh with _ ht
      exact absurd ht (by decide)
    exact Or.inr ⟨g', cap, cur, hv, hg', by rw [heap_far _ _ _ _ _ hne]; exact hh, r⟩
structure ARel (B : Nat) (wB : World) (v : Value) (R : List Value) (N : Nat) (wr : World) : Prop where
  own : wr.ownsRow B 22 1 v N R
  inn : ∀ u ∈ R, Inn B wr u
  below : Below B wB wr
theorem Recs.inn {w : World} {B B' : Nat} (hB : B ≤ B') : ∀ {vs : List Value} {rs : List (List Int)}, Recs w B' vs rs → ∀ u ∈ vs, Inn B w u
  | [], [], _, u, hu => by cases hu
  | v :: vs, r :: rs, ⟨⟨A, c, hv, ho⟩, h⟩, u, hu => by
    rcases List.mem_cons.1 hu with rfl | hu
    · subst hv; exact Inn.of_own ho hB
    · exact Recs.inn hB h u hu
/-- What Append leaves of a whole disk that never crashes. -/
theorem apart_law {l b : List Int} {s a : Int} (hb : AllBytes l) (hv : validB l s a = true) (hn : b.length ≤ 300) (hl : l.length ≤ 2000) (ha : a < 0) (ht : total (frames l) = l.length) :
    recsU (appendD l s a b).l (appendD l s a b).s (appendD l s a b).a = frames l ++ [b] ∧ errU (appendD l s a b).l (appendD l s a b).s (appendD l s a b).a = 0 := by
  have hd : appendD l s a b = ⟨l ++ frameL b, s, a, 0⟩ := by
    unfold appendD
    rw [if_neg (by rw [hv]; decide), if_neg (by omega), if_neg (by omega), if_neg (by omega), if_neg (by omega), if_pos ha]
  obtain ⟨h1, h2⟩ := frames_push hb ht (b := b) (by omega)
  obtain ⟨v1, v2, v3, v4⟩ := vb_true hv
  have hvv : validB (l ++ frameL b) s a = true := by
    have hm : s ∈ cum 0 (frames l ++ [b]) := by rw [cum_snoc]; exact List.mem_append_left _ v4
    have hlen : (l ++ frameL b).length ≤ 1048576 := by rw [List.length_append, frameL_length]; omega
    unfold validB
    rw [h1]
    simp [v2, v3, hm, hlen, -List.length_append]
  rw [hd]
  exact ⟨by rw [recsU, if_pos hvv, h1], by rw [errU, if_pos hvv]⟩
end Go.Proofs.Ytioedljihlfcaaa

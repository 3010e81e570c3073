import Derived.Test.YtioedljihlfcaaaW3

namespace Go.Proofs.Ytioedljihlfcaaa
open Go.RowKit

def validB (l : List Int) (s a : Int) : Bool := decide (l.length ≤ 1048576) && (decide (-1 ≤ a) && (decide (a ≤ 1048576) && decide (s ∈ cum 0 (frames l))))
def ValidPost (w : World) (b : Bool) (e : Ending) (w' : World) : Prop := e = .returned (.bool b) ∧ Below w.heap.size w w'

/-- A box's three cells, and 'nothing old has turned', behind one call more. -/
theorem keep3 {w0 W w1 : World} {b : Nat} {x y z : Value} (h : (W.cell? ⟨b, 0, none⟩ = some x ∧ W.cell? ⟨b, 1, none⟩ = some y ∧ W.cell? ⟨b, 2, none⟩ = some z) ∧ Below w0.heap.size w0 W) (hb : Below W.heap.size W w1) :
    (w1.cell? ⟨b, 0, none⟩ = some x ∧ w1.cell? ⟨b, 1, none⟩ = some y ∧ w1.cell? ⟨b, 2, none⟩ = some z) ∧ Below w0.heap.size w0 w1 := by
  obtain ⟨⟨h0, h1, h2⟩, h3⟩ := h
  have hlt := World.block_lt_of_cell? W _ h0
  exact ⟨⟨(hb.cell (p := ⟨b, 0, none⟩) hlt).trans h0, (hb.cell (p := ⟨b, 1, none⟩) hlt).trans h1, (hb.cell (p := ⟨b, 2, none⟩) hlt).trans h2⟩, h3.trans (hb.mono h3.size)⟩

set_option maxHeartbeats 1000000 in
theorem valid_any (A : Option Addr) (n c : Nat) (l : List Int) (s a : Int) (w : World) (h : Bytes w A n c l) :
    Calls Try.prog 13 #[.agg #[.slice A n c, .int .i64 s, .int .i64 a]] w (ValidPost w (validB l s a)) := by
  have hB := h.alloc (.cells #[.slice A n c, .int .i64 s, .int .i64 a] 24)
  have hcap := h.cap
  have hle := h.le
  by_cases h1 : 1048576 < n
  · have HF := Lib.hid (show ∀ k, ValidPost w (validB l s a) (.returned (.bool false)) ((w.alloc (.cells #[.slice A n c, .int .i64 s, .int .i64 a] 24)).drewN k) from
      fun k => ⟨by have : ¬ l.length ≤ 1048576 := by rw [h.len]; omega
                   simp [validB, this], below_drewN ((Below.refl _ _).alloc (Nat.le_refl _) _) k⟩)
    have hd : decide ((n : Int) ≤ 1048576) = false := decide_eq_false (by omega)
    clear h hB
    go_enter Try.func13, Try.ntmps13
    go_wp2_with fail
    go_quiet (fail)
    go_wp2
    go_ret
    exact HF.out _
  by_cases h2 : a < -1
  · have HF := Lib.hid (show ∀ k, ValidPost w (validB l s a) (.returned (.bool false)) ((w.alloc (.cells #[.slice A n c, .int .i64 s, .int .i64 a] 24)).drewN k) from
      fun k => ⟨by have : ¬ -1 ≤ a := by omega
                   simp [validB, this], below_drewN ((Below.refl _ _).alloc (Nat.le_refl _) _) k⟩)
    have hd : decide ((n : Int) ≤ 1048576) = true := decide_eq_true (by omega)
    have hd2 : decide (-1 ≤ a) = false := decide_eq_false (by omega)
    clear h hB
    go_enter Try.func13, Try.ntmps13
    go_wp2_with fail
    go_quiet (fail)
    go_wp2
    go_ret
    exact HF.out _
  by_cases h3 : 1048576 < a
  · have HF := Lib.hid (show ∀ k, ValidPost w (validB l s a) (.returned (.bool false)) ((w.alloc (.cells #[.slice A n c, .int .i64 s, .int .i64 a] 24)).drewN k) from
      fun k => ⟨by have : ¬ a ≤ 1048576 := by omega
                   simp [validB, this], below_drewN ((Below.refl _ _).alloc (Nat.le_refl _) _) k⟩)
    have hd : decide ((n : Int) ≤ 1048576) = true := decide_eq_true (by omega)
    have hd2 : decide (-1 ≤ a) = true := decide_eq_true (by omega)
    have hd3 : decide (a ≤ 1048576) = false := decide_eq_false (by omega)
    clear h hB
    go_enter Try.func13, Try.ntmps13
    go_wp2_with fail
    go_quiet (fail)
    go_wp2
    go_ret
    exact HF.out _
  have HF := Lib.hid (show ∀ w', Below w.heap.size w w' → ValidPost w (validB l s a) (.returned (.bool (decide (s ∈ cum 0 (frames l))))) w' from
      fun w' hb => ⟨by have e1 : l.length ≤ 1048576 := by rw [h.len]; omega
                       have e2 : -1 ≤ a := by omega
                       have e3 : a ≤ 1048576 := by omega
                       simp [validB, e1, e2, e3], hb⟩)
  have hd : decide ((n : Int) ≤ 1048576) = true := decide_eq_true (by omega)
  have hd2 : decide (-1 ≤ a) = true := decide_eq_true (by omega)
  have hd3 : decide (a ≤ 1048576) = true := decide_eq_true (by omega)
  have HB := Lib.hid hB
  clear h hB
  go_enter Try.func13, Try.ntmps13
  go_wp2_with fail
  obtain ⟨w0, hw0⟩ : ∃ w0, w0 = w.alloc (.cells #[.slice A n c, .int .i64 s, .int .i64 a] 24) := ⟨_, rfl⟩
  have HW := Lib.hid hw0
  obtain ⟨⟨p0, p1, p2⟩, -, -, -⟩ := box3 (Below.refl (w0.heap.size) w0) (b := w.heap.size) (x := .slice A n c) (y := .int .i64 s) (z := .int .i64 a) (t := 24) (by rw [hw0]; simp) (by rw [hw0]; exact heap_alloc_new w _)
  have hb0 : Below w.heap.size w w0 := by rw [hw0]; exact (Below.refl _ _).alloc (Nat.le_refl _) _
  have hsz : w.heap.size < w0.heap.size := by rw [hw0]; simp
  rw [← hw0] at HB ⊢
  clear hw0
  go_region_held3 (fun w' => (w'.cell? ⟨w.heap.size, 0, none⟩ = some (.slice A n c) ∧ w'.cell? ⟨w.heap.size, 1, none⟩ = some (.int .i64 s) ∧ w'.cell? ⟨w.heap.size, 2, none⟩ = some (.int .i64 a)) ∧ Below w0.heap.size w0 w')
    (first | exact ⟨⟨p0, p1, p2⟩, (Below.refl _ _).drew⟩ | exact keep3 (by assumption) (by assumption))
    (first
      | (go_at_call 39; refine (ends_any _ _ _ _ _ (HB.out.below (And.right (by assumption)) (Nat.le_refl _)) (by omega)).mono ?_; rintro e w1 ⟨v, rfl, hown, hb⟩; obtain ⟨A', c', rfl, hI⟩ := own_ints hown; have HI := Lib.hid hI; clear hI hown)
      | (go_at_call 38; refine (contains_any _ _ _ _ _ _ HI.out).mono ?_; rintro e w2 ⟨rfl, rfl⟩; have hb := Below.refl w1.heap.size w1))
  have hh : Below w0.heap.size w0 w1 := And.right (by assumption)
  have HE := Lib.hid (hb0.trans (hh.mono (by omega)))
  clear hh
  go_wp2
  go_ret
  exact HF.out _ HE.out

/-- 'Same' of two disks. -/
def sameB (l : List Int) (s a : Int) (l' : List Int) (s' a' : Int) : Bool := decide (l = l') && (decide (s = s') && decide (a = a'))

theorem bytes_of_own {w : World} {B n : Nat} {A : Option Addr} {c : Nat} {l : List Int} (h : w.ownsRow B 5 1 (.slice A n c) n (l.map (Value.int .u8))) (hb : AllBytes l) : Bytes w A n c l := by
  have hl : l.length = n := by have := h.1; simpa using this
  rcases h.2 with ⟨hv, rfl⟩ | ⟨g, cap, cur, hv, _, hg, hnc, hm, _⟩
  · injection hv with h1 h2 h3
    subst h1 h3
    exact ⟨hl, by omega, by omega, hb, fun h => absurd h (by omega), fun _ => rfl⟩
  · injection hv with h1 h2 h3
    subst h1 h3
    refine ⟨hl, hnc, by unfold maxLen at hm; omega, hb, fun hn => ⟨g, 0, rfl, ?_, fun i hi => ?_⟩, fun hh => by cases hh⟩
    · rcases Nat.lt_or_ge g w.heap.size with hlt | hge
      · exact hlt
      · rw [Array.getElem?_eq_none hge] at hg; cases hg
    · rw [Nat.zero_add, h.cellAt i (by omega), map_getD _ _ _ (by omega)]

def grow2 (w : World) (v1 v2 : Value) (s a s' a' : Int) : World := (w.alloc (.cells #[v1, .int .i64 s, .int .i64 a] 24)).alloc (.cells #[v2, .int .i64 s', .int .i64 a'] 24)
def SamePost (w : World) (b : Bool) (e : Ending) (w' : World) : Prop := e = .returned (.bool b) ∧ Below w.heap.size w w'

set_option maxHeartbeats 2000000 in
theorem same_any (A A' : Option Addr) (n c n' c' : Nat) (l l' : List Int) (s a s' a' : Int) (w : World) (h : Bytes w A n c l) (h' : Bytes w A' n' c' l') :
    Calls Try.prog 17 #[.agg #[.slice A n c, .int .i64 s, .int .i64 a], .agg #[.slice A' n' c', .int .i64 s', .int .i64 a']] w (SamePost w (sameB l s a l' s' a')) := by
  have hcap := h.cap
  have hle := h.le
  have hcap' := h'.cap
  have hle' := h'.le
  have hB := (h.alloc (.cells #[.slice A n c, .int .i64 s, .int .i64 a] 24)).alloc (.cells #[.slice A' n' c', .int .i64 s', .int .i64 a'] 24)
  have hB' := (h'.alloc (.cells #[.slice A n c, .int .i64 s, .int .i64 a] 24)).alloc (.cells #[.slice A' n' c', .int .i64 s', .int .i64 a'] 24)
  have hl := h.len
  have hl' := h'.len
  clear h h'
  have hbel : Below w.heap.size w ((w.alloc (.cells #[.slice A n c, .int .i64 s, .int .i64 a] 24)).alloc (.cells #[.slice A' n' c', .int .i64 s', .int .i64 a'] 24)) := ((Below.refl _ _).alloc (Nat.le_refl _) _).alloc (by simp) _
  by_cases h1 : n = n'
  · subst h1
    by_cases h2 : s = s'
    · subst h2
      by_cases h3 : a = a'
      · subst h3
        have HL := Lib.hid hl
        have HL' := Lib.hid hl'
        have HBE := Lib.hid hbel
        clear hl hl' hbel
        have hcell := hB.cells
        have hcell' := hB'.cells
        have hb := hB.bytes.getD
        have hb' := hB'.bytes.getD
        clear hB hB'
        go_enter Try.func17, Try.ntmps17
        go_wp2_with fail
        go_loopw [5] (fun i w' => ∃ k : Nat, k ≤ n ∧ i = .int .i64 k ∧ (∀ j, j < k → l.getD j 0 = l'.getD j 0) ∧ ∃ m, w' = ((w.alloc (.cells #[.slice A n c, .int .i64 s, .int .i64 a] 24)).alloc (.cells #[.slice A' n c', .int .i64 s, .int .i64 a] 24)).drewN m) (fun i _ => n - (intOf i).toNat)
        case atStart => exact ⟨0, Nat.zero_le _, rfl, fun j hj => absurd hj (by omega), 0, rfl⟩
        case round =>
          obtain ⟨k, hk, rfl, hsame, m, rfl⟩ := hrel
          have HS := Lib.hid hsame
          clear hsame
          by_cases hlt : k < n
          · obtain ⟨b, off, rfl, _, hcc⟩ := hcell (by omega)
            obtain ⟨b', off', rfl, _, hcc'⟩ := hcell' (by omega)
            have hc0 := hcc k hlt
            have hc0' := hcc' k hlt
            have hbb := hb k
            have hbb' := hb' k
            clear hcc hcc' hcell hcell' hb hb'
            by_cases hx : l.getD k 0 = l'.getD k 0
            · have HX := Lib.hid hx
              rw [hx] at hc0
              clear hx hbb
              generalize hy : l'.getD k 0 = y at *
              have HY := Lib.hid hy
              clear hy
              go_wp2
              go_quiet (fail)
              go_wp2
              go_roundw
              case rel =>
                refine ⟨k + 1, by omega, by go_num, fun j hj => ?_, _, rfl⟩
                by_cases e : j = k
                · rw [e, HX.out, HY.out]
                · exact HS.out j (by omega)
              case measure => simp [intOf]; omega
            · have hne : l ≠ l' := fun e => hx (by rw [e])
              have HF := Lib.hid (show ∀ W, (∃ q, W = ((w.alloc (.cells #[.slice (some ⟨b, off, none⟩) n c, .int .i64 s, .int .i64 a] 24)).alloc (.cells #[.slice (some ⟨b', off', none⟩) n c', .int .i64 s, .int .i64 a] 24)).drewN q) → SamePost w (sameB l s a l' s a) (.returned (.bool false)) W from fun W hW => ⟨by simp [sameB, hne], by obtain ⟨q, rfl⟩ := hW; exact below_drewN HBE.out q⟩)
              have hx1 : (l.getD k 0 != l'.getD k 0) = true := by simpa using hx
              clear hx hne
              generalize l'.getD k 0 = y at *
              generalize l.getD k 0 = x at *
              go_wp2
              go_quiet (fail)
              go_wp2
              go_ret
              exact HF.out _ ⟨_, World.drewN_drewN _ _ _⟩
          · have e : l = l' := by
              apply List.ext_getElem (by rw [HL.out, HL'.out])
              intro i h1 h2
              have := HS.out i (by have := HL.out; omega)
              simpa [List.getD_eq_getElem?_getD, h1, h2] using this
            have HF := Lib.hid (show SamePost w (sameB l s a l' s a) (.returned (.bool true)) (((w.alloc (.cells #[.slice A n c, .int .i64 s, .int .i64 a] 24)).alloc (.cells #[.slice A' n c', .int .i64 s, .int .i64 a] 24)).drewN m) from ⟨by simp [sameB, e], below_drewN HBE.out m⟩)
            clear e hb hb' hcell hcell'
            go_wp2
            go_ret
            exact HF.out
      · have HF := Lib.hid (show SamePost w (sameB l s a l' s a') (.returned (.bool false)) ((w.alloc (.cells #[.slice A n c, .int .i64 s, .int .i64 a] 24)).alloc (.cells #[.slice A' n c', .int .i64 s, .int .i64 a'] 24)) from ⟨by simp [sameB, h3], hbel⟩)
        have hd : (a != a') = true := by simpa using h3
        clear hbel hB hB' hl hl' h3
        go_enter Try.func17, Try.ntmps17
        go_wp2
        go_ret
        exact HF.out
    · have HF := Lib.hid (show SamePost w (sameB l s a l' s' a') (.returned (.bool false)) ((w.alloc (.cells #[.slice A n c, .int .i64 s, .int .i64 a] 24)).alloc (.cells #[.slice A' n c', .int .i64 s', .int .i64 a'] 24)) from ⟨by simp [sameB, h2], hbel⟩)
      have hd : (s != s') = true := by simpa using h2
      clear hbel hB hB' hl hl' h2
      go_enter Try.func17, Try.ntmps17
      go_wp2
      go_ret
      exact HF.out
  · have HF := Lib.hid (show SamePost w (sameB l s a l' s' a') (.returned (.bool false)) ((w.alloc (.cells #[.slice A n c, .int .i64 s, .int .i64 a] 24)).alloc (.cells #[.slice A' n' c', .int .i64 s', .int .i64 a'] 24)) from ⟨by have : l ≠ l' := fun e => h1 (hl.symm.trans ((congrArg List.length e).trans hl')); simp [sameB, this], hbel⟩)
    have hd : ((n : Int) != (n' : Int)) = true := by rw [bne_iff_ne]; intro h; exact h1 (by omega)
    clear hbel hB hB' hl hl' h1
    go_enter Try.func17, Try.ntmps17
    go_wp2
    go_ret
    exact HF.out
end Go.Proofs.Ytioedljihlfcaaa

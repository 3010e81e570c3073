import Derived.Test.YtioedljihlfcaaaW12
import Derived.Test.YtioedljihlfcaaaW15
import Derived.Test.YtioedljihlfcaaaW19
import Derived.Test.YtioedljihlfcaaaW20

namespace Go.Proofs.Ytioedljihlfcaaa
open Go.RowKit

theorem vb_true {l : List Int} {s a : Int} (h : validB l s a = true) : l.length ≤ 1048576 ∧ -1 ≤ a ∧ a ≤ 1048576 ∧ s ∈ cum 0 (frames l) := by
  simp [validB] at h; exact h

theorem sync_any (A : Option Addr) (n c : Nat) (l : List Int) (s a : Int) (w : World) (h : Bytes w A n c l) :
    Calls Try.prog 20 #[.agg #[.slice A n c, .int .i64 s, .int .i64 a]] w (DPost w (syncD l s a)) := by
  unfold DPost syncD
  by_cases hv : validB l s a = false
  · rw [if_pos hv]; exact sync_1 A n c l s a w h hv
  rw [if_neg hv]
  have hv' : validB l s a = true := by simpa using hv
  by_cases h2 : a = 0
  · rw [if_pos h2]; exact sync_2 A n c l s a w h hv' h2
  rw [if_neg h2]
  by_cases h3 : total (frames l) ≠ l.length
  · rw [if_pos h3]; exact sync_3 A n c l s a w h hv' h2 h3
  · rw [if_neg h3]; exact sync_4 A n c l s a w h hv' h2 (by omega)

theorem open_any (A : Option Addr) (n c : Nat) (l : List Int) (s a : Int) (w : World) (h : Bytes w A n c l) :
    Calls Try.prog 24 #[.agg #[.slice A n c, .int .i64 s, .int .i64 a]] w (DPost w (openD l s a)) := by
  unfold DPost openD
  by_cases hv : validB l s a = false
  · rw [if_pos hv]; exact open_1 A n c l s a w h hv
  rw [if_neg hv]
  have hv' : validB l s a = true := by simpa using hv
  by_cases h2 : a = 0
  · rw [if_pos h2]; exact open_2 A n c l s a w h hv' h2
  · rw [if_neg h2]; exact open_3 A n c l s a w h hv' h2

theorem crash_any (A : Option Addr) (n c : Nat) (l : List Int) (s a k : Int) (w : World) (h : Bytes w A n c l) :
    Calls Try.prog 23 #[.agg #[.slice A n c, .int .i64 s, .int .i64 a], .int .i64 k] w (DPost w (crashD l s a k)) := by
  have hl := h.len
  unfold DPost crashD
  by_cases hv : validB l s a = false
  · rw [if_pos hv]; exact crash_1 A n c l s a k w h hv
  rw [if_neg hv]
  have hv' : validB l s a = true := by simpa using hv
  by_cases h2 : k < 0 ∨ (l.length : Int) - s < k
  · rw [if_pos h2]
    by_cases h3 : k < 0
    · exact crash_2 A n c l s a k w h hv' h3
    · exact crash_3 A n c l s a k w h hv' (by omega) (by omega)
  · rw [if_neg h2]; exact crash_4 A n c l s a k w h hv' (by omega) (by omega)

theorem rappend_any (A : Option Addr) (n c : Nat) (l : List Int) (s a : Int) (A' : Option Addr) (n' c' : Nat) (b : List Int) (w : World) (h : Bytes w A n c l) (h' : Bytes w A' n' c' b) (hv : validB l s a = true) :
    Calls Try.prog 21 #[.agg #[.slice A n c, .int .i64 s, .int .i64 a], .slice A' n' c'] w (DPost w (appendD l s a b)) := by
  have hl := h.len
  have hb := h'.len
  obtain ⟨v1, v2, v3, _⟩ := vb_true hv
  unfold DPost appendD
  rw [if_neg (by rw [hv]; decide)]
  by_cases h1 : 65535 < b.length
  · rw [if_pos h1]; exact rapp_1 A n c l s a A' n' c' b w h h' (by omega) ⟨v2, v3⟩ (by omega)
  rw [if_neg h1]
  by_cases h2 : a = 0
  · rw [if_pos h2]; exact rapp_2 A n c l s a A' n' c' b w h h' (by omega) ⟨v2, v3⟩ (by omega) h2
  rw [if_neg h2]
  by_cases h3 : total (frames l) ≠ l.length
  · rw [if_pos h3]; exact rapp_3 A n c l s a A' n' c' b w h h' (by omega) ⟨v2, v3⟩ (by omega) h2 h3
  rw [if_neg h3]
  have h3' : total (frames l) = l.length := by omega
  by_cases h4 : 1048576 < l.length + (8 + b.length)
  · rw [if_pos h4]; exact rapp_5 A n c l s a A' n' c' b w h h' (by omega) ⟨v2, v3⟩ (by omega) h2 h3' (by omega)
  rw [if_neg h4]
  by_cases h5 : a < 0
  · rw [if_pos h5]; exact rapp_6 A n c l s a A' n' c' b w h h' (by omega) ⟨v2, v3⟩ (by omega) h2 h3' (by omega) h5
  rw [if_neg h5]
  by_cases h6 : a < ((8 + b.length : Nat) : Int)
  · rw [if_pos h6]; exact rapp_7 A n c l s a A' n' c' b w h h' (by omega) ⟨v2, v3⟩ (by omega) h2 h3' (by omega) (by omega) (by omega)
  · rw [if_neg h6]
    have e : a - ((8 + b.length : Nat) : Int) = a - (8 + (n' : Int)) := by omega
    rw [e]; exact rapp_8 A n c l s a A' n' c' b w h h' (by omega) ⟨v2, v3⟩ (by omega) h2 h3' (by omega) (by omega)

theorem rsync_any (A : Option Addr) (n c : Nat) (l : List Int) (s a : Int) (w : World) (h : Bytes w A n c l) (hv : validB l s a = true) :
    Calls Try.prog 22 #[.agg #[.slice A n c, .int .i64 s, .int .i64 a]] w (DPost w (syncD l s a)) := by
  have hl := h.len
  obtain ⟨v1, v2, v3, _⟩ := vb_true hv
  unfold DPost syncD
  rw [if_neg (by rw [hv]; decide)]
  by_cases h2 : a = 0
  · rw [if_pos h2]; exact rsync_2 A n c l s a w h (by omega) h2
  rw [if_neg h2]
  by_cases h3 : total (frames l) ≠ l.length
  · rw [if_pos h3]; exact rsync_3 A n c l s a w h (by omega) h2 h3
  · rw [if_neg h3]; exact rsync_4 A n c l s a w h (by omega) h2 (by omega)

theorem ropen_any (A : Option Addr) (n c : Nat) (l : List Int) (s a : Int) (w : World) (h : Bytes w A n c l) (hv : validB l s a = true) :
    Calls Try.prog 27 #[.agg #[.slice A n c, .int .i64 s, .int .i64 a]] w (DPost w (openD l s a)) := by
  have hl := h.len
  obtain ⟨v1, v2, v3, _⟩ := vb_true hv
  unfold DPost openD
  rw [if_neg (by rw [hv]; decide)]
  by_cases h2 : a = 0
  · rw [if_pos h2]; exact ropen_2 A n c l s a w h (by omega) h2
  · rw [if_neg h2]; exact ropen_3 A n c l s a w h (by omega) h2

theorem rcrash_any (A : Option Addr) (n c : Nat) (l : List Int) (s a k : Int) (w : World) (h : Bytes w A n c l) (hv : validB l s a = true) :
    Calls Try.prog 26 #[.agg #[.slice A n c, .int .i64 s, .int .i64 a], .int .i64 k] w (DPost w (crashD l s a k)) := by
  have hl := h.len
  obtain ⟨v1, v2, v3, v4⟩ := vb_true hv
  have hs := valid_s hv
  unfold DPost crashD
  rw [if_neg (by rw [hv]; decide)]
  by_cases h2 : k < 0 ∨ (l.length : Int) - s < k
  · rw [if_pos h2]
    by_cases h3 : k < 0
    · exact rcrash_1 A n c l s a k w h (by omega) (by omega) h3
    · exact rcrash_2 A n c l s a k w h (by omega) (by omega) (by omega) (by omega)
  · rw [if_neg h2]; exact rcrash_3 A n c l s a k w h (by omega) (by omega) (by omega) (by omega)

theorem AllBytes.nil : AllBytes [] := fun b h => by cases h
theorem frameL_bytes {b : List Int} (h : AllBytes b) (hn : b.length ≤ 65535) : AllBytes (frameL b) :=
  ((num4_bytes _ (by omega) (by omega)).append h).append (num4_bytes _ (sumL_bd _).1 (sumL_bd _).2)
theorem appendD_bytes {l b : List Int} {s a : Int} (h : AllBytes l) (h' : AllBytes b) : AllBytes (appendD l s a b).l := by
  unfold appendD
  by_cases hb : 65535 < b.length
  · repeat (split <;> (try exact AllBytes.nil) <;> (try exact h) <;> (try omega))
  · have hf := frameL_bytes h' (by omega)
    repeat (split <;> (try exact AllBytes.nil) <;> (try exact h) <;> (try exact h.append hf) <;> (try exact h.append (hf.take _)))
theorem syncD_bytes {l : List Int} {s a : Int} (h : AllBytes l) : AllBytes (syncD l s a).l := by
  unfold syncD; repeat (split <;> (try exact AllBytes.nil) <;> (try exact h))
theorem openD_bytes {l : List Int} {s a : Int} (h : AllBytes l) : AllBytes (openD l s a).l := by
  unfold openD; repeat (split <;> (try exact AllBytes.nil) <;> (try exact h) <;> (try exact h.take _))
theorem crashD_bytes {l : List Int} {s a k : Int} (h : AllBytes l) : AllBytes (crashD l s a k).l := by
  unfold crashD; repeat (split <;> (try exact AllBytes.nil) <;> (try exact h) <;> (try exact h.take _))

/-- What a disk's contract leaves, opened. -/
theorem DPost.open_ {w w' : World} {d : DL} {e : Ending} (h : DPost w d e w') (hb : AllBytes d.l) :
    ∃ A c, e = .returned (.tuple #[.agg #[.slice A d.l.length c, .int .i64 d.s, .int .i64 d.a], .int .i64 d.e]) ∧ Bytes w' A d.l.length c d.l ∧ w'.ownsRow w.heap.size 5 1 (.slice A d.l.length c) d.l.length (d.l.map (Value.int .u8)) ∧ Below w.heap.size w w' := by
  obtain ⟨A, c, he, ho, hbl⟩ := h
  exact ⟨A, c, he, bytes_of_own ho hb, ho, hbl⟩

def largeB (n : Nat) : Bool := (decide (2000 < n) && decide (n ≤ 1048576)) || decide (1048676 < n)
def longB (n : Nat) : Bool := (decide (300 < n) && decide (n ≤ 65535)) || decide (65635 < n)
def noneB (l : List Int) (s a : Int) : Bool := decide (l = []) && (decide (s = 0) && decide (a = 0))

def BoolPost (b : Bool) (w : World) (e : Ending) (w' : World) : Prop := e = .returned (.bool b) ∧ w = w'

set_option maxHeartbeats 400000 in
theorem large_any (A : Option Addr) (n c : Nat) (w : World) (hn : n ≤ 9223372036854775807) : Calls Try.prog 10 #[.slice A n c] w (BoolPost (largeB n) w) := by
  have HF : ∀ b : Bool, largeB n = b → BoolPost (largeB n) w (.returned (.bool b)) w := by rintro _ rfl; exact ⟨rfl, rfl⟩
  by_cases h1 : 2000 < n
  · by_cases h2 : n ≤ 1048576
    · have H := Lib.hid (HF true (by simp [largeB, h1, h2]))
      have d1 : decide ((2000 : Int) < (n : Int)) = true := decide_eq_true (by omega)
      have d2 : decide ((n : Int) ≤ 1048576) = true := decide_eq_true (by omega)
      clear HF
      go_enter Try.func10, Try.ntmps10
      go_wp2
      go_ret
      exact H.out
    · by_cases h3 : 1048676 < n
      · have H := Lib.hid (HF true (by simp [largeB, h1, h2, h3]))
        have d1 : decide ((2000 : Int) < (n : Int)) = true := decide_eq_true (by omega)
        have d2 : decide ((n : Int) ≤ 1048576) = false := decide_eq_false (by omega)
        have d3 : decide ((1048676 : Int) < (n : Int)) = true := decide_eq_true (by omega)
        clear HF
        go_enter Try.func10, Try.ntmps10
        go_wp2
        go_ret
        exact H.out
      · have H := Lib.hid (HF false (by simp [largeB, h1, h2, h3]))
        have d1 : decide ((2000 : Int) < (n : Int)) = true := decide_eq_true (by omega)
        have d2 : decide ((n : Int) ≤ 1048576) = false := decide_eq_false (by omega)
        have d3 : decide ((1048676 : Int) < (n : Int)) = false := decide_eq_false (by omega)
        clear HF
        go_enter Try.func10, Try.ntmps10
        go_wp2
        go_ret
        exact H.out
  · have H := Lib.hid (HF false (by have : ¬ 1048676 < n := by omega
                                    simp [largeB, h1, this]))
    have d1 : decide ((2000 : Int) < (n : Int)) = false := decide_eq_false (by omega)
    have d3 : decide ((1048676 : Int) < (n : Int)) = false := decide_eq_false (by omega)
    clear HF
    go_enter Try.func10, Try.ntmps10
    go_wp2
    go_ret
    exact H.out

set_option maxHeartbeats 400000 in
theorem long_any (A : Option Addr) (n c : Nat) (w : World) (hn : n ≤ 9223372036854775807) : Calls Try.prog 18 #[.slice A n c] w (BoolPost (longB n) w) := by
  have HF : ∀ b : Bool, longB n = b → BoolPost (longB n) w (.returned (.bool b)) w := by rintro _ rfl; exact ⟨rfl, rfl⟩
  by_cases h1 : 300 < n
  · by_cases h2 : n ≤ 65535
    · have H := Lib.hid (HF true (by simp [longB, h1, h2]))
      have d1 : decide ((300 : Int) < (n : Int)) = true := decide_eq_true (by omega)
      have d2 : decide ((n : Int) ≤ 65535) = true := decide_eq_true (by omega)
      clear HF
      go_enter Try.func18, Try.ntmps18
      go_wp2
      go_ret
      exact H.out
    · by_cases h3 : 65635 < n
      · have H := Lib.hid (HF true (by simp [longB, h1, h2, h3]))
        have d1 : decide ((300 : Int) < (n : Int)) = true := decide_eq_true (by omega)
        have d2 : decide ((n : Int) ≤ 65535) = false := decide_eq_false (by omega)
        have d3 : decide ((65635 : Int) < (n : Int)) = true := decide_eq_true (by omega)
        clear HF
        go_enter Try.func18, Try.ntmps18
        go_wp2
        go_ret
        exact H.out
      · have H := Lib.hid (HF false (by simp [longB, h1, h2, h3]))
        have d1 : decide ((300 : Int) < (n : Int)) = true := decide_eq_true (by omega)
        have d2 : decide ((n : Int) ≤ 65535) = false := decide_eq_false (by omega)
        have d3 : decide ((65635 : Int) < (n : Int)) = false := decide_eq_false (by omega)
        clear HF
        go_enter Try.func18, Try.ntmps18
        go_wp2
        go_ret
        exact H.out
  · have H := Lib.hid (HF false (by have : ¬ 65635 < n := by omega
                                    simp [longB, h1, this]))
    have d1 : decide ((300 : Int) < (n : Int)) = false := decide_eq_false (by omega)
    have d3 : decide ((65635 : Int) < (n : Int)) = false := decide_eq_false (by omega)
    clear HF
    go_enter Try.func18, Try.ntmps18
    go_wp2
    go_ret
    exact H.out

theorem Bytes.none_ (w : World) : Bytes w none 0 0 [] := ⟨rfl, Nat.le_refl _, by omega, AllBytes.nil, fun h => absurd h (by omega), fun _ => rfl⟩

set_option maxHeartbeats 400000 in
theorem none_any (A : Option Addr) (n c : Nat) (l : List Int) (s a : Int) (w : World) (h : Bytes w A n c l) :
    Calls Try.prog 16 #[.agg #[.slice A n c, .int .i64 s, .int .i64 a]] w (SamePost w (noneB l s a)) := by
  have HS := Lib.hid (same_any A none n c 0 0 l [] s a 0 0 _ (h.alloc (.cells #[.slice A n c, .int .i64 s, .int .i64 a] 24)) (Bytes.none_ _))
  have HF := Lib.hid (show ∀ w1, Below (w.alloc (.cells #[.slice A n c, .int .i64 s, .int .i64 a] 24)).heap.size (w.alloc (.cells #[.slice A n c, .int .i64 s, .int .i64 a] 24)) w1 → SamePost w (noneB l s a) (.returned (.bool (sameB l s a [] 0 0))) w1 from
    fun w1 hb => ⟨rfl, ((Below.refl _ _).alloc (Nat.le_refl _) _).trans (hb.mono (by simp))⟩)
  clear h
  go_enter Try.func16, Try.ntmps16
  go_wp2_with fail
  refine HS.out.mono ?_
  rintro e w1 ⟨rfl, hb⟩
  have HF1 := Lib.hid (HF.out w1 hb)
  clear hb
  go_wp2
  go_ret
  exact HF1.out
end Go.Proofs.Ytioedljihlfcaaa

import Derived.Test.YtioedljihlfcaaaW8

namespace Go.Proofs.Ytioedljihlfcaaa
open Go.RowKit

/-- A disk and an error number are returned; the disk's bytes are in new memory. -/
def DiskPost (w : World) (l : List Int) (s a err : Int) (e : Ending) (w' : World) : Prop :=
  ∃ A c, e = .returned (.tuple #[.agg #[.slice A l.length c, .int .i64 s, .int .i64 a], .int .i64 err]) ∧ w'.ownsRow w.heap.size 5 1 (.slice A l.length c) l.length (l.map (Value.int .u8)) ∧ Below w.heap.size w w'
theorem DiskPost.zero {w w' : World} (err : Int) (h : Below w.heap.size w w') : DiskPost w [] 0 0 err (.returned (.tuple #[.agg #[.slice none 0 0, .int .i64 0, .int .i64 0], .int .i64 err])) w' :=
  ⟨none, 0, rfl, World.ownsRow_nil _ _ _ _, h⟩

set_option maxHeartbeats 400000 in
theorem format_ok (x : Int) (w : World) (h0 : -1 ≤ x) (h1 : x ≤ 1048576) : Calls Try.prog 11 #[.int .i64 x] w (DiskPost w [] 0 x 0) := by
  have hb : Below w.heap.size w (w.alloc (.cells #[.slice none 0 0, .int .i64 0, .int .i64 0] 24)) := (Below.refl _ _).alloc (Nat.le_refl _) _
  go_enter Try.func11, Try.ntmps11
  go_wp2
  refine bodyPost_ret (v := .tuple #[.agg #[.slice none 0 0, .int .i64 0, .int .i64 x], .int .i64 0]) (by simp [results, Try.results11, go_sem]) rfl ⟨none, 0, rfl, World.ownsRow_nil _ _ _ _, ?_⟩
  exact (Below.refl _ _).alloc (Nat.le_refl _) _
set_option maxHeartbeats 400000 in
theorem format_no (x : Int) (w : World) (h0 : x < -1 ∨ 1048576 < x) : Calls Try.prog 11 #[.int .i64 x] w (DiskPost w [] 0 0 2) := by
  rcases h0 with h0 | h0
  · go_enter Try.func11, Try.ntmps11
    go_wp2
    refine bodyPost_ret (v := .tuple #[.agg #[.slice none 0 0, .int .i64 0, .int .i64 0], .int .i64 2]) (by simp [results, Try.results11, go_sem]) rfl (DiskPost.zero 2 ?_)
    exact (Below.refl _ _).alloc (Nat.le_refl _) _
  · have h1 : ¬ x < -1 := by omega
    go_enter Try.func11, Try.ntmps11
    go_wp2
    refine bodyPost_ret (v := .tuple #[.agg #[.slice none 0 0, .int .i64 0, .int .i64 0], .int .i64 2]) (by simp [results, Try.results11, go_sem]) rfl (DiskPost.zero 2 ?_)
    exact (Below.refl _ _).alloc (Nat.le_refl _) _

def SumPost (w : World) (l : List Int) (e : Ending) (w' : World) : Prop := e = .returned (.tuple (if l.length ≤ 1048576 then #[.int .i64 (sumL l), .int .i64 0] else #[.int .i64 0, .int .i64 4])) ∧ w = w'
set_option maxHeartbeats 400000 in
theorem jsum_any (A : Option Addr) (n c : Nat) (l : List Int) (w : World) (h : Bytes w A n c l) : Calls Try.prog 12 #[.slice A n c] w (SumPost w l) := by
  have hcap := h.cap
  have hle := h.le
  have hl := h.len
  by_cases hn : n ≤ 1048576
  · have HS := Lib.hid (sum_any A n c l w h)
    have HF := Lib.hid (show SumPost w l (.returned (.tuple #[.int .i64 (sumL l), .int .i64 0])) w from ⟨by rw [if_pos (by omega)], rfl⟩)
    have hsb := sumL_bd l
    clear h hl
    generalize sumL l = y at *
    go_enter Try.func12, Try.ntmps12
    go_wp2_with fail
    refine HS.out.mono ?_
    rintro e w1 ⟨rfl, rfl⟩
    go_wp2
    go_ret2
    exact HF.out
  · have HF := Lib.hid (show SumPost w l (.returned (.tuple #[.int .i64 0, .int .i64 4])) w from ⟨by rw [if_neg (by omega)], rfl⟩)
    clear h hl
    go_enter Try.func12, Try.ntmps12
    go_wp2
    go_ret2
    exact HF.out

/-- What Append gives. -/
structure DL where
  l : List Int
  s : Int
  a : Int
  e : Int
def appendD (l : List Int) (s a : Int) (b : List Int) : DL :=
  if validB l s a = false then ⟨[], 0, 0, 1⟩
  else if 65535 < b.length then ⟨[], 0, 0, 4⟩
  else if a = 0 then ⟨l, s, a, 19⟩
  else if total (frames l) ≠ l.length then ⟨[], 0, 0, 13⟩
  else if 1048576 < l.length + (8 + b.length) then ⟨[], 0, 0, 4⟩
  else if a < 0 then ⟨l ++ frameL b, s, a, 0⟩
  else if a < ((8 + b.length : Nat) : Int) then ⟨l ++ (frameL b).take a.toNat, s, 0, 19⟩
  else ⟨l ++ frameL b, s, a - ((8 + b.length : Nat) : Int), 0⟩

def DPost (w : World) (d : DL) (e : Ending) (w' : World) : Prop := DiskPost w d.l d.s d.a d.e e w'

/-- Two boxes of three cells: a disk that came in, and the result's. -/
theorem boxes {w w1 : World} {x y z x' y' z' : Value} {t : TypeId} (hb : Below ((w.alloc (.cells #[x, y, z] t)).alloc (.cells #[x', y', z'] t)).heap.size ((w.alloc (.cells #[x, y, z] t)).alloc (.cells #[x', y', z'] t)) w1) :
    ((w1.cell? ⟨w.heap.size, 0, none⟩ = some x ∧ w1.cell? ⟨w.heap.size, 1, none⟩ = some y ∧ w1.cell? ⟨w.heap.size, 2, none⟩ = some z) ∧ w1.frozen? ⟨w.heap.size, 0, none⟩ = false ∧ w1.frozen? ⟨w.heap.size, 1, none⟩ = false ∧ w1.frozen? ⟨w.heap.size, 2, none⟩ = false) ∧
    ((w1.cell? ⟨w.heap.size + 1, 0, none⟩ = some x' ∧ w1.cell? ⟨w.heap.size + 1, 1, none⟩ = some y' ∧ w1.cell? ⟨w.heap.size + 1, 2, none⟩ = some z') ∧ w1.frozen? ⟨w.heap.size + 1, 0, none⟩ = false ∧ w1.frozen? ⟨w.heap.size + 1, 1, none⟩ = false ∧ w1.frozen? ⟨w.heap.size + 1, 2, none⟩ = false) ∧ w.heap.size + 2 ≤ w1.heap.size ∧ Below w.heap.size w w1 :=
  ⟨box3 hb (by simp; omega) (blk_first _ _ _), box3 hb (by simp) (blk_second _ _ _), by have := hb.size; simp at this; omega, (((Below.refl _ _).alloc (Nat.le_refl _) _).alloc (by simp) _).trans (hb.mono (by simp; omega))⟩

/-- A box of three cells, known at one world, at a later one. -/
theorem boxk {w1 w2 : World} {b B : Nat} {x y z : Value} (hb : Below B w1 w2) (hB : b < B)
    (h : (w1.cell? ⟨b, 0, none⟩ = some x ∧ w1.cell? ⟨b, 1, none⟩ = some y ∧ w1.cell? ⟨b, 2, none⟩ = some z) ∧ w1.frozen? ⟨b, 0, none⟩ = false ∧ w1.frozen? ⟨b, 1, none⟩ = false ∧ w1.frozen? ⟨b, 2, none⟩ = false) :
    (w2.cell? ⟨b, 0, none⟩ = some x ∧ w2.cell? ⟨b, 1, none⟩ = some y ∧ w2.cell? ⟨b, 2, none⟩ = some z) ∧ w2.frozen? ⟨b, 0, none⟩ = false ∧ w2.frozen? ⟨b, 1, none⟩ = false ∧ w2.frozen? ⟨b, 2, none⟩ = false := by
  obtain ⟨⟨h0, h1, h2⟩, f0, f1, f2⟩ := h
  exact ⟨⟨(hb.cell (p := ⟨b, 0, none⟩) hB).trans h0, (hb.cell (p := ⟨b, 1, none⟩) hB).trans h1, (hb.cell (p := ⟨b, 2, none⟩) hB).trans h2⟩, (hb.frozen (p := ⟨b, 0, none⟩) hB).trans f0, (hb.frozen (p := ⟨b, 1, none⟩) hB).trans f1, (hb.frozen (p := ⟨b, 2, none⟩) hB).trans f2⟩

set_option maxHeartbeats 1000000 in
theorem append_1 (A : Option Addr) (n c : Nat) (l : List Int) (s a : Int) (A' : Option Addr) (n' c' : Nat) (b : List Int) (w : World) (h : Bytes w A n c l) (_h' : Bytes w A' n' c' b) (hv : validB l s a = false) :
    Calls Try.prog 19 #[.agg #[.slice A n c, .int .i64 s, .int .i64 a], .slice A' n' c'] w (DiskPost w [] 0 0 1) := by
  have HV := Lib.hid (valid_any A n c l s a _ ((h.alloc (.cells #[.slice A n c, .int .i64 s, .int .i64 a] 24)).alloc (.cells #[.slice none 0 0, .int .i64 0, .int .i64 0] 24)))
  rw [hv] at HV
  clear h hv
  go_enter Try.func19, Try.ntmps19
  go_wp2_with fail
  refine HV.out.mono ?_
  rintro e w1 ⟨rfl, hb⟩
  obtain ⟨⟨⟨p0, p1, p2⟩, f0, f1, f2⟩, ⟨⟨q0, q1, q2⟩, g0, g1, g2⟩, hz, hbel⟩ := boxes hb
  have HB := Lib.hid hbel
  clear hb hbel
  go_wp2
  refine bodyPost_ret (v := .tuple #[.agg #[.slice none 0 0, .int .i64 0, .int .i64 0], .int .i64 1]) (by simp [results, Try.results19, go_sem, q0, q1, q2]) rfl (DiskPost.zero 1 ?_)
  exact (((HB.out.setCell (by simp) _).setCell (by simp) _).setCell (by simp) _)

set_option maxHeartbeats 1000000 in
theorem append_2 (A : Option Addr) (n c : Nat) (l : List Int) (s a : Int) (A' : Option Addr) (n' c' : Nat) (b : List Int) (w : World) (h : Bytes w A n c l) (h' : Bytes w A' n' c' b) (hv : validB l s a = true) (hn : 65535 < n') :
    Calls Try.prog 19 #[.agg #[.slice A n c, .int .i64 s, .int .i64 a], .slice A' n' c'] w (DiskPost w [] 0 0 4) := by
  have HV := Lib.hid (valid_any A n c l s a _ ((h.alloc (.cells #[.slice A n c, .int .i64 s, .int .i64 a] 24)).alloc (.cells #[.slice none 0 0, .int .i64 0, .int .i64 0] 24)))
  rw [hv] at HV
  have hle' := h'.le
  have hcap' := h'.cap
  clear h h' hv
  go_enter Try.func19, Try.ntmps19
  go_wp2_with fail
  refine HV.out.mono ?_
  rintro e w1 ⟨rfl, hb⟩
  obtain ⟨⟨⟨p0, p1, p2⟩, f0, f1, f2⟩, ⟨⟨q0, q1, q2⟩, g0, g1, g2⟩, hz, hbel⟩ := boxes hb
  have HB := Lib.hid hbel
  clear hb hbel
  go_wp2
  refine bodyPost_ret (v := .tuple #[.agg #[.slice none 0 0, .int .i64 0, .int .i64 0], .int .i64 4]) (by simp [results, Try.results19, go_sem, q0, q1, q2]) rfl (DiskPost.zero 4 ?_)
  exact (((HB.out.setCell (by simp) _).setCell (by simp) _).setCell (by simp) _)

set_option maxHeartbeats 1000000 in
theorem append_3 (A : Option Addr) (n c : Nat) (l : List Int) (s a : Int) (A' : Option Addr) (n' c' : Nat) (b : List Int) (w : World) (h : Bytes w A n c l) (h' : Bytes w A' n' c' b) (hv : validB l s a = true) (hn : n' ≤ 65535) (ha : a = 0) :
    Calls Try.prog 19 #[.agg #[.slice A n c, .int .i64 s, .int .i64 a], .slice A' n' c'] w (DiskPost w l s a 19) := by
  subst ha
  have hB := ((h.alloc (.cells #[.slice A n c, .int .i64 s, .int .i64 0] 24)).alloc (.cells #[.slice none 0 0, .int .i64 0, .int .i64 0] 24))
  have HV := Lib.hid (valid_any A n c l s 0 _ hB)
  have hnl : n ≤ 1048576 := by have := h.len; simp [validB] at hv; omega
  have hl := Lib.hid h.len
  have HB0 := Lib.hid hB
  rw [hv] at HV
  have hle' := h'.le
  have hcap' := h'.cap
  clear h h' hv hB
  go_enter Try.func19, Try.ntmps19
  go_wp2_with fail
  refine HV.out.mono ?_
  rintro e w1 ⟨rfl, hb⟩
  obtain ⟨⟨⟨p0, p1, p2⟩, f0, f1, f2⟩, ⟨⟨q0, q1, q2⟩, g0, g1, g2⟩, hz, hbel⟩ := boxes hb
  have HB := Lib.hid hbel
  have HBb := Lib.hid hb
  have hB1 := HB0.out.below hb (Nat.le_refl _)
  have HC := Lib.hid (copied_any A n c l s 0 _ hB1 (by omega))
  clear hb hbel hB1
  go_wp2_with fail
  refine HC.out.mono ?_
  rintro e w2 ⟨A2, c2, rfl, hown, hb2⟩
  obtain ⟨⟨r0, r1, r2⟩, k0, k1, k2⟩ := boxk hb2 (b := w.heap.size + 1) (by omega) ⟨⟨q0, q1, q2⟩, g0, g1, g2⟩
  clear q0 q1 q2 g0 g1 g2
  have HO := Lib.hid hown
  have HB2 := Lib.hid (HB.out.trans (hb2.mono HB.out.size))
  have hz2 := hb2.size
  clear hown hb2 p0 p1 p2 f0 f1 f2
  go_wp2
  refine bodyPost_ret (v := .tuple #[.agg #[.slice A2 n c2, .int .i64 s, .int .i64 0], .int .i64 19]) (by simp [results, Try.results19, go_sem, r0, r1, r2]) rfl ⟨A2, c2, by rw [hl.out], ?_, ?_⟩
  · rw [hl.out]
    exact own_mono (ownsRow_setCell_below (ownsRow_setCell_below (ownsRow_setCell_below HO.out (a := ⟨w.heap.size + 1, 0, none⟩) (by simp; omega) (.slice A2 n c2)) (a := ⟨w.heap.size + 1, 1, none⟩) (by simp; omega) (.int .i64 s)) (a := ⟨w.heap.size + 1, 2, none⟩) (by simp; omega) (.int .i64 0)) (by omega)
  · exact (((HB2.out.setCell (by simp) _).setCell (by simp) _).setCell (by simp) _)

/-- Behind Valid (true), a short record, a store that has not crashed: 'whole' beside a load. The rest is K's. -/
theorem total_le : ∀ (f : Nat) (l : List Int), l.length ≤ f → total (frames l) ≤ l.length := by
  intro f
  induction f with
  | zero =>
    intro l hl
    have : l = [] := List.eq_nil_of_length_eq_zero (by omega)
    subst this
    rw [frames_no (by simp [frameOk])]; simp [total]
  | succ f ih =>
    intro l hl
    by_cases hok : frameOk l = true
    · have h8 := (frameOk_iff l).1 hok
      have hr := restOf_length l
      have := ih (restOf l) (by omega)
      rw [frames_yes hok]
      have hrec : (recOf l).length ≤ (rd l).toNat := by simp [recOf]; omega
      simp only [total, List.map_cons, List.sum_cons] at this ⊢
      omega
    · rw [frames_no (by simpa using hok)]; simp [total]

set_option maxHeartbeats 1000000 in
theorem append_4 (A : Option Addr) (n c : Nat) (l : List Int) (s a : Int) (A' : Option Addr) (n' c' : Nat) (b : List Int) (w : World) (h : Bytes w A n c l) (h' : Bytes w A' n' c' b) (hv : validB l s a = true) (hn : n' ≤ 65535) (ha : a ≠ 0) (ht : total (frames l) ≠ l.length) :
    Calls Try.prog 19 #[.agg #[.slice A n c, .int .i64 s, .int .i64 a], .slice A' n' c'] w (DiskPost w [] 0 0 13) := by
  have hB := ((h.alloc (.cells #[.slice A n c, .int .i64 s, .int .i64 a] 24)).alloc (.cells #[.slice none 0 0, .int .i64 0, .int .i64 0] 24))
  have HV := Lib.hid (valid_any A n c l s a _ hB)
  have hnl : n ≤ 1048576 := by have := h.len; simp [validB] at hv; omega
  have HB0 := Lib.hid hB
  rw [hv] at HV
  have hle' := h'.le
  have hcap' := h'.cap
  have hle := h.le
  have hcap := h.cap
  have ha0 : (a == 0) = false := by simpa using ha
  have ht0 : ((total (frames l) : Int) != (n : Int)) = true := by rw [bne_iff_ne]; intro hh; apply ht; have := h.len; omega
  generalize hT : ((total (frames l) : Nat) : Int) = T at *
  have HT := Lib.hid hT
  clear h h' hv hB ha ht hT
  go_enter Try.func19, Try.ntmps19
  go_wp2_with fail
  refine HV.out.mono ?_
  rintro e w1 ⟨rfl, hb⟩
  obtain ⟨⟨⟨p0, p1, p2⟩, f0, f1, f2⟩, ⟨⟨q0, q1, q2⟩, g0, g1, g2⟩, hz, hbel⟩ := boxes hb
  have HB := Lib.hid hbel
  have HBb := Lib.hid hb
  have HB1 := Lib.hid (HB0.out.below hb (Nat.le_refl _))
  clear hb hbel
  go_wp2_with fail
  go_region_held3 (fun w' => (w'.cell? ⟨w.heap.size, 0, none⟩ = some (.slice A n c) ∧ w'.cell? ⟨w.heap.size, 1, none⟩ = some (.int .i64 s) ∧ w'.cell? ⟨w.heap.size, 2, none⟩ = some (.int .i64 a)) ∧ Below w1.heap.size w1 w')
    (first | exact ⟨⟨p0, p1, p2⟩, (Below.refl _ _).drew⟩ | exact keep3 (by assumption) (by assumption))
    (first
      | (go_at_call 42; refine (whole_any _ _ _ _ _ _ _ (HB1.out.below (And.right (by assumption)) (Nat.le_refl _)) (by omega)).mono ?_; rintro e w2 ⟨rfl, hb⟩; rw [HT.out]))
  have hh : Below w1.heap.size w1 w2 := And.right (by assumption)
  have HB2 := Lib.hid (HB.out.trans (hh.mono (by omega)))
  have hz2 := hh.size
  obtain ⟨⟨r0, r1, r2⟩, k0, k1, k2⟩ := boxk hh (b := w.heap.size + 1) (by omega) ⟨⟨q0, q1, q2⟩, g0, g1, g2⟩
  clear q0 q1 q2 g0 g1 g2 p0 p1 p2 f0 f1 f2 hh
  go_wp2
  refine bodyPost_ret (v := .tuple #[.agg #[.slice none 0 0, .int .i64 0, .int .i64 0], .int .i64 13]) (by simp [results, Try.results19, go_sem, r0, r1, r2]) rfl (DiskPost.zero 13 ?_)
  exact (((HB2.out.setCell (by simp) _).setCell (by simp) _).setCell (by simp) _)
theorem own_take {w : World} {B : Nat} {n c m : Nat} {A : Option Addr} {l : List Int} (h : w.ownsRow B 5 1 (.slice A n c) n (l.map (Value.int .u8))) (hm : m ≤ n) : w.ownsRow B 5 1 (.slice A m c) m ((l.take m).map (Value.int .u8)) := by
  have hl : l.length = n := by have := h.1; simpa using this
  refine ⟨by simp; omega, ?_⟩
  rcases h.2 with ⟨hv, rfl⟩ | ⟨g, cap, cur, hv, hg, hh, hnc, hcm, hs, ht⟩
  · injection hv with h1 h2 h3
    subst h1 h3
    have : m = 0 := by omega
    subst this
    exact .inl ⟨rfl, rfl⟩
  · injection hv with h1 h2 h3
    subst h1 h3
    refine .inr ⟨g, c, cur, rfl, hg, hh, by omega, hcm, hs, ?_⟩
    rw [List.map_take, ← ht, List.take_take]
    congr 1
    omega


theorem box_set2 {w : World} {b : Nat} {x y z : Value} (v : Value)
    (h : (w.cell? ⟨b, 0, none⟩ = some x ∧ w.cell? ⟨b, 1, none⟩ = some y ∧ w.cell? ⟨b, 2, none⟩ = some z) ∧ w.frozen? ⟨b, 0, none⟩ = false ∧ w.frozen? ⟨b, 1, none⟩ = false ∧ w.frozen? ⟨b, 2, none⟩ = false) :
    ((w.setCell ⟨b, 2, none⟩ v).cell? ⟨b, 0, none⟩ = some x ∧ (w.setCell ⟨b, 2, none⟩ v).cell? ⟨b, 1, none⟩ = some y ∧ (w.setCell ⟨b, 2, none⟩ v).cell? ⟨b, 2, none⟩ = some v) ∧ (w.setCell ⟨b, 2, none⟩ v).frozen? ⟨b, 0, none⟩ = false ∧ (w.setCell ⟨b, 2, none⟩ v).frozen? ⟨b, 1, none⟩ = false ∧ (w.setCell ⟨b, 2, none⟩ v).frozen? ⟨b, 2, none⟩ = false := by
  obtain ⟨⟨h0, h1, h2⟩, f0, f1, f2⟩ := h
  refine ⟨⟨?_, ?_, World.cell?_setCell_same _ _ _ h2⟩, by simpa using f0, by simpa using f1, by simpa using f2⟩
  · rw [World.cell?_setCell_other _ _ _ _ (by simp)]; exact h0
  · rw [World.cell?_setCell_other _ _ _ _ (by simp)]; exact h1
theorem box_far {w : World} {b : Nat} {x y z : Value} {p : Addr} (hp : p.block ≠ b) (v : Value)
    (h : (w.cell? ⟨b, 0, none⟩ = some x ∧ w.cell? ⟨b, 1, none⟩ = some y ∧ w.cell? ⟨b, 2, none⟩ = some z) ∧ w.frozen? ⟨b, 0, none⟩ = false ∧ w.frozen? ⟨b, 1, none⟩ = false ∧ w.frozen? ⟨b, 2, none⟩ = false) :
    ((w.setCell p v).cell? ⟨b, 0, none⟩ = some x ∧ (w.setCell p v).cell? ⟨b, 1, none⟩ = some y ∧ (w.setCell p v).cell? ⟨b, 2, none⟩ = some z) ∧ (w.setCell p v).frozen? ⟨b, 0, none⟩ = false ∧ (w.setCell p v).frozen? ⟨b, 1, none⟩ = false ∧ (w.setCell p v).frozen? ⟨b, 2, none⟩ = false := by
  obtain ⟨⟨h0, h1, h2⟩, f0, f1, f2⟩ := h
  have hne : ∀ o, p ≠ ⟨b, o, none⟩ := fun o e => hp (by rw [e])
  refine ⟨⟨?_, ?_, ?_⟩, by simpa using f0, by simpa using f1, by simpa using f2⟩
  · rw [World.cell?_setCell_other _ _ _ _ (hne _)]; exact h0
  · rw [World.cell?_setCell_other _ _ _ _ (hne _)]; exact h1
  · rw [World.cell?_setCell_other _ _ _ _ (hne _)]; exact h2
theorem size_setCell (w : World) (p : Addr) (v : Value) : (w.setCell p v).heap.size = w.heap.size := by simp [World.setCell]
end Go.Proofs.Ytioedljihlfcaaa

import Derived.Test.YtioedljihlfcaaaW29

namespace Go.Proofs.Ytioedljihlfcaaa
open Go.RowKit

theorem Inn.grown {B B' n : Nat} {w w' : World} {v u : Value} {xs : List Value} (h : Inn B w u) (ho : w.ownsRow B' 22 1 v n xs) (hg : w.grownBy w' v.ownBlock) : Inn B w' u := by
  refine h.keep fun g cs _ hh => (hg.block g (lt_of_heap hh) ?_).trans hh
  rcases ho.2 with ⟨rfl, _⟩ | ⟨g', cap, cur, rfl, _, hh', _⟩
  · simp [Value.ownBlock]
  · intro e
    have : g = g' := by simpa [Value.ownBlock] using e
    subst this
    rw [hh] at hh'
    injection hh' with hh'
    injection hh' with _ ht
    exact absurd ht (by decide)
theorem recsU_len (l : List Int) (s a : Int) : (recsU l s a).length ≤ 131072 := by
  unfold recsU
  split
  · have h1 := total_len (frames l)
    have h2 := total_le l.length l (Nat.le_refl _)
    have h3 := (vb_true (by assumption)).1
    omega
  · simp
theorem four_new (w : World) (a b c d : Value) (t : TypeId) : ∀ j u, ([a, b, c, d] : List Value)[j]? = some u → (w.alloc (.cells #[a, b, c, d] t)).cell? ((⟨w.heap.size, 0, none⟩ : Addr).add j) = some u := by
  intro j u hu
  have hj : j < 4 := by
    rcases Nat.lt_or_ge j 4 with h | h
    · exact h
    · rw [List.getElem?_eq_none (by simpa using h)] at hu; cases hu
  rw [addr_add, World.cell?_alloc_at _ _ _ _ rfl, Nat.zero_add]
  simpa using hu
theorem row_cell {w : World} {B N c k : Nat} {A : Option Addr} {R : List Value} (h : w.ownsRow B 22 1 (.slice A N c) N R) (hk : k < N) : ∃ g u, A = some ⟨g, 0, none⟩ ∧ R[k]? = some u ∧ w.cell? ⟨g, k, none⟩ = some u := by
  have hl : R.length = N := by have := h.1; simpa using this
  rcases h.2 with ⟨hv, h0⟩ | ⟨g, cap, cur, hv, _⟩
  · injection hv with h1 h2 h3; omega
  · injection hv with h1 h2 h3
    subst h1 h3
    have e : R[k]? = some R[k] := List.getElem?_eq_getElem (by omega)
    exact ⟨g, R[k], rfl, e, by rw [h.cellAt k (by omega), e]⟩
theorem ARel.set {B N : Nat} {wB w : World} {v : Value} {R : List Value} (h : ARel B wB v R N w) {g i : Nat} {cs : Array Value} (hg : w.heap[g]? = some (.cells cs 5 (0, 0))) (hB : B ≤ g) (y : Int) : ARel B wB v R N (w.setCell ⟨g, i, none⟩ (.int .u8 y)) :=
  ⟨own22_set h.own hg _, fun u hu => (h.inn u hu).set g i y, h.below.setCell hB _⟩
theorem inn_cell {B N : Nat} {wB w : World} {v : Value} {R : List Value} {A : Option Addr} {n c k : Nat} (h : ARel B wB v R N w) (hu : .slice A n c ∈ R) (hk : k < n) :
    ∃ g x, A = some ⟨g, 0, none⟩ ∧ w.cell? ⟨g, k, none⟩ = some (.int .u8 x) ∧ w.frozen? ⟨g, k, none⟩ = false ∧ ∀ y, ARel B wB v R N (w.setCell ⟨g, k, none⟩ (.int .u8 y)) := by
  obtain ⟨A', n', c', e, _, _, h3⟩ := h.inn _ hu
  injection e with e1 e2 e3
  subst e1 e2 e3
  obtain ⟨g, cs, rfl, hg, hh, hc⟩ := h3 (by omega)
  obtain ⟨x, hx⟩ := hc k hk
  refine ⟨g, x, rfl, ?_, by simp [World.frozen?, hh], fun y => h.set hh hg y⟩
  rw [cell_of_row w g k _ _ _ hh]; exact hx

set_option maxHeartbeats 4000000 in
set_option maxRecDepth 100000 in
theorem apart_1 (A : Option Addr) (n c : Nat) (l : List Int) (s a : Int) (A' : Option Addr) (n' c' : Nat) (b : List Int) (w : World) (h : Bytes w A n c l) (h' : Bytes w A' n' c' b) (h1 : 2000 < n) :
    Calls Try.prog 6 #[.agg #[.slice A n c, .int .i64 s, .int .i64 a], .slice A' n' c'] w (SamePost w true) := by
  have hle := h.le
  have hcap := h.cap
  have hle' := h'.le
  have hcap' := h'.cap
  have HAW := Lib.hid (awake_any (w.alloc (.cells #[.slice A n c, .int .i64 s, .int .i64 a] 24)))
  have HX0 := Lib.hid (Bx.new w (.slice A n c) (.int .i64 s) (.int .i64 a))
  have HL := Lib.hid h.len
  have HL' := Lib.hid h'.len
  have HY := Lib.hid h
  have HY' := Lib.hid h'
  have d1 : decide ((2000 : Int) < (n : Int)) = true := decide_eq_true (by omega)
  clear h h'
  go_enter Try.func6, Try.ntmps6
  go_wp2_with fail
  refine HAW.out.mono ?_
  rintro e w1 ⟨rfl, hb1⟩
  have HB1 := Lib.hid (((Below.refl _ _).alloc (Nat.le_refl _) _).trans (hb1.mono (by simp)) : Below w.heap.size w w1)
  have HX1 := Lib.hid (HX0.out.next hb1)
  have hs1 := HB1.out.size
  obtain ⟨⟨p0, p1, p2⟩, -, -, -⟩ := HX1.out
  clear hb1 HAW
  have HF := Lib.hid (show SamePost w true (.returned (.bool true)) w1 from ⟨rfl, HB1.out⟩)
  go_wp2
  go_ret
  exact HF.out

set_option maxHeartbeats 4000000 in
set_option maxRecDepth 100000 in
theorem apart_2 (A : Option Addr) (n c : Nat) (l : List Int) (s a : Int) (A' : Option Addr) (n' c' : Nat) (b : List Int) (w : World) (h : Bytes w A n c l) (h' : Bytes w A' n' c' b) (h1 : n ≤ 2000) (h2 : 300 < n') :
    Calls Try.prog 6 #[.agg #[.slice A n c, .int .i64 s, .int .i64 a], .slice A' n' c'] w (SamePost w true) := by
  have hle := h.le
  have hcap := h.cap
  have hle' := h'.le
  have hcap' := h'.cap
  have HAW := Lib.hid (awake_any (w.alloc (.cells #[.slice A n c, .int .i64 s, .int .i64 a] 24)))
  have HX0 := Lib.hid (Bx.new w (.slice A n c) (.int .i64 s) (.int .i64 a))
  have HL := Lib.hid h.len
  have HL' := Lib.hid h'.len
  have HY := Lib.hid h
  have HY' := Lib.hid h'
  have d1 : decide ((2000 : Int) < (n : Int)) = false := decide_eq_false (by omega)
  have d2 : decide ((300 : Int) < (n' : Int)) = true := decide_eq_true (by omega)
  clear h h'
  go_enter Try.func6, Try.ntmps6
  go_wp2_with fail
  refine HAW.out.mono ?_
  rintro e w1 ⟨rfl, hb1⟩
  have HB1 := Lib.hid (((Below.refl _ _).alloc (Nat.le_refl _) _).trans (hb1.mono (by simp)) : Below w.heap.size w w1)
  have HX1 := Lib.hid (HX0.out.next hb1)
  have hs1 := HB1.out.size
  obtain ⟨⟨p0, p1, p2⟩, -, -, -⟩ := HX1.out
  clear hb1 HAW
  have HF := Lib.hid (show SamePost w true (.returned (.bool true)) w1 from ⟨rfl, HB1.out⟩)
  go_wp2
  go_ret
  exact HF.out

set_option maxHeartbeats 4000000 in
set_option maxRecDepth 100000 in
theorem apart_3 (A : Option Addr) (n c : Nat) (l : List Int) (s a : Int) (A' : Option Addr) (n' c' : Nat) (b : List Int) (w : World) (h : Bytes w A n c l) (h' : Bytes w A' n' c' b) (h1 : n ≤ 2000) (h2 : n' ≤ 300) (hv : validB l s a = false) :
    Calls Try.prog 6 #[.agg #[.slice A n c, .int .i64 s, .int .i64 a], .slice A' n' c'] w (SamePost w true) := by
  have hle := h.le
  have hcap := h.cap
  have hle' := h'.le
  have hcap' := h'.cap
  have HAW := Lib.hid (awake_any (w.alloc (.cells #[.slice A n c, .int .i64 s, .int .i64 a] 24)))
  have HX0 := Lib.hid (Bx.new w (.slice A n c) (.int .i64 s) (.int .i64 a))
  have HL := Lib.hid h.len
  have HL' := Lib.hid h'.len
  have HY := Lib.hid h
  have HY' := Lib.hid h'
  have d1 : decide ((2000 : Int) < (n : Int)) = false := decide_eq_false (by omega)
  have d2 : decide ((300 : Int) < (n' : Int)) = false := decide_eq_false (by omega)
  have HV := Lib.hid hv
  clear hv
  clear h h'
  go_enter Try.func6, Try.ntmps6
  go_wp2_with fail
  refine HAW.out.mono ?_
  rintro e w1 ⟨rfl, hb1⟩
  have HB1 := Lib.hid (((Below.refl _ _).alloc (Nat.le_refl _) _).trans (hb1.mono (by simp)) : Below w.heap.size w w1)
  have HX1 := Lib.hid (HX0.out.next hb1)
  have hs1 := HB1.out.size
  obtain ⟨⟨p0, p1, p2⟩, -, -, -⟩ := HX1.out
  clear hb1 HAW
  go_wp2_with fail
  refine (rvalid_any _ _ _ _ _ _ _ (HY.out.below HB1.out (Nat.le_refl _))).mono ?_
  rintro e w2 ⟨rfl, hb⟩
  rw [HV.out]
  have HB2 := Lib.hid (HB1.out.trans (hb.mono hs1))
  have HX2 := Lib.hid (HX1.out.next hb)
  have hs2 := HB2.out.size
  clear hb p0 p1 p2
  have HF := Lib.hid (show SamePost w true (.returned (.bool true)) w2 from ⟨rfl, HB2.out⟩)
  go_wp2
  go_ret
  exact HF.out

set_option maxHeartbeats 4000000 in
set_option maxRecDepth 100000 in
theorem apart_4 (A : Option Addr) (n c : Nat) (l : List Int) (s a : Int) (A' : Option Addr) (n' c' : Nat) (b : List Int) (w : World) (h : Bytes w A n c l) (h' : Bytes w A' n' c' b) (h1 : n ≤ 2000) (h2 : n' ≤ 300) (hv : validB l s a = true) (ha : a < 0) (ht : total (frames l) = l.length) :
    Calls Try.prog 6 #[.agg #[.slice A n c, .int .i64 s, .int .i64 a], .slice A' n' c'] w (SamePost w true) := by
  have hle := h.le
  have hcap := h.cap
  have hle' := h'.le
  have hcap' := h'.cap
  have HAW := Lib.hid (awake_any (w.alloc (.cells #[.slice A n c, .int .i64 s, .int .i64 a] 24)))
  have HX0 := Lib.hid (Bx.new w (.slice A n c) (.int .i64 s) (.int .i64 a))
  have HL := Lib.hid h.len
  have HL' := Lib.hid h'.len
  have HY := Lib.hid h
  have HY' := Lib.hid h'
  have d1 : decide ((2000 : Int) < (n : Int)) = false := decide_eq_false (by omega)
  have d2 : decide ((300 : Int) < (n' : Int)) = false := decide_eq_false (by omega)
  have HV := Lib.hid hv
  have HTT := Lib.hid ht
  clear hv ht
  clear h h'
  go_enter Try.func6, Try.ntmps6
  go_wp2_with fail
  refine HAW.out.mono ?_
  rintro e w1 ⟨rfl, hb1⟩
  have HB1 := Lib.hid (((Below.refl _ _).alloc (Nat.le_refl _) _).trans (hb1.mono (by simp)) : Below w.heap.size w w1)
  have HX1 := Lib.hid (HX0.out.next hb1)
  have hs1 := HB1.out.size
  obtain ⟨⟨p0, p1, p2⟩, -, -, -⟩ := HX1.out
  clear hb1 HAW
  go_wp2_with fail
  refine (rvalid_any _ _ _ _ _ _ _ (HY.out.below HB1.out (Nat.le_refl _))).mono ?_
  rintro e w2 ⟨rfl, hb⟩
  rw [HV.out]
  have HB2 := Lib.hid (HB1.out.trans (hb.mono hs1))
  have HX2 := Lib.hid (HX1.out.next hb)
  have hs2 := HB2.out.size
  clear hb p0 p1 p2
  obtain ⟨⟨p0, p1, p2⟩, -, -, -⟩ := HX2.out
  go_wp2_with fail
  refine (clone_any A n c l w2 (HY.out.below HB2.out (Nat.le_refl _)) (by omega)).mono ?_
  rintro e w3 ⟨A3, c3, rfl, ho3, hb⟩
  have HY3 := Lib.hid (bytes_of_own ho3 HY.out.bytes)
  have HB3 := Lib.hid (HB2.out.trans (hb.mono hs2))
  have HX3 := Lib.hid (HX2.out.next hb)
  have hs3 := HB3.out.size
  clear hb ho3 p0 p1 p2
  obtain ⟨⟨p0, p1, p2⟩, -, -, -⟩ := HX3.out
  go_wp2_with fail
  refine (clone_any A' n' c' b w3 (HY'.out.below HB3.out (Nat.le_refl _)) (by omega)).mono ?_
  rintro e w4 ⟨A4, c4, rfl, ho4, hb⟩
  have HY3 := Lib.hid (HY3.out.below hb (Nat.le_refl _))
  have HY4 := Lib.hid (bytes_of_own ho4 HY'.out.bytes)
  have HB4 := Lib.hid (HB3.out.trans (hb.mono hs3))
  have HXD := Lib.hid (HX3.out.next hb)
  have hs4 := HB4.out.size
  have hxd := HXD.out.lt
  have HX4 := Lib.hid HXD.out
  have HBB := Lib.hid (Below.refl w4.heap.size w4)
  clear hb ho4 p0 p1 p2
  obtain ⟨⟨p0, p1, p2⟩, -, -, -⟩ := HXD.out
  have hD1 := appendD_bytes (s := s) (a := a) HY.out.bytes HY'.out.bytes
  have hD2 := syncD_bytes (s := s) (a := a) HY.out.bytes
  have hD3 := crashD_bytes (s := s) (a := a) (k := 0) HY.out.bytes
  have hD4 := openD_bytes (s := s) (a := a) HY.out.bytes
  have HK1 := Lib.hid (append_any A n c l s a A' n' c' b w4 (HY.out.below HB4.out (Nat.le_refl _)) (HY'.out.below HB4.out (Nat.le_refl _)))
  have HYB := Lib.hid (HY.out.below HB4.out (Nat.le_refl _))
  have HK2 := Lib.hid (fun W hb => sync_any A n c l s a W (HYB.out.below (w' := W) hb (Nat.le_refl _)))
  have HK3 := Lib.hid (fun W hb => crash_any A n c l s a 0 W (HYB.out.below (w' := W) hb (Nat.le_refl _)))
  have HK4 := Lib.hid (fun W hb => open_any A n c l s a W (HYB.out.below (w' := W) hb (Nat.le_refl _)))
  have hlaw := apart_law HY.out.bytes HV.out (b := b) (by rw [HL'.out]; omega) (by rw [HL.out]; omega) ha HTT.out
  have HE := Lib.hid hlaw.2
  have HR := Lib.hid hlaw.1
  have dz : (((openD l s a).l.length : Nat) : Int) = (n : Int) := by
    unfold openD
    rw [if_neg (by rw [HV.out]; decide), if_neg (by omega), HTT.out, List.take_length, HL.out]
  clear hlaw
  have hrl := recsU_len (appendD l s a b).l (appendD l s a b).s (appendD l s a b).a
  generalize appendD l s a b = dd1 at *
  generalize syncD l s a = dd2 at *
  generalize crashD l s a 0 = dd3 at *
  generalize openD l s a = dd4 at *
  go_wp2_with fail
  refine (HK1.out).mono ?_
  intro e w5 hp
  obtain ⟨A5, c5, rfl, hy, ho, hb⟩ := hp.open_ (hD1)
  have hz := hb.size
  have hn5 : w4.heap.size ≤ w5.heap.size := hz
  have HI5 := Lib.hid (Inn.next (Inn.of_own (B := w4.heap.size) ho (Nat.le_refl _)) ((Below.refl _ _).alloc (Nat.le_refl _) (.cells #[.slice A5 dd1.l.length c5, .int .i64 dd1.s, .int .i64 dd1.a] 24)))
  have HYW := Lib.hid (hy.alloc (.cells #[.slice A5 dd1.l.length c5, .int .i64 dd1.s, .int .i64 dd1.a] 24))
  have HX5 := Lib.hid (Bx.new w5 (.slice A5 dd1.l.length c5) (.int .i64 dd1.s) (.int .i64 dd1.a))
  have HXD := Lib.hid ((HXD.out.next hb).alloc (.cells #[.slice A5 dd1.l.length c5, .int .i64 dd1.s, .int .i64 dd1.a] 24))
  have HBB := Lib.hid ((HBB.out.trans (hb.mono (Nat.le_refl _))).alloc (by omega) (.cells #[.slice A5 dd1.l.length c5, .int .i64 dd1.s, .int .i64 dd1.a] 24))
  clear hy ho hb hp hz p0 p1 p2
  obtain ⟨⟨p0, p1, p2⟩, -, -, -⟩ := HXD.out
  go_wp2_with fail
  refine (HK2.out _ HBB.out).mono ?_
  intro e w6 hp
  obtain ⟨A6, c6, rfl, hy, ho, hb⟩ := hp.open_ (hD2)
  have hz := hb.size
  have hn6 : w5.heap.size + 1 ≤ w6.heap.size := by simpa using hz
  have HI6 := Lib.hid (Inn.next (Inn.of_own (B := w4.heap.size) ho (by simp; omega)) ((Below.refl _ _).alloc (Nat.le_refl _) (.cells #[.slice A6 dd2.l.length c6, .int .i64 dd2.s, .int .i64 dd2.a] 24)))
  have HI5 := Lib.hid ((HI5.out.next hb).next ((Below.refl _ _).alloc (Nat.le_refl _) (.cells #[.slice A6 dd2.l.length c6, .int .i64 dd2.s, .int .i64 dd2.a] 24)))
  have HX5 := Lib.hid ((HX5.out.next hb).alloc (.cells #[.slice A6 dd2.l.length c6, .int .i64 dd2.s, .int .i64 dd2.a] 24))
  have HYW := Lib.hid ((HYW.out.below hb (Nat.le_refl _)).alloc (.cells #[.slice A6 dd2.l.length c6, .int .i64 dd2.s, .int .i64 dd2.a] 24))
  have HX6 := Lib.hid (Bx.new w6 (.slice A6 dd2.l.length c6) (.int .i64 dd2.s) (.int .i64 dd2.a))
  have HXD := Lib.hid ((HXD.out.next hb).alloc (.cells #[.slice A6 dd2.l.length c6, .int .i64 dd2.s, .int .i64 dd2.a] 24))
  have HBB := Lib.hid ((HBB.out.trans (hb.mono (by simp; omega))).alloc (by omega) (.cells #[.slice A6 dd2.l.length c6, .int .i64 dd2.s, .int .i64 dd2.a] 24))
  clear hy ho hb hp hz p0 p1 p2
  obtain ⟨⟨p0, p1, p2⟩, -, -, -⟩ := HXD.out
  go_wp2_with fail
  refine (HK3.out _ HBB.out).mono ?_
  intro e w7 hp
  obtain ⟨A7, c7, rfl, hy, ho, hb⟩ := hp.open_ (hD3)
  have hz := hb.size
  have hn7 : w6.heap.size + 1 ≤ w7.heap.size := by simpa using hz
  have HI7 := Lib.hid (Inn.next (Inn.of_own (B := w4.heap.size) ho (by simp; omega)) ((Below.refl _ _).alloc (Nat.le_refl _) (.cells #[.slice A7 dd3.l.length c7, .int .i64 dd3.s, .int .i64 dd3.a] 24)))
  have HI5 := Lib.hid ((HI5.out.next hb).next ((Below.refl _ _).alloc (Nat.le_refl _) (.cells #[.slice A7 dd3.l.length c7, .int .i64 dd3.s, .int .i64 dd3.a] 24)))
  have HX5 := Lib.hid ((HX5.out.next hb).alloc (.cells #[.slice A7 dd3.l.length c7, .int .i64 dd3.s, .int .i64 dd3.a] 24))
  have HI6 := Lib.hid ((HI6.out.next hb).next ((Below.refl _ _).alloc (Nat.le_refl _) (.cells #[.slice A7 dd3.l.length c7, .int .i64 dd3.s, .int .i64 dd3.a] 24)))
  have HX6 := Lib.hid ((HX6.out.next hb).alloc (.cells #[.slice A7 dd3.l.length c7, .int .i64 dd3.s, .int .i64 dd3.a] 24))
  have HYW := Lib.hid ((HYW.out.below hb (Nat.le_refl _)).alloc (.cells #[.slice A7 dd3.l.length c7, .int .i64 dd3.s, .int .i64 dd3.a] 24))
  have HX7 := Lib.hid (Bx.new w7 (.slice A7 dd3.l.length c7) (.int .i64 dd3.s) (.int .i64 dd3.a))
  have HXD := Lib.hid ((HXD.out.next hb).alloc (.cells #[.slice A7 dd3.l.length c7, .int .i64 dd3.s, .int .i64 dd3.a] 24))
  have HBB := Lib.hid ((HBB.out.trans (hb.mono (by simp; omega))).alloc (by omega) (.cells #[.slice A7 dd3.l.length c7, .int .i64 dd3.s, .int .i64 dd3.a] 24))
  clear hy ho hb hp hz p0 p1 p2
  obtain ⟨⟨p0, p1, p2⟩, -, -, -⟩ := HXD.out
  go_wp2_with fail
  refine (HK4.out _ HBB.out).mono ?_
  intro e w8 hp
  obtain ⟨A8, c8, rfl, hy, ho, hb⟩ := hp.open_ (hD4)
  have hz := hb.size
  have hn8 : w7.heap.size + 1 ≤ w8.heap.size := by simpa using hz
  have HI8 := Lib.hid (Inn.next (Inn.of_own (B := w4.heap.size) ho (by simp; omega)) ((Below.refl _ _).alloc (Nat.le_refl _) (.cells #[.slice A8 dd4.l.length c8, .int .i64 dd4.s, .int .i64 dd4.a] 24)))
  have HI5 := Lib.hid ((HI5.out.next hb).next ((Below.refl _ _).alloc (Nat.le_refl _) (.cells #[.slice A8 dd4.l.length c8, .int .i64 dd4.s, .int .i64 dd4.a] 24)))
  have HX5 := Lib.hid ((HX5.out.next hb).alloc (.cells #[.slice A8 dd4.l.length c8, .int .i64 dd4.s, .int .i64 dd4.a] 24))
  have HI6 := Lib.hid ((HI6.out.next hb).next ((Below.refl _ _).alloc (Nat.le_refl _) (.cells #[.slice A8 dd4.l.length c8, .int .i64 dd4.s, .int .i64 dd4.a] 24)))
  have HX6 := Lib.hid ((HX6.out.next hb).alloc (.cells #[.slice A8 dd4.l.length c8, .int .i64 dd4.s, .int .i64 dd4.a] 24))
  have HI7 := Lib.hid ((HI7.out.next hb).next ((Below.refl _ _).alloc (Nat.le_refl _) (.cells #[.slice A8 dd4.l.length c8, .int .i64 dd4.s, .int .i64 dd4.a] 24)))
  have HX7 := Lib.hid ((HX7.out.next hb).alloc (.cells #[.slice A8 dd4.l.length c8, .int .i64 dd4.s, .int .i64 dd4.a] 24))
  have HYW := Lib.hid ((HYW.out.below hb (Nat.le_refl _)).alloc (.cells #[.slice A8 dd4.l.length c8, .int .i64 dd4.s, .int .i64 dd4.a] 24))
  have HX8 := Lib.hid (Bx.new w8 (.slice A8 dd4.l.length c8) (.int .i64 dd4.s) (.int .i64 dd4.a))
  have HXD := Lib.hid ((HXD.out.next hb).alloc (.cells #[.slice A8 dd4.l.length c8, .int .i64 dd4.s, .int .i64 dd4.a] 24))
  have HBB := Lib.hid ((HBB.out.trans (hb.mono (by simp; omega))).alloc (by omega) (.cells #[.slice A8 dd4.l.length c8, .int .i64 dd4.s, .int .i64 dd4.a] 24))
  clear hy ho hb hp hz p0 p1 p2
  obtain ⟨⟨p0, p1, p2⟩, -, -, -⟩ := HXD.out
  have HRU := Lib.hid (recs_u _ _ _ _ dd1.s dd1.a _ HYW.out)
  clear HK1 HK2 HK3 HK4
  obtain ⟨⟨q0, q1, q2⟩, -, -, -⟩ := HX5.out
  go_wp2_with fail
  refine HRU.out.mono ?_
  intro e w9 hp
  obtain ⟨A9, c9, vs, rfl, ho, hr, hb⟩ := hp
  have hz := hb.size
  have hn9 : w8.heap.size + 1 ≤ w9.heap.size := by simpa using hz
  have HVS := Lib.hid (hr.inn (B := w4.heap.size) (by simp; omega))
  have HO9 := Lib.hid (own_mono (base' := w4.heap.size) ho (by simp; omega))
  have HI5 := Lib.hid (HI5.out.next hb)
  have HX5 := Lib.hid (HX5.out.next hb)
  have HI6 := Lib.hid (HI6.out.next hb)
  have HX6 := Lib.hid (HX6.out.next hb)
  have HI7 := Lib.hid (HI7.out.next hb)
  have HX7 := Lib.hid (HX7.out.next hb)
  have HI8 := Lib.hid (HI8.out.next hb)
  have HX8 := Lib.hid (HX8.out.next hb)
  have HXD := Lib.hid (HXD.out.next hb)
  have HBB := Lib.hid (HBB.out.trans (hb.mono (by simp; omega)))
  rw [HR.out] at hr ho HO9 hrl ⊢
  rw [HE.out]
  have HRI := Lib.hid (rows_of_own ho hr rfl (by
    intro r hr
    rcases List.mem_append.1 hr with hr | hr
    · exact frames_bytes HY.out.bytes r hr
    · simp at hr; subst hr; exact HY'.out.bytes))
  clear ho hr hb hz p0 p1 p2 q0 q1 q2 HRU
  obtain ⟨bb, off, rfl, _, hcell⟩ := HRI.out.cells (by simp)
  obtain ⟨Ai, ni, ci, hc1, hBi⟩ := hcell (frames l).length (by simp)
  rw [show (frames l ++ [b]).getD (frames l).length [] = b by simp [List.getD_eq_getElem?_getD]] at hBi
  have HEQ := Lib.hid (equal_any _ _ _ ci _ c4 _ _ _ hBi (HY4.out.below HBB.out (Nat.le_refl _)))
  rw [decide_eq_true rfl] at HEQ
  have hM : (frames l ++ [b]).length = (frames l).length + 1 := by simp
  rw [hM] at hrl HO9 ⊢
  clear hcell hBi HRI hM HR
  generalize (frames l).length = m at *
  have e0 : (((m : Int) + 1) == 0) = false := by rw [beq_eq_false_iff_ne]; omega
  have e1 : (n : Int) == (n : Int) := by simp
  have e2 : decide (a < 0) = true := decide_eq_true ha
  have DZ := Lib.hid dz
  clear dz
  obtain ⟨⟨p0, p1, p2⟩, -, -, -⟩ := HXD.out
  obtain ⟨⟨s0, s1, s2⟩, -, -, -⟩ := HX8.out
  have dzb : ((((dd4.l.length : Nat) : Int)) == (n : Int)) = true := by rw [DZ.out]; simp
  go_wp2_with fail
  refine HEQ.out.mono ?_
  rintro e w10 ⟨rfl, rfl⟩
  clear hc1 e0 e1 dzb
  obtain ⟨M, hM⟩ : ∃ M, M = m + 1 := ⟨_, rfl⟩
  rw [← hM] at HO9 hrl ⊢
  clear hM
  obtain ⟨⟨q5, -, -⟩, -, -, -⟩ := HX5.out
  obtain ⟨⟨q6, -, -⟩, -, -, -⟩ := HX6.out
  obtain ⟨⟨q7, -, -⟩, -, -, -⟩ := HX7.out
  obtain ⟨⟨q8, -, -⟩, -, -, -⟩ := HX8.out
  obtain ⟨i0, hi, iz0, iz1, iz2⟩ := info_parts sl_info
  have HO10 := Lib.hid (World.ownsRow.alloc HO9.out (.cells #[.slice A5 dd1.l.length c5, .slice A6 dd2.l.length c6, .slice A7 dd3.l.length c7, .slice A8 dd4.l.length c8] 22))
  have hN9 : w4.heap.size ≤ w9.heap.size := HBB.out.size
  go_wp2_with (at_builtin; refine wpList_append_own _ rfl (.tmp 96) (.tmp 105) 43 rfl w4.heap.size 22 i0 (.slice none 0 0) 1 24 Try.underlying43 hi iz0 iz1 iz2 rfl (by decide) (.slice (some ⟨bb, off, none⟩) M c9) M _ rfl HO10.out ⟨w9.heap.size, 0, none⟩ 4 4 [.slice A5 dd1.l.length c5, .slice A6 dd2.l.length c6, .slice A7 dd3.l.length c7, .slice A8 dd4.l.length c8] rfl rfl ?c1 ?c2 ?c3 ?c4 ?c5 ?_)
  case c1 => exact four_new w9 _ _ _ _ 22
  case c2 => intro u hu; simp at hu; rcases hu with rfl | rfl | rfl | rfl <;> rfl
  case c3 => unfold maxLen; omega
  case c4 => omega
  case c5 => simp; omega
  intro v' w10 hown hg _
  have hal : Below w9.heap.size w9 (w9.alloc (.cells #[.slice A5 dd1.l.length c5, .slice A6 dd2.l.length c6, .slice A7 dd3.l.length c7, .slice A8 dd4.l.length c8] 22)) := (Below.refl _ _).alloc (Nat.le_refl _) _
  have hinn : ∀ u ∈ vs ++ [.slice A5 dd1.l.length c5, .slice A6 dd2.l.length c6, .slice A7 dd3.l.length c7, .slice A8 dd4.l.length c8], Inn w4.heap.size w10 u := by
    intro u hu
    rcases List.mem_append.1 hu with hu | hu
    · exact ((HVS.out u hu).next hal).grown HO10.out hg
    · simp at hu
      rcases hu with rfl | rfl | rfl | rfl
      · exact (HI5.out.next hal).grown HO10.out hg
      · exact (HI6.out.next hal).grown HO10.out hg
      · exact (HI7.out.next hal).grown HO10.out hg
      · exact (HI8.out.next hal).grown HO10.out hg
  have HST := Lib.hid (show ARel w4.heap.size w4 v' (vs ++ [.slice A5 dd1.l.length c5, .slice A6 dd2.l.length c6, .slice A7 dd3.l.length c7, .slice A8 dd4.l.length c8]) (M + 4) w10 from ⟨hown, hinn, (HBB.out.alloc hN9 _).grown hg (by simp; omega) (fun k hk => (HO10.out.lt k hk).1)⟩)
  obtain ⟨Av, cv, rfl⟩ := own_slice hown
  clear hown hg hal hinn q5 q6 q7 q8 s0 s1 s2 p0 p1 p2
  generalize vs ++ [.slice A5 dd1.l.length c5, .slice A6 dd2.l.length c6, .slice A7 dd3.l.length c7, .slice A8 dd4.l.length c8] = R at *
  generalize hN : M + 4 = N at *
  have hNb : N ≤ 131076 := by omega
  clear hN
  go_wp2_with fail
  go_loopw [108] (fun i wr => ∃ k : Nat, k ≤ N ∧ i = .int .i64 (k : Int) ∧ ARel w4.heap.size w4 (.slice Av N cv) R N wr) (fun i _ => N - (intOf i).toNat)
  case atStart => exact ⟨0, Nat.zero_le _, rfl, HST.out⟩
  case round =>
    clear HST
    obtain ⟨k, hk, rfl, hrel⟩ := hrel
    have HREL := Lib.hid hrel
    clear hrel
    by_cases hlt : k < N
    · obtain ⟨g, u, rfl, hu, hcu⟩ := row_cell HREL.out.own hlt
      have humem := List.mem_of_getElem? hu
      obtain ⟨Ai, ni, ci, rfl, hni, hci, _⟩ := HREL.out.inn u humem
      have HU := Lib.hid humem
      clear hu humem
      go_wp2_with fail
      obtain ⟨wo, rfl⟩ : ∃ wo : World, wo = wr := ⟨_, rfl⟩
      go_loopw [114] (fun i w' => ∃ k' : Nat, k' ≤ ni ∧ i = .int .i64 (k' : Int) ∧ ARel w4.heap.size w4 (.slice (some ⟨g, 0, none⟩) N cv) R N w') (fun i _ => ni - (intOf i).toNat)
      case atStart => exact ⟨0, Nat.zero_le _, rfl, HREL.out⟩
      case round =>
        clear HREL hcu
        obtain ⟨k', hk', rfl, hrel⟩ := hrel
        have HREL := Lib.hid hrel
        clear hrel
        by_cases hlt' : k' < ni
        · obtain ⟨g', x, rfl, hcx, hfx, HSET⟩ := inn_cell HREL.out HU.out hlt'
          have HS := Lib.hid HSET
          clear HSET
          go_wp2
          go_roundw
          case rel => exact ⟨k' + 1, by omega, by go_num, HS.out _⟩
          case measure => simp [intOf]; omega
        · go_wp2
          go_roundw
          case rel => exact ⟨k + 1, by omega, by go_num, HREL.out⟩
          case measure => simp [intOf]; omega
    · have HBE := Lib.hid HREL.out.below
      have HBW := Lib.hid (HB4.out.trans (HBE.out.mono hs4))
      obtain ⟨⟨p0, p1, p2⟩, -, -, -⟩ := HX4.out.below HBE.out hxd
      have HE1 := Lib.hid (equal_any _ _ _ c _ c3 _ _ _ (HY.out.below HBW.out (Nat.le_refl _)) (HY3.out.below HBE.out (Nat.le_refl _)))
      have HE2 := Lib.hid (equal_any _ _ _ c' _ c4 _ _ _ (HY'.out.below HBW.out (Nat.le_refl _)) (HY4.out.below HBE.out (Nat.le_refl _)))
      rw [decide_eq_true rfl] at HE1 HE2
      have HF := Lib.hid (show SamePost w true (.returned (.bool true)) wr from ⟨rfl, HBW.out⟩)
      clear HREL
      go_wp2_with fail
      refine HE1.out.mono ?_
      rintro e w11 ⟨rfl, rfl⟩
      go_wp2_with fail
      refine HE2.out.mono ?_
      rintro e w12 ⟨rfl, rfl⟩
      go_wp2
      go_ret
      exact HF.out

set_option maxHeartbeats 4000000 in
set_option maxRecDepth 100000 in
theorem apart_5 (A : Option Addr) (n c : Nat) (l : List Int) (s a : Int) (A' : Option Addr) (n' c' : Nat) (b : List Int) (w : World) (h : Bytes w A n c l) (h' : Bytes w A' n' c' b) (h1 : n ≤ 2000) (h2 : n' ≤ 300) (hv : validB l s a = true) (ha : 0 ≤ a) :
    Calls Try.prog 6 #[.agg #[.slice A n c, .int .i64 s, .int .i64 a], .slice A' n' c'] w (SamePost w true) := by
  have hle := h.le
  have hcap := h.cap
  have hle' := h'.le
  have hcap' := h'.cap
  have HAW := Lib.hid (awake_any (w.alloc (.cells #[.slice A n c, .int .i64 s, .int .i64 a] 24)))
  have HX0 := Lib.hid (Bx.new w (.slice A n c) (.int .i64 s) (.int .i64 a))
  have HL := Lib.hid h.len
  have HL' := Lib.hid h'.len
  have HY := Lib.hid h
  have HY' := Lib.hid h'
  have d1 : decide ((2000 : Int) < (n : Int)) = false := decide_eq_false (by omega)
  have d2 : decide ((300 : Int) < (n' : Int)) = false := decide_eq_false (by omega)
  have HV := Lib.hid hv
  have da : decide (a < 0) = false := decide_eq_false (by omega)
  clear hv
  clear h h'
  go_enter Try.func6, Try.ntmps6
  go_wp2_with fail
  refine HAW.out.mono ?_
  rintro e w1 ⟨rfl, hb1⟩
  have HB1 := Lib.hid (((Below.refl _ _).alloc (Nat.le_refl _) _).trans (hb1.mono (by simp)) : Below w.heap.size w w1)
  have HX1 := Lib.hid (HX0.out.next hb1)
  have hs1 := HB1.out.size
  obtain ⟨⟨p0, p1, p2⟩, -, -, -⟩ := HX1.out
  clear hb1 HAW
  go_wp2_with fail
  refine (rvalid_any _ _ _ _ _ _ _ (HY.out.below HB1.out (Nat.le_refl _))).mono ?_
  rintro e w2 ⟨rfl, hb⟩
  rw [HV.out]
  have HB2 := Lib.hid (HB1.out.trans (hb.mono hs1))
  have HX2 := Lib.hid (HX1.out.next hb)
  have hs2 := HB2.out.size
  clear hb p0 p1 p2
  obtain ⟨⟨p0, p1, p2⟩, -, -, -⟩ := HX2.out
  go_wp2_with fail
  refine (clone_any A n c l w2 (HY.out.below HB2.out (Nat.le_refl _)) (by omega)).mono ?_
  rintro e w3 ⟨A3, c3, rfl, ho3, hb⟩
  have HY3 := Lib.hid (bytes_of_own ho3 HY.out.bytes)
  have HB3 := Lib.hid (HB2.out.trans (hb.mono hs2))
  have HX3 := Lib.hid (HX2.out.next hb)
  have hs3 := HB3.out.size
  clear hb ho3 p0 p1 p2
  obtain ⟨⟨p0, p1, p2⟩, -, -, -⟩ := HX3.out
  go_wp2_with fail
  refine (clone_any A' n' c' b w3 (HY'.out.below HB3.out (Nat.le_refl _)) (by omega)).mono ?_
  rintro e w4 ⟨A4, c4, rfl, ho4, hb⟩
  have HY3 := Lib.hid (HY3.out.below hb (Nat.le_refl _))
  have HY4 := Lib.hid (bytes_of_own ho4 HY'.out.bytes)
  have HB4 := Lib.hid (HB3.out.trans (hb.mono hs3))
  have HXD := Lib.hid (HX3.out.next hb)
  have hs4 := HB4.out.size
  have hxd := HXD.out.lt
  have HX4 := Lib.hid HXD.out
  have HBB := Lib.hid (Below.refl w4.heap.size w4)
  clear hb ho4 p0 p1 p2
  obtain ⟨⟨p0, p1, p2⟩, -, -, -⟩ := HXD.out
  have hD1 := appendD_bytes (s := s) (a := a) HY.out.bytes HY'.out.bytes
  have hD2 := syncD_bytes (s := s) (a := a) HY.out.bytes
  have hD3 := crashD_bytes (s := s) (a := a) (k := 0) HY.out.bytes
  have hD4 := openD_bytes (s := s) (a := a) HY.out.bytes
  have HK1 := Lib.hid (append_any A n c l s a A' n' c' b w4 (HY.out.below HB4.out (Nat.le_refl _)) (HY'.out.below HB4.out (Nat.le_refl _)))
  have HYB := Lib.hid (HY.out.below HB4.out (Nat.le_refl _))
  have HK2 := Lib.hid (fun W hb => sync_any A n c l s a W (HYB.out.below (w' := W) hb (Nat.le_refl _)))
  have HK3 := Lib.hid (fun W hb => crash_any A n c l s a 0 W (HYB.out.below (w' := W) hb (Nat.le_refl _)))
  have HK4 := Lib.hid (fun W hb => open_any A n c l s a W (HYB.out.below (w' := W) hb (Nat.le_refl _)))
  have hrl := recsU_len (appendD l s a b).l (appendD l s a b).s (appendD l s a b).a
  generalize appendD l s a b = dd1 at *
  generalize syncD l s a = dd2 at *
  generalize crashD l s a 0 = dd3 at *
  generalize openD l s a = dd4 at *
  go_wp2_with fail
  refine (HK1.out).mono ?_
  intro e w5 hp
  obtain ⟨A5, c5, rfl, hy, ho, hb⟩ := hp.open_ (hD1)
  have hz := hb.size
  have hn5 : w4.heap.size ≤ w5.heap.size := hz
  have HI5 := Lib.hid (Inn.next (Inn.of_own (B := w4.heap.size) ho (Nat.le_refl _)) ((Below.refl _ _).alloc (Nat.le_refl _) (.cells #[.slice A5 dd1.l.length c5, .int .i64 dd1.s, .int .i64 dd1.a] 24)))
  have HYW := Lib.hid (hy.alloc (.cells #[.slice A5 dd1.l.length c5, .int .i64 dd1.s, .int .i64 dd1.a] 24))
  have HX5 := Lib.hid (Bx.new w5 (.slice A5 dd1.l.length c5) (.int .i64 dd1.s) (.int .i64 dd1.a))
  have HXD := Lib.hid ((HXD.out.next hb).alloc (.cells #[.slice A5 dd1.l.length c5, .int .i64 dd1.s, .int .i64 dd1.a] 24))
  have HBB := Lib.hid ((HBB.out.trans (hb.mono (Nat.le_refl _))).alloc (by omega) (.cells #[.slice A5 dd1.l.length c5, .int .i64 dd1.s, .int .i64 dd1.a] 24))
  clear hy ho hb hp hz p0 p1 p2
  obtain ⟨⟨p0, p1, p2⟩, -, -, -⟩ := HXD.out
  go_wp2_with fail
  refine (HK2.out _ HBB.out).mono ?_
  intro e w6 hp
  obtain ⟨A6, c6, rfl, hy, ho, hb⟩ := hp.open_ (hD2)
  have hz := hb.size
  have hn6 : w5.heap.size + 1 ≤ w6.heap.size := by simpa using hz
  have HI6 := Lib.hid (Inn.next (Inn.of_own (B := w4.heap.size) ho (by simp; omega)) ((Below.refl _ _).alloc (Nat.le_refl _) (.cells #[.slice A6 dd2.l.length c6, .int .i64 dd2.s, .int .i64 dd2.a] 24)))
  have HI5 := Lib.hid ((HI5.out.next hb).next ((Below.refl _ _).alloc (Nat.le_refl _) (.cells #[.slice A6 dd2.l.length c6, .int .i64 dd2.s, .int .i64 dd2.a] 24)))
  have HX5 := Lib.hid ((HX5.out.next hb).alloc (.cells #[.slice A6 dd2.l.length c6, .int .i64 dd2.s, .int .i64 dd2.a] 24))
  have HYW := Lib.hid ((HYW.out.below hb (Nat.le_refl _)).alloc (.cells #[.slice A6 dd2.l.length c6, .int .i64 dd2.s, .int .i64 dd2.a] 24))
  have HX6 := Lib.hid (Bx.new w6 (.slice A6 dd2.l.length c6) (.int .i64 dd2.s) (.int .i64 dd2.a))
  have HXD := Lib.hid ((HXD.out.next hb).alloc (.cells #[.slice A6 dd2.l.length c6, .int .i64 dd2.s, .int .i64 dd2.a] 24))
  have HBB := Lib.hid ((HBB.out.trans (hb.mono (by simp; omega))).alloc (by omega) (.cells #[.slice A6 dd2.l.length c6, .int .i64 dd2.s, .int .i64 dd2.a] 24))
  clear hy ho hb hp hz p0 p1 p2
  obtain ⟨⟨p0, p1, p2⟩, -, -, -⟩ := HXD.out
  go_wp2_with fail
  refine (HK3.out _ HBB.out).mono ?_
  intro e w7 hp
  obtain ⟨A7, c7, rfl, hy, ho, hb⟩ := hp.open_ (hD3)
  have hz := hb.size
  have hn7 : w6.heap.size + 1 ≤ w7.heap.size := by simpa using hz
  have HI7 := Lib.hid (Inn.next (Inn.of_own (B := w4.heap.size) ho (by simp; omega)) ((Below.refl _ _).alloc (Nat.le_refl _) (.cells #[.slice A7 dd3.l.length c7, .int .i64 dd3.s, .int .i64 dd3.a] 24)))
  have HI5 := Lib.hid ((HI5.out.next hb).next ((Below.refl _ _).alloc (Nat.le_refl _) (.cells #[.slice A7 dd3.l.length c7, .int .i64 dd3.s, .int .i64 dd3.a] 24)))
  have HX5 := Lib.hid ((HX5.out.next hb).alloc (.cells #[.slice A7 dd3.l.length c7, .int .i64 dd3.s, .int .i64 dd3.a] 24))
  have HI6 := Lib.hid ((HI6.out.next hb).next ((Below.refl _ _).alloc (Nat.le_refl _) (.cells #[.slice A7 dd3.l.length c7, .int .i64 dd3.s, .int .i64 dd3.a] 24)))
  have HX6 := Lib.hid ((HX6.out.next hb).alloc (.cells #[.slice A7 dd3.l.length c7, .int .i64 dd3.s, .int .i64 dd3.a] 24))
  have HYW := Lib.hid ((HYW.out.below hb (Nat.le_refl _)).alloc (.cells #[.slice A7 dd3.l.length c7, .int .i64 dd3.s, .int .i64 dd3.a] 24))
  have HX7 := Lib.hid (Bx.new w7 (.slice A7 dd3.l.length c7) (.int .i64 dd3.s) (.int .i64 dd3.a))
  have HXD := Lib.hid ((HXD.out.next hb).alloc (.cells #[.slice A7 dd3.l.length c7, .int .i64 dd3.s, .int .i64 dd3.a] 24))
  have HBB := Lib.hid ((HBB.out.trans (hb.mono (by simp; omega))).alloc (by omega) (.cells #[.slice A7 dd3.l.length c7, .int .i64 dd3.s, .int .i64 dd3.a] 24))
  clear hy ho hb hp hz p0 p1 p2
  obtain ⟨⟨p0, p1, p2⟩, -, -, -⟩ := HXD.out
  go_wp2_with fail
  refine (HK4.out _ HBB.out).mono ?_
  intro e w8 hp
  obtain ⟨A8, c8, rfl, hy, ho, hb⟩ := hp.open_ (hD4)
  have hz := hb.size
  have hn8 : w7.heap.size + 1 ≤ w8.heap.size := by simpa using hz
  have HI8 := Lib.hid (Inn.next (Inn.of_own (B := w4.heap.size) ho (by simp; omega)) ((Below.refl _ _).alloc (Nat.le_refl _) (.cells #[.slice A8 dd4.l.length c8, .int .i64 dd4.s, .int .i64 dd4.a] 24)))
  have HI5 := Lib.hid ((HI5.out.next hb).next ((Below.refl _ _).alloc (Nat.le_refl _) (.cells #[.slice A8 dd4.l.length c8, .int .i64 dd4.s, .int .i64 dd4.a] 24)))
  have HX5 := Lib.hid ((HX5.out.next hb).alloc (.cells #[.slice A8 dd4.l.length c8, .int .i64 dd4.s, .int .i64 dd4.a] 24))
  have HI6 := Lib.hid ((HI6.out.next hb).next ((Below.refl _ _).alloc (Nat.le_refl _) (.cells #[.slice A8 dd4.l.length c8, .int .i64 dd4.s, .int .i64 dd4.a] 24)))
  have HX6 := Lib.hid ((HX6.out.next hb).alloc (.cells #[.slice A8 dd4.l.length c8, .int .i64 dd4.s, .int .i64 dd4.a] 24))
  have HI7 := Lib.hid ((HI7.out.next hb).next ((Below.refl _ _).alloc (Nat.le_refl _) (.cells #[.slice A8 dd4.l.length c8, .int .i64 dd4.s, .int .i64 dd4.a] 24)))
  have HX7 := Lib.hid ((HX7.out.next hb).alloc (.cells #[.slice A8 dd4.l.length c8, .int .i64 dd4.s, .int .i64 dd4.a] 24))
  have HYW := Lib.hid ((HYW.out.below hb (Nat.le_refl _)).alloc (.cells #[.slice A8 dd4.l.length c8, .int .i64 dd4.s, .int .i64 dd4.a] 24))
  have HX8 := Lib.hid (Bx.new w8 (.slice A8 dd4.l.length c8) (.int .i64 dd4.s) (.int .i64 dd4.a))
  have HXD := Lib.hid ((HXD.out.next hb).alloc (.cells #[.slice A8 dd4.l.length c8, .int .i64 dd4.s, .int .i64 dd4.a] 24))
  have HBB := Lib.hid ((HBB.out.trans (hb.mono (by simp; omega))).alloc (by omega) (.cells #[.slice A8 dd4.l.length c8, .int .i64 dd4.s, .int .i64 dd4.a] 24))
  clear hy ho hb hp hz p0 p1 p2
  obtain ⟨⟨p0, p1, p2⟩, -, -, -⟩ := HXD.out
  have HRU := Lib.hid (recs_u _ _ _ _ dd1.s dd1.a _ HYW.out)
  clear HK1 HK2 HK3 HK4
  obtain ⟨⟨q0, q1, q2⟩, -, -, -⟩ := HX5.out
  go_wp2_with fail
  refine HRU.out.mono ?_
  intro e w9 hp
  obtain ⟨A9, c9, vs, rfl, ho, hr, hb⟩ := hp
  have hz := hb.size
  have hn9 : w8.heap.size + 1 ≤ w9.heap.size := by simpa using hz
  have HVS := Lib.hid (hr.inn (B := w4.heap.size) (by simp; omega))
  have HO9 := Lib.hid (own_mono (base' := w4.heap.size) ho (by simp; omega))
  have HI5 := Lib.hid (HI5.out.next hb)
  have HX5 := Lib.hid (HX5.out.next hb)
  have HI6 := Lib.hid (HI6.out.next hb)
  have HX6 := Lib.hid (HX6.out.next hb)
  have HI7 := Lib.hid (HI7.out.next hb)
  have HX7 := Lib.hid (HX7.out.next hb)
  have HI8 := Lib.hid (HI8.out.next hb)
  have HX8 := Lib.hid (HX8.out.next hb)
  have HXD := Lib.hid (HXD.out.next hb)
  have HBB := Lib.hid (HBB.out.trans (hb.mono (by simp; omega)))
  clear ho hr hb hz p0 p1 p2 q0 q1 q2 HRU
  generalize (recsU dd1.l dd1.s dd1.a).length = M at *
  generalize errU dd1.l dd1.s dd1.a = er at *
  obtain ⟨⟨p0, p1, p2⟩, -, -, -⟩ := HXD.out
  obtain ⟨⟨s0, s1, s2⟩, -, -, -⟩ := HX8.out
  obtain ⟨⟨q5, -, -⟩, -, -, -⟩ := HX5.out
  obtain ⟨⟨q6, -, -⟩, -, -, -⟩ := HX6.out
  obtain ⟨⟨q7, -, -⟩, -, -, -⟩ := HX7.out
  obtain ⟨⟨q8, -, -⟩, -, -, -⟩ := HX8.out
  obtain ⟨i0, hi, iz0, iz1, iz2⟩ := info_parts sl_info
  have HO10 := Lib.hid (World.ownsRow.alloc HO9.out (.cells #[.slice A5 dd1.l.length c5, .slice A6 dd2.l.length c6, .slice A7 dd3.l.length c7, .slice A8 dd4.l.length c8] 22))
  have hN9 : w4.heap.size ≤ w9.heap.size := HBB.out.size
  go_wp2_with (at_builtin; refine wpList_append_own _ rfl (.tmp 96) (.tmp 105) 43 rfl w4.heap.size 22 i0 (.slice none 0 0) 1 24 Try.underlying43 hi iz0 iz1 iz2 rfl (by decide) (.slice A9 M c9) M _ rfl HO10.out ⟨w9.heap.size, 0, none⟩ 4 4 [.slice A5 dd1.l.length c5, .slice A6 dd2.l.length c6, .slice A7 dd3.l.length c7, .slice A8 dd4.l.length c8] rfl rfl ?c1 ?c2 ?c3 ?c4 ?c5 ?_)
  case c1 => exact four_new w9 _ _ _ _ 22
  case c2 => intro u hu; simp at hu; rcases hu with rfl | rfl | rfl | rfl <;> rfl
  case c3 => unfold maxLen; omega
  case c4 => omega
  case c5 => simp; omega
  intro v' w10 hown hg _
  have hal : Below w9.heap.size w9 (w9.alloc (.cells #[.slice A5 dd1.l.length c5, .slice A6 dd2.l.length c6, .slice A7 dd3.l.length c7, .slice A8 dd4.l.length c8] 22)) := (Below.refl _ _).alloc (Nat.le_refl _) _
  have hinn : ∀ u ∈ vs ++ [.slice A5 dd1.l.length c5, .slice A6 dd2.l.length c6, .slice A7 dd3.l.length c7, .slice A8 dd4.l.length c8], Inn w4.heap.size w10 u := by
    intro u hu
    rcases List.mem_append.1 hu with hu | hu
    · exact ((HVS.out u hu).next hal).grown HO10.out hg
    · simp at hu
      rcases hu with rfl | rfl | rfl | rfl
      · exact (HI5.out.next hal).grown HO10.out hg
      · exact (HI6.out.next hal).grown HO10.out hg
      · exact (HI7.out.next hal).grown HO10.out hg
      · exact (HI8.out.next hal).grown HO10.out hg
  have HST := Lib.hid (show ARel w4.heap.size w4 v' (vs ++ [.slice A5 dd1.l.length c5, .slice A6 dd2.l.length c6, .slice A7 dd3.l.length c7, .slice A8 dd4.l.length c8]) (M + 4) w10 from ⟨hown, hinn, (HBB.out.alloc hN9 _).grown hg (by simp; omega) (fun k hk => (HO10.out.lt k hk).1)⟩)
  obtain ⟨Av, cv, rfl⟩ := own_slice hown
  clear hown hg hal hinn q5 q6 q7 q8 s0 s1 s2 p0 p1 p2
  generalize vs ++ [.slice A5 dd1.l.length c5, .slice A6 dd2.l.length c6, .slice A7 dd3.l.length c7, .slice A8 dd4.l.length c8] = R at *
  generalize hN : M + 4 = N at *
  have hNb : N ≤ 131076 := by omega
  clear hN
  go_wp2_with fail
  go_loopw [108] (fun i wr => ∃ k : Nat, k ≤ N ∧ i = .int .i64 (k : Int) ∧ ARel w4.heap.size w4 (.slice Av N cv) R N wr) (fun i _ => N - (intOf i).toNat)
  case atStart => exact ⟨0, Nat.zero_le _, rfl, HST.out⟩
  case round =>
    clear HST
    obtain ⟨k, hk, rfl, hrel⟩ := hrel
    have HREL := Lib.hid hrel
    clear hrel
    by_cases hlt : k < N
    · obtain ⟨g, u, rfl, hu, hcu⟩ := row_cell HREL.out.own hlt
      have humem := List.mem_of_getElem? hu
      obtain ⟨Ai, ni, ci, rfl, hni, hci, _⟩ := HREL.out.inn u humem
      have HU := Lib.hid humem
      clear hu humem
      go_wp2_with fail
      obtain ⟨wo, rfl⟩ : ∃ wo : World, wo = wr := ⟨_, rfl⟩
      go_loopw [114] (fun i w' => ∃ k' : Nat, k' ≤ ni ∧ i = .int .i64 (k' : Int) ∧ ARel w4.heap.size w4 (.slice (some ⟨g, 0, none⟩) N cv) R N w') (fun i _ => ni - (intOf i).toNat)
      case atStart => exact ⟨0, Nat.zero_le _, rfl, HREL.out⟩
      case round =>
        clear HREL hcu
        obtain ⟨k', hk', rfl, hrel⟩ := hrel
        have HREL := Lib.hid hrel
        clear hrel
        by_cases hlt' : k' < ni
        · obtain ⟨g', x, rfl, hcx, hfx, HSET⟩ := inn_cell HREL.out HU.out hlt'
          have HS := Lib.hid HSET
          clear HSET
          go_wp2
          go_roundw
          case rel => exact ⟨k' + 1, by omega, by go_num, HS.out _⟩
          case measure => simp [intOf]; omega
        · go_wp2
          go_roundw
          case rel => exact ⟨k + 1, by omega, by go_num, HREL.out⟩
          case measure => simp [intOf]; omega
    · have HBE := Lib.hid HREL.out.below
      have HBW := Lib.hid (HB4.out.trans (HBE.out.mono hs4))
      obtain ⟨⟨p0, p1, p2⟩, -, -, -⟩ := HX4.out.below HBE.out hxd
      have HE1 := Lib.hid (equal_any _ _ _ c _ c3 _ _ _ (HY.out.below HBW.out (Nat.le_refl _)) (HY3.out.below HBE.out (Nat.le_refl _)))
      have HE2 := Lib.hid (equal_any _ _ _ c' _ c4 _ _ _ (HY'.out.below HBW.out (Nat.le_refl _)) (HY4.out.below HBE.out (Nat.le_refl _)))
      rw [decide_eq_true rfl] at HE1 HE2
      have HF := Lib.hid (show SamePost w true (.returned (.bool true)) wr from ⟨rfl, HBW.out⟩)
      clear HREL
      go_wp2_with fail
      refine HE1.out.mono ?_
      rintro e w11 ⟨rfl, rfl⟩
      go_wp2_with fail
      refine HE2.out.mono ?_
      rintro e w12 ⟨rfl, rfl⟩
      go_wp2
      go_ret
      exact HF.out

set_option maxHeartbeats 4000000 in
set_option maxRecDepth 100000 in
theorem apart_6 (A : Option Addr) (n c : Nat) (l : List Int) (s a : Int) (A' : Option Addr) (n' c' : Nat) (b : List Int) (w : World) (h : Bytes w A n c l) (h' : Bytes w A' n' c' b) (h1 : n ≤ 2000) (h2 : n' ≤ 300) (hv : validB l s a = true) (ha : a < 0) (ht : total (frames l) ≠ l.length) :
    Calls Try.prog 6 #[.agg #[.slice A n c, .int .i64 s, .int .i64 a], .slice A' n' c'] w (SamePost w true) := by
  have hle := h.le
  have hcap := h.cap
  have hle' := h'.le
  have hcap' := h'.cap
  have HAW := Lib.hid (awake_any (w.alloc (.cells #[.slice A n c, .int .i64 s, .int .i64 a] 24)))
  have HX0 := Lib.hid (Bx.new w (.slice A n c) (.int .i64 s) (.int .i64 a))
  have HL := Lib.hid h.len
  have HL' := Lib.hid h'.len
  have HY := Lib.hid h
  have HY' := Lib.hid h'
  have d1 : decide ((2000 : Int) < (n : Int)) = false := decide_eq_false (by omega)
  have d2 : decide ((300 : Int) < (n' : Int)) = false := decide_eq_false (by omega)
  have HV := Lib.hid hv
  have da : decide (a < 0) = true := decide_eq_true (by omega)
  have HTN := Lib.hid ht
  clear hv ht
  clear h h'
  go_enter Try.func6, Try.ntmps6
  go_wp2_with fail
  refine HAW.out.mono ?_
  rintro e w1 ⟨rfl, hb1⟩
  have HB1 := Lib.hid (((Below.refl _ _).alloc (Nat.le_refl _) _).trans (hb1.mono (by simp)) : Below w.heap.size w w1)
  have HX1 := Lib.hid (HX0.out.next hb1)
  have hs1 := HB1.out.size
  obtain ⟨⟨p0, p1, p2⟩, -, -, -⟩ := HX1.out
  clear hb1 HAW
  go_wp2_with fail
  refine (rvalid_any _ _ _ _ _ _ _ (HY.out.below HB1.out (Nat.le_refl _))).mono ?_
  rintro e w2 ⟨rfl, hb⟩
  rw [HV.out]
  have HB2 := Lib.hid (HB1.out.trans (hb.mono hs1))
  have HX2 := Lib.hid (HX1.out.next hb)
  have hs2 := HB2.out.size
  clear hb p0 p1 p2
  obtain ⟨⟨p0, p1, p2⟩, -, -, -⟩ := HX2.out
  go_wp2_with fail
  refine (clone_any A n c l w2 (HY.out.below HB2.out (Nat.le_refl _)) (by omega)).mono ?_
  rintro e w3 ⟨A3, c3, rfl, ho3, hb⟩
  have HY3 := Lib.hid (bytes_of_own ho3 HY.out.bytes)
  have HB3 := Lib.hid (HB2.out.trans (hb.mono hs2))
  have HX3 := Lib.hid (HX2.out.next hb)
  have hs3 := HB3.out.size
  clear hb ho3 p0 p1 p2
  obtain ⟨⟨p0, p1, p2⟩, -, -, -⟩ := HX3.out
  go_wp2_with fail
  refine (clone_any A' n' c' b w3 (HY'.out.below HB3.out (Nat.le_refl _)) (by omega)).mono ?_
  rintro e w4 ⟨A4, c4, rfl, ho4, hb⟩
  have HY3 := Lib.hid (HY3.out.below hb (Nat.le_refl _))
  have HY4 := Lib.hid (bytes_of_own ho4 HY'.out.bytes)
  have HB4 := Lib.hid (HB3.out.trans (hb.mono hs3))
  have HXD := Lib.hid (HX3.out.next hb)
  have hs4 := HB4.out.size
  have hxd := HXD.out.lt
  have HX4 := Lib.hid HXD.out
  have HBB := Lib.hid (Below.refl w4.heap.size w4)
  clear hb ho4 p0 p1 p2
  obtain ⟨⟨p0, p1, p2⟩, -, -, -⟩ := HXD.out
  have hD1 := appendD_bytes (s := s) (a := a) HY.out.bytes HY'.out.bytes
  have hD2 := syncD_bytes (s := s) (a := a) HY.out.bytes
  have hD3 := crashD_bytes (s := s) (a := a) (k := 0) HY.out.bytes
  have hD4 := openD_bytes (s := s) (a := a) HY.out.bytes
  have HK1 := Lib.hid (append_any A n c l s a A' n' c' b w4 (HY.out.below HB4.out (Nat.le_refl _)) (HY'.out.below HB4.out (Nat.le_refl _)))
  have HYB := Lib.hid (HY.out.below HB4.out (Nat.le_refl _))
  have HK2 := Lib.hid (fun W hb => sync_any A n c l s a W (HYB.out.below (w' := W) hb (Nat.le_refl _)))
  have HK3 := Lib.hid (fun W hb => crash_any A n c l s a 0 W (HYB.out.below (w' := W) hb (Nat.le_refl _)))
  have HK4 := Lib.hid (fun W hb => open_any A n c l s a W (HYB.out.below (w' := W) hb (Nat.le_refl _)))
  have hdz : (openD l s a).l.length ≠ n := by
    unfold openD
    rw [if_neg (by rw [HV.out]; decide), if_neg (by omega)]
    have := HL.out
    have := HTN.out
    have := total_le l.length l (Nat.le_refl _)
    simp; omega
  have dzb : ((((openD l s a).l.length : Nat) : Int) == (n : Int)) = false := by rw [beq_eq_false_iff_ne]; omega
  clear hdz
  have hrl := recsU_len (appendD l s a b).l (appendD l s a b).s (appendD l s a b).a
  generalize appendD l s a b = dd1 at *
  generalize syncD l s a = dd2 at *
  generalize crashD l s a 0 = dd3 at *
  generalize openD l s a = dd4 at *
  go_wp2_with fail
  refine (HK1.out).mono ?_
  intro e w5 hp
  obtain ⟨A5, c5, rfl, hy, ho, hb⟩ := hp.open_ (hD1)
  have hz := hb.size
  have hn5 : w4.heap.size ≤ w5.heap.size := hz
  have HI5 := Lib.hid (Inn.next (Inn.of_own (B := w4.heap.size) ho (Nat.le_refl _)) ((Below.refl _ _).alloc (Nat.le_refl _) (.cells #[.slice A5 dd1.l.length c5, .int .i64 dd1.s, .int .i64 dd1.a] 24)))
  have HYW := Lib.hid (hy.alloc (.cells #[.slice A5 dd1.l.length c5, .int .i64 dd1.s, .int .i64 dd1.a] 24))
  have HX5 := Lib.hid (Bx.new w5 (.slice A5 dd1.l.length c5) (.int .i64 dd1.s) (.int .i64 dd1.a))
  have HXD := Lib.hid ((HXD.out.next hb).alloc (.cells #[.slice A5 dd1.l.length c5, .int .i64 dd1.s, .int .i64 dd1.a] 24))
  have HBB := Lib.hid ((HBB.out.trans (hb.mono (Nat.le_refl _))).alloc (by omega) (.cells #[.slice A5 dd1.l.length c5, .int .i64 dd1.s, .int .i64 dd1.a] 24))
  clear hy ho hb hp hz p0 p1 p2
  obtain ⟨⟨p0, p1, p2⟩, -, -, -⟩ := HXD.out
  go_wp2_with fail
  refine (HK2.out _ HBB.out).mono ?_
  intro e w6 hp
  obtain ⟨A6, c6, rfl, hy, ho, hb⟩ := hp.open_ (hD2)
  have hz := hb.size
  have hn6 : w5.heap.size + 1 ≤ w6.heap.size := by simpa using hz
  have HI6 := Lib.hid (Inn.next (Inn.of_own (B := w4.heap.size) ho (by simp; omega)) ((Below.refl _ _).alloc (Nat.le_refl _) (.cells #[.slice A6 dd2.l.length c6, .int .i64 dd2.s, .int .i64 dd2.a] 24)))
  have HI5 := Lib.hid ((HI5.out.next hb).next ((Below.refl _ _).alloc (Nat.le_refl _) (.cells #[.slice A6 dd2.l.length c6, .int .i64 dd2.s, .int .i64 dd2.a] 24)))
  have HX5 := Lib.hid ((HX5.out.next hb).alloc (.cells #[.slice A6 dd2.l.length c6, .int .i64 dd2.s, .int .i64 dd2.a] 24))
  have HYW := Lib.hid ((HYW.out.below hb (Nat.le_refl _)).alloc (.cells #[.slice A6 dd2.l.length c6, .int .i64 dd2.s, .int .i64 dd2.a] 24))
  have HX6 := Lib.hid (Bx.new w6 (.slice A6 dd2.l.length c6) (.int .i64 dd2.s) (.int .i64 dd2.a))
  have HXD := Lib.hid ((HXD.out.next hb).alloc (.cells #[.slice A6 dd2.l.length c6, .int .i64 dd2.s, .int .i64 dd2.a] 24))
  have HBB := Lib.hid ((HBB.out.trans (hb.mono (by simp; omega))).alloc (by omega) (.cells #[.slice A6 dd2.l.length c6, .int .i64 dd2.s, .int .i64 dd2.a] 24))
  clear hy ho hb hp hz p0 p1 p2
  obtain ⟨⟨p0, p1, p2⟩, -, -, -⟩ := HXD.out
  go_wp2_with fail
  refine (HK3.out _ HBB.out).mono ?_
  intro e w7 hp
  obtain ⟨A7, c7, rfl, hy, ho, hb⟩ := hp.open_ (hD3)
  have hz := hb.size
  have hn7 : w6.heap.size + 1 ≤ w7.heap.size := by simpa using hz
  have HI7 := Lib.hid (Inn.next (Inn.of_own (B := w4.heap.size) ho (by simp; omega)) ((Below.refl _ _).alloc (Nat.le_refl _) (.cells #[.slice A7 dd3.l.length c7, .int .i64 dd3.s, .int .i64 dd3.a] 24)))
  have HI5 := Lib.hid ((HI5.out.next hb).next ((Below.refl _ _).alloc (Nat.le_refl _) (.cells #[.slice A7 dd3.l.length c7, .int .i64 dd3.s, .int .i64 dd3.a] 24)))
  have HX5 := Lib.hid ((HX5.out.next hb).alloc (.cells #[.slice A7 dd3.l.length c7, .int .i64 dd3.s, .int .i64 dd3.a] 24))
  have HI6 := Lib.hid ((HI6.out.next hb).next ((Below.refl _ _).alloc (Nat.le_refl _) (.cells #[.slice A7 dd3.l.length c7, .int .i64 dd3.s, .int .i64 dd3.a] 24)))
  have HX6 := Lib.hid ((HX6.out.next hb).alloc (.cells #[.slice A7 dd3.l.length c7, .int .i64 dd3.s, .int .i64 dd3.a] 24))
  have HYW := Lib.hid ((HYW.out.below hb (Nat.le_refl _)).alloc (.cells #[.slice A7 dd3.l.length c7, .int .i64 dd3.s, .int .i64 dd3.a] 24))
  have HX7 := Lib.hid (Bx.new w7 (.slice A7 dd3.l.length c7) (.int .i64 dd3.s) (.int .i64 dd3.a))
  have HXD := Lib.hid ((HXD.out.next hb).alloc (.cells #[.slice A7 dd3.l.length c7, .int .i64 dd3.s, .int .i64 dd3.a] 24))
  have HBB := Lib.hid ((HBB.out.trans (hb.mono (by simp; omega))).alloc (by omega) (.cells #[.slice A7 dd3.l.length c7, .int .i64 dd3.s, .int .i64 dd3.a] 24))
  clear hy ho hb hp hz p0 p1 p2
  obtain ⟨⟨p0, p1, p2⟩, -, -, -⟩ := HXD.out
  go_wp2_with fail
  refine (HK4.out _ HBB.out).mono ?_
  intro e w8 hp
  obtain ⟨A8, c8, rfl, hy, ho, hb⟩ := hp.open_ (hD4)
  have hz := hb.size
  have hn8 : w7.heap.size + 1 ≤ w8.heap.size := by simpa using hz
  have HI8 := Lib.hid (Inn.next (Inn.of_own (B := w4.heap.size) ho (by simp; omega)) ((Below.refl _ _).alloc (Nat.le_refl _) (.cells #[.slice A8 dd4.l.length c8, .int .i64 dd4.s, .int .i64 dd4.a] 24)))
  have HI5 := Lib.hid ((HI5.out.next hb).next ((Below.refl _ _).alloc (Nat.le_refl _) (.cells #[.slice A8 dd4.l.length c8, .int .i64 dd4.s, .int .i64 dd4.a] 24)))
  have HX5 := Lib.hid ((HX5.out.next hb).alloc (.cells #[.slice A8 dd4.l.length c8, .int .i64 dd4.s, .int .i64 dd4.a] 24))
  have HI6 := Lib.hid ((HI6.out.next hb).next ((Below.refl _ _).alloc (Nat.le_refl _) (.cells #[.slice A8 dd4.l.length c8, .int .i64 dd4.s, .int .i64 dd4.a] 24)))
  have HX6 := Lib.hid ((HX6.out.next hb).alloc (.cells #[.slice A8 dd4.l.length c8, .int .i64 dd4.s, .int .i64 dd4.a] 24))
  have HI7 := Lib.hid ((HI7.out.next hb).next ((Below.refl _ _).alloc (Nat.le_refl _) (.cells #[.slice A8 dd4.l.length c8, .int .i64 dd4.s, .int .i64 dd4.a] 24)))
  have HX7 := Lib.hid ((HX7.out.next hb).alloc (.cells #[.slice A8 dd4.l.length c8, .int .i64 dd4.s, .int .i64 dd4.a] 24))
  have HYW := Lib.hid ((HYW.out.below hb (Nat.le_refl _)).alloc (.cells #[.slice A8 dd4.l.length c8, .int .i64 dd4.s, .int .i64 dd4.a] 24))
  have HX8 := Lib.hid (Bx.new w8 (.slice A8 dd4.l.length c8) (.int .i64 dd4.s) (.int .i64 dd4.a))
  have HXD := Lib.hid ((HXD.out.next hb).alloc (.cells #[.slice A8 dd4.l.length c8, .int .i64 dd4.s, .int .i64 dd4.a] 24))
  have HBB := Lib.hid ((HBB.out.trans (hb.mono (by simp; omega))).alloc (by omega) (.cells #[.slice A8 dd4.l.length c8, .int .i64 dd4.s, .int .i64 dd4.a] 24))
  clear hy ho hb hp hz p0 p1 p2
  obtain ⟨⟨p0, p1, p2⟩, -, -, -⟩ := HXD.out
  have HRU := Lib.hid (recs_u _ _ _ _ dd1.s dd1.a _ HYW.out)
  clear HK1 HK2 HK3 HK4
  obtain ⟨⟨q0, q1, q2⟩, -, -, -⟩ := HX5.out
  go_wp2_with fail
  refine HRU.out.mono ?_
  intro e w9 hp
  obtain ⟨A9, c9, vs, rfl, ho, hr, hb⟩ := hp
  have hz := hb.size
  have hn9 : w8.heap.size + 1 ≤ w9.heap.size := by simpa using hz
  have HVS := Lib.hid (hr.inn (B := w4.heap.size) (by simp; omega))
  have HO9 := Lib.hid (own_mono (base' := w4.heap.size) ho (by simp; omega))
  have HI5 := Lib.hid (HI5.out.next hb)
  have HX5 := Lib.hid (HX5.out.next hb)
  have HI6 := Lib.hid (HI6.out.next hb)
  have HX6 := Lib.hid (HX6.out.next hb)
  have HI7 := Lib.hid (HI7.out.next hb)
  have HX7 := Lib.hid (HX7.out.next hb)
  have HI8 := Lib.hid (HI8.out.next hb)
  have HX8 := Lib.hid (HX8.out.next hb)
  have HXD := Lib.hid (HXD.out.next hb)
  have HBB := Lib.hid (HBB.out.trans (hb.mono (by simp; omega)))
  clear ho hr hb hz p0 p1 p2 q0 q1 q2 HRU
  generalize (recsU dd1.l dd1.s dd1.a).length = M at *
  generalize errU dd1.l dd1.s dd1.a = er at *
  obtain ⟨⟨p0, p1, p2⟩, -, -, -⟩ := HXD.out
  obtain ⟨⟨s0, s1, s2⟩, -, -, -⟩ := HX8.out
  obtain ⟨⟨q5, -, -⟩, -, -, -⟩ := HX5.out
  obtain ⟨⟨q6, -, -⟩, -, -, -⟩ := HX6.out
  obtain ⟨⟨q7, -, -⟩, -, -, -⟩ := HX7.out
  obtain ⟨⟨q8, -, -⟩, -, -, -⟩ := HX8.out
  obtain ⟨i0, hi, iz0, iz1, iz2⟩ := info_parts sl_info
  have HO10 := Lib.hid (World.ownsRow.alloc HO9.out (.cells #[.slice A5 dd1.l.length c5, .slice A6 dd2.l.length c6, .slice A7 dd3.l.length c7, .slice A8 dd4.l.length c8] 22))
  have hN9 : w4.heap.size ≤ w9.heap.size := HBB.out.size
  go_wp2_with (at_builtin; refine wpList_append_own _ rfl (.tmp 96) (.tmp 105) 43 rfl w4.heap.size 22 i0 (.slice none 0 0) 1 24 Try.underlying43 hi iz0 iz1 iz2 rfl (by decide) (.slice A9 M c9) M _ rfl HO10.out ⟨w9.heap.size, 0, none⟩ 4 4 [.slice A5 dd1.l.length c5, .slice A6 dd2.l.length c6, .slice A7 dd3.l.length c7, .slice A8 dd4.l.length c8] rfl rfl ?c1 ?c2 ?c3 ?c4 ?c5 ?_)
  case c1 => exact four_new w9 _ _ _ _ 22
  case c2 => intro u hu; simp at hu; rcases hu with rfl | rfl | rfl | rfl <;> rfl
  case c3 => unfold maxLen; omega
  case c4 => omega
  case c5 => simp; omega
  intro v' w10 hown hg _
  have hal : Below w9.heap.size w9 (w9.alloc (.cells #[.slice A5 dd1.l.length c5, .slice A6 dd2.l.length c6, .slice A7 dd3.l.length c7, .slice A8 dd4.l.length c8] 22)) := (Below.refl _ _).alloc (Nat.le_refl _) _
  have hinn : ∀ u ∈ vs ++ [.slice A5 dd1.l.length c5, .slice A6 dd2.l.length c6, .slice A7 dd3.l.length c7, .slice A8 dd4.l.length c8], Inn w4.heap.size w10 u := by
    intro u hu
    rcases List.mem_append.1 hu with hu | hu
    · exact ((HVS.out u hu).next hal).grown HO10.out hg
    · simp at hu
      rcases hu with rfl | rfl | rfl | rfl
      · exact (HI5.out.next hal).grown HO10.out hg
      · exact (HI6.out.next hal).grown HO10.out hg
      · exact (HI7.out.next hal).grown HO10.out hg
      · exact (HI8.out.next hal).grown HO10.out hg
  have HST := Lib.hid (show ARel w4.heap.size w4 v' (vs ++ [.slice A5 dd1.l.length c5, .slice A6 dd2.l.length c6, .slice A7 dd3.l.length c7, .slice A8 dd4.l.length c8]) (M + 4) w10 from ⟨hown, hinn, (HBB.out.alloc hN9 _).grown hg (by simp; omega) (fun k hk => (HO10.out.lt k hk).1)⟩)
  obtain ⟨Av, cv, rfl⟩ := own_slice hown
  clear hown hg hal hinn q5 q6 q7 q8 s0 s1 s2 p0 p1 p2
  generalize vs ++ [.slice A5 dd1.l.length c5, .slice A6 dd2.l.length c6, .slice A7 dd3.l.length c7, .slice A8 dd4.l.length c8] = R at *
  generalize hN : M + 4 = N at *
  have hNb : N ≤ 131076 := by omega
  clear hN
  go_wp2_with fail
  go_loopw [108] (fun i wr => ∃ k : Nat, k ≤ N ∧ i = .int .i64 (k : Int) ∧ ARel w4.heap.size w4 (.slice Av N cv) R N wr) (fun i _ => N - (intOf i).toNat)
  case atStart => exact ⟨0, Nat.zero_le _, rfl, HST.out⟩
  case round =>
    clear HST
    obtain ⟨k, hk, rfl, hrel⟩ := hrel
    have HREL := Lib.hid hrel
    clear hrel
    by_cases hlt : k < N
    · obtain ⟨g, u, rfl, hu, hcu⟩ := row_cell HREL.out.own hlt
      have humem := List.mem_of_getElem? hu
      obtain ⟨Ai, ni, ci, rfl, hni, hci, _⟩ := HREL.out.inn u humem
      have HU := Lib.hid humem
      clear hu humem
      go_wp2_with fail
      obtain ⟨wo, rfl⟩ : ∃ wo : World, wo = wr := ⟨_, rfl⟩
      go_loopw [114] (fun i w' => ∃ k' : Nat, k' ≤ ni ∧ i = .int .i64 (k' : Int) ∧ ARel w4.heap.size w4 (.slice (some ⟨g, 0, none⟩) N cv) R N w') (fun i _ => ni - (intOf i).toNat)
      case atStart => exact ⟨0, Nat.zero_le _, rfl, HREL.out⟩
      case round =>
        clear HREL hcu
        obtain ⟨k', hk', rfl, hrel⟩ := hrel
        have HREL := Lib.hid hrel
        clear hrel
        by_cases hlt' : k' < ni
        · obtain ⟨g', x, rfl, hcx, hfx, HSET⟩ := inn_cell HREL.out HU.out hlt'
          have HS := Lib.hid HSET
          clear HSET
          go_wp2
          go_roundw
          case rel => exact ⟨k' + 1, by omega, by go_num, HS.out _⟩
          case measure => simp [intOf]; omega
        · go_wp2
          go_roundw
          case rel => exact ⟨k + 1, by omega, by go_num, HREL.out⟩
          case measure => simp [intOf]; omega
    · have HBE := Lib.hid HREL.out.below
      have HBW := Lib.hid (HB4.out.trans (HBE.out.mono hs4))
      obtain ⟨⟨p0, p1, p2⟩, -, -, -⟩ := HX4.out.below HBE.out hxd
      have HE1 := Lib.hid (equal_any _ _ _ c _ c3 _ _ _ (HY.out.below HBW.out (Nat.le_refl _)) (HY3.out.below HBE.out (Nat.le_refl _)))
      have HE2 := Lib.hid (equal_any _ _ _ c' _ c4 _ _ _ (HY'.out.below HBW.out (Nat.le_refl _)) (HY4.out.below HBE.out (Nat.le_refl _)))
      rw [decide_eq_true rfl] at HE1 HE2
      have HF := Lib.hid (show SamePost w true (.returned (.bool true)) wr from ⟨rfl, HBW.out⟩)
      clear HREL
      go_wp2_with fail
      refine HE1.out.mono ?_
      rintro e w11 ⟨rfl, rfl⟩
      go_wp2_with fail
      refine HE2.out.mono ?_
      rintro e w12 ⟨rfl, rfl⟩
      go_wp2
      go_ret
      exact HF.out

theorem apart_any (A : Option Addr) (n c : Nat) (l : List Int) (s a : Int) (A' : Option Addr) (n' c' : Nat) (b : List Int) (w : World) (h : Bytes w A n c l) (h' : Bytes w A' n' c' b) :
    Calls Try.prog 6 #[.agg #[.slice A n c, .int .i64 s, .int .i64 a], .slice A' n' c'] w (SamePost w true) := by
  by_cases h1 : 2000 < n
  · exact apart_1 A n c l s a A' n' c' b w h h' h1
  by_cases h2 : 300 < n'
  · exact apart_2 A n c l s a A' n' c' b w h h' (by omega) h2
  cases hv : validB l s a with
  | false => exact apart_3 A n c l s a A' n' c' b w h h' (by omega) (by omega) hv
  | true =>
    by_cases ha : a < 0
    · by_cases ht : total (frames l) = l.length
      · exact apart_4 A n c l s a A' n' c' b w h h' (by omega) (by omega) hv ha ht
      · exact apart_6 A n c l s a A' n' c' b w h h' (by omega) (by omega) hv ha ht
    · exact apart_5 A n c l s a A' n' c' b w h h' (by omega) (by omega) hv (by omega)
end Go.Proofs.Ytioedljihlfcaaa

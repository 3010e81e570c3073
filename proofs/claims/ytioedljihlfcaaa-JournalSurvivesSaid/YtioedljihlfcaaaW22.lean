import Derived.Test.YtioedljihlfcaaaW21

namespace Go.Proofs.Ytioedljihlfcaaa
open Go.RowKit

/-- A box of three cells in a block. -/
def Bx (w : World) (b : Nat) (x y z : Value) : Prop :=
  (w.cell? ⟨b, 0, none⟩ = some x ∧ w.cell? ⟨b, 1, none⟩ = some y ∧ w.cell? ⟨b, 2, none⟩ = some z) ∧ w.frozen? ⟨b, 0, none⟩ = false ∧ w.frozen? ⟨b, 1, none⟩ = false ∧ w.frozen? ⟨b, 2, none⟩ = false
section
variable {w w' : World} {b : Nat} {x y z : Value}
theorem Bx.new (w : World) (x y z : Value) : Bx (w.alloc (.cells #[x, y, z] 24)) w.heap.size x y z := box3 (t := 24) (Below.refl (w.heap.size + 1) _) (by omega) (heap_alloc_new w _)
theorem Bx.lt (h : Bx w b x y z) : b < w.heap.size := World.block_lt_of_cell? w _ h.1.1
theorem Bx.below {B : Nat} (h : Bx w b x y z) (hb : Below B w w') (hB : b < B) : Bx w' b x y z := boxk hb hB h
theorem Bx.next (h : Bx w b x y z) (hb : Below w.heap.size w w') : Bx w' b x y z := boxk hb h.lt h
theorem Bx.alloc (h : Bx w b x y z) (o : Obj) : Bx (w.alloc o) b x y z := h.next ((Below.refl _ _).alloc (Nat.le_refl _) o)
theorem Bx.far (h : Bx w b x y z) {p : Addr} (hp : p.block ≠ b) (v : Value) : Bx (w.setCell p v) b x y z := box_far hp v h
theorem Bx.drew (h : Bx w b x y z) : Bx w.drew b x y z := h
theorem Bx.write (h : Bx w b x y z) (x' y' z' : Value) : Bx (((w.setCell ⟨b, 0, none⟩ x').setCell ⟨b, 1, none⟩ y').setCell ⟨b, 2, none⟩ z') b x' y' z' := box_write x' y' z' h
theorem Bx.far3 (h : Bx w b x y z) {b' : Nat} (hp : b' ≠ b) (x' y' z' : Value) : Bx (((w.setCell ⟨b', 0, none⟩ x').setCell ⟨b', 1, none⟩ y').setCell ⟨b', 2, none⟩ z') b x y z :=
  ((h.far (p := ⟨b', 0, none⟩) hp x').far (p := ⟨b', 1, none⟩) hp y').far (p := ⟨b', 2, none⟩) hp z'
end
/-- Three stores into one block. -/
theorem below_set3 {B : Nat} {w0 w : World} (h : Below B w0 w) {b : Nat} (hb : B ≤ b) (x' y' z' : Value) : Below B w0 (((w.setCell ⟨b, 0, none⟩ x').setCell ⟨b, 1, none⟩ y').setCell ⟨b, 2, none⟩ z') :=
  ((h.setCell hb _).setCell hb _).setCell hb _
theorem bytes_set3 {w : World} {B : Nat} {A : Option Addr} {n c : Nat} {l : List Int} (h : w.ownsRow B 5 1 (.slice A n c) n (l.map (Value.int .u8))) (hb : AllBytes l) {b : Nat} (hB : b < B) (x' y' z' : Value) :
    Bytes (((w.setCell ⟨b, 0, none⟩ x').setCell ⟨b, 1, none⟩ y').setCell ⟨b, 2, none⟩ z') A n c l :=
  bytes_of_own (ownsRow_setCell_below (ownsRow_setCell_below (ownsRow_setCell_below h hB _) hB _) hB _) hb
theorem size_set3 (w : World) (b : Nat) (x' y' z' : Value) : (((w.setCell ⟨b, 0, none⟩ x').setCell ⟨b, 1, none⟩ y').setCell ⟨b, 2, none⟩ z').heap.size = w.heap.size := by
  rw [size_setCell, size_setCell, size_setCell]
theorem Bytes.one (w : World) (g : Nat) (hg : g = w.heap.size) (x : Int) (h0 : 0 ≤ x) (h1 : x < 256) : Bytes (w.alloc (.cells #[.int .u8 x] 5)) (some ⟨g, 0, none⟩) 1 1 [x] := by
  subst hg
  refine ⟨rfl, Nat.le_refl _, by omega, fun b hb => by simp at hb; omega, fun _ => ⟨_, 0, rfl, by simp, fun i hi => ?_⟩, fun h => by cases h⟩
  have : i = 0 := by omega
  subst this
  rw [World.cell?_alloc_at _ _ _ _ rfl]; rfl

theorem DPost.open' {w w' : World} {d : DL} {E : Ending} {l : List Int} {s a e : Int} {n : Nat} (h : DPost w d E w') (hd : d.l = l ∧ d.s = s ∧ d.a = a ∧ d.e = e) (hn : l.length = n) :
    ∃ A c, E = .returned (.tuple #[.agg #[.slice A n c, .int .i64 s, .int .i64 a], .int .i64 e]) ∧ w'.ownsRow w.heap.size 5 1 (.slice A n c) n (l.map (Value.int .u8)) ∧ Below w.heap.size w w' := by
  obtain ⟨rfl, rfl, rfl, rfl⟩ := hd
  subst hn
  exact h
theorem RecsPost.open' {w w' : World} {E : Ending} {rs rs' : List (List Int)} {n : Nat} (h : RecsPost w rs E w') (hr : rs = rs') (hn : rs'.length = n) :
    ∃ A c vs, E = .returned (.tuple #[.slice A n c, .int .i64 0]) ∧ w'.ownsRow w.heap.size 22 1 (.slice A n c) n vs ∧ Recs w' w.heap.size vs rs' ∧ Below w.heap.size w w' := by
  subst hr; subst hn
  exact h

theorem aw_1 : (appendD [] 0 9 [97]).l = frameL [97] ∧ (appendD [] 0 9 [97]).s = 0 ∧ (appendD [] 0 9 [97]).a = 0 ∧ (appendD [] 0 9 [97]).e = 0 := by decide +kernel
theorem aw_2 : frames (frameL [97]) = [[97]] := by decide +kernel
theorem aw_3 : validB (frameL [97]) 0 0 = true := by decide +kernel
theorem aw_4 : (appendD [] 0 8 [97]).l = (frameL [97]).take 8 ∧ (appendD [] 0 8 [97]).s = 0 ∧ (appendD [] 0 8 [97]).a = 0 ∧ (appendD [] 0 8 [97]).e = 19 := by decide +kernel
theorem aw_5 : (crashD ((frameL [97]).take 8) 0 0 8).l = (frameL [97]).take 8 ∧ (crashD ((frameL [97]).take 8) 0 0 8).s = 0 ∧ (crashD ((frameL [97]).take 8) 0 0 8).a = -1 ∧ (crashD ((frameL [97]).take 8) 0 0 8).e = 0 := by decide +kernel
theorem aw_6 : (openD ((frameL [97]).take 8) 0 (-1)).l = [] ∧ (openD ((frameL [97]).take 8) 0 (-1)).s = 0 ∧ (openD ((frameL [97]).take 8) 0 (-1)).a = -1 ∧ (openD ((frameL [97]).take 8) 0 (-1)).e = 0 := by decide +kernel
theorem aw_7 : validB [] 0 (-1) = true := by decide +kernel
theorem aw_8 : frames [] = [] := by decide +kernel
theorem aw_b : AllBytes (frameL [97]) := frameL_bytes (fun b hb => by simp at hb; omega) (by decide)
theorem aw_l : (frameL [97]).length = 9 := by decide +kernel
theorem aw_l8 : ((frameL [97]).take 8).length = 8 := by decide +kernel

set_option maxHeartbeats 2000000 in
theorem awake_any (w : World) : Calls Try.prog 9 #[] w (SamePost w true) := by
  go_enter Try.func9, Try.ntmps9
  go_wp2_with fail
  refine (format_ok 9 w (by omega) (by omega)).mono ?_
  intro e w1 hp
  obtain ⟨A1, c1, rfl, ho1, hb1⟩ := DPost.open' (d := ⟨[], 0, 9, 0⟩) hp ⟨rfl, rfl, rfl, rfl⟩ rfl
  have HB1 := Lib.hid hb1
  have H1 := Lib.hid (append_any A1 0 c1 [] 0 9 _ 1 1 [97] _ (((bytes_of_own ho1 AllBytes.nil).alloc (.cells #[.slice A1 0 c1, .int .i64 0, .int .i64 9] 24)).alloc (.cells #[.int .u8 97] 5)) (Bytes.one (w1.alloc (.cells #[.slice A1 0 c1, .int .i64 0, .int .i64 9] 24)) (w1.heap.size + 1) (by simp) 97 (by omega) (by omega)))
  have hx1 := (Bx.new w1 (.slice A1 0 c1) (.int .i64 0) (.int .i64 9)).alloc (.cells #[.int .u8 97] 5)
  have hs1 := hb1.size
  have HX1 := Lib.hid hx1
  clear hp ho1 hb1 hx1
  go_wp2_with fail
  refine H1.out.mono ?_
  intro e w2 hp
  obtain ⟨A2, c2, rfl, ho2, hb2⟩ := DPost.open' hp aw_1 aw_l
  have hx2 := HX1.out.next hb2
  have HB2 := Lib.hid (((HB1.out.alloc hs1 _).alloc (by simp; omega) _).trans (hb2.mono (by simp; omega)) : Below w.heap.size w w2)
  have hz2 : w1.heap.size + 2 ≤ w2.heap.size := by have := hb2.size; simp at this; omega
  obtain ⟨⟨p0, p1, p2⟩, f0, f1, f2⟩ := hx2
  have HX2 := Lib.hid (Bx.write (w := w2) (b := w1.heap.size) ⟨⟨p0, p1, p2⟩, f0, f1, f2⟩ (.slice A2 9 c2) (.int .i64 0) (.int .i64 0))
  have HBy2 := Lib.hid (bytes_set3 (b := w1.heap.size) ho2 aw_b (by simp; omega) (.slice A2 9 c2) (.int .i64 0) (.int .i64 0))
  have HB2' := Lib.hid (below_set3 HB2.out (b := w1.heap.size) hs1 (.slice A2 9 c2) (.int .i64 0) (.int .i64 0))
  have HZ2 := Lib.hid (size_set3 w2 w1.heap.size (.slice A2 9 c2) (.int .i64 0) (.int .i64 0))
  clear hp ho2 hb2 H1 HX1
  go_wp2_with fail
  generalize (((w2.setCell ⟨w1.heap.size, 0, none⟩ (.slice A2 9 c2)).setCell ⟨w1.heap.size, 1, none⟩ (.int .i64 0)).setCell ⟨w1.heap.size, 2, none⟩ (.int .i64 0)) = W2 at *
  clear p0 p1 p2 f0 f1 f2
  refine (records_yes A2 9 c2 (frameL [97]) 0 0 W2 HBy2.out aw_3).mono ?_
  intro e w3 hp
  obtain ⟨A3, c3, vs3, rfl, ho3, _, hb3⟩ := RecsPost.open' hp aw_2 (n := 1) rfl
  have HB3 := Lib.hid (HB2'.out.trans (hb3.mono HB2'.out.size))
  have HX3 := Lib.hid (HX2.out.next hb3)
  have hz3 := hb3.size
  have hs3 := HB3.out.size
  have hx3 := HX3.out.lt
  clear hp ho3 hb3
  go_wp2_with fail
  refine (format_ok 8 w3 (by omega) (by omega)).mono ?_
  intro e w4 hp
  obtain ⟨A4, c4, rfl, ho4, hb4⟩ := DPost.open' (d := ⟨[], 0, 8, 0⟩) hp ⟨rfl, rfl, rfl, rfl⟩ rfl
  have HB4 := Lib.hid (HB3.out.trans (hb4.mono hs3))
  have hs4 := HB4.out.size
  have hz4 := hb4.size
  have H4 := Lib.hid (append_any A4 0 c4 [] 0 8 _ 1 1 [97] _ (((bytes_of_own ho4 AllBytes.nil).alloc (.cells #[.slice A4 0 c4, .int .i64 0, .int .i64 8] 24)).alloc (.cells #[.int .u8 97] 5)) (Bytes.one (w4.alloc (.cells #[.slice A4 0 c4, .int .i64 0, .int .i64 8] 24)) (w4.heap.size + 1) (by simp) 97 (by omega) (by omega)))
  have HX4 := Lib.hid ((Bx.new w4 (.slice A4 0 c4) (.int .i64 0) (.int .i64 8)).alloc (.cells #[.int .u8 97] 5))
  have HY4 := Lib.hid (((HX3.out.next hb4).alloc (.cells #[.slice A4 0 c4, .int .i64 0, .int .i64 8] 24)).alloc (.cells #[.int .u8 97] 5))
  clear hp ho4 hb4
  go_wp2_with fail
  refine H4.out.mono ?_
  intro e w5 hp
  obtain ⟨A5, c5, rfl, ho5, hb5⟩ := DPost.open' hp aw_4 aw_l8
  have HB5 := Lib.hid (((HB4.out.alloc hs4 _).alloc (by simp; omega) _).trans (hb5.mono (by simp; omega)) : Below w.heap.size w w5)
  have hz5 : w4.heap.size + 2 ≤ w5.heap.size := by have := hb5.size; simp at this; omega
  have HY5 := Lib.hid ((HY4.out.next hb5).far3 (b' := w4.heap.size) (by omega) (.slice A5 8 c5) (.int .i64 0) (.int .i64 0))
  obtain ⟨⟨p0, p1, p2⟩, f0, f1, f2⟩ := HX4.out.next hb5
  have HX5 := Lib.hid (Bx.write (w := w5) (b := w4.heap.size) ⟨⟨p0, p1, p2⟩, f0, f1, f2⟩ (.slice A5 8 c5) (.int .i64 0) (.int .i64 0))
  have HBy5 := Lib.hid (bytes_set3 (b := w4.heap.size) ho5 (aw_b.take 8) (by simp; omega) (.slice A5 8 c5) (.int .i64 0) (.int .i64 0))
  have HB5' := Lib.hid (below_set3 HB5.out (b := w4.heap.size) hs4 (.slice A5 8 c5) (.int .i64 0) (.int .i64 0))
  have HZ5 := Lib.hid (size_set3 w5 w4.heap.size (.slice A5 8 c5) (.int .i64 0) (.int .i64 0))
  clear hp ho5 hb5 H4 HX4 HY4
  go_wp2_with fail
  generalize (((w5.setCell ⟨w4.heap.size, 0, none⟩ (.slice A5 8 c5)).setCell ⟨w4.heap.size, 1, none⟩ (.int .i64 0)).setCell ⟨w4.heap.size, 2, none⟩ (.int .i64 0)) = W5 at *
  clear p0 p1 p2 f0 f1 f2
  refine (crash_any A5 8 c5 ((frameL [97]).take 8) 0 0 8 W5 HBy5.out).mono ?_
  intro e w6 hp
  obtain ⟨A6, c6, rfl, ho6, hb6⟩ := DPost.open' hp aw_5 aw_l8
  have HB6 := Lib.hid (HB5'.out.trans (hb6.mono HB5'.out.size))
  have hz6 := hb6.size
  have hx5 := HX5.out.lt
  have HY6 := Lib.hid ((HY5.out.next hb6).far3 (b' := w4.heap.size) (by omega) (.slice A6 8 c6) (.int .i64 0) (.int .i64 (-1)))
  obtain ⟨⟨p0, p1, p2⟩, f0, f1, f2⟩ := HX5.out.next hb6
  have HX6 := Lib.hid (Bx.write (w := w6) (b := w4.heap.size) ⟨⟨p0, p1, p2⟩, f0, f1, f2⟩ (.slice A6 8 c6) (.int .i64 0) (.int .i64 (-1)))
  have HBy6 := Lib.hid (bytes_set3 (b := w4.heap.size) ho6 (aw_b.take 8) (by omega) (.slice A6 8 c6) (.int .i64 0) (.int .i64 (-1)))
  have HB6' := Lib.hid (below_set3 HB6.out (b := w4.heap.size) hs4 (.slice A6 8 c6) (.int .i64 0) (.int .i64 (-1)))
  clear hp ho6 hb6
  go_wp2_with fail
  generalize (((w6.setCell ⟨w4.heap.size, 0, none⟩ (.slice A6 8 c6)).setCell ⟨w4.heap.size, 1, none⟩ (.int .i64 0)).setCell ⟨w4.heap.size, 2, none⟩ (.int .i64 (-1))) = W6 at *
  clear p0 p1 p2 f0 f1 f2
  refine (open_any A6 8 c6 ((frameL [97]).take 8) 0 (-1) W6 HBy6.out).mono ?_
  intro e w7 hp
  obtain ⟨A7, c7, rfl, ho7, hb7⟩ := DPost.open' hp aw_6 (n := 0) rfl
  have HB7 := Lib.hid (HB6'.out.trans (hb7.mono HB6'.out.size))
  have hz7 := hb7.size
  have hx6 := HX6.out.lt
  have HY7 := Lib.hid ((HY6.out.next hb7).far3 (b' := w4.heap.size) (by omega) (.slice A7 0 c7) (.int .i64 0) (.int .i64 (-1)))
  obtain ⟨⟨p0, p1, p2⟩, f0, f1, f2⟩ := HX6.out.next hb7
  have HX7 := Lib.hid (Bx.write (w := w7) (b := w4.heap.size) ⟨⟨p0, p1, p2⟩, f0, f1, f2⟩ (.slice A7 0 c7) (.int .i64 0) (.int .i64 (-1)))
  have HBy7 := Lib.hid (bytes_set3 (b := w4.heap.size) ho7 AllBytes.nil (by omega) (.slice A7 0 c7) (.int .i64 0) (.int .i64 (-1)))
  have HB7' := Lib.hid (below_set3 HB7.out (b := w4.heap.size) hs4 (.slice A7 0 c7) (.int .i64 0) (.int .i64 (-1)))
  clear hp ho7 hb7
  go_wp2_with fail
  generalize (((w7.setCell ⟨w4.heap.size, 0, none⟩ (.slice A7 0 c7)).setCell ⟨w4.heap.size, 1, none⟩ (.int .i64 0)).setCell ⟨w4.heap.size, 2, none⟩ (.int .i64 (-1))) = W7 at *
  clear p0 p1 p2 f0 f1 f2
  refine (records_yes A7 0 c7 [] 0 (-1) W7 HBy7.out aw_7).mono ?_
  intro e w8 hp
  obtain ⟨A8, c8, vs8, rfl, ho8, _, hb8⟩ := RecsPost.open' hp aw_8 (n := 0) rfl
  have HF := Lib.hid (show SamePost w true (.returned (.bool true)) w8 from ⟨rfl, HB7'.out.trans (hb8.mono HB7'.out.size)⟩)
  obtain ⟨⟨p0, p1, p2⟩, -, -, -⟩ := HY7.out.next hb8
  clear hp ho8 hb8
  go_wp2
  go_ret
  exact HF.out
end Go.Proofs.Ytioedljihlfcaaa

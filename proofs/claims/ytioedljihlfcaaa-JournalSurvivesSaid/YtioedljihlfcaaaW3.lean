import Derived.Test.YtioedljihlfcaaaW2
import Derived.Test.YtioedljihlfcaaaMem
import Derived.WalkSpells
import Derived.Deep.RegionHeld3

namespace Go.Proofs.Ytioedljihlfcaaa
open Go.RowKit

/-- The slice value '.slice A n c' reads as the integers l. -/
structure Ints (w : World) (A : Option Addr) (n : Nat) (l : List Int) : Prop where
  len : l.length = n
  le : n ≤ 9223372036854775807
  cells : 0 < n → ∃ b off, A = some ⟨b, off, none⟩ ∧ b < w.heap.size ∧ ∀ i, i < n → w.cell? ⟨b, off + i, none⟩ = some (.int .i64 (l.getD i 0))
theorem Ints.below {w w' : World} {A : Option Addr} {n : Nat} {l : List Int} {B : Nat} (h : Ints w A n l) (hb : Below B w w') (hB : w.heap.size ≤ B) : Ints w' A n l :=
  ⟨h.len, h.le, fun hn => by
    obtain ⟨b, off, e, hlt, hc⟩ := h.cells hn
    exact ⟨b, off, e, Nat.lt_of_lt_of_le hlt hb.size, fun i hi => (hb.cell (p := ⟨b, off + i, none⟩) (Nat.lt_of_lt_of_le hlt hB)).trans (hc i hi)⟩⟩
theorem map_getD (f : Int → Value) (l : List Int) (i : Nat) (h : i < l.length) : (l.map f)[i]? = some (f (l.getD i 0)) := by
  simp [List.getD_eq_getElem?_getD, h]
theorem own_ints {w : World} {B n : Nat} {v : Value} {l : List Int} (h : w.ownsRow B 3 1 v n (l.map (Value.int .i64))) : ∃ A c, v = .slice A n c ∧ Ints w A n l := by
  have hl : l.length = n := by have := h.1; simpa using this
  rcases h.2 with ⟨rfl, rfl⟩ | ⟨g, cap, cur, rfl, _, hg, hnc, hm, _⟩
  · exact ⟨none, 0, rfl, hl, by omega, fun h => absurd h (by omega)⟩
  · refine ⟨_, _, rfl, hl, by unfold maxLen at hm; omega, fun hn => ⟨g, 0, rfl, ?_, fun i hi => ?_⟩⟩
    · rcases Nat.lt_or_ge g w.heap.size with hlt | hge
      · exact hlt
      · rw [Array.getElem?_eq_none hge] at hg; cases hg
    · rw [Nat.zero_add, h.cellAt i (by omega), map_getD _ _ _ (by omega)]

def IdxPost (l : List Int) (x : Int) (w : World) (e : Ending) (w' : World) : Prop := (∃ r : Int, e = .returned (.int .i64 r) ∧ (0 ≤ r ↔ x ∈ l) ∧ -1 ≤ r ∧ r < 9223372036854775807) ∧ w = w'

set_option maxHeartbeats 400000 in
theorem index_any (A : Option Addr) (n c : Nat) (l : List Int) (x : Int) (w : World) (h : Ints w A n l) :
    Calls Try.prog 51 #[.slice A n c, .int .i64 x] w (IdxPost l x w) := by
  have hn := h.le
  have hcell := h.cells
  have HL := Lib.hid h.len
  clear h
  go_enter Try.func51, Try.ntmps51
  go_wp2
  go_loop [8] (fun i => ∃ k : Nat, k ≤ n ∧ i = .int .i64 k ∧ ∀ j, j < k → l.getD j 0 ≠ x) (fun i => n - (intOf i).toNat)
  case atStart => exact ⟨0, Nat.zero_le _, rfl, fun j hj => absurd hj (by omega)⟩
  case round =>
    obtain ⟨k, hk, rfl, hno⟩ := hrel
    have HN := Lib.hid hno
    clear hno
    by_cases hlt : k < n
    · obtain ⟨b, off, rfl, _, hcc⟩ := hcell (by omega)
      have hc0 := hcc k hlt
      clear hcc hcell
      by_cases hx : x = l.getD k 0
      · have hx1 : (x == l.getD k 0) = true := by simp [hx]
        have HX := Lib.hid hx
        have hmem : x ∈ l := by rw [hx, List.getD_eq_getElem?_getD, List.getElem?_eq_getElem (by rw [HL.out]; exact hlt)]; simp
        have hfin : IdxPost l x w (.returned (.int .i64 (k : Int))) w := ⟨⟨k, rfl, ⟨fun _ => hmem, fun _ => by omega⟩, by omega, by omega⟩, rfl⟩
        have HF := Lib.hid hfin
        clear hx hmem hfin
        generalize l.getD k 0 = y at *
        go_wp2
        go_ret
        exact HF.out
      · have hx1 : (x == l.getD k 0) = false := beq_eq_false_iff_ne.2 hx
        have HX := Lib.hid hx
        clear hx
        generalize hy : l.getD k 0 = y at *
        have HY := Lib.hid hy
        clear hy
        go_wp2
        go_round
        case rel =>
          refine ⟨k + 1, by omega, by go_num, fun j hj => ?_⟩
          by_cases e : j = k
          · rw [e, HY.out]; exact fun hh => HX.out hh.symm
          · exact HN.out j (by omega)
        case measure => simp [intOf]; omega
    · have hno : x ∉ l := by
        intro hm
        obtain ⟨i, hi, he⟩ := List.getElem_of_mem hm
        exact HN.out i (by have := HL.out; omega) (by rw [List.getD_eq_getElem?_getD, List.getElem?_eq_getElem hi]; simpa using he)
      have hfin : IdxPost l x w (.returned (.int .i64 (-1 : Int))) w := ⟨⟨-1, rfl, ⟨fun h => absurd h (by omega), fun h => absurd h hno⟩, by omega, by omega⟩, rfl⟩
      have HF := Lib.hid hfin
      clear hno hfin
      go_wp2
      go_ret
      exact HF.out

set_option maxHeartbeats 400000 in
theorem contains_any (A : Option Addr) (n c : Nat) (l : List Int) (x : Int) (w : World) (h : Ints w A n l) :
    Calls Try.prog 38 #[.slice A n c, .int .i64 x] w fun e w' => e = .returned (.bool (decide (x ∈ l))) ∧ w = w' := by
  have HI := Lib.hid (index_any A n c l x w h)
  clear h
  go_enter Try.func38, Try.ntmps38
  go_wp2_with fail
  refine HI.out.mono ?_
  rintro e w' ⟨⟨r, rfl, hr, _, _⟩, rfl⟩
  have HR := Lib.hid hr
  clear hr
  go_wp2
  go_ret
  have e : decide (0 ≤ r) = decide (x ∈ l) := decide_eq_decide.2 HR.out
  rw [← e]
  exact ⟨rfl, rfl⟩

theorem addr_add (b off j : Nat) : (⟨b, off, none⟩ : Addr).add j = ⟨b, off + j, none⟩ := by
  unfold Addr.add; by_cases h : j = 0 <;> simp [h]
theorem Bytes.reads {w : World} {A : Option Addr} {n c : Nat} {l : List Int} (h : Bytes w A n c l) : Reads w w.heap.size 1 A n (l.map (Value.int .u8)) := by
  refine ⟨by simp [h.len], fun hn => ?_⟩
  obtain ⟨b, off, rfl, hlt, hc⟩ := h.cells hn
  refine ⟨_, rfl, hlt, fun j u hu => ?_⟩
  have hj : j < l.length := by
    rcases Nat.lt_or_ge j l.length with hj | hj
    · exact hj
    · rw [List.getElem?_eq_none (by simpa using hj)] at hu; cases hu
  rw [map_getD _ _ _ hj] at hu
  injection hu with hu
  rw [addr_add, hc j (by have := h.len; omega), hu]
theorem map_one (k : IntKind) (l : List Int) : ∀ u ∈ l.map (Value.int k), u.oneCell' = true := by
  intro u hu; obtain ⟨x, _, rfl⟩ := List.mem_map.1 hu; rfl
theorem bcell {W w1 : World} (hb : Below W.heap.size W w1) : (∀ b o, b < W.heap.size → w1.cell? ⟨b, o, none⟩ = W.cell? ⟨b, o, none⟩) ∧ (∀ b o, b < W.heap.size → w1.frozen? ⟨b, o, none⟩ = W.frozen? ⟨b, o, none⟩) :=
  ⟨fun b o h => hb.cell (p := ⟨b, o, none⟩) h, fun b o h => hb.frozen (p := ⟨b, o, none⟩) h⟩

def ClonePost (w : World) (n : Nat) (l : List Int) (e : Ending) (w' : World) : Prop := ∃ A c, e = .returned (.slice A n c) ∧ w'.ownsRow w.heap.size 5 1 (.slice A n c) n (l.map (Value.int .u8)) ∧ Below w.heap.size w w'

theorem own_mono {w : World} {base base' : Nat} {e : TypeId} {size : Nat} {v : Value} {n : Nat} {xs : List Value} (h : w.ownsRow base e size v n xs) (hb : base' ≤ base) : w.ownsRow base' e size v n xs :=
  ⟨h.1, h.2.imp_right fun ⟨g, cap, cur, hv, hg, r⟩ => ⟨g, cap, cur, hv, Nat.le_trans hb hg, r⟩⟩

theorem own_slice {w : World} {B : Nat} {e : TypeId} {n : Nat} {v : Value} {xs : List Value} (h : w.ownsRow B e 1 v n xs) : ∃ A c, v = .slice A n c := by
  rcases h.2 with ⟨rfl, rfl⟩ | ⟨g, cap, cur, rfl, _⟩
  · exact ⟨_, _, rfl⟩
  · exact ⟨_, _, rfl⟩

set_option maxHeartbeats 400000 in
theorem clone_any (A : Option Addr) (n c : Nat) (l : List Int) (w : World) (h : Bytes w A n c l) (hn : n ≤ 2000000) :
    Calls Try.prog 31 #[.slice A n c] w (ClonePost w n l) := by
  cases A with
  | none =>
    have hc := h.null rfl
    have hle := h.le
    obtain rfl : c = 0 := hc
    obtain rfl : n = 0 := by omega
    have hl : l = [] := List.eq_nil_of_length_eq_zero h.len
    have HF := Lib.hid (show ClonePost w 0 l (.returned (.slice none 0 0)) w from ⟨none, 0, rfl, by rw [hl]; exact World.ownsRow_nil _ _ _ _, Below.refl _ _⟩)
    have he : ∀ w, (binOp .eql 22 (.slice none 0 0) (.slice none 0 0)).run Try.prog w = .ok (.bool true) w := fun w => Lib.run_eql_slice_nil (P := Try.prog) w 22 5 none 0 0 0 0 Try.underlying22
    clear h hl hle
    go_enter Try.func31, Try.ntmps31
    go_wp2
    go_ret
    exact HF.out
  | some a =>
    obtain ⟨i0, hi, hz0, hz1, hz2⟩ := info_parts u8_info
    have he : ∀ w, (binOp .eql 22 (.slice (some a) n c) (.slice none 0 0)).run Try.prog w = .ok (.bool false) w := fun w => Lib.run_eql_slice_nil (P := Try.prog) w 22 5 (some a) n c 0 0 Try.underlying22
    have hr := Lib.hid (h.reads.alloc (Nat.le_refl _) (.cells #[] 5))
    have hown : (w.alloc (.cells #[] 5)).ownsRow w.heap.size 5 1 (.slice (some ⟨w.heap.size, 0, none⟩) 0 0) 0 [] := World.ownsRow_made w #[] 0 (Nat.le_refl _) (by decide) rfl
    have HO := Lib.hid hown
    clear h hown
    go_enter Try.func31, Try.ntmps31
    go_wp2_with (at_builtin; refine wpList_append_any _ rfl (.tmp 5) (.tmp 6) 22 rfl w.heap.size 5 i0 (.int .u8 0) 1 1 Try.underlying22 hi hz0 hz1 hz2 rfl (by decide) (.slice (some ⟨w.heap.size, 0, none⟩) 0 0) 0 [] rfl HO.out w.heap.size (some a) n c (l.map (Value.int .u8)) rfl hr.out (map_one _ _) ?c1 ?c2 ?c3 ?_)
    case c1 => unfold maxLen; omega
    case c2 => omega
    case c3 => simp
    intro v' w1 hown2 hg _
    have hb : Below w.heap.size w w1 := ((Below.refl _ _).alloc (Nat.le_refl _) _).grown hg (by simp) (fun k hk => by simp [Value.ownBlock] at hk; omega)
    obtain ⟨A', c', rfl⟩ := own_slice hown2
    have HF := Lib.hid (show ClonePost w n l (.returned (.slice A' n c')) w1 from ⟨A', c', rfl, hown2, hb⟩)
    clear hown2 hg hb HO hr
    go_wp2
    go_ret
    exact HF.out

def diskV (v : Value) (s a : Int) : Value := .agg #[v, .int .i64 s, .int .i64 a]
def CopiedPost (w : World) (n : Nat) (l : List Int) (s a : Int) (e : Ending) (w' : World) : Prop := ∃ A c, e = .returned (.agg #[.slice A n c, .int .i64 s, .int .i64 a]) ∧ w'.ownsRow w.heap.size 5 1 (.slice A n c) n (l.map (Value.int .u8)) ∧ Below w.heap.size w w'

/-- A box of three cells, and what it holds still behind a call that left it alone. -/
theorem box3 {w w1 : World} {x y z : Value} {t : TypeId} {B b : Nat} (hb : Below B w w1) (hB : b < B) (h : w.heap[b]? = some (.cells #[x, y, z] t (0, 0))) :
    (w1.cell? ⟨b, 0, none⟩ = some x ∧ w1.cell? ⟨b, 1, none⟩ = some y ∧ w1.cell? ⟨b, 2, none⟩ = some z) ∧
    w1.frozen? ⟨b, 0, none⟩ = false ∧ w1.frozen? ⟨b, 1, none⟩ = false ∧ w1.frozen? ⟨b, 2, none⟩ = false := by
  have h1 : w1.heap[b]? = some (.cells #[x, y, z] t (0, 0)) := (hb.block b hB).trans h
  refine ⟨⟨?_, ?_, ?_⟩, ?_, ?_, ?_⟩
  · rw [cell_of_row w1 b 0 _ _ _ h1]; rfl
  · rw [cell_of_row w1 b 1 _ _ _ h1]; rfl
  · rw [cell_of_row w1 b 2 _ _ _ h1]; rfl
  · simp [World.frozen?, h1]
  · simp [World.frozen?, h1]
  · simp [World.frozen?, h1]
theorem blk_first (w : World) (o o' : Obj) : ((w.alloc o).alloc o').heap[w.heap.size]? = some o := by
  rw [Below.heap_alloc _ _ _ (by simp), heap_alloc_new]
theorem blk_second (w : World) (o o' : Obj) : ((w.alloc o).alloc o').heap[w.heap.size + 1]? = some o' := by
  have := heap_alloc_new (w.alloc o) o'
  simpa using this

set_option maxHeartbeats 1000000 in
theorem copied_any (A : Option Addr) (n c : Nat) (l : List Int) (s a : Int) (w : World) (h : Bytes w A n c l) (hn : n ≤ 2000000) :
    Calls Try.prog 41 #[.agg #[.slice A n c, .int .i64 s, .int .i64 a]] w (CopiedPost w n l s a) := by
  have h2 := Lib.hid ((h.alloc (.cells #[.slice A n c, .int .i64 s, .int .i64 a] 24)).alloc (.cells #[.slice none 0 0, .int .i64 0, .int .i64 0] 24))
  clear h
  go_enter Try.func41, Try.ntmps41
  go_wp2_with fail
  refine (clone_any _ _ _ _ _ h2.out hn).mono ?_
  rintro e w1 ⟨A', c', rfl, hown, hb⟩
  obtain ⟨⟨p0, p1, p2⟩, f0, f1, f2⟩ := box3 hb (by simp; omega) (blk_first _ _ _)
  obtain ⟨⟨q0, q1, q2⟩, g0, g1, g2⟩ := box3 hb (by simp) (blk_second _ _ _)
  have hz := hb.size
  have HO := Lib.hid hown
  clear hown
  go_wp2
  refine bodyPost_ret (v := .agg #[.slice A' n c', .int .i64 s, .int .i64 a]) (by simp [results, Try.results41, go_sem, q0, q1, q2]) rfl ⟨A', c', rfl, ?_, ?_⟩
  · have h1 := HO.out
    have h2 := ownsRow_setCell_below (ownsRow_setCell_below (ownsRow_setCell_below (ownsRow_setCell_below h1 (a := ⟨w.heap.size, 0, none⟩) (by simp; omega) (.slice A' n c')) (a := ⟨w.heap.size + 1, 0, none⟩) (by simp) (.slice A' n c')) (a := ⟨w.heap.size + 1, 1, none⟩) (by simp) (.int .i64 s)) (a := ⟨w.heap.size + 1, 2, none⟩) (by simp) (.int .i64 a)
    exact own_mono h2 (by simp; omega)
  · exact ((((((((Below.refl _ _).alloc (Nat.le_refl _) _).alloc (by simp) _).trans (hb.mono (by simp; omega))).setCell (by simp) _).setCell (by simp) _).setCell (by simp) _).setCell (by simp) _)

def WholePost (w : World) (l : List Int) (e : Ending) (w' : World) : Prop := e = .returned (.int .i64 (total (frames l) : Int)) ∧ Below w.heap.size w w'

theorem cum_last (a : Nat) (rs : List (List Int)) : (cum a rs).getD rs.length 0 = ((a + total rs : Nat) : Int) := by
  induction rs generalizing a with
  | nil => simp [cum, total]
  | cons x rs ih =>
    simp only [cum, List.length_cons, List.getD_cons_succ]
    rw [ih]; simp [total]; omega

set_option maxHeartbeats 1000000 in
theorem whole_any (A : Option Addr) (n c : Nat) (l : List Int) (s a : Int) (w : World) (h : Bytes w A n c l) (hn : n ≤ 2000000) :
    Calls Try.prog 42 #[.agg #[.slice A n c, .int .i64 s, .int .i64 a]] w (WholePost w l) := by
  have h2 := Lib.hid (h.alloc (.cells #[.slice A n c, .int .i64 s, .int .i64 a] 24))
  have hl := cum_last 0 (frames l)
  have HL := Lib.hid hl
  clear h hl
  go_enter Try.func42, Try.ntmps42
  go_wp2_with fail
  refine (ends_any _ _ _ _ _ h2.out hn).mono ?_
  rintro e w1 ⟨v, rfl, hown, hb⟩
  obtain ⟨A', c', rfl, hI⟩ := own_ints hown
  obtain ⟨b, off, rfl, _, hc⟩ := hI.cells (by omega)
  have hc0 := hc (frames l).length (by omega)
  have hle := hI.le
  rw [HL.out] at hc0
  have hbel : Below w.heap.size w w1 := ((Below.refl _ _).alloc (Nat.le_refl _) _).trans (hb.mono (by simp))
  have HF := Lib.hid (show WholePost w l (.returned (.int .i64 ((0 + total (frames l) : Nat) : Int))) w1 from ⟨by rw [Nat.zero_add], hbel⟩)
  clear hown hI hc hb hbel
  generalize (frames l).length = m at *
  generalize ((0 + total (frames l) : Nat) : Int) = x at *
  go_wp2
  go_ret
  exact HF.out

end Go.Proofs.Ytioedljihlfcaaa

import Derived.Test.YtioedljihlfcaaaW6
import Derived.Lib.AppendZeros

namespace Go.Proofs.Ytioedljihlfcaaa
open Go.RowKit

theorem wpList_append_run {P : Program} {w w' : World} {ops : Array Oper} {rest : List Oper} {o : Oper} {a : Act} {Q : Exit → Act → World → Prop} (hgd : o.guard = none) (s x : Operand) (t t2 : TypeId)
    (ho : o.op = .call { callee := .builtin .append, args := #[s, x], argTypes := #[t, t2] }) (y z v : Value) (hs : a.eval s = y) (hx : a.eval x = z)
    (hrun : (Builtin.append_ #[t, t2] o.type #[y, z]).run P w = .ok v w') (h : wpList P ops Q rest (a.put o.dst v) w') : wpList P ops Q (o :: rest) a w :=
  wpList_plain hgd fun K hK => by
    unfold Oper.wp execOp
    simp only [ho, resolve, invoke, builtin, Sem.run_bind, Sem.run_pure, Result.andThen_ok, List.map_toArray, List.map_cons, List.map_nil, hs, hx, hrun]
    exact hK _ _ h

def GrowPost (w : World) (e : Ending) (w' : World) : Prop := ∃ A c, e = .returned (.slice A 0 c) ∧ w'.ownsRow w.heap.size 5 1 (.slice A 0 c) 0 [] ∧ Below w.heap.size w w'

set_option maxHeartbeats 400000 in
theorem grow_any (n : Nat) (w : World) (h0 : 0 < n) (hn : n ≤ 4000000) : Calls Try.prog 54 #[.slice none 0 0, .int .i64 (n : Int)] w (GrowPost w) := by
  obtain ⟨i0, hi, hz0, hz1, hz2⟩ := info_parts u8_info
  have hrun := Lib.run_append_nil_zeros (P := Try.prog) w 22 3 22 5 i0 (.int .u8 0) .i64 .i64 Try.underlying22 Try.underlying3 hi hz0 n h0 (by rw [hz1]; decide) (by omega) (by rw [hz2]; omega)
  have hg1 := grownCap_ge w n 0 5
  have hg2 := grownCap_le_maxLen w n 0 5 (by unfold maxLen; omega)
  generalize hG : grownCap w n 0 5 = G at *
  have HR := Lib.hid hrun
  have hown : (w.drew.alloc (.cells (Builtin.zeroCells (Value.int .u8 0).cells n ++ Builtin.zeroCells (Value.int .u8 0).cells (G - n)) 5)).ownsRow w.heap.size 5 1 (.slice (some ⟨w.heap.size, 0, none⟩) 0 G) 0 [] :=
    ⟨rfl, .inr ⟨w.heap.size, G, _, rfl, Nat.le_refl _, heap_alloc_new w.drew _, Nat.zero_le _, hg2, by simp [size_zeroCells, Value.cells]; omega, by simp⟩⟩
  have HF := Lib.hid (show GrowPost w (.returned (.slice (some ⟨w.heap.size, 0, none⟩) 0 G)) (w.drew.alloc (.cells (Builtin.zeroCells (Value.int .u8 0).cells n ++ Builtin.zeroCells (Value.int .u8 0).cells (G - n)) 5)) from ⟨_, _, rfl, hown, ((Below.refl _ _).drew.alloc (Nat.le_refl _) _)⟩)
  clear hrun hown hG
  generalize Builtin.zeroCells (Value.int .u8 0).cells n ++ Builtin.zeroCells (Value.int .u8 0).cells (G - n) = C at *
  unfold maxLen at hg2
  go_enter Try.func54, Try.ntmps54
  go_wp2_with (at_builtin; refine wpList_append_run rfl (.tmp 20) (.tmp 21) 22 3 rfl (.slice none 0 0) (.int .i64 (n : Int)) _ rfl rfl HR.out ?_)
  go_ret
  exact HF.out

/-- An argument list of two slices. -/
structure Two (w : World) (b : Nat) (A1 : Option Addr) (n1 c1 : Nat) (l1 : List Int) (A2 : Option Addr) (n2 c2 : Nat) (l2 : List Int) : Prop where
  x : w.cell? ⟨b, 0, none⟩ = some (.slice A1 n1 c1)
  y : w.cell? ⟨b, 1, none⟩ = some (.slice A2 n2 c2)
  fst : Bytes w A1 n1 c1 l1
  snd : Bytes w A2 n2 c2 l2

def ConcatPost (w : World) (l : List Int) (e : Ending) (w' : World) : Prop := ∃ A c, e = .returned (.slice A l.length c) ∧ w'.ownsRow w.heap.size 5 1 (.slice A l.length c) l.length (l.map (Value.int .u8)) ∧ Below w.heap.size w w'

def szk (n1 n2 : Nat) : Nat → Nat | 0 => 0 | 1 => n1 | _ => n1 + n2
def upk (l1 l2 : List Int) : Nat → List Int | 0 => [] | 1 => l1 | _ => l1 ++ l2
structure CatRel (w : World) (l1 l2 : List Int) (v i : Value) (wr : World) (k : Nat) : Prop where
  le : k ≤ 2
  i_ : i = .int .i64 (k : Int)
  own : wr.ownsRow w.heap.size 5 1 v (upk l1 l2 k).length ((upk l1 l2 k).map (Value.int .u8))
  below : Below w.heap.size w wr
theorem Bytes.reads_in {w w' : World} {A : Option Addr} {n c : Nat} {l : List Int} (h : Bytes w A n c l) (hb : Below w.heap.size w w') : Reads w' w.heap.size 1 A n (l.map (Value.int .u8)) := h.reads.below hb

set_option maxHeartbeats 1000000 in
theorem concat_any (b : Nat) (c : Nat) (A1 : Option Addr) (n1 c1 : Nat) (l1 : List Int) (A2 : Option Addr) (n2 c2 : Nat) (l2 : List Int) (w : World) (h : Two w b A1 n1 c1 l1 A2 n2 c2 l2) (h0 : 0 < n1 + n2) (hn1 : n1 ≤ 2000000) (hn2 : n2 ≤ 2000000) :
    Calls Try.prog 44 #[.slice (some ⟨b, 0, none⟩) 2 c] w (ConcatPost w (l1 ++ l2)) := by
  obtain ⟨i0, hi, hz0, hz1, hz2⟩ := info_parts u8_info
  have hx := h.x
  have hy := h.y
  have H := Lib.hid h
  have hblt := World.block_lt_of_cell? w _ hx
  clear h
  go_enter Try.func44, Try.ntmps44
  go_wp2_with fail
  go_loop [3, 11] (fun s i => ∃ k : Nat, k ≤ 2 ∧ i = .int .i64 (k : Int) ∧ s = .int .i64 (szk n1 n2 k : Int)) (fun _ i => 2 - (intOf i).toNat)
  case atStart => exact ⟨0, by omega, rfl, rfl⟩
  case round =>
    obtain ⟨k, hk, rfl, rfl⟩ := hrel
    have hk3 : k = 0 ∨ k = 1 ∨ k = 2 := by omega
    rcases hk3 with rfl | rfl | rfl
    · rw [show szk n1 n2 0 = 0 from rfl]
      go_wp2
      go_round
      case rel => exact ⟨1, by omega, rfl, by simp [szk]⟩
      case measure => simp [intOf]
    · rw [show szk n1 n2 1 = n1 from rfl]
      go_wp2
      go_round
      case rel => exact ⟨2, by omega, rfl, by simp [szk]⟩
      case measure => simp [intOf]
    · rw [show szk n1 n2 2 = n1 + n2 from rfl]
      go_wp2_with fail
      refine (grow_any (n1 + n2) w h0 (by omega)).mono ?_
      rintro e w1 ⟨A, cg, rfl, hown, hb⟩
      have hst := Lib.hid (show CatRel w l1 l2 (.slice A 0 cg) (.int .i64 0) w1 0 from ⟨by omega, rfl, hown, hb⟩)
      clear hown hb
      go_wp2_with fail
      go_loopw [6, 27] (fun v i wr => ∃ k, CatRel w l1 l2 v i wr k) (fun _ i _ => 2 - (intOf i).toNat)
      case atStart => exact ⟨_, hst.out⟩
      case round =>
        clear hst
        obtain ⟨k, hk, rfl, hown, hbel⟩ := hrel
        have hx' := (hbel.cell (p := ⟨b, 0, none⟩) hblt).trans hx
        have hy' := (hbel.cell (p := ⟨b, 1, none⟩) hblt).trans hy
        have hk3 : k = 0 ∨ k = 1 ∨ k = 2 := by omega
        have HO := Lib.hid hown
        clear hown
        have hl1 := H.out.fst.len
        have hl2 := H.out.snd.len
        rcases hk3 with rfl | rfl | rfl
        · have HR := Lib.hid (H.out.fst.reads_in hbel)
          have HL := Lib.hid hl1
          clear hl1 hl2
          go_wp2_with (at_builtin; refine wpList_append_any _ rfl (.tmp 31) (.tmp 32) 22 rfl w.heap.size 5 i0 (.int .u8 0) 1 1 Try.underlying22 hi hz0 hz1 hz2 rfl (by decide) u6 0 [] rfl HO.out w.heap.size A1 n1 c1 (l1.map (Value.int .u8)) rfl HR.out (map_one _ _) ?c1 ?c2 ?c3 ?_)
          case c1 => unfold maxLen; omega
          case c2 => omega
          case c3 => exact hbel.size
          intro v' w2 hown2 hg _
          have hbel2 := Lib.hid (hbel.grown hg hbel.size (fun k hk => (HO.out.lt k hk).1))
          have hst := Lib.hid (show CatRel w l1 l2 v' (.int .i64 1) w2 1 from ⟨by omega, rfl, by rw [show (upk l1 l2 1).length = n1 from HL.out]; exact hown2, hbel2.out⟩)
          clear hown2 hg
          go_wp2
          go_roundw
          case rel => exact ⟨_, hst.out⟩
          case measure => simp [intOf]
        · have HR := Lib.hid (H.out.snd.reads_in hbel)
          have HL := Lib.hid hl1
          have HL2 := Lib.hid hl2
          have HO' := Lib.hid (show wr.ownsRow w.heap.size 5 1 u6 n1 (l1.map (Value.int .u8)) by have := HO.out; rwa [show (upk l1 l2 1).length = n1 from hl1] at this)
          clear hl1 hl2
          go_wp2_with (at_builtin; refine wpList_append_any _ rfl (.tmp 31) (.tmp 32) 22 rfl w.heap.size 5 i0 (.int .u8 0) 1 1 Try.underlying22 hi hz0 hz1 hz2 rfl (by decide) u6 n1 (l1.map (Value.int .u8)) rfl HO'.out w.heap.size A2 n2 c2 (l2.map (Value.int .u8)) rfl HR.out (map_one _ _) ?c1 ?c2 ?c3 ?_)
          case c1 => unfold maxLen; omega
          case c2 => omega
          case c3 => exact hbel.size
          intro v' w2 hown2 hg _
          have hbel2 := Lib.hid (hbel.grown hg hbel.size (fun k hk => (HO.out.lt k hk).1))
          have hst := Lib.hid (show CatRel w l1 l2 v' (.int .i64 2) w2 2 from ⟨by omega, rfl, by rw [show (upk l1 l2 2).length = n1 + n2 by simp [upk, HL.out, HL2.out]]; simpa [upk] using hown2, hbel2.out⟩)
          clear hown2 hg
          go_wp2
          go_roundw
          case rel => exact ⟨_, hst.out⟩
          case measure => simp [intOf]
        · obtain ⟨A', c', rfl⟩ := own_slice HO.out
          have HF := Lib.hid (show ConcatPost w (l1 ++ l2) (.returned (.slice A' (l1 ++ l2).length c')) wr from ⟨_, _, rfl, HO.out, hbel⟩)
          rw [show (upk l1 l2 2).length = (l1 ++ l2).length from rfl]
          generalize (l1 ++ l2).length = N at *
          clear hl1 hl2
          go_wp2
          go_ret
          exact HF.out
end Go.Proofs.Ytioedljihlfcaaa

/-
  What two arcs of longitudes have in common, and the least longitudes around some arcs: the walks of place.common, place.around, place.Meet.
-/
import Derived.Test.YtfilgpifiboccaaGreatCo
import Derived.Test.YtfilgpifiboccaaGreatFk
import Derived.WalkKit
import Derived.Lib.Hide
import Derived.Deep.Draws
import Derived.Deep.AppendLies
import Derived.Deep.QuietTactic
import Derived.BigQuiet
import Derived.WalkSpells
import Derived.Laws.OwnMore
import Derived.Deep.RegionHeld3
import Derived.Deep.RegionWith
import Derived.Deep.CutRange
namespace Go.Proofs.YtfilgpifiboccaaGreat
open Go.RowKit
open Ev (Gives)
def GP (V : Value) (w : World) (e : Ending) (w' : World) : Prop := e = .returned V ∧ Below w.heap.size w w'
theorem at1 {P : Program} {g : FuncId} {a V : Value} (h : Gives P g [a] V) (w : World) : Calls P g #[a] w (GP V w) := h w
theorem at2 {P : Program} {g : FuncId} {a b V : Value} (h : Gives P g [a, b] V) (w : World) : Calls P g #[a, b] w (GP V w) := h w
theorem at0 {P : Program} {g : FuncId} {V : Value} (h : Gives P g [] V) (w : World) : Calls P g #[] w (GP V w) := h w
noncomputable section
abbrev Pr := Int × Int
/-- The slice value '.slice A n c' reads as the arcs l. -/
structure Arcs (w : World) (A : Option Addr) (n : Nat) (l : List Pr) : Prop where
  len : l.length = n
  le : n ≤ 9223372036854775807
  cells : 0 < n → ∃ b off, A = some ⟨b, off, none⟩ ∧ b < w.heap.size ∧ ∀ i, i < n → w.cell? ⟨b, off + i * 2, none⟩ = some (.int .i64 (l.getD i (0, 0)).1) ∧ w.cell? ⟨b, off + i * 2 + 1, none⟩ = some (.int .i64 (l.getD i (0, 0)).2)
theorem Arcs.below {w w' : World} {A : Option Addr} {n : Nat} {l : List Pr} {B : Nat} (h : Arcs w A n l) (hb : Below B w w') (hB : w.heap.size ≤ B) : Arcs w' A n l :=
  ⟨h.len, h.le, fun hn => by
    obtain ⟨b, off, e, hlt, hc⟩ := h.cells hn
    have k : ∀ o, w'.cell? ⟨b, o, none⟩ = w.cell? ⟨b, o, none⟩ := fun o => hb.cell (p := ⟨b, o, none⟩) (Nat.lt_of_lt_of_le hlt hB)
    exact ⟨b, off, e, Nat.lt_of_lt_of_le hlt hb.size, fun i hi => by rw [k, k]; exact hc i hi⟩⟩
theorem Arcs.at_ {w w' : World} {A : Option Addr} {n : Nat} {l : List Pr} {k : Nat} (h : Arcs w A n l) (hk : k < n) (hb : Below w.heap.size w w') : ∃ b off a1 a2, A = some ⟨b, off, none⟩ ∧ b < w.heap.size ∧ l.getD k (0, 0) = (a1, a2) ∧
    w'.cell? ⟨b, off + k * 2, none⟩ = some (.int .i64 a1) ∧ w'.cell? ⟨b, off + k * 2 + 1, none⟩ = some (.int .i64 a2) := by
  obtain ⟨b, off, e, hlt, hc⟩ := h.cells (by omega)
  have q : ∀ o, w'.cell? ⟨b, o, none⟩ = w.cell? ⟨b, o, none⟩ := fun o => hb.cell (p := ⟨b, o, none⟩) hlt
  refine ⟨b, off, _, _, e, hlt, rfl, ?_⟩
  rw [q, q]
  exact hc k hk
/-- A box of two integers. -/
def Bx (w : World) (g : Nat) (x y : Int) : Prop := w.heap[g]? = some (.cells #[.int .i64 x, .int .i64 y] 23 (0, 0))
theorem Bx.lt {w : World} {g : Nat} {x y : Int} (h : Bx w g x y) : g < w.heap.size := (Array.getElem?_eq_some_iff.1 h).1
theorem Bx.below {w w' : World} {g B : Nat} {x y : Int} (h : Bx w g x y) (hb : Below B w w') (hB : g < B) : Bx w' g x y := (hb.block g hB).trans h
theorem Bx.next {w w' : World} {g : Nat} {x y : Int} (h : Bx w g x y) (hb : Below w.heap.size w w') : Bx w' g x y := h.below hb h.lt
theorem Bx.new (w : World) (x y : Int) : Bx (w.alloc (.cells #[.int .i64 x, .int .i64 y] 23)) w.heap.size x y := heap_alloc_new w _
theorem Bx.keep {w : World} {g : Nat} {x y : Int} (h : Bx w g x y) : w.cell? ⟨g, 0, none⟩ = some (.int .i64 x) ∧ w.cell? ⟨g, 1, none⟩ = some (.int .i64 y) ∧ w.frozen? ⟨g, 0, none⟩ = false ∧ w.frozen? ⟨g, 1, none⟩ = false := by
  unfold Bx at h
  refine ⟨?_, ?_, ?_, ?_⟩ <;> simp [World.cell?, World.frozen?, h]
theorem Bx.write {w : World} {g : Nat} {x y : Int} (h : Bx w g x y) (u v : Int) : Bx ((w.setCell ⟨g, 0, none⟩ (.int .i64 u)).setCell ⟨g, 1, none⟩ (.int .i64 v)) g u v := by
  unfold Bx at *
  simp [World.setCell, h, Array.getElem?_modify]
theorem Bx.other {w : World} {g g' : Nat} {x y : Int} (h : Bx w g x y) (hg : g ≠ g') (u v : Value) : Bx ((w.setCell ⟨g', 0, none⟩ u).setCell ⟨g', 1, none⟩ v) g x y := by
  unfold Bx at *
  simp [World.setCell, Array.getElem?_modify, hg, h, Ne.symm hg]
theorem Below.set2 {B : Nat} {a w : World} (h : Below B a w) {b : Nat} (hb : B ≤ b) (u v : Value) : Below B a ((w.setCell ⟨b, 0, none⟩ u).setCell ⟨b, 1, none⟩ v) := (h.setCell hb _).setCell hb _
def flatA (l : List Pr) : List Value := l.flatMap fun p => [.int .i64 p.1, .int .i64 p.2]
theorem flatA_len (l : List Pr) : (flatA l).length = l.length * 2 := by
  induction l with
  | nil => rfl
  | cons p l ih => rw [flatA, List.flatMap_cons, List.length_append]; rw [flatA] at ih; rw [ih]; simp; omega
theorem flatA_snoc (l : List Pr) (p : Pr) : flatA (l ++ [p]) = flatA l ++ [.int .i64 p.1, .int .i64 p.2] := by simp [flatA]
theorem flatA_at (l : List Pr) : ∀ (i : Nat), i < l.length → (flatA l)[i * 2]? = some (.int .i64 (l.getD i (0, 0)).1) ∧ (flatA l)[i * 2 + 1]? = some (.int .i64 (l.getD i (0, 0)).2) := by
  induction l with
  | nil => intro i h; exact absurd h (by simp)
  | cons s l ih =>
    intro i h
    have e : flatA (s :: l) = .int .i64 s.1 :: .int .i64 s.2 :: flatA l := by simp [flatA]
    rw [e]
    cases i with
    | zero => simp
    | succ i =>
      have := ih i (by simpa using h)
      rw [show (i + 1) * 2 = i * 2 + 1 + 1 by omega, show i * 2 + 1 + 1 + 1 = (i * 2 + 1) + 1 + 1 by omega]
      simpa using this
theorem arcs_of {w : World} {B n : Nat} {A : Option Addr} {c : Nat} {l : List Pr} (h : w.ownsRow B 23 2 (.slice A n c) n (flatA l)) (hn : n ≤ 9223372036854775807) : Arcs w A n l := by
  have hl : l.length = n := by have := h.1; rw [flatA_len] at this; omega
  refine ⟨hl, hn, fun h0 => ?_⟩
  obtain ⟨g, cap, hv, _, hlt⟩ := h.form h0
  injection hv with hA _ _
  subst hA
  refine ⟨g, 0, rfl, hlt, fun i hi => ?_⟩
  have cc := h.cells (g := g) rfl
  obtain ⟨f0, f1⟩ := flatA_at l i (by omega)
  have ad : ∀ j, (⟨g, 0, none⟩ : Addr).add j = ⟨g, 0 + j, none⟩ := fun j => by unfold Addr.add; split <;> simp_all
  have e0 := cc _ _ f0
  have e1 := cc _ _ f1
  rw [ad] at e0 e1
  exact ⟨e0, by rw [Nat.add_assoc]; exact e1⟩
/-! ### in common -/
theorem arc_info : (Tryz.prog.info? 23).map (fun i => (i.zero, i.size, i.bytes)) = some (some (.agg #[.int .i64 0, .int .i64 0]), 2, 16) := by kernel_rfl
theorem info_parts {P : Program} {e : TypeId} {z : Option Value} {s b : Nat} (h : (P.info? e).map (fun i => (i.zero, i.size, i.bytes)) = some (z, s, b)) : ∃ i, P.info? e = some i ∧ i.zero = z ∧ i.size = s ∧ i.bytes = b := by
  cases hi : P.info? e with
  | none => rw [hi] at h; cases h
  | some i =>
    rw [hi] at h
    simp only [Option.map_some, Option.some.injEq, Prod.mk.injEq] at h
    exact ⟨i, rfl, h.1, h.2.1, h.2.2⟩
theorem own_below2 {w w' : World} {B n e size : Nat} {v : Value} {xs : List Value} (h : w.ownsRow B e size v n xs) (hb : Below w.heap.size w w') : w'.ownsRow B e size v n xs :=
  h.kept (row := none) ⟨hb.os, hb.tape, hb.output, hb.size, fun k hk _ => hb.block k hk⟩ (by cases v.ownBlock <;> simp)
theorem own_slice2 {w : World} {B : Nat} {e : TypeId} {size n : Nat} {v : Value} {xs : List Value} (h : w.ownsRow B e size v n xs) : ∃ A c, v = .slice A n c := by
  rcases h.2 with ⟨rfl, rfl⟩ | ⟨g, cap, cur, rfl, _⟩
  · exact ⟨_, _, rfl⟩
  · exact ⟨_, _, rfl⟩
theorem one_newC (w : World) (x y : Int) : ∀ j u, [Value.int .i64 x, .int .i64 y][j]? = some u → (w.alloc (.cells #[.int .i64 x, .int .i64 y] 23)).cell? ((⟨w.heap.size, 0, none⟩ : Addr).add j) = some u :=
  World.news_of_block (heap_alloc_new w _)
theorem arcs_new (w : World) (x y : Int) : Arcs (w.alloc (.cells #[.int .i64 x, .int .i64 y] 23)) (some ⟨w.heap.size, 0, none⟩) 1 [(x, y)] := by
  refine ⟨rfl, by omega, fun _ => ⟨_, 0, rfl, by simp, fun i hi => ?_⟩⟩
  have : i = 0 := by omega
  subst this
  have k := (Bx.new w x y).keep
  exact ⟨k.1, k.2.1⟩
theorem ix0 (x y : Int) (w : World) : (Instr.index 118 (.agg #[.int .i64 x, .int .i64 y]) (.int .i64 0)).run Tryz.prog w = .ok (.int .i64 x) w := by
  have u := Tryz.underlying3
  have a3 := Tryz.isAgg3
  have z3 := Tryz.sizeOf3
  simp [Instr.index, run_underlying Tryz.underlying118, asIntOf, go_sem]
theorem ix1 (x y : Int) (w : World) : (Instr.index 118 (.agg #[.int .i64 x, .int .i64 y]) (.int .i64 1)).run Tryz.prog w = .ok (.int .i64 y) w := by
  have u := Tryz.underlying3
  have a3 := Tryz.isAgg3
  have z3 := Tryz.sizeOf3
  simp [Instr.index, run_underlying Tryz.underlying118, asIntOf, go_sem]
def comC (a b c d : Int) : Prop := (a = -10800000 ∧ b = 10800000) ∨ (c = -10800000 ∧ d = 10800000) ∨ (c - a) % 21600000 ≤ b - a ∨ 0 ≤ (c - a) % 21600000 - 21600000 + (d - c)
def ComPost (a b c d : Int) (w : World) (e : Ending) (w' : World) : Prop := ∃ A n k l, e = .returned (.slice A n k) ∧ Arcs w' A n l ∧ Below w.heap.size w w' ∧ (comC a b c d → 0 < n)
structure ComRel (a b c d F : Int) (w0 : World) (v5 v31 : Value) (wr : World) (i : Nat) : Prop where
  le : i ≤ 2
  num : v31 = .int .i64 (i : Int)
  own : ∃ l, l.length ≤ i ∧ wr.ownsRow (w0.heap.size + 2) 23 2 v5 l.length (flatA l) ∧ (0 < i → F ≤ b - a → 0 < l.length) ∧ (1 < i → 0 ≤ F - 21600000 + (d - c) → 0 < l.length)
  st : (wr.cell? ⟨w0.heap.size, 0, none⟩ = some (.int .i64 a) ∧ wr.cell? ⟨w0.heap.size, 1, none⟩ = some (.int .i64 b) ∧ wr.cell? ⟨w0.heap.size + 1, 0, none⟩ = some (.int .i64 c) ∧ wr.cell? ⟨w0.heap.size + 1, 1, none⟩ = some (.int .i64 d)) ∧ Below w0.heap.size w0 wr
theorem keepC {w0 W w1 : World} {b c : Nat} {v0 v1 v2 v3 : Value} (h : (W.cell? ⟨b, 0, none⟩ = some v0 ∧ W.cell? ⟨b, 1, none⟩ = some v1 ∧ W.cell? ⟨c, 0, none⟩ = some v2 ∧ W.cell? ⟨c, 1, none⟩ = some v3) ∧ Below w0.heap.size w0 W) (hb : Below W.heap.size W w1) :
    (w1.cell? ⟨b, 0, none⟩ = some v0 ∧ w1.cell? ⟨b, 1, none⟩ = some v1 ∧ w1.cell? ⟨c, 0, none⟩ = some v2 ∧ w1.cell? ⟨c, 1, none⟩ = some v3) ∧ Below w0.heap.size w0 w1 := by
  obtain ⟨⟨h0, h1, h2, h3⟩, hB⟩ := h
  have hlt := World.block_lt_of_cell? W _ h0
  have hlc := World.block_lt_of_cell? W _ h2
  exact ⟨⟨(hb.cell (p := ⟨b, 0, none⟩) hlt).trans h0, (hb.cell (p := ⟨b, 1, none⟩) hlt).trans h1, (hb.cell (p := ⟨c, 0, none⟩) hlc).trans h2, (hb.cell (p := ⟨c, 1, none⟩) hlc).trans h3⟩, hB.trans (hb.mono hB.size)⟩
theorem keepBx {w0 W w1 : World} {v0 v1 v2 v3 : Value} (h : (W.cell? ⟨w0.heap.size, 0, none⟩ = some v0 ∧ W.cell? ⟨w0.heap.size, 1, none⟩ = some v1 ∧ W.cell? ⟨w0.heap.size + 1, 0, none⟩ = some v2 ∧ W.cell? ⟨w0.heap.size + 1, 1, none⟩ = some v3) ∧ Below w0.heap.size w0 W) (hb : Below (w0.heap.size + 2) W w1) :
    (w1.cell? ⟨w0.heap.size, 0, none⟩ = some v0 ∧ w1.cell? ⟨w0.heap.size, 1, none⟩ = some v1 ∧ w1.cell? ⟨w0.heap.size + 1, 0, none⟩ = some v2 ∧ w1.cell? ⟨w0.heap.size + 1, 1, none⟩ = some v3) ∧ Below w0.heap.size w0 w1 := by
  obtain ⟨⟨h0, h1, h2, h3⟩, hB⟩ := h
  have l0 : w0.heap.size < w0.heap.size + 2 := by omega
  have l1 : w0.heap.size + 1 < w0.heap.size + 2 := by omega
  exact ⟨⟨(hb.cell (p := ⟨w0.heap.size, 0, none⟩) l0).trans h0, (hb.cell (p := ⟨w0.heap.size, 1, none⟩) l0).trans h1, (hb.cell (p := ⟨w0.heap.size + 1, 0, none⟩) l1).trans h2, (hb.cell (p := ⟨w0.heap.size + 1, 1, none⟩) l1).trans h3⟩, hB.trans (hb.mono (by omega))⟩
theorem bey_eq {a b c : Int} (h1 : -1000000000 ≤ a) (h2 : a ≤ 1000000000) (h3 : -1000000000 ≤ c) (h4 : c ≤ 1000000000) : beyM a b c = (c - a) % 21600000 := by
  unfold beyM wrapN
  rw [i64w (by omega)]
theorem two_boxes (w : World) (a b c d : Int) : ∃ W, W = (w.alloc (.cells ⟨[.int .i64 a, .int .i64 b]⟩ 23)).alloc (.cells ⟨[.int .i64 c, .int .i64 d]⟩ 23) ∧ Bx W w.heap.size a b ∧ Bx W (w.heap.size + 1) c d ∧ W.heap.size = w.heap.size + 2 ∧ Below w.heap.size w W := by
  refine ⟨_, rfl, ?_, ?_, by simp, (((Below.refl _ _).alloc (Nat.le_refl _) _).alloc (by simp) _)⟩
  · exact (Bx.new w a b).next ((Below.refl _ _).alloc (Nat.le_refl _) _)
  · have := Bx.new (w.alloc (.cells ⟨[.int .i64 a, .int .i64 b]⟩ 23)) c d
    simpa using this
set_option maxRecDepth 100000 in
set_option maxHeartbeats 600000 in
theorem common_any {a b c d : Int} (k1 : LonP a b) (k2 : LonP c d) (w : World) : Calls Tryz.prog 40 #[pairV a b, pairV c d] w (ComPost a b c d w) := by
  obtain ⟨W, hW, B1, B2, hs, hb⟩ := two_boxes w a b c d
  have HB1 := Lib.hid B1
  have HB2 := Lib.hid B2
  have HBW := Lib.hid hb
  have HA1 := Lib.hid (at1 (pallM_gives a b) W)
  have HA2 := Lib.hid (pallM_gives c d)
  obtain ⟨p0, p1, pf0, pf1⟩ := B1.keep
  obtain ⟨q0, q1, qf0, qf1⟩ := B2.keep
  clear hb B1 B2
  unfold pairV at ⊢
  cases hab : pallM a b with
  | true =>
    rw [hab] at HA1
    go_enter Tryz.func40, Tryz.ntmps40
    go_wp2_with fail
    rw [← hW]
    refine HA1.out.mono ?_
    rintro e w1 ⟨rfl, hb1⟩
    have HR := Lib.hid (show ComPost a b c d w (.returned (.slice (some ⟨w1.heap.size, 0, none⟩) 1 1)) (w1.alloc (.cells #[.int .i64 c, .int .i64 d] 23)) from ⟨_, 1, _, [(c, d)], rfl, arcs_new w1 c d, (HBW.out.trans (hb1.mono (by omega))).alloc (by have := hb1.size; omega) _, fun _ => by omega⟩)
    obtain ⟨q0, q1, qf0, qf1⟩ := (HB2.out.next hb1).keep
    go_wp2
    go_ret
    exact HR.out
  | false =>
    rw [hab] at HA1
    cases hcd : pallM c d with
    | true =>
      rw [hcd] at HA2
      go_enter Tryz.func40, Tryz.ntmps40
      go_wp2_with fail
      rw [← hW]
      refine HA1.out.mono ?_
      rintro e w1 ⟨rfl, hb1⟩
      have HC1 := Lib.hid (at1 HA2.out w1)
      have HB2' := Lib.hid (HB1.out.next hb1)
      obtain ⟨q0, q1, qf0, qf1⟩ := (HB2.out.next hb1).keep
      have HBW1 := Lib.hid (HBW.out.trans (hb1.mono (by omega)))
      clear hb1
      go_wp2_with fail
      refine HC1.out.mono ?_
      rintro e w2 ⟨rfl, hb2⟩
      have HR := Lib.hid (show ComPost a b c d w (.returned (.slice (some ⟨w2.heap.size, 0, none⟩) 1 1)) (w2.alloc (.cells #[.int .i64 a, .int .i64 b] 23)) from ⟨_, 1, _, [(a, b)], rfl, arcs_new w2 a b, (HBW1.out.trans (hb2.mono HBW1.out.size)).alloc (Nat.le_trans HBW1.out.size hb2.size) _, fun _ => by omega⟩)
      obtain ⟨p0, p1, pf0, pf1⟩ := (HB2'.out.next hb2).keep
      go_wp2
      go_ret
      exact HR.out
    | false =>
      rw [hcd] at HA2
      go_enter Tryz.func40, Tryz.ntmps40
      go_wp2_with fail
      rw [← hW]
      refine HA1.out.mono ?_
      rintro e w1 ⟨rfl, hb1⟩
      have HC1 := Lib.hid (at1 HA2.out w1)
      have HD1 := Lib.hid (HB1.out.next hb1)
      have HD2 := Lib.hid (HB2.out.next hb1)
      obtain ⟨q0, q1, qf0, qf1⟩ := HD2.out.keep
      have HBW1 := Lib.hid (HBW.out.trans (hb1.mono (by omega)))
      clear hb1 HA1 HA2 p0 p1 pf0 pf1
      go_wp2_with fail
      refine HC1.out.mono ?_
      rintro e w2 ⟨rfl, hb2⟩
      have HB2b := Lib.hid (HBW1.out.trans (hb2.mono HBW1.out.size))
      have HE1 := Lib.hid (HD1.out.next hb2)
      have HE2 := Lib.hid (HD2.out.next hb2)
      clear hb2 HB1 HB2 HBW HD1 HD2 HBW1 HC1 q0 q1 qf0 qf1
      obtain ⟨p0, p1, pf0, pf1⟩ := HE1.out.keep
      obtain ⟨q0, q1, qf0, qf1⟩ := HE2.out.keep
      have hab0 := lonP_bd k1
      have hcd0 := lonP_bd k2
      have HBY := Lib.hid (fun w => at2 (beyM_gives a b c) w)
      have hF := bey_eq (a := a) (b := b) (c := c) (by omega) (by omega) (by omega) (by omega)
      rw [hF] at HBY
      have HX := Lib.hid (show (w2.cell? ⟨w.heap.size, 0, none⟩ = some (.int .i64 a) ∧ w2.cell? ⟨w.heap.size, 1, none⟩ = some (.int .i64 b) ∧ w2.cell? ⟨w.heap.size + 1, 0, none⟩ = some (.int .i64 c) ∧ w2.cell? ⟨w.heap.size + 1, 1, none⟩ = some (.int .i64 d)) ∧ Below w.heap.size w w2 from ⟨⟨p0, p1, q0, q1⟩, HB2b.out⟩)
      have m0 := Int.emod_nonneg (c - a) (show (21600000 : Int) ≠ 0 by omega)
      have m1 := Int.emod_lt_of_pos (c - a) (show (0 : Int) < 21600000 by omega)
      have HCC := Lib.hid (show comC a b c d → (c - a) % 21600000 ≤ b - a ∨ 0 ≤ (c - a) % 21600000 - 21600000 + (d - c) from by
        rw [pall_eq] at hab hcd
        simp only [decide_eq_false_iff_not] at hab hcd
        rintro (h | h | h)
        · exact absurd h hab
        · exact absurd h hcd
        · exact h)
      clear hF hab hcd HE1 HE2 HB2b hW hs k1 k2
      generalize (c - a) % 21600000 = F at *
      have w0 : IntKind.i64.wrap (F - 21600000) = F - 21600000 := i64w (by omega)
      go_wp2_with fail
      clear p0 p1 q0 q1 pf0 pf1 qf0 qf1
      go_region_held3 (fun w' => (w'.cell? ⟨w.heap.size, 0, none⟩ = some (.int .i64 a) ∧ w'.cell? ⟨w.heap.size, 1, none⟩ = some (.int .i64 b) ∧ w'.cell? ⟨w.heap.size + 1, 0, none⟩ = some (.int .i64 c) ∧ w'.cell? ⟨w.heap.size + 1, 1, none⟩ = some (.int .i64 d)) ∧ Below w.heap.size w w')
        (first
          | (with_reducible exact HX.out)
          | (with_reducible exact SS.out)
          | (with_reducible exact keepC HX.out (Below.drew (Below.refl _ _)))
          | (with_reducible exact keepC SS.out (Below.drew (Below.refl _ _)))
          | fail)
        (first
          | (go_at_call 80
             with_reducible refine (HBY.out _).mono ?_
             rintro e w5 ⟨rfl, hb5⟩
             have SS := Lib.hid (keepC (w1 := w5) (by assumption) hb5))
          | fail)
      all_goals (
        clear HX HBY)
      go_wp2_with fail
      go_loopw [5, 31] (fun v5 v31 wr => ∃ i, ComRel a b c d F w v5 v31 wr i) (fun _ v31 _ => 2 - (intOf v31).toNat)
      case atStart =>
        exact ⟨0, by omega, rfl, ⟨[], by simp, ⟨by simp [flatA], .inl ⟨rfl, rfl⟩⟩, fun h => by omega, fun h => by omega⟩, SS.out⟩
      case round =>
        clear SS
        obtain ⟨i, hi, rfl, ⟨l, hl, hown, hc1, hc2⟩, hst⟩ := hrel
        obtain ⟨⟨p0, p1, q0, q1⟩, hbw⟩ := hst
        have hi3 : i = 0 ∨ i = 1 ∨ i = 2 := by omega
        have HO := Lib.hid hown
        have HBw := Lib.hid hbw
        clear hown hbw
        rcases hi3 with rfl | rfl | rfl
        · skip
          go_wp2_with fail
          rw [ix0]
          have w1a : IntKind.i64.wrap (b - a) = b - a := i64w (by omega)
          have w1b : IntKind.i64.wrap (F + d) = F + d := i64w (by omega)
          have w1c : IntKind.i64.wrap (F + d - c) = F + d - c := i64w (by omega)
          go_wp2_with fail
          have SS := Lib.hid (show (wr.cell? ⟨w.heap.size, 0, none⟩ = some (.int .i64 a) ∧ wr.cell? ⟨w.heap.size, 1, none⟩ = some (.int .i64 b) ∧ wr.cell? ⟨w.heap.size + 1, 0, none⟩ = some (.int .i64 c) ∧ wr.cell? ⟨w.heap.size + 1, 1, none⟩ = some (.int .i64 d)) ∧ Below w.heap.size w wr from ⟨⟨p0, p1, q0, q1⟩, HBw.out⟩)
          clear p0 p1 q0 q1
          go_region_held3 (fun w' => (w'.cell? ⟨w.heap.size, 0, none⟩ = some (.int .i64 a) ∧ w'.cell? ⟨w.heap.size, 1, none⟩ = some (.int .i64 b) ∧ w'.cell? ⟨w.heap.size + 1, 0, none⟩ = some (.int .i64 c) ∧ w'.cell? ⟨w.heap.size + 1, 1, none⟩ = some (.int .i64 d)) ∧ Below w.heap.size w w')
            (first
              | (with_reducible exact SS.out)
              | (with_reducible exact keepC SS.out (Below.drew (Below.refl _ _)))
              | fail)
            (fail)
          all_goals (
            have S9 := Lib.hid (show (wr.drew.cell? ⟨w.heap.size, 0, none⟩ = some (.int .i64 a) ∧ wr.drew.cell? ⟨w.heap.size, 1, none⟩ = some (.int .i64 b) ∧ wr.drew.cell? ⟨w.heap.size + 1, 0, none⟩ = some (.int .i64 c) ∧ wr.drew.cell? ⟨w.heap.size + 1, 1, none⟩ = some (.int .i64 d)) ∧ Below w.heap.size w wr.drew from keepC SS.out (Below.drew (Below.refl _ _)))
            have HO9 := Lib.hid (own_below2 HO.out (Below.drew (Below.refl _ _)))
            generalize wr.drew = W9 at *
            obtain ⟨lo, hlo⟩ : ∃ x, x = max 0 F := ⟨_, rfl⟩
            obtain ⟨hi9, hhi⟩ : ∃ x, x = min (b - a) (F + d - c) := ⟨_, rfl⟩
            rw [← hlo, ← hhi]
            have g1 : 0 ≤ lo ∧ lo ≤ 30000000 := by omega
            have g2 : -30000000 ≤ hi9 ∧ hi9 ≤ 50000000 := by omega
            have HK := Lib.hid (show F ≤ b - a → lo ≤ hi9 from fun h => by omega)
            have HL := Lib.hid hl
            have HC1 := Lib.hid hc1
            clear hlo hhi hc1 hc2
            obtain ⟨⟨p0, p1, q0, q1⟩, hb9⟩ := S9.out
            have HS9 := Lib.hid hb9
            clear hb9 SS
            by_cases hle : lo ≤ hi9
            · have w2a : IntKind.i64.wrap (a + lo) = a + lo := i64w (by omega)
              have HSG := Lib.hid (at1 (signM_gives (a + lo)) W9)
              obtain ⟨sg, hsg⟩ : ∃ x, x = signM (a + lo) := ⟨_, rfl⟩
              have hb := sgnd_bd (a + lo)
              rw [← sign_ok (by omega), ← hsg] at hb
              rw [← hsg] at HSG
              have w3a : IntKind.i64.wrap (sg + hi9) = sg + hi9 := i64w (by omega)
              have w3b : IntKind.i64.wrap (sg + hi9 - lo) = sg + hi9 - lo := i64w (by omega)
              clear hsg
              go_wp2_with fail
              refine HSG.out.mono ?_
              rintro e w6 ⟨rfl, hb6⟩
              have S6 := Lib.hid (keepC S9.out hb6)
              have HO6 := Lib.hid (own_below2 HO9.out hb6)
              have HO7 := Lib.hid (HO6.out.alloc (.cells #[.int .i64 sg, .int .i64 (sg + hi9 - lo)] 23))
              have S7 := Lib.hid (keepC S6.out ((Below.refl _ _).alloc (Nat.le_refl _) (.cells #[.int .i64 sg, .int .i64 (sg + hi9 - lo)] 23)))
              have hz6 : w.heap.size + 2 ≤ (w6.alloc (.cells #[.int .i64 sg, .int .i64 (sg + hi9 - lo)] 23)).heap.size := World.block_lt_of_cell? _ _ S7.out.1.2.2.1
              have HZ6 := Lib.hid hz6
              clear hb6 HSG p0 p1 q0 q1 hz6
              obtain ⟨i0, hi0, hz0, hz1, hz2⟩ := info_parts arc_info
              go_wp2_with (at_builtin; refine wpList_append_own _ rfl (.tmp 57) (.tmp 65) 74 rfl (w.heap.size + 2) 23 i0 (.agg #[.int .i64 0, .int .i64 0]) 2 16 Tryz.underlying74 hi0 hz0 hz1 hz2 rfl (by decide) u5 l.length _ rfl HO7.out ⟨w6.heap.size, 0, none⟩ 1 1 [.int .i64 sg, .int .i64 (sg + hi9 - lo)] rfl rfl ?c1 ?c2 ?c3 ?c4 ?c5 ?_)
              case c1 => exact one_newC w6 sg _
              case c2 => intro u hu; simp at hu; rcases hu with rfl | rfl <;> rfl
              case c3 => have := HL.out; unfold maxLen; omega
              case c4 => have := HL.out; omega
              case c5 => exact HZ6.out
              intro v' w8 hown8 hg _
              rw [← flatA_snoc _ (sg, sg + hi9 - lo)] at hown8
              have S8 := Lib.hid (keepBx S7.out ((Below.refl _ _).grown hg HZ6.out (fun q hq => (HO7.out.lt q hq).1)))
              have HST := Lib.hid (show ComRel a b c d F w v' (.int .i64 1) w8 1 from ⟨by omega, rfl, ⟨l ++ [(sg, sg + hi9 - lo)], by have := HL.out; rw [List.length_append]; simp only [List.length_cons, List.length_nil]; omega, by simpa using hown8, fun _ _ => by simp, fun _ _ => by simp⟩, S8.out⟩)
              clear hg hown8
              go_wp2
              go_roundw
              case rel => exact ⟨_, HST.out⟩
              case measure => simp [intOf]
            · have HST := Lib.hid (show ComRel a b c d F w u5 (.int .i64 1) W9 1 from ⟨by omega, rfl, ⟨l, by have := HL.out; omega, HO9.out, fun _ h => absurd (HK.out h) hle, fun h => by omega⟩, S9.out⟩)
              go_wp2
              go_roundw
              case rel => exact ⟨_, HST.out⟩
              case measure => simp [intOf])
        · skip
          go_wp2_with fail
          rw [ix1]
          have w1a : IntKind.i64.wrap (b - a) = b - a := i64w (by omega)
          have w1b : IntKind.i64.wrap ((F - 21600000) + d) = (F - 21600000) + d := i64w (by omega)
          have w1c : IntKind.i64.wrap ((F - 21600000) + d - c) = (F - 21600000) + d - c := i64w (by omega)
          go_wp2_with fail
          have SS := Lib.hid (show (wr.cell? ⟨w.heap.size, 0, none⟩ = some (.int .i64 a) ∧ wr.cell? ⟨w.heap.size, 1, none⟩ = some (.int .i64 b) ∧ wr.cell? ⟨w.heap.size + 1, 0, none⟩ = some (.int .i64 c) ∧ wr.cell? ⟨w.heap.size + 1, 1, none⟩ = some (.int .i64 d)) ∧ Below w.heap.size w wr from ⟨⟨p0, p1, q0, q1⟩, HBw.out⟩)
          clear p0 p1 q0 q1
          go_region_held3 (fun w' => (w'.cell? ⟨w.heap.size, 0, none⟩ = some (.int .i64 a) ∧ w'.cell? ⟨w.heap.size, 1, none⟩ = some (.int .i64 b) ∧ w'.cell? ⟨w.heap.size + 1, 0, none⟩ = some (.int .i64 c) ∧ w'.cell? ⟨w.heap.size + 1, 1, none⟩ = some (.int .i64 d)) ∧ Below w.heap.size w w')
            (first
              | (with_reducible exact SS.out)
              | (with_reducible exact keepC SS.out (Below.drew (Below.refl _ _)))
              | fail)
            (fail)
          all_goals (
            have S9 := Lib.hid (show (wr.drew.cell? ⟨w.heap.size, 0, none⟩ = some (.int .i64 a) ∧ wr.drew.cell? ⟨w.heap.size, 1, none⟩ = some (.int .i64 b) ∧ wr.drew.cell? ⟨w.heap.size + 1, 0, none⟩ = some (.int .i64 c) ∧ wr.drew.cell? ⟨w.heap.size + 1, 1, none⟩ = some (.int .i64 d)) ∧ Below w.heap.size w wr.drew from keepC SS.out (Below.drew (Below.refl _ _)))
            have HO9 := Lib.hid (own_below2 HO.out (Below.drew (Below.refl _ _)))
            generalize wr.drew = W9 at *
            obtain ⟨lo, hlo⟩ : ∃ x, x = max 0 (F - 21600000) := ⟨_, rfl⟩
            obtain ⟨hi9, hhi⟩ : ∃ x, x = min (b - a) ((F - 21600000) + d - c) := ⟨_, rfl⟩
            rw [← hlo, ← hhi]
            have g1 : 0 ≤ lo ∧ lo ≤ 30000000 := by omega
            have g2 : -30000000 ≤ hi9 ∧ hi9 ≤ 50000000 := by omega
            have HK := Lib.hid (show 0 ≤ F - 21600000 + (d - c) → lo ≤ hi9 from fun h => by omega)
            have HL := Lib.hid hl
            have HC1 := Lib.hid hc1
            clear hlo hhi hc1 hc2
            obtain ⟨⟨p0, p1, q0, q1⟩, hb9⟩ := S9.out
            have HS9 := Lib.hid hb9
            clear hb9 SS
            by_cases hle : lo ≤ hi9
            · have w2a : IntKind.i64.wrap (a + lo) = a + lo := i64w (by omega)
              have HSG := Lib.hid (at1 (signM_gives (a + lo)) W9)
              obtain ⟨sg, hsg⟩ : ∃ x, x = signM (a + lo) := ⟨_, rfl⟩
              have hb := sgnd_bd (a + lo)
              rw [← sign_ok (by omega), ← hsg] at hb
              rw [← hsg] at HSG
              have w3a : IntKind.i64.wrap (sg + hi9) = sg + hi9 := i64w (by omega)
              have w3b : IntKind.i64.wrap (sg + hi9 - lo) = sg + hi9 - lo := i64w (by omega)
              clear hsg
              go_wp2_with fail
              refine HSG.out.mono ?_
              rintro e w6 ⟨rfl, hb6⟩
              have S6 := Lib.hid (keepC S9.out hb6)
              have HO6 := Lib.hid (own_below2 HO9.out hb6)
              have HO7 := Lib.hid (HO6.out.alloc (.cells #[.int .i64 sg, .int .i64 (sg + hi9 - lo)] 23))
              have S7 := Lib.hid (keepC S6.out ((Below.refl _ _).alloc (Nat.le_refl _) (.cells #[.int .i64 sg, .int .i64 (sg + hi9 - lo)] 23)))
              have hz6 : w.heap.size + 2 ≤ (w6.alloc (.cells #[.int .i64 sg, .int .i64 (sg + hi9 - lo)] 23)).heap.size := World.block_lt_of_cell? _ _ S7.out.1.2.2.1
              have HZ6 := Lib.hid hz6
              clear hb6 HSG p0 p1 q0 q1 hz6
              obtain ⟨i0, hi0, hz0, hz1, hz2⟩ := info_parts arc_info
              go_wp2_with (at_builtin; refine wpList_append_own _ rfl (.tmp 57) (.tmp 65) 74 rfl (w.heap.size + 2) 23 i0 (.agg #[.int .i64 0, .int .i64 0]) 2 16 Tryz.underlying74 hi0 hz0 hz1 hz2 rfl (by decide) u5 l.length _ rfl HO7.out ⟨w6.heap.size, 0, none⟩ 1 1 [.int .i64 sg, .int .i64 (sg + hi9 - lo)] rfl rfl ?c1 ?c2 ?c3 ?c4 ?c5 ?_)
              case c1 => exact one_newC w6 sg _
              case c2 => intro u hu; simp at hu; rcases hu with rfl | rfl <;> rfl
              case c3 => have := HL.out; unfold maxLen; omega
              case c4 => have := HL.out; omega
              case c5 => exact HZ6.out
              intro v' w8 hown8 hg _
              rw [← flatA_snoc _ (sg, sg + hi9 - lo)] at hown8
              have S8 := Lib.hid (keepBx S7.out ((Below.refl _ _).grown hg HZ6.out (fun q hq => (HO7.out.lt q hq).1)))
              have HST := Lib.hid (show ComRel a b c d F w v' (.int .i64 2) w8 2 from ⟨by omega, rfl, ⟨l ++ [(sg, sg + hi9 - lo)], by have := HL.out; rw [List.length_append]; simp only [List.length_cons, List.length_nil]; omega, by simpa using hown8, fun _ _ => by simp, fun _ _ => by simp⟩, S8.out⟩)
              clear hg hown8
              go_wp2
              go_roundw
              case rel => exact ⟨_, HST.out⟩
              case measure => simp [intOf]
            · have HST := Lib.hid (show ComRel a b c d F w u5 (.int .i64 2) W9 2 from ⟨by omega, rfl, ⟨l, by have := HL.out; omega, HO9.out, fun _ h => HC1.out (by omega) h, fun _ h => absurd (HK.out h) hle⟩, S9.out⟩)
              go_wp2
              go_roundw
              case rel => exact ⟨_, HST.out⟩
              case measure => simp [intOf])
        · obtain ⟨A, c', hv⟩ := own_slice2 HO.out
          subst hv
          have HF := Lib.hid (show ComPost a b c d w (.returned (.slice A l.length c')) wr from ⟨A, _, _, l, rfl, arcs_of HO.out (by omega), HBw.out, fun h => by
            rcases HCC.out h with h | h
            · exact hc1 (by omega) h
            · exact hc2 (by omega) h⟩)
          clear p0 p1 q0 q1
          go_wp2
          go_ret
          exact HF.out
end
end Go.Proofs.YtfilgpifiboccaaGreat

/-
  Chapter 30: the walks over slices of solutions: directions, Meet, All, Best.
-/
import Derived.Test.YtmididlfnajhiaaGreatDoorP30
import Derived.Test.YtmididlfnajhiaaGreatDoorBw
import Derived.WalkKit
import Derived.Lib.Hide
import Derived.Deep.Draws
import Derived.Deep.AppendLies
import Derived.Deep.QuietTactic
import Derived.BigQuiet
import Derived.WalkSpells
import Derived.Laws.OwnMore
import Derived.Deep.RegionHeld3
import Derived.Deep.RegionWith
import Derived.Deep.CutRange
namespace Go.Proofs.YtmididlfnajhiaaGreatDoor
open Go.RowKit
open Ev (Glob Gives)
theorem Ev.Glob.below {w w' : World} (h : Ev.Glob w) (hb : Below w.heap.size w w') : Ev.Glob w' := h.of fun g hg _ => hb.block g hg
def GP (V : Value) (w : World) (e : Ending) (w' : World) : Prop := e = .returned V ∧ Below w.heap.size w w'
theorem at0 {P : Program} {g : FuncId} {V : Value} (h : Gives P g [] V) {w : World} (hg : Glob w) : Calls P g #[] w (GP V w) := h w hg
theorem at1 {P : Program} {g : FuncId} {a V : Value} (h : Gives P g [a] V) {w : World} (hg : Glob w) : Calls P g #[a] w (GP V w) := h w hg
theorem at2 {P : Program} {g : FuncId} {a b V : Value} (h : Gives P g [a, b] V) {w : World} (hg : Glob w) : Calls P g #[a, b] w (GP V w) := h w hg
theorem at3 {P : Program} {g : FuncId} {a b c V : Value} (h : Gives P g [a, b, c] V) {w : World} (hg : Glob w) : Calls P g #[a, b, c] w (GP V w) := h w hg

def solC (s : Sol) : Value := .agg #[.int .i64 s.1, .int .i64 s.2.1, .int .i64 s.2.2.1, .int .i64 s.2.2.2]
/-- The slice value '.slice A n c' reads as the solutions l. -/
structure Sols (w : World) (A : Option Addr) (n : Nat) (l : List Sol) : Prop where
  len : l.length = n
  le : n ≤ 9223372036854775807
  cells : 0 < n → ∃ b off, A = some ⟨b, off, none⟩ ∧ b < w.heap.size ∧ ∀ i, i < n → w.cell? ⟨b, off + i * 4, none⟩ = some (.int .i64 (l.getD i nos).1) ∧ w.cell? ⟨b, off + i * 4 + 1, none⟩ = some (.int .i64 (l.getD i nos).2.1) ∧ w.cell? ⟨b, off + i * 4 + 2, none⟩ = some (.int .i64 (l.getD i nos).2.2.1) ∧ w.cell? ⟨b, off + i * 4 + 3, none⟩ = some (.int .i64 (l.getD i nos).2.2.2)
theorem Sols.below {w w' : World} {A : Option Addr} {n : Nat} {l : List Sol} {B : Nat} (h : Sols w A n l) (hb : Below B w w') (hB : w.heap.size ≤ B) : Sols w' A n l :=
  ⟨h.len, h.le, fun hn => by
    obtain ⟨b, off, e, hlt, hc⟩ := h.cells hn
    have k : ∀ o, w'.cell? ⟨b, o, none⟩ = w.cell? ⟨b, o, none⟩ := fun o => hb.cell (p := ⟨b, o, none⟩) (Nat.lt_of_lt_of_le hlt hB)
    exact ⟨b, off, e, Nat.lt_of_lt_of_le hlt hb.size, fun i hi => by rw [k, k, k, k]; exact hc i hi⟩⟩
/-- The cells of one of them. -/
theorem Sols.at_ {w w' : World} {A : Option Addr} {n : Nat} {l : List Sol} {k : Nat} (h : Sols w A n l) (hk : k < n) (hb : Below w.heap.size w w') : ∃ b off a1 a2 a3 a4, A = some ⟨b, off, none⟩ ∧ b < w.heap.size ∧ l.getD k nos = (a1, a2, a3, a4) ∧
    w'.cell? ⟨b, off + k * 4, none⟩ = some (.int .i64 a1) ∧ w'.cell? ⟨b, off + k * 4 + 1, none⟩ = some (.int .i64 a2) ∧ w'.cell? ⟨b, off + k * 4 + 2, none⟩ = some (.int .i64 a3) ∧ w'.cell? ⟨b, off + k * 4 + 3, none⟩ = some (.int .i64 a4) := by
  obtain ⟨b, off, e, hlt, hc⟩ := h.cells (by omega)
  have q : ∀ o, w'.cell? ⟨b, o, none⟩ = w.cell? ⟨b, o, none⟩ := fun o => hb.cell (p := ⟨b, o, none⟩) hlt
  refine ⟨b, off, _, _, _, _, e, hlt, rfl, ?_⟩
  rw [q, q, q, q]
  exact hc k hk
theorem getD_mem {l : List Sol} {k : Nat} (h : k < l.length) : l.getD k nos ∈ l := by
  rw [List.getD_eq_getElem?_getD, List.getElem?_eq_getElem h]; exact List.getElem_mem _
def IdxPost (vS : Sol → Bool) (l : List Sol) (w : World) (e : Ending) (w' : World) : Prop := (∃ r : Int, e = .returned (.int .i64 r) ∧ decide (0 ≤ r) = l.any (fun s => !vS s) ∧ -1 ≤ r ∧ r < 9223372036854775807) ∧ Below w.heap.size w w'
set_option maxHeartbeats 400000 in
theorem index_50 {vS : Sol → Bool} (hv : ∀ a b c d : Int, Gives Tryz.prog 50 [.agg #[.int .i64 a, .int .i64 b, .int .i64 c, .int .i64 d]] (.bool (!vS (a, b, c, d))))
    (A : Option Addr) (n c : Nat) (l : List Sol) (w : World) (hg : Glob w) (h : Sols w A n l) :
    Calls Tryz.prog 53 #[.slice A n c, .func (.func 50) #[] #[]] w (IdxPost vS l w) := by
  have hn := h.le
  have HS := Lib.hid h
  have HL := Lib.hid h.len
  have HV := Lib.hid hv
  have HG := Lib.hid hg
  clear h hv hg
  go_enter Tryz.func53, Tryz.ntmps53
  go_wp2
  go_loopw [8] (fun i wr => ∃ k : Nat, k ≤ n ∧ i = .int .i64 k ∧ (∀ j, j < k → vS (l.getD j nos) = true) ∧ Below w.heap.size w wr) (fun i _ => n - (intOf i).toNat)
  case atStart => exact ⟨0, Nat.zero_le _, rfl, fun j hj => absurd hj (by omega), Below.refl _ _⟩
  case round =>
    obtain ⟨k, hk, rfl, hno, hbel⟩ := hrel
    have HN := Lib.hid hno
    have HB := Lib.hid hbel
    clear hno
    by_cases hlt : k < n
    · obtain ⟨b, off, a1, a2, a3, a4, rfl, hb, hy, d0, d1, d2, d3⟩ := HS.out.at_ hlt hbel
      have HY := Lib.hid hy
      clear hbel hy
      go_wp2_with fail
      refine (at1 (HV.out a1 a2 a3 a4) (HG.out.below HB.out)).mono ?_
      rintro e w1 ⟨rfl, hb1⟩
      have HB1 := Lib.hid (HB.out.trans (hb1.mono HB.out.size))
      clear hb1
      cases hs : vS (a1, a2, a3, a4) with
      | false =>
        have HF := Lib.hid (show IdxPost vS l w (.returned (.int .i64 (k : Int))) w1 from ⟨⟨k, rfl, by
          rw [decide_eq_true (by omega)]
          exact (List.any_eq_true.2 ⟨_, getD_mem (l := l) (k := k) (by rw [HL.out]; exact hlt), by rw [HY.out, hs]; rfl⟩).symm, by omega, by omega⟩, HB1.out⟩)
        clear hs
        go_wp2
        go_ret
        exact HF.out
      | true =>
        have HST := Lib.hid (show ∀ j, j < k + 1 → vS (l.getD j nos) = true from fun j hj => by
          by_cases e : j = k
          · rw [e, HY.out]; exact hs
          · exact HN.out j (by omega))
        clear hs
        go_wp2
        go_roundw
        case rel => exact ⟨k + 1, by omega, by go_num, HST.out, HB1.out⟩
        case measure => simp [intOf]; omega
    · have hno : l.any (fun s => !vS s) = false := by
        rw [List.any_eq_false]
        intro x hx
        obtain ⟨i, hi, he⟩ := List.getElem_of_mem hx
        have := HN.out i (by have := HL.out; omega)
        rw [List.getD_eq_getElem?_getD, List.getElem?_eq_getElem hi] at this
        simp only [Option.getD_some, he] at this
        rw [this]; simp
      have HF := Lib.hid (show IdxPost vS l w (.returned (.int .i64 (-1 : Int))) wr from ⟨⟨-1, rfl, by rw [hno]; rfl, by omega, by omega⟩, hbel⟩)
      clear hno hbel
      go_wp2
      go_ret
      exact HF.out
theorem contains_50 {vS : Sol → Bool} (hv : ∀ a b c d : Int, Gives Tryz.prog 50 [.agg #[.int .i64 a, .int .i64 b, .int .i64 c, .int .i64 d]] (.bool (!vS (a, b, c, d))))
    (A : Option Addr) (n c : Nat) (l : List Sol) (w : World) (hg : Glob w) (h : Sols w A n l) :
    Calls Tryz.prog 20 #[.slice A n c, .func (.func 50) #[] #[]] w fun e w' => e = .returned (.bool (l.any fun s => !vS s)) ∧ Below w.heap.size w w' := by
  have HI := Lib.hid (index_50 hv A n c l w hg h)
  clear h hv hg
  go_enter Tryz.func20, Tryz.ntmps20
  go_wp2_with fail
  refine HI.out.mono ?_
  rintro e w' ⟨⟨r, rfl, hr, _, _⟩, hb⟩
  have HR := Lib.hid hr
  have HB := Lib.hid hb
  clear hr hb
  go_wp2
  go_ret
  rw [← HR.out]
  exact ⟨rfl, HB.out⟩

def flatA (l : List (Int × Int)) : List Value := l.flatMap fun p => [.int .i64 p.1, .int .i64 p.2]
theorem flatA_len (l : List (Int × Int)) : (flatA l).length = l.length * 2 := by
  induction l with
  | nil => rfl
  | cons p l ih => rw [flatA, List.flatMap_cons, List.length_append]; rw [flatA] at ih; rw [ih]; simp; omega
theorem flatA_snoc (l : List (Int × Int)) (p : Int × Int) : flatA (l ++ [p]) = flatA l ++ [.int .i64 p.1, .int .i64 p.2] := by simp [flatA]
/-- A box of two integers, and what it holds behind a call that left it alone. -/
theorem box2 {w w1 : World} {x y : Value} {t : TypeId} {B b : Nat} (hb : Below B w w1) (hB : b < B) (h : w.heap[b]? = some (.cells #[x, y] t (0, 0))) :
    (w1.cell? ⟨b, 0, none⟩ = some x ∧ w1.cell? ⟨b, 1, none⟩ = some y) ∧ w1.frozen? ⟨b, 0, none⟩ = false ∧ w1.frozen? ⟨b, 1, none⟩ = false := by
  have h1 : w1.heap[b]? = some (.cells #[x, y] t (0, 0)) := (hb.block b hB).trans h
  refine ⟨⟨?_, ?_⟩, ?_, ?_⟩
  · rw [cell_of_row w1 b 0 _ _ _ h1]; rfl
  · rw [cell_of_row w1 b 1 _ _ _ h1]; rfl
  · simp [World.frozen?, h1]
  · simp [World.frozen?, h1]
theorem arc_info : (Tryz.prog.info? 23).map (fun i => (i.zero, i.size, i.bytes)) = some (some (.agg #[.int .i64 0, .int .i64 0]), 2, 16) := by kernel_rfl
theorem dir_boxes (w : World) (a b c d : Int) : let W := (((w.alloc (.cells ⟨[.int .i64 a, .int .i64 b]⟩ 23)).alloc (.cells ⟨[.int .i64 c, .int .i64 d]⟩ 23)).alloc (.cells #[.int .i64 0, .int .i64 0] 23))
    W.heap[w.heap.size]? = some (.cells #[.int .i64 a, .int .i64 b] 23 (0, 0)) ∧ W.heap[w.heap.size + 1]? = some (.cells #[.int .i64 c, .int .i64 d] 23 (0, 0)) ∧ W.heap[w.heap.size + 2]? = some (.cells #[.int .i64 0, .int .i64 0] 23 (0, 0)) ∧ W.heap.size = w.heap.size + 3 ∧ Below w.heap.size w W := by
  refine ⟨?_, ?_, ?_, by simp, ((((Below.refl _ _).alloc (Nat.le_refl _) _).alloc (by simp) _).alloc (by simp; omega) _)⟩
  · rw [Below.heap_alloc _ _ _ (by simp; omega), Below.heap_alloc _ _ _ (by simp), heap_alloc_new]
  · rw [Below.heap_alloc _ _ _ (by simp)]
    have := heap_alloc_new (w.alloc (.cells ⟨[.int .i64 a, .int .i64 b]⟩ 23)) (.cells ⟨[.int .i64 c, .int .i64 d]⟩ 23)
    simpa using this
  · have := heap_alloc_new ((w.alloc (.cells ⟨[.int .i64 a, .int .i64 b]⟩ 23)).alloc (.cells ⟨[.int .i64 c, .int .i64 d]⟩ 23)) (.cells #[.int .i64 0, .int .i64 0] 23)
    simpa using this
theorem own_below2 {w w' : World} {B n e size : Nat} {v : Value} {xs : List Value} (h : w.ownsRow B e size v n xs) (hb : Below w.heap.size w w') : w'.ownsRow B e size v n xs :=
  h.kept (row := none) ⟨hb.os, hb.tape, hb.output, hb.size, fun k hk _ => hb.block k hk⟩ (by cases v.ownBlock <;> simp)
theorem info_parts {P : Program} {e : TypeId} {z : Option Value} {s b : Nat} (h : (P.info? e).map (fun i => (i.zero, i.size, i.bytes)) = some (z, s, b)) : ∃ i, P.info? e = some i ∧ i.zero = z ∧ i.size = s ∧ i.bytes = b := by
  cases hi : P.info? e with
  | none => rw [hi] at h; cases h
  | some i =>
    rw [hi] at h
    simp only [Option.map_some, Option.some.injEq, Prod.mk.injEq] at h
    exact ⟨i, rfl, h.1, h.2.1, h.2.2⟩
theorem two_new (w : World) (o : Obj) (x y : Int) : ∀ j u, [Value.int .i64 x, .int .i64 y][j]? = some u → ((w.alloc o).alloc (.cells #[.int .i64 x, .int .i64 y] 23)).cell? ((⟨w.heap.size + 1, 0, none⟩ : Addr).add j) = some u := by
  have hb : ((w.alloc o).alloc (.cells #[.int .i64 x, .int .i64 y] 23)).heap[w.heap.size + 1]? = some (.cells #[.int .i64 x, .int .i64 y] 23) := by
    have := heap_alloc_new (w.alloc o) (.cells #[.int .i64 x, .int .i64 y] 23)
    simpa using this
  exact World.news_of_block hb
theorem own_slice2 {w : World} {B : Nat} {e : TypeId} {size n : Nat} {v : Value} {xs : List Value} (h : w.ownsRow B e size v n xs) : ∃ A c, v = .slice A n c := by
  rcases h.2 with ⟨rfl, rfl⟩ | ⟨g, cap, cur, rfl, _⟩
  · exact ⟨_, _, rfl⟩
  · exact ⟨_, _, rfl⟩
structure DirRel (a b c d : Int) (w0 wr : World) (B : Nat) (v6 v7 : Value) (i : Nat) : Prop where
  le : i ≤ 3
  turn : v7 = .int .i64 (-21600000 + 21600000 * (i : Int))
  own : wr.ownsRow B 23 2 v6 (dirL a b c d i).length (flatA (dirL a b c d i))
  below : Below B w0 wr
set_option maxHeartbeats 1000000 in
theorem directions_any (hm : ∀ a b c d, Gives Tryz.prog 28 [pairV a b, pairV c d] (arcV (ameetR a b c d))) (ht : ∀ a b, Gives Tryz.prog 78 [pairV a b] (arcV (turnR a b))) (hq : Gives Tryz.prog 120 [] (pairV 0 21600000))
    (heq : ∀ (a b c d : Int) (w : World), (Op.equalIn 10000 23 (.agg #[.int .i64 a, .int .i64 b]) (.agg #[.int .i64 c, .int .i64 d])).run Tryz.prog w = .ok (a == c && b == d) w)
    (a b c d : Int) (hv : avalidB a b = true) (hv' : avalidB c d = true) (hb : -500000000000 ≤ c ∧ d ≤ 500000000000) (w : World) (hg : Glob w) : Calls Tryz.prog 52 #[pairV a b, pairV c d] w (GP (arcV (dirsR a b c d)) w) := by
  have HM := Lib.hid hm
  have HT := Lib.hid ht
  have HQ := Lib.hid hq
  have bd := aval_bd hv
  have bd' := aval_bd hv'
  have HV := Lib.hid hv
  have HV' := Lib.hid hv'
  have HG := Lib.hid hg
  clear hm ht hq hv hv' hg
  have HW := Lib.hid (dir_boxes w a b c d)
  have H0 := Lib.hid (at0 HQ.out (HG.out.below HW.out.2.2.2.2))
  unfold pairV
  go_enter Tryz.func52, Tryz.ntmps52
  go_wp2_with fail
  refine H0.out.mono ?_
  rintro e w1 ⟨rfl, hb1⟩
  obtain ⟨k1, k2, k3, k4, k5⟩ := HW.out
  generalize (((w.alloc (.cells ⟨[.int .i64 a, .int .i64 b]⟩ 23)).alloc (.cells ⟨[.int .i64 c, .int .i64 d]⟩ 23)).alloc (.cells #[.int .i64 0, .int .i64 0] 23)) = W at *
  rw [k4] at hb1
  have hs1 := hb1.size
  rw [k4] at hs1
  obtain ⟨⟨p0, p1⟩, f0, f1⟩ := box2 hb1 (b := w.heap.size) (by omega) k1
  obtain ⟨⟨q0, q1⟩, g0, g1⟩ := box2 hb1 (b := w.heap.size + 1) (by omega) k2
  obtain ⟨⟨r0, r1⟩, l0, l1⟩ := box2 hb1 (b := w.heap.size + 2) (by omega) k3
  have HB1 := Lib.hid hb1
  have HK := Lib.hid (And.intro k1 (And.intro k2 (And.intro k3 (And.intro k4 k5))))
  clear k1 k2 k3 k4 k5 hb1 HW H0
  unfold pairV
  by_cases h1 : a = 0 ∧ b = 21600000
  · have e1 : (0 == a && 21600000 == b) = true := by simp [h1]
    have HF := Lib.hid (show ∀ w', Below w.heap.size w w' → GP (arcV (dirsR a b c d)) w (.returned (.tuple #[.agg #[.int .i64 c, .int .i64 d], .int .i64 0])) w' from fun w' hb => ⟨by unfold dirsR; rw [if_pos h1]; rfl, hb⟩)
    have HB := Lib.hid (HK.out.2.2.2.2.trans (HB1.out.mono (by omega)))
    clear h1
    go_wp2
    refine bodyPost_ret (v := .tuple #[.agg #[.int .i64 c, .int .i64 d], .int .i64 0]) (by simp [results, Tryz.results52, go_sem, r0, r1]) rfl (HF.out _ ?_)
    exact (HB.out.setCell (by simp; omega) _).setCell (by simp; omega) _
  have e1 : (0 == a && 21600000 == b) = false := by
    rw [Bool.and_eq_false_iff, beq_eq_false_iff_ne, beq_eq_false_iff_ne]; omega
  by_cases h2 : c = 0 ∧ d = 21600000
  · have e2 : (0 == c && 21600000 == d) = true := by simp [h2]
    have HF := Lib.hid (show ∀ w', Below w.heap.size w w' → GP (arcV (dirsR a b c d)) w (.returned (.tuple #[.agg #[.int .i64 a, .int .i64 b], .int .i64 0])) w' from fun w' hb => ⟨by unfold dirsR; rw [if_neg h1, if_pos h2]; rfl, hb⟩)
    have HB := Lib.hid (HK.out.2.2.2.2.trans (HB1.out.mono (by omega)))
    clear h1 h2
    go_wp2
    refine bodyPost_ret (v := .tuple #[.agg #[.int .i64 a, .int .i64 b], .int .i64 0]) (by simp [results, Tryz.results52, go_sem, r0, r1]) rfl (HF.out _ ?_)
    exact (HB.out.setCell (by simp; omega) _).setCell (by simp; omega) _
  have e2 : (0 == c && 21600000 == d) = false := by
    rw [Bool.and_eq_false_iff, beq_eq_false_iff_ne, beq_eq_false_iff_ne]; omega
  have HD := Lib.hid (show dirsR a b c d = dirF a b c d (dirL a b c d 3) by unfold dirsR; rw [if_neg h1, if_neg h2])
  have HST := Lib.hid (show DirRel a b c d W w1 (w.heap.size + 3) (.slice none 0 0) (.int .i64 (-21600000)) 0 from ⟨by omega, rfl, World.ownsRow_nil _ _ _ _, HB1.out⟩)
  clear h1 h2
  go_wp2_with fail
  go_loopw [6, 7] (fun v6 v7 wr => ∃ i, DirRel a b c d W wr (w.heap.size + 3) v6 v7 i) (fun _ v7 _ => (43200000 - intOf v7).toNat)
  case atStart => exact ⟨_, HST.out⟩
  case round =>
    clear HST p0 p1 f0 f1 q0 q1 g0 g1 r0 r1 l0 l1
    obtain ⟨i, hi, rfl, hown, hbel⟩ := hrel
    obtain ⟨k1, k2, k3, k4, k5⟩ := HK.out
    have hsr := hbel.size
    rw [k4] at hsr
    obtain ⟨⟨p0, p1⟩, f0, f1⟩ := box2 hbel (b := w.heap.size) (by omega) k1
    obtain ⟨⟨q0, q1⟩, g0, g1⟩ := box2 hbel (b := w.heap.size + 1) (by omega) k2
    obtain ⟨⟨r0, r1⟩, l0, l1⟩ := box2 hbel (b := w.heap.size + 2) (by omega) k3
    have HB := Lib.hid hbel
    have HO := Lib.hid hown
    clear k1 k2 k3 k4 k5 hbel hown
    by_cases hlt : i < 3
    · have HS := Lib.hid (dirL_succ a b c d i hlt)
      have hk : -21600000 + 21600000 * (i : Int) ≤ 21600000 := by omega
      have hk0 : -21600000 ≤ -21600000 + 21600000 * (i : Int) := by omega
      have HI := Lib.hid (show -21600000 + 21600000 * (i : Int) + 21600000 = -21600000 + 21600000 * ((i + 1 : Nat) : Int) by omega)
      generalize -21600000 + 21600000 * (i : Int) = k at *
      have HC := Lib.hid (at2 (HM.out a b (c + k) (d + k)) (HG.out.below (HK.out.2.2.2.2.trans (HB.out.mono (by omega)))))
      unfold pairV at HC
      go_wp2_with fail
      refine HC.out.mono ?_
      rintro e w2 ⟨rfl, hb2⟩
      have hs2 := hb2.size
      have HB2 := Lib.hid (HB.out.trans (hb2.mono (by omega)))
      have HO2 := Lib.hid (own_below2 HO.out hb2)
      have av : avalidB (c + k) (d + k) = true := by unfold avalidB; simp; omega
      obtain ⟨⟨p0', p1'⟩, f0', f1'⟩ := box2 HB2.out (b := w.heap.size) (by omega) HK.out.1
      clear p0 p1 f0 f1 q0 q1 g0 g1 r0 r1 l0 l1 hb2
      by_cases hx : mx a (c + k) > mn b (d + k)
      · have hr : ameetR a b (c + k) (d + k) = (0, 0, 23) := by unfold ameetR; rw [if_pos ⟨HV.out, av⟩, if_pos hx]
        have hp : dirP a b c d k = none := by unfold dirP; rw [if_pos hx]
        rw [hr]
        rw [hp] at HS
        have HO3 := Lib.hid (own_below2 HO2.out ((Below.refl _ _).alloc (Nat.le_refl _) (.cells #[.int .i64 0, .int .i64 0] 23)))
        have HB3 := Lib.hid (HB2.out.alloc (by omega) (.cells #[.int .i64 0, .int .i64 0] 23))
        have HST := Lib.hid (show DirRel a b c d W (w2.alloc (.cells #[.int .i64 0, .int .i64 0] 23)) (w.heap.size + 3) u6 (.int .i64 (k + 21600000)) (i + 1) from ⟨hlt, by rw [HI.out], by rw [HS.out]; simpa using HO3.out, HB3.out⟩)
        clear hr hp hx
        unfold arcV pairV
        go_wp2
        go_roundw
        case rel => exact ⟨_, HST.out⟩
        case measure => simp [intOf]; omega
      · have hr : ameetR a b (c + k) (d + k) = (mx a (c + k), mn b (d + k), 0) := by unfold ameetR; rw [if_pos ⟨HV.out, av⟩, if_neg hx]
        have hp : dirP a b c d k = some (mx a (c + k), mn b (d + k)) := by unfold dirP; rw [if_neg hx]
        rw [hr]
        rw [hp] at HS
        generalize mx a (c + k) = x at *
        generalize mn b (d + k) = y at *
        have HO3 := Lib.hid (own_below2 HO2.out (((Below.refl _ _).alloc (Nat.le_refl _) (.cells #[.int .i64 x, .int .i64 y] 23)).alloc (by simp) (.cells #[.int .i64 x, .int .i64 y] 23)))
        have HB3 := Lib.hid ((HB2.out.alloc (by omega) (.cells #[.int .i64 x, .int .i64 y] 23)).alloc (by simp; omega) (.cells #[.int .i64 x, .int .i64 y] 23))
        clear hr hp hx
        obtain ⟨i0, hi, hz0, hz1, hz2⟩ := info_parts arc_info
        unfold arcV pairV
        go_wp2_with (at_builtin; refine wpList_append_own _ rfl (.tmp 39) (.tmp 41) 122 rfl (w.heap.size + 3) 23 i0 (.agg #[.int .i64 0, .int .i64 0]) 2 16 Tryz.underlying122 hi hz0 hz1 hz2 rfl (by decide) u6 (dirL a b c d i).length _ rfl HO3.out ⟨w2.heap.size + 1, 0, none⟩ 1 1 [.int .i64 x, .int .i64 y] rfl rfl ?c1 ?c2 ?c3 ?c4 ?c5 ?_)
        case c1 => exact two_new w2 _ x y
        case c2 => intro u hu; simp at hu; rcases hu with rfl | rfl <;> rfl
        case c3 => have := dirL_len a b c d i; unfold maxLen; omega
        case c4 => have := dirL_len a b c d i; omega
        case c5 => simp; omega
        intro v' w4 hown4 hg _
        rw [← flatA_snoc _ (x, y)] at hown4
        have HB4 := Lib.hid (HB3.out.grown hg (by simp; omega) (fun q hq => (HO3.out.lt q hq).1))
        have HST := Lib.hid (show DirRel a b c d W w4 (w.heap.size + 3) v' (.int .i64 (k + 21600000)) (i + 1) from ⟨hlt, by rw [HI.out], by rw [HS.out]; simpa using hown4, HB4.out⟩)
        clear hg hown4
        go_wp2
        go_roundw
        case rel => exact ⟨_, HST.out⟩
        case measure => simp [intOf]; omega
    · have hi3 : i = 3 := by omega
      subst hi3
      have bz := HB.out
      cases hL : dirL a b c d 3 with
      | nil =>
        rw [hL] at HO
        obtain ⟨A, cp, rfl⟩ := own_slice2 HO.out
        have HF := Lib.hid (show ∀ w', Below w.heap.size w w' → GP (arcV (dirsR a b c d)) w (.returned (.tuple #[.agg #[.int .i64 0, .int .i64 0], .int .i64 23])) w' from fun w' hb => ⟨by rw [HD.out, hL]; rfl, hb⟩)
        have HBB := Lib.hid (HK.out.2.2.2.2.trans (HB.out.mono (by omega)))
        clear hL bz
        go_wp2
        refine bodyPost_ret (v := .tuple #[.agg #[.int .i64 0, .int .i64 0], .int .i64 23]) (by simp [results, Tryz.results52, go_sem, r0, r1]) rfl (HF.out _ ?_)
        exact (HBB.out.setCell (by simp; omega) _).setCell (by simp; omega) _
      | cons p L =>
        cases L with
        | nil =>
          rw [hL] at HO
          obtain ⟨g, cp, rfl, hg1, hg2⟩ := HO.out.form (by simp)
          have cg := HO.out.cells (g := g) rfl
          have x0 := cg 0 (.int .i64 p.1) rfl
          have x1 := cg 1 (.int .i64 p.2) rfl
          have HD' := Lib.hid (show dirsR a b c d = turnR p.1 p.2 by rw [HD.out, hL]; rfl)
          have HBB := Lib.hid (HK.out.2.2.2.2.trans (HB.out.mono (by omega)))
          obtain ⟨x, y⟩ := p
          have HC := Lib.hid (at1 (HT.out x y) (HG.out.below HBB.out))
          simp only [Addr.add] at x0 x1
          simp at x0 x1
          unfold pairV at HC
          clear hL bz cg
          go_wp2_with fail
          refine HC.out.mono ?_
          rintro e w2 ⟨rfl, hb2⟩
          have HB2 := Lib.hid (HB.out.trans (hb2.mono (by omega)))
          have hs2 := hb2.size
          obtain ⟨⟨r0, r1⟩, l0, l1⟩ := box2 HB2.out (b := w.heap.size + 2) (by omega) HK.out.2.2.1
          have HBB := Lib.hid (HK.out.2.2.2.2.trans (HB2.out.mono (by omega)))
          have HF := Lib.hid (show ∀ w', Below w.heap.size w w' → GP (arcV (dirsR a b c d)) w (.returned (.tuple #[.agg #[.int .i64 (turnR x y).1, .int .i64 (turnR x y).2.1], .int .i64 (turnR x y).2.2])) w' from fun w' hb => ⟨by rw [HD'.out]; rfl, hb⟩)
          clear hb2 HC
          unfold arcV pairV
          go_wp2
          refine bodyPost_ret (v := .tuple #[.agg #[.int .i64 (turnR x y).1, .int .i64 (turnR x y).2.1], .int .i64 (turnR x y).2.2]) (by simp [results, Tryz.results52, go_sem, r0, r1]) rfl (HF.out _ ?_)
          exact (HBB.out.setCell (by simp; omega) _).setCell (by simp; omega) _
        | cons q L =>
          rw [hL] at HO
          obtain ⟨A, cp, rfl⟩ := own_slice2 HO.out
          have hN : 2 ≤ (p :: q :: L).length := by simp
          have hN3 : (p :: q :: L).length ≤ 3 := by rw [← hL]; exact dirL_len a b c d 3
          have HD' := Lib.hid (show dirsR a b c d = if d - c < b - a then (c, d, 0) else (a, b, 0) by rw [HD.out, hL]; rfl)
          have HBB := Lib.hid (HK.out.2.2.2.2.trans (HB.out.mono (by omega)))
          clear HO hL bz
          generalize (p :: q :: L).length = N at *
          have e3 : ((N : Int) == 0) = false := beq_eq_false_iff_ne.2 (by omega)
          have e4 : ((N : Int) == 1) = false := beq_eq_false_iff_ne.2 (by omega)
          have e5 : IntKind.i64.wrap (d - c) = d - c := IntWalk.i64_in _ (by omega)
          have e6 : IntKind.i64.wrap (b - a) = b - a := IntWalk.i64_in _ (by omega)
          by_cases hw : d - c < b - a
          · rw [if_pos hw] at HD'
            have HF := Lib.hid (show ∀ w', Below w.heap.size w w' → GP (arcV (dirsR a b c d)) w (.returned (.tuple #[.agg #[.int .i64 c, .int .i64 d], .int .i64 0])) w' from fun w' hb => ⟨by rw [HD'.out]; rfl, hb⟩)
            go_wp2
            refine bodyPost_ret (v := .tuple #[.agg #[.int .i64 c, .int .i64 d], .int .i64 0]) (by simp [results, Tryz.results52, go_sem, r0, r1]) rfl (HF.out _ ?_)
            exact (HBB.out.setCell (by simp; omega) _).setCell (by simp; omega) _
          · rw [if_neg hw] at HD'
            have HF := Lib.hid (show ∀ w', Below w.heap.size w w' → GP (arcV (dirsR a b c d)) w (.returned (.tuple #[.agg #[.int .i64 a, .int .i64 b], .int .i64 0])) w' from fun w' hb => ⟨by rw [HD'.out]; rfl, hb⟩)
            go_wp2
            refine bodyPost_ret (v := .tuple #[.agg #[.int .i64 a, .int .i64 b], .int .i64 0]) (by simp [results, Tryz.results52, go_sem, r0, r1]) rfl (HF.out _ ?_)
            exact (HBB.out.setCell (by simp; omega) _).setCell (by simp; omega) _

/-- A box of a solution. -/
def Bk (w : World) (b : Nat) (s : Sol) : Prop := w.heap[b]? = some (.cells #[.int .i64 s.1, .int .i64 s.2.1, .int .i64 s.2.2.1, .int .i64 s.2.2.2] 28 (0, 0))
theorem Bk.lt {w : World} {b : Nat} {s : Sol} (h : Bk w b s) : b < w.heap.size := (Array.getElem?_eq_some_iff.1 h).1
theorem Bk.below {w w' : World} {b B : Nat} {s : Sol} (h : Bk w b s) (hb : Below B w w') (hB : b < B) : Bk w' b s := (hb.block b hB).trans h
theorem Bk.next {w w' : World} {b : Nat} {s : Sol} (h : Bk w b s) (hb : Below w.heap.size w w') : Bk w' b s := h.below hb h.lt
theorem Bk.new (w : World) (s : Sol) : Bk (w.alloc (.cells #[.int .i64 s.1, .int .i64 s.2.1, .int .i64 s.2.2.1, .int .i64 s.2.2.2] 28)) w.heap.size s := heap_alloc_new w _
theorem Bk.write {w : World} {b : Nat} {s : Sol} (h : Bk w b s) (v : Sol) :
    Bk ((((w.setCell ⟨b, 0, none⟩ (.int .i64 v.1)).setCell ⟨b, 1, none⟩ (.int .i64 v.2.1)).setCell ⟨b, 2, none⟩ (.int .i64 v.2.2.1)).setCell ⟨b, 3, none⟩ (.int .i64 v.2.2.2)) b v := by
  unfold Bk at *
  simp [World.setCell, h, Array.getElem?_modify]
theorem Bk.other {w : World} {b b' : Nat} {s : Sol} (h : Bk w b s) (hb : b ≠ b') (v0 v1 v2 v3 : Value) :
    Bk ((((w.setCell ⟨b', 0, none⟩ v0).setCell ⟨b', 1, none⟩ v1).setCell ⟨b', 2, none⟩ v2).setCell ⟨b', 3, none⟩ v3) b s := by
  unfold Bk at *
  have hb' : b' ≠ b := fun e => hb e.symm
  simp [World.setCell, h, Array.getElem?_modify, hb']
theorem Bk.keep {w : World} {b : Nat} {s : Sol} (h : Bk w b s) :
    (w.cell? ⟨b, 0, none⟩ = some (.int .i64 s.1) ∧ w.cell? ⟨b, 1, none⟩ = some (.int .i64 s.2.1) ∧ w.cell? ⟨b, 2, none⟩ = some (.int .i64 s.2.2.1) ∧ w.cell? ⟨b, 3, none⟩ = some (.int .i64 s.2.2.2)) ∧
    w.frozen? ⟨b, 0, none⟩ = false ∧ w.frozen? ⟨b, 1, none⟩ = false ∧ w.frozen? ⟨b, 2, none⟩ = false ∧ w.frozen? ⟨b, 3, none⟩ = false := by
  unfold Bk at h
  refine ⟨⟨?_, ?_, ?_, ?_⟩, ?_, ?_, ?_, ?_⟩ <;> simp [World.cell?, World.frozen?, h]
theorem Below.set4 {B : Nat} {a w : World} (h : Below B a w) {b : Nat} (hb : B ≤ b) (v0 v1 v2 v3 : Value) : Below B a ((((w.setCell ⟨b, 0, none⟩ v0).setCell ⟨b, 1, none⟩ v1).setCell ⟨b, 2, none⟩ v2).setCell ⟨b, 3, none⟩ v3) :=
  (((h.setCell (by simpa using hb) _).setCell (by simpa using hb) _).setCell (by simpa using hb) _).setCell (by simpa using hb) _

set_option maxHeartbeats 1000000 in
theorem meet_early (A : Option Addr) (n c : Nat) (l : List Sol) (w : World) (h : Sols w A n l) (hn : n = 0 ∨ 1000 < n) :
    Calls Tryz.prog 19 #[.slice A n c] w (GP (solV (meetR l)) w) := by
  have HL := Lib.hid h.len
  have hle := h.le
  have HBB := Lib.hid ((Below.refl w.heap.size w).alloc (Nat.le_refl _) (.cells #[.int .i64 0, .int .i64 0, .int .i64 0, .int .i64 0] 28))
  have HK := (Bk.new w (0, 0, 0, 0)).keep
  dsimp only at HK
  obtain ⟨⟨r0, r1, r2, r3⟩, l0, l1, l2, l3⟩ := HK
  clear h
  rcases hn with hn | hn
  · subst hn
    have HF := Lib.hid (show ∀ w', Below w.heap.size w w' → GP (solV (meetR l)) w (.returned (.tuple #[.agg #[.int .i64 0, .int .i64 0, .int .i64 0, .int .i64 0], .int .i64 14])) w' from fun w' hb => ⟨by
      have : l = [] := List.eq_nil_of_length_eq_zero HL.out
      rw [this]; rfl, hb⟩)
    go_enter Tryz.func19, Tryz.ntmps19
    go_wp2
    refine bodyPost_ret (v := .tuple #[.agg #[.int .i64 0, .int .i64 0, .int .i64 0, .int .i64 0], .int .i64 14]) (by simp [results, Tryz.results19, go_sem]) rfl (HF.out _ ?_)
    exact HBB.out
  · have e1 : ((n : Int) == 0) = false := beq_eq_false_iff_ne.2 (by omega)
    have e2 : (1000 : Int) < (n : Int) := by omega
    have HF := Lib.hid (show ∀ w', Below w.heap.size w w' → GP (solV (meetR l)) w (.returned (.tuple #[.agg #[.int .i64 0, .int .i64 0, .int .i64 0, .int .i64 0], .int .i64 4])) w' from fun w' hb => ⟨by
      have := HL.out
      cases l with
      | nil => simp at this; omega
      | cons s r => rw [meetR_many (by omega)]; rfl, hb⟩)
    go_enter Tryz.func19, Tryz.ntmps19
    go_wp2
    refine bodyPost_ret (v := .tuple #[.agg #[.int .i64 0, .int .i64 0, .int .i64 0, .int .i64 0], .int .i64 4]) (by simp [results, Tryz.results19, go_sem]) rfl (HF.out _ ?_)
    exact HBB.out

/-- The rest of a list, behind its first. -/
theorem Sols.tail {w : World} {A : Option Addr} {n c : Nat} {l : List Sol} (h : Sols w A n l) (hn : 0 < n) (hc : n ≤ c) : Sols w (if c = 1 then A else A.map (·.add 4)) (n - 1) (l.drop 1) := by
  refine ⟨by rw [List.length_drop, h.len], by have := h.le; omega, fun h1 => ?_⟩
  obtain ⟨b, off, rfl, hb, hcell⟩ := h.cells hn
  rw [if_neg (by omega)]
  refine ⟨b, off + 4, by simp [Addr.add], hb, fun i hi => ?_⟩
  have := hcell (i + 1) (by omega)
  rw [show (l.drop 1).getD i nos = l.getD (i + 1) nos by rw [List.getD_eq_getElem?_getD, List.getD_eq_getElem?_getD, List.getElem?_drop, Nat.add_comm]]
  rw [show off + 4 + i * 4 = off + (i + 1) * 4 by omega]
  exact this
structure MeetRel (l : List Sol) (w wr : World) (Bo : Nat) (v : Value) (o : Sol) (k : Nat) : Prop where
  le : k + 1 ≤ l.length
  num : v = .int .i64 (k : Int)
  out : Bk wr Bo o
  res : Bk wr w.heap.size nos
  val : avalidB o.2.2.1 o.2.2.2 = true
  eq : meetF (l.getD 0 nos) (l.drop 1) = meetF o (l.drop (k + 1))
  below : Below w.heap.size w wr
set_option maxHeartbeats 2000000 in
theorem meet_main (hm : ∀ a b c d, Gives Tryz.prog 28 [pairV a b, pairV c d] (arcV (ameetR a b c d))) (hf : ∀ a b c d : Int, Gives Tryz.prog 50 [.agg #[.int .i64 a, .int .i64 b, .int .i64 c, .int .i64 d]] (.bool (!svalB (a, b, c, d))))
    (hd : ∀ a b c d, avalidB a b = true → avalidB c d = true → (-500000000000 ≤ c ∧ d ≤ 500000000000) → Gives Tryz.prog 52 [pairV a b, pairV c d] (arcV (dirsR a b c d)))
    (htv : ∀ a b, avalidB a b = true → (turnR a b).2.2 = 0 → avalidB (turnR a b).1 (turnR a b).2.1 = true)
    (A : Option Addr) (n c : Nat) (l : List Sol) (w : World) (hg : Glob w) (h : Sols w A n l) (hc : n ≤ c) (_hc' : c ≤ 9223372036854775807) (h0 : 0 < n) (h1 : ¬ 1000 < n) (hc1 : c ≠ 1) :
    Calls Tryz.prog 19 #[.slice A n c] w (GP (solV (meetR l)) w) := by
  have HL := Lib.hid h.len
  have HS := Lib.hid h
  have HM := Lib.hid hm
  have HD := Lib.hid hd
  have HTV := Lib.hid htv
  have HB0 := Lib.hid ((Below.refl w.heap.size w).alloc (Nat.le_refl _) (.cells #[.int .i64 0, .int .i64 0, .int .i64 0, .int .i64 0] 28))
  have HK0 := Lib.hid (Bk.new w nos)
  have HG := Lib.hid hg
  have HC := Lib.hid (contains_50 hf A n c l _ (hg.below HB0.out) (h.below HB0.out (Nat.le_refl _)))
  have e1 : ((n : Int) == 0) = false := beq_eq_false_iff_ne.2 (by omega)
  have e2 : ¬ (1000 : Int) < (n : Int) := by omega
  clear h hm hd htv hf hg
  go_enter Tryz.func19, Tryz.ntmps19
  go_wp2_with fail
  refine HC.out.mono ?_
  rintro e w1 ⟨rfl, hb1⟩
  have HB1 := Lib.hid (HB0.out.trans (hb1.mono (by simp)))
  have HK1 := Lib.hid (HK0.out.next hb1)
  have hs1 := hb1.size
  simp at hs1
  clear hb1
  cases hA : l.any (fun s => !svalB s) with
  | true =>
    have HF := Lib.hid (show ∀ w', Below w.heap.size w w' → GP (solV (meetR l)) w (.returned (.tuple #[.agg #[.int .i64 0, .int .i64 0, .int .i64 0, .int .i64 0], .int .i64 1])) w' from fun w' hb => ⟨by
      have := HL.out
      cases l with
      | nil => simp at this; omega
      | cons s r => rw [meetR_bad (by omega) hA]; rfl, hb⟩)
    obtain ⟨⟨r0, r1, r2, r3⟩, l0, l1, l2, l3⟩ := HK1.out.keep
    clear hA
    go_wp2
    refine bodyPost_ret (v := .tuple #[.agg #[.int .i64 0, .int .i64 0, .int .i64 0, .int .i64 0], .int .i64 1]) (by simp [results, Tryz.results19, go_sem, r0, r1, r2, r3]) rfl (HF.out _ ?_)
    exact Below.set4 HB1.out (Nat.le_refl _) _ _ _ _
  | false =>
    have HV := Lib.hid (show ∀ s ∈ l, svalB s = true from fun s hs => by
      rw [List.any_eq_false] at hA
      have := hA s hs
      simpa using this)
    have HR := Lib.hid (show meetR l = match meetF (l.getD 0 nos) (l.drop 1) with
      | none => (0, 0, 0, 0, 23)
      | some x => (x.1, x.2.1, x.2.2.1, x.2.2.2, 0) by
      have := HL.out
      cases l with
      | nil => simp at this; omega
      | cons s r => rw [meetR_ok (by omega) hA]; rfl)
    obtain ⟨b, off, a1, a2, a3, a4, rfl, hb, hy, d0, d1, d2, d3⟩ := HS.out.at_ h0 HB1.out
    have HY := Lib.hid hy
    have HT := Lib.hid (HS.out.tail h0 hc)
    clear hA hy
    simp only [Nat.zero_mul, Nat.add_zero] at d0 d1 d2 d3
    have HO1 := Lib.hid (show Bk (w1.alloc (.cells #[.int .i64 a1, .int .i64 a2, .int .i64 a3, .int .i64 a4] 28)) w1.heap.size (a1, a2, a3, a4) from Bk.new w1 (a1, a2, a3, a4))
    have HK2 := Lib.hid (HK1.out.next ((Below.refl _ _).alloc (Nat.le_refl _) (.cells #[.int .i64 a1, .int .i64 a2, .int .i64 a3, .int .i64 a4] 28)))
    have HB2 := Lib.hid (HB1.out.alloc (by omega) (.cells #[.int .i64 a1, .int .i64 a2, .int .i64 a3, .int .i64 a4] 28))
    have hv0 := (sval_bd (HV.out _ (getD_mem (l := l) (k := 0) (by rw [HL.out]; exact h0)))).2.1
    rw [HY.out] at hv0
    have HST := Lib.hid (show MeetRel l w (w1.alloc (.cells #[.int .i64 a1, .int .i64 a2, .int .i64 a3, .int .i64 a4] 28)) w1.heap.size (.int .i64 0) (a1, a2, a3, a4) 0 from ⟨by rw [HL.out]; omega, rfl, HO1.out, HK2.out, hv0, by rw [HY.out], HB2.out⟩)
    go_wp2_with fail
    obtain ⟨m, hm⟩ : ∃ m, n - 1 = m := ⟨_, rfl⟩
    rw [hm]
    clear hv0 HO1 HK2 HB2
    go_loopw [31] (fun v wr => ∃ k o, MeetRel l w wr w1.heap.size v o k) (fun v _ => m - (intOf v).toNat)
    case atStart => exact ⟨_, _, HST.out⟩
    case round =>
      clear HST d0 d1 d2 d3
      obtain ⟨k, o, hk, rfl, hout, hres, hval, heq, hbel⟩ := hrel
      rw [HL.out] at hk
      have HB := Lib.hid hbel
      have HRS := Lib.hid hres
      have HOU := Lib.hid hout
      have HVL := Lib.hid hval
      have HE := Lib.hid heq
      have hsr := hbel.size
      have hol := hout.lt
      clear hres hout hval heq
      by_cases hlt : k < m
      · obtain ⟨b', off', x1, x2, x3, x4, hbo, hb', hy', d0, d1, d2, d3⟩ := HS.out.at_ (k := k + 1) (by omega) hbel
        injection hbo with hbo
        injection hbo with hbo1 hbo2
        subst hbo1 hbo2
        rw [show off + (k + 1) * 4 = off + 4 + k * 4 by omega] at d0 d1 d2 d3
        have HY' := Lib.hid hy'
        have hvx := HV.out _ (getD_mem (l := l) (k := k + 1) (by rw [HL.out]; omega))
        rw [hy'] at hvx
        have HVX := Lib.hid hvx
        obtain ⟨o1, o2, o3, o4⟩ := o
        have HX1 := Lib.hid (show Bk (wr.alloc (.cells #[.int .i64 x1, .int .i64 x2, .int .i64 x3, .int .i64 x4] 28)) wr.heap.size (x1, x2, x3, x4) from Bk.new wr (x1, x2, x3, x4))
        have HA1 := Lib.hid ((Below.refl wr.heap.size wr).alloc (Nat.le_refl _) (.cells #[.int .i64 x1, .int .i64 x2, .int .i64 x3, .int .i64 x4] 28))
        have HC1 := Lib.hid (at2 (HM.out o1 o2 x1 x2) (HG.out.below (HB.out.trans (HA1.out.mono hsr))))
        obtain ⟨⟨p0, p1, p2, p3⟩, f0, f1, f2, f3⟩ := HOU.out.keep
        clear hbel hy' hvx
        unfold pairV at HC1
        go_wp2_with fail
        refine HC1.out.mono ?_
        rintro e w2 ⟨rfl, hb2⟩
        obtain ⟨h1', h2', he', hh⟩ : ∃ h1 h2 he, ameetR o1 o2 x1 x2 = (h1, h2, he) := ⟨_, _, _, rfl⟩
        have HH := Lib.hid hh
        rw [hh]
        have HA3 := Lib.hid ((HA1.out.trans (hb2.mono (by simp))).alloc (Nat.le_trans (by simp) hb2.size) (.cells #[.int .i64 h1', .int .i64 h2'] 23))
        have hs3 := HA3.out.size
        have hs2 := hb2.size
        simp at hs2 hs3
        have HX3 := Lib.hid ((HX1.out.next hb2).next ((Below.refl _ _).alloc (Nat.le_refl _) (.cells #[.int .i64 h1', .int .i64 h2'] 23)))
        have hAr : (w2.alloc (.cells #[.int .i64 h1', .int .i64 h2'] 23)).heap[w2.heap.size]? = some (.cells #[.int .i64 h1', .int .i64 h2'] 23 (0, 0)) := heap_alloc_new w2 _
        have HAr := Lib.hid hAr
        have HC3 := Lib.hid (at2 (HD.out o3 o4 x3 x4 HVL.out (sval_bd HVX.out).2.1 (by have := sval_bd HVX.out; dsimp only at this; omega)) (HG.out.below (HB.out.trans (HA3.out.mono hsr))))
        obtain ⟨⟨p0, p1, p2, p3⟩, f0, f1, f2, f3⟩ := (HOU.out.next HA3.out).keep
        obtain ⟨⟨q0, q1, q2, q3⟩, g0, g1, g2, g3⟩ := HX3.out.keep
        clear hb2 hh hAr HC1
        unfold pairV at HC3
        unfold arcV pairV
        go_wp2_with fail
        refine HC3.out.mono ?_
        rintro e w4 ⟨rfl, hb4⟩
        obtain ⟨z1, z2, ze, hz⟩ : ∃ z1 z2 ze, dirsR o3 o4 x3 x4 = (z1, z2, ze) := ⟨_, _, _, rfl⟩
        have HZ := Lib.hid hz
        rw [hz]
        have hs4 := hb4.size
        simp at hs4
        have HA5 := Lib.hid ((HA3.out.trans (hb4.mono (by simp; omega))).alloc (by omega) (.cells #[.int .i64 z1, .int .i64 z2] 23))
        have HAZ := Lib.hid (show (w4.alloc (.cells #[.int .i64 z1, .int .i64 z2] 23)).heap[w4.heap.size]? = some (.cells #[.int .i64 z1, .int .i64 z2] 23 (0, 0)) from heap_alloc_new w4 _)
        have HAR5 := Lib.hid (show (w4.alloc (.cells #[.int .i64 z1, .int .i64 z2] 23)).heap[w2.heap.size]? = some (.cells #[.int .i64 h1', .int .i64 h2'] 23 (0, 0)) from ((hb4.alloc (by simp; omega) (.cells #[.int .i64 z1, .int .i64 z2] 23)).block _ (by simp)).trans HAr.out)
        have HOU5 := Lib.hid (HOU.out.next HA5.out)
        have HRS5 := Lib.hid (HRS.out.next HA5.out)
        have HB5 := Lib.hid (HB.out.trans (HA5.out.mono (by omega)))
        clear hb4 hz HC3 p0 p1 p2 p3 f0 f1 f2 f3 q0 q1 q2 q3 g0 g1 g2 g3 d0 d1 d2 d3
        obtain ⟨⟨p0, p1⟩, f0, f1⟩ := box2 (Below.refl (w4.heap.size + 1) _) (b := w4.heap.size) (by omega) HAZ.out
        obtain ⟨⟨q0, q1⟩, g0, g1⟩ := box2 (Below.refl (w4.heap.size + 1) _) (b := w2.heap.size) (by omega) HAR5.out
        have HDR := Lib.hid (show l.drop (k + 1) = (x1, x2, x3, x4) :: l.drop (k + 2) by
          rw [List.drop_eq_getElem_cons (by rw [HL.out]; omega)]
          congr 1
          have := HY'.out
          rw [List.getD_eq_getElem?_getD, List.getElem?_eq_getElem (by rw [HL.out]; omega)] at this
          exact this)
        by_cases hok : he' = 0 ∧ ze = 0
        · obtain ⟨rfl, rfl⟩ := hok
          have hmo : meetO (o1, o2, o3, o4) (x1, x2, x3, x4) = some (h1', h2', z1, z2) := by
            unfold meetO
            dsimp only
            rw [HH.out, HZ.out]
            rfl
          have HST := Lib.hid (show ∀ wf, Bk wf w1.heap.size (h1', h2', z1, z2) → Bk wf w.heap.size nos → Below w.heap.size w wf → MeetRel l w wf w1.heap.size (.int .i64 ((k : Int) + 1)) (h1', h2', z1, z2) (k + 1) from fun wf i1 i2 i3 => ⟨by rw [HL.out]; omega, rfl, i1, i2, meetO_valid HTV.out HVL.out HVX.out hmo, by rw [HE.out, HDR.out]; simp only [meetF]; rw [hmo], i3⟩)
          obtain ⟨⟨r0, r1, r2, r3⟩, l0, l1, l2, l3⟩ := HOU5.out.keep
          have HF1 := Lib.hid (HOU5.out.write (h1', h2', z1, z2))
          have HF2 := Lib.hid (HRS5.out.other (b' := w1.heap.size) (by omega) (.int .i64 h1') (.int .i64 h2') (.int .i64 z1) (.int .i64 z2))
          have HF3 := Lib.hid (Below.set4 HB5.out (b := w1.heap.size) (by omega) (.int .i64 h1') (.int .i64 h2') (.int .i64 z1) (.int .i64 z2))
          clear hmo
          unfold arcV pairV
          go_wp2
          go_roundw
          case rel => exact ⟨_, _, HST.out _ HF1.out HF2.out HF3.out⟩
          case measure => simp [intOf]; omega
        · have hmo : meetO (o1, o2, o3, o4) (x1, x2, x3, x4) = none := by
            unfold meetO
            dsimp only
            rw [HH.out, HZ.out]
            exact if_neg hok
          have HF := Lib.hid (show ∀ w', Below w.heap.size w w' → GP (solV (meetR l)) w (.returned (.tuple #[.agg #[.int .i64 0, .int .i64 0, .int .i64 0, .int .i64 0], .int .i64 23])) w' from fun w' hb => ⟨by
            rw [HR.out, HE.out, HDR.out]; simp only [meetF]; rw [hmo]; rfl, hb⟩)
          obtain ⟨⟨r0, r1, r2, r3⟩, l0, l1, l2, l3⟩ := HRS5.out.keep
          have hbn : (he' != 0 || ze != 0) = true := by
            by_cases e : he' = 0
            · have : ze ≠ 0 := fun e2 => hok ⟨e, e2⟩
              simp [e, this]
            · simp [e]
          clear hmo
          unfold arcV pairV
          by_cases e : he' = 0
          · have hz0 : (ze != 0) = true := by simpa [e] using hbn
            subst e
            clear hbn hok
            go_wp2
            refine bodyPost_ret (v := .tuple #[.agg #[.int .i64 0, .int .i64 0, .int .i64 0, .int .i64 0], .int .i64 23]) (by simp [results, Tryz.results19, go_sem, r0, r1, r2, r3]) rfl (HF.out _ ?_)
            exact Below.set4 HB5.out (Nat.le_refl _) _ _ _ _
          · have hz0 : (he' != 0) = true := by simpa using e
            clear hbn hok
            go_wp2
            refine bodyPost_ret (v := .tuple #[.agg #[.int .i64 0, .int .i64 0, .int .i64 0, .int .i64 0], .int .i64 23]) (by simp [results, Tryz.results19, go_sem, r0, r1, r2, r3]) rfl (HF.out _ ?_)
            exact Below.set4 HB5.out (Nat.le_refl _) _ _ _ _
      · have hkm : k = m := by omega
        subst hkm
        have HDR := Lib.hid (show l.drop (k + 1) = [] from List.drop_eq_nil_of_le (by rw [HL.out]; omega))
        obtain ⟨o1, o2, o3, o4⟩ := o
        have HF := Lib.hid (show ∀ w', Below w.heap.size w w' → GP (solV (meetR l)) w (.returned (.tuple #[.agg #[.int .i64 o1, .int .i64 o2, .int .i64 o3, .int .i64 o4], .int .i64 0])) w' from fun w' hb => ⟨by
          rw [HR.out, HE.out, HDR.out]; rfl, hb⟩)
        obtain ⟨⟨p0, p1, p2, p3⟩, f0, f1, f2, f3⟩ := HOU.out.keep
        obtain ⟨⟨r0, r1, r2, r3⟩, l0, l1, l2, l3⟩ := HRS.out.keep
        dsimp only at p0 p1 p2 p3
        go_wp2
        refine bodyPost_ret (v := .tuple #[.agg #[.int .i64 o1, .int .i64 o2, .int .i64 o3, .int .i64 o4], .int .i64 0]) (by simp [results, Tryz.results19, go_sem, r0, r1, r2, r3]) rfl (HF.out _ ?_)
        exact Below.set4 HB.out (Nat.le_refl _) _ _ _ _

set_option maxHeartbeats 2000000 in
theorem meet_one (hm : ∀ a b c d, Gives Tryz.prog 28 [pairV a b, pairV c d] (arcV (ameetR a b c d))) (hf : ∀ a b c d : Int, Gives Tryz.prog 50 [.agg #[.int .i64 a, .int .i64 b, .int .i64 c, .int .i64 d]] (.bool (!svalB (a, b, c, d))))
    (hd : ∀ a b c d, avalidB a b = true → avalidB c d = true → (-500000000000 ≤ c ∧ d ≤ 500000000000) → Gives Tryz.prog 52 [pairV a b, pairV c d] (arcV (dirsR a b c d)))
    (htv : ∀ a b, avalidB a b = true → (turnR a b).2.2 = 0 → avalidB (turnR a b).1 (turnR a b).2.1 = true)
    (A : Option Addr) (l : List Sol) (w : World) (hg : Glob w) (h : Sols w A 1 l) :
    Calls Tryz.prog 19 #[.slice A 1 1] w (GP (solV (meetR l)) w) := by
  have HL := Lib.hid h.len
  have HS := Lib.hid h
  have HM := Lib.hid hm
  have HD := Lib.hid hd
  have HTV := Lib.hid htv
  have HB0 := Lib.hid ((Below.refl w.heap.size w).alloc (Nat.le_refl _) (.cells #[.int .i64 0, .int .i64 0, .int .i64 0, .int .i64 0] 28))
  have HK0 := Lib.hid (Bk.new w nos)
  have HG := Lib.hid hg
  have HC := Lib.hid (contains_50 hf A 1 1 l _ (hg.below HB0.out) (h.below HB0.out (Nat.le_refl _)))
  have h0 : 0 < 1 := by omega
  have hc : 1 ≤ 1 := by omega
  clear h hm hd htv hf hg
  go_enter Tryz.func19, Tryz.ntmps19
  go_wp2_with fail
  refine HC.out.mono ?_
  rintro e w1 ⟨rfl, hb1⟩
  have HB1 := Lib.hid (HB0.out.trans (hb1.mono (by simp)))
  have HK1 := Lib.hid (HK0.out.next hb1)
  have hs1 := hb1.size
  simp at hs1
  clear hb1
  cases hA : l.any (fun s => !svalB s) with
  | true =>
    have HF := Lib.hid (show ∀ w', Below w.heap.size w w' → GP (solV (meetR l)) w (.returned (.tuple #[.agg #[.int .i64 0, .int .i64 0, .int .i64 0, .int .i64 0], .int .i64 1])) w' from fun w' hb => ⟨by
      have := HL.out
      cases l with
      | nil => simp at this
      | cons s r => rw [meetR_bad (by omega) hA]; rfl, hb⟩)
    obtain ⟨⟨r0, r1, r2, r3⟩, l0, l1, l2, l3⟩ := HK1.out.keep
    clear hA
    go_wp2
    refine bodyPost_ret (v := .tuple #[.agg #[.int .i64 0, .int .i64 0, .int .i64 0, .int .i64 0], .int .i64 1]) (by simp [results, Tryz.results19, go_sem, r0, r1, r2, r3]) rfl (HF.out _ ?_)
    exact Below.set4 HB1.out (Nat.le_refl _) _ _ _ _
  | false =>
    have HV := Lib.hid (show ∀ s ∈ l, svalB s = true from fun s hs => by
      rw [List.any_eq_false] at hA
      have := hA s hs
      simpa using this)
    have HR := Lib.hid (show meetR l = match meetF (l.getD 0 nos) (l.drop 1) with
      | none => (0, 0, 0, 0, 23)
      | some x => (x.1, x.2.1, x.2.2.1, x.2.2.2, 0) by
      have := HL.out
      cases l with
      | nil => simp at this
      | cons s r => rw [meetR_ok (by omega) hA]; rfl)
    obtain ⟨b, off, a1, a2, a3, a4, rfl, hb, hy, d0, d1, d2, d3⟩ := HS.out.at_ h0 HB1.out
    have HY := Lib.hid hy
    have HT := Lib.hid (HS.out.tail h0 hc)
    clear hA hy
    simp only [Nat.zero_mul, Nat.add_zero] at d0 d1 d2 d3
    have HO1 := Lib.hid (show Bk (w1.alloc (.cells #[.int .i64 a1, .int .i64 a2, .int .i64 a3, .int .i64 a4] 28)) w1.heap.size (a1, a2, a3, a4) from Bk.new w1 (a1, a2, a3, a4))
    have HK2 := Lib.hid (HK1.out.next ((Below.refl _ _).alloc (Nat.le_refl _) (.cells #[.int .i64 a1, .int .i64 a2, .int .i64 a3, .int .i64 a4] 28)))
    have HB2 := Lib.hid (HB1.out.alloc (by omega) (.cells #[.int .i64 a1, .int .i64 a2, .int .i64 a3, .int .i64 a4] 28))
    have hv0 := (sval_bd (HV.out _ (getD_mem (l := l) (k := 0) (by rw [HL.out]; exact h0)))).2.1
    rw [HY.out] at hv0
    have HST := Lib.hid (show MeetRel l w (w1.alloc (.cells #[.int .i64 a1, .int .i64 a2, .int .i64 a3, .int .i64 a4] 28)) w1.heap.size (.int .i64 0) (a1, a2, a3, a4) 0 from ⟨by rw [HL.out]; omega, rfl, HO1.out, HK2.out, hv0, by rw [HY.out], HB2.out⟩)
    go_wp2_with fail
    clear hv0 HO1 HK2 HB2
    go_loopw [31] (fun v wr => ∃ o, MeetRel l w wr w1.heap.size v o 0) (fun _ _ => 0)
    case atStart => exact ⟨_, HST.out⟩
    case round =>
      clear HST d0 d1 d2 d3
      obtain ⟨o, hk, rfl, hout, hres, hval, heq, hbel⟩ := hrel
      have HB := Lib.hid hbel
      have HRS := Lib.hid hres
      have HOU := Lib.hid hout
      have HVL := Lib.hid hval
      have HE := Lib.hid heq
      have hsr := hbel.size
      have hol := hout.lt
      clear hres hout hval heq
      have HDR := Lib.hid (show l.drop (0 + 1) = [] from List.drop_eq_nil_of_le (by rw [HL.out]; omega))
      obtain ⟨o1, o2, o3, o4⟩ := o
      have HF := Lib.hid (show ∀ w', Below w.heap.size w w' → GP (solV (meetR l)) w (.returned (.tuple #[.agg #[.int .i64 o1, .int .i64 o2, .int .i64 o3, .int .i64 o4], .int .i64 0])) w' from fun w' hb => ⟨by
        rw [HR.out, HE.out, HDR.out]; rfl, hb⟩)
      obtain ⟨⟨p0, p1, p2, p3⟩, f0, f1, f2, f3⟩ := HOU.out.keep
      obtain ⟨⟨r0, r1, r2, r3⟩, l0, l1, l2, l3⟩ := HRS.out.keep
      dsimp only at p0 p1 p2 p3
      go_wp2
      refine bodyPost_ret (v := .tuple #[.agg #[.int .i64 o1, .int .i64 o2, .int .i64 o3, .int .i64 o4], .int .i64 0]) (by simp [results, Tryz.results19, go_sem, r0, r1, r2, r3]) rfl (HF.out _ ?_)
      exact Below.set4 HB.out (Nat.le_refl _) _ _ _ _
theorem meet_any (hm : ∀ a b c d, Gives Tryz.prog 28 [pairV a b, pairV c d] (arcV (ameetR a b c d))) (hf : ∀ a b c d : Int, Gives Tryz.prog 50 [.agg #[.int .i64 a, .int .i64 b, .int .i64 c, .int .i64 d]] (.bool (!svalB (a, b, c, d))))
    (hd : ∀ a b c d, avalidB a b = true → avalidB c d = true → (-500000000000 ≤ c ∧ d ≤ 500000000000) → Gives Tryz.prog 52 [pairV a b, pairV c d] (arcV (dirsR a b c d)))
    (htv : ∀ a b, avalidB a b = true → (turnR a b).2.2 = 0 → avalidB (turnR a b).1 (turnR a b).2.1 = true)
    (A : Option Addr) (n c : Nat) (l : List Sol) (w : World) (hg : Glob w) (h : Sols w A n l) (hc : n ≤ c) (hc' : c ≤ 9223372036854775807) :
    Calls Tryz.prog 19 #[.slice A n c] w (GP (solV (meetR l)) w) := by
  by_cases h0 : n = 0 ∨ 1000 < n
  · exact meet_early A n c l w h h0
  · by_cases h1 : c = 1
    · have hn1 : n = 1 := by omega
      subst hn1 h1
      exact meet_one hm hf hd htv A l w hg h
    · exact meet_main hm hf hd htv A n c l w hg h hc hc' (by omega) (by omega) h1

def MethPost (w : World) (e : Ending) (w' : World) : Prop := ∃ g, e = .returned (.slice (some ⟨g, 0, none⟩) 5 5) ∧ w.heap.size ≤ g ∧ w'.heap[g]? = some (.cells #[.int .i64 1, .int .i64 2, .int .i64 3, .int .i64 4, .int .i64 5] 3 (0, 0)) ∧ Below w.heap.size w w'
theorem meth_any (w : World) : Calls Tryz.prog 30 #[] w (MethPost w) := by
  have HF := Lib.hid (show MethPost w (.returned (.slice (some ⟨w.heap.size, 0, none⟩) 5 5)) (w.alloc (.cells #[.int .i64 1, .int .i64 2, .int .i64 3, .int .i64 4, .int .i64 5] 3)) from ⟨_, rfl, Nat.le_refl _, heap_alloc_new w _, (Below.refl _ _).alloc (Nat.le_refl _) _⟩)
  go_enter Tryz.func30, Tryz.ntmps30
  go_wp2
  go_ret
  exact HF.out
def flatS (l : List Sol) : List Value := l.flatMap fun s => [.int .i64 s.1, .int .i64 s.2.1, .int .i64 s.2.2.1, .int .i64 s.2.2.2]
theorem flatS_len (l : List Sol) : (flatS l).length = l.length * 4 := by
  induction l with
  | nil => rfl
  | cons p l ih => rw [flatS, List.flatMap_cons, List.length_append]; rw [flatS] at ih; rw [ih]; simp; omega
theorem flatS_snoc (l : List Sol) (s : Sol) : flatS (l ++ [s]) = flatS l ++ [.int .i64 s.1, .int .i64 s.2.1, .int .i64 s.2.2.1, .int .i64 s.2.2.2] := by simp [flatS]
theorem flatS_at (l : List Sol) : ∀ (i : Nat), i < l.length → (flatS l)[i * 4]? = some (.int .i64 (l.getD i nos).1) ∧ (flatS l)[i * 4 + 1]? = some (.int .i64 (l.getD i nos).2.1) ∧ (flatS l)[i * 4 + 2]? = some (.int .i64 (l.getD i nos).2.2.1) ∧ (flatS l)[i * 4 + 3]? = some (.int .i64 (l.getD i nos).2.2.2) := by
  induction l with
  | nil => intro i h; exact absurd h (by simp)
  | cons s l ih =>
    intro i h
    have e : flatS (s :: l) = .int .i64 s.1 :: .int .i64 s.2.1 :: .int .i64 s.2.2.1 :: .int .i64 s.2.2.2 :: flatS l := by simp [flatS]
    rw [e]
    cases i with
    | zero => simp
    | succ i =>
      have := ih i (by simpa using h)
      rw [show (i + 1) * 4 = i * 4 + 1 + 1 + 1 + 1 by omega, show i * 4 + 1 + 1 + 1 + 1 + 1 = (i * 4 + 1) + 1 + 1 + 1 + 1 by omega, show i * 4 + 1 + 1 + 1 + 1 + 2 = (i * 4 + 2) + 1 + 1 + 1 + 1 by omega, show i * 4 + 1 + 1 + 1 + 1 + 3 = (i * 4 + 3) + 1 + 1 + 1 + 1 by omega]
      simpa using this
/-- What a row of solutions reads as. -/
theorem sols_of {w : World} {B n : Nat} {A : Option Addr} {c : Nat} {l : List Sol} (h : w.ownsRow B 28 4 (.slice A n c) n (flatS l)) (hn : n ≤ 9223372036854775807) : Sols w A n l := by
  have hl : l.length = n := by have := h.1; rw [flatS_len] at this; omega
  refine ⟨hl, hn, fun h0 => ?_⟩
  obtain ⟨g, cap, hv, _, hlt⟩ := h.form h0
  injection hv with hA _ _
  subst hA
  refine ⟨g, 0, rfl, hlt, fun i hi => ?_⟩
  have cc := h.cells (g := g) rfl
  obtain ⟨f0, f1, f2, f3⟩ := flatS_at l i (by omega)
  have ad : ∀ j, (⟨g, 0, none⟩ : Addr).add j = ⟨g, 0 + j, none⟩ := fun j => by unfold Addr.add; split <;> simp_all
  have e0 := cc _ _ f0
  have e1 := cc _ _ f1
  have e2 := cc _ _ f2
  have e3 := cc _ _ f3
  rw [ad] at e0 e1 e2 e3
  exact ⟨e0, by rw [Nat.add_assoc]; exact e1, by rw [Nat.add_assoc]; exact e2, by rw [Nat.add_assoc]; exact e3⟩
def triP (a b c d e f : Int) : Value := .agg ⟨[.int .i64 a, .int .i64 b, .int .i64 c, .int .i64 d, .int .i64 e, .int .i64 f]⟩
def AllPost (l : List Sol) (w : World) (e : Ending) (w' : World) : Prop := ∃ A c, e = .returned (.tuple #[.slice A l.length c, .int .i64 0]) ∧ w'.ownsRow w.heap.size 28 4 (.slice A l.length c) l.length (flatS l) ∧ Below w.heap.size w w'
def NoAllPost (w : World) (e : Ending) (w' : World) : Prop := e = .returned (.tuple #[.slice none 0 0, .int .i64 1]) ∧ Below w.heap.size w w'
theorem sol_info : (Tryz.prog.info? 28).map (fun i => (i.zero, i.size, i.bytes)) = some (some (.agg #[.int .i64 0, .int .i64 0, .int .i64 0, .int .i64 0]), 4, 32) := by kernel_rfl
/-- A box of a triangle. -/
def Tk (w : World) (k : Nat) (a b c d e f : Int) : Prop := w.heap[k]? = some (.cells #[.int .i64 a, .int .i64 b, .int .i64 c, .int .i64 d, .int .i64 e, .int .i64 f] 25 (0, 0))
theorem Tk.keep {w : World} {k : Nat} {a b c d e f : Int} (h : Tk w k a b c d e f) :
    w.cell? ⟨k, 0, none⟩ = some (.int .i64 a) ∧ w.cell? ⟨k, 1, none⟩ = some (.int .i64 b) ∧ w.cell? ⟨k, 2, none⟩ = some (.int .i64 c) ∧ w.cell? ⟨k, 3, none⟩ = some (.int .i64 d) ∧ w.cell? ⟨k, 4, none⟩ = some (.int .i64 e) ∧ w.cell? ⟨k, 5, none⟩ = some (.int .i64 f) := by
  unfold Tk at h
  refine ⟨?_, ?_, ?_, ?_, ?_, ?_⟩ <;> simp [World.cell?, h]
theorem Tk.lt {w : World} {k : Nat} {a b c d e f : Int} (h : Tk w k a b c d e f) : k < w.heap.size := (Array.getElem?_eq_some_iff.1 h).1
theorem Tk.below {w w' : World} {k B : Nat} {a b c d e f : Int} (h : Tk w k a b c d e f) (hb : Below B w w') (hB : k < B) : Tk w' k a b c d e f := (hb.block k hB).trans h
theorem meth_at {w : World} {g : Nat} (h : w.heap[g]? = some (.cells #[.int .i64 1, .int .i64 2, .int .i64 3, .int .i64 4, .int .i64 5] 3 (0, 0))) (i : Nat) (hi : i < 5) : w.cell? ⟨g, i, none⟩ = some (.int .i64 ((i : Int) + 1)) := by
  rw [cell_of_row w g i _ _ _ h]
  have : i = 0 ∨ i = 1 ∨ i = 2 ∨ i = 3 ∨ i = 4 := by omega
  rcases this with rfl | rfl | rfl | rfl | rfl <;> rfl
theorem own_mono2 {w : World} {base base' e size n : Nat} {v : Value} {xs : List Value} (h : w.ownsRow base e size v n xs) (hb : base' ≤ base) : w.ownsRow base' e size v n xs :=
  ⟨h.1, h.2.imp_right fun ⟨g, cap, cur, hv, hg, r⟩ => ⟨g, cap, cur, hv, Nat.le_trans hb hg, r⟩⟩
theorem four_new (w : World) (o : Obj) (x1 x2 x3 x4 : Int) : ∀ j u, [Value.int .i64 x1, .int .i64 x2, .int .i64 x3, .int .i64 x4][j]? = some u → ((w.alloc o).alloc (.cells #[.int .i64 x1, .int .i64 x2, .int .i64 x3, .int .i64 x4] 28)).cell? ((⟨w.heap.size + 1, 0, none⟩ : Addr).add j) = some u := by
  have hb : ((w.alloc o).alloc (.cells #[.int .i64 x1, .int .i64 x2, .int .i64 x3, .int .i64 x4] 28)).heap[w.heap.size + 1]? = some (.cells #[.int .i64 x1, .int .i64 x2, .int .i64 x3, .int .i64 x4] 28) := by
    have := heap_alloc_new (w.alloc o) (.cells #[.int .i64 x1, .int .i64 x2, .int .i64 x3, .int .i64 x4] 28)
    simpa using this
  exact World.news_of_block hb
structure AllRel (by_ : Int → Int × Int × Int × Int × Int) (W wr : World) (B : Nat) (v4 v14 : Value) (i : Nat) : Prop where
  le : i ≤ 5
  num : v14 = .int .i64 (i : Int)
  own : wr.ownsRow B 28 4 v4 (allI by_ i).length (flatS (allI by_ i))
  below : Below B W wr
set_option maxHeartbeats 2000000 in
theorem all_yes {by_ : Int → Int × Int × Int × Int × Int} {a b c d e f : Int} (hv : Gives Tryz.prog 48 [triP a b c d e f] (.bool true)) (hby : ∀ m, 1 ≤ m → m ≤ 5 → Gives Tryz.prog 11 [.int .i64 m, triP a b c d e f] (solV (by_ m))) (w : World) (hg : Glob w) :
    Calls Tryz.prog 13 #[triP a b c d e f] w (AllPost (allI by_ 5) w) := by
  have HBY := Lib.hid hby
  have HG := Lib.hid hg
  have HB0 := Lib.hid ((Below.refl w.heap.size w).alloc (Nat.le_refl _) (.cells ⟨[.int .i64 a, .int .i64 b, .int .i64 c, .int .i64 d, .int .i64 e, .int .i64 f]⟩ 25))
  have HK0 := Lib.hid (show Tk (w.alloc (.cells ⟨[.int .i64 a, .int .i64 b, .int .i64 c, .int .i64 d, .int .i64 e, .int .i64 f]⟩ 25)) w.heap.size a b c d e f from heap_alloc_new w _)
  have HV := Lib.hid (at1 hv (hg.below HB0.out))
  clear hv hby hg
  unfold triP at HV ⊢
  obtain ⟨p0, p1, p2, p3, p4, p5⟩ := HK0.out.keep
  go_enter Tryz.func13, Tryz.ntmps13
  go_wp2_with fail
  refine HV.out.mono ?_
  rintro e w1 ⟨rfl, hb1⟩
  have HB1 := Lib.hid (HB0.out.trans (hb1.mono (by simp)))
  have HK1 := Lib.hid (HK0.out.below hb1 (by simp))
  clear hb1 p0 p1 p2 p3 p4 p5 HV
  go_wp2_with fail
  refine (meth_any w1).mono ?_
  rintro e w2 ⟨g, rfl, hg1, hm, hb2⟩
  have hs1 := HB1.out.size
  have hs2 := hb2.size
  have hg2 : g < w2.heap.size := (Array.getElem?_eq_some_iff.1 hm).1
  have HB2 := Lib.hid (HB1.out.trans (hb2.mono hs1))
  have HK2 := Lib.hid (HK1.out.below hb2 HK1.out.lt)
  have HM := Lib.hid hm
  clear hb2 hm
  have HST := Lib.hid (show AllRel by_ w2 w2 w2.heap.size (.slice none 0 0) (.int .i64 0) 0 from ⟨by omega, rfl, by simpa [allI, flatS] using World.ownsRow_nil w2 w2.heap.size 28 4, Below.refl _ _⟩)
  go_wp2_with fail
  go_loopw [4, 14] (fun v4 v14 wr => ∃ i, AllRel by_ w2 wr w2.heap.size v4 v14 i) (fun _ v _ => 5 - (intOf v).toNat)
  case atStart => exact ⟨_, HST.out⟩
  case round =>
    clear HST
    obtain ⟨i, hi, rfl, hown, hbel⟩ := hrel
    have HB := Lib.hid hbel
    have HO := Lib.hid hown
    have hsr := hbel.size
    clear hown
    by_cases hlt : i < 5
    · obtain ⟨p0, p1, p2, p3, p4, p5⟩ := (HK2.out.below hbel HK2.out.lt).keep
      have c0 := meth_at ((hbel.block g hg2).trans HM.out) i hlt
      have HBW := Lib.hid (HB2.out.trans (hbel.mono HB2.out.size))
      have HC := Lib.hid (at2 (HBY.out ((i : Int) + 1) (by omega) (by omega)) (HG.out.below HBW.out))
      have HS := Lib.hid (allI_succ by_ i)
      clear hbel
      unfold triP at HC
      go_wp2_with fail
      refine HC.out.mono ?_
      rintro e w3 ⟨rfl, hb3⟩
      obtain ⟨x1, x2, x3, x4, xe, hx⟩ : ∃ x1 x2 x3 x4 xe, by_ ((i : Int) + 1) = (x1, x2, x3, x4, xe) := ⟨_, _, _, _, _, rfl⟩
      rw [hx]
      rw [hx] at HS
      have hs3 := hb3.size
      have HB3 := Lib.hid ((HB.out.trans (hb3.mono hsr)).alloc (by omega) (.cells #[.int .i64 x1, .int .i64 x2, .int .i64 x3, .int .i64 x4] 28))
      have HO3 := Lib.hid ((own_below2 HO.out hb3).alloc (.cells #[.int .i64 x1, .int .i64 x2, .int .i64 x3, .int .i64 x4] 28))
      clear hb3 hx HC p0 p1 p2 p3 p4 p5 c0
      unfold solV
      by_cases hxe : xe = 0
      · subst hxe
        rw [show okS (x1, x2, x3, x4, 0) = some (x1, x2, x3, x4) from rfl] at HS
        have HO4 := Lib.hid (HO3.out.alloc (.cells #[.int .i64 x1, .int .i64 x2, .int .i64 x3, .int .i64 x4] 28))
        have HB4 := Lib.hid (HB3.out.alloc (by simp; omega) (.cells #[.int .i64 x1, .int .i64 x2, .int .i64 x3, .int .i64 x4] 28))
        obtain ⟨i0, hi0, hz0, hz1, hz2⟩ := info_parts sol_info
        go_wp2_with (at_builtin; refine wpList_append_own _ rfl (.tmp 26) (.tmp 28) 35 rfl w2.heap.size 28 i0 (.agg #[.int .i64 0, .int .i64 0, .int .i64 0, .int .i64 0]) 4 32 Tryz.underlying35 hi0 hz0 hz1 hz2 rfl (by decide) u4 (allI by_ i).length _ rfl HO4.out ⟨w3.heap.size + 1, 0, none⟩ 1 1 [.int .i64 x1, .int .i64 x2, .int .i64 x3, .int .i64 x4] rfl rfl ?c1 ?c2 ?c3 ?c4 ?c5 ?_)
        case c1 => exact four_new w3 _ x1 x2 x3 x4
        case c2 => intro u hu; simp at hu; rcases hu with rfl | rfl | rfl | rfl <;> rfl
        case c3 => have := allI_len by_ i; unfold maxLen; omega
        case c4 => have := allI_len by_ i; omega
        case c5 => simp; omega
        intro v' w4 hown4 hg _
        rw [← flatS_snoc _ (x1, x2, x3, x4)] at hown4
        have HB5 := Lib.hid (HB4.out.grown hg (by simp; omega) (fun q hq => (HO4.out.lt q hq).1))
        have HST := Lib.hid (show AllRel by_ w2 w4 w2.heap.size v' (.int .i64 ((i : Int) + 1)) (i + 1) from ⟨hlt, rfl, by rw [HS.out]; simpa using hown4, HB5.out⟩)
        clear hg hown4
        go_wp2
        go_roundw
        case rel => exact ⟨_, HST.out⟩
        case measure => simp [intOf]; omega
      · have he : (xe == 0) = false := beq_eq_false_iff_ne.2 hxe
        rw [show okS (x1, x2, x3, x4, xe) = none by unfold okS; rw [if_neg hxe]] at HS
        have HST := Lib.hid (show AllRel by_ w2 (w3.alloc (.cells #[.int .i64 x1, .int .i64 x2, .int .i64 x3, .int .i64 x4] 28)) w2.heap.size u4 (.int .i64 ((i : Int) + 1)) (i + 1) from ⟨hlt, rfl, by rw [HS.out]; simpa using HO3.out, HB3.out⟩)
        clear hxe
        go_wp2
        go_roundw
        case rel => exact ⟨_, HST.out⟩
        case measure => simp [intOf]; omega
    · have hi5 : i = 5 := by omega
      subst hi5
      obtain ⟨A, cp, rfl⟩ := own_slice2 HO.out
      have HF := Lib.hid (show AllPost (allI by_ 5) w (.returned (.tuple #[.slice A (allI by_ 5).length cp, .int .i64 0])) wr from ⟨A, cp, rfl, own_mono2 HO.out (by omega), HB2.out.trans (hbel.mono HB2.out.size)⟩)
      clear hbel
      go_wp2
      go_ret2
      exact HF.out
theorem all_no {a b c d e f : Int} (hv : Gives Tryz.prog 48 [triP a b c d e f] (.bool false)) (w : World) (hg : Glob w) :
    Calls Tryz.prog 13 #[triP a b c d e f] w (NoAllPost w) := by
  have HB0 := Lib.hid ((Below.refl w.heap.size w).alloc (Nat.le_refl _) (.cells ⟨[.int .i64 a, .int .i64 b, .int .i64 c, .int .i64 d, .int .i64 e, .int .i64 f]⟩ 25))
  have HK0 := Lib.hid (show Tk (w.alloc (.cells ⟨[.int .i64 a, .int .i64 b, .int .i64 c, .int .i64 d, .int .i64 e, .int .i64 f]⟩ 25)) w.heap.size a b c d e f from heap_alloc_new w _)
  have HV := Lib.hid (at1 hv (hg.below HB0.out))
  clear hv hg
  unfold triP at HV ⊢
  obtain ⟨p0, p1, p2, p3, p4, p5⟩ := HK0.out.keep
  go_enter Tryz.func13, Tryz.ntmps13
  go_wp2_with fail
  refine HV.out.mono ?_
  rintro e w1 ⟨rfl, hb1⟩
  have HF := Lib.hid (show NoAllPost w (.returned (.tuple #[.slice none 0 0, .int .i64 1])) w1 from ⟨rfl, HB0.out.trans (hb1.mono (by simp))⟩)
  clear hb1 p0 p1 p2 p3 p4 p5 HV
  go_wp2
  go_ret2
  exact HF.out

theorem own_cap {w : World} {B n c : Nat} {A : Option Addr} {e : TypeId} {size : Nat} {xs : List Value} (h : w.ownsRow B e size (.slice A n c) n xs) : n ≤ c ∧ c ≤ 9223372036854775807 := by
  rcases h.2 with ⟨hv, hn⟩ | ⟨g, cap, cur, hv, _, _, h1, h2, _⟩
  · injection hv with _ _ h3; omega
  · injection hv with _ _ h3; subst h3; unfold maxLen at h2; omega
set_option maxHeartbeats 2000000 in
theorem best_yes {a b c d e f : Int} {l : List Sol} (hl : l.length ≤ 1000) (ha : ∀ w, Glob w → Calls Tryz.prog 13 #[triP a b c d e f] w (AllPost l w)) (hm : ∀ A n c w, Glob w → Sols w A n l → n ≤ c → c ≤ 9223372036854775807 → Calls Tryz.prog 19 #[.slice A n c] w (GP (solV (meetR l)) w)) (w : World) (hg : Glob w) :
    Calls Tryz.prog 14 #[triP a b c d e f] w (GP (solV (meetR l)) w) := by
  have HG := Lib.hid hg
  have HMT := Lib.hid hm
  have HL := Lib.hid hl
  have HB0 := Lib.hid (((Below.refl w.heap.size w).alloc (Nat.le_refl _) (.cells ⟨[.int .i64 a, .int .i64 b, .int .i64 c, .int .i64 d, .int .i64 e, .int .i64 f]⟩ 25)).alloc (by simp) (.cells #[.int .i64 0, .int .i64 0, .int .i64 0, .int .i64 0] 28))
  have HK0 := Lib.hid (show Bk ((w.alloc (.cells ⟨[.int .i64 a, .int .i64 b, .int .i64 c, .int .i64 d, .int .i64 e, .int .i64 f]⟩ 25)).alloc (.cells #[.int .i64 0, .int .i64 0, .int .i64 0, .int .i64 0] 28)) (w.heap.size + 1) nos by
    have := Bk.new (w.alloc (.cells ⟨[.int .i64 a, .int .i64 b, .int .i64 c, .int .i64 d, .int .i64 e, .int .i64 f]⟩ 25)) nos
    simpa [nos] using this)
  have HA := Lib.hid (ha _ (hg.below HB0.out))
  clear ha hm hg hl
  unfold triP at HA ⊢
  go_enter Tryz.func14, Tryz.ntmps14
  go_wp2_with fail
  refine HA.out.mono ?_
  rintro e w1 ⟨A, cp, rfl, hown, hb1⟩
  have HB1 := Lib.hid (HB0.out.trans (hb1.mono (by simp; omega)))
  have HK1 := Lib.hid (HK0.out.below hb1 (by simp))
  have hc := own_cap hown
  have hs1 := hb1.size
  simp at hs1
  have HM := Lib.hid (HMT.out A _ cp _ (HG.out.below HB1.out) (sols_of hown (by have := HL.out; omega)) hc.1 hc.2)
  clear hb1 hown HA hc
  go_wp2_with fail
  refine HM.out.mono ?_
  rintro e w2 ⟨rfl, hb2⟩
  have HB2 := Lib.hid (HB1.out.trans (hb2.mono HB1.out.size))
  have HK2 := HK1.out.next hb2
  obtain ⟨⟨r0, r1, r2, r3⟩, l0, l1, l2, l3⟩ := HK2.keep
  clear hb2 HK2
  obtain ⟨x1, x2, x3, x4, xe, hx⟩ : ∃ x1 x2 x3 x4 xe, meetR l = (x1, x2, x3, x4, xe) := ⟨_, _, _, _, _, rfl⟩
  have HF := Lib.hid (show ∀ w', Below w.heap.size w w' → GP (solV (meetR l)) w (.returned (.tuple #[.agg #[.int .i64 x1, .int .i64 x2, .int .i64 x3, .int .i64 x4], .int .i64 xe])) w' from fun w' hb => ⟨by rw [hx]; rfl, hb⟩)
  rw [hx]
  clear hx
  unfold solV
  go_wp2
  refine bodyPost_ret (v := .tuple #[.agg #[.int .i64 x1, .int .i64 x2, .int .i64 x3, .int .i64 x4], .int .i64 xe]) (by simp [results, Tryz.results14, go_sem, r0, r1, r2, r3]) rfl (HF.out _ ?_)
  exact Below.set4 HB2.out (by omega) _ _ _ _
theorem best_no {a b c d e f : Int} (ha : ∀ w, Glob w → Calls Tryz.prog 13 #[triP a b c d e f] w (NoAllPost w)) (w : World) (hg : Glob w) :
    Calls Tryz.prog 14 #[triP a b c d e f] w (GP (solV (0, 0, 0, 0, 1)) w) := by
  have HB0 := Lib.hid (((Below.refl w.heap.size w).alloc (Nat.le_refl _) (.cells ⟨[.int .i64 a, .int .i64 b, .int .i64 c, .int .i64 d, .int .i64 e, .int .i64 f]⟩ 25)).alloc (by simp) (.cells #[.int .i64 0, .int .i64 0, .int .i64 0, .int .i64 0] 28))
  have HK0 := Lib.hid (show Bk ((w.alloc (.cells ⟨[.int .i64 a, .int .i64 b, .int .i64 c, .int .i64 d, .int .i64 e, .int .i64 f]⟩ 25)).alloc (.cells #[.int .i64 0, .int .i64 0, .int .i64 0, .int .i64 0] 28)) (w.heap.size + 1) nos by
    have := Bk.new (w.alloc (.cells ⟨[.int .i64 a, .int .i64 b, .int .i64 c, .int .i64 d, .int .i64 e, .int .i64 f]⟩ 25)) nos
    simpa [nos] using this)
  have HA := Lib.hid (ha _ (hg.below HB0.out))
  have HF := Lib.hid (show ∀ w', Below w.heap.size w w' → GP (solV (0, 0, 0, 0, 1)) w (.returned (.tuple #[.agg #[.int .i64 0, .int .i64 0, .int .i64 0, .int .i64 0], .int .i64 1])) w' from fun w' hb => ⟨rfl, hb⟩)
  clear ha hg
  unfold triP at HA ⊢
  go_enter Tryz.func14, Tryz.ntmps14
  go_wp2_with fail
  refine HA.out.mono ?_
  rintro e w1 ⟨rfl, hb1⟩
  have HB1 := Lib.hid (HB0.out.trans (hb1.mono (by simp; omega)))
  obtain ⟨⟨r0, r1, r2, r3⟩, l0, l1, l2, l3⟩ := (HK0.out.below hb1 (by simp)).keep
  clear hb1 HA
  go_wp2
  refine bodyPost_ret (v := .tuple #[.agg #[.int .i64 0, .int .i64 0, .int .i64 0, .int .i64 0], .int .i64 1]) (by simp [results, Tryz.results14, go_sem, r0, r1, r2, r3]) rfl (HF.out _ ?_)
  exact Below.set4 HB1.out (by omega) _ _ _ _

def Met (w : World) (g : Nat) : Prop := w.heap[g]? = some (.cells #[.int .i64 1, .int .i64 2, .int .i64 3, .int .i64 4, .int .i64 5] 3 (0, 0))
def Idx5 (m : Int) (w : World) (e : Ending) (w' : World) : Prop := (∃ r : Int, e = .returned (.int .i64 r) ∧ decide (0 ≤ r) = decide (1 ≤ m ∧ m ≤ 5) ∧ -1 ≤ r ∧ r < 9223372036854775807) ∧ w = w'
set_option maxHeartbeats 400000 in
theorem idx5_any (g : Nat) (m : Int) (w : World) (h : Met w g) : Calls Tryz.prog 91 #[.slice (some ⟨g, 0, none⟩) 5 5, .int .i64 m] w (Idx5 m w) := by
  have HM := Lib.hid h
  clear h
  go_enter Tryz.func91, Tryz.ntmps91
  go_wp2
  go_loop [8] (fun i => ∃ k : Nat, k ≤ 5 ∧ i = .int .i64 k ∧ ∀ j : Nat, j < k → m ≠ (j : Int) + 1) (fun i => 5 - (intOf i).toNat)
  case atStart => exact ⟨0, Nat.zero_le _, rfl, fun j hj => absurd hj (by omega)⟩
  case round =>
    obtain ⟨k, hk, rfl, hno⟩ := hrel
    have HN := Lib.hid hno
    clear hno
    by_cases hlt : k < 5
    · have hc0 := meth_at HM.out k hlt
      by_cases hx : m = (k : Int) + 1
      · have hx1 : (m == (k : Int) + 1) = true := by simp [hx]
        have hfin : Idx5 m w (.returned (.int .i64 (k : Int))) w := ⟨⟨k, rfl, by rw [decide_eq_true (by omega), decide_eq_true (by omega)], by omega, by omega⟩, rfl⟩
        have HF := Lib.hid hfin
        clear hx hfin
        go_wp2
        go_ret
        exact HF.out
      · have hx1 : (m == (k : Int) + 1) = false := beq_eq_false_iff_ne.2 hx
        have HX := Lib.hid hx
        clear hx
        go_wp2
        go_round
        case rel =>
          refine ⟨k + 1, by omega, by go_num, fun j hj => ?_⟩
          by_cases e : j = k
          · rw [e]; exact HX.out
          · exact HN.out j (by omega)
        case measure => simp [intOf]; omega
    · have hfin : Idx5 m w (.returned (.int .i64 (-1 : Int))) w := ⟨⟨-1, rfl, by
        have hm : ¬ (1 ≤ m ∧ m ≤ 5) := fun ⟨h1, h2⟩ => HN.out (m - 1).toNat (by omega) (by omega)
        rw [decide_eq_false hm]; rfl, by omega, by omega⟩, rfl⟩
      have HF := Lib.hid hfin
      clear hfin
      go_wp2
      go_ret
      exact HF.out
theorem con5_any (g : Nat) (m : Int) (w : World) (h : Met w g) : Calls Tryz.prog 42 #[.slice (some ⟨g, 0, none⟩) 5 5, .int .i64 m] w fun e w' => e = .returned (.bool (decide (1 ≤ m ∧ m ≤ 5))) ∧ w = w' := by
  have HI := Lib.hid (idx5_any g m w h)
  clear h
  go_enter Tryz.func42, Tryz.ntmps42
  go_wp2_with fail
  refine HI.out.mono ?_
  rintro e w' ⟨⟨r, rfl, hr, _, _⟩, rfl⟩
  have HR := Lib.hid hr
  clear hr
  go_wp2
  go_ret
  rw [← HR.out]
  exact ⟨rfl, rfl⟩
def rmV : Option Sol → Value
  | none => .tuple #[.agg #[.int .i64 0, .int .i64 0, .int .i64 0, .int .i64 0], .bool false]
  | some x => .tuple #[.agg #[.int .i64 x.1, .int .i64 x.2.1, .int .i64 x.2.2.1, .int .i64 x.2.2.2], .bool true]
structure RMeetRel (rc : Int → Int → Int → Int → Int × Int × Bool) (l : List Sol) (w wr : World) (Bo : Nat) (v : Value) (o : Sol) (k : Nat) : Prop where
  le : k ≤ l.length
  pos : 0 < k
  num : v = .int .i64 (k : Int)
  out : Bk wr Bo o
  res : Bk wr w.heap.size nos
  eq : rmeetF rc (l.getD 0 nos) (l.drop 1) = rmeetF rc o (l.drop k)
  below : Below w.heap.size w wr
theorem lt_alloc (w : World) (o : Obj) : w.heap.size < (w.alloc o).heap.size := by simp
theorem pair_write {w : World} {g : Nat} {x y : Int} {t : TypeId} (h : w.heap[g]? = some (.cells #[.int .i64 x, .int .i64 y] t (0, 0))) (u v : Int) :
    ((w.setCell ⟨g, 0, none⟩ (.int .i64 u)).setCell ⟨g, 1, none⟩ (.int .i64 v)).heap[g]? = some (.cells #[.int .i64 u, .int .i64 v] t (0, 0)) := by
  simp [World.setCell, h, Array.getElem?_modify]
theorem pair_new (w : World) {x y u v : Int} (hx : x = u) (hy : y = v) : (w.alloc (.cells #[.int .i64 x, .int .i64 y] 23)).drew.heap[w.heap.size]? = some (.cells #[.int .i64 u, .int .i64 v] 23 (0, 0)) := by
  subst hx hy
  exact heap_alloc_new w _
theorem keepM {w0 W w1 : World} {b c p0 p1 p2 p3 : Nat} {v0 v1 v2 v3 v4 v5 v6 v7 : Value} (h : (W.cell? ⟨b, 0, none⟩ = some v0 ∧ W.cell? ⟨b, 1, none⟩ = some v1 ∧ W.cell? ⟨b, 2, none⟩ = some v2 ∧ W.cell? ⟨b, 3, none⟩ = some v3 ∧ W.cell? ⟨c, p0, none⟩ = some v4 ∧ W.cell? ⟨c, p1, none⟩ = some v5 ∧ W.cell? ⟨c, p2, none⟩ = some v6 ∧ W.cell? ⟨c, p3, none⟩ = some v7) ∧ Below w0.heap.size w0 W) (hb : Below W.heap.size W w1) :
    (w1.cell? ⟨b, 0, none⟩ = some v0 ∧ w1.cell? ⟨b, 1, none⟩ = some v1 ∧ w1.cell? ⟨b, 2, none⟩ = some v2 ∧ w1.cell? ⟨b, 3, none⟩ = some v3 ∧ w1.cell? ⟨c, p0, none⟩ = some v4 ∧ w1.cell? ⟨c, p1, none⟩ = some v5 ∧ w1.cell? ⟨c, p2, none⟩ = some v6 ∧ w1.cell? ⟨c, p3, none⟩ = some v7) ∧ Below w0.heap.size w0 w1 := by
  obtain ⟨⟨h0, h1, h2, h3, h4, h5, h6, h7⟩, hB⟩ := h
  have hlt := World.block_lt_of_cell? W _ h0
  have hlc := World.block_lt_of_cell? W _ h4
  exact ⟨⟨(hb.cell (p := ⟨b, 0, none⟩) hlt).trans h0, (hb.cell (p := ⟨b, 1, none⟩) hlt).trans h1, (hb.cell (p := ⟨b, 2, none⟩) hlt).trans h2, (hb.cell (p := ⟨b, 3, none⟩) hlt).trans h3, (hb.cell (p := ⟨c, p0, none⟩) hlc).trans h4, (hb.cell (p := ⟨c, p1, none⟩) hlc).trans h5, (hb.cell (p := ⟨c, p2, none⟩) hlc).trans h6, (hb.cell (p := ⟨c, p3, none⟩) hlc).trans h7⟩, hB.trans (hb.mono hB.size)⟩
theorem keepMB {w0 W w1 : World} {b c p0 p1 p2 p3 : Nat} {v0 v1 v2 v3 v4 v5 v6 v7 : Value} (h1 : b < w0.heap.size) (h2 : c < w0.heap.size) (h : (W.cell? ⟨b, 0, none⟩ = some v0 ∧ W.cell? ⟨b, 1, none⟩ = some v1 ∧ W.cell? ⟨b, 2, none⟩ = some v2 ∧ W.cell? ⟨b, 3, none⟩ = some v3 ∧ W.cell? ⟨c, p0, none⟩ = some v4 ∧ W.cell? ⟨c, p1, none⟩ = some v5 ∧ W.cell? ⟨c, p2, none⟩ = some v6 ∧ W.cell? ⟨c, p3, none⟩ = some v7) ∧ Below w0.heap.size w0 W) (hb : Below w0.heap.size W w1) :
    (w1.cell? ⟨b, 0, none⟩ = some v0 ∧ w1.cell? ⟨b, 1, none⟩ = some v1 ∧ w1.cell? ⟨b, 2, none⟩ = some v2 ∧ w1.cell? ⟨b, 3, none⟩ = some v3 ∧ w1.cell? ⟨c, p0, none⟩ = some v4 ∧ w1.cell? ⟨c, p1, none⟩ = some v5 ∧ w1.cell? ⟨c, p2, none⟩ = some v6 ∧ w1.cell? ⟨c, p3, none⟩ = some v7) ∧ Below w0.heap.size w0 w1 := by
  obtain ⟨⟨g0, g1, g2, g3, g4, g5, g6, g7⟩, hB⟩ := h
  exact ⟨⟨(hb.cell (p := ⟨b, 0, none⟩) h1).trans g0, (hb.cell (p := ⟨b, 1, none⟩) h1).trans g1, (hb.cell (p := ⟨b, 2, none⟩) h1).trans g2, (hb.cell (p := ⟨b, 3, none⟩) h1).trans g3, (hb.cell (p := ⟨c, p0, none⟩) h2).trans g4, (hb.cell (p := ⟨c, p1, none⟩) h2).trans g5, (hb.cell (p := ⟨c, p2, none⟩) h2).trans g6, (hb.cell (p := ⟨c, p3, none⟩) h2).trans g7⟩, hB.trans hb⟩
theorem keepMS {w0 W : World} {b c p0 p1 p2 p3 : Nat} {v0 v1 v2 v3 v4 v5 v6 v7 : Value} (h1 : b < w0.heap.size) (h2 : c < w0.heap.size) (h : (W.cell? ⟨b, 0, none⟩ = some v0 ∧ W.cell? ⟨b, 1, none⟩ = some v1 ∧ W.cell? ⟨b, 2, none⟩ = some v2 ∧ W.cell? ⟨b, 3, none⟩ = some v3 ∧ W.cell? ⟨c, p0, none⟩ = some v4 ∧ W.cell? ⟨c, p1, none⟩ = some v5 ∧ W.cell? ⟨c, p2, none⟩ = some v6 ∧ W.cell? ⟨c, p3, none⟩ = some v7) ∧ Below w0.heap.size w0 W) (x y : Value) :
    (((W.setCell ⟨w0.heap.size, 0, none⟩ x).setCell ⟨w0.heap.size, 1, none⟩ y).cell? ⟨b, 0, none⟩ = some v0 ∧ ((W.setCell ⟨w0.heap.size, 0, none⟩ x).setCell ⟨w0.heap.size, 1, none⟩ y).cell? ⟨b, 1, none⟩ = some v1 ∧ ((W.setCell ⟨w0.heap.size, 0, none⟩ x).setCell ⟨w0.heap.size, 1, none⟩ y).cell? ⟨b, 2, none⟩ = some v2 ∧ ((W.setCell ⟨w0.heap.size, 0, none⟩ x).setCell ⟨w0.heap.size, 1, none⟩ y).cell? ⟨b, 3, none⟩ = some v3 ∧ ((W.setCell ⟨w0.heap.size, 0, none⟩ x).setCell ⟨w0.heap.size, 1, none⟩ y).cell? ⟨c, p0, none⟩ = some v4 ∧ ((W.setCell ⟨w0.heap.size, 0, none⟩ x).setCell ⟨w0.heap.size, 1, none⟩ y).cell? ⟨c, p1, none⟩ = some v5 ∧ ((W.setCell ⟨w0.heap.size, 0, none⟩ x).setCell ⟨w0.heap.size, 1, none⟩ y).cell? ⟨c, p2, none⟩ = some v6 ∧ ((W.setCell ⟨w0.heap.size, 0, none⟩ x).setCell ⟨w0.heap.size, 1, none⟩ y).cell? ⟨c, p3, none⟩ = some v7) ∧ Below w0.heap.size w0 ((W.setCell ⟨w0.heap.size, 0, none⟩ x).setCell ⟨w0.heap.size, 1, none⟩ y) :=
  keepMB h1 h2 h (((Below.refl _ _).setCell (p := ⟨w0.heap.size, 0, none⟩) (Nat.le_refl _) x).setCell (p := ⟨w0.heap.size, 1, none⟩) (Nat.le_refl _) y)
set_option maxHeartbeats 2000000 in
theorem rmeet_any {rc : Int → Int → Int → Int → Int × Int × Bool} (hc : ∀ a b c d, Gives Tryz.prog 55 [pairV a b, pairV c d] (.tuple ⟨[pairV (rc a b c d).1 (rc a b c d).2.1, .bool (rc a b c d).2.2]⟩))
    (A : Option Addr) (n c : Nat) (l : List Sol) (w : World) (hg : Glob w) (h : Sols w A n l) (h0 : 0 < n) (h1 : n ≤ 1000) :
    Calls Tryz.prog 23 #[.slice A n c] w (GP (rmV (rmeetF rc (l.getD 0 nos) (l.drop 1))) w) := by
  have HL := Lib.hid h.len
  have HS := Lib.hid h
  have HC := Lib.hid hc
  have HG := Lib.hid hg
  have HB0 := Lib.hid ((Below.refl w.heap.size w).alloc (Nat.le_refl _) (.cells #[.int .i64 0, .int .i64 0, .int .i64 0, .int .i64 0] 28))
  have HK0 := Lib.hid (Bk.new w nos)
  obtain ⟨b, off, a1, a2, a3, a4, rfl, hb, hy, d0, d1, d2, d3⟩ := h.at_ h0 HB0.out
  have HY := Lib.hid hy
  have HB1 := Lib.hid (HB0.out.alloc (by simp) (.cells #[.int .i64 a1, .int .i64 a2, .int .i64 a3, .int .i64 a4] 28))
  have HO1 := Lib.hid (Bk.new (w.alloc (.cells #[.int .i64 0, .int .i64 0, .int .i64 0, .int .i64 0] 28)) (a1, a2, a3, a4))
  have HK1 := Lib.hid (HK0.out.next ((Below.refl _ _).alloc (Nat.le_refl _) (.cells #[.int .i64 a1, .int .i64 a2, .int .i64 a3, .int .i64 a4] 28)))
  simp only [Nat.zero_mul, Nat.add_zero] at d0 d1 d2 d3
  have hno : nos = (0, 0, 0, 0) := rfl
  have HST := Lib.hid (show RMeetRel rc l w ((w.alloc (.cells #[.int .i64 0, .int .i64 0, .int .i64 0, .int .i64 0] 28)).alloc (.cells #[.int .i64 a1, .int .i64 a2, .int .i64 a3, .int .i64 a4] 28)) (w.heap.size + 1) (.int .i64 1) (a1, a2, a3, a4) 1 from ⟨by rw [HL.out]; omega, by omega, rfl, by simpa using HO1.out, HK1.out, by rw [HY.out], HB1.out⟩)
  clear h hc hg hy HO1 HK1 HK0
  go_enter Tryz.func23, Tryz.ntmps23
  go_wp2_with fail
  go_loopw [5] (fun v wr => ∃ k o, RMeetRel rc l w wr (w.heap.size + 1) v o k) (fun v _ => n - (intOf v).toNat)
  case atStart => exact ⟨_, _, HST.out⟩
  case round =>
    clear HST d0 d1 d2 d3
    obtain ⟨k, o, hk, hk0, rfl, hout, hres, heq, hbel⟩ := hrel
    rw [HL.out] at hk
    have HB := Lib.hid hbel
    have HRS := Lib.hid hres
    have HOU := Lib.hid hout
    have HE := Lib.hid heq
    have hsr := hbel.size
    have hol := hout.lt
    clear hres hout heq
    by_cases hlt : k < n
    · obtain ⟨b', off', x1, x2, x3, x4, hbo, hb', hy', d0, d1, d2, d3⟩ := HS.out.at_ (k := k) hlt hbel
      injection hbo with hbo
      injection hbo with hbo1 hbo2
      subst hbo1 hbo2
      have HY' := Lib.hid hy'
      obtain ⟨o1, o2, o3, o4⟩ := o
      obtain ⟨⟨p0, p1, p2, p3⟩, f0, f1, f2, f3⟩ := HOU.out.keep
      dsimp only at p0 p1 p2 p3
      have HC1 := Lib.hid (HC.out o3 o4 x3 x4)
      obtain ⟨z1, z2, zb, hz⟩ : ∃ z1 z2 zb, rc o3 o4 x3 x4 = (z1, z2, zb) := ⟨_, _, _, rfl⟩
      have HZ := Lib.hid hz
      rw [hz] at HC1
      clear hbel hy' hz
      unfold pairV at HC1
      go_wp2_with fail
      have lo1 := Lib.hid hol
      have lo2 := Lib.hid (Nat.lt_of_lt_of_le hb hsr)
      have HC2 := Lib.hid (show ∀ W, Below wr.heap.size wr W → Calls Tryz.prog 55 #[.agg #[.int .i64 o3, .int .i64 o4], .agg #[.int .i64 x3, .int .i64 x4]] W (GP (.tuple #[.agg #[.int .i64 z1, .int .i64 z2], .bool zb]) W) from fun W hW => at2 HC1.out (HG.out.below (HB.out.trans (hW.mono hsr))))
      go_cut [6, 7] from 18 to 28 (fun v6 v7 wx => ∃ g, v6 = Value.pointer (some ⟨g, 0, none⟩) ∧ v7 = Value.bool zb ∧ wr.heap.size ≤ g ∧ RowKit.Hid (wx.heap[g]? = some (.cells #[.int .i64 z1, .int .i64 z2] 23 (0, 0))) ∧ RowKit.Hid (Below wr.heap.size wr wx))
      case first =>
        go_region_held3 (fun w' => (w'.cell? ⟨w.heap.size + 1, 0, none⟩ = some (.int .i64 o1) ∧ w'.cell? ⟨w.heap.size + 1, 1, none⟩ = some (.int .i64 o2) ∧ w'.cell? ⟨w.heap.size + 1, 2, none⟩ = some (.int .i64 o3) ∧ w'.cell? ⟨w.heap.size + 1, 3, none⟩ = some (.int .i64 o4) ∧ w'.cell? ⟨b, off + k * 4, none⟩ = some (.int .i64 x1) ∧ w'.cell? ⟨b, off + k * 4 + 1, none⟩ = some (.int .i64 x2) ∧ w'.cell? ⟨b, off + k * 4 + 2, none⟩ = some (.int .i64 x3) ∧ w'.cell? ⟨b, off + k * 4 + 3, none⟩ = some (.int .i64 x4)) ∧ Below wr.heap.size wr w')
          (first
            | exact ⟨⟨p0, p1, p2, p3, d0, d1, d2, d3⟩, (Below.refl _ _).drew⟩
            | (with_reducible exact keepM (by assumption) ((Below.refl _ _).alloc (Nat.le_refl _) _))
            | (with_reducible exact keepMB lo1.out lo2.out SS.out (Below.alloc (Below.refl _ _) lo3 _))
            | (with_reducible exact keepMS lo1.out lo2.out SS.out _ _)
            | (with_reducible exact SS.out))
          (first
            | (go_at_call 55
               refine (HC2.out _ (And.right (by assumption))).mono ?_
               rintro e w4 ⟨rfl, hb4⟩
               have SS := Lib.hid (keepM (w1 := w4) (by assumption) hb4)
               have lo3 := SS.out.2.size
               first
                 | (have kc := box2 hb4 (lt_alloc wr (.cells #[.int .i64 0, .int .i64 0] 23)) (heap_alloc_new wr (.cells #[.int .i64 0, .int .i64 0] 23))
                    have uk0 := kc.1.1
                    have uk1 := kc.1.2
                    have uk2 := kc.2.1
                    have uk3 := kc.2.2
                    have ukb := Lib.hid (show w4.heap[wr.heap.size]? = some (.cells #[.int .i64 0, .int .i64 0] 23 (0, 0)) from (hb4.block _ (lt_alloc wr (.cells #[.int .i64 0, .int .i64 0] 23))).trans (heap_alloc_new wr (.cells #[.int .i64 0, .int .i64 0] 23))))
                 | skip)
            | fail)
        all_goals (
          go_wp2_with fail
          go_meet
          first
            | exact ⟨_, rfl, rfl, lo3, Lib.hid (heap_alloc_new w4 _), Lib.hid (Below.alloc SS.out.2 lo3 _)⟩
            | exact ⟨_, rfl, rfl, Nat.le_refl _, Lib.hid (pair_write ukb.out z1 z2), Lib.hid (Below.setCell (Below.setCell SS.out.2 (Nat.le_refl _) _) (Nat.le_refl _) _)⟩)
      case rest =>
        obtain ⟨g, rfl, rfl, hg1, hg2, hg3⟩ := hcut
        obtain ⟨wa, hwa⟩ : ∃ x, x = wc := ⟨_, rfl⟩
        subst hwa
        have HBc := Lib.hid (HB.out.trans (hg3.out.mono hsr))
        have hsc := hg3.out.size
        have HOc := Lib.hid (HOU.out.next hg3.out)
        have HRc := Lib.hid (HRS.out.next hg3.out)
        have hgl : g < wa.heap.size := (Array.getElem?_eq_some_iff.1 hg2.out).1
        have e0 := (hg3.out.cell (p := ⟨b, off + k * 4, none⟩) (Nat.lt_of_lt_of_le hb hsr)).trans d0
        have e1 := (hg3.out.cell (p := ⟨b, off + k * 4 + 1, none⟩) (Nat.lt_of_lt_of_le hb hsr)).trans d1
        have e2 := (hg3.out.cell (p := ⟨b, off + k * 4 + 2, none⟩) (Nat.lt_of_lt_of_le hb hsr)).trans d2
        have e3 := (hg3.out.cell (p := ⟨b, off + k * 4 + 3, none⟩) (Nat.lt_of_lt_of_le hb hsr)).trans d3
        clear p0 p1 p2 p3 f0 f1 f2 f3 d0 d1 d2 d3 HC1 HC2
        obtain ⟨⟨p0, p1, p2, p3⟩, f0, f1, f2, f3⟩ := HOc.out.keep
        dsimp only at p0 p1 p2 p3
        have HS0 := Lib.hid (show (wa.cell? ⟨w.heap.size + 1, 0, none⟩ = some (.int .i64 o1) ∧ wa.cell? ⟨w.heap.size + 1, 1, none⟩ = some (.int .i64 o2) ∧ wa.cell? ⟨w.heap.size + 1, 2, none⟩ = some (.int .i64 o3) ∧ wa.cell? ⟨w.heap.size + 1, 3, none⟩ = some (.int .i64 o4) ∧ wa.cell? ⟨b, off + k * 4, none⟩ = some (.int .i64 x1) ∧ wa.cell? ⟨b, off + k * 4 + 1, none⟩ = some (.int .i64 x2) ∧ wa.cell? ⟨b, off + k * 4 + 2, none⟩ = some (.int .i64 x3) ∧ wa.cell? ⟨b, off + k * 4 + 3, none⟩ = some (.int .i64 x4)) ∧ Below wa.heap.size wa wa from ⟨⟨p0, p1, p2, p3, e0, e1, e2, e3⟩, Below.refl _ _⟩)
        go_wp2_with fail
        go_cut [8] from 29 to 49 (fun v8 wx => ∃ g', v8 = Value.pointer (some ⟨g', 0, none⟩) ∧ wa.heap.size ≤ g' ∧ RowKit.Hid (wx.heap[g']? = some (.cells #[.int .i64 (mx o1 x1), .int .i64 (mn o2 x2)] 23 (0, 0))) ∧ RowKit.Hid (Below wa.heap.size wa wx))
        case first =>
          go_region_held3 (fun w' => (w'.cell? ⟨w.heap.size + 1, 0, none⟩ = some (.int .i64 o1) ∧ w'.cell? ⟨w.heap.size + 1, 1, none⟩ = some (.int .i64 o2) ∧ w'.cell? ⟨w.heap.size + 1, 2, none⟩ = some (.int .i64 o3) ∧ w'.cell? ⟨w.heap.size + 1, 3, none⟩ = some (.int .i64 o4) ∧ w'.cell? ⟨b, off + k * 4, none⟩ = some (.int .i64 x1) ∧ w'.cell? ⟨b, off + k * 4 + 1, none⟩ = some (.int .i64 x2) ∧ w'.cell? ⟨b, off + k * 4 + 2, none⟩ = some (.int .i64 x3) ∧ w'.cell? ⟨b, off + k * 4 + 3, none⟩ = some (.int .i64 x4)) ∧ Below wa.heap.size wa w')
            (first
              | exact ⟨⟨p0, p1, p2, p3, e0, e1, e2, e3⟩, (Below.refl _ _).drew⟩
              | (with_reducible exact keepM HS0.out ((Below.refl _ _).alloc (Nat.le_refl _) _))
              | (with_reducible exact keepM HS0.out (((Below.refl _ _).alloc (Nat.le_refl _) _).drew)))
            (fail)
          all_goals (go_wp2_with fail)
          all_goals (
            go_meet
            exact ⟨_, rfl, Nat.le_refl _, Lib.hid (pair_new wa (by unfold mx; split <;> omega) (by unfold mn; split <;> omega)), Lib.hid (Below.alloc (Below.refl _ _) (Nat.le_refl _) _).drew⟩)
        case rest =>
          obtain ⟨g', rfl, hg1', hg2', hg3'⟩ := hcut
          have HDR := Lib.hid (show l.drop k = (x1, x2, x3, x4) :: l.drop (k + 1) by
            rw [List.drop_eq_getElem_cons (by rw [HL.out]; omega)]
            congr 1
            have := HY'.out
            rw [List.getD_eq_getElem?_getD, List.getElem?_eq_getElem (by rw [HL.out]; omega)] at this
            exact this)
          have HBd := Lib.hid (HBc.out.trans (hg3'.out.mono (by omega)))
          have HOd := Lib.hid (HOc.out.next hg3'.out)
          have HRd := Lib.hid (HRc.out.next hg3'.out)
          have hsd := hg3'.out.size
          have hgd : g' < wc.heap.size := (Array.getElem?_eq_some_iff.1 hg2'.out).1
          have HGd := Lib.hid (show wc.heap[g]? = some (.cells #[.int .i64 z1, .int .i64 z2] 23 (0, 0)) from (hg3'.out.block g hgl).trans hg2.out)
          clear p0 p1 p2 p3 f0 f1 f2 f3 e0 e1 e2 e3 HS0
          obtain ⟨⟨q0, q1⟩, i0, i1⟩ := box2 (Below.refl wc.heap.size wc) hgd hg2'.out
          obtain ⟨⟨t0, t1⟩, j0, j1⟩ := box2 (Below.refl wc.heap.size wc) (Nat.lt_of_lt_of_le hgl hsd) HGd.out
          by_cases hok : zb = true ∧ ¬ mx o1 x1 > mn o2 x2
          · obtain ⟨rfl, hnb⟩ := hok
            have hmo : rmeetO rc (o1, o2, o3, o4) (x1, x2, x3, x4) = some (mx o1 x1, mn o2 x2, z1, z2) := by
              unfold rmeetO
              dsimp only
              rw [HZ.out]
              exact if_pos ⟨rfl, hnb⟩
            generalize mx o1 x1 = X at *
            generalize mn o2 x2 = Y at *
            have HST := Lib.hid (show ∀ wf, Bk wf (w.heap.size + 1) (X, Y, z1, z2) → Bk wf w.heap.size nos → Below w.heap.size w wf → RMeetRel rc l w wf (w.heap.size + 1) (.int .i64 ((k : Int) + 1)) (X, Y, z1, z2) (k + 1) from fun wf i1 i2 i3 => ⟨by rw [HL.out]; omega, by omega, rfl, i1, i2, by rw [HE.out, HDR.out]; simp only [rmeetF]; rw [hmo], i3⟩)
            obtain ⟨⟨r0, r1, r2, r3⟩, l0, l1, l2, l3⟩ := HOd.out.keep
            have HF1 := Lib.hid (HOd.out.write (X, Y, z1, z2))
            have HF2 := Lib.hid (HRd.out.other (b' := w.heap.size + 1) (by omega) (.int .i64 X) (.int .i64 Y) (.int .i64 z1) (.int .i64 z2))
            have HF3 := Lib.hid (Below.set4 HBd.out (b := w.heap.size + 1) (by omega) (.int .i64 X) (.int .i64 Y) (.int .i64 z1) (.int .i64 z2))
            clear hmo
            go_wp2
            go_roundw
            case rel => exact ⟨_, _, HST.out _ HF1.out HF2.out HF3.out⟩
            case measure => simp [intOf]; omega
          · have hmo : rmeetO rc (o1, o2, o3, o4) (x1, x2, x3, x4) = none := by
              unfold rmeetO
              dsimp only
              rw [HZ.out]
              exact if_neg hok
            have HF := Lib.hid (show ∀ w', Below w.heap.size w w' → GP (rmV (rmeetF rc (l.getD 0 nos) (l.drop 1))) w (.returned (.tuple #[.agg #[.int .i64 0, .int .i64 0, .int .i64 0, .int .i64 0], .bool false])) w' from fun w' hb => ⟨by
              rw [HE.out, HDR.out]; simp only [rmeetF]; rw [hmo]; rfl, hb⟩)
            obtain ⟨⟨r0, r1, r2, r3⟩, l0, l1, l2, l3⟩ := HRd.out.keep
            generalize mx o1 x1 = X at *
            generalize mn o2 x2 = Y at *
            clear hmo
            cases zb with
            | false =>
              clear hok
              go_wp2
              refine bodyPost_ret (v := .tuple #[.agg #[.int .i64 0, .int .i64 0, .int .i64 0, .int .i64 0], .bool false]) (by simp [results, Tryz.results23, go_sem, r0, r1, r2, r3]) rfl (HF.out _ ?_)
              exact Below.set4 HBd.out (Nat.le_refl _) _ _ _ _
            | true =>
              have hgt : X > Y := by
                by_cases h : X > Y
                · exact h
                · exact absurd ⟨rfl, h⟩ hok
              clear hok
              go_wp2
              refine bodyPost_ret (v := .tuple #[.agg #[.int .i64 0, .int .i64 0, .int .i64 0, .int .i64 0], .bool false]) (by simp [results, Tryz.results23, go_sem, r0, r1, r2, r3]) rfl (HF.out _ ?_)
              exact Below.set4 HBd.out (Nat.le_refl _) _ _ _ _
    · have hkm : k = n := by omega
      subst hkm
      have HDR := Lib.hid (show l.drop k = [] from List.drop_eq_nil_of_le (by rw [HL.out]; omega))
      obtain ⟨o1, o2, o3, o4⟩ := o
      have HF := Lib.hid (show ∀ w', Below w.heap.size w w' → GP (rmV (rmeetF rc (l.getD 0 nos) (l.drop 1))) w (.returned (.tuple #[.agg #[.int .i64 o1, .int .i64 o2, .int .i64 o3, .int .i64 o4], .bool true])) w' from fun w' hb => ⟨by
        rw [HE.out, HDR.out]; rfl, hb⟩)
      obtain ⟨⟨p0, p1, p2, p3⟩, f0, f1, f2, f3⟩ := HOU.out.keep
      obtain ⟨⟨r0, r1, r2, r3⟩, l0, l1, l2, l3⟩ := HRS.out.keep
      dsimp only at p0 p1 p2 p3
      go_wp2
      refine bodyPost_ret (v := .tuple #[.agg #[.int .i64 o1, .int .i64 o2, .int .i64 o3, .int .i64 o4], .bool true]) (by simp [results, Tryz.results23, go_sem, r0, r1, r2, r3]) rfl (HF.out _ ?_)
      exact Below.set4 HB.out (Nat.le_refl _) _ _ _ _

def eqS (a b : Sol) : Bool := (a.1 == b.1) && ((a.2.1 == b.2.1) && ((a.2.2.1 == b.2.2.1) && (a.2.2.2 == b.2.2.2)))
theorem eqS_iff (a b : Sol) : eqS a b = true ↔ a = b := by
  obtain ⟨a1, a2, a3, a4⟩ := a
  obtain ⟨b1, b2, b3, b4⟩ := b
  unfold eqS
  simp
theorem below_drewN2 {B : Nat} {a w : World} (h : Below B a w) (n : Nat) : Below B a (w.drewN n) := ⟨h.os, h.tape, h.output, h.size, h.block⟩
def IdxS (x : Sol) (l : List Sol) (w : World) (e : Ending) (w' : World) : Prop := (∃ r : Int, e = .returned (.int .i64 r) ∧ decide (0 ≤ r) = l.any (fun s => eqS x s) ∧ -1 ≤ r ∧ r < 9223372036854775807) ∧ Below w.heap.size w w'
set_option maxHeartbeats 1000000 in
theorem idxS_any (heq : ∀ (a b : Sol) (w : World), (Op.equalIn 10000 28 (.agg #[.int .i64 a.1, .int .i64 a.2.1, .int .i64 a.2.2.1, .int .i64 a.2.2.2]) (.agg #[.int .i64 b.1, .int .i64 b.2.1, .int .i64 b.2.2.1, .int .i64 b.2.2.2])).run Tryz.prog w = .ok (eqS a b) w)
    (A : Option Addr) (n c : Nat) (l : List Sol) (x1 x2 x3 x4 : Int) (w : World) (h : Sols w A n l) :
    Calls Tryz.prog 60 #[.slice A n c, .agg #[.int .i64 x1, .int .i64 x2, .int .i64 x3, .int .i64 x4]] w (IdxS (x1, x2, x3, x4) l w) := by
  have hn := h.le
  have HB0 := Lib.hid ((Below.refl w.heap.size w).alloc (Nat.le_refl _) (.cells #[.int .i64 x1, .int .i64 x2, .int .i64 x3, .int .i64 x4] 28))
  have HK0 := Lib.hid (Bk.new w (x1, x2, x3, x4))
  have HS := Lib.hid h
  have HL := Lib.hid h.len
  have HQ := Lib.hid heq
  clear h heq
  go_enter Tryz.func60, Tryz.ntmps60
  go_wp2
  go_loopw [8] (fun i wr => ∃ k : Nat, k ≤ n ∧ i = .int .i64 k ∧ (∀ j, j < k → eqS (x1, x2, x3, x4) (l.getD j nos) = false) ∧ Below (w.heap.size + 1) (w.alloc (.cells #[.int .i64 x1, .int .i64 x2, .int .i64 x3, .int .i64 x4] 28)) wr) (fun i _ => n - (intOf i).toNat)
  case atStart => exact ⟨0, Nat.zero_le _, rfl, fun j hj => absurd hj (by omega), Below.refl _ _⟩
  case round =>
    obtain ⟨k, hk, rfl, hno, hbel⟩ := hrel
    have HN := Lib.hid hno
    have HB := Lib.hid (HB0.out.trans (hbel.mono (by omega)))
    obtain ⟨⟨r0, r1, r2, r3⟩, _, _, _, _⟩ := (HK0.out.below hbel (by omega)).keep
    dsimp only at r0 r1 r2 r3
    have HBL := Lib.hid hbel
    clear hno
    by_cases hlt : k < n
    · obtain ⟨b, off, a1, a2, a3, a4, rfl, hb, hy, d0, d1, d2, d3⟩ := HS.out.at_ hlt HB.out
      have HY := Lib.hid hy
      have hq := HQ.out (x1, x2, x3, x4) (a1, a2, a3, a4)
      dsimp only at hq
      clear hbel hy
      go_wp2_with fail
      go_quiet (fail)
      cases hs : eqS (x1, x2, x3, x4) (a1, a2, a3, a4) with
      | true =>
        have HF := Lib.hid (show ∀ m, IdxS (x1, x2, x3, x4) l w (.returned (.int .i64 (k : Int))) (wr.drewN m) from fun m => ⟨⟨k, rfl, by
          rw [decide_eq_true (by omega)]
          exact (List.any_eq_true.2 ⟨_, getD_mem (l := l) (k := k) (by rw [HL.out]; exact hlt), by rw [HY.out, hs]⟩).symm, by omega, by omega⟩, below_drewN2 HB.out m⟩)
        go_wp2
        go_ret
        exact HF.out _
      | false =>
        have HST := Lib.hid (show ∀ j, j < k + 1 → eqS (x1, x2, x3, x4) (l.getD j nos) = false from fun j hj => by
          by_cases e : j = k
          · rw [e, HY.out]; exact hs
          · exact HN.out j (by omega))
        go_wp2
        go_roundw
        case rel => exact ⟨k + 1, by omega, by go_num, HST.out, below_drewN2 HBL.out _⟩
        case measure => simp [intOf]; omega
    · have hno : l.any (fun s => eqS (x1, x2, x3, x4) s) = false := by
        rw [List.any_eq_false]
        intro x hx
        obtain ⟨i, hi, he⟩ := List.getElem_of_mem hx
        have := HN.out i (by have := HL.out; omega)
        rw [List.getD_eq_getElem?_getD, List.getElem?_eq_getElem hi] at this
        simp only [Option.getD_some, he] at this
        rw [this]; simp
      have HF := Lib.hid (show IdxS (x1, x2, x3, x4) l w (.returned (.int .i64 (-1 : Int))) wr from ⟨⟨-1, rfl, by rw [hno]; rfl, by omega, by omega⟩, HB.out⟩)
      clear hno hbel
      go_wp2
      go_ret
      exact HF.out
theorem conS_any (heq : ∀ (a b : Sol) (w : World), (Op.equalIn 10000 28 (.agg #[.int .i64 a.1, .int .i64 a.2.1, .int .i64 a.2.2.1, .int .i64 a.2.2.2]) (.agg #[.int .i64 b.1, .int .i64 b.2.1, .int .i64 b.2.2.1, .int .i64 b.2.2.2])).run Tryz.prog w = .ok (eqS a b) w)
    (A : Option Addr) (n c : Nat) (l : List Sol) (x1 x2 x3 x4 : Int) (w : World) (h : Sols w A n l) :
    Calls Tryz.prog 31 #[.slice A n c, .agg #[.int .i64 x1, .int .i64 x2, .int .i64 x3, .int .i64 x4]] w (GP (.bool (l.any fun s => eqS (x1, x2, x3, x4) s)) w) := by
  have HB0 := Lib.hid ((Below.refl w.heap.size w).alloc (Nat.le_refl _) (.cells #[.int .i64 x1, .int .i64 x2, .int .i64 x3, .int .i64 x4] 28))
  have HI := Lib.hid (idxS_any heq A n c l x1 x2 x3 x4 _ (h.below HB0.out (Nat.le_refl _)))
  clear h heq
  go_enter Tryz.func31, Tryz.ntmps31
  go_wp2_with fail
  refine HI.out.mono ?_
  rintro e w' ⟨⟨r, rfl, hr, _, _⟩, hb⟩
  have HR := Lib.hid hr
  have HB := Lib.hid (HB0.out.trans (hb.mono (by simp)))
  clear hr hb
  go_wp2
  go_ret
  rw [← HR.out]
  exact ⟨rfl, HB.out⟩
end Go.Proofs.YtmididlfnajhiaaGreatDoor

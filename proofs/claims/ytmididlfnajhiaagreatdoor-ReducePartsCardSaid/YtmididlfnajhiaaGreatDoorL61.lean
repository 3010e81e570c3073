/-
  A number of an arc, picked by a remainder. ReduceParts answers true.
-/
import Derived.Test.YtmididlfnajhiaaGreatDoorA30
import Derived.Test.YtmididlfnajhiaaGreatDoorL62
namespace Go.Proofs.YtmididlfnajhiaaGreatDoor
open Ev

open Ev (lt)
def pkP (a b c : Int) : Bool := decide (-1099511627776 ≤ a ∧ a ≤ b ∧ b ≤ 1099511627776 ∧ 0 ≤ c ∧ c ≤ 4294967295)
def pkN (a b c : Int) : Int := a + Int.tmod c (b - a + 1)
def pkA (a b c : Int) : Int × Int := (pkN a b c, pkN a b c)
theorem pkN_bd {a b c : Int} (h : pkP a b c = true) : a ≤ pkN a b c ∧ pkN a b c ≤ b := by
  obtain ⟨h1, h2, h3, h4, h5⟩ := of_decide_eq_true h
  have m0 := Int.tmod_nonneg (b - a + 1) h4
  have m1 := Int.tmod_lt_of_pos c (show 0 < b - a + 1 by omega)
  unfold pkN
  omega
noncomputable def book_pkA_gives : Book := [(25, eI (fun a => pairV (atM a).1 (atM a).2))]
theorem book_pkA_gives_ok : BookOk Tryz.prog book_pkA_gives := (bookOk_cons (eI_ok atM_gives) bookOk_nil)
theorem pkA_gives_tree (a b c : Int) : evF Tryz.prog Es Cs book_pkA_gives 20 6 24 ([.agg ⟨[.int .i64 a, .int .i64 b]⟩, .int .u32 c].map AV.v) [] [] last =
  cond (IntKind.i64.wrap ((IntKind.i64.wrap (b - a)) + 1) == 0)
  (none)
  (lt (atM (IntKind.i64.wrap (a + (Int.tmod (IntKind.i64.wrap (c)) (IntKind.i64.wrap ((IntKind.i64.wrap (b - a)) + 1)))))) fun x1 =>
   some (.v (.agg ⟨[.int .i64 x1.1, .int .i64 x1.2]⟩))) := by kernel_rfl
theorem pkA_gives (a b c : Int) (hp : pkP a b c = true) : Gives Tryz.prog 24 [.agg ⟨[.int .i64 a, .int .i64 b]⟩, .int .u32 c] (pairV (pkA a b c).1 (pkA a b c).2) := by
  refine evF_gives (E := Es) mixed Es_ok Cs_ok book_pkA_gives_ok (lim := 20) (d := 6) (nm := []) ?_
  rw [pkA_gives_tree a b c]
  have bd := pkN_bd hp
  obtain ⟨h1, h2, h3, h4, h5⟩ := of_decide_eq_true hp
  unfold pkN at bd
  rw [i64w (x := b - a) (by omega), i64w (x := b - a + 1) (by omega), i64w (x := c) (by omega), beq_eq_false_iff_ne.2 (show b - a + 1 ≠ 0 by omega), i64w (x := a + Int.tmod c (b - a + 1)) (by omega)]
  rfl
end Go.Proofs.YtmididlfnajhiaaGreatDoor
namespace Go.Proofs.YtmididlfnajhiaaGreatDoor
open Go.RowKit
open Ev (Glob Gives)
theorem keepT {w0 W w1 : World} {k : Nat} {v0 v1 v2 v3 v4 v5 : Value} (h : (W.cell? ⟨k, 0, none⟩ = some v0 ∧ W.cell? ⟨k, 1, none⟩ = some v1 ∧ W.cell? ⟨k, 2, none⟩ = some v2 ∧ W.cell? ⟨k, 3, none⟩ = some v3 ∧ W.cell? ⟨k, 4, none⟩ = some v4 ∧ W.cell? ⟨k, 5, none⟩ = some v5) ∧ Below w0.heap.size w0 W) (hb : Below W.heap.size W w1) :
    (w1.cell? ⟨k, 0, none⟩ = some v0 ∧ w1.cell? ⟨k, 1, none⟩ = some v1 ∧ w1.cell? ⟨k, 2, none⟩ = some v2 ∧ w1.cell? ⟨k, 3, none⟩ = some v3 ∧ w1.cell? ⟨k, 4, none⟩ = some v4 ∧ w1.cell? ⟨k, 5, none⟩ = some v5) ∧ Below w0.heap.size w0 w1 := by
  obtain ⟨⟨h0, h1, h2, h3, h4, h5⟩, hB⟩ := h
  have hlt := World.block_lt_of_cell? W _ h0
  exact ⟨⟨(hb.cell (p := ⟨k, 0, none⟩) hlt).trans h0, (hb.cell (p := ⟨k, 1, none⟩) hlt).trans h1, (hb.cell (p := ⟨k, 2, none⟩) hlt).trans h2, (hb.cell (p := ⟨k, 3, none⟩) hlt).trans h3, (hb.cell (p := ⟨k, 4, none⟩) hlt).trans h4, (hb.cell (p := ⟨k, 5, none⟩) hlt).trans h5⟩, hB.trans (hb.mono hB.size)⟩
theorem keepTB {w0 W w1 : World} {k : Nat} {v0 v1 v2 v3 v4 v5 : Value} (hk : k < w0.heap.size) (h : (W.cell? ⟨k, 0, none⟩ = some v0 ∧ W.cell? ⟨k, 1, none⟩ = some v1 ∧ W.cell? ⟨k, 2, none⟩ = some v2 ∧ W.cell? ⟨k, 3, none⟩ = some v3 ∧ W.cell? ⟨k, 4, none⟩ = some v4 ∧ W.cell? ⟨k, 5, none⟩ = some v5) ∧ Below w0.heap.size w0 W) (hb : Below w0.heap.size W w1) :
    (w1.cell? ⟨k, 0, none⟩ = some v0 ∧ w1.cell? ⟨k, 1, none⟩ = some v1 ∧ w1.cell? ⟨k, 2, none⟩ = some v2 ∧ w1.cell? ⟨k, 3, none⟩ = some v3 ∧ w1.cell? ⟨k, 4, none⟩ = some v4 ∧ w1.cell? ⟨k, 5, none⟩ = some v5) ∧ Below w0.heap.size w0 w1 := by
  obtain ⟨⟨h0, h1, h2, h3, h4, h5⟩, hB⟩ := h
  exact ⟨⟨(hb.cell (p := ⟨k, 0, none⟩) hk).trans h0, (hb.cell (p := ⟨k, 1, none⟩) hk).trans h1, (hb.cell (p := ⟨k, 2, none⟩) hk).trans h2, (hb.cell (p := ⟨k, 3, none⟩) hk).trans h3, (hb.cell (p := ⟨k, 4, none⟩) hk).trans h4, (hb.cell (p := ⟨k, 5, none⟩) hk).trans h5⟩, hB.trans hb⟩
def set6 (w : World) (g : Nat) (v0 v1 v2 v3 v4 v5 : Value) : World := (((((w.setCell ⟨g, 0, none⟩ v0).setCell ⟨g, 1, none⟩ v1).setCell ⟨g, 2, none⟩ v2).setCell ⟨g, 3, none⟩ v3).setCell ⟨g, 4, none⟩ v4).setCell ⟨g, 5, none⟩ v5
theorem below_set6 {B : Nat} {a w : World} (h : Below B a w) {g : Nat} (hg : B ≤ g) (v0 v1 v2 v3 v4 v5 : Value) : Below B a (set6 w g v0 v1 v2 v3 v4 v5) :=
  (((((h.setCell (by simpa using hg) _).setCell (by simpa using hg) _).setCell (by simpa using hg) _).setCell (by simpa using hg) _).setCell (by simpa using hg) _).setCell (by simpa using hg) _
theorem Tk.write {w : World} {g : Nat} {a b c d e f : Int} (h : Tk w g a b c d e f) (a' b' c' d' e' f' : Int) : Tk (set6 w g (.int .i64 a') (.int .i64 b') (.int .i64 c') (.int .i64 d') (.int .i64 e') (.int .i64 f')) g a' b' c' d' e' f' := by
  unfold Tk set6 at *
  simp [World.setCell, h, Array.getElem?_modify]
theorem Tk.frozen {w : World} {k : Nat} {a b c d e f : Int} (h : Tk w k a b c d e f) :
    w.frozen? ⟨k, 0, none⟩ = false ∧ w.frozen? ⟨k, 1, none⟩ = false ∧ w.frozen? ⟨k, 2, none⟩ = false ∧ w.frozen? ⟨k, 3, none⟩ = false ∧ w.frozen? ⟨k, 4, none⟩ = false ∧ w.frozen? ⟨k, 5, none⟩ = false := by
  unfold Tk at h
  refine ⟨?_, ?_, ?_, ?_, ?_, ?_⟩ <;> simp [World.frozen?, h]
theorem Tk.zero (w : World) : Tk (w.alloc (.cells #[.int .i64 0, .int .i64 0, .int .i64 0, .int .i64 0, .int .i64 0, .int .i64 0] 25)) w.heap.size 0 0 0 0 0 0 := heap_alloc_new w _
theorem Tk.next {w w' : World} {k : Nat} {a b c d e f : Int} (h : Tk w k a b c d e f) (hb : Below w.heap.size w w') : Tk w' k a b c d e f := h.below hb h.lt
theorem eight_new (w : World) (o : Obj) (a b : Sol) : ∀ j u, [Value.int .i64 a.1, .int .i64 a.2.1, .int .i64 a.2.2.1, .int .i64 a.2.2.2, .int .i64 b.1, .int .i64 b.2.1, .int .i64 b.2.2.1, .int .i64 b.2.2.2][j]? = some u → ((w.alloc o).alloc (.cells #[.int .i64 a.1, .int .i64 a.2.1, .int .i64 a.2.2.1, .int .i64 a.2.2.2, .int .i64 b.1, .int .i64 b.2.1, .int .i64 b.2.2.1, .int .i64 b.2.2.2] 28)).cell? ((⟨w.heap.size + 1, 0, none⟩ : Addr).add j) = some u := by
  have hb : ((w.alloc o).alloc (.cells #[.int .i64 a.1, .int .i64 a.2.1, .int .i64 a.2.2.1, .int .i64 a.2.2.2, .int .i64 b.1, .int .i64 b.2.1, .int .i64 b.2.2.1, .int .i64 b.2.2.2] 28)).heap[w.heap.size + 1]? = some (.cells #[.int .i64 a.1, .int .i64 a.2.1, .int .i64 a.2.2.1, .int .i64 a.2.2.2, .int .i64 b.1, .int .i64 b.2.1, .int .i64 b.2.2.1, .int .i64 b.2.2.2] 28) := by
    have := heap_alloc_new (w.alloc o) (.cells #[.int .i64 a.1, .int .i64 a.2.1, .int .i64 a.2.2.1, .int .i64 a.2.2.2, .int .i64 b.1, .int .i64 b.2.1, .int .i64 b.2.2.1, .int .i64 b.2.2.2] 28)
    simpa using this
  exact World.news_of_block hb
theorem below_set6n {B g : Nat} (hg : B ≤ g) (w : World) (a b c d e f : Value) : Below B w ((((((w.setCell ⟨g, 0, none⟩ a).setCell ⟨g, 1, none⟩ b).setCell ⟨g, 2, none⟩ c).setCell ⟨g, 3, none⟩ d).setCell ⟨g, 4, none⟩ e).setCell ⟨g, 5, none⟩ f) := below_set6 (Below.refl _ _) hg a b c d e f
theorem Tk.drew {w : World} {k : Nat} {a b c d e f : Int} (h : Tk w k a b c d e f) : Tk w.drew k a b c d e f := h
set_option maxRecDepth 100000 in
set_option maxHeartbeats 2000000 in
theorem parts_no {a b c d e f u v s : Int} (hv : triB a b c d e f = false) (w : World) (hg : Glob w) : Calls Tryz.prog 6 #[triP a b c d e f, .int .u32 u, .int .u32 v, .int .u32 s] w (GP (.bool true) w) := by
  have HG := Lib.hid hg
  have HB0 := Lib.hid ((Below.refl w.heap.size w).alloc (Nat.le_refl _) (.cells ⟨[.int .i64 a, .int .i64 b, .int .i64 c, .int .i64 d, .int .i64 e, .int .i64 f]⟩ 25))
  have HK0 := Lib.hid (show Tk (w.alloc (.cells ⟨[.int .i64 a, .int .i64 b, .int .i64 c, .int .i64 d, .int .i64 e, .int .i64 f]⟩ 25)) w.heap.size a b c d e f from heap_alloc_new w _)
  have HAW := Lib.hid (at0 awake30_gives (hg.below HB0.out))
  have HBE := Lib.hid (best_gives a b c d e f)
  rw [show bestR a b c d e f = (0, 0, 0, 0, 1) by unfold bestR; rw [hv]; rfl] at HBE
  have heq := fun w => eqSol (0, 0, 0, 0) (0, 0, 0, 0) w
  have hes : eqS (0, 0, 0, 0) (0, 0, 0, 0) = true := rfl
  rw [hes] at heq
  dsimp only at heq
  clear hg hv hes
  unfold triP at HBE ⊢
  go_enter Tryz.func6, Tryz.ntmps6
  go_wp2_with fail
  refine HAW.out.mono ?_
  rintro e w1 ⟨rfl, hb1⟩
  have HB1 := Lib.hid (HB0.out.trans (hb1.mono (by simp)))
  obtain ⟨p0, p1, p2, p3, p4, p5⟩ := (HK0.out.below hb1 (by simp)).keep
  have HB := Lib.hid (at1' HBE.out (HG.out.below HB1.out))
  clear hb1 HAW
  go_wp2_with fail
  refine HB.out.mono ?_
  rintro e w3 ⟨rfl, hb3⟩
  have HF := Lib.hid (show GP (.bool true) w (.returned (.bool true)) (w3.alloc (.cells #[.int .i64 0, .int .i64 0, .int .i64 0, .int .i64 0] 28)) from ⟨rfl, (HB1.out.trans (hb3.mono HB1.out.size)).alloc (Nat.le_trans HB1.out.size hb3.size) _⟩)
  clear hb3 HB p0 p1 p2 p3 p4 p5
  unfold solV
  go_wp2
  go_ret
  exact HF.out
set_option maxRecDepth 100000 in
set_option maxHeartbeats 8000000 in
theorem parts_yes {a b c d e f u v s : Int} (hv : triB a b c d e f = true) (hu : 0 ≤ u ∧ u ≤ 4294967295) (hvv : 0 ≤ v ∧ v ≤ 4294967295) (hss : 0 ≤ s ∧ s ≤ 4294967295) (w : World) (hg : Glob w) : Calls Tryz.prog 6 #[triP a b c d e f, .int .u32 u, .int .u32 v, .int .u32 s] w (GP (.bool true) w) := by
  obtain ⟨b1, b2, b3⟩ := tri_bd hv
  have l1 := lat_bd b1
  have l2 := lat_bd b2
  have l3 := aval_bd b3
  have k1 : pkP a b u = true := decide_eq_true (by omega)
  have k2 : pkP c d v = true := decide_eq_true (by omega)
  have k3 : pkP e f s = true := decide_eq_true (by omega)
  have n1 := pkN_bd k1
  have n2 := pkN_bd k2
  have n3 := pkN_bd k3
  have HP1 := Lib.hid (fun w hg => at2 (pkA_gives a b u k1) (w := w) hg)
  have HP2 := Lib.hid (fun w hg => at2 (pkA_gives c d v k2) (w := w) hg)
  have HP3 := Lib.hid (fun w hg => at2 (pkA_gives e f s k3) (w := w) hg)
  simp only [pkA] at HP1 HP2 HP3
  generalize pkN a b u = X at *
  generalize pkN c d v = Y at *
  generalize pkN e f s = T at *
  have hv' : triB X X Y Y T T = true := tri_mk (lat_mk (by omega) (by omega) (by omega)) (lat_mk (by omega) (by omega) (by omega)) (avalid_mk (by omega) (by omega) (by omega))
  obtain ⟨t1, t2, t3⟩ := tri_point hv'
  obtain ⟨h, z, hs⟩ := sees (X : Rat) (Y : Rat) (T : Rat)
  have hgood := all_good hv' t1 t2 t3 hs
  obtain ⟨q, hq, gq, _⟩ := best_good hv' t1 t2 t3 hs
  obtain ⟨r, hr, gr, _⟩ := best_good hv (TB.Hs.int (by grind) n1.1 n1.2) (TB.Hs.int (by grind) n2.1 n2.2) (TB.Hs.int (by grind) n3.1 n3.2) hs
  obtain ⟨H, Z, hcs, _, hho⟩ := cosine_hold hv'
  have gc := gd_of hho t1 t2 t3 hs
  have HBE := Lib.hid (best_gives a b c d e f)
  have HBP := Lib.hid (best_gives X X Y Y T T)
  have HCS := Lib.hid (csolM_gives X X Y Y T T)
  rw [hr] at HBE
  rw [hq] at HBP
  rw [hcs] at HCS
  have HAL := Lib.hid (fun w (hg : Glob w) => all_gives hv' w hg)
  have hn5 := allL_len X X Y Y T T
  have HG := Lib.hid hg
  have HGL := Lib.hid (show ∀ x ∈ allL X X Y Y T T ++ [q, (H.1, H.2.1, Z.1, Z.2.1)], Gd h z x from fun x hx => by
    rcases List.mem_append.1 hx with hx | hx
    · exact hgood.2 x hx
    · rcases List.mem_cons.1 hx with rfl | hx
      · exact gq
      · rcases List.mem_cons.1 hx with rfl | hx
        · exact gc
        · cases hx)
  have HGR := Lib.hid gr
  have HB0 := Lib.hid ((Below.refl w.heap.size w).alloc (Nat.le_refl _) (.cells ⟨[.int .i64 a, .int .i64 b, .int .i64 c, .int .i64 d, .int .i64 e, .int .i64 f]⟩ 25))
  have HK0 := Lib.hid (show Tk (w.alloc (.cells ⟨[.int .i64 a, .int .i64 b, .int .i64 c, .int .i64 d, .int .i64 e, .int .i64 f]⟩ 25)) w.heap.size a b c d e f from heap_alloc_new w _)
  have HAW := Lib.hid (at0 awake30_gives (hg.below HB0.out))
  obtain ⟨q1, q2, q3, q4⟩ := q
  obtain ⟨r1, r2, r3, r4⟩ := r
  obtain ⟨H1, H2, H3⟩ := H
  obtain ⟨Z1, Z2, Z3⟩ := Z
  dsimp only at HCS HGL
  clear hg hgood hq gq hr gr hcs hho gc t1 t2 t3 hs k1 k2 k3 n1 n2 n3 b1 b2 b3 l1 l2 l3 hu hvv hss hv hv'
  generalize allL X X Y Y T T = l at *
  obtain ⟨n, hn⟩ : ∃ n, l.length = n := ⟨_, rfl⟩
  rw [hn] at hn5
  have HN := Lib.hid hn
  clear hn
  unfold triP at HAL HBE HBP ⊢
  unfold pairV at HP1 HP2 HP3
  go_enter Tryz.func6, Tryz.ntmps6
  go_wp2_with fail
  refine HAW.out.mono ?_
  rintro e w1 ⟨rfl, hb1⟩
  have HB1 := Lib.hid (HB0.out.trans (hb1.mono (by simp)))
  have HK1 := Lib.hid (HK0.out.below hb1 (by simp))
  obtain ⟨p0, p1, p2, p3, p4, p5⟩ := HK1.out.keep
  have HB := Lib.hid (at1' HBE.out (HG.out.below HB1.out))
  clear hb1 HAW
  go_wp2_with fail
  refine HB.out.mono ?_
  rintro e w3 ⟨rfl, hb3⟩
  have hs3 := hb3.size
  have HB3 := Lib.hid ((HB1.out.trans (hb3.mono HB1.out.size)).alloc (Nat.le_trans HB1.out.size hs3) (.cells #[.int .i64 r1, .int .i64 r2, .int .i64 r3, .int .i64 r4] 28))
  have HK3 := Lib.hid (HK1.out.below (hb3.alloc hs3 (.cells #[.int .i64 r1, .int .i64 r2, .int .i64 r3, .int .i64 r4] 28)) HK1.out.lt)
  have HR3 := Lib.hid (Bk.new w3 (r1, r2, r3, r4))
  dsimp only at HR3
  clear hb3 HB p0 p1 p2 p3 p4 p5
  unfold solV
  go_wp2_with fail
  generalize hWW : (w3.alloc (.cells #[.int .i64 r1, .int .i64 r2, .int .i64 r3, .int .i64 r4] 28)) = W at *
  have HWs := Lib.hid (show W.heap.size = w3.heap.size + 1 by rw [← hWW]; simp)
  clear hWW
  obtain ⟨p0, p1, p2, p3, p4, p5⟩ := HK3.out.keep
  have lo1 := Lib.hid HK3.out.lt
  have HQ1 := Lib.hid (show ∀ W', Below W.heap.size W W' → Calls Tryz.prog 24 #[.agg #[.int .i64 a, .int .i64 b], .int .u32 u] W' (GP (.agg #[.int .i64 X, .int .i64 X]) W') from fun W' hW => HP1.out W' (HG.out.below (HB3.out.trans (hW.mono HB3.out.size))))
  have HQ2 := Lib.hid (show ∀ W', Below W.heap.size W W' → Calls Tryz.prog 24 #[.agg #[.int .i64 c, .int .i64 d], .int .u32 v] W' (GP (.agg #[.int .i64 Y, .int .i64 Y]) W') from fun W' hW => HP2.out W' (HG.out.below (HB3.out.trans (hW.mono HB3.out.size))))
  have HQ3 := Lib.hid (show ∀ W', Below W.heap.size W W' → Calls Tryz.prog 24 #[.agg #[.int .i64 e, .int .i64 f], .int .u32 s] W' (GP (.agg #[.int .i64 T, .int .i64 T]) W') from fun W' hW => HP3.out W' (HG.out.below (HB3.out.trans (hW.mono HB3.out.size))))
  clear HP1 HP2 HP3
  have HS0 := Lib.hid (show (W.cell? ⟨w.heap.size, 0, none⟩ = some (.int .i64 a) ∧ W.cell? ⟨w.heap.size, 1, none⟩ = some (.int .i64 b) ∧ W.cell? ⟨w.heap.size, 2, none⟩ = some (.int .i64 c) ∧ W.cell? ⟨w.heap.size, 3, none⟩ = some (.int .i64 d) ∧ W.cell? ⟨w.heap.size, 4, none⟩ = some (.int .i64 e) ∧ W.cell? ⟨w.heap.size, 5, none⟩ = some (.int .i64 f)) ∧ Below W.heap.size W W from ⟨⟨p0, p1, p2, p3, p4, p5⟩, Below.refl _ _⟩)
  go_cut [12] from 36 to 51 (fun v12 wx => ∃ g, v12 = Value.pointer (some ⟨g, 0, none⟩) ∧ W.heap.size ≤ g ∧ RowKit.Hid (Tk wx g X X Y Y T T) ∧ RowKit.Hid (Below W.heap.size W wx))
  case first =>
    go_region_held3 (fun w' => (w'.cell? ⟨w.heap.size, 0, none⟩ = some (.int .i64 a) ∧ w'.cell? ⟨w.heap.size, 1, none⟩ = some (.int .i64 b) ∧ w'.cell? ⟨w.heap.size, 2, none⟩ = some (.int .i64 c) ∧ w'.cell? ⟨w.heap.size, 3, none⟩ = some (.int .i64 d) ∧ w'.cell? ⟨w.heap.size, 4, none⟩ = some (.int .i64 e) ∧ w'.cell? ⟨w.heap.size, 5, none⟩ = some (.int .i64 f)) ∧ Below W.heap.size W w')
      (first
        | (with_reducible exact HS0.out)
        | (with_reducible exact SS.out)
        | (with_reducible refine keepTB lo1.out SS.out ?_
           first
             | (with_reducible exact below_set6n lo4 _ _ _ _ _ _ _)
             | (with_reducible exact Below.alloc (Below.refl _ _) lo3 _)
             | (with_reducible exact Below.drew (Below.refl _ _))
             | (with_reducible exact Below.drew (Below.alloc (Below.refl _ _) lo3 _)))
        | (with_reducible refine keepTB lo1.out HS0.out ?_
           first
             | (with_reducible exact Below.drew (Below.refl _ _))
             | (with_reducible exact Below.alloc (Below.refl _ _) (Nat.le_refl _) _)
             | (with_reducible exact Below.drew (Below.alloc (Below.refl _ _) (Nat.le_refl _) _)))
        | fail)
      (first
        | (go_at_call 24
           first
             | (with_reducible refine (HQ1.out _ (And.right (by assumption))).mono ?_)
             | (with_reducible refine (HQ2.out _ (And.right (by assumption))).mono ?_)
             | (with_reducible refine (HQ3.out _ (And.right (by assumption))).mono ?_)
           rintro e w4 ⟨rfl, hb4⟩
           have SS := Lib.hid (keepT (w1 := w4) (by assumption) hb4)
           first
             | (with_reducible have KC := Lib.hid (Tk.next (Tk.zero W) hb4)
                have lo4 := Nat.le_refl W.heap.size
                have uk := KC.out.keep
                have uf := KC.out.frozen
                have uk0 := uk.1
                have uk1 := uk.2.1
                have uk2 := uk.2.2.1
                have uk3 := uk.2.2.2.1
                have uk4 := uk.2.2.2.2.1
                have uk5 := uk.2.2.2.2.2
                have uf0 := uf.1
                have uf1 := uf.2.1
                have uf2 := uf.2.2.1
                have uf3 := uf.2.2.2.1
                have uf4 := uf.2.2.2.2.1
                have uf5 := uf.2.2.2.2.2
                clear uk uf)
             | (with_reducible have KC := Lib.hid (Tk.next (Tk.drew (Tk.zero W)) hb4)
                have lo4 := Nat.le_refl W.heap.size
                have uk := KC.out.keep
                have uf := KC.out.frozen
                have uk0 := uk.1
                have uk1 := uk.2.1
                have uk2 := uk.2.2.1
                have uk3 := uk.2.2.2.1
                have uk4 := uk.2.2.2.2.1
                have uk5 := uk.2.2.2.2.2
                have uf0 := uf.1
                have uf1 := uf.2.1
                have uf2 := uf.2.2.1
                have uf3 := uf.2.2.2.1
                have uf4 := uf.2.2.2.2.1
                have uf5 := uf.2.2.2.2.2
                clear uk uf)
             | (with_reducible have KC := Lib.hid (Tk.next (Tk.zero _) hb4)
                have lo4 := lo3
                have uk := KC.out.keep
                have uf := KC.out.frozen
                have uk0 := uk.1
                have uk1 := uk.2.1
                have uk2 := uk.2.2.1
                have uk3 := uk.2.2.2.1
                have uk4 := uk.2.2.2.2.1
                have uk5 := uk.2.2.2.2.2
                have uf0 := uf.1
                have uf1 := uf.2.1
                have uf2 := uf.2.2.1
                have uf3 := uf.2.2.2.1
                have uf4 := uf.2.2.2.2.1
                have uf5 := uf.2.2.2.2.2
                clear uk uf)
             | (with_reducible have KC := Lib.hid (Tk.next (Tk.drew (Tk.zero _)) hb4)
                have lo4 := lo3
                have uk := KC.out.keep
                have uf := KC.out.frozen
                have uk0 := uk.1
                have uk1 := uk.2.1
                have uk2 := uk.2.2.1
                have uk3 := uk.2.2.2.1
                have uk4 := uk.2.2.2.2.1
                have uk5 := uk.2.2.2.2.2
                have uf0 := uf.1
                have uf1 := uf.2.1
                have uf2 := uf.2.2.1
                have uf3 := uf.2.2.2.1
                have uf4 := uf.2.2.2.2.1
                have uf5 := uf.2.2.2.2.2
                clear uk uf)
             | (with_reducible have KD := Lib.hid (Tk.next KC.out hb4)
                clear uk0 uk1 uk2 uk3 uk4 uk5 uf0 uf1 uf2 uf3 uf4 uf5 KC
                have KC := KD
                have uk := KC.out.keep
                have uf := KC.out.frozen
                have uk0 := uk.1
                have uk1 := uk.2.1
                have uk2 := uk.2.2.1
                have uk3 := uk.2.2.2.1
                have uk4 := uk.2.2.2.2.1
                have uk5 := uk.2.2.2.2.2
                have uf0 := uf.1
                have uf1 := uf.2.1
                have uf2 := uf.2.2.1
                have uf3 := uf.2.2.2.1
                have uf4 := uf.2.2.2.2.1
                have uf5 := uf.2.2.2.2.2
                clear uk uf)
             | (with_reducible have KD := Lib.hid (Tk.next (Tk.drew KC.out) hb4)
                clear uk0 uk1 uk2 uk3 uk4 uk5 uf0 uf1 uf2 uf3 uf4 uf5 KC
                have KC := KD
                have uk := KC.out.keep
                have uf := KC.out.frozen
                have uk0 := uk.1
                have uk1 := uk.2.1
                have uk2 := uk.2.2.1
                have uk3 := uk.2.2.2.1
                have uk4 := uk.2.2.2.2.1
                have uk5 := uk.2.2.2.2.2
                have uf0 := uf.1
                have uf1 := uf.2.1
                have uf2 := uf.2.2.1
                have uf3 := uf.2.2.2.1
                have uf4 := uf.2.2.2.2.1
                have uf5 := uf.2.2.2.2.2
                clear uk uf)
             | skip
           have lo3 := SS.out.2.size)
        | fail)
    all_goals (go_wp2_with fail)
    all_goals (
      go_meet
      first
        | exact ⟨_, rfl, lo3, Lib.hid (heap_alloc_new _ _), Lib.hid (Below.alloc SS.out.2 lo3 _)⟩
        | exact ⟨_, rfl, lo4, Lib.hid (Tk.write KC.out X X Y Y T T), Lib.hid (below_set6 SS.out.2 lo4 _ _ _ _ _ _)⟩)
  case rest =>
    have hWs := HWs.out
    obtain ⟨g, rfl, hg1, hg2, hg3⟩ := hcut
    obtain ⟨wa, hwa⟩ : ∃ x, x = wc := ⟨_, rfl⟩
    subst hwa
    clear p0 p1 p2 p3 p4 p5 HQ1 HQ2 HQ3 HS0
    have HBa := Lib.hid (HB3.out.trans (hg3.out.mono HB3.out.size))
    have hsa := hg3.out.size
    have HRa := Lib.hid (show Bk wa w3.heap.size (r1, r2, r3, r4) from HR3.out.below hg3.out (by omega))
    obtain ⟨p0, p1, p2, p3, p4, p5⟩ := hg2.out.keep
    have HA := Lib.hid (HAL.out wa (HG.out.below HBa.out))
    go_wp2_with fail
    refine HA.out.mono ?_
    rintro e w4 ⟨A, cp, rfl, hown, hb4⟩
    rw [HN.out] at hown
    rw [HN.out]
    have HO4 := Lib.hid hown
    have hs4 := hb4.size
    have HB4 := Lib.hid (HBa.out.trans (hb4.mono HBa.out.size))
    have HT4 := Lib.hid (hg2.out.next hb4)
    have HR4 := Lib.hid (HRa.out.next hb4)
    clear p0 p1 p2 p3 p4 p5 hown hb4 HA
    obtain ⟨p0, p1, p2, p3, p4, p5⟩ := HT4.out.keep
    have HP := Lib.hid (at1' HBP.out (HG.out.below HB4.out))
    unfold solV at HP
    go_wp2_with fail
    refine HP.out.mono ?_
    rintro e w5 ⟨rfl, hb5⟩
    have hs5 := hb5.size
    have HO5 := Lib.hid (own_below2 (own_below2 HO4.out hb5) ((Below.refl _ _).alloc (Nat.le_refl _) (.cells #[.int .i64 q1, .int .i64 q2, .int .i64 q3, .int .i64 q4] 28)))
    have HT5 := Lib.hid ((HT4.out.next hb5).next ((Below.refl _ _).alloc (Nat.le_refl _) (.cells #[.int .i64 q1, .int .i64 q2, .int .i64 q3, .int .i64 q4] 28)))
    have HR5 := Lib.hid ((HR4.out.next hb5).next ((Below.refl _ _).alloc (Nat.le_refl _) (.cells #[.int .i64 q1, .int .i64 q2, .int .i64 q3, .int .i64 q4] 28)))
    have HB5 := Lib.hid ((HB4.out.trans (hb5.mono HB4.out.size)).alloc (Nat.le_trans HB4.out.size hs5) (.cells #[.int .i64 q1, .int .i64 q2, .int .i64 q3, .int .i64 q4] 28))
    have HQ5 := Lib.hid (show Bk (w5.alloc (.cells #[.int .i64 q1, .int .i64 q2, .int .i64 q3, .int .i64 q4] 28)) w5.heap.size (q1, q2, q3, q4) from Bk.new w5 (q1, q2, q3, q4))
    clear p0 p1 p2 p3 p4 p5 HP
    obtain ⟨p0, p1, p2, p3, p4, p5⟩ := (HT4.out.next hb5).keep
    have hgl : g < w5.heap.size := Nat.lt_of_lt_of_le HT4.out.lt hs5
    have HC := Lib.hid (at1' HCS.out (HG.out.below HB5.out))
    unfold solV at HC
    clear hb5
    go_wp2_with fail
    refine HC.out.mono ?_
    rintro e w6 ⟨rfl, hb6⟩
    have hs6 := hb6.size
    have HO6 := Lib.hid (own_below2 (own_below2 HO5.out hb6) ((Below.refl _ _).alloc (Nat.le_refl _) (.cells #[.int .i64 H1, .int .i64 H2, .int .i64 Z1, .int .i64 Z2] 28)))
    have HR6 := Lib.hid ((HR5.out.next hb6).next ((Below.refl _ _).alloc (Nat.le_refl _) (.cells #[.int .i64 H1, .int .i64 H2, .int .i64 Z1, .int .i64 Z2] 28)))
    have HB6 := Lib.hid ((HB5.out.trans (hb6.mono HB5.out.size)).alloc (Nat.le_trans HB5.out.size hs6) (.cells #[.int .i64 H1, .int .i64 H2, .int .i64 Z1, .int .i64 Z2] 28))
    have HQ6 := Lib.hid (show Bk (w6.alloc (.cells #[.int .i64 H1, .int .i64 H2, .int .i64 Z1, .int .i64 Z2] 28)) w5.heap.size (q1, q2, q3, q4) from (HQ5.out.next hb6).next ((Below.refl _ _).alloc (Nat.le_refl _) _))
    have HZ6 := Lib.hid (show Bk (w6.alloc (.cells #[.int .i64 H1, .int .i64 H2, .int .i64 Z1, .int .i64 Z2] 28)) w6.heap.size (H1, H2, Z1, Z2) from Bk.new w6 (H1, H2, Z1, Z2))
    have hql : w5.heap.size < w6.heap.size := by
      have := hs6
      simp at this
      omega
    obtain ⟨⟨y0, y1, y2, y3⟩, _, _, _, _⟩ := (HQ5.out.next hb6).keep
    dsimp only at y0 y1 y2 y3
    clear p0 p1 p2 p3 p4 p5 hb6 HC
    have HO7 := Lib.hid (own_below2 HO6.out ((Below.refl _ _).alloc (Nat.le_refl _) (.cells #[.int .i64 q1, .int .i64 q2, .int .i64 q3, .int .i64 q4, .int .i64 H1, .int .i64 H2, .int .i64 Z1, .int .i64 Z2] 28)))
    have HR7 := Lib.hid (HR6.out.next ((Below.refl _ _).alloc (Nat.le_refl _) (.cells #[.int .i64 q1, .int .i64 q2, .int .i64 q3, .int .i64 q4, .int .i64 H1, .int .i64 H2, .int .i64 Z1, .int .i64 Z2] 28)))
    have HB7 := Lib.hid (HB6.out.alloc HB6.out.size (.cells #[.int .i64 q1, .int .i64 q2, .int .i64 q3, .int .i64 q4, .int .i64 H1, .int .i64 H2, .int .i64 Z1, .int .i64 Z2] 28))
    obtain ⟨i0, hi0, hz0, hz1, hz2⟩ := info_parts sol_info
    go_wp2_with (at_builtin; refine wpList_append_own _ rfl (.tmp 77) (.tmp 80) 35 rfl wa.heap.size 28 i0 (.agg #[.int .i64 0, .int .i64 0, .int .i64 0, .int .i64 0]) 4 32 Tryz.underlying35 hi0 hz0 hz1 hz2 rfl (by decide) (.slice A n cp) n _ rfl HO7.out ⟨w6.heap.size + 1, 0, none⟩ 2 2 [.int .i64 q1, .int .i64 q2, .int .i64 q3, .int .i64 q4, .int .i64 H1, .int .i64 H2, .int .i64 Z1, .int .i64 Z2] rfl rfl ?c1 ?c2 ?c3 ?c4 ?c5 ?_)
    case c1 => exact eight_new w6 (.cells #[.int .i64 H1, .int .i64 H2, .int .i64 Z1, .int .i64 Z2] 28) (q1, q2, q3, q4) (H1, H2, Z1, Z2)
    case c2 => intro u hu; simp at hu; rcases hu with rfl | rfl | rfl | rfl | rfl | rfl | rfl | rfl <;> rfl
    case c3 => unfold maxLen; omega
    case c4 => omega
    case c5 => have := Nat.le_trans hs4 hs5; simp at *; omega
    intro v' w8 hown8 hg8 _
    have hfl : flatS l ++ [.int .i64 q1, .int .i64 q2, .int .i64 q3, .int .i64 q4, .int .i64 H1, .int .i64 H2, .int .i64 Z1, .int .i64 Z2] = flatS (l ++ [(q1, q2, q3, q4), (H1, H2, Z1, Z2)]) := by simp [flatS]
    rw [hfl] at hown8
    obtain ⟨A8, c8, rfl⟩ := own_slice2 hown8
    have HS8 := Lib.hid (sols_of hown8 (by omega))
    have HN8 := Lib.hid (show (l ++ [(q1, q2, q3, q4), (H1, H2, Z1, Z2)]).length = n + 2 by rw [List.length_append, HN.out]; rfl)
    have HB8 := Lib.hid (HB7.out.grown hg8 HB7.out.size (fun k hk => Nat.le_trans HBa.out.size (HO7.out.lt k hk).1))
    have HR8 := Lib.hid (show Bk w8 w3.heap.size (r1, r2, r3, r4) from (hg8.block _ HR7.out.lt (fun e => by have := (HO7.out.lt _ e.symm).1; have := hsa; omega)).trans HR7.out)
    clear hg8 hown8 hfl y0 y1 y2 y3
    go_wp2_with fail
    generalize l ++ [(q1, q2, q3, q4), (H1, H2, Z1, Z2)] = L at *
    go_loopw [83] (fun vv wr => ∃ k : Nat, k ≤ n + 2 ∧ vv = .int .i64 (k : Int) ∧ Below w8.heap.size w8 wr) (fun vv _ => n + 2 - (intOf vv).toNat)
    case atStart => exact ⟨0, by omega, rfl, Below.refl _ _⟩
    case round =>
      obtain ⟨k, hk, rfl, hbel⟩ := hrel
      have HBr := Lib.hid hbel
      have hsr := hbel.size
      by_cases hlt : k < n + 2
      · obtain ⟨b1, off, x1, x2, x3, x4, rfl, hb1, hy, d0, d1, d2, d3⟩ := HS8.out.at_ hlt hbel
        have hx := HGL.out _ (getD_mem (l := L) (k := k) (by rw [HN8.out]; exact hlt))
        rw [hy] at hx
        have ag := gd_agree hx HGR.out
        dsimp only at ag
        have HB9 := Lib.hid (HB8.out.trans (HBr.out.mono HB8.out.size))
        have HX9 := Lib.hid (Bk.new wr (x1, x2, x3, x4))
        have hrl := HR8.out.lt
        have HRr := Lib.hid (HR8.out.next HBr.out)
        have HCA := Lib.hid (at2 (agreeR_gives x3 x4 r3 r4) (HG.out.below (HB9.out.alloc HB9.out.size (.cells #[.int .i64 x1, .int .i64 x2, .int .i64 x3, .int .i64 x4] 28))))
        rw [ag.1] at HCA
        have hmz := ag.2
        obtain ⟨m1, m2, m3, hm⟩ : ∃ m1 m2 m3, ameetR x1 x2 r1 r2 = (m1, m2, m3) := ⟨_, _, _, rfl⟩
        rw [hm] at hmz
        dsimp only at hmz
        subst hmz
        have HMT := Lib.hid (show ∀ w, Glob w → Calls Tryz.prog 28 #[.agg #[.int .i64 x1, .int .i64 x2], .agg #[.int .i64 r1, .int .i64 r2]] w (GP (.tuple #[.agg #[.int .i64 m1, .int .i64 m2], .int .i64 0]) w) from fun w hg => by
          have := at2 (ameetR_gives x1 x2 r1 r2) hg
          rw [hm] at this
          exact this)
        obtain ⟨⟨t0, t1, t2, t3⟩, _, _, _, _⟩ := HRr.out.keep
        dsimp only at t0 t1 t2 t3
        have hrw : w3.heap.size < wr.heap.size := by omega
        clear hy hx ag hm hbel
        unfold boolV at HCA
        go_wp2_with fail
        refine HCA.out.mono ?_
        rintro e wz ⟨rfl, hbz⟩
        have hsz := hbz.size
        simp at hsz
        have HBz := Lib.hid ((HB9.out.alloc HB9.out.size (.cells #[.int .i64 x1, .int .i64 x2, .int .i64 x3, .int .i64 x4] 28)).trans (hbz.mono (Nat.le_trans HB9.out.size (by simp))))
        have HBy := Lib.hid ((HBr.out.alloc hsr (.cells #[.int .i64 x1, .int .i64 x2, .int .i64 x3, .int .i64 x4] 28)).trans (hbz.mono (Nat.le_trans hsr (by simp))))
        obtain ⟨⟨u0, u1, u2, u3⟩, _, _, _, _⟩ := (show Bk wz wr.heap.size (x1, x2, x3, x4) from HX9.out.next hbz).keep
        dsimp only at u0 u1 u2 u3
        clear t0 t1 t2 t3 d0 d1 d2 d3
        obtain ⟨⟨t0, t1, t2, t3⟩, _, _, _, _⟩ := ((HRr.out.next ((Below.refl _ _).alloc (Nat.le_refl _) (.cells #[.int .i64 x1, .int .i64 x2, .int .i64 x3, .int .i64 x4] 28))).next hbz).keep
        dsimp only at t0 t1 t2 t3
        have HM6 := Lib.hid (HMT.out wz (HG.out.below HBz.out))
        clear hbz HCA
        go_wp2_with fail
        refine HM6.out.mono ?_
        rintro e wy ⟨rfl, hby⟩
        have HST := Lib.hid (show Below w8.heap.size w8 (wy.alloc (.cells #[.int .i64 m1, .int .i64 m2] 23)) from (HBy.out.trans (hby.mono HBy.out.size)).alloc (Nat.le_trans HBy.out.size hby.size) _)
        clear hby t0 t1 t2 t3 u0 u1 u2 u3 HM6
        go_wp2
        go_roundw
        case rel => exact ⟨k + 1, by omega, by go_num, HST.out⟩
        case measure => simp [intOf]; omega
      · have HF := Lib.hid (show GP (.bool true) w (.returned (.bool true)) wr from ⟨rfl, HB8.out.trans (HBr.out.mono HB8.out.size)⟩)
        clear hbel
        go_wp2
        go_ret
        exact HF.out
theorem re61_any (a b c d e f u v s : Int) (hu : 0 ≤ u ∧ u ≤ 4294967295) (hv : 0 ≤ v ∧ v ≤ 4294967295) (hs : 0 ≤ s ∧ s ≤ 4294967295) : Gives Tryz.prog 6 [.agg ⟨[.int .i64 a, .int .i64 b, .int .i64 c, .int .i64 d, .int .i64 e, .int .i64 f]⟩, .int .u32 u, .int .u32 v, .int .u32 s] (.bool true) := fun w hg => by
  cases h : triB a b c d e f with
  | true => exact parts_yes h hu hv hs w hg
  | false => exact parts_no h w hg
end Go.Proofs.YtmididlfnajhiaaGreatDoor

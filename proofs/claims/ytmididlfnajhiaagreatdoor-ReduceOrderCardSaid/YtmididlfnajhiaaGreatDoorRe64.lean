/-
  ReduceOrder answers true for every input and leaves it alone. No condition.
-/
import Derived.Test.YtmididlfnajhiaaGreatDoorJ
import Derived.Test.YtmididlfnajhiaaGreatDoorV30
import Derived.Deep.Strs
import Derived.Deep.Slices
import Derived.Test.YtmididlfnajhiaaGreatDoorTie
import Derived.Test.YtmididlfnajhiaaGreatDoorCards
import Derived.ProofKit
import Derived.LaidMore
import Derived.OpenShut
import Derived.Stop.Joined
import Derived.SevenTiedAt
namespace Go.Proofs.YtmididlfnajhiaaGreatDoor
open Go.ChangeShapes Go.WideShapes Go.ChangeAt Go.RowKit Go.Joins
theorem two_cells {cs : List Value} {s t : Int} (hl : cs.length = 2) (e1 : (cs.drop 0).take 1 = [.int .i64 s]) (e2 : (cs.drop 1).take 1 = [.int .i64 t]) : ∃ a b, cs = [.int .i64 a, .int .i64 b] := by
  match cs, hl with
  | [c0, c1], _ =>
    simp at e1 e2
    exact ⟨s, t, by rw [e1, e2]⟩
theorem six_cells {cs : List Value} {a b c d e f : Int} (hl : cs.length = 6) (e1 : (cs.drop 0).take 2 = [.int .i64 a, .int .i64 b]) (e2 : (cs.drop 2).take 2 = [.int .i64 c, .int .i64 d]) (e3 : (cs.drop 4).take 2 = [.int .i64 e, .int .i64 f]) :
    ∃ a b c d e f, cs = [.int .i64 a, .int .i64 b, .int .i64 c, .int .i64 d, .int .i64 e, .int .i64 f] := by
  match cs, hl with
  | [c0, c1, c2, c3, c4, c5], _ =>
    simp at e1 e2 e3
    exact ⟨a, b, c, d, e, f, by rw [e1.1, e1.2, e2.1, e2.2, e3.1, e3.2]⟩
section
variable {H : Type} {enc : TypeId × Value → H} {w : World} {base : Nat} {spare : Nat → Bool} {held : Bool}
set_option maxRecDepth 100000 in
theorem pair_cells23 {n : Nat} {cs : List Value} {x : DataW H × List MemPlace} (h : DataW.trod enc Tryz.prog w base spare held n 23 cs = some x) : ∃ a b, cs = [.int .i64 a, .int .i64 b] := by
  obtain ⟨y0, y1, m, _, hl, h0, h1⟩ := trod_struct2 Tryz.underlying23 h
  have hc : Tryz.prog.cellsOf 23 = 2 := by kernel_rfl
  have h3 : Tryz.prog.cellsOf 3 = 1 := by kernel_rfl
  rw [hc] at hl
  obtain ⟨s, e1, _⟩ := DataW.trod_int Tryz.underlying3 h0
  obtain ⟨t, e2, _⟩ := DataW.trod_int Tryz.underlying3 h1
  rw [h3] at e1 e2
  exact two_cells hl e1 e2
set_option maxRecDepth 100000 in
theorem open_pair23 {r : Reach} {b0 : Nat} {v : Value} {d : DataW H} {p : List MemPlace} (hv : Value.okWide Tryz.prog w r b0 23 v) (h : DataW.Trod enc Tryz.prog w base spare held 23 v d p) : ∃ a b, v = .agg #[.int .i64 a, .int .i64 b] := by
  obtain ⟨cs, rfl, _⟩ := okWide_struct Tryz.underlying23 hv
  obtain ⟨fuel, hf⟩ := h
  obtain ⟨a, b, e⟩ := pair_cells23 hf
  have e' : cs = #[.int .i64 a, .int .i64 b] := Array.toList_inj.1 e
  exact ⟨a, b, by rw [e']⟩
theorem four_cells {cs : List Value} {a b c d : Int} (hl : cs.length = 4) (e1 : (cs.drop 0).take 2 = [.int .i64 a, .int .i64 b]) (e2 : (cs.drop 2).take 2 = [.int .i64 c, .int .i64 d]) :
    ∃ a b c d, cs = [.int .i64 a, .int .i64 b, .int .i64 c, .int .i64 d] := by
  match cs, hl with
  | [c0, c1, c2, c3], _ =>
    simp at e1 e2
    exact ⟨a, b, c, d, by rw [e1.1, e1.2, e2.1, e2.2]⟩
set_option maxRecDepth 100000 in
theorem sol_cells {n : Nat} {cs : List Value} {x : DataW H × List MemPlace} (h : DataW.trod enc Tryz.prog w base spare held n 28 cs = some x) : ∃ a b c d, cs = [.int .i64 a, .int .i64 b, .int .i64 c, .int .i64 d] := by
  obtain ⟨y0, y1, m, _, hl, h0, h1⟩ := trod_struct2 Tryz.underlying28 h
  have hc : Tryz.prog.cellsOf 28 = 4 := by kernel_rfl
  have h3 : Tryz.prog.cellsOf 23 = 2 := by kernel_rfl
  rw [hc] at hl
  obtain ⟨a, b, e1⟩ := pair_cells23 h0
  obtain ⟨c, d, e2⟩ := pair_cells23 h1
  rw [h3] at e1 e2
  exact four_cells hl e1 e2
set_option maxRecDepth 100000 in
theorem open_sol {r : Reach} {b0 : Nat} {v : Value} {d : DataW H} {p : List MemPlace} (hv : Value.okWide Tryz.prog w r b0 28 v) (h : DataW.Trod enc Tryz.prog w base spare held 28 v d p) :
    ∃ a b c d, v = .agg #[.int .i64 a, .int .i64 b, .int .i64 c, .int .i64 d] := by
  obtain ⟨cs, rfl, _⟩ := okWide_struct Tryz.underlying28 hv
  obtain ⟨fuel, hf⟩ := h
  obtain ⟨a, b, c, d, q⟩ := sol_cells hf
  have e' : cs = #[.int .i64 a, .int .i64 b, .int .i64 c, .int .i64 d] := Array.toList_inj.1 q
  exact ⟨a, b, c, d, by rw [e']⟩
set_option maxRecDepth 100000 in
theorem open_sols {v : Value} {fuel : Nat} {x : DataW H × List MemPlace} (h : DataW.trod enc Tryz.prog w base spare held fuel 35 [v] = some x) :
    ∃ A n c l, v = .slice A n c ∧ Sols w A n l ∧ n ≤ c ∧ c ≤ 9223372036854775807 := by
  have hce : Tryz.prog.cellsOf 28 = 4 := by kernel_rfl
  rcases Go.Deep.open_slice Tryz.underlying35 h with ⟨hcs, _⟩ | ⟨a, len, cap, m, n, D, Pl, hcs, _, hl, hm, hmm, _, hx⟩
  · simp at hcs
    subst hcs
    exact ⟨none, 0, 0, [], rfl, ⟨rfl, by omega, fun h => absurd h (by omega)⟩, Nat.le_refl _, by omega⟩
  · simp at hcs
    subst hcs
    have hlm : len ≤ m := by rw [hmm]; split <;> omega
    unfold maxLen at hm
    have each : ∀ i, ∃ s : Sol, i < len → w.cell? ((a.add (i * 4)).add 0) = some (.int .i64 s.1) ∧ w.cell? ((a.add (i * 4)).add 1) = some (.int .i64 s.2.1) ∧ w.cell? ((a.add (i * 4)).add 2) = some (.int .i64 s.2.2.1) ∧ w.cell? ((a.add (i * 4)).add 3) = some (.int .i64 s.2.2.2) := by
      intro i
      by_cases hi : i < len
      · obtain ⟨cs', h1, h2⟩ := hx i (by omega)
        rw [hce] at h1
        obtain ⟨_, hlen, hcell⟩ := World.cells?_some h1
        obtain ⟨p, q, r, s, hc4⟩ := sol_cells h2
        subst hc4
        have g0 := hcell 0 (by omega)
        have g1 := hcell 1 (by omega)
        have g2 := hcell 2 (by omega)
        have g3 := hcell 3 (by omega)
        exact ⟨(p, q, r, s), fun _ => ⟨by simpa using g0, by simpa using g1, by simpa using g2, by simpa using g3⟩⟩
      · exact ⟨nos, fun h => absurd h hi⟩
    obtain ⟨f, hf⟩ := Classical.axiomOfChoice each
    by_cases h0 : len = 0
    · subst h0
      exact ⟨some a, 0, cap, [], rfl, ⟨rfl, by omega, fun h => absurd h (by omega)⟩, hl, by omega⟩
    obtain ⟨b, off, spot⟩ := a
    have hspot : spot = none := by simpa [Addr.add] using World.cell?_spot (hf 0 (by omega)).1
    subst hspot
    have ad : ∀ o j, (⟨b, o, none⟩ : Addr).add j = ⟨b, o + j, none⟩ := fun o j => by unfold Addr.add; split <;> simp_all
    have hbl : b < w.heap.size := by
      have := World.block_lt_of_cell? w _ (hf 0 (by omega)).1
      rw [ad, ad] at this
      exact this
    have hlen4 : len ≤ 9223372036854775807 := by omega
    refine ⟨some ⟨b, off, none⟩, len, cap, (List.range len).map f, rfl, ⟨by simp, hlen4, fun hn => ⟨b, off, rfl, hbl, fun i hi => ?_⟩⟩, hl, by omega⟩
    have e := hf i hi
    rw [ad, ad, ad, ad, ad] at e
    have eg : ((List.range len).map f).getD i nos = f i := by simp [List.getD_eq_getElem?_getD, hi]
    rw [eg]
    exact ⟨e.1, e.2.1, e.2.2.1, e.2.2.2⟩
end
set_option maxRecDepth 100000 in
theorem glob_met {W : World} (h : laidMetH Tryz.prog [("almucantar/halfangle.quarter", Rows.laid_almucantar_halfangle_quarter)] W) : Ev.Glob W := by
  rw [MakeChecks.laidMetH_plain _ _ _ (by kernel_rfl)] at h
  obtain ⟨ps, ⟨g0, t0, cs0, f0, p0, q0, hg0, ht0, hv0, hd0, _, _⟩, _, _⟩ := h
  obtain rfl := Option.some.inj ((show Tryz.prog.globalNamed "almucantar/halfangle.quarter" = some 0 by kernel_rfl).symm.trans hg0)
  obtain rfl := Option.some.inj ((show (Tryz.prog.globals[0]?).map (·.type) = some 23 by kernel_rfl).symm.trans ht0)
  obtain ⟨y0, y1, m, hx, hl, h0, h1⟩ := trod_struct2 Tryz.underlying23 hd0
  have hc : Tryz.prog.cellsOf 23 = 2 := by kernel_rfl
  have h3 : Tryz.prog.cellsOf 3 = 1 := by kernel_rfl
  rw [hc] at hl
  obtain ⟨s, e1, e1', _⟩ := DataW.trod_int Tryz.underlying3 h0
  obtain ⟨t, e2, e2', _⟩ := DataW.trod_int Tryz.underlying3 h1
  rw [h3] at e1 e2
  subst e1' e2'
  simp only [Rows.laid_almucantar_halfangle_quarter, Prod.mk.injEq, DataW.agg.injEq, List.cons.injEq, DataW.lit.injEq, Lit.int.injEq, true_and, and_true] at hx
  obtain ⟨⟨rfl, rfl⟩, _⟩ := hx
  obtain ⟨a, b, hab, ha, hb⟩ : ∃ a b, cs0.toList = [.int .i64 a, .int .i64 b] ∧ a = 5400000 ∧ b = 5400000 := by
    match hcs : cs0.toList, hl with
    | [c0, c1], _ =>
      rw [hcs] at e1 e2
      simp at e1 e2
      exact ⟨5400000, 5400000, by rw [e1, e2], rfl, rfl⟩
  subst ha hb
  intro e he
  have he' : e = (0, [.int .i64 5400000, .int .i64 5400000]) := by simpa [Ev.GS] using he
  subst he'
  unfold World.var? at hv0
  rw [hg0] at hv0
  simp only [Option.bind_some] at hv0
  split at hv0
  · rename_i cs ty fz hh
    cases hv0
    refine ⟨ty, fz, ?_⟩
    rw [hh]
    obtain ⟨l⟩ := cs0
    simp only at hab
    subst hab
    rfl
  · cases hv0
theorem door_met (os : Os) (args : Array Value) : laidMetH Tryz.prog [("almucantar/halfangle.quarter", Rows.laid_almucantar_halfangle_quarter)] ((World.doorLaid Tryz.prog 400 os).forCall (fun _ _ => 0) ⟨#[], args, []⟩).memory :=
  laidMetH_of_parts3 (fuel := 8) (laidMet_of_run' 8 (by kernel_rfl) (by kernel_rfl)) (by kernel_rfl) (by kernel_rfl)
set_option maxRecDepth 100000 in
theorem re64_lifted (os : Os) (started : os.Started) (H : Type) (enc : TypeId × Value → H) :
    ReturnsInHanded {} Tryz.checked os 9 .any (fun w args => (Rows.reduceOrderSpec.pre enc Tryz.prog Tryz.f9 [] false w args ∧ laidMetH Tryz.prog [("almucantar/halfangle.quarter", Rows.laid_almucantar_halfangle_quarter)] w) ∧ sizedMet enc Tryz.prog Tryz.f9 (OpenSpec.ofChange Rows.reduceOrderSpec) false w args)
      (Rows.reduceOrderSpec.post enc Tryz.prog Tryz.f9 false true false false) := by
  refine returnsInHanded_of_change_and (C := Tryz.checked) (X := fun w _ => laidMetH Tryz.prog [("almucantar/halfangle.quarter", Rows.laid_almucantar_halfangle_quarter)] w) (fun _ _ _ hh h => h.of_heap hh) Tryz.own started (by kernel_rfl) Tryz.func9
    (ChangeSpec.witness_shaped (enc := enc) (C := Tryz.checked) (os := os) (X := fun w _ => laidMetH Tryz.prog [("almucantar/halfangle.quarter", Rows.laid_almucantar_halfangle_quarter)] w) false (World.doorLaid Tryz.prog 400 os) #[.slice none 0 0] 8 rfl (World.shaped_of_RefB (by kernel_rfl) (by kernel_rfl)) (by kernel_rfl) (by kernel_rfl) (by kernel_rfl) (door_met os _)) ?_
  intro W base args ds gs before hval0 hW _ _ hL _
  have hval : ∀ (j : Nat) t v, Tryz.f9.params[j]? = some t → args[j]? = some v → Value.okWide Tryz.prog W .any base t v := hval0
  have hW' := hW
  obtain ⟨p, q, hA0, hV, rfl, hfz, hnd⟩ := hW
  have hA : DataW.TrodAll enc Tryz.prog W 0 (fun _ => true) true Tryz.f9.params.toList args.toList ds p := hA0
  have hAk := hA
  rw [Tryz.params9] at hA hval
  obtain ⟨v0, d0, rfl, rfl, h0⟩ := trodAll_one hA
  obtain ⟨rfl, rfl⟩ := trodVars_none hV
  obtain ⟨A0, n0, c0, rfl⟩ := okWide_slice Tryz.underlying35 (hval 0 35 v0 rfl rfl)
  obtain ⟨fuel0, hf0⟩ := h0
  obtain ⟨A2, n2, c2, l0, e3, hB0, hnc0, hcc0⟩ := open_sols (v := .slice A0 n0 c0) hf0
  injection e3 with i1 i2 i3
  subst i1 i2 i3
  simp only [List.append_nil] at hW' hAk
  refine (order_any A0 n0 c0 l0 W (glob_met hL) hB0 hnc0 hcc0).mono fun e W' ⟨he, hw⟩ => ?_
  subst he
  exact ⟨_, rfl, law_post hW' rfl hAk rfl rfl rfl rfl (by rw [Tryz.params9]; decide +kernel) hw⟩

theorem re64_holds : Rows.ReduceOrderSaid :=
  OpenClaim.holds_of_wide 9 Tryz.f9 rfl rfl rfl rfl rfl rfl rfl ⟨rfl, rfl, rfl, rfl, rfl⟩ rfl rfl rfl rfl rfl (by kernel_rfl) Tryz.func9 (by kernel_rfl)
    (of_decide_eq_true (by kernel_rfl)) (by unfold Func.isWrapper; first | (rw [if_pos (by decide +kernel)]; kernel_rfl) | (rw [if_neg (by decide +kernel)]; exact ⟨rfl, rfl⟩))
    (fun os started H enc _ => re64_lifted os started H enc)
#print axioms re64_holds
theorem re64_card : Rows.ReduceOrderCardSaid :=
  Claim7.holds_tied_plain_at .later [] [.data] true (true, "8cfefaddb83d23289332c3a6c0d85871fed7cb0636be8185e43260805103d721") false
    re64_holds (fun _ h => by cases h) (by kernel_rfl) (fun _ h => by cases h) reduceOrder_row_tie rfl ⟨rfl, rfl⟩ (by kernel_rfl) rfl
    (fun f fn hf hfn => by
      obtain rfl : f = 9 := Option.some.inj ((show Tryz.prog.funcNamed "almucantar/almucantarlaw30.ReduceOrder" = some 9 by kernel_rfl).symm.trans hf) |>.symm
      obtain rfl : fn = Tryz.f9 := (Option.some.inj (Tryz.func9.symm.trans hfn)).symm
      exact ⟨by kernel_rfl, fun j t ht => by
        rw [Tryz.params9] at ht
        have hm : t ∈ [35] := by simpa using Array.mem_of_getElem? ht
        have hall : ([35].all fun u => !Tryz.prog.wantsStandIn u) = true := by kernel_rfl
        exact (show Tryz.prog.wantsStandIn t = false by simpa using List.all_eq_true.1 hall t hm)⟩)
    (by kernel_rfl)
#print axioms re64_card
end Go.Proofs.YtmididlfnajhiaaGreatDoor

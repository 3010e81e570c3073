/-
  HalfangleTriangles answers true for every input and leaves it alone. No condition.
-/
import Derived.Test.YtipjnfabodfkcaaDoorJ
import Derived.Test.YtipjnfabodfkcaaDoorL28t
import Derived.Deep.Strs
import Derived.Test.YtipjnfabodfkcaaDoorTie
import Derived.Test.YtipjnfabodfkcaaDoorCards
import Derived.ProofKit
import Derived.LaidMore
import Derived.OpenShut
import Derived.Stop.Joined
import Derived.SevenTiedAt
namespace Go.Proofs.YtipjnfabodfkcaaDoor
open Go.ChangeShapes Go.WideShapes Go.ChangeAt Go.RowKit Go.Joins
theorem two_cells {cs : List Value} {s t : Int} (hl : cs.length = 2) (e1 : (cs.drop 0).take 1 = [.int .i64 s]) (e2 : (cs.drop 1).take 1 = [.int .i64 t]) : ∃ a b, cs = [.int .i64 a, .int .i64 b] := by
  match cs, hl with
  | [c0, c1], _ =>
    simp at e1 e2
    exact ⟨s, t, by rw [e1, e2]⟩
theorem six_cells {cs : List Value} {a b c d e f : Int} (hl : cs.length = 6) (e1 : (cs.drop 0).take 2 = [.int .i64 a, .int .i64 b]) (e2 : (cs.drop 2).take 2 = [.int .i64 c, .int .i64 d]) (e3 : (cs.drop 4).take 2 = [.int .i64 e, .int .i64 f]) :
    ∃ a b c d e f, cs = [.int .i64 a, .int .i64 b, .int .i64 c, .int .i64 d, .int .i64 e, .int .i64 f] := by
  match cs, hl with
  | [c0, c1, c2, c3, c4, c5], _ =>
    simp at e1 e2 e3
    exact ⟨a, b, c, d, e, f, by rw [e1.1, e1.2, e2.1, e2.2, e3.1, e3.2]⟩
section
variable {H : Type} {enc : TypeId × Value → H} {w : World} {base : Nat} {spare : Nat → Bool} {held : Bool}
end
set_option maxRecDepth 100000 in
theorem glob_met {W : World} (h : laidMetH Tryd.prog [("almucantar/halfangle.quarter", Rows.laid_almucantar_halfangle_quarter)] W) : Ev.Glob W := by
  rw [MakeChecks.laidMetH_plain _ _ _ (by kernel_rfl)] at h
  obtain ⟨ps, ⟨g0, t0, cs0, f0, p0, q0, hg0, ht0, hv0, hd0, _, _⟩, _, _⟩ := h
  obtain rfl := Option.some.inj ((show Tryd.prog.globalNamed "almucantar/halfangle.quarter" = some 0 by kernel_rfl).symm.trans hg0)
  obtain rfl := Option.some.inj ((show (Tryd.prog.globals[0]?).map (·.type) = some 23 by kernel_rfl).symm.trans ht0)
  obtain ⟨y0, y1, m, hx, hl, h0, h1⟩ := trod_struct2 Tryd.underlying23 hd0
  have hc : Tryd.prog.cellsOf 23 = 2 := by kernel_rfl
  have h3 : Tryd.prog.cellsOf 3 = 1 := by kernel_rfl
  rw [hc] at hl
  obtain ⟨s, e1, e1', _⟩ := DataW.trod_int Tryd.underlying3 h0
  obtain ⟨t, e2, e2', _⟩ := DataW.trod_int Tryd.underlying3 h1
  rw [h3] at e1 e2
  subst e1' e2'
  simp only [Rows.laid_almucantar_halfangle_quarter, Prod.mk.injEq, DataW.agg.injEq, List.cons.injEq, DataW.lit.injEq, Lit.int.injEq, true_and, and_true] at hx
  obtain ⟨⟨rfl, rfl⟩, _⟩ := hx
  obtain ⟨a, b, hab, ha, hb⟩ : ∃ a b, cs0.toList = [.int .i64 a, .int .i64 b] ∧ a = 5400000 ∧ b = 5400000 := by
    match hcs : cs0.toList, hl with
    | [c0, c1], _ =>
      rw [hcs] at e1 e2
      simp at e1 e2
      exact ⟨5400000, 5400000, by rw [e1, e2], rfl, rfl⟩
  subst ha hb
  intro e he
  have he' : e = (0, [.int .i64 5400000, .int .i64 5400000]) := by simpa [Ev.GS] using he
  subst he'
  unfold World.var? at hv0
  rw [hg0] at hv0
  simp only [Option.bind_some] at hv0
  split at hv0
  · rename_i cs ty fz hh
    cases hv0
    refine ⟨ty, fz, ?_⟩
    rw [hh]
    obtain ⟨l⟩ := cs0
    simp only at hab
    subst hab
    rfl
  · cases hv0
theorem door_met (os : Os) (args : Array Value) : laidMetH Tryd.prog [("almucantar/halfangle.quarter", Rows.laid_almucantar_halfangle_quarter)] ((World.doorLaid Tryd.prog 400 os).forCall (fun _ _ => 0) ⟨#[], args, []⟩).memory :=
  laidMetH_of_parts3 (fuel := 8) (laidMet_of_run' 8 (by kernel_rfl) (by kernel_rfl)) (by kernel_rfl) (by kernel_rfl)
set_option maxRecDepth 100000 in
theorem h28tr_lifted (os : Os) (started : os.Started) (H : Type) (enc : TypeId × Value → H) :
    ReturnsInHanded {} Tryd.checked os 5 .any (fun w args => (Rows.halfangleTrianglesSpec.pre enc Tryd.prog Tryd.f5 [] false w args ∧ laidMetH Tryd.prog [("almucantar/halfangle.quarter", Rows.laid_almucantar_halfangle_quarter)] w) ∧ sizedMet enc Tryd.prog Tryd.f5 (OpenSpec.ofChange Rows.halfangleTrianglesSpec) false w args)
      (Rows.halfangleTrianglesSpec.post enc Tryd.prog Tryd.f5 false true false false) := by
  refine returnsInHanded_of_change_and (C := Tryd.checked) (X := fun w _ => laidMetH Tryd.prog [("almucantar/halfangle.quarter", Rows.laid_almucantar_halfangle_quarter)] w) (fun _ _ _ hh h => h.of_heap hh) Tryd.own started (by kernel_rfl) Tryd.func5
    (ChangeSpec.witness_shaped (enc := enc) (C := Tryd.checked) (os := os) (X := fun w _ => laidMetH Tryd.prog [("almucantar/halfangle.quarter", Rows.laid_almucantar_halfangle_quarter)] w) false (World.doorLaid Tryd.prog 400 os) #[.int .i64 0, .int .i64 0, .int .i64 0] 8 rfl (World.shaped_of_RefB (by kernel_rfl) (by kernel_rfl)) (by kernel_rfl) (by kernel_rfl) (by kernel_rfl) (door_met os _)) ?_
  intro W base args ds gs before hval0 hW _ _ hL _
  have hval : ∀ (j : Nat) t v, Tryd.f5.params[j]? = some t → args[j]? = some v → Value.okWide Tryd.prog W .any base t v := hval0
  have hW' := hW
  obtain ⟨p, q, hA0, hV, rfl, hfz, hnd⟩ := hW
  have hA : DataW.TrodAll enc Tryd.prog W 0 (fun _ => true) true Tryd.f5.params.toList args.toList ds p := hA0
  have hAk := hA
  rw [Tryd.params5] at hA hval
  obtain ⟨v0, v1, v2, d0, d1, d2, p0, p1, p2, rfl, rfl, rfl, h0, h1, h2⟩ := trodAll_three hA
  obtain ⟨rfl, rfl⟩ := trodVars_none hV
  obtain ⟨a, rfl, rfl, rfl, w0⟩ := open_int Tryd.underlying3 (hval 0 3 v0 rfl rfl) h0
  obtain ⟨b, rfl, rfl, rfl, w1⟩ := open_int Tryd.underlying3 (hval 1 3 v1 rfl rfl) h1
  obtain ⟨c, rfl, rfl, rfl, w2⟩ := open_int Tryd.underlying3 (hval 2 3 v2 rfl rfl) h2
  simp only [List.append_nil] at hW' hAk
  refine (h28tr_any a b c W (glob_met hL)).mono fun e W' ⟨he, hw⟩ => ?_
  subst he
  exact ⟨_, rfl, law_post hW' rfl hAk rfl rfl rfl rfl (by rw [Tryd.params5]; decide +kernel) hw⟩

theorem h28tr_holds : Rows.HalfangleTrianglesSaid :=
  OpenClaim.holds_of_wide 5 Tryd.f5 rfl rfl rfl rfl rfl rfl rfl ⟨rfl, rfl, rfl, rfl, rfl⟩ rfl rfl rfl rfl rfl (by kernel_rfl) Tryd.func5 (by kernel_rfl)
    (of_decide_eq_true (by kernel_rfl)) (by unfold Func.isWrapper; first | (rw [if_pos (by decide +kernel)]; kernel_rfl) | (rw [if_neg (by decide +kernel)]; exact ⟨rfl, rfl⟩))
    (fun os started H enc _ => h28tr_lifted os started H enc)
#print axioms h28tr_holds
theorem h28tr_card : Rows.HalfangleTrianglesCardSaid :=
  Claim7.holds_tied_plain_at .later [] [.data] true (true, "6d9c1bdda10ec80b49e4f4e4164f73328bd5473e8919948f5148763d087d0ed1") false
    h28tr_holds (fun _ h => by cases h) (by kernel_rfl) (fun _ h => by cases h) halfangleTriangles_row_tie rfl ⟨rfl, rfl⟩ (by kernel_rfl) rfl
    (fun f fn hf hfn => by
      obtain rfl : f = 5 := Option.some.inj ((show Tryd.prog.funcNamed "almucantar/almucantarlaw28.HalfangleTriangles" = some 5 by kernel_rfl).symm.trans hf) |>.symm
      obtain rfl : fn = Tryd.f5 := (Option.some.inj (Tryd.func5.symm.trans hfn)).symm
      exact ⟨by kernel_rfl, fun j t ht => by
        rw [Tryd.params5] at ht
        have hm : t ∈ [3, 3, 3] := by simpa using Array.mem_of_getElem? ht
        have hall : ([3, 3, 3].all fun u => !Tryd.prog.wantsStandIn u) = true := by kernel_rfl
        exact (show Tryd.prog.wantsStandIn t = false by simpa using List.all_eq_true.1 hall t hm)⟩)
    (by kernel_rfl)
#print axioms h28tr_card
end Go.Proofs.YtipjnfabodfkcaaDoor

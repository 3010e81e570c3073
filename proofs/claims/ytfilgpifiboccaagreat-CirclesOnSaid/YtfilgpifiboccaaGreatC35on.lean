/-
  CirclesOn answers true for every input and leaves it alone. No condition.
-/
import Derived.Test.YtfilgpifiboccaaGreatJ
import Derived.Test.YtfilgpifiboccaaGreatN52
import Derived.Deep.Strs
namespace Go.Proofs.YtfilgpifiboccaaGreat
open Go.ChangeShapes Go.WideShapes Go.ChangeAt Go.RowKit Go.Joins
theorem two_cells {cs : List Value} {s t : Int} (hl : cs.length = 2) (e1 : (cs.drop 0).take 1 = [.int .i64 s]) (e2 : (cs.drop 1).take 1 = [.int .i64 t]) : ∃ a b, cs = [.int .i64 a, .int .i64 b] := by
  match cs, hl with
  | [c0, c1], _ =>
    simp at e1 e2
    exact ⟨s, t, by rw [e1, e2]⟩
theorem six_cells {cs : List Value} {a b c d e f : Int} (hl : cs.length = 6) (e1 : (cs.drop 0).take 2 = [.int .i64 a, .int .i64 b]) (e2 : (cs.drop 2).take 2 = [.int .i64 c, .int .i64 d]) (e3 : (cs.drop 4).take 2 = [.int .i64 e, .int .i64 f]) :
    ∃ a b c d e f, cs = [.int .i64 a, .int .i64 b, .int .i64 c, .int .i64 d, .int .i64 e, .int .i64 f] := by
  match cs, hl with
  | [c0, c1, c2, c3, c4, c5], _ =>
    simp at e1 e2 e3
    exact ⟨a, b, c, d, e, f, by rw [e1.1, e1.2, e2.1, e2.2, e3.1, e3.2]⟩
section
variable {H : Type} {enc : TypeId × Value → H} {w : World} {base : Nat} {spare : Nat → Bool} {held : Bool}
set_option maxRecDepth 100000 in
theorem pair_cells23 {n : Nat} {cs : List Value} {x : DataW H × List MemPlace} (h : DataW.trod enc Tryz.prog w base spare held n 23 cs = some x) : ∃ a b, cs = [.int .i64 a, .int .i64 b] := by
  obtain ⟨y0, y1, m, _, hl, h0, h1⟩ := trod_struct2 Tryz.underlying23 h
  have hc : Tryz.prog.cellsOf 23 = 2 := by kernel_rfl
  have h3 : Tryz.prog.cellsOf 3 = 1 := by kernel_rfl
  rw [hc] at hl
  obtain ⟨s, e1, _⟩ := DataW.trod_int Tryz.underlying3 h0
  obtain ⟨t, e2, _⟩ := DataW.trod_int Tryz.underlying3 h1
  rw [h3] at e1 e2
  exact two_cells hl e1 e2
set_option maxRecDepth 100000 in
theorem open_pair23 {r : Reach} {b0 : Nat} {v : Value} {d : DataW H} {p : List MemPlace} (hv : Value.okWide Tryz.prog w r b0 23 v) (h : DataW.Trod enc Tryz.prog w base spare held 23 v d p) : ∃ a b, v = .agg #[.int .i64 a, .int .i64 b] := by
  obtain ⟨cs, rfl, _⟩ := okWide_struct Tryz.underlying23 hv
  obtain ⟨fuel, hf⟩ := h
  obtain ⟨a, b, e⟩ := pair_cells23 hf
  have e' : cs = #[.int .i64 a, .int .i64 b] := Array.toList_inj.1 e
  exact ⟨a, b, by rw [e']⟩
set_option maxRecDepth 100000 in
theorem tri_cells {n : Nat} {cs : List Value} {x : DataW H × List MemPlace} (h : DataW.trod enc Tryz.prog w base spare held n 25 cs = some x) : ∃ a b c d e f, cs = [.int .i64 a, .int .i64 b, .int .i64 c, .int .i64 d, .int .i64 e, .int .i64 f] := by
  obtain ⟨y0, y1, y2, m, _, hl, h0, h1, h2⟩ := Go.Deep.trod_struct3 Tryz.underlying25 h
  have hc : Tryz.prog.cellsOf 25 = 6 := by kernel_rfl
  have h3 : Tryz.prog.cellsOf 23 = 2 := by kernel_rfl
  rw [hc] at hl
  obtain ⟨a, b, e1⟩ := pair_cells23 h0
  obtain ⟨c, d, e2⟩ := pair_cells23 h1
  obtain ⟨e, f, e3⟩ := pair_cells23 h2
  rw [h3] at e1 e2 e3
  exact six_cells hl e1 e2 e3
set_option maxRecDepth 100000 in
theorem open_tri {r : Reach} {b0 : Nat} {v : Value} {d : DataW H} {p : List MemPlace} (hv : Value.okWide Tryz.prog w r b0 25 v) (h : DataW.Trod enc Tryz.prog w base spare held 25 v d p) :
    ∃ a b c d e f, v = .agg #[.int .i64 a, .int .i64 b, .int .i64 c, .int .i64 d, .int .i64 e, .int .i64 f] := by
  obtain ⟨cs, rfl, _⟩ := okWide_struct Tryz.underlying25 hv
  obtain ⟨fuel, hf⟩ := h
  obtain ⟨a, b, c, d, e, f, q⟩ := tri_cells hf
  have e' : cs = #[.int .i64 a, .int .i64 b, .int .i64 c, .int .i64 d, .int .i64 e, .int .i64 f] := Array.toList_inj.1 q
  exact ⟨a, b, c, d, e, f, by rw [e']⟩
end
set_option maxRecDepth 100000 in
theorem c35on_lifted (os : Os) (started : os.Started) (H : Type) (enc : TypeId × Value → H) :
    ReturnsInHanded {} Tryz.checked os 3 .any (Rows.circlesOnSpec.pre6 enc Tryz.prog Tryz.f3 Rows.circlesOnRow.domain false) (Rows.circlesOnSpec.post enc Tryz.prog Tryz.f3 false true false false) := by
  refine returnsInHanded_of_change (C := Tryz.checked) Tryz.own started (by kernel_rfl) Tryz.func3
    (ChangeSpec.witness6 (enc := enc) (C := Tryz.checked) false ⟨#[], #[.agg #[.int .i64 0, .int .i64 0, .int .i64 0, .int .i64 0, .int .i64 0, .int .i64 0], .agg #[.int .i64 0, .int .i64 0]], []⟩ 8 (by kernel_rfl) (by kernel_rfl) (by kernel_rfl) (by kernel_rfl)) ?_
  intro W base args ds gs before hval0 hW hcnd _
  have hval : ∀ (j : Nat) t v, Tryz.f3.params[j]? = some t → args[j]? = some v → Value.okWide Tryz.prog W .any base t v := hval0
  have hW' := hW
  obtain ⟨p, q, hA0, hV, rfl, hfz, hnd⟩ := hW
  have hA : DataW.TrodAll enc Tryz.prog W 0 (fun _ => true) true Tryz.f3.params.toList args.toList ds p := hA0
  have hAk := hA
  rw [Tryz.params3] at hA hval
  obtain ⟨v0, v1, d0, d1, p0, p1, rfl, rfl, rfl, h0, h1⟩ := trodAll_two hA
  obtain ⟨rfl, rfl⟩ := trodVars_none hV
  obtain ⟨a, b, c, d, e, f, rfl⟩ := open_tri (hval 0 25 v0 rfl rfl) h0
  obtain ⟨u, v, rfl⟩ := open_pair23 (hval 1 23 v1 rfl rfl) h1
  simp only [List.append_nil] at hW' hAk
  refine (c35on_any a b c d e f u v W).mono fun e W' ⟨he, hw⟩ => ?_
  subst he
  exact ⟨_, rfl, law_post hW' rfl hAk rfl rfl rfl rfl (by rw [Tryz.params3]; decide +kernel) hw⟩

theorem c35on_holds : Rows.CirclesOnSaid :=
  OpenClaim.holds_of_wide 3 Tryz.f3 rfl rfl rfl rfl rfl rfl rfl ⟨rfl, rfl, rfl, rfl, rfl⟩ rfl rfl rfl rfl rfl (by kernel_rfl) Tryz.func3 (by kernel_rfl)
    (of_decide_eq_true (by kernel_rfl)) (by unfold Func.isWrapper; first | (rw [if_pos (by decide +kernel)]; kernel_rfl) | (rw [if_neg (by decide +kernel)]; exact ⟨rfl, rfl⟩))
    (fun os started H enc _ => c35on_lifted os started H enc)
#print axioms c35on_holds
end Go.Proofs.YtfilgpifiboccaaGreat

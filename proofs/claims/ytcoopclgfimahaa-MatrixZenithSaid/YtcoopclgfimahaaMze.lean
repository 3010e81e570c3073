/-
  MatrixZenith answers true for every input and leaves it alone. No condition.
-/
import Derived.Test.YtcoopclgfimahaaJ
import Derived.Test.YtcoopclgfimahaaL29
import Derived.Deep.Strs
namespace Go.Proofs.Ytcoopclgfimahaa
open Go.ChangeShapes Go.WideShapes Go.ChangeAt Go.RowKit Go.Joins
theorem two_cells {cs : List Value} {s t : Int} (hl : cs.length = 2) (e1 : (cs.drop 0).take 1 = [.int .i64 s]) (e2 : (cs.drop 1).take 1 = [.int .i64 t]) : ∃ a b, cs = [.int .i64 a, .int .i64 b] := by
  match cs, hl with
  | [c0, c1], _ =>
    simp at e1 e2
    exact ⟨s, t, by rw [e1, e2]⟩
theorem six_cells {cs : List Value} {a b c d e f : Int} (hl : cs.length = 6) (e1 : (cs.drop 0).take 2 = [.int .i64 a, .int .i64 b]) (e2 : (cs.drop 2).take 2 = [.int .i64 c, .int .i64 d]) (e3 : (cs.drop 4).take 2 = [.int .i64 e, .int .i64 f]) :
    ∃ a b c d e f, cs = [.int .i64 a, .int .i64 b, .int .i64 c, .int .i64 d, .int .i64 e, .int .i64 f] := by
  match cs, hl with
  | [c0, c1, c2, c3, c4, c5], _ =>
    simp at e1 e2 e3
    exact ⟨a, b, c, d, e, f, by rw [e1.1, e1.2, e2.1, e2.2, e3.1, e3.2]⟩
section
variable {H : Type} {enc : TypeId × Value → H} {w : World} {base : Nat} {spare : Nat → Bool} {held : Bool}
end
set_option maxRecDepth 100000 in
theorem mze_lifted (os : Os) (started : os.Started) (H : Type) (enc : TypeId × Value → H) :
    ReturnsInHanded {} Try.checked os 8 .any (Rows.matrixZenithSpec.pre6 enc Try.prog Try.f8 Rows.matrixZenithRow.domain false) (Rows.matrixZenithSpec.post enc Try.prog Try.f8 false true false false) := by
  refine returnsInHanded_of_change (C := Try.checked) Try.own started (by kernel_rfl) Try.func8
    (ChangeSpec.witness6 (enc := enc) (C := Try.checked) false ⟨#[], #[.int .i64 0, .int .i64 0, .int .i64 0], []⟩ 8 (by kernel_rfl) (by kernel_rfl) (by kernel_rfl) (by kernel_rfl)) ?_
  intro W base args ds gs before hval0 hW hcnd _
  have hval : ∀ (j : Nat) t v, Try.f8.params[j]? = some t → args[j]? = some v → Value.okWide Try.prog W .any base t v := hval0
  have hW' := hW
  obtain ⟨p, q, hA0, hV, rfl, hfz, hnd⟩ := hW
  have hA : DataW.TrodAll enc Try.prog W 0 (fun _ => true) true Try.f8.params.toList args.toList ds p := hA0
  have hAk := hA
  rw [Try.params8] at hA hval
  obtain ⟨v0, v1, v2, d0, d1, d2, p0, p1, p2, rfl, rfl, rfl, h0, h1, h2⟩ := trodAll_three hA
  obtain ⟨rfl, rfl⟩ := trodVars_none hV
  obtain ⟨a, rfl, rfl, rfl, w0⟩ := open_int Try.underlying3 (hval 0 3 v0 rfl rfl) h0
  obtain ⟨b, rfl, rfl, rfl, w1⟩ := open_int Try.underlying3 (hval 1 3 v1 rfl rfl) h1
  obtain ⟨c, rfl, rfl, rfl, w2⟩ := open_int Try.underlying3 (hval 2 3 v2 rfl rfl) h2
  simp only [List.append_nil] at hW' hAk
  refine (mze_any a b c W).mono fun e W' ⟨he, hw⟩ => ?_
  subst he
  exact ⟨_, rfl, law_post hW' rfl hAk rfl rfl rfl rfl (by rw [Try.params8]; decide +kernel) hw⟩

theorem mze_holds : Rows.MatrixZenithSaid :=
  OpenClaim.holds_of_wide 8 Try.f8 rfl rfl rfl rfl rfl rfl rfl ⟨rfl, rfl, rfl, rfl, rfl⟩ rfl rfl rfl rfl rfl (by kernel_rfl) Try.func8 (by kernel_rfl)
    (of_decide_eq_true (by kernel_rfl)) (by unfold Func.isWrapper; first | (rw [if_pos (by decide +kernel)]; kernel_rfl) | (rw [if_neg (by decide +kernel)]; exact ⟨rfl, rfl⟩))
    (fun os started H enc _ => mze_lifted os started H enc)
#print axioms mze_holds
end Go.Proofs.Ytcoopclgfimahaa

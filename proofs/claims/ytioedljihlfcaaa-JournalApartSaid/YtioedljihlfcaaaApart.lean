/-
  Results of the journal's functions share nothing with their arguments, and what was appended is read back: JournalApart answers true for every disk and every record, and leaves its arguments alone. No condition.
-/
import Derived.Test.YtioedljihlfcaaaJ
import Derived.Test.YtioedljihlfcaaaW30
namespace Go.Proofs.Ytioedljihlfcaaa
open Go.ChangeShapes Go.WideShapes Go.ChangeAt Go.RowKit Go.Joins

set_option maxRecDepth 100000 in
theorem apart_lifted (os : Os) (started : os.Started) (H : Type) (enc : TypeId × Value → H) :
    ReturnsInHanded {} Try.checked os 6 .any (Rows.journalApartSpec.pre6 enc Try.prog Try.f6 Rows.journalApartRow.domain false) (Rows.journalApartSpec.post enc Try.prog Try.f6 false true false false) := by
  refine returnsInHanded_of_change (C := Try.checked) Try.own started (by kernel_rfl) Try.func6
    (ChangeSpec.witness6 (enc := enc) (C := Try.checked) false ⟨#[], #[.agg #[.slice none 0 0, .int .i64 0, .int .i64 0], .slice none 0 0], []⟩ 8 (by kernel_rfl) (by kernel_rfl) (by kernel_rfl) (by kernel_rfl)) ?_
  intro W base args ds gs before hval0 hW hcnd _
  have hval : ∀ (j : Nat) t v, Try.f6.params[j]? = some t → args[j]? = some v → Value.okWide Try.prog W .any base t v := hval0
  have hW' := hW
  obtain ⟨p, q, hA0, hV, rfl, hfz, hnd⟩ := hW
  have hA : DataW.TrodAll enc Try.prog W 0 (fun _ => true) true Try.f6.params.toList args.toList ds p := hA0
  have hAk := hA
  rw [Try.params6] at hA hval
  obtain ⟨v1, v2, d1, d2, p1, p2, rfl, rfl, rfl, h1, h2⟩ := trodAll_two hA
  obtain ⟨rfl, rfl⟩ := trodVars_none hV
  obtain ⟨c0, c1, c2, y0, y1, y2, m, rfl, rfl, rfl, hy0, hy1, hy2⟩ := open_agg3 Try.underlying24 (by kernel_rfl) (by kernel_rfl) (hval 0 24 v1 rfl rfl) h1
  obtain ⟨A, n, c, l, rfl, hB⟩ := open_bytes hy0
  obtain ⟨s, e1, _, ws⟩ := DataW.trod_int Try.underlying3 hy1
  obtain ⟨a, e2, _, wa⟩ := DataW.trod_int Try.underlying3 hy2
  simp at e1 e2
  subst e1 e2
  obtain ⟨A', n', c', rfl⟩ := okWide_slice Try.underlying22 (hval 1 22 v2 rfl rfl)
  obtain ⟨fuel, hf⟩ := h2
  obtain ⟨A2, n2, c2', b, e3, hB'⟩ := open_bytes (v := .slice A' n' c') hf
  injection e3 with i1 i2 i3
  subst i1 i2 i3
  simp only [List.append_nil] at hW' hAk
  refine (apart_any A n c l s a A' n' c' b W hB hB').mono fun e W' ⟨he, hw⟩ => ?_
  subst he
  exact ⟨_, rfl, law_post hW' rfl hAk rfl rfl rfl rfl (by rw [Try.params6]; decide +kernel) hw⟩

theorem apart_holds : Rows.JournalApartSaid :=
  OpenClaim.holds_of_wide 6 Try.f6 rfl rfl rfl rfl rfl rfl rfl ⟨rfl, rfl, rfl, rfl, rfl⟩ rfl rfl rfl rfl rfl (by kernel_rfl) Try.func6 (by kernel_rfl)
    (of_decide_eq_true (by kernel_rfl)) (by unfold Func.isWrapper; first | (rw [if_pos (by decide +kernel)]; kernel_rfl) | (rw [if_neg (by decide +kernel)]; exact ⟨rfl, rfl⟩))
    (fun os started H enc _ => apart_lifted os started H enc)
#print axioms apart_holds
end Go.Proofs.Ytioedljihlfcaaa

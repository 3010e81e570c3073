/-
  Greater intervals have greater arcs: ArctrigGrows answers true for every input and leaves it alone. No condition.
-/
import Derived.Test.YtmlmohcghoelkaaJ
import Derived.Test.YtmlmohcghoelkaaT67
import Derived.Carry
namespace Go.Proofs.Ytmlmohcghoelkaa
open Go.ChangeShapes Go.WideShapes Go.ChangeAt Go.RowKit Go.Joins

set_option maxRecDepth 100000 in
theorem grows_lifted (os : Os) (started : os.Started) (H : Type) (enc : TypeId × Value → H) :
    ReturnsInHanded {} Try.checked os 7 .any (Rows.arctrigGrowsSpec.pre6 enc Try.prog Try.f7 Rows.arctrigGrowsRow.domain false) (Rows.arctrigGrowsSpec.post enc Try.prog Try.f7 false true false false) := by
  refine returnsInHanded_of_change (C := Try.checked) Try.own started (by kernel_rfl) Try.func7
    (ChangeSpec.witness6 (enc := enc) (C := Try.checked) false ⟨#[], #[.agg #[.int .i64 0, .int .i64 0], .agg #[.int .i64 0, .int .i64 0], .int .u32 0, .int .u32 0], []⟩ 8 (by kernel_rfl) (by kernel_rfl) (by kernel_rfl) (by kernel_rfl)) ?_
  intro W base args ds gs before hval0 hW hcnd _
  have hval : ∀ (j : Nat) t v, Try.f7.params[j]? = some t → args[j]? = some v → Value.okWide Try.prog W .any base t v := hval0
  have hW' := hW
  obtain ⟨p, q, hA0, hV, rfl, hfz, hnd⟩ := hW
  have hA : DataW.TrodAll enc Try.prog W 0 (fun _ => true) true Try.f7.params.toList args.toList ds p := hA0
  have hAk := hA
  rw [Try.params7] at hA hval
  obtain ⟨v0, v1, v2, v3, d0, d1, d2, d3, p0, p1, p2, p3, rfl, rfl, rfl, h0, h1, h2, h3⟩ := trodAll_four hA
  obtain ⟨rfl, rfl⟩ := trodVars_none hV
  obtain ⟨c0, c1, y0, y1, m, rfl, rfl, e3, hy0, hy1⟩ := open_agg2 Try.underlying23 (by kernel_rfl) (by kernel_rfl) (hval 0 23 v0 rfl rfl) h0
  obtain ⟨s, e1, _, ws⟩ := DataW.trod_int Try.underlying3 hy0
  obtain ⟨a, e2, _, wa⟩ := DataW.trod_int Try.underlying3 hy1
  obtain ⟨c2, c3, y2, y3, m2, rfl, rfl, e4, hy2, hy3⟩ := open_agg2 Try.underlying23 (by kernel_rfl) (by kernel_rfl) (hval 1 23 v1 rfl rfl) h1
  obtain ⟨s2, e5, _, ws2⟩ := DataW.trod_int Try.underlying3 hy2
  obtain ⟨a2, e6, _, wa2⟩ := DataW.trod_int Try.underlying3 hy3
  obtain ⟨l, rfl, rfl, rfl, wl⟩ := open_int Try.underlying36 (hval 2 36 v2 rfl rfl) h2
  obtain ⟨h, rfl, rfl, rfl, wh⟩ := open_int Try.underlying36 (hval 3 36 v3 rfl rfl) h3
  simp at e1 e2 e5 e6
  subst e1 e2 e5 e6
  have bl : 0 ≤ l ∧ l ≤ 4294967295 := by
    have h1 : IntKind.u32.min = 0 := rfl
    have h2 : IntKind.u32.max = 4294967295 := rfl
    simp only [Lit.wf, Bool.and_eq_true, decide_eq_true_eq] at wl
    omega
  have bh : 0 ≤ h ∧ h ≤ 4294967295 := by
    have h1 : IntKind.u32.min = 0 := rfl
    have h2 : IntKind.u32.max = 4294967295 := rfl
    simp only [Lit.wf, Bool.and_eq_true, decide_eq_true_eq] at wh
    omega
  simp only [List.append_nil] at hW' hAk
  refine (grows_any s a s2 a2 l h bl.1 bl.2 bh.1 bh.2 W).mono fun e W' ⟨he, hw⟩ => ?_
  subst he
  exact ⟨_, rfl, law_post hW' rfl hAk rfl rfl rfl rfl (by rw [Try.params7]; decide +kernel) hw⟩

theorem grows_holds : Rows.ArctrigGrowsSaid :=
  OpenClaim.holds_of_wide 7 Try.f7 rfl rfl rfl rfl rfl rfl rfl ⟨rfl, rfl, rfl, rfl, rfl⟩ rfl rfl rfl rfl rfl (by kernel_rfl) Try.func7 (by kernel_rfl)
    (of_decide_eq_true (by kernel_rfl)) (by unfold Func.isWrapper; first | (rw [if_pos (by decide +kernel)]; kernel_rfl) | (rw [if_neg (by decide +kernel)]; exact ⟨rfl, rfl⟩))
    (fun os started H enc _ => grows_lifted os started H enc)
#print axioms grows_holds
end Go.Proofs.Ytmlmohcghoelkaa

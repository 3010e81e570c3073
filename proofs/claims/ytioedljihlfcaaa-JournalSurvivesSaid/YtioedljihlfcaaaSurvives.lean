/-
  What was synced survives, and nothing is invented: JournalSurvives answers true for every disk's After, every list of acts, every crash and every further record, and leaves its arguments alone. No condition.
-/
import Derived.Test.YtioedljihlfcaaaJ
import Derived.Test.YtioedljihlfcaaaW32
import Derived.Deep.Matrix
import Derived.Deep.Fields
namespace Go.Proofs.Ytioedljihlfcaaa
open Go.ChangeShapes Go.WideShapes Go.ChangeAt Go.RowKit Go.Joins

section
variable {H : Type} {enc : TypeId × Value → H}
theorem open_acts {W : World} {v : Value} {base : Nat} {sp : Nat → Bool} {held : Bool} {fuel : Nat} {x : DataW H × List MemPlace}
    (h : DataW.trod enc Try.prog W base sp held fuel 55 [v] = some x) : ∃ A n c ac, v = .slice A n c ∧ ActsIn W A n ac := by
  rcases Go.Deep.open_slice Try.underlying55 h with ⟨hcs, _⟩ | ⟨a, len, cap, m, n, D, Pl, hcs, _, hl, hm, hmm, _, hx⟩
  · simp at hcs
    subst hcs
    exact ⟨none, 0, 0, [], rfl, ⟨rfl, by omega, fun h => absurd h (by omega)⟩⟩
  · simp at hcs
    subst hcs
    have hC : Try.prog.cellsOf 58 = 2 := by kernel_rfl
    have hlm : len ≤ m := by rw [hmm]; split <;> omega
    have each : ∀ i, ∃ l : Bool × List Int, i < len → ∃ A n c, W.cell? (a.add (i * 2)) = some (.bool l.1) ∧ W.cell? (a.add (i * 2 + 1)) = some (.slice A n c) ∧ Bytes W A n c l.2 := by
      intro i
      by_cases hi : i < len
      · obtain ⟨cs', hc, ht⟩ := hx i (by omega)
        rw [hC] at hc
        obtain ⟨ys, n', hn', hy, hlen, hyl, hf⟩ := DataW.trod_struct Try.underlying58 ht
        obtain ⟨_, hcl, hat⟩ := World.cells?_some hc
        obtain ⟨c0, c1, rfl⟩ : ∃ c0 c1, cs' = [c0, c1] := by
          match cs', hcl with
          | [c0, c1], _ => exact ⟨c0, c1, rfl⟩
        have g0 := hf 0 _ rfl
        have g1 := hf 1 _ rfl
        have k0 := hat 0 (by omega)
        have k1 := hat 1 (by omega)
        have c4 : Try.prog.cellsOf 4 = 1 := by kernel_rfl
        have c22 : Try.prog.cellsOf 22 = 1 := by kernel_rfl
        have g0' : DataW.trod enc Try.prog W base sp held n' 4 [c0] = some (ys[0]'(by rw [hyl]; decide)) := by
          have e0 : ys[0]? = some (ys[0]'(by rw [hyl]; decide)) := List.getElem?_eq_getElem _
          rw [← e0]
          simpa [c4] using g0
        have g1' : DataW.trod enc Try.prog W base sp held n' 22 [c1] = some (ys[1]'(by rw [hyl]; decide)) := by
          have e0 : ys[1]? = some (ys[1]'(by rw [hyl]; decide)) := List.getElem?_eq_getElem _
          rw [← e0]
          simpa [c22] using g1
        obtain ⟨s, e1, _⟩ := DataW.trod_bool Try.underlying4 g0'
        obtain ⟨A, n1, c, l, e2, hB⟩ := open_bytes g1'
        simp at e1
        subst e1 e2
        refine ⟨(s, l), fun _ => ⟨A, n1, c, ?_, ?_, hB⟩⟩
        · simpa [Addr.add] using k0
        · rw [← add_of_add]; simpa using k1
      · exact ⟨(false, []), fun h => absurd h hi⟩
    obtain ⟨f, hf⟩ := Classical.axiomOfChoice each
    refine ⟨some a, len, cap, (List.range len).map f, rfl, ⟨by simp, by unfold maxLen at hm; omega, fun hn => ?_⟩⟩
    obtain ⟨b, off, spot⟩ := a
    obtain ⟨A0, n0, c0, h00, _⟩ := hf 0 hn
    have hspot : spot = none := by simpa [Addr.add] using World.cell?_spot h00
    subst hspot
    refine ⟨b, off, rfl, ?_, fun i hi => ?_⟩
    · have := World.block_lt_of_cell? W _ h00
      simpa [Addr.add] using this
    · obtain ⟨A, n', c', e0, e1, hB⟩ := hf i hi
      rw [addr_add] at e0 e1
      exact ⟨A, n', c', by simpa [List.getD_eq_getElem?_getD, hi] using e0, by rw [Nat.add_assoc]; exact e1, by simpa [List.getD_eq_getElem?_getD, hi] using hB⟩
end

set_option maxRecDepth 100000 in
theorem surv_lifted (os : Os) (started : os.Started) (H : Type) (enc : TypeId × Value → H) :
    ReturnsInHanded {} Try.checked os 8 .any (Rows.journalSurvivesSpec.pre6 enc Try.prog Try.f8 Rows.journalSurvivesRow.domain false) (Rows.journalSurvivesSpec.post enc Try.prog Try.f8 false true false false) := by
  refine returnsInHanded_of_change (C := Try.checked) Try.own started (by kernel_rfl) Try.func8
    (ChangeSpec.witness6 (enc := enc) (C := Try.checked) false ⟨#[], #[.int .i64 0, .slice none 0 0, .int .u16 0, .slice none 0 0], []⟩ 8 (by kernel_rfl) (by kernel_rfl) (by kernel_rfl) (by kernel_rfl)) ?_
  intro W base args ds gs before hval0 hW hcnd _
  have hval : ∀ (j : Nat) t v, Try.f8.params[j]? = some t → args[j]? = some v → Value.okWide Try.prog W .any base t v := hval0
  have hW' := hW
  obtain ⟨p, q, hA0, hV, rfl, hfz, hnd⟩ := hW
  have hA : DataW.TrodAll enc Try.prog W 0 (fun _ => true) true Try.f8.params.toList args.toList ds p := hA0
  have hAk := hA
  rw [Try.params8] at hA hval
  obtain ⟨v0, v1, v2, v3, d0, d1, d2, d3, p0, p1, p2, p3, rfl, rfl, rfl, h0, h1, h2, h3⟩ := trodAll_four hA
  obtain ⟨rfl, rfl⟩ := trodVars_none hV
  obtain ⟨x, rfl, rfl, rfl, wx⟩ := open_int Try.underlying3 (hval 0 3 v0 rfl rfl) h0
  obtain ⟨A', n', c', rfl⟩ := okWide_slice Try.underlying55 (hval 1 55 v1 rfl rfl)
  obtain ⟨fuel, hf⟩ := h1
  obtain ⟨A, n, c, ac, e3, hB⟩ := open_acts (v := .slice A' n' c') hf
  injection e3 with i1 i2 i3
  subst i1 i2 i3
  obtain ⟨kp, rfl, rfl, rfl, wk⟩ := open_int Try.underlying52 (hval 2 52 v2 rfl rfl) h2
  obtain ⟨A2, n2, c2, rfl⟩ := okWide_slice Try.underlying22 (hval 3 22 v3 rfl rfl)
  obtain ⟨fuel2, hf2⟩ := h3
  obtain ⟨A3, n3, c3, b, e4, hB2⟩ := open_bytes (v := .slice A2 n2 c2) hf2
  injection e4 with i1 i2 i3
  subst i1 i2 i3
  have bk : 0 ≤ kp ∧ kp < 65536 := by
    have h1 : IntKind.u16.min = 0 := rfl
    have h2 : IntKind.u16.max = 65535 := rfl
    simp only [Lit.wf, Bool.and_eq_true, decide_eq_true_eq] at wk
    omega
  simp only [List.append_nil] at hW' hAk
  refine (surv_any x A' n' c' ac kp A2 n2 c2 b W hB hB2 bk).mono fun e W' ⟨he, hw⟩ => ?_
  subst he
  exact ⟨_, rfl, law_post hW' rfl hAk rfl rfl rfl rfl (by rw [Try.params8]; decide +kernel) hw⟩

theorem surv_holds : Rows.JournalSurvivesSaid :=
  OpenClaim.holds_of_wide 8 Try.f8 rfl rfl rfl rfl rfl rfl rfl ⟨rfl, rfl, rfl, rfl, rfl⟩ rfl rfl rfl rfl rfl (by kernel_rfl) Try.func8 (by kernel_rfl)
    (of_decide_eq_true (by kernel_rfl)) (by unfold Func.isWrapper; first | (rw [if_pos (by decide +kernel)]; kernel_rfl) | (rw [if_neg (by decide +kernel)]; exact ⟨rfl, rfl⟩))
    (fun os started H enc _ => surv_lifted os started H enc)
#print axioms surv_holds
end Go.Proofs.Ytioedljihlfcaaa

/-
  A changed byte is noticed: if one byte behind the length of the last frame is changed, its record is not there any more, and all before it are: JournalTorn answers true for every list of records, every place and every byte, and leaves its arguments alone. No condition.
-/
import Derived.Test.YtioedljihlfcaaaJ
import Derived.Test.YtioedljihlfcaaaW28
import Derived.Deep.Matrix
namespace Go.Proofs.Ytioedljihlfcaaa
open Go.ChangeShapes Go.WideShapes Go.ChangeAt Go.RowKit Go.Joins

section
variable {H : Type} {enc : TypeId × Value → H}
theorem open_rows {W : World} {v : Value} {base : Nat} {sp : Nat → Bool} {held : Bool} {fuel : Nat} {x : DataW H × List MemPlace}
    (h : DataW.trod enc Try.prog W base sp held fuel 43 [v] = some x) : ∃ A n c rs, v = .slice A n c ∧ RowsIn W A n rs ∧ n ≤ c := by
  rcases Go.Deep.open_slice1 Try.underlying43 (by kernel_rfl) h with ⟨hcs, _⟩ | ⟨a, len, cap, m, n, V, D, Pl, hcs, _, hl, hm, hmm, _, hx⟩
  · simp at hcs
    subst hcs
    exact ⟨none, 0, 0, [], rfl, ⟨rfl, by omega, fun h => absurd h (by omega)⟩, Nat.le_refl _⟩
  · simp at hcs
    subst hcs
    have hlm : len ≤ m := by rw [hmm]; split <;> omega
    have each : ∀ i, ∃ l, i < len → ∃ A n c, V i = .slice A n c ∧ Bytes W A n c l := by
      intro i
      by_cases hi : i < len
      · obtain ⟨A, n, c, l, e, hB⟩ := open_bytes (hx i (by omega)).2
        exact ⟨l, fun _ => ⟨A, n, c, e, hB⟩⟩
      · exact ⟨[], fun h => absurd h hi⟩
    obtain ⟨f, hf⟩ := Classical.axiomOfChoice each
    refine ⟨some a, len, cap, (List.range len).map f, rfl, ⟨by simp, by unfold maxLen at hm; omega, fun hn => ?_⟩, hl⟩
    obtain ⟨b, off, spot⟩ := a
    have hspot : spot = none := by simpa [Addr.add] using World.cell?_spot (hx 0 (by omega)).1
    subst hspot
    refine ⟨b, off, rfl, ?_, fun i hi => ?_⟩
    · have := World.block_lt_of_cell? W _ (hx 0 (by omega)).1
      simpa [Addr.add] using this
    · obtain ⟨A, n', c', e, hB⟩ := hf i hi
      refine ⟨A, n', c', ?_, by simpa [List.getD_eq_getElem?_getD, hi] using hB⟩
      rw [← add_plain, (hx i (by omega)).1, e]
end

set_option maxRecDepth 100000 in
theorem torn_lifted (os : Os) (started : os.Started) (H : Type) (enc : TypeId × Value → H) :
    ReturnsInHanded {} Try.checked os 7 .any (Rows.journalTornSpec.pre6 enc Try.prog Try.f7 Rows.journalTornRow.domain false) (Rows.journalTornSpec.post enc Try.prog Try.f7 false true false false) := by
  refine returnsInHanded_of_change (C := Try.checked) Try.own started (by kernel_rfl) Try.func7
    (ChangeSpec.witness6 (enc := enc) (C := Try.checked) false ⟨#[], #[.slice none 0 0, .int .u16 0, .int .u8 0], []⟩ 8 (by kernel_rfl) (by kernel_rfl) (by kernel_rfl) (by kernel_rfl)) ?_
  intro W base args ds gs before hval0 hW hcnd _
  have hval : ∀ (j : Nat) t v, Try.f7.params[j]? = some t → args[j]? = some v → Value.okWide Try.prog W .any base t v := hval0
  have hW' := hW
  obtain ⟨p, q, hA0, hV, rfl, hfz, hnd⟩ := hW
  have hA : DataW.TrodAll enc Try.prog W 0 (fun _ => true) true Try.f7.params.toList args.toList ds p := hA0
  have hAk := hA
  rw [Try.params7] at hA hval
  obtain ⟨v0, v1, v2, d0, d1, d2, p0, p1, p2, rfl, rfl, rfl, h0, h1, h2⟩ := trodAll_three hA
  obtain ⟨rfl, rfl⟩ := trodVars_none hV
  obtain ⟨A', n', c', rfl⟩ := okWide_slice Try.underlying43 (hval 0 43 v0 rfl rfl)
  obtain ⟨fuel, hf⟩ := h0
  obtain ⟨A, n, c, rs, e3, hB, hnc⟩ := open_rows (v := .slice A' n' c') hf
  injection e3 with i1 i2 i3
  subst i1 i2 i3
  obtain ⟨x, rfl, rfl, rfl, wx⟩ := open_int Try.underlying52 (hval 1 52 v1 rfl rfl) h1
  obtain ⟨v, rfl, rfl, rfl, wv⟩ := open_int Try.underlying5 (hval 2 5 v2 rfl rfl) h2
  have bx : 0 ≤ x ∧ x < 65536 := by
    have h1 : IntKind.u16.min = 0 := rfl
    have h2 : IntKind.u16.max = 65535 := rfl
    simp only [Lit.wf, Bool.and_eq_true, decide_eq_true_eq] at wx
    omega
  have bv : 0 ≤ v ∧ v < 256 := by
    have h1 : IntKind.u8.min = 0 := rfl
    have h2 : IntKind.u8.max = 255 := rfl
    simp only [Lit.wf, Bool.and_eq_true, decide_eq_true_eq] at wv
    omega
  simp only [List.append_nil] at hW' hAk
  refine (torn_any A' n' c' rs x v W hB hnc bx bv).mono fun e W' ⟨he, hw⟩ => ?_
  subst he
  exact ⟨_, rfl, law_post hW' rfl hAk rfl rfl rfl rfl (by rw [Try.params7]; decide +kernel) hw⟩

theorem torn_holds : Rows.JournalTornSaid :=
  OpenClaim.holds_of_wide 7 Try.f7 rfl rfl rfl rfl rfl rfl rfl ⟨rfl, rfl, rfl, rfl, rfl⟩ rfl rfl rfl rfl rfl (by kernel_rfl) Try.func7 (by kernel_rfl)
    (of_decide_eq_true (by kernel_rfl)) (by unfold Func.isWrapper; first | (rw [if_pos (by decide +kernel)]; kernel_rfl) | (rw [if_neg (by decide +kernel)]; exact ⟨rfl, rfl⟩))
    (fun os started H enc _ => torn_lifted os started H enc)
#print axioms torn_holds
end Go.Proofs.Ytioedljihlfcaaa

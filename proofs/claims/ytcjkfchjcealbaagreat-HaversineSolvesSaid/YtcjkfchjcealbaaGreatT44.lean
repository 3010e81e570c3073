import Derived.Test.YtcjkfchjcealbaaGreatT43
namespace Go.Proofs.YtcjkfchjcealbaaGreat
open Go.RowKit SM
/-- The reference's quick sine of any angle. -/
def quickM (m : Int) : Int :=
  if m < 5400000 then (if 2700000 < m then quickN (5400000 - m) true else quickN m false)
  else if m < 10800000 then (if 2700000 < m - 5400000 then quickN (10800000 - m) false else quickN (m - 5400000) true)
  else if m < 16200000 then (if 2700000 < m - 10800000 then - quickN (16200000 - m) true else - quickN (m - 10800000) false)
  else (if 2700000 < m - 16200000 then - quickN (21600000 - m) false else - quickN (m - 16200000) true)
def quickV (n : Int) : Int := quickM (n % 21600000)
theorem qLoop_bd {sq : Int} (hsq : 0 ≤ sq) (hsq2 : sq ≤ 4611686018427387904) {S t d : Int} (h0 : 0 ≤ S) (h1 : 0 ≤ t) (h2 : S + t ≤ 4611686018427387904) (hd : 1 ≤ d) : ∀ f, 0 ≤ qLoop sq f S t d ∧ qLoop sq f S t d ≤ 4611686018427387904 := by
  intro f
  induction f generalizing S t d with
  | zero => exact ⟨h0, by unfold qLoop; omega⟩
  | succ f ih =>
    rw [qLoop]
    split
    · have p1 : 2 ≤ d * (d + 1) := by have := (prod_bd (a := 1) (A := d) (b := 2) (B := d + 1) (by omega) hd (by omega) (by omega)).2; omega
      have p2 : 12 ≤ (d + 2) * (d + 3) := by have := (prod_bd (a := 3) (A := d + 2) (b := 4) (B := d + 3) (by omega) (by omega) (by omega) (by omega)).2; omega
      obtain ⟨u0, u1, v0, v1⟩ := step_le (t := t) h1 hsq hsq2 p1 p2
      exact ih (by omega) v0 (by omega) (by omega)
    · exact ⟨h0, by omega⟩
theorem quickN_bd (r : Int) (c : Bool) (h0 : 0 ≤ r) (h1 : r ≤ 2700000) : 0 ≤ quickN r c ∧ quickN r c ≤ 4611686018427387904 := by
  unfold quickN
  have hx : 0 ≤ quickX r ∧ quickX r ≤ 4611686018427387904 := by unfold quickX; omega
  have hs0 := (high_bd _ _ hx.1 hx.1).1
  have hs1 := high_le hx.1 hx.1 hx.2
  split
  · exact qLoop_bd hs0 (by omega) (by omega) (by omega) (by omega) (by omega) 20
  · exact qLoop_bd hs0 (by omega) (by omega) hx.1 (by omega) (by omega) 20
theorem qN_eq {a b : Int} {c d : Bool} (h : a = b) (h2 : c = d) : quickN a c = quickN b d := by rw [h, h2]
def QkPost (r : Int) (c : Bool) (w : World) (e : Ending) (w' : World) : Prop := ∃ v, quickN r c = v ∧ 0 ≤ v ∧ v ≤ 4611686018427387904 ∧ e = .returned (.int .i64 v) ∧ w = w'
theorem quick_call (r : Int) (c : Bool) (h0 : 0 ≤ r) (h1 : r ≤ 2700000) (w : World) : Calls Tryz.prog 108 #[.int .i64 r, .bool c] w (QkPost r c w) :=
  (quick_any r c h0 h1 w).mono fun _ _ h => ⟨_, rfl, (quickN_bd r c h0 h1).1, (quickN_bd r c h0 h1).2, h.1, h.2⟩
set_option maxHeartbeats 4000000 in
theorem quickM_call (n m : Int) (hm : n.tmod 21600000 = m ∨ n.tmod 21600000 + 21600000 = m ∧ n.tmod 21600000 < 0) (m0 : 0 ≤ m) (m1 : m < 21600000) (w : World) : Calls Tryz.prog 90 #[.int .i64 n] w (IntPost (quickM m) w) := by
  have HP : ∀ z, z = quickM m → IntPost (quickM m) w (.returned (.int .i64 z)) w := fun z h => ⟨by rw [h], rfl⟩
  have HQ := Lib.hid quick_call
  obtain ⟨z, hz⟩ : ∃ z, quickM m = z := ⟨_, rfl⟩
  rw [hz] at HP ⊢
  rw [quickM] at hz
  have HP := Lib.hid HP
  have HE := Lib.hid hz
  rcases (show m ≤ 2700000 ∨ (2700000 < m ∧ m < 5400000) ∨ (5400000 ≤ m ∧ m ≤ 8100000) ∨ (8100000 < m ∧ m < 10800000) ∨ (10800000 ≤ m ∧ m ≤ 13500000) ∨ (13500000 < m ∧ m < 16200000) ∨ (16200000 ≤ m ∧ m ≤ 18900000) ∨ 18900000 < m by omega) with h | h | h | h | h | h | h | h
  all_goals (
    rcases hm with hs | ⟨hs, hs2⟩
    · go_enter Tryz.func90, Tryz.ntmps90
      go_wp2_with fail
      refine (HQ.out _ _ (by omega) (by omega) _).mono ?_
      rintro e w1 ⟨v, hv, v0, v1, rfl, rfl⟩
      have hv := Lib.hid hv
      go_wp2
      go_ret
      refine HP.out _ ?_
      have hz := HE.out
      have hv := hv.out
      clear HE HP HQ
      subst hv
      (repeat' split at hz) <;> first
        | omega
        | (rw [← hz]; first
            | exact qN_eq (by omega) (by simp only [beq_iff_eq, beq_eq_false_iff_ne, ne_eq, Bool.not_eq_true', Bool.not_eq_false']; omega)
            | exact congrArg (fun x => - x) (qN_eq (by omega) (by simp only [beq_iff_eq, beq_eq_false_iff_ne, ne_eq, Bool.not_eq_true', Bool.not_eq_false']; omega)))
    · go_enter Tryz.func90, Tryz.ntmps90
      go_wp2_with fail
      refine (HQ.out _ _ (by omega) (by omega) _).mono ?_
      rintro e w1 ⟨v, hv, v0, v1, rfl, rfl⟩
      have hv := Lib.hid hv
      go_wp2
      go_ret
      refine HP.out _ ?_
      have hz := HE.out
      have hv := hv.out
      clear HE HP HQ
      subst hv
      (repeat' split at hz) <;> first
        | omega
        | (rw [← hz]; first
            | exact qN_eq (by omega) (by simp only [beq_iff_eq, beq_eq_false_iff_ne, ne_eq, Bool.not_eq_true', Bool.not_eq_false']; omega)
            | exact congrArg (fun x => - x) (qN_eq (by omega) (by simp only [beq_iff_eq, beq_eq_false_iff_ne, ne_eq, Bool.not_eq_true', Bool.not_eq_false']; omega)))
)
theorem turned_hm (n : Int) : n.tmod 21600000 = n % 21600000 ∨ n.tmod 21600000 + 21600000 = n % 21600000 ∧ n.tmod 21600000 < 0 := by
  obtain ⟨k1, k2, k3, k4⟩ := tmod_turn n
  by_cases h : 0 ≤ n.tmod 21600000
  · exact .inl (k1 h)
  · exact .inr ⟨k2 (by omega), by omega⟩
theorem quickV_any (n : Int) (w : World) : Calls Tryz.prog 90 #[.int .i64 n] w (IntPost (quickV n) w) :=
  quickM_call n (n % 21600000) (turned_hm n) (Int.emod_nonneg n (by decide)) (Int.emod_lt_of_pos n (by decide)) w
end Go.Proofs.YtcjkfchjcealbaaGreat

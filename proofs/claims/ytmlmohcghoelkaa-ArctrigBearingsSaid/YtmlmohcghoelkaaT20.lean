import Derived.Test.YtmlmohcghoelkaaT19
namespace Go.Proofs.Ytmlmohcghoelkaa
open Go.RowKit SM
theorem flo_upf (k : Nat) (hk : k < 5400000) : (flo k : Int) < upf (k + 1) := by
  have := flo_up k hk
  unfold upf
  cases h : exa (k + 1)
  · simp only [Bool.false_eq_true, reduceIte]; omega
  · simp only [reduceIte]; have := this.2 h; omega
theorem flo_le_upf (k : Nat) : (flo k : Int) ≤ upf k := by
  unfold upf
  cases h : exa k
  · simp only [Bool.false_eq_true, reduceIte]; omega
  · simp only [reduceIte]; omega
theorem upf_up (k : Nat) (hk : k < 5400000) : upf k ≤ upf (k + 1) := by
  have h := flo_upf k hk
  have h2 : upf k ≤ flo k + 1 := by
    unfold upf
    cases h : exa k
    · simp only [Bool.false_eq_true, reduceIte]; omega
    · simp only [reduceIte]; omega
  omega
theorem at_pos (n : Int) (h0 : 0 ≤ n) (h1 : n ≤ 5400000) : lob n = flo n.toNat ∧ hib n = upf n.toNat := by
  have e : n % 21600000 = n := by omega
  unfold lob hib south red
  simp only [e, if_pos h1, show ¬ 10800000 < n by omega, decide_false, Bool.false_eq_true, reduceIte]
  exact ⟨trivial, trivial⟩
theorem at_neg (n : Int) (h0 : n < 0) (h1 : -5400000 ≤ n) : lob n = - upf (-n).toNat ∧ hib n = - (flo (-n).toNat : Int) := by
  have e : n % 21600000 = n + 21600000 := by omega
  unfold lob hib south red
  simp only [e, show ¬ n + 21600000 ≤ 5400000 by omega, show ¬ n + 21600000 ≤ 10800000 by omega, show 10800000 < n + 21600000 by omega, decide_true, reduceIte]
  by_cases h : n + 21600000 ≤ 16200000
  · simp only [if_pos h]
    rw [show (n + 21600000 - 10800000).toNat = (-n).toNat by omega]
    exact ⟨rfl, rfl⟩
  · simp only [if_neg h]
    rw [show (21600000 - (n + 21600000)).toNat = (-n).toNat by omega]
    exact ⟨rfl, rfl⟩
theorem lob_opp (n : Int) (h0 : -5400000 ≤ n) (h1 : n ≤ 5400000) : lob (-n) = - hib n ∧ hib (-n) = - lob n := by
  rcases Int.lt_trichotomy n 0 with h | h | h
  · have a := at_neg n h h0
    have b := at_pos (-n) (by omega) (by omega)
    rw [a.1, a.2, b.1, b.2]
    constructor <;> omega
  · subst h; decide +kernel
  · have a := at_pos n (by omega) h1
    have b := at_neg (-n) (by omega) (by omega)
    rw [a.1, a.2, b.1, b.2, Int.neg_neg]
    constructor <;> omega
theorem step_up (n : Int) (h0 : -5400000 ≤ n) (h1 : n < 5400000) : lob n < hib (n + 1) ∧ hib n ≤ hib (n + 1) := by
  rcases Int.lt_trichotomy n (-1) with h | h | h
  · have a := at_neg n (by omega) h0
    have b := at_neg (n + 1) (by omega) (by omega)
    have c := flo_upf (-(n + 1)).toNat (by omega)
    have d := flo_up (-(n + 1)).toNat (by omega)
    rw [show (-(n + 1)).toNat + 1 = (-n).toNat by omega] at c d
    rw [a.1, a.2, b.2]
    constructor <;> omega
  · subst h; decide +kernel
  · have a := at_pos n (by omega) (by omega)
    have b := at_pos (n + 1) (by omega) (by omega)
    have c := flo_upf n.toNat (by omega)
    have d := upf_up n.toNat (by omega)
    rw [show n.toNat + 1 = (n + 1).toNat by omega] at c d
    rw [a.1, a.2, b.2]
    constructor <;> omega
theorem hib_mono {m n : Int} (h0 : -5400000 ≤ m) (h : m ≤ n) (h1 : n ≤ 5400000) : hib m ≤ hib n := by
  obtain ⟨d, rfl⟩ : ∃ d : Nat, n = m + d := ⟨(n - m).toNat, by omega⟩
  clear h
  induction d with
  | zero => simp
  | succ d ih =>
    have := step_up (m + d) (by omega) (by omega)
    have := ih (by omega)
    rw [show m + ((d + 1 : Nat) : Int) = m + d + 1 by omega]
    omega
theorem strict {m n : Int} (h0 : -5400000 ≤ m) (h : m < n) (h1 : n ≤ 5400000) : lob m < hib n := by
  have a := step_up m h0 (by omega)
  have b := hib_mono (m := m + 1) (n := n) (by omega) (by omega) h1
  omega
/-- The greatest angle whose sine is at most a number. -/
def IsAsin (v a : Int) : Prop := -5400000 ≤ a ∧ a ≤ 5400000 ∧ hib a ≤ v ∧ (a = 5400000 ∨ v < hib (a + 1))
theorem asin_unique {v a b : Int} (ha : IsAsin v a) (hb : IsAsin v b) : a = b := by
  obtain ⟨a0, a1, a2, a3⟩ := ha
  obtain ⟨b0, b1, b2, b3⟩ := hb
  rcases Int.lt_trichotomy a b with h | h | h
  · exfalso
    have := hib_mono (m := a + 1) (n := b) (by omega) (by omega) b1
    omega
  · exact h
  · exfalso
    have := hib_mono (m := b + 1) (n := a) (by omega) (by omega) a1
    omega
theorem hib_low : hib (-5400000) = -1073741824 := by decide +kernel
theorem asin_ex (v : Int) (hv : -1073741824 ≤ v) : ∃ a, IsAsin v a := by
  have key : ∀ d : Nat, d ≤ 10800000 → hib (5400000 - d) ≤ v → ∃ a, IsAsin v a := by
    intro d
    induction d with
    | zero => intro _ h; exact ⟨5400000, by omega, by omega, by simpa using h, .inl rfl⟩
    | succ d ih =>
      intro hd h
      by_cases c : hib (5400000 - d) ≤ v
      · exact ih (by omega) c
      · refine ⟨5400000 - ((d + 1 : Nat) : Int), by omega, by omega, h, .inr ?_⟩
        rw [show (5400000 - ((d + 1 : Nat) : Int) + 1) = 5400000 - d by omega]
        omega
  refine key 10800000 (by omega) ?_
  rw [show (5400000 - ((10800000 : Nat) : Int)) = -5400000 by omega, hib_low]
  exact hv
open Classical in
noncomputable def asn (v : Int) : Int := if h : ∃ a, IsAsin v a then Classical.choose h else 0
theorem asn_is (v : Int) (hv : -1073741824 ≤ v) : IsAsin v (asn v) := by
  unfold asn
  rw [dif_pos (asin_ex v hv)]
  exact Classical.choose_spec (asin_ex v hv)
theorem asn_eq {v a : Int} (hv : -1073741824 ≤ v) (ha : IsAsin v a) : asn v = a := asin_unique (asn_is v hv) ha
theorem cmp_le (n v : Int) : cmp n v ≤ 0 ↔ hib n ≤ v := by
  obtain ⟨h, _, _⟩ := lob_hib n
  unfold cmp
  split
  · omega
  · split <;> omega
theorem cmp_ge (n v : Int) : 0 ≤ cmp n v ↔ v ≤ lob n := by
  obtain ⟨h, _, _⟩ := lob_hib n
  unfold cmp
  split
  · omega
  · split <;> omega
theorem cmp_bd (n v : Int) : -1 ≤ cmp n v ∧ cmp n v ≤ 1 := by
  unfold cmp
  split
  · omega
  · split <;> omega
def loOf : Value → Int | .int _ x => x | _ => 0
set_option maxHeartbeats 1000000 in
theorem asin_any (v : Int) (hv : -1073741824 ≤ v) (w : World) : Calls Try.prog 35 #[.int .i64 v] w (GPost (.int .i64 (asn v)) w) := by
  obtain ⟨V, hV⟩ : ∃ V, V = Value.int .i64 (asn v) := ⟨_, rfl⟩
  have HP : ∀ a w', IsAsin v a → Below w.heap.size w w' → GPost V w (.returned (.int .i64 a)) w' := fun a w' h hb => ⟨by rw [hV, asn_eq hv h], hb⟩
  rw [← hV]
  clear hV
  have HP := Lib.hid HP
  have HB := Lib.hid (fun n w => below_any n v w)
  have HS := Lib.hid (show -5400000 ≤ (-5400000 : Int) ∧ (-5400000 : Int) < 5400001 ∧ (5400001 : Int) ≤ 5400001 ∧ hib (-5400000) ≤ v ∧ ((5400001 : Int) = 5400001 ∨ v < hib 5400001) from ⟨by omega, by omega, by omega, by rw [hib_low]; exact hv, .inl rfl⟩)
  clear hv
  go_enter Try.func35, Try.ntmps35
  go_wp2
  go_loopw [3, 4] (fun l h wr => ∃ low high : Int, l = .int .i64 low ∧ h = .int .i64 high ∧ -5400000 ≤ low ∧ low < high ∧ high ≤ 5400001 ∧ hib low ≤ v ∧ (high = 5400001 ∨ v < hib high) ∧ Below w.heap.size w wr) (fun l h _ => (loOf h - loOf l).toNat)
  case atStart => exact ⟨_, _, rfl, rfl, HS.out.1, HS.out.2.1, HS.out.2.2.1, HS.out.2.2.2.1, .inl rfl, Below.refl _ _⟩
  case round =>
    clear HS
    obtain ⟨low, high, rfl, rfl, h1, h2, h3, h4, h5, h6⟩ := hrel
    have H4 := Lib.hid h4
    have H5 := Lib.hid h5
    have H6 := Lib.hid h6
    clear h4 h5 h6
    by_cases hlt : high - low ≤ 1
    · have HF := Lib.hid (HP.out low wr ⟨h1, by omega, H4.out, by
        rcases H5.out with h | h
        · exact .inl (by omega)
        · exact .inr (by rw [show low + 1 = high by omega]; exact h)⟩ H6.out)
      go_wp2
      go_ret
      exact HF.out
    · have hm : ∃ m, m = (low + high) / 2 ∧ low < m ∧ m < high := ⟨_, rfl, by omega, by omega⟩
      obtain ⟨m, hm, hm1, hm2⟩ := hm
      have HM := Lib.hid (HB.out m wr)
      have bd := cmp_bd m v
      have HL := Lib.hid (cmp_le m v)
      generalize cmp m v = c at *
      go_wp2_with fail
      rw [← hm]
      refine HM.out.mono ?_
      rintro e w1 ⟨rfl, hb1⟩
      have H7 := Lib.hid (H6.out.trans (hb1.mono H6.out.size))
      clear hb1 hm
      by_cases hc : c ≤ 0
      · go_wp2
        go_roundw
        case rel => exact ⟨m, high, rfl, rfl, by omega, by omega, by omega, HL.out.1 hc, H5.out, H7.out⟩
        case measure => simp [loOf]; omega
      · go_wp2
        go_roundw
        case rel => exact ⟨low, m, rfl, rfl, by omega, by omega, by omega, H4.out, .inr (by have := HL.out; omega), H7.out⟩
        case measure => simp [loOf]; omega
end Go.Proofs.Ytmlmohcghoelkaa
namespace Go.Proofs.Ytmlmohcghoelkaa
open Go.RowKit
/-- An interval (or an arc) as a value. -/
def pairV (lo hi : Int) : Value := .agg #[.int .i64 lo, .int .i64 hi]
def validB (lo hi : Int) : Bool := decide (-2147483648 ≤ lo ∧ lo ≤ hi ∧ hi ≤ 2147483648)
set_option maxHeartbeats 400000 in
theorem valid_any (lo hi : Int) (w : World) : Calls Try.prog 33 #[pairV lo hi] w (GPost (.bool (validB lo hi)) w) := by
  obtain ⟨V, hV⟩ : ∃ V, V = Value.bool (validB lo hi) := ⟨_, rfl⟩
  have HP : ∀ b w', validB lo hi = b → Below w.heap.size w w' → GPost V w (.returned (.bool b)) w' := fun b w' h hb => ⟨by rw [hV, h], hb⟩
  have HP := Lib.hid HP
  have HB := Lib.hid ((Below.refl w.heap.size w).alloc (Nat.le_refl _) (.cells #[.int .i64 lo, .int .i64 hi] 23))
  rw [← hV]
  clear hV
  unfold pairV
  by_cases h1 : -2147483648 ≤ lo
  · by_cases h2 : lo ≤ hi
    · by_cases h3 : hi ≤ 2147483648
      · have HF := Lib.hid (HP.out true _ (by unfold validB; rw [decide_eq_true]; omega) HB.out)
        go_enter Try.func33, Try.ntmps33
        go_wp2
        go_ret
        exact HF.out
      · have HF := Lib.hid (HP.out false _ (by unfold validB; rw [decide_eq_false]; omega) HB.out)
        go_enter Try.func33, Try.ntmps33
        go_wp2
        go_ret
        exact HF.out
    · have HF := Lib.hid (HP.out false _ (by unfold validB; rw [decide_eq_false]; omega) HB.out)
      go_enter Try.func33, Try.ntmps33
      go_wp2
      go_ret
      exact HF.out
  · have HF := Lib.hid (HP.out false _ (by unfold validB; rw [decide_eq_false]; omega) HB.out)
    go_enter Try.func33, Try.ntmps33
    go_wp2
    go_ret
    exact HF.out
def withinB (lo hi : Int) : Bool := decide (lo ≤ hi ∧ -1073741824 ≤ lo ∧ hi ≤ 1073741824)
set_option maxHeartbeats 400000 in
theorem within_any (lo hi : Int) (w : World) : Calls Try.prog 20 #[pairV lo hi] w (GPost (.bool (withinB lo hi)) w) := by
  obtain ⟨V, hV⟩ : ∃ V, V = Value.bool (withinB lo hi) := ⟨_, rfl⟩
  have HP : ∀ b w', withinB lo hi = b → Below w.heap.size w w' → GPost V w (.returned (.bool b)) w' := fun b w' h hb => ⟨by rw [hV, h], hb⟩
  have HP := Lib.hid HP
  have HB := Lib.hid ((Below.refl w.heap.size w).alloc (Nat.le_refl _) (.cells #[.int .i64 lo, .int .i64 hi] 23))
  rw [← hV]
  clear hV
  unfold pairV
  by_cases h1 : lo ≤ hi
  · by_cases h2 : -1073741824 ≤ lo
    · by_cases h3 : hi ≤ 1073741824
      · have HF := Lib.hid (HP.out true _ (by unfold withinB; rw [decide_eq_true]; omega) HB.out)
        go_enter Try.func20, Try.ntmps20
        go_wp2
        go_ret
        exact HF.out
      · have HF := Lib.hid (HP.out false _ (by unfold withinB; rw [decide_eq_false]; omega) HB.out)
        go_enter Try.func20, Try.ntmps20
        go_wp2
        go_ret
        exact HF.out
    · have HF := Lib.hid (HP.out false _ (by unfold withinB; rw [decide_eq_false]; omega) HB.out)
      go_enter Try.func20, Try.ntmps20
      go_wp2
      go_ret
      exact HF.out
  · have HF := Lib.hid (HP.out false _ (by unfold withinB; rw [decide_eq_false]; omega) HB.out)
    go_enter Try.func20, Try.ntmps20
    go_wp2
    go_ret
    exact HF.out
theorem point_any (n : Int) (w : World) : Calls Try.prog 32 #[.int .i64 n] w (GPost (pairV n n) w) := by
  have HB := Lib.hid ((Below.refl w.heap.size w).alloc (Nat.le_refl _) (.cells #[.int .i64 n, .int .i64 n] 23))
  go_enter Try.func32, Try.ntmps32
  go_wp2
  refine bodyPost_ret (v := pairV n n) (by simp [results, Try.results32, go_sem, pairV]) rfl ⟨rfl, HB.out⟩
end Go.Proofs.Ytmlmohcghoelkaa

/-
  The sine's plain law, second part: every angle's value, times 2^30, is far from integers, and it grows with the angle. Two kernel runs of half a minute.
-/
import Derived.Test.YtfilgpifiboccaaGreatMa
namespace Go.Proofs.YtfilgpifiboccaaGreat
namespace SM
theorem pk_sub (f g : Nat → Int) : ∀ m, pk (fun i => f i - g i) m = pk f m - pk g m
  | 0 => rfl
  | m + 1 => by rw [pk_succ, pk_succ, pk_succ, pk_sub f g m]; grind
def lanes (A : Nat → Nat) (j : Nat) : Int := (pkN (fun i => A (450 * i + j)) 6000 : Nat)
def WW : Nat := 20132659200
def start (A : Nat → Nat) (σ : Int) : Bool :=
  run (pkN (fun _ => 1) 6000) WW σ 449 (lanes A 1) (lanes A 2 - lanes A 1) (lanes A 3 - 2 * lanes A 2 + lanes A 1) (lanes A 4 - 3 * lanes A 3 + 3 * lanes A 2 - lanes A 1)
theorem startS : start aS 1 = true := by decide +kernel
theorem startC : start aC (-1) = true := by decide +kernel
/-- the first angle of each block, one by one. -/
def fst1 (A : Nat → Nat) (σ : Int) (ex : Bool) (i : Nat) : Bool := (ex || (Nat.ble (2 * WW) ((A (450 * i) + WW) % 2 ^ 56))) && decide (1099511627776 ≤ σ * ((A (450 * i + 1) : Int) - A (450 * i)))
def blk (A : Nat → Nat) (σ : Int) (ex : Nat → Bool) (m : Nat) : Bool := Nat.rec (motive := fun _ => Bool) true (fun i acc => fst1 A σ (ex i) i && acc) m
theorem firstS : blk aS 1 (fun i => Nat.beq i 0 || Nat.beq i 4000) 6000 = true := by decide +kernel
theorem firstC : blk aC (-1) (fun i => Nat.beq i 0) 6000 = true := by decide +kernel
theorem blk_at {A : Nat → Nat} {σ : Int} {ex : Nat → Bool} : ∀ {m : Nat}, blk A σ ex m = true → ∀ i, i < m → fst1 A σ (ex i) i = true
  | 0, _, i, hi => by omega
  | m + 1, h, i, hi => by
    have h' : (fst1 A σ (ex m) m && blk A σ ex m) = true := h
    simp only [Bool.and_eq_true] at h'
    rcases Nat.lt_or_ge i m with hlt | hge
    · exact blk_at h'.2 i hlt
    · have : i = m := by omega
      rw [this]; exact h'.1
def BB : Nat := 2147483648
theorem near_start {A : Nat → Nat} {T : Nat → Rat} (hA : ∀ n, n ≤ 2700100 → Wit (G86 * T n - (A n : Rat)) 2) (n : Nat) (hn : n + 3 ≤ 2700100) :
    Near T n (A n) ((A (n + 1) : Int) - A n) ((A (n + 2) : Int) - 2 * A (n + 1) + A n) ((A (n + 3) : Int) - 3 * A (n + 2) + 3 * A (n + 1) - A n) (2, 4, 8, 16) := by
  have h0 := hA n (by omega); have h1 := hA (n + 1) (by omega); have h2 := hA (n + 2) (by omega); have h3 := hA (n + 3) (by omega)
  unfold Wit at *
  refine ⟨?_, ?_, ?_, ?_⟩
  · show Wit _ ((2 : Nat) : Rat)
    unfold Wit; push_cast; generalize G86 = g at *; constructor <;> grind
  · show Wit _ ((4 : Nat) : Rat)
    unfold Wit d1; push_cast; generalize G86 = g at *; constructor <;> grind
  · show Wit _ ((8 : Nat) : Rat)
    unfold Wit d2; push_cast; generalize G86 = g at *; constructor <;> grind
  · show Wit _ ((16 : Nat) : Rat)
    unfold Wit d3; push_cast; generalize G86 = g at *; constructor <;> grind
theorem errs : allE BB 449 (2, 4, 8, 16) = true := by decide +kernel
theorem fine_all {A : Nat → Nat} {T : Nat → Rat} {j : Jet} {σ : Int} {ex : Nat → Bool} (hσ : σ = 1 ∨ σ = -1) (hj : Has NN T j) (h4 : G86 * j.b4 ≤ 1) (hA : ∀ n, n ≤ 2700100 → Wit (G86 * T n - (A n : Rat)) 2)
    (hT0 : ∀ n, 1 ≤ n → n ≤ NN → (2 ^ 41 : Nat) ≤ G86 * T n ∧ G86 * T n ≤ (2 ^ 90 : Nat)) (hT1 : ∀ n, n + 1 ≤ NN → Wit (G86 * d1 T n) (2 ^ 90 : Nat))
    (hs : start A σ = true) (hf : blk A σ ex 6000 = true) (n : Nat) (hn : n < 2700000) : ((n % 450 = 0 ∧ ex (n / 450) = true) ∨ ∃ f : Nat, ((f * 2 ^ 56 + WW : Nat) : Rat) ≤ G86 * T n + (BB : Rat) ∧ G86 * T n ≤ (((f + 1) * 2 ^ 56 : Nat) : Rat) - (WW : Rat) + (BB : Rat)) ∧
      (1099511627776 : Rat) ≤ (σ : Rat) * (G86 * d1 T n) + (BB : Rat) := by
  have hi : n / 450 < 6000 := by omega
  have hdm := Nat.div_add_mod n 450
  rcases Nat.eq_zero_or_pos (n % 450) with h0 | h0
  · have hfi := blk_at hf (n / 450) hi
    have en : 450 * (n / 450) = n := by omega
    unfold fst1 at hfi
    rw [en] at hfi
    simp only [Bool.and_eq_true, Bool.or_eq_true, Nat.ble_eq, decide_eq_true_eq] at hfi
    obtain ⟨hw, hd⟩ := hfi
    have hn0 := hA n (by omega)
    have hn1 := hA (n + 1) (by omega)
    refine ⟨?_, ?_⟩
    · rcases hw with hw | hw
      · exact .inl ⟨h0, hw⟩
      · right
        refine ⟨(A n + WW) / 2 ^ 56, ?_⟩
        have hdm := Nat.div_add_mod (A n + WW) (2 ^ 56)
        have hml := Nat.mod_lt (A n + WW) (show 0 < 2 ^ 56 by decide)
        generalize (A n + WW) / 2 ^ 56 = f at *
        have u1 : f * 2 ^ 56 + WW ≤ A n := by omega
        have u2 : A n + WW ≤ (f + 1) * 2 ^ 56 := by omega
        have r1 : ((f * 2 ^ 56 + WW : Nat) : Rat) ≤ (A n : Rat) := by exact_mod_cast u1
        have r2 : ((A n + WW : Nat) : Rat) ≤ (((f + 1) * 2 ^ 56 : Nat) : Rat) := by exact_mod_cast u2
        have r2' : (A n : Rat) + (WW : Rat) ≤ (((f + 1) * 2 ^ 56 : Nat) : Rat) := by
          have : ((A n + WW : Nat) : Rat) = (A n : Rat) + (WW : Rat) := Rat.natCast_add _ _
          rw [← this]; exact r2
        have cB : (BB : Rat) = 2147483648 := rfl
        rw [cB]
        unfold Wit at hn0
        generalize ((f * 2 ^ 56 + WW : Nat) : Rat) = x1 at *
        generalize (((f + 1) * 2 ^ 56 : Nat) : Rat) = x2 at *
        generalize (WW : Rat) = ww at *
        constructor <;> grind
    · have hdr : ((1099511627776 : Int) : Rat) ≤ ((σ * ((A (n + 1) : Int) - A n) : Int) : Rat) := Rat.intCast_le_intCast.2 hd
      have c1 : ((1099511627776 : Int) : Rat) = 1099511627776 := rfl
      have cB : (BB : Rat) = 2147483648 := rfl
      rw [c1] at hdr
      rw [cB]
      unfold Wit d1 at *
      rcases hσ with rfl | rfl
      · have e1 : ((1 : Int) : Rat) = 1 := rfl
        rw [e1]; push_cast at hdr; generalize G86 = g at *; grind
      · have e1 : ((-1 : Int) : Rat) = -1 := rfl
        rw [e1]; push_cast at hdr; generalize G86 = g at *; grind
  · have hrun : run (pkN (fun _ => 1) 6000) WW σ 449 (pk (fun i => (A (450 * i + 1) : Int)) 6000) (pk (fun i => (A (450 * i + 1 + 1) : Int) - A (450 * i + 1)) 6000) (pk (fun i => (A (450 * i + 1 + 2) : Int) - 2 * A (450 * i + 1 + 1) + A (450 * i + 1)) 6000)
        (pk (fun i => (A (450 * i + 1 + 3) : Int) - 3 * A (450 * i + 1 + 2) + 3 * A (450 * i + 1 + 1) - A (450 * i + 1)) 6000) = true := by
      have hs' := hs
      unfold start at hs'
      have e : ∀ j, lanes A j = pk (fun i => (A (450 * i + j) : Int)) 6000 := fun j => (pk_nat _ _).symm
      rw [e 1, e 2, e 3, e 4, pk_mul, pk_mul, pk_mul, ← pk_sub, ← pk_sub, ← pk_sub, pk_add, pk_add, ← pk_sub] at hs'
      exact hs'
    have := run_ok (m := 6000) (fun i => 450 * i) hσ hj h4 (w := WW) (B := BB) (by decide) (by decide) hT0 hT1 449 1 _ _ _ _ (2, 4, 8, 16) (by omega) (fun i hi => by unfold NN; omega) errs
      (fun i hi => near_start hA (450 * i + 1) (by omega)) hrun (n % 450 - 1) (by omega) (n / 450) hi
    have en : 450 * (n / 450) + (1 + (n % 450 - 1)) = n := by omega
    rw [en] at this
    exact ⟨.inr this.1, this.2⟩
theorem inv_le_half {d : Nat} (hd : 2 ≤ d) : 1 / (d : Rat) ≤ 1 / 2 := by
  have h : (2 : Rat) ≤ (d : Rat) := by exact_mod_cast hd
  have h0 : (d : Rat) ≠ 0 := by grind
  have e : (d : Rat) * (1 / (d : Rat)) = 1 := by grind
  have i0 := inv_nonneg' (d : Rat) (by grind)
  generalize 1 / (d : Rat) = i at *
  have : 2 * i ≤ (d : Rat) * i := by
    have := Rat.mul_le_mul_of_nonneg_right h i0
    exact this
  grind
theorem hR_bd (odd : Nat) (Y : Rat) (hY : 0 ≤ Y ∧ Y ≤ 1) : ∀ (k : Nat) (h : Rat), 0 ≤ h ∧ h ≤ 1 → (0 ≤ hR odd Y k h ∧ hR odd Y k h ≤ 1) ∧ (1 ≤ k → hR odd Y k h ≤ 1 / 2 * Y)
  | 0, h, hh => ⟨hh, fun h => by omega⟩
  | k + 1, h, hh => by
    have hd : 2 ≤ (2 * k + 1 + odd) * (2 * k + 2 + odd) := by
      have : 1 * 2 ≤ (2 * k + 1 + odd) * (2 * k + 2 + odd) := Nat.mul_le_mul (by omega) (by omega)
      omega
    have i1 := inv_le_half hd
    have i0 := inv_nonneg' (((2 * k + 1 + odd) * (2 * k + 2 + odd) : Nat) : Rat) (by exact_mod_cast Nat.zero_le _)
    have y0 : 0 ≤ Y * (1 - h) := Rat.mul_nonneg hY.1 (by grind)
    have y1 : Y * (1 - h) ≤ Y := by
      have := Rat.mul_nonneg hY.1 hh.1
      grind
    have s0 : 0 ≤ 1 / (((2 * k + 1 + odd) * (2 * k + 2 + odd) : Nat) : Rat) * (Y * (1 - h)) := Rat.mul_nonneg i0 y0
    have s1 : 1 / (((2 * k + 1 + odd) * (2 * k + 2 + odd) : Nat) : Rat) * (Y * (1 - h)) ≤ 1 / 2 * Y := by
      have a1 := Rat.mul_le_mul_of_nonneg_right i1 y0
      have a2 := Rat.mul_le_mul_of_nonneg_left y1 (show (0 : Rat) ≤ 1 / 2 by grind)
      grind
    have ih := hR_bd odd Y hY k _ ⟨s0, by grind⟩
    refine ⟨ih.1, fun _ => ?_⟩
    rcases Nat.eq_zero_or_pos k with h0 | h0
    · subst h0; exact s1
    · exact ih.2 h0
theorem sq_bd (n : Nat) (hn : n ≤ 2700100) : 0 ≤ xR n * xR n ∧ xR n * xR n ≤ 7 / 10 := by
  have h := xR_bd n hn
  exact ⟨Rat.mul_nonneg h.1 h.1, (yN_bd n hn).2⟩
theorem tC_bd (n : Nat) (hn : n ≤ 2700100) : 1 / 2 ≤ tC n ∧ tC n ≤ 1 := by
  have h := sq_bd n hn
  have := hR_bd 0 (xR n * xR n) ⟨h.1, by grind⟩ 10 0 ⟨by grind, by grind⟩
  have h2 := this.2 (by omega)
  unfold tC
  constructor <;> grind
theorem tS_bd (n : Nat) (hn : n ≤ 2700100) : 1 / 2 * xR n ≤ tS n ∧ tS n ≤ xR n := by
  have h := sq_bd n hn
  have hx := xR_bd n hn
  have := hR_bd 1 (xR n * xR n) ⟨h.1, by grind⟩ 10 0 ⟨by grind, by grind⟩
  have h2 := this.2 (by omega)
  unfold tS
  generalize hR 1 (xR n * xR n) 10 0 = H at *
  have a1 : 0 ≤ xR n * (1 / 2 - H) := Rat.mul_nonneg hx.1 (by grind)
  have a2 : 0 ≤ xR n * H := Rat.mul_nonneg hx.1 this.1.1
  constructor <;> grind
theorem hT0S : ∀ n, 1 ≤ n → n ≤ NN → (2 ^ 41 : Nat) ≤ G86 * tS n ∧ G86 * tS n ≤ (2 ^ 90 : Nat) := by
  intro n h1 h2
  have hb := tS_bd n h2
  have hx := xR_bd n h2
  have c1 : ((2 ^ 41 : Nat) : Rat) = 2199023255552 := rfl
  have c2 : ((2 ^ 90 : Nat) : Rat) = 1237940039285380274899124224 := rfl
  have hn1 : (1 : Rat) ≤ (n : Rat) := by exact_mod_cast h1
  have hlow : th ≤ xR n := by
    unfold xR
    have := Rat.mul_le_mul_of_nonneg_left hn1 (show 0 ≤ th by unfold th pi96; grind)
    grind
  rw [c1, c2]
  unfold G86
  have ht : (1 / 4000000 : Rat) ≤ th := by unfold th pi96; grind
  constructor <;> grind
theorem hT0C : ∀ n, 1 ≤ n → n ≤ NN → (2 ^ 41 : Nat) ≤ G86 * tC n ∧ G86 * tC n ≤ (2 ^ 90 : Nat) := by
  intro n h1 h2
  have hb := tC_bd n h2
  have c1 : ((2 ^ 41 : Nat) : Rat) = 2199023255552 := rfl
  have c2 : ((2 ^ 90 : Nat) : Rat) = 1237940039285380274899124224 := rfl
  rw [c1, c2]
  unfold G86
  constructor <;> grind
theorem hT1S : ∀ n, n + 1 ≤ NN → Wit (G86 * d1 tS n) (2 ^ 90 : Nat) := by
  intro n hn
  have h0 := tS_bd n (by unfold NN at hn; omega)
  have h1 := tS_bd (n + 1) hn
  have x0 := xR_bd n (by unfold NN at hn; omega)
  have x1 := xR_bd (n + 1) hn
  have c2 : ((2 ^ 90 : Nat) : Rat) = 1237940039285380274899124224 := rfl
  rw [c2]
  unfold Wit d1 G86
  constructor <;> grind
theorem hT1C : ∀ n, n + 1 ≤ NN → Wit (G86 * d1 tC n) (2 ^ 90 : Nat) := by
  intro n hn
  have h0 := tC_bd n (by unfold NN at hn; omega)
  have h1 := tC_bd (n + 1) hn
  have c2 : ((2 ^ 90 : Nat) : Rat) = 1237940039285380274899124224 := rfl
  rw [c2]
  unfold Wit d1 G86
  constructor <;> grind
/-- Far from integers: f/2^30 .. (f+1)/2^30, both ends by more than 1000 units of 2^-62. -/
def Far (x : Rat) : Prop := ∃ f : Nat, (f : Rat) * 72057594037927936 + 17000000000 ≤ G86 * x ∧ G86 * x ≤ ((f : Rat) + 1) * 72057594037927936 - 17000000000
theorem far_of {x : Rat} (h : ∃ f : Nat, ((f * 2 ^ 56 + WW : Nat) : Rat) ≤ G86 * x + (BB : Rat) ∧ G86 * x ≤ (((f + 1) * 2 ^ 56 : Nat) : Rat) - (WW : Rat) + (BB : Rat)) : Far x := by
  obtain ⟨f, h1, h2⟩ := h
  refine ⟨f, ?_⟩
  have cW : (WW : Rat) = 20132659200 := rfl
  have cB : (BB : Rat) = 2147483648 := rfl
  have c56 : ((2 ^ 56 : Nat) : Rat) = 72057594037927936 := rfl
  have e1 : ((f * 2 ^ 56 + WW : Nat) : Rat) = (f : Rat) * 72057594037927936 + 20132659200 := by
    rw [Rat.natCast_add, Rat.natCast_mul, c56, cW]
  have e2 : (((f + 1) * 2 ^ 56 : Nat) : Rat) = ((f : Rat) + 1) * 72057594037927936 := by
    rw [Rat.natCast_mul, c56, Rat.natCast_add]; rfl
  rw [e1, cB] at h1
  rw [e2, cB, cW] at h2
  generalize G86 * x = g at *
  constructor <;> grind
theorem farS (n : Nat) (hn : n < 2700000) (h0 : n ≠ 0) (h1 : n ≠ 1800000) : Far (tS n) := by
  rcases (fine_all (.inl rfl) has_S jS4 aS_bd hT0S hT1S startS firstS n hn).1 with ⟨hm, he⟩ | h
  · simp only [Bool.or_eq_true, Nat.beq_eq] at he
    omega
  · exact far_of h
theorem farC (n : Nat) (hn : n < 2700000) (h0 : n ≠ 0) : Far (tC n) := by
  rcases (fine_all (.inr rfl) has_C jC4 aC_bd hT0C hT1C startC firstC n hn).1 with ⟨hm, he⟩ | h
  · simp only [Nat.beq_eq] at he
    omega
  · exact far_of h
theorem upS (n : Nat) (hn : n < 2700000) : 1000000000000 ≤ G86 * (tS (n + 1) - tS n) := by
  have h := (fine_all (.inl rfl) has_S jS4 aS_bd hT0S hT1S startS firstS n hn).2
  have cB : (BB : Rat) = 2147483648 := rfl
  have e1 : ((1 : Int) : Rat) = 1 := rfl
  rw [cB, e1] at h
  unfold d1 at h
  grind
theorem downC (n : Nat) (hn : n < 2700000) : 1000000000000 ≤ G86 * (tC n - tC (n + 1)) := by
  have h := (fine_all (.inr rfl) has_C jC4 aC_bd hT0C hT1C startC firstC n hn).2
  have cB : (BB : Rat) = 2147483648 := rfl
  have e1 : ((-1 : Int) : Rat) = -1 := rfl
  rw [cB, e1] at h
  unfold d1 at h
  grind
end SM
end Go.Proofs.YtfilgpifiboccaaGreat

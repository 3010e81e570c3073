import Derived.Test.YtmlmohcghoelkaaT57
import Derived.Test.YtmlmohcghoelkaaT16
namespace Go.Proofs.Ytmlmohcghoelkaa
open SM
/-! The computed sines grow, the cosines fall; what the search for an angle finds. No walk here. -/
def epN : Rat := 1 / 576460752303423488
theorem mid_eq : Wit (tS 2700000 - tC 2700000) (1 / 1152921504606846976) := by
  have a := aS_bd 2700000 (by omega)
  have b := aC_bd 2700000 (by omega)
  have e1 : aS 2700000 ≤ aC 2700000 + 50000000 := by decide +kernel
  have e2 : aC 2700000 ≤ aS 2700000 + 50000000 := by decide +kernel
  have g1 : ((aS 2700000 : Nat) : Rat) ≤ ((aC 2700000 + 50000000 : Nat) : Rat) := Rat.natCast_le_natCast.2 e1
  have g2 : ((aC 2700000 : Nat) : Rat) ≤ ((aS 2700000 + 50000000 : Nat) : Rat) := Rat.natCast_le_natCast.2 e2
  rw [Rat.natCast_add] at g1 g2
  have c : ((50000000 : Nat) : Rat) = 50000000 := rfl
  rw [c] at g1 g2
  unfold Wit G86 at *
  constructor <;> grind
theorem sinN_err (k : Nat) (hk : k ≤ 5400000) : Wit ((sinN k : Rat) * epU - T k) epN ∧ Wit ((cosN k : Rat) * epU - T (5400000 - k)) epN := by
  have hm := mid_eq
  unfold sinN cosN T
  rcases Nat.lt_trichotomy k 2700000 with h | h | h
  · rw [if_pos (by omega), if_pos (by omega), if_pos (by omega), if_neg (by omega), show 5400000 - (5400000 - k) = k by omega]
    have := circ_err k (by omega)
    exact ⟨this.1.mono (by unfold epN; grind), this.2.mono (by unfold epN; grind)⟩
  · subst h
    rw [if_pos (by omega), if_pos (by omega), if_pos (by omega)]
    have := circ_err 2700000 (by omega)
    refine ⟨this.1.mono (by unfold epN; grind), ?_⟩
    have h2 := this.2
    unfold Wit epN at *
    constructor <;> grind
  · rw [if_neg (by omega), if_neg (by omega), if_neg (by omega), if_pos (by omega)]
    have := circ_err (5400000 - k) (by omega)
    exact ⟨this.2.mono (by unfold epN; grind), this.1.mono (by unfold epN; grind)⟩
theorem T_lt {j k : Nat} (h : j < k) (hk : k ≤ 5400000) : T j + 1 / 77371252455337 ≤ T k := by
  obtain ⟨d, rfl⟩ : ∃ d, k = j + 1 + d := ⟨k - j - 1, by omega⟩
  induction d with
  | zero =>
    have := up j (by omega)
    unfold G86 at this
    grind
  | succ d ih =>
    have := up (j + 1 + d) (by omega)
    have := ih (by omega) (by omega)
    rw [show j + 1 + (d + 1) = j + 1 + d + 1 by omega]
    unfold G86 at *
    grind
theorem lt_of_epU {a b : Nat} (h : (a : Rat) * epU < (b : Rat) * epU) : a < b := by
  rcases Nat.lt_or_ge a b with h1 | h1
  · exact h1
  · exfalso
    have h2 : ((b : Nat) : Rat) ≤ ((a : Nat) : Rat) := Rat.natCast_le_natCast.2 h1
    have := Rat.mul_le_mul_of_nonneg_right h2 epU_pos.1
    grind
theorem sinN_up {j k : Nat} (h : j < k) (hk : k ≤ 5400000) : sinN j < sinN k ∧ cosN k < cosN j := by
  obtain ⟨a1, a2⟩ := sinN_err j (by omega)
  obtain ⟨b1, b2⟩ := sinN_err k hk
  have t1 := T_lt h hk
  have t2 := T_lt (j := 5400000 - k) (k := 5400000 - j) (by omega) (by omega)
  constructor
  · apply lt_of_epU
    unfold Wit epN at *
    grind
  · apply lt_of_epU
    unfold Wit epN at *
    grind
theorem sin_cos {k : Nat} (h : k < 2700000) : sinN k < cosN k := by
  obtain ⟨a1, a2⟩ := sinN_err k (by omega)
  have t1 := T_lt (j := k) (k := 5400000 - k) (by omega) (by omega)
  apply lt_of_epU
  unfold Wit epN at *
  grind
theorem cos_sin {k : Nat} (h : 2700000 < k) (hk : k ≤ 5400000) : cosN k < sinN k := by
  obtain ⟨a1, a2⟩ := sinN_err k (by omega)
  have t1 := T_lt (j := 5400000 - k) (k := k) (by omega) (by omega)
  apply lt_of_epU
  unfold Wit epN at *
  grind
theorem T_le_one (k : Nat) (hk : k ≤ 5400000) : 0 ≤ T k ∧ T k ≤ 1 := by
  unfold T
  split
  · have a := tS_bd k (by omega)
    have b := xR_bd k (by omega)
    constructor <;> grind
  · have a := tC_bd (5400000 - k) (by omega)
    constructor <;> grind
theorem sinN_le (k : Nat) (hk : k ≤ 5400000) : sinN k < 12554203470773361527671578846415332832204710888928069025792 ∧ cosN k < 12554203470773361527671578846415332832204710888928069025792 := by
  obtain ⟨a1, a2⟩ := sinN_err k hk
  have t1 := T_le_one k hk
  have t2 := T_le_one (5400000 - k) (by omega)
  have hU : (2 : Rat) = ((12554203470773361527671578846415332832204710888928069025792 : Nat) : Rat) * epU := by
    have : ((12554203470773361527671578846415332832204710888928069025792 : Nat) : Rat) = 12554203470773361527671578846415332832204710888928069025792 := rfl
    rw [this]; unfold epU; grind
  constructor
  · apply lt_of_epU
    rw [← hU]
    unfold Wit epN at *
    grind
  · apply lt_of_epU
    rw [← hU]
    unfold Wit epN at *
    grind
/-- Whether the sine's multiple is at most the cosine's. -/
theorem reaB_iff {x y k : Nat} (hx : x ≤ 2147483648) (hy : y ≤ 2147483648) (h0 : k ≠ 0) (h1 : k ≠ 2700000) (hk : k ≤ 5400000) : reaB x y k = true ↔ sinN k * x ≤ cosN k * y := by
  obtain ⟨s1, s2⟩ := sinN_le k hk
  have p1 : sinN k * x < M256 := by
    have := Nat.mul_le_mul (Nat.le_of_lt s1) hx
    unfold M256; omega
  have p2 : cosN k * y < M256 := by
    have := Nat.mul_le_mul (Nat.le_of_lt s2) hy
    unfold M256; omega
  unfold reaB
  rw [if_neg h0, if_neg h1, Nat.mod_eq_of_lt p1, Nat.mod_eq_of_lt p2]
  simp
theorem reaB_zero (x y : Nat) : reaB x y 0 = true := by unfold reaB; rw [if_pos rfl]
theorem reaB_mid (x y : Nat) : reaB x y 2700000 = true ↔ x ≤ y := by unfold reaB; rw [if_neg (by omega), if_pos rfl]; simp
/-- What is reached by a point is reached by a point not before it, at any smaller angle. -/
theorem reaB_mono {x y u v j k : Nat} (hx0 : 0 < x) (hx : x ≤ 2147483648) (hy : y ≤ 2147483648) (hu : u ≤ 2147483648) (hv : v ≤ 2147483648) (hc : y * u ≤ x * v) (hjk : j ≤ k) (hk : k ≤ 5400000) (h : reaB x y k = true) : reaB u v j = true := by
  by_cases j0 : j = 0
  · subst j0; exact reaB_zero u v
  -- the sine and the cosine at j, as the test takes them
  have key : ∀ s c S C : Nat, s * C ≤ S * c → S * x ≤ C * y → 0 < C → s * u ≤ c * v := fun s c S C h1 h2 hC => by
    -- s u x C <= S c u x <= C y c u <= C c x v
    have a1 : s * u * (x * C) ≤ c * v * (x * C) := by
      have b1 := Nat.mul_le_mul_right (u * x) h1
      have b2 := Nat.mul_le_mul_right (c * u) h2
      have b3 := Nat.mul_le_mul_left (C * c) hc
      have e1 : s * u * (x * C) = s * C * (u * x) := by grind
      have e2 : S * c * (u * x) = S * x * (c * u) := by grind
      have e3 : C * y * (c * u) = C * c * (y * u) := by grind
      have e4 : C * c * (x * v) = c * v * (x * C) := by grind
      omega
    exact Nat.le_of_mul_le_mul_right a1 (Nat.mul_pos hx0 hC)
  have hord : ∀ {p q : Nat}, p ≤ q → q ≤ 5400000 → sinN p ≤ sinN q ∧ cosN q ≤ cosN p := fun {p q} h1 h2 => by
    rcases Nat.eq_or_lt_of_le h1 with e | e
    · subst e; exact ⟨Nat.le_refl _, Nat.le_refl _⟩
    · have := sinN_up e h2; omega
  have hCpos : ∀ {q : Nat}, q < 5400000 → 0 < cosN q := fun {q} h1 => by
    have := (sinN_up (j := q) (k := q + 1) (by omega) (by omega)).2; omega
  by_cases k2 : k = 2700000
  · subst k2
    have hxy := (reaB_mid x y).1 h
    by_cases j2 : j = 2700000
    · subst j2
      rw [reaB_mid]
      have := key 1 1 1 1 (by omega) (by omega) (by omega)
      omega
    · rw [reaB_iff hu hv j0 j2 (by omega)]
      have h1 := sin_cos (k := j) (by omega)
      exact key (sinN j) (cosN j) 1 1 (by omega) (by omega) (by omega)
  · have k0 : k ≠ 0 := by omega
    have hxy := (reaB_iff hx hy k0 k2 hk).1 h
    obtain ⟨o1, o2⟩ := hord hjk hk
    have hkC : 0 < cosN k := by
      rcases Nat.eq_or_lt_of_le hk with e | e
      · -- at a right angle the sine's multiple is too great
        rcases Nat.eq_zero_or_pos (cosN k) with c0 | c0
        · exfalso
          rw [c0, Nat.zero_mul] at hxy
          have := (sinN_up (j := 0) (k := k) (by omega) hk).1
          have : 0 < sinN k * x := Nat.mul_pos (by omega) hx0
          omega
        · exact c0
      · exact hCpos e
    by_cases j2 : j = 2700000
    · subst j2
      rw [reaB_mid]
      have h1 := cos_sin (k := k) (by omega) hk
      have := key 1 1 (sinN k) (cosN k) (by omega) hxy hkC
      omega
    · rw [reaB_iff hu hv j0 j2 (by omega)]
      refine key (sinN j) (cosN j) (sinN k) (cosN k) ?_ hxy hkC
      exact Nat.mul_le_mul o1 o2
end Go.Proofs.Ytmlmohcghoelkaa

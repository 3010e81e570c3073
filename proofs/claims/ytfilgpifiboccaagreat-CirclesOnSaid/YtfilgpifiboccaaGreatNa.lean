/-
  No ties: Euclid's algorithm for sine and cosine of many angles at once, in lanes of 224 bits of one number; and that the lanes start near the sines and cosines. No program here.
-/
namespace Go.Proofs.YtfilgpifiboccaaGreat
namespace NT
/-! ### Numbers side by side in one number -/
def pkN (f : Nat → Nat) (m : Nat) : Nat := Nat.rec (motive := fun _ => Nat) 0 (fun i acc => acc + f i * 2 ^ (224 * i)) m
theorem pkN_zero (f : Nat → Nat) : pkN f 0 = 0 := rfl
theorem pkN_succ (f : Nat → Nat) (m : Nat) : pkN f (m + 1) = pkN f m + f m * 2 ^ (224 * m) := rfl
theorem pkN_lt (f : Nat → Nat) : ∀ m, (∀ i, i < m → f i < 2 ^ 224) → pkN f m < 2 ^ (224 * m)
  | 0, _ => by rw [pkN_zero]; simp
  | m + 1, h => by
    have ih := pkN_lt f m (fun i hi => h i (by omega))
    have hm := h m (by omega)
    rw [pkN_succ, show 224 * (m + 1) = 224 + 224 * m by omega, Nat.pow_add]
    have : (f m + 1) * 2 ^ (224 * m) ≤ 2 ^ 224 * 2 ^ (224 * m) := Nat.mul_le_mul_right _ hm
    rw [Nat.add_mul] at this
    omega
theorem land_split (k a b x y : Nat) (ha : a < 2 ^ k) (hb : b < 2 ^ k) : (a + x * 2 ^ k) &&& (b + y * 2 ^ k) = (a &&& b) + (x &&& y) * 2 ^ k := by
  have e : ∀ u z : Nat, u + z * 2 ^ k = 2 ^ k * z + u := fun u z => by rw [Nat.mul_comm, Nat.add_comm]
  have hab : a &&& b < 2 ^ k := Nat.and_lt_two_pow _ hb
  rw [e, e, e]
  apply Nat.eq_of_testBit_eq
  intro j
  rw [Nat.testBit_and, Nat.testBit_two_pow_mul_add _ ha, Nat.testBit_two_pow_mul_add _ hb, Nat.testBit_two_pow_mul_add _ hab]
  split <;> simp
theorem pkN_land (f g : Nat → Nat) : ∀ m, (∀ i, i < m → f i < 2 ^ 224) → (∀ i, i < m → g i < 2 ^ 224) → pkN f m &&& pkN g m = pkN (fun i => f i &&& g i) m
  | 0, _, _ => by rw [pkN_zero, pkN_zero, pkN_zero]; rfl
  | m + 1, hf, hg => by
    rw [pkN_succ, pkN_succ, pkN_succ, land_split _ _ _ _ _ (pkN_lt f m fun i hi => hf i (by omega)) (pkN_lt g m fun i hi => hg i (by omega)), pkN_land f g m (fun i hi => hf i (by omega)) (fun i hi => hg i (by omega))]
theorem pkN_inj (f g : Nat → Nat) : ∀ m, (∀ i, i < m → f i < 2 ^ 224) → (∀ i, i < m → g i < 2 ^ 224) → pkN f m = pkN g m → ∀ i, i < m → f i = g i
  | 0, _, _, _, i, hi => by omega
  | m + 1, hf, hg, h, i, hi => by
    have h1 := pkN_lt f m fun i hi => hf i (by omega)
    have h2 := pkN_lt g m fun i hi => hg i (by omega)
    rw [pkN_succ, pkN_succ] at h
    have hp : 0 < 2 ^ (224 * m) := Nat.two_pow_pos _
    have e1 : f m = g m := by
      have a1 : (pkN f m + f m * 2 ^ (224 * m)) / 2 ^ (224 * m) = f m := by
        rw [Nat.add_mul_div_right _ _ hp, Nat.div_eq_of_lt h1, Nat.zero_add]
      have a2 : (pkN g m + g m * 2 ^ (224 * m)) / 2 ^ (224 * m) = g m := by
        rw [Nat.add_mul_div_right _ _ hp, Nat.div_eq_of_lt h2, Nat.zero_add]
      rw [← a1, h, a2]
    rw [e1] at h
    rcases Nat.lt_or_ge i m with hlt | hge
    · exact pkN_inj f g m (fun i hi => hf i (by omega)) (fun i hi => hg i (by omega)) (by omega) i hlt
    · have : i = m := by omega
      rw [this]; exact e1
theorem pkN_add (f g : Nat → Nat) : ∀ m, pkN f m + pkN g m = pkN (fun i => f i + g i) m
  | 0 => rfl
  | m + 1 => by rw [pkN_succ, pkN_succ, pkN_succ, ← pkN_add f g m, Nat.add_mul]; omega
theorem pkN_mul (c : Nat) (f : Nat → Nat) : ∀ m, c * pkN f m = pkN (fun i => c * f i) m
  | 0 => rfl
  | m + 1 => by rw [pkN_succ, pkN_succ, ← pkN_mul c f m, Nat.mul_add, Nat.mul_assoc]
theorem pkN_congr (f g : Nat → Nat) : ∀ m, (∀ i, i < m → f i = g i) → pkN f m = pkN g m
  | 0, _ => rfl
  | m + 1, h => by rw [pkN_succ, pkN_succ, pkN_congr f g m (fun i hi => h i (by omega)), h m (by omega)]

def HH : Nat := 13479973333575319897333507543509815336818572211270286240551805124608
theorem HH_eq : HH = 2 ^ 223 := by decide
/-- A quotient's part taken off all lanes where it fits: U less 2^j V. (E: 2^223 - e in each lane) -/
def sub1 (H E j V U : Nat) : Nat :=
  let T := Nat.shiftLeft V j
  let B := Nat.land (U + E - T) H
  U - Nat.land T (B - Nat.shiftRight B 223)
def lane1 (e j v u : Nat) : Nat := if v * 2 ^ j + e ≤ u then u - v * 2 ^ j else u
theorem pkN_sub (f g : Nat → Nat) (m : Nat) (h : ∀ i, i < m → g i ≤ f i) : pkN f m - pkN g m = pkN (fun i => f i - g i) m := by
  have a := pkN_add (fun i => f i - g i) g m
  rw [pkN_congr (fun i => f i - g i + g i) f m (fun i hi => by have := h i hi; omega)] at a
  omega
theorem land_top {x : Nat} (h : x < 2 ^ 224) : Nat.land x (2 ^ 223) = if 2 ^ 223 ≤ x then 2 ^ 223 else 0 := by
  show x &&& 2 ^ 223 = _
  have tb : ∀ j, (x &&& 2 ^ 223).testBit j = (x.testBit j && decide (223 = j)) := fun j => by rw [Nat.testBit_and, Nat.testBit_two_pow]
  by_cases c : 2 ^ 223 ≤ x
  · rw [if_pos c]
    have hx : x.testBit 223 = true := by
      rw [Nat.testBit_eq_decide_div_mod_eq]
      have : x / 2 ^ 223 = 1 := by omega
      rw [this]; rfl
    refine Nat.eq_of_testBit_eq fun j => ?_
    rw [tb, Nat.testBit_two_pow]
    by_cases q : 223 = j
    · rw [← q, hx]; simp
    · simp [q]
  · rw [if_neg c]
    have hx : x.testBit 223 = false := Nat.testBit_lt_two_pow (by omega)
    refine Nat.eq_of_testBit_eq fun j => ?_
    rw [tb, Nat.zero_testBit]
    by_cases q : 223 = j
    · rw [← q, hx]; simp
    · simp [q]
theorem sub1_lane (e j m : Nat) (he : e ≤ HH) (v u : Nat → Nat) (hv : ∀ i, i < m → v i * 2 ^ j + e < 2 ^ 223) (hu : ∀ i, i < m → u i < 2 ^ 223) :
    sub1 (pkN (fun _ => HH) m) (pkN (fun _ => HH - e) m) j (pkN v m) (pkN u m) = pkN (fun i => lane1 e j (v i) (u i)) m := by
  unfold sub1
  dsimp only
  have sl : Nat.shiftLeft (pkN v m) j = pkN (fun i => 2 ^ j * v i) m := by
    have : pkN v m <<< j = pkN v m * 2 ^ j := Nat.shiftLeft_eq ..
    rw [← pkN_mul, Nat.mul_comm]
    exact this
  have sr : ∀ B, Nat.shiftRight B 223 = B / HH := fun B => by
    rw [HH_eq]
    exact Nat.shiftRight_eq_div_pow B 223
  rw [sl, sr, pkN_add, pkN_sub _ _ _ (fun i hi => by have := hv i hi; rw [HH_eq] at *; rw [Nat.mul_comm]; omega)]
  have e1 : Nat.land (pkN (fun i => u i + (HH - e) - (2 ^ j * v i)) m) (pkN (fun _ => HH) m) = pkN (fun i => if v i * 2 ^ j + e ≤ u i then HH else 0) m := by
    refine (pkN_land _ _ m (fun i hi => ?_) (fun i hi => ?_)).trans (pkN_congr _ _ m fun i hi => ?_)
    · have := hu i hi; rw [HH_eq]; omega
    · rw [HH_eq]; omega
    · have h1 := hv i hi
      have h2 := hu i hi
      rw [HH_eq] at *
      refine (land_top (by omega)).trans ?_
      rw [Nat.mul_comm (2 ^ j)]
      generalize v i * 2 ^ j = t at *
      by_cases c : t + e ≤ u i
      · rw [if_pos c, if_pos (by omega)]
      · rw [if_neg c, if_neg (by omega)]
  rw [e1]
  have e2 : pkN (fun i => if v i * 2 ^ j + e ≤ u i then HH else 0) m / HH = pkN (fun i => if v i * 2 ^ j + e ≤ u i then 1 else 0) m := by
    have : pkN (fun i => if v i * 2 ^ j + e ≤ u i then HH else 0) m = HH * pkN (fun i => if v i * 2 ^ j + e ≤ u i then 1 else 0) m := by
      rw [pkN_mul]
      refine pkN_congr _ _ m fun i _ => ?_
      split <;> omega
    rw [this]
    exact Nat.mul_div_cancel_left _ (by rw [HH_eq]; exact Nat.two_pow_pos _)
  rw [e2, pkN_sub _ _ _ (fun i _ => by rw [HH_eq]; split <;> omega)]
  have e3 : Nat.land (pkN (fun i => 2 ^ j * v i) m) (pkN (fun i => (if v i * 2 ^ j + e ≤ u i then HH else 0) - (if v i * 2 ^ j + e ≤ u i then 1 else 0)) m) = pkN (fun i => if v i * 2 ^ j + e ≤ u i then v i * 2 ^ j else 0) m := by
    refine (pkN_land _ _ m (fun i hi => ?_) (fun i hi => ?_)).trans (pkN_congr _ _ m fun i hi => ?_)
    · have := hv i hi; rw [Nat.mul_comm]; omega
    · rw [HH_eq]; split <;> omega
    · have h1 := hv i hi
      rw [HH_eq, Nat.mul_comm (2 ^ j)]
      split
      · rw [Nat.and_two_pow_sub_one_eq_mod, Nat.mod_eq_of_lt (by omega)]
      · simp
  rw [e3, pkN_sub _ _ _ (fun i _ => by split <;> omega)]
  refine pkN_congr _ _ m fun i _ => ?_
  unfold lane1
  split <;> omega
/-- The two vectors of Euclid's algorithm, and the form x s - y c on them. -/
structure Eu (s c u v : Int) : Prop where
  ex : ∃ xu yu xv yv : Int, 0 ≤ xu ∧ 0 ≤ yu ∧ 0 ≤ xv ∧ 0 ≤ yv ∧ u = xu * s - yu * c ∧ v = yv * c - xv * s ∧ xu * yv - yu * xv = 1
theorem Eu.start (s c : Int) : Eu s c s c := ⟨1, 0, 0, 1, by omega, by omega, by omega, by omega, by omega, by omega, by omega⟩
theorem Eu.left {s c u v : Int} (h : Eu s c u v) {q : Int} (hq : 0 ≤ q) : Eu s c (u - q * v) v := by
  obtain ⟨xu, yu, xv, yv, h1, h2, h3, h4, e1, e2, d⟩ := h
  have p1 := Int.mul_nonneg hq h3
  have p2 := Int.mul_nonneg hq h4
  exact ⟨xu + q * xv, yu + q * yv, xv, yv, by omega, by omega, h3, h4, by rw [e1, e2]; grind, e2, by grind⟩
theorem Eu.right {s c u v : Int} (h : Eu s c u v) {q : Int} (hq : 0 ≤ q) : Eu s c u (v - q * u) := by
  obtain ⟨xu, yu, xv, yv, h1, h2, h3, h4, e1, e2, d⟩ := h
  have p1 := Int.mul_nonneg hq h1
  have p2 := Int.mul_nonneg hq h2
  exact ⟨xu, yu, xv + q * xu, yv + q * yu, h1, h2, by omega, by omega, e1, by rw [e1, e2]; grind, by grind⟩
/-- At the end no small vector has a small value. -/
theorem Eu.done {s c u v e B M : Int} (h : Eu s c u v) (he : 0 < e) (hu : e ≤ u) (hv : e ≤ v) (hu' : u < B) (hv' : v < B) (hc : M * B ≤ c) {x y : Int} (hx : 0 ≤ x) (hx' : x ≤ M) (hxy : 0 < x + y) :
    e ≤ x * s - y * c ∨ x * s - y * c ≤ -e := by
  obtain ⟨xu, yu, xv, yv, h1, h2, h3, h4, e1, e2, d⟩ := h
  have det : xu * v + xv * u = c := by
    rw [e1, e2]
    have : xu * (yv * c - xv * s) + xv * (xu * s - yu * c) = (xu * yv - yu * xv) * c := by grind
    rw [this, d]; omega
  have big : M < xu + xv := by
    rcases Int.lt_or_le M (xu + xv) with q | q
    · exact q
    · have p1 := Int.mul_le_mul_of_nonneg_left (show v ≤ B - 1 by omega) h1
      have p2 := Int.mul_le_mul_of_nonneg_left (show u ≤ B - 1 by omega) h3
      have p3 := Int.mul_le_mul_of_nonneg_right q (show 0 ≤ B - 1 by omega)
      have p4 : (xu + xv) * (B - 1) = xu * (B - 1) + xv * (B - 1) := by grind
      have p5 : M * (B - 1) = M * B - M := by grind
      have : 0 < xu + xv := by
        rcases Int.lt_or_le 0 (xu + xv) with r | r
        · exact r
        · have z1 : xu = 0 := by omega
          have z2 : xv = 0 := by omega
          rw [z1, z2] at d
          omega
      omega
  have ha : ∃ a b : Int, x = a * xu + b * xv ∧ y = a * yu + b * yv ∧ x * s - y * c = a * u - b * v := by
    refine ⟨x * yv - y * xv, y * xu - x * yu, ?_, ?_, ?_⟩
    · have : (x * yv - y * xv) * xu + (y * xu - x * yu) * xv = x * (xu * yv - yu * xv) := by grind
      rw [this, d]; omega
    · have : (x * yv - y * xv) * yu + (y * xu - x * yu) * yv = y * (xu * yv - yu * xv) := by grind
      rw [this, d]; omega
    · have : (x * yv - y * xv) * u - (y * xu - x * yu) * v = (xu * yv - yu * xv) * (x * s - y * c) := by rw [e1, e2]; grind
      rw [this, d]; omega
  obtain ⟨a, b, k1, k2, k3⟩ := ha
  rw [k3]
  rcases Int.lt_or_le 0 a with ha | ha
  · rcases Int.lt_or_le 0 b with hb | hb
    · have p1 := Int.mul_le_mul_of_nonneg_right (show 1 ≤ a by omega) h1
      have p2 := Int.mul_le_mul_of_nonneg_right (show 1 ≤ b by omega) h3
      omega
    · have p1 := Int.mul_le_mul_of_nonneg_right (show 1 ≤ a by omega) (show 0 ≤ u by omega)
      have p2 := Int.mul_nonneg (show 0 ≤ -b by omega) (show 0 ≤ v by omega)
      rw [Int.neg_mul] at p2
      left; omega
  · rcases Int.lt_or_le 0 b with hb | hb
    · have p1 := Int.mul_le_mul_of_nonneg_right (show 1 ≤ b by omega) (show 0 ≤ v by omega)
      have p2 := Int.mul_nonneg (show 0 ≤ -a by omega) (show 0 ≤ u by omega)
      rw [Int.neg_mul] at p2
      right; omega
    · rcases Int.lt_or_le a 0 with ha' | ha'
      · have p1 := Int.mul_nonneg (show 0 ≤ -a by omega) h1
        have p2 := Int.mul_nonneg (show 0 ≤ -b by omega) h3
        have p3 := Int.mul_nonneg (show 0 ≤ -a by omega) h2
        have p4 := Int.mul_nonneg (show 0 ≤ -b by omega) h4
        rw [Int.neg_mul] at p1 p2 p3 p4
        omega
      · have a0 : a = 0 := by omega
        rcases Int.lt_or_le b 0 with hb' | hb'
        · have p1 := Int.mul_le_mul_of_nonneg_right (show 1 ≤ -b by omega) (show 0 ≤ v by omega)
          rw [Int.neg_mul] at p1
          rw [a0]
          left; omega
        · have b0 : b = 0 := by omega
          rw [a0, b0] at k1 k2
          omega

/-- The run: true: v is made less, false: u. -/
noncomputable def go (H E Z : Nat) (l : List (Bool × Nat)) : Nat → Nat → Bool := List.rec (motive := fun _ => Nat → Nat → Bool)
  (fun U V => Nat.beq (Nat.land U Z) 0 && (Nat.beq (Nat.land V Z) 0 && (Nat.beq (Nat.land (U + E) H) H && Nat.beq (Nat.land (V + E) H) H)))
  (fun a _ ih U V => cond a.1 (cond (Nat.ble (sub1 H E a.2 U V) V) (ih U (sub1 H E a.2 U V)) false) (cond (Nat.ble (sub1 H E a.2 V U) U) (ih (sub1 H E a.2 V U) V) false)) l
theorem go_nil (H E Z U V : Nat) : go H E Z [] U V = (Nat.beq (Nat.land U Z) 0 && (Nat.beq (Nat.land V Z) 0 && (Nat.beq (Nat.land (U + E) H) H && Nat.beq (Nat.land (V + E) H) H))) := rfl
theorem cond_use {a b : Bool} (h : cond a b false = true) : b = true := by cases a <;> first | exact h | cases h
theorem go_true (H E Z j U V : Nat) (l : List (Bool × Nat)) (h : go H E Z ((true, j) :: l) U V = true) : go H E Z l U (sub1 H E j U V) = true :=
  cond_use (a := Nat.ble (sub1 H E j U V) V) h
theorem go_false (H E Z j U V : Nat) (l : List (Bool × Nat)) (h : go H E Z ((false, j) :: l) U V = true) : go H E Z l (sub1 H E j V U) V = true :=
  cond_use (a := Nat.ble (sub1 H E j V U) U) h
theorem lane1_le (e j v u : Nat) : lane1 e j v u ≤ u := by unfold lane1; split <;> omega
theorem lane1_eu {s c : Int} {e j v u : Nat} (h : Eu s c u v) : Eu s c (lane1 e j v u : Nat) v := by
  unfold lane1
  split
  · rename_i q
    have := h.left (q := 2 ^ j) (Int.pow_nonneg (by omega))
    have e1 : ((u - v * 2 ^ j : Nat) : Int) = (u : Int) - 2 ^ j * (v : Int) := by
      rw [Int.ofNat_sub (by omega)]
      push_cast
      rw [Int.mul_comm]
    rw [e1]
    exact this
  · exact h
theorem lane1_eu' {s c : Int} {e j v u : Nat} (h : Eu s c u v) : Eu s c u (lane1 e j u v : Nat) := by
  unfold lane1
  split
  · rename_i q
    have := h.right (q := 2 ^ j) (Int.pow_nonneg (by omega))
    have e1 : ((v - u * 2 ^ j : Nat) : Int) = (v : Int) - 2 ^ j * (u : Int) := by
      rw [Int.ofNat_sub (by omega)]
      push_cast
      rw [Int.mul_comm]
    rw [e1]
    exact this
  · exact h
theorem lane_fit {v e j : Nat} (hv : v < 2 ^ 195) (hj : j ≤ 27) (he : e ≤ 2 ^ 136) : v * 2 ^ j + e < 2 ^ 223 := by
  have h1 : 2 ^ j ≤ 2 ^ 27 := Nat.pow_le_pow_right (by omega) hj
  have h2 : v * 2 ^ j ≤ 2 ^ 195 * 2 ^ 27 := Nat.mul_le_mul (by omega) h1
  omega
/-- **What a run shows**: in each lane Euclid comes to an end between e and the bound. -/
theorem go_lane (m : Nat) : ∀ (l : List (Bool × Nat)) (u v : Nat → Nat), (∀ a ∈ l, a.2 ≤ 27) → (∀ i, i < m → u i < 2 ^ 195) → (∀ i, i < m → v i < 2 ^ 195) →
    go (pkN (fun _ => HH) m) (pkN (fun _ => HH - 2 ^ 136) m) (pkN (fun _ => 2 ^ 224 - 2 ^ 160) m) l (pkN u m) (pkN v m) = true →
    ∀ i, i < m → ∀ s c : Int, Eu s c (u i) (v i) → ∃ u' v' : Nat, Eu s c u' v' ∧ 2 ^ 136 ≤ u' ∧ u' < 2 ^ 160 ∧ 2 ^ 136 ≤ v' ∧ v' < 2 ^ 160
  | [], u, v, _, hu, hv, h, i, hi, s, c, he => by
    rw [go_nil] at h
    simp only [Bool.and_eq_true] at h
    obtain ⟨h1, h2, h3, h4⟩ := h
    have low : ∀ w : Nat → Nat, (∀ i, i < m → w i < 2 ^ 195) → Nat.beq (Nat.land (pkN w m) (pkN (fun _ => 2 ^ 224 - 2 ^ 160) m)) 0 = true → w i < 2 ^ 160 := fun w hw hb => by
      have hb := Nat.eq_of_beq_eq_true hb
      have e0 : (0 : Nat) = pkN (fun _ => 0) m := by
        have := pkN_mul 0 (fun _ => 0) m
        simpa using this
      have e1 := pkN_land w (fun _ => 2 ^ 224 - 2 ^ 160) m (fun i hi => by have := hw i hi; omega) (fun i hi => by omega)
      have e2 : pkN (fun i => w i &&& (2 ^ 224 - 2 ^ 160)) m = pkN (fun _ => 0) m := by rw [← e1, ← e0]; exact hb
      have e3 := pkN_inj _ _ m (fun i hi => Nat.and_lt_two_pow _ (by omega)) (fun i hi => by omega) e2 i hi
      rcases Nat.lt_or_ge (w i) (2 ^ 160) with q | q
      · exact q
      · obtain ⟨k, hk, hb⟩ : ∃ k, 160 ≤ k ∧ (w i).testBit k = true := Nat.exists_ge_and_testBit_of_ge_two_pow q
        have k2 : k < 195 := by
          rcases Nat.lt_or_ge k 195 with z | z
          · exact z
          · rw [Nat.testBit_lt_two_pow (Nat.lt_of_lt_of_le (hw i hi) (Nat.pow_le_pow_right (by omega) z))] at hb
            cases hb
        have e4 : (2 ^ 224 - 2 ^ 160 : Nat) = 2 ^ 160 * (2 ^ 64 - 1) := by decide
        have e5 : (w i &&& (2 ^ 224 - 2 ^ 160)).testBit k = true := by
          rw [Nat.testBit_and, hb, e4, Nat.testBit_two_pow_mul, Nat.testBit_two_pow_sub_one]
          simp
          omega
        rw [e3] at e5
        simp at e5
    have high : ∀ w : Nat → Nat, (∀ i, i < m → w i < 2 ^ 195) → Nat.beq (Nat.land (pkN w m + pkN (fun _ => HH - 2 ^ 136) m) (pkN (fun _ => HH) m)) (pkN (fun _ => HH) m) = true → 2 ^ 136 ≤ w i := fun w hw hb => by
      have hb := Nat.eq_of_beq_eq_true hb
      rw [pkN_add] at hb
      have e1 := pkN_land (fun i => w i + (HH - 2 ^ 136)) (fun _ => HH) m (fun i hi => by have := hw i hi; rw [HH_eq]; omega) (fun i hi => by rw [HH_eq]; omega)
      have e2 : pkN (fun i => (w i + (HH - 2 ^ 136)) &&& HH) m = pkN (fun _ => HH) m := by rw [← e1]; exact hb
      have e3 := pkN_inj _ _ m (fun i hi => Nat.and_lt_two_pow _ (by rw [HH_eq]; omega)) (fun i hi => by rw [HH_eq]; omega) e2 i hi
      have hw' := hw i hi
      have e4 := land_top (x := w i + (HH - 2 ^ 136)) (by rw [HH_eq]; omega)
      rw [HH_eq] at e3 e4
      have e5 : Nat.land (w i + (2 ^ 223 - 2 ^ 136)) (2 ^ 223) = 2 ^ 223 := e3
      rw [e5] at e4
      split at e4
      · omega
      · omega
    exact ⟨u i, v i, he, high u hu h3, low u hu h1, high v hv h4, low v hv h2⟩
  | (true, j) :: l, u, v, hl, hu, hv, h, i, hi, s, c, he => by
    have hj : j ≤ 27 := hl _ (List.mem_cons_self ..)
    have h := go_true _ _ _ _ _ _ _ h
    rw [sub1_lane (2 ^ 136) j m (by decide) u v (fun i hi => lane_fit (hu i hi) hj (Nat.le_refl _)) (fun i hi => by have := hv i hi; omega)] at h
    exact go_lane m l u _ (fun a ha => hl a (List.mem_cons_of_mem _ ha)) hu (fun i hi => Nat.lt_of_le_of_lt (lane1_le ..) (hv i hi)) h i hi s c (lane1_eu' he)
  | (false, j) :: l, u, v, hl, hu, hv, h, i, hi, s, c, he => by
    have hj : j ≤ 27 := hl _ (List.mem_cons_self ..)
    have h := go_false _ _ _ _ _ _ _ h
    rw [sub1_lane (2 ^ 136) j m (by decide) v u (fun i hi => lane_fit (hv i hi) hj (Nat.le_refl _)) (fun i hi => by have := hu i hi; omega)] at h
    exact go_lane m l _ v (fun a ha => hl a (List.mem_cons_of_mem _ ha)) (fun i hi => Nat.lt_of_le_of_lt (lane1_le ..) (hu i hi)) hv h i hi s c (lane1_eu he)
end NT
/-
  No ties: the start values of the lanes, and the run over blocks of 5400 angles. No program here.
-/
namespace NT
theorem pkN_split (f : Nat → Nat) (a : Nat) : ∀ b, pkN f (a + b) = pkN f a + pkN (fun t => f (a + t)) b * 2 ^ (224 * a)
  | 0 => by rw [pkN_zero, Nat.zero_mul]; rfl
  | b + 1 => by
    rw [← Nat.add_assoc, pkN_succ, pkN_succ, pkN_split f a b, Nat.add_mul, Nat.mul_assoc, ← Nat.pow_add, show 224 * b + 224 * a = 224 * (a + b) by omega]
    omega
def ones (m : Nat) : Nat := (2 ^ (224 * m) - 1) / (2 ^ 224 - 1)
theorem ones_pk : ∀ m, pkN (fun _ => 1) m * (2 ^ 224 - 1) = 2 ^ (224 * m) - 1
  | 0 => by rw [pkN_zero]
  | m + 1 => by
    have ih := ones_pk m
    have p : 0 < 2 ^ (224 * m) := Nat.two_pow_pos _
    have e : 2 ^ (224 * (m + 1)) = 2 ^ (224 * m) * 2 ^ 224 := by rw [← Nat.pow_add]; rfl
    rw [pkN_succ, Nat.add_mul, ih, e]
    generalize 2 ^ (224 * m) = P at *
    omega
theorem ones_eq (m k : Nat) : ones m * k = pkN (fun _ => k) m := by
  have h : ones m = pkN (fun _ => 1) m := by
    unfold ones
    rw [← ones_pk]
    exact Nat.mul_div_cancel _ (by decide)
  have := pkN_mul k (fun _ => 1) m
  rw [h, Nat.mul_comm, this]
  exact pkN_congr _ _ m fun i _ => by omega
theorem pkN_first (x : Nat) : ∀ m, pkN (fun i => if i = 0 then x else 0) (m + 1) = x
  | 0 => by rw [pkN_succ, pkN_zero]; simp
  | m + 1 => by rw [pkN_succ, pkN_first x m]; simp
/-! ### Chains of angles -/
def s1 : Nat := 386656750602196061818150062977
def c1 : Nat := 1329227995784859635959031469142568601
def S1 : Nat := 2087945594618431431837397957646175
def C1 : Nat := 1329226355915943401238512989008680485
def rs (c1 s1 c s : Nat) : Nat := (s * c1 + c * s1) / 2 ^ 120
def rc (c1 s1 c s : Nat) : Nat := (c * c1 - s * s1) / 2 ^ 120
def it (c1 s1 : Nat) (p : Nat × Nat) : Nat → Nat × Nat
  | 0 => p
  | n + 1 => (rc c1 s1 (it c1 s1 p n).1 (it c1 s1 p n).2, rs c1 s1 (it c1 s1 p n).1 (it c1 s1 p n).2)
theorem it_add (c1 s1 : Nat) (p : Nat × Nat) (a : Nat) : ∀ b, it c1 s1 (it c1 s1 p a) b = it c1 s1 p (a + b)
  | 0 => rfl
  | b + 1 => by rw [← Nat.add_assoc, it, it, it_add c1 s1 p a b]
def ln (i : Nat) : Nat × Nat := it c1 s1 (2 ^ 120, 0) i
def bl (b : Nat) : Nat × Nat := it C1 S1 (2 ^ 120, 0) b
def uL (b i : Nat) : Nat := (bl b).2 / 2 ^ 20 * ((ln i).1 / 2 ^ 28) + (bl b).1 / 2 ^ 20 * ((ln i).2 / 2 ^ 28)
def vL (b i : Nat) : Nat := (bl b).1 / 2 ^ 20 * ((ln i).1 / 2 ^ 28) - (bl b).2 / 2 ^ 20 * ((ln i).2 / 2 ^ 28)
/-! ### The run -/
noncomputable def force (n : Nat) (k : Nat → Bool) : Bool := Nat.rec (motive := fun _ => Bool) (k 0) (fun p _ => k (Nat.succ p)) n
theorem force_eq (n : Nat) (k : Nat → Bool) : force n k = k n := by cases n <;> rfl
noncomputable def down (d : Bool) (n : Nat) : List (Bool × Nat) := Nat.rec [] (fun i l => (d, i) :: l) n
noncomputable def passes : Nat → List (Bool × Nat) := fun n => Nat.rec [] (fun _ l => down false 6 ++ (down true 6 ++ l)) n
noncomputable def sched : List (Bool × Nat) := down true 23 ++ (passes 5 ++ (down false 28 ++ (down true 28 ++ (passes 5 ++ (down false 28 ++ (down true 28 ++ (passes 5 ++ (down false 28 ++ (down true 28 ++ (passes 5 ++ (down false 28 ++ down true 28)))))))))))
theorem sched_ok : ∀ a ∈ sched, a.2 ≤ 27 := by
  have : (sched.all fun a => Nat.ble a.2 27) = true := by decide +kernel
  intro a ha
  exact Nat.le_of_ble_eq_true (List.all_eq_true.1 this a ha)
noncomputable def chunk (n : Nat) (k : Nat → Nat → Nat → Nat → Bool) : Nat → Nat → Nat → Nat → Nat → Bool := Nat.rec (motive := fun _ => Nat → Nat → Nat → Nat → Nat → Bool)
  (fun _ a b c s => k a b c s)
  (fun _ ih i a b c s => force (a + c / 2 ^ 28 * 2 ^ (224 * i)) fun a' => force (b + s / 2 ^ 28 * 2 ^ (224 * i)) fun b' => force (rc c1 s1 c s) fun c' => force (rs c1 s1 c s) fun s' => force (i + 1) fun i' => ih i' a' b' c' s') n
theorem chunk_succ (n : Nat) (k : Nat → Nat → Nat → Nat → Bool) (i a b c s : Nat) : chunk (n + 1) k i a b c s = chunk n k (i + 1) (a + c / 2 ^ 28 * 2 ^ (224 * i)) (b + s / 2 ^ 28 * 2 ^ (224 * i)) (rc c1 s1 c s) (rs c1 s1 c s) := by
  have e : chunk (n + 1) k i a b c s = force (a + c / 2 ^ 28 * 2 ^ (224 * i)) fun a' => force (b + s / 2 ^ 28 * 2 ^ (224 * i)) fun b' => force (rc c1 s1 c s) fun c' => force (rs c1 s1 c s) fun s' => force (i + 1) fun i' => chunk n k i' a' b' c' s' := rfl
  rw [e, force_eq, force_eq, force_eq, force_eq, force_eq]
theorem chunk_eq (p : Nat × Nat) (k : Nat → Nat → Nat → Nat → Bool) : ∀ n i,
    chunk n k i (pkN (fun t => (it c1 s1 p t).1 / 2 ^ 28) i) (pkN (fun t => (it c1 s1 p t).2 / 2 ^ 28) i) (it c1 s1 p i).1 (it c1 s1 p i).2 =
      k (pkN (fun t => (it c1 s1 p t).1 / 2 ^ 28) (i + n)) (pkN (fun t => (it c1 s1 p t).2 / 2 ^ 28) (i + n)) (it c1 s1 p (i + n)).1 (it c1 s1 p (i + n)).2
  | 0, i => rfl
  | n + 1, i => by
    have ih := chunk_eq p k n (i + 1)
    rw [show i + (n + 1) = i + 1 + n by omega, ← ih, chunk_succ]
    rfl
noncomputable def build (n : Nat) (k : Nat → Nat → Bool) : Nat → Nat → Nat → Nat → Nat → Bool := Nat.rec (motive := fun _ => Nat → Nat → Nat → Nat → Nat → Bool)
  (fun _ a b _ _ => k a b)
  (fun _ ih i a b c s => chunk 75 (fun x y c' s' => force (a + x * 2 ^ (16800 * i)) fun a' => force (b + y * 2 ^ (16800 * i)) fun b' => force (i + 1) fun i' => ih i' a' b' c' s') 0 0 0 c s) n
theorem build_succ (n : Nat) (k : Nat → Nat → Bool) (i a b c s : Nat) : build (n + 1) k i a b c s = chunk 75 (fun x y c' s' => build n k (i + 1) (a + x * 2 ^ (16800 * i)) (b + y * 2 ^ (16800 * i)) c' s') 0 0 0 c s := by
  have e : build (n + 1) k i a b c s = chunk 75 (fun x y c' s' => force (a + x * 2 ^ (16800 * i)) fun a' => force (b + y * 2 ^ (16800 * i)) fun b' => force (i + 1) fun i' => build n k i' a' b' c' s') 0 0 0 c s := rfl
  rw [e]
  congr 1
  funext x y c' s'
  rw [force_eq, force_eq, force_eq]
theorem build_eq (k : Nat → Nat → Bool) : ∀ n i,
    build n k i (pkN (fun t => (ln t).1 / 2 ^ 28) (75 * i)) (pkN (fun t => (ln t).2 / 2 ^ 28) (75 * i)) (ln (75 * i)).1 (ln (75 * i)).2 =
      k (pkN (fun t => (ln t).1 / 2 ^ 28) (75 * (i + n))) (pkN (fun t => (ln t).2 / 2 ^ 28) (75 * (i + n)))
  | 0, i => rfl
  | n + 1, i => by
    have ih := build_eq k n (i + 1)
    rw [show i + (n + 1) = i + 1 + n by omega, ← ih, build_succ]
    have h := chunk_eq (ln (75 * i)) (fun x y c' s' => build n k (i + 1) ((pkN (fun t => (ln t).1 / 2 ^ 28) (75 * i)) + x * 2 ^ (16800 * i)) ((pkN (fun t => (ln t).2 / 2 ^ 28) (75 * i)) + y * 2 ^ (16800 * i)) c' s') 75 0
    rw [pkN_zero, pkN_zero] at h
    have ea : ∀ t, it c1 s1 (ln (75 * i)) t = ln (75 * i + t) := fun t => it_add _ _ _ _ _
    simp only [ea] at h
    rw [show 75 * i + 0 = 75 * i from rfl] at h
    rw [h, show 0 + 75 = 75 from rfl, show 16800 * i = 224 * (75 * i) by omega, ← pkN_split (fun t => (ln t).1 / 2 ^ 28), ← pkN_split (fun t => (ln t).2 / 2 ^ 28), show 75 * (i + 1) = 75 * i + 75 by omega]
noncomputable def blocks (H E Z pc ps : Nat) (n : Nat) : Nat → Nat → Nat → Bool := Nat.rec (motive := fun _ => Nat → Nat → Nat → Bool)
  (fun _ _ _ => true)
  (fun _ ih X S C => force (S / 2 ^ 20 * pc + C / 2 ^ 20 * ps + X) fun U => force (C / 2 ^ 20 * pc - S / 2 ^ 20 * ps) fun V => and (go H E Z sched U V) (force (rc C1 S1 C S) fun C' => force (rs C1 S1 C S) fun S' => ih 0 S' C')) n
/-- What a lane's run shows. -/
def Ends (s c : Int) : Prop := ∃ u' v' : Nat, Eu s c u' v' ∧ 2 ^ 136 ≤ u' ∧ u' < 2 ^ 160 ∧ 2 ^ 136 ≤ v' ∧ v' < 2 ^ 160
theorem blocks_use {pc ps : Nat} (hpc : pc = pkN (fun t => (ln t).1 / 2 ^ 28) 5400) (hps : ps = pkN (fun t => (ln t).2 / 2 ^ 28) 5400)
    (fit : ∀ b, b < 500 → ∀ i, i < 5400 → uL b i < 2 ^ 194 ∧ vL b i < 2 ^ 195 ∧ (bl b).2 / 2 ^ 20 * ((ln i).2 / 2 ^ 28) ≤ (bl b).1 / 2 ^ 20 * ((ln i).1 / 2 ^ 28)) :
    ∀ (n b0 X : Nat), b0 + n ≤ 500 → X < 2 ^ 194 → blocks (pkN (fun _ => HH) 5400) (pkN (fun _ => HH - 2 ^ 136) 5400) (pkN (fun _ => 2 ^ 224 - 2 ^ 160) 5400) pc ps n X (bl b0).2 (bl b0).1 = true →
      ∀ b, b0 ≤ b → b < b0 + n → ∀ i, i < 5400 → (X = 0 ∨ b ≠ b0 ∨ i ≠ 0) → Ends (uL b i) (vL b i)
  | 0, b0, X, _, _, _, b, h1, h2, _, _, _ => by omega
  | n + 1, b0, X, hn, hX, h, b, h1, h2, i, hi, hx => by
    have h' : (and (go (pkN (fun _ => HH) 5400) (pkN (fun _ => HH - 2 ^ 136) 5400) (pkN (fun _ => 2 ^ 224 - 2 ^ 160) 5400) sched ((bl b0).2 / 2 ^ 20 * pc + (bl b0).1 / 2 ^ 20 * ps + X) ((bl b0).1 / 2 ^ 20 * pc - (bl b0).2 / 2 ^ 20 * ps))
        (blocks (pkN (fun _ => HH) 5400) (pkN (fun _ => HH - 2 ^ 136) 5400) (pkN (fun _ => 2 ^ 224 - 2 ^ 160) 5400) pc ps n 0 (bl (b0 + 1)).2 (bl (b0 + 1)).1)) = true := by
      have e : blocks (pkN (fun _ => HH) 5400) (pkN (fun _ => HH - 2 ^ 136) 5400) (pkN (fun _ => 2 ^ 224 - 2 ^ 160) 5400) pc ps (n + 1) X (bl b0).2 (bl b0).1 =
          force ((bl b0).2 / 2 ^ 20 * pc + (bl b0).1 / 2 ^ 20 * ps + X) (fun U => force ((bl b0).1 / 2 ^ 20 * pc - (bl b0).2 / 2 ^ 20 * ps) fun V => and (go (pkN (fun _ => HH) 5400) (pkN (fun _ => HH - 2 ^ 136) 5400) (pkN (fun _ => 2 ^ 224 - 2 ^ 160) 5400) sched U V) (force (rc C1 S1 (bl b0).1 (bl b0).2) fun C' => force (rs C1 S1 (bl b0).1 (bl b0).2) fun S' => blocks (pkN (fun _ => HH) 5400) (pkN (fun _ => HH - 2 ^ 136) 5400) (pkN (fun _ => 2 ^ 224 - 2 ^ 160) 5400) pc ps n 0 S' C')) := rfl
      rw [e, force_eq, force_eq, force_eq, force_eq] at h
      exact h
    clear h
    rw [Bool.and_eq_true] at h'
    obtain ⟨hg, hr⟩ := h'
    by_cases hb : b = b0
    · subst hb
      have f := fit b (by omega)
      have eU : (bl b).2 / 2 ^ 20 * pc + (bl b).1 / 2 ^ 20 * ps + X = pkN (fun t => uL b t + (if t = 0 then X else 0)) 5400 := by
        have ex := pkN_first X 5399
        rw [hpc, hps, pkN_mul, pkN_mul, pkN_add]
        conv => lhs; rw [← ex]
        rw [pkN_add]
        rfl
      have eV : (bl b).1 / 2 ^ 20 * pc - (bl b).2 / 2 ^ 20 * ps = pkN (fun t => vL b t) 5400 := by
        rw [hpc, hps, pkN_mul, pkN_mul, pkN_sub _ _ _ (fun t ht => (f t ht).2.2)]
        rfl
      rw [eU, eV] at hg
      have key := go_lane 5400 sched _ _ sched_ok (fun t ht => by have := (f t ht).1; split <;> omega) (fun t ht => (f t ht).2.1) hg i hi (uL b i) (vL b i)
      have e0 : (if i = 0 then X else 0) = 0 := by
        rcases hx with hx | hx | hx
        · rw [hx]; simp
        · exact absurd rfl hx
        · rw [if_neg hx]
      rw [e0] at key
      exact key (Eu.start _ _)
    · exact blocks_use hpc hps fit n (b0 + 1) 0 (by omega) (by omega) hr b (by omega) (by omega) i hi (.inl rfl)
/-- The blocks' chain up to a block. -/
noncomputable def upto (n : Nat) (k : Nat → Nat → Bool) : Nat → Nat → Bool := Nat.rec (motive := fun _ => Nat → Nat → Bool)
  (fun c s => k c s)
  (fun _ ih c s => force (rc C1 S1 c s) fun c' => force (rs C1 S1 c s) fun s' => ih c' s') n
theorem upto_eq (k : Nat → Nat → Bool) : ∀ n b, upto n k (bl b).1 (bl b).2 = k (bl (b + n)).1 (bl (b + n)).2
  | 0, b => rfl
  | n + 1, b => by
    have e : upto (n + 1) k (bl b).1 (bl b).2 = force (rc C1 S1 (bl b).1 (bl b).2) fun c' => force (rs C1 S1 (bl b).1 (bl b).2) fun s' => upto n k c' s' := rfl
    rw [show b + (n + 1) = b + 1 + n by omega, ← upto_eq k n (b + 1), e, force_eq, force_eq]
    rfl
noncomputable def runs (b0 n : Nat) : Bool := force (ones 5400 * HH) fun H => force (ones 5400 * (HH - 2 ^ 136)) fun E => force (ones 5400 * (2 ^ 224 - 2 ^ 160)) fun Z =>
  build 72 (fun pc ps => upto b0 (fun C S => blocks H E Z pc ps n (cond (Nat.beq b0 0) (s1 * 2 ^ 72) 0) S C) (2 ^ 120) 0) 0 0 0 (2 ^ 120) 0
theorem runs_use (fit : ∀ b, b < 500 → ∀ i, i < 5400 → uL b i < 2 ^ 194 ∧ vL b i < 2 ^ 195 ∧ (bl b).2 / 2 ^ 20 * ((ln i).2 / 2 ^ 28) ≤ (bl b).1 / 2 ^ 20 * ((ln i).1 / 2 ^ 28))
    {n b0 : Nat} (hn : b0 + n ≤ 500) (h : runs b0 n = true) : ∀ b, b0 ≤ b → b < b0 + n → ∀ i, i < 5400 → (b ≠ 0 ∨ i ≠ 0) → Ends (uL b i) (vL b i) := by
  unfold runs at h
  rw [force_eq, force_eq, force_eq, ones_eq, ones_eq, ones_eq] at h
  have e := build_eq (fun pc ps => upto b0 (fun C S => blocks (pkN (fun _ => HH) 5400) (pkN (fun _ => HH - 2 ^ 136) 5400) (pkN (fun _ => 2 ^ 224 - 2 ^ 160) 5400) pc ps n (cond (Nat.beq b0 0) (s1 * 2 ^ 72) 0) S C) (2 ^ 120) 0) 72 0
  have h := e.symm.trans h
  have e2 := upto_eq (fun C S => blocks (pkN (fun _ => HH) 5400) (pkN (fun _ => HH - 2 ^ 136) 5400) (pkN (fun _ => 2 ^ 224 - 2 ^ 160) 5400) (pkN (fun t => (ln t).1 / 2 ^ 28) (75 * (0 + 72))) (pkN (fun t => (ln t).2 / 2 ^ 28) (75 * (0 + 72))) n (cond (Nat.beq b0 0) (s1 * 2 ^ 72) 0) S C) b0 0
  have h := e2.symm.trans h
  rw [Nat.zero_add, Nat.zero_add, show 75 * 72 = 5400 from rfl] at h
  intro b h1 h2 i hi hx
  refine blocks_use rfl rfl fit n b0 (cond (Nat.beq b0 0) (s1 * 2 ^ 72) 0) hn ?_ h b h1 h2 i hi ?_
  · cases Nat.beq b0 0
    · exact Nat.two_pow_pos _
    · show s1 * 2 ^ 72 < 2 ^ 194
      decide
  · rcases Nat.eq_zero_or_pos b0 with z | z
    · subst z
      right
      exact hx
    · left
      have : Nat.beq b0 0 = false := by
        cases b0 with
        | zero => omega
        | succ k => rfl
      rw [this]
      rfl
theorem Ends.far {s c : Int} (h : Ends s c) (hc : 2 ^ 191 ≤ c) {x y : Int} (hx : 0 ≤ x) (hx' : x ≤ 2 ^ 31) (hxy : 0 < x + y) : 2 ^ 136 ≤ x * s - y * c ∨ x * s - y * c ≤ - 2 ^ 136 := by
  obtain ⟨u, v, he, h1, h2, h3, h4⟩ := h
  refine he.done (e := 2 ^ 136) (B := 2 ^ 160) (M := 2 ^ 31) (by decide) (by omega) (by omega) (by omega) (by omega) ?_ hx hx' hxy
  have : (2 : Int) ^ 31 * 2 ^ 160 = 2 ^ 191 := by decide
  omega
end NT
/-
  No ties: the lanes' numbers are near the sines and cosines, whose addition theorem is given. No program here.
-/
namespace NT
/-- At most e apart. -/
def Nr (x y e : Rat) : Prop := -e ≤ x - y ∧ x - y ≤ e
theorem mul_abs {a b A B : Rat} (h1 : -A ≤ a) (h2 : a ≤ A) (h3 : -B ≤ b) (h4 : b ≤ B) : -(A * B) ≤ a * b ∧ a * b ≤ A * B := by
  have q1 : 0 ≤ (A - a) * (B + b) := Rat.mul_nonneg (by grind) (by grind)
  have q2 : 0 ≤ (A + a) * (B - b) := Rat.mul_nonneg (by grind) (by grind)
  have q3 : 0 ≤ (A - a) * (B - b) := Rat.mul_nonneg (by grind) (by grind)
  have q4 : 0 ≤ (A + a) * (B + b) := Rat.mul_nonneg (by grind) (by grind)
  constructor <;> grind
/-- Division, rounded down, by a power of two. -/
theorem div_near (n : Nat) (p : Nat) : Nr (((n / 2 ^ p : Nat) : Rat)) ((n : Rat) / 2 ^ p) 1 := by
  have h := Nat.div_add_mod n (2 ^ p)
  have l := Nat.mod_lt n (Nat.two_pow_pos p)
  have h1 : ((2 ^ p : Nat) : Rat) * ((n / 2 ^ p : Nat) : Rat) + ((n % 2 ^ p : Nat) : Rat) = (n : Rat) := by
    rw [← Rat.natCast_mul, ← Rat.natCast_add, h]
  have h2 : ((n % 2 ^ p : Nat) : Rat) ≤ ((2 ^ p : Nat) : Rat) := Rat.natCast_le_natCast.2 (Nat.le_of_lt l)
  have h3 : (0 : Rat) ≤ ((n % 2 ^ p : Nat) : Rat) := by exact_mod_cast Nat.zero_le _
  have hp : (0 : Rat) < ((2 ^ p : Nat) : Rat) := by exact_mod_cast Nat.two_pow_pos p
  have e : ((2 ^ p : Nat) : Rat) = 2 ^ p := by push_cast; rfl
  rw [e] at h1 h2 hp
  generalize ((n / 2 ^ p : Nat) : Rat) = q at *
  generalize ((n % 2 ^ p : Nat) : Rat) = r at *
  generalize (2 : Rat) ^ p = P at *
  have hi : P * (1 / P) = 1 := by grind
  have i0 : 0 ≤ 1 / P := by
    rcases (Rat.le_total : 0 ≤ 1 / P ∨ 1 / P ≤ 0) with z | z
    · exact z
    · have := Rat.mul_nonneg (a := P) (b := -(1 / P)) (by grind) (by grind)
      grind
  have m1 := Rat.mul_nonneg i0 h3
  have m2 := Rat.mul_nonneg i0 (show 0 ≤ P - r by grind)
  have e2 : (n : Rat) / P = q + 1 / P * r := by
    rw [← h1]
    grind
  rw [e2]
  unfold Nr
  constructor <;> grind
/-- One step of a chain, in rationals. -/
theorem step_rat {g z g1 z1 C S Ct St Cn Sn d e t q : Rat} (hc : Nr g C e) (hs : Nr z S e) (hct : Nr g1 Ct t) (hst : Nr z1 St t)
    (a1 : Nr (C * Ct - S * St) Cn t) (a2 : Nr (S * Ct + C * St) Sn t) (bC : 0 ≤ C ∧ C ≤ 2) (bS : -1 ≤ S ∧ S ≤ 1) (bg : 0 ≤ g1 ∧ g1 ≤ 1) (bz : 0 ≤ z1 ∧ z1 ≤ q) (ht : 0 ≤ t)
    (hd : e * q + 6 * t ≤ d) : Nr (g * g1 - z * z1) Cn (e + d - t) ∧ Nr (z * g1 + g * z1) Sn (e + d - t) := by
  have m1 := mul_abs (a := g - C) (b := g1) (A := e) (B := 1) hc.1 hc.2 (by grind) bg.2
  have m2 := mul_abs (a := C) (b := g1 - Ct) (A := 2) (B := t) (by grind) bC.2 hct.1 hct.2
  have m3 := mul_abs (a := z - S) (b := z1) (A := e) (B := q) hs.1 hs.2 (by grind) bz.2
  have m4 := mul_abs (a := S) (b := z1 - St) (A := 1) (B := t) (by grind) bS.2 hst.1 hst.2
  have n1 := mul_abs (a := z - S) (b := g1) (A := e) (B := 1) hs.1 hs.2 (by grind) bg.2
  have n2 := mul_abs (a := S) (b := g1 - Ct) (A := 1) (B := t) (by grind) bS.2 hct.1 hct.2
  have n3 := mul_abs (a := g - C) (b := z1) (A := e) (B := q) hc.1 hc.2 (by grind) bz.2
  have n4 := mul_abs (a := C) (b := z1 - St) (A := 2) (B := t) (by grind) bC.2 hst.1 hst.2
  have i1 : g * g1 - z * z1 - (C * Ct - S * St) = (g - C) * g1 + C * (g1 - Ct) - (z - S) * z1 - S * (z1 - St) := by grind
  have i2 : z * g1 + g * z1 - (S * Ct + C * St) = (z - S) * g1 + S * (g1 - Ct) + (g - C) * z1 + C * (z1 - St) := by grind
  unfold Nr at *
  generalize g * g1 - z * z1 = X at *
  generalize z * g1 + g * z1 = Y at *
  generalize C * Ct - S * St = X' at *
  generalize S * Ct + C * St = Y' at *
  generalize (g - C) * g1 = p1 at *
  generalize C * (g1 - Ct) = p2 at *
  generalize (z - S) * z1 = p3 at *
  generalize S * (z1 - St) = p4 at *
  generalize (z - S) * g1 = q1 at *
  generalize S * (g1 - Ct) = q2 at *
  generalize (g - C) * z1 = q3 at *
  generalize C * (z1 - St) = q4 at *
  refine ⟨⟨?_, ?_⟩, ?_, ?_⟩ <;> grind
def P120 : Rat := 2 ^ 120
theorem P120_eq : P120 = 1329227995784915872903807060280344576 := by decide +kernel
theorem quo {n : Nat} {v : Rat} (h : (n : Rat) = v * P120 * P120) {X d : Rat} (hx : Nr v X d) : Nr (((n / 2 ^ 120 : Nat) : Rat) / P120) X (d + 1 / P120) := by
  have k := div_near n 120
  have e : (2 : Rat) ^ 120 = P120 := rfl
  rw [e] at k
  have p := P120_eq
  generalize ((n / 2 ^ 120 : Nat) : Rat) = q at *
  rw [h] at k
  unfold Nr at *
  rw [p] at *
  constructor <;> grind
/-- One step of a chain. -/
theorem step_near {c s c1 s1 : Nat} {C S Ct St Cn Sn d e q : Rat} (hc : Nr ((c : Rat) / P120) C e) (hs : Nr ((s : Rat) / P120) S e) (hct : Nr ((c1 : Rat) / P120) Ct (2 / P120)) (hst : Nr ((s1 : Rat) / P120) St (2 / P120))
    (a1 : Nr (C * Ct - S * St) Cn (2 / P120)) (a2 : Nr (S * Ct + C * St) Sn (2 / P120)) (bC : 3 / 5 ≤ C ∧ C ≤ 2) (bS : -1 ≤ S ∧ S ≤ 4 / 5) (bg : 2 ^ 119 ≤ c1 ∧ c1 ≤ 2 ^ 120) (bz : s1 * 600 ≤ 2 ^ 120) (hq : (s1 : Rat) ≤ q * P120) (he : 0 ≤ e ∧ e ≤ 1 / 100)
    (hd : e * q + 12 / P120 ≤ d) : Nr ((rc c1 s1 c s : Rat) / P120) Cn (e + d) ∧ Nr ((rs c1 s1 c s : Rat) / P120) Sn (e + d) := by
  have p := P120_eq
  have c0 : (0 : Rat) ≤ (c : Rat) := by exact_mod_cast Nat.zero_le _
  have s0 : (0 : Rat) ≤ (s : Rat) := by exact_mod_cast Nat.zero_le _
  have c10 : (0 : Rat) ≤ (c1 : Rat) := by exact_mod_cast Nat.zero_le _
  have s10 : (0 : Rat) ≤ (s1 : Rat) := by exact_mod_cast Nat.zero_le _
  have b1 : (c1 : Rat) ≤ ((2 ^ 120 : Nat) : Rat) := Rat.natCast_le_natCast.2 bg.2
  have b2 : ((s1 * 600 : Nat) : Rat) ≤ ((2 ^ 120 : Nat) : Rat) := Rat.natCast_le_natCast.2 bz
  have b3 : ((2 ^ 119 : Nat) : Rat) ≤ (c1 : Rat) := Rat.natCast_le_natCast.2 bg.1
  have e6 : ((600 : Nat) : Rat) = 600 := rfl
  have e119 : ((2 ^ 119 : Nat) : Rat) = 664613997892457936451903530140172288 := by decide +kernel
  have e120 : ((2 ^ 120 : Nat) : Rat) = 1329227995784915872903807060280344576 := by decide +kernel
  rw [Rat.natCast_mul, e6, e120] at b2
  rw [e120] at b1
  rw [e119] at b3
  have r := step_rat (d := d) (q := q) hc hs hct hst a1 a2 ⟨by grind, bC.2⟩ ⟨bS.1, by grind⟩ ⟨by rw [p]; grind, by rw [p]; grind⟩ ⟨by rw [p]; grind, by rw [p] at hq ⊢; grind⟩ (by rw [p]; grind) (by rw [p] at hd ⊢; grind)
  have le : s * s1 ≤ c * c1 := by
    have k1 : s ≤ 2 ^ 120 := by
      apply Rat.natCast_le_natCast.1
      rw [e120]
      unfold Nr at hs
      rw [p] at hs
      grind
    have k2 : 2 ^ 119 ≤ c := by
      apply Rat.natCast_le_natCast.1
      rw [e119]
      unfold Nr at hc
      rw [p] at hc
      grind
    have k3 : s1 ≤ 2 ^ 112 := by omega
    have k4 : s * s1 ≤ 2 ^ 120 * 2 ^ 112 := Nat.mul_le_mul k1 k3
    have k5 : 2 ^ 119 * 2 ^ 119 ≤ c * c1 := Nat.mul_le_mul k2 bg.1
    have k6 : (2 : Nat) ^ 120 * 2 ^ 112 ≤ 2 ^ 119 * 2 ^ 119 := by decide
    exact Nat.le_trans k4 (Nat.le_trans k6 k5)
  have v1 : ((c * c1 - s * s1 : Nat) : Rat) = ((c : Rat) / P120 * ((c1 : Rat) / P120) - (s : Rat) / P120 * ((s1 : Rat) / P120)) * P120 * P120 := by
    have : ((c * c1 - s * s1 : Nat) : Rat) = (c : Rat) * (c1 : Rat) - (s : Rat) * (s1 : Rat) := by
      have h := Nat.sub_add_cancel le
      have h2 : ((c * c1 - s * s1 + s * s1 : Nat) : Rat) = ((c * c1 : Nat) : Rat) := by rw [h]
      rw [Rat.natCast_add, Rat.natCast_mul, Rat.natCast_mul] at h2
      grind
    rw [this, p]
    grind
  have v2 : ((s * c1 + c * s1 : Nat) : Rat) = ((s : Rat) / P120 * ((c1 : Rat) / P120) + (c : Rat) / P120 * ((s1 : Rat) / P120)) * P120 * P120 := by
    rw [Rat.natCast_add, Rat.natCast_mul, Rat.natCast_mul, p]
    grind
  have q1 := quo v1 r.1
  have q2 := quo v2 r.2
  unfold rc rs
  unfold Nr at *
  rw [p] at *
  constructor <;> constructor <;> grind
/-- What is asked of the sine and the cosine of an integer angle up to an eighth of a turn. -/
structure Tr (S C : Nat → Rat) : Prop where
  add : ∀ a b, a + b ≤ 2700000 → Nr (C a * C b - S a * S b) (C (a + b)) (2 / P120) ∧ Nr (S a * C b + C a * S b) (S (a + b)) (2 / P120)
  bdS : ∀ a, a ≤ 2700000 → -(1 / 1000) ≤ S a ∧ S a ≤ 4 / 5
  bdC : ∀ a, a ≤ 2700000 → 3 / 5 ≤ C a ∧ C a ≤ 1001 / 1000
  zero : S 0 = 0 ∧ C 0 = 1
  one : Nr ((s1 : Rat) / P120) (S 1) (2 / P120) ∧ Nr ((c1 : Rat) / P120) (C 1) (2 / P120)
  blk : Nr ((S1 : Rat) / P120) (S 5400) (2 / P120) ∧ Nr ((C1 : Rat) / P120) (C 5400) (2 / P120)
def K0 : Rat := 128 / P120
theorem chain_near {S C : Nat → Rat} (T : Tr S C) (w N : Nat) (a b : Nat) (hw : w * N ≤ 2700000) (hN : N ≤ 5400) (h1 : Nr ((b : Rat) / P120) (S w) (2 / P120)) (h2 : Nr ((a : Rat) / P120) (C w) (2 / P120)) (ba : 2 ^ 119 ≤ a ∧ a ≤ 2 ^ 120) (bb : b * 600 ≤ 2 ^ 120) {q : Rat} (hq0 : 0 ≤ q) (hq : (b : Rat) ≤ q * P120) (hd : (N : Rat) * K0 * q + 12 / P120 ≤ K0) :
    ∀ n, n ≤ N → Nr (((it a b (2 ^ 120, 0) n).1 : Rat) / P120) (C (w * n)) ((n : Rat) * K0) ∧ Nr (((it a b (2 ^ 120, 0) n).2 : Rat) / P120) (S (w * n)) ((n : Rat) * K0)
  | 0, _ => by
    have p := P120_eq
    have e120 : ((2 ^ 120 : Nat) : Rat) = 1329227995784915872903807060280344576 := by decide +kernel
    have z : ((0 : Nat) : Rat) = 0 := rfl
    rw [Nat.mul_zero, T.zero.1, T.zero.2, z]
    show Nr (((2 ^ 120 : Nat) : Rat) / P120) 1 _ ∧ Nr (((0 : Nat) : Rat) / P120) 0 _
    rw [e120, z, p]
    unfold Nr
    constructor <;> constructor <;> grind
  | n + 1, hn => by
    have ih := chain_near T w N a b hw hN h1 h2 ba bb hq0 hq hd n (by omega)
    have hm : w * n + w ≤ 2700000 := by
      have := Nat.mul_le_mul_left w hn
      rw [Nat.mul_add] at this
      omega
    have ad := T.add (w * n) w hm
    have n0 : (0 : Rat) ≤ (n : Rat) := by exact_mod_cast Nat.zero_le n
    have n1 : (n : Rat) ≤ (N : Rat) := Rat.natCast_le_natCast.2 (by omega)
    have n2 : (n : Rat) ≤ ((5400 : Nat) : Rat) := Rat.natCast_le_natCast.2 (by omega)
    have z5 : ((5400 : Nat) : Rat) = 5400 := rfl
    rw [z5] at n2
    have cn : ((n + 1 : Nat) : Rat) = (n : Rat) + 1 := by rw [Rat.natCast_add]; rfl
    have k0 : 0 ≤ K0 := by decide +kernel
    have k1 : 5400 * K0 ≤ 1 / 100 := by decide +kernel
    have m0 := Rat.mul_nonneg n0 k0
    have m1 := Rat.mul_le_mul_of_nonneg_right n1 k0
    have m2 := Rat.mul_le_mul_of_nonneg_right n2 k0
    have m3 := Rat.mul_le_mul_of_nonneg_right m1 hq0
    have bC := T.bdC (w * n) (by omega)
    have bS := T.bdS (w * n) (by omega)
    have r := step_near (d := K0) ih.1 ih.2 h2 h1 ad.1 ad.2 ⟨bC.1, by grind⟩ ⟨by grind, bS.2⟩ ba bb hq ⟨m0, by grind⟩ (by grind)
    rw [show w * (n + 1) = w * n + w by rw [Nat.mul_add]; omega, cn, show ((n : Rat) + 1) * K0 = (n : Rat) * K0 + K0 by grind]
    exact r
theorem ln_near {S C : Nat → Rat} (T : Tr S C) (i : Nat) (hi : i < 5400) : Nr (((ln i).1 : Rat) / P120) (C i) (1 / 2 ^ 100) ∧ Nr (((ln i).2 : Rat) / P120) (S i) (1 / 2 ^ 100) := by
  have h := chain_near T 1 5399 c1 s1 (by omega) (by omega) T.one.1 T.one.2 (by decide) (by decide) (q := 1 / 3000000) (by grind) (by decide +kernel) (by decide +kernel) i (by omega)
  rw [Nat.one_mul] at h
  have n2 : (i : Rat) ≤ ((5400 : Nat) : Rat) := Rat.natCast_le_natCast.2 (by omega)
  have m2 := Rat.mul_le_mul_of_nonneg_right n2 (show 0 ≤ K0 by decide +kernel)
  have k : ((5400 : Nat) : Rat) * K0 ≤ 1 / 2 ^ 100 := by decide +kernel
  unfold Nr ln at *
  constructor <;> constructor <;> grind
theorem bl_near {S C : Nat → Rat} (T : Tr S C) (b : Nat) (hb : b < 500) : Nr (((bl b).1 : Rat) / P120) (C (5400 * b)) (1 / 2 ^ 100) ∧ Nr (((bl b).2 : Rat) / P120) (S (5400 * b)) (1 / 2 ^ 100) := by
  have h := chain_near T 5400 499 C1 S1 (by omega) (by omega) T.blk.1 T.blk.2 (by decide) (by decide) (q := 1 / 600) (by grind) (by decide +kernel) (by decide +kernel) b (by omega)
  have n2 : (b : Rat) ≤ ((5400 : Nat) : Rat) := Rat.natCast_le_natCast.2 (by omega)
  have m2 := Rat.mul_le_mul_of_nonneg_right n2 (show 0 ≤ K0 by decide +kernel)
  have k : ((5400 : Nat) : Rat) * K0 ≤ 1 / 2 ^ 100 := by decide +kernel
  unfold Nr bl at *
  constructor <;> constructor <;> grind
/-- A number of the chain with fewer bits. -/
theorem cut_near {n p : Nat} {X q : Rat} (hp : (2 : Rat) ^ p * q = P120) (hq : 0 < q) (h : Nr ((n : Rat) / P120) X (1 / 2 ^ 100)) : Nr (((n / 2 ^ p : Nat) : Rat) / q) X (1 / q + 1 / 2 ^ 100) := by
  have k := div_near n p
  generalize ((n / 2 ^ p : Nat) : Rat) = m at *
  have pp : (2 : Rat) ^ p ≠ 0 := by
    intro z
    rw [z] at hp
    have := P120_eq
    grind
  generalize (2 : Rat) ^ p = P at *
  have e : (n : Rat) / P120 = (n : Rat) / P * (1 / q) := by
    rw [← hp]
    grind
  have i0 : 0 ≤ 1 / q := by
    rcases (Rat.le_total : 0 ≤ 1 / q ∨ 1 / q ≤ 0) with z | z
    · exact z
    · have := Rat.mul_nonneg (a := q) (b := -(1 / q)) (by grind) (by grind)
      grind
  have m1 := mul_abs k.1 k.2 (show -(1 / q) ≤ 1 / q by grind) (show 1 / q ≤ 1 / q by grind)
  rw [e] at h
  have e2 : m / q = m * (1 / q) := by grind
  have e3 : (m - (n : Rat) / P) * (1 / q) = m * (1 / q) - (n : Rat) / P * (1 / q) := by grind
  rw [e2]
  rw [e3] at m1
  unfold Nr at *
  generalize m * (1 / q) = u at *
  generalize (n : Rat) / P * (1 / q) = v at *
  constructor <;> grind
/-- The sum and the difference of products. -/
theorem uv_near {s c S C a b A B e f : Rat} (h1 : Nr s S e) (h2 : Nr c C e) (h3 : Nr a A f) (h4 : Nr b B f) (bf : 0 ≤ f ∧ f ≤ 1) (bS : -1 ≤ S ∧ S ≤ 1) (bC : -2 ≤ C ∧ C ≤ 2) (bA : -2 ≤ A ∧ A ≤ 2) (bB : -1 ≤ B ∧ B ≤ 1) :
    Nr (s * a + c * b) (S * A + C * B) (6 * e + 6 * f) ∧ Nr (c * a - s * b) (C * A - S * B) (6 * e + 6 * f) := by
  unfold Nr at *
  have m1 := mul_abs (a := s - S) (b := a) (A := e) (B := 3) h1.1 h1.2 (by grind) (by grind)
  have m2 := mul_abs (a := S) (b := a - A) (A := 1) (B := f) (by grind) bS.2 h3.1 h3.2
  have m3 := mul_abs (a := c - C) (b := b) (A := e) (B := 3) h2.1 h2.2 (by grind) (by grind)
  have m4 := mul_abs (a := C) (b := b - B) (A := 2) (B := f) (by grind) bC.2 h4.1 h4.2
  have n1 := mul_abs (a := c - C) (b := a) (A := e) (B := 3) h2.1 h2.2 (by grind) (by grind)
  have n2 := mul_abs (a := C) (b := a - A) (A := 2) (B := f) (by grind) bC.2 h3.1 h3.2
  have n3 := mul_abs (a := s - S) (b := b) (A := e) (B := 3) h1.1 h1.2 (by grind) (by grind)
  have n4 := mul_abs (a := S) (b := b - B) (A := 1) (B := f) (by grind) bS.2 h4.1 h4.2
  have i1 : s * a + c * b - (S * A + C * B) = (s - S) * a + S * (a - A) + (c - C) * b + C * (b - B) := by grind
  have i2 : c * a - s * b - (C * A - S * B) = (c - C) * a + C * (a - A) - (s - S) * b - S * (b - B) := by grind
  rw [i1, i2]
  generalize (s - S) * a = x1 at *
  generalize S * (a - A) = x2 at *
  generalize (c - C) * b = x3 at *
  generalize C * (b - B) = x4 at *
  generalize (c - C) * a = y1 at *
  generalize C * (a - A) = y2 at *
  generalize (s - S) * b = y3 at *
  generalize S * (b - B) = y4 at *
  constructor <;> constructor <;> grind
def P192 : Rat := 2 ^ 192
theorem P192_eq : P192 = 6277101735386680763835789423207666416102355444464034512896 := by decide +kernel
/-- **The lanes' start values are near the sine and the cosine.** -/
theorem lane_near {S C : Nat → Rat} (T : Tr S C) (b i : Nat) (hb : b < 500) (hi : i < 5400) :
    Nr ((uL b i : Rat) / P192) (S (5400 * b + i)) (1 / 2 ^ 89) ∧ Nr ((vL b i : Rat) / P192) (C (5400 * b + i)) (1 / 2 ^ 89) ∧ (bl b).2 / 2 ^ 20 * ((ln i).2 / 2 ^ 28) ≤ (bl b).1 / 2 ^ 20 * ((ln i).1 / 2 ^ 28) := by
  have hB := bl_near T b hb
  have hL := ln_near T i hi
  have b1 := cut_near (p := 20) (q := 1267650600228229401496703205376) (by decide +kernel) (by decide +kernel) hB.1
  have b2 := cut_near (p := 20) (q := 1267650600228229401496703205376) (by decide +kernel) (by decide +kernel) hB.2
  have l1 := cut_near (p := 28) (q := 4951760157141521099596496896) (by decide +kernel) (by decide +kernel) hL.1
  have l2 := cut_near (p := 28) (q := 4951760157141521099596496896) (by decide +kernel) (by decide +kernel) hL.2
  have ad := T.add (5400 * b) i (by omega)
  have c1 := T.bdC (5400 * b) (by omega)
  have c2 := T.bdC i (by omega)
  have s1 := T.bdS (5400 * b) (by omega)
  have s2 := T.bdS i (by omega)
  have cc := T.bdC (5400 * b + i) (by omega)
  have k := uv_near b2 b1 l1 l2 (by decide +kernel) (by constructor <;> grind) (by constructor <;> grind) (by constructor <;> grind) (by constructor <;> grind)
  have p := P192_eq
  have pe : (2 : Rat) / P120 ≤ 1 / 2 ^ 110 := by decide +kernel
  have kk : (6 : Rat) * (1 / 1267650600228229401496703205376 + 1 / 2 ^ 100) + 6 * (1 / 4951760157141521099596496896 + 1 / 2 ^ 100) + 1 / 2 ^ 110 ≤ 1 / 2 ^ 89 := by decide +kernel
  have le : (bl b).2 / 2 ^ 20 * ((ln i).2 / 2 ^ 28) ≤ (bl b).1 / 2 ^ 20 * ((ln i).1 / 2 ^ 28) := by
    apply Rat.natCast_le_natCast.1
    rw [Rat.natCast_mul, Rat.natCast_mul]
    have h := k.2
    generalize (((bl b).2 / 2 ^ 20 : Nat) : Rat) = x at *
    generalize (((bl b).1 / 2 ^ 20 : Nat) : Rat) = y at *
    generalize (((ln i).1 / 2 ^ 28 : Nat) : Rat) = z at *
    generalize (((ln i).2 / 2 ^ 28 : Nat) : Rat) = t at *
    have e : y / 1267650600228229401496703205376 * (z / 4951760157141521099596496896) - x / 1267650600228229401496703205376 * (t / 4951760157141521099596496896) = (y * z - x * t) / 6277101735386680763835789423207666416102355444464034512896 := by grind
    rw [e] at h
    have ad1 := ad.1
    unfold Nr at h ad1
    have : 0 ≤ (y * z - x * t) / 6277101735386680763835789423207666416102355444464034512896 := by
      generalize C (5400 * b) * C i - S (5400 * b) * S i = m at *
      generalize (y * z - x * t) / 6277101735386680763835789423207666416102355444464034512896 = w at *
      grind
    grind
  refine ⟨?_, ?_, le⟩
  · have h := k.1
    have e : ((uL b i : Nat) : Rat) / P192 = (((bl b).2 / 2 ^ 20 : Nat) : Rat) / 1267650600228229401496703205376 * ((((ln i).1 / 2 ^ 28 : Nat) : Rat) / 4951760157141521099596496896) + (((bl b).1 / 2 ^ 20 : Nat) : Rat) / 1267650600228229401496703205376 * ((((ln i).2 / 2 ^ 28 : Nat) : Rat) / 4951760157141521099596496896) := by
      unfold uL
      rw [Rat.natCast_add, Rat.natCast_mul, Rat.natCast_mul, p]
      grind
    rw [← e] at h
    have ad2 := ad.2
    unfold Nr at *
    generalize S (5400 * b) * C i + C (5400 * b) * S i = m at *
    constructor <;> grind
  · have h := k.2
    have e : ((vL b i : Nat) : Rat) / P192 = (((bl b).1 / 2 ^ 20 : Nat) : Rat) / 1267650600228229401496703205376 * ((((ln i).1 / 2 ^ 28 : Nat) : Rat) / 4951760157141521099596496896) - (((bl b).2 / 2 ^ 20 : Nat) : Rat) / 1267650600228229401496703205376 * ((((ln i).2 / 2 ^ 28 : Nat) : Rat) / 4951760157141521099596496896) := by
      have hs : ((vL b i : Nat) : Rat) = (((bl b).1 / 2 ^ 20 * ((ln i).1 / 2 ^ 28) : Nat) : Rat) - (((bl b).2 / 2 ^ 20 * ((ln i).2 / 2 ^ 28) : Nat) : Rat) := by
        have h := Nat.sub_add_cancel le
        have h2 : ((vL b i + (bl b).2 / 2 ^ 20 * ((ln i).2 / 2 ^ 28) : Nat) : Rat) = (((bl b).1 / 2 ^ 20 * ((ln i).1 / 2 ^ 28) : Nat) : Rat) := by unfold vL; rw [h]
        rw [Rat.natCast_add] at h2
        grind
      rw [hs, Rat.natCast_mul, Rat.natCast_mul, p]
      grind
    rw [← e] at h
    have ad1 := ad.1
    unfold Nr at *
    generalize C (5400 * b) * C i - S (5400 * b) * S i = m at *
    constructor <;> grind
theorem lane_fit' {S C : Nat → Rat} (T : Tr S C) (b : Nat) (hb : b < 500) (i : Nat) (hi : i < 5400) : uL b i < 2 ^ 194 ∧ vL b i < 2 ^ 195 ∧ (bl b).2 / 2 ^ 20 * ((ln i).2 / 2 ^ 28) ≤ (bl b).1 / 2 ^ 20 * ((ln i).1 / 2 ^ 28) := by
  obtain ⟨h1, h2, h3⟩ := lane_near T b i hb hi
  have cc := T.bdC (5400 * b + i) (by omega)
  have ss := T.bdS (5400 * b + i) (by omega)
  have p := P192_eq
  have z1 : ((2 ^ 193 : Nat) : Rat) = 12554203470773361527671578846415332832204710888928069025792 := by decide +kernel
  unfold Nr at h1 h2
  rw [p] at h1 h2
  have g1 : uL b i ≤ 2 ^ 193 := by
    apply Rat.natCast_le_natCast.1
    rw [z1]
    grind
  have g2 : vL b i ≤ 2 ^ 193 := by
    apply Rat.natCast_le_natCast.1
    rw [z1]
    grind
  exact ⟨by omega, by omega, h3⟩
theorem no_ties {S C : Nat → Rat} (T : Tr S C) (R : ∀ b, b < 500 → ∀ i, i < 5400 → (b ≠ 0 ∨ i ≠ 0) → Ends (uL b i) (vL b i)) {k : Nat} (h0 : 0 < k) (hk : k < 2700000) {x y : Nat} (hx : x ≤ 2 ^ 31) (hy : y ≤ 2 ^ 31) (hxy : 0 < x + y) :
    1 / 2 ^ 57 ≤ (x : Rat) * S k - (y : Rat) * C k ∨ (x : Rat) * S k - (y : Rat) * C k ≤ -(1 / 2 ^ 57) := by
  have hb : k / 5400 < 500 := by omega
  have hi : k % 5400 < 5400 := by omega
  have hr := R (k / 5400) hb (k % 5400) hi (by omega)
  obtain ⟨h1, h2, _⟩ := lane_near T (k / 5400) (k % 5400) hb hi
  rw [show 5400 * (k / 5400) + k % 5400 = k by omega] at h1 h2
  have cc := T.bdC k (by omega)
  have p := P192_eq
  have z1 : ((2 ^ 191 : Nat) : Rat) = 3138550867693340381917894711603833208051177722232017256448 := by decide +kernel
  have hc : 2 ^ 191 ≤ vL (k / 5400) (k % 5400) := by
    apply Rat.natCast_le_natCast.1
    rw [z1]
    unfold Nr at h2
    rw [p] at h2
    grind
  have f := hr.far (by exact_mod_cast hc) (x := (x : Int)) (y := (y : Int)) (by omega) (by exact_mod_cast hx) (by omega)
  generalize uL (k / 5400) (k % 5400) = u at *
  generalize vL (k / 5400) (k % 5400) = v at *
  have x0 : (0 : Rat) ≤ (x : Rat) := by exact_mod_cast Nat.zero_le _
  have y0 : (0 : Rat) ≤ (y : Rat) := by exact_mod_cast Nat.zero_le _
  have z2 : ((2 ^ 31 : Nat) : Rat) = 2147483648 := by decide +kernel
  have x1 : (x : Rat) ≤ 2147483648 := by rw [← z2]; exact Rat.natCast_le_natCast.2 hx
  have y1 : (y : Rat) ≤ 2147483648 := by rw [← z2]; exact Rat.natCast_le_natCast.2 hy
  have m1 := mul_abs (a := (x : Rat)) (A := 2147483648) (by grind) x1 h1.1 h1.2
  have m2 := mul_abs (a := (y : Rat)) (A := 2147483648) (by grind) y1 h2.1 h2.2
  have e : (x : Rat) * S k - (y : Rat) * C k = ((x : Rat) * (u : Rat) - (y : Rat) * (v : Rat)) / P192 - ((x : Rat) * ((u : Rat) / P192 - S k) - (y : Rat) * ((v : Rat) / P192 - C k)) := by
    rw [p]
    grind
  have kk : (2147483648 : Rat) * (1 / 2 ^ 89) + 2147483648 * (1 / 2 ^ 89) + 1 / 2 ^ 57 ≤ 1 / 2 ^ 56 := by decide +kernel
  have ci : ((x : Int) * (u : Int) - (y : Int) * (v : Int) : Int) = (((x : Int) * (u : Int) - (y : Int) * (v : Int) : Int)) := rfl
  have cst : (((x : Int) * (u : Int) - (y : Int) * (v : Int) : Int) : Rat) = (x : Rat) * (u : Rat) - (y : Rat) * (v : Rat) := by
    rw [Rat.intCast_sub, Rat.intCast_mul, Rat.intCast_mul]
    rfl
  have z3 : ((2 ^ 136 : Int) : Rat) = 87112285931760246646623899502532662132736 := by decide +kernel
  have z4 : ((-2 ^ 136 : Int) : Rat) = -87112285931760246646623899502532662132736 := by decide +kernel
  rw [e]
  generalize (x : Rat) * ((u : Rat) / P192 - S k) = r1 at *
  generalize (y : Rat) * ((v : Rat) / P192 - C k) = r2 at *
  rcases f with f | f
  · left
    have g := Rat.intCast_le_intCast.2 f
    rw [cst, z3] at g
    generalize (x : Rat) * (u : Rat) - (y : Rat) * (v : Rat) = w at *
    have : 1 / 2 ^ 56 ≤ w / P192 := by rw [p]; grind
    generalize w / P192 = w' at *
    grind
  · right
    have g := Rat.intCast_le_intCast.2 f
    rw [cst, z4] at g
    generalize (x : Rat) * (u : Rat) - (y : Rat) * (v : Rat) = w at *
    have : w / P192 ≤ -(1 / 2 ^ 56) := by rw [p]; grind
    generalize w / P192 = w' at *
    grind
end NT
end Go.Proofs.YtfilgpifiboccaaGreat

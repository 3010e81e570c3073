/-
  Enclosures grow with what they enclose: sines over arcs, products, sums, differences, quotients, haversines' angles. No program here.
-/
import Derived.Test.YtfilgpifiboccaaGreatT54
import Derived.Test.YtfilgpifiboccaaGreatF2
namespace Go.Proofs.YtfilgpifiboccaaGreat
open SM
theorem lob_mono {m n : Int} (h0 : -5400000 ≤ m) (h : m ≤ n) (h1 : n ≤ 5400000) : lob m ≤ lob n := by
  have a := (lob_opp (-m) (by omega) (by omega)).1
  have b := (lob_opp (-n) (by omega) (by omega)).1
  have c := hib_mono (m := -n) (n := -m) (by omega) (by omega) (by omega)
  rw [Int.neg_neg] at a b
  omega
theorem lob_cong {m n : Int} (h : m % 21600000 = n % 21600000) : lob m = lob n ∧ hib m = hib n := by
  unfold lob hib red south
  rw [h]
  exact ⟨rfl, rfl⟩
/-- Where an angle stands in the turn that begins at three quarters. -/
def stand (n : Int) : Int := (n + 5400000) % 21600000 - 5400000
theorem lob_stand (n : Int) : lob n = lob (stand n) ∧ hib n = hib (stand n) := lob_cong (by unfold stand; omega)
theorem lob_back {m : Int} (_h0 : 5400000 ≤ m) (_h1 : m ≤ 16200000) : lob m = lob (10800000 - m) ∧ hib m = hib (10800000 - m) := by
  have := lob_sym (m - 5400000)
  rw [show m - 5400000 + 5400000 = m by omega, show 5400000 - (m - 5400000) = 10800000 - m by omega] at this
  exact this
theorem encL_has {lo hi n : Int} (h1 : lo ≤ n) (h2 : n ≤ hi) : encL lo hi ≤ lob n := by
  unfold encL
  by_cases hm : meetB lo hi 16200000 = true
  · rw [if_pos hm]; have := lob_hib n; omega
  · rw [if_neg hm]
    have hm' : ¬ (16200000 - lo) % 21600000 ≤ hi - lo := fun q => hm (decide_eq_true q)
    have e1 : stand n = stand lo + (n - lo) := by unfold stand; omega
    have e2 : stand hi = stand lo + (hi - lo) := by unfold stand; omega
    have b1 : -5400000 < stand lo := by unfold stand; omega
    have b2 : stand hi < 16200000 := by unfold stand; omega
    rw [(lob_stand n).1, (lob_stand lo).1, (lob_stand hi).1]
    by_cases q : stand n ≤ 5400000
    · have := lob_mono (m := stand lo) (n := stand n) (by omega) (by omega) q
      omega
    · rw [(lob_back (m := stand n) (by omega) (by omega)).1]
      have h3 := (lob_back (m := stand hi) (by omega) (by omega)).1
      have := lob_mono (m := 10800000 - stand hi) (n := 10800000 - stand n) (by omega) (by omega) (by omega)
      omega
theorem encH_has {lo hi n : Int} (h1 : lo ≤ n) (h2 : n ≤ hi) : hib n ≤ encH lo hi := by
  unfold encH
  by_cases hm : meetB lo hi 5400000 = true
  · rw [if_pos hm]; have := lob_hib n; omega
  · rw [if_neg hm]
    have hm' : ¬ (5400000 - lo) % 21600000 ≤ hi - lo := fun q => hm (decide_eq_true q)
    by_cases q : stand n ≤ 5400000
    · by_cases q2 : stand hi ≤ 5400000 ∧ stand n ≤ stand hi
      · have := hib_mono (m := stand n) (n := stand hi) (by unfold stand; omega) q2.2 q2.1
        rw [(lob_stand n).2, (lob_stand hi).2]
        omega
      · exfalso
        unfold stand at q q2
        omega
    · have b1 : stand n < 16200000 := by unfold stand; omega
      have e1 : 5400000 < stand lo ∧ stand lo ≤ stand n := by unfold stand at *; omega
      rw [(lob_stand n).2, (lob_stand lo).2, (lob_back (m := stand n) (by omega) (by omega)).2]
      have h3 := (lob_back (m := stand lo) (by omega) (by omega)).2
      have := hib_mono (m := 10800000 - stand n) (n := 10800000 - stand lo) (by omega) (by omega) (by omega)
      omega
theorem enc_order {a b : Int} (h : a ≤ b) : encL a b ≤ encH a b := by
  have h1 := encL_has (lo := a) (hi := b) (n := a) (by omega) h
  have h2 := encH_has (lo := a) (hi := b) (n := a) (by omega) h
  have := lob_hib a
  omega
/-- An enclosure inside of another one: both without error. -/
def Within (r s : Int × Int × Int) : Prop := r.2.2 = 0 ∧ s.2.2 = 0 ∧ s.1 ≤ r.1 ∧ r.1 ≤ r.2.1 ∧ r.2.1 ≤ s.2.1
theorem avalid_mk {a b : Int} (h1 : -1099511627776 ≤ a) (h2 : a ≤ b) (h3 : b ≤ 1099511627776) : avalidB a b = true := decide_eq_true ⟨h1, h2, h3⟩
theorem one_bd {a b : Int} (h : avalidB a b = true) : (-1073741824 ≤ (sinR a b).1 ∧ (sinR a b).1 ≤ (sinR a b).2.1 ∧ (sinR a b).2.1 ≤ 1073741824 ∧ (sinR a b).2.2 = 0) ∧ (-1073741824 ≤ (cosR a b).1 ∧ (cosR a b).1 ≤ (cosR a b).2.1 ∧ (cosR a b).2.1 ≤ 1073741824 ∧ (cosR a b).2.2 = 0) ∧
    (0 ≤ (havR a b).1 ∧ (havR a b).1 ≤ (havR a b).2.1 ∧ (havR a b).2.1 ≤ 1073741824 ∧ (havR a b).2.2 = 0) := by
  have hv := aval_bd h
  have h1 := encl_bd a b
  have h2 := encl_bd (a + 5400000) (b + 5400000)
  have h3 := enc_order (a := a) (b := b) (by omega)
  have h4 := enc_order (a := a + 5400000) (b := b + 5400000) (by omega)
  simp [sinR, cosR, havR, h]
  omega

/-! ### Fixed-point operations -/
theorem lin_x {a x b : Int} (y : Int) (h1 : a ≤ x) (h2 : x ≤ b) : (a * y ≤ x * y ∧ x * y ≤ b * y) ∨ (b * y ≤ x * y ∧ x * y ≤ a * y) := by
  rcases Int.le_total 0 y with h | h
  · exact .inl ⟨Int.mul_le_mul_of_nonneg_right h1 h, Int.mul_le_mul_of_nonneg_right h2 h⟩
  · exact .inr ⟨Int.mul_le_mul_of_nonpos_right h2 h, Int.mul_le_mul_of_nonpos_right h1 h⟩
theorem lin_y {c y d : Int} (x : Int) (h1 : c ≤ y) (h2 : y ≤ d) : (x * c ≤ x * y ∧ x * y ≤ x * d) ∨ (x * d ≤ x * y ∧ x * y ≤ x * c) := by
  have := lin_x (a := c) (x := y) (b := d) x h1 h2
  rw [Int.mul_comm c x, Int.mul_comm y x, Int.mul_comm d x] at this
  exact this
theorem mn4 (p q r s : Int) : (mn (mn (mn p q) r) s ≤ p ∧ mn (mn (mn p q) r) s ≤ q ∧ mn (mn (mn p q) r) s ≤ r ∧ mn (mn (mn p q) r) s ≤ s) ∧
    (mn (mn (mn p q) r) s = p ∨ mn (mn (mn p q) r) s = q ∨ mn (mn (mn p q) r) s = r ∨ mn (mn (mn p q) r) s = s) := by
  have h1 := mn_bd p q
  have h2 := mn_bd (mn p q) r
  have h3 := mn_bd (mn (mn p q) r) s
  omega
theorem mx4 (p q r s : Int) : (p ≤ mx (mx (mx p q) r) s ∧ q ≤ mx (mx (mx p q) r) s ∧ r ≤ mx (mx (mx p q) r) s ∧ s ≤ mx (mx (mx p q) r) s) ∧
    (mx (mx (mx p q) r) s = p ∨ mx (mx (mx p q) r) s = q ∨ mx (mx (mx p q) r) s = r ∨ mx (mx (mx p q) r) s = s) := by
  have h1 := mx_bd p q
  have h2 := mx_bd (mx p q) r
  have h3 := mx_bd (mx (mx p q) r) s
  omega
theorem mul_has {a b c d x y : Int} (h1 : a ≤ x) (h2 : x ≤ b) (h3 : c ≤ y) (h4 : y ≤ d) : mulL a b c d ≤ x * y ∧ x * y ≤ mulH a b c d := by
  have e1 := lin_x y h1 h2
  have e2 := lin_y a h3 h4
  have e3 := lin_y b h3 h4
  have l := (mn4 (a * c) (a * d) (b * c) (b * d)).1
  have u := (mx4 (a * c) (a * d) (b * c) (b * d)).1
  unfold mulL mulH
  omega
theorem mulL_at (a b c d : Int) : ∃ x y, (x = a ∨ x = b) ∧ (y = c ∨ y = d) ∧ mulL a b c d = x * y := by
  rcases (mn4 (a * c) (a * d) (b * c) (b * d)).2 with h | h | h | h
  · exact ⟨a, c, .inl rfl, .inl rfl, h⟩
  · exact ⟨a, d, .inl rfl, .inr rfl, h⟩
  · exact ⟨b, c, .inr rfl, .inl rfl, h⟩
  · exact ⟨b, d, .inr rfl, .inr rfl, h⟩
theorem mulH_at (a b c d : Int) : ∃ x y, (x = a ∨ x = b) ∧ (y = c ∨ y = d) ∧ mulH a b c d = x * y := by
  rcases (mx4 (a * c) (a * d) (b * c) (b * d)).2 with h | h | h | h
  · exact ⟨a, c, .inl rfl, .inl rfl, h⟩
  · exact ⟨a, d, .inl rfl, .inr rfl, h⟩
  · exact ⟨b, c, .inr rfl, .inl rfl, h⟩
  · exact ⟨b, d, .inr rfl, .inr rfl, h⟩
theorem val_bd {a b : Int} (h : validB a b = true) : -2147483648 ≤ a ∧ a ≤ b ∧ b ≤ 2147483648 := by simpa [validB] using h
theorem val_mk {a b : Int} (h1 : -2147483648 ≤ a) (h2 : a ≤ b) (h3 : b ≤ 2147483648) : validB a b = true := decide_eq_true ⟨h1, h2, h3⟩
theorem both_mk {a b c d : Int} (h1 : validB a b = true) (h2 : validB c d = true) : bothB a b c d = true := by unfold bothB; rw [h1, h2]; rfl
theorem fit_ok {a b : Int} (h : (fitR a b).2.2 = 0) : validB a b = true ∧ fitR a b = (a, b, 0) := by
  unfold fitR at h ⊢
  split at h
  · rename_i hv; exact ⟨hv, by rw [if_pos hv]⟩
  · cases h
theorem fit_mk {a b : Int} (h : validB a b = true) : fitR a b = (a, b, 0) := by unfold fitR; rw [if_pos h]
theorem both_ok {f : Int × Int × Int} {a b c d : Int} (h : (if bothB a b c d = true then f else (0, 0, 1)).2.2 = 0) : bothB a b c d = true ∧ f.2.2 = 0 := by
  split at h
  · rename_i hb; exact ⟨hb, h⟩
  · cases h
theorem mul_order {a b c d : Int} (h1 : a ≤ b) (h2 : c ≤ d) : mulL a b c d ≤ mulH a b c d := by
  have := mul_has (a := a) (b := b) (c := c) (d := d) (x := a) (y := c) (by omega) h1 (by omega) h2
  omega
/-- Products of numbers from -1 to 1. -/
theorem mul_one {a b c d : Int} (h1 : -1073741824 ≤ a) (h2 : a ≤ b) (h3 : b ≤ 1073741824) (h4 : -1073741824 ≤ c) (h5 : c ≤ d) (h6 : d ≤ 1073741824) :
    (mulR a b c d).2.2 = 0 ∧ -1073741824 ≤ (mulR a b c d).1 ∧ (mulR a b c d).1 ≤ (mulR a b c d).2.1 ∧ (mulR a b c d).2.1 ≤ 1073741824 := by
  have bd : ∀ x y : Int, -1073741824 ≤ x → x ≤ 1073741824 → -1073741824 ≤ y → y ≤ 1073741824 → -1152921504606846976 ≤ x * y ∧ x * y ≤ 1152921504606846976 := fun x y p q r s => by
    have h : (x * y).natAbs = x.natAbs * y.natAbs := Int.natAbs_mul x y
    have : x.natAbs * y.natAbs ≤ 1073741824 * 1073741824 := Nat.mul_le_mul (by omega) (by omega)
    omega
  unfold mulR
  rw [if_pos (both_mk (val_mk (by omega) h2 (by omega)) (val_mk (by omega) h5 (by omega)))]
  obtain ⟨x, y, hx, hy, e⟩ := mulL_at a b c d
  obtain ⟨x2, y2, hx2, hy2, e2⟩ := mulH_at a b c d
  have q1 := bd x y (by omega) (by omega) (by omega) (by omega)
  have q2 := bd x2 y2 (by omega) (by omega) (by omega) (by omega)
  have q3 := mul_order h2 h5
  rw [fit_mk (val_mk (by omega) (by omega) (by omega))]
  refine ⟨rfl, ?_, ?_, ?_⟩ <;> dsimp only <;> omega
/-! quotients -/
theorem div_mono_x {x x' y : Int} (hy : 0 < y) (h : x ≤ x') : x / y ≤ x' / y := Int.ediv_le_ediv hy h
theorem div_mono_y {x y y' : Int} (hy : 0 < y) (h : y ≤ y') : (0 ≤ x → x / y' ≤ x / y) ∧ (x ≤ 0 → x / y ≤ x / y') := by
  constructor
  · intro hx
    have h0 : 0 ≤ x / y' := Int.ediv_nonneg hx (by omega)
    have h1 : x / y' * y' ≤ x := Int.ediv_mul_le x (by omega)
    have h2 : x / y' * y ≤ x / y' * y' := Int.mul_le_mul_of_nonneg_left h h0
    exact (Int.le_ediv_iff_mul_le hy).2 (by omega)
  · intro hx
    have h0 : x / y ≤ 0 := Int.ediv_nonpos_of_nonpos_of_neg hx (by omega)
    have h1 : x / y * y ≤ x := Int.ediv_mul_le x (by omega)
    have h2 : x / y * y' ≤ x / y * y := Int.mul_le_mul_of_nonpos_left h0 h
    exact (Int.le_ediv_iff_mul_le (by omega)).2 (by omega)
theorem div_mid {x c y d : Int} (hc : 0 < c) (h1 : c ≤ y) (h2 : y ≤ d) : (x / c ≤ x / y ∧ x / y ≤ x / d) ∨ (x / d ≤ x / y ∧ x / y ≤ x / c) := by
  rcases Int.le_total 0 x with h | h
  · exact .inr ⟨(div_mono_y (y := y) (y' := d) (by omega) h2).1 h, (div_mono_y (y := c) (y' := y) hc h1).1 h⟩
  · exact .inl ⟨(div_mono_y (y := c) (y' := y) hc h1).2 h, (div_mono_y (y := y) (y' := d) (by omega) h2).2 h⟩
theorem fl_mid {x c y d : Int} (hz : 0 < c ∨ d < 0) (h1 : c ≤ y) (h2 : y ≤ d) : (flD x c ≤ flD x y ∧ flD x y ≤ flD x d) ∨ (flD x d ≤ flD x y ∧ flD x y ≤ flD x c) := by
  unfold flD
  rcases hz with hz | hz
  · rw [if_pos (by omega), if_pos (by omega), if_pos (by omega)]
    exact div_mid hz h1 h2
  · rw [if_neg (by omega), if_neg (by omega), if_neg (by omega)]
    have := div_mid (x := -x) (c := -d) (y := -y) (d := -c) (by omega) (by omega) (by omega)
    omega
theorem fl_x {a x b y : Int} (hy : y ≠ 0) (h1 : a ≤ x) (h2 : x ≤ b) : (flD a y ≤ flD x y ∧ flD x y ≤ flD b y) ∨ (flD b y ≤ flD x y ∧ flD x y ≤ flD a y) := by
  unfold flD
  by_cases h : 0 < y
  · rw [if_pos h, if_pos h, if_pos h]
    exact .inl ⟨div_mono_x h h1, div_mono_x h h2⟩
  · rw [if_neg h, if_neg h, if_neg h]
    exact .inr ⟨div_mono_x (by omega) (by omega), div_mono_x (by omega) (by omega)⟩
theorem mn5 (z p q r s : Int) (hz : z = p) : (mn (mn (mn (mn z p) q) r) s ≤ p ∧ mn (mn (mn (mn z p) q) r) s ≤ q ∧ mn (mn (mn (mn z p) q) r) s ≤ r ∧ mn (mn (mn (mn z p) q) r) s ≤ s) ∧
    (mn (mn (mn (mn z p) q) r) s = p ∨ mn (mn (mn (mn z p) q) r) s = q ∨ mn (mn (mn (mn z p) q) r) s = r ∨ mn (mn (mn (mn z p) q) r) s = s) := by
  have h0 := mn_bd z p
  have h1 := mn_bd (mn z p) q
  have h2 := mn_bd (mn (mn z p) q) r
  have h3 := mn_bd (mn (mn (mn z p) q) r) s
  omega
theorem mx5 (z p q r s : Int) (hz : z = p) : (p ≤ mx (mx (mx (mx z p) q) r) s ∧ q ≤ mx (mx (mx (mx z p) q) r) s ∧ r ≤ mx (mx (mx (mx z p) q) r) s ∧ s ≤ mx (mx (mx (mx z p) q) r) s) ∧
    (mx (mx (mx (mx z p) q) r) s = p ∨ mx (mx (mx (mx z p) q) r) s = q ∨ mx (mx (mx (mx z p) q) r) s = r ∨ mx (mx (mx (mx z p) q) r) s = s) := by
  have h0 := mx_bd z p
  have h1 := mx_bd (mx z p) q
  have h2 := mx_bd (mx (mx z p) q) r
  have h3 := mx_bd (mx (mx (mx z p) q) r) s
  omega
theorem div_has {a b c d x y : Int} (hz : 0 < c ∨ d < 0) (h1 : a ≤ x) (h2 : x ≤ b) (h3 : c ≤ y) (h4 : y ≤ d) : divL a b c d ≤ flD (x * 1073741824) y ∧ ceD (x * 1073741824) y ≤ divH a b c d := by
  have e1 := fl_x (a := a * 1073741824) (x := x * 1073741824) (b := b * 1073741824) (y := y) (by omega) (by omega) (by omega)
  have e2 := fl_mid (x := a * 1073741824) hz h3 h4
  have e3 := fl_mid (x := b * 1073741824) hz h3 h4
  have f1 := fl_x (a := -(b * 1073741824)) (x := -(x * 1073741824)) (b := -(a * 1073741824)) (y := y) (by omega) (by omega) (by omega)
  have f2 := fl_mid (x := -(a * 1073741824)) hz h3 h4
  have f3 := fl_mid (x := -(b * 1073741824)) hz h3 h4
  have l := (mn5 (flD (a * 1073741824) c) (flD (a * 1073741824) c) (flD (a * 1073741824) d) (flD (b * 1073741824) c) (flD (b * 1073741824) d) rfl).1
  have u := (mx5 (ceD (a * 1073741824) c) (ceD (a * 1073741824) c) (ceD (a * 1073741824) d) (ceD (b * 1073741824) c) (ceD (b * 1073741824) d) rfl).1
  unfold divL divH
  unfold ceD at u ⊢
  omega
theorem fl_ce (x y : Int) (hy : y ≠ 0) : flD x y ≤ ceD x y := by
  unfold ceD flD
  by_cases h : 0 < y
  · rw [if_pos h, if_pos h]
    have h1 : x / y * y ≤ x := Int.ediv_mul_le x (by omega)
    have h2 : -x / y * y ≤ -x := Int.ediv_mul_le (-x) (by omega)
    have h3 : (x / y + -x / y) * y ≤ 0 := by rw [Int.add_mul]; omega
    have : x / y + -x / y ≤ 0 := by
      rcases Int.lt_or_le 0 (x / y + -x / y) with q | q
      · have := Int.mul_pos q h
        omega
      · exact q
    omega
  · rw [if_neg h, if_neg h, Int.neg_neg]
    have hy' : 0 < -y := by omega
    have h1 : -x / -y * -y ≤ -x := Int.ediv_mul_le (-x) (by omega)
    have h2 : x / -y * -y ≤ x := Int.ediv_mul_le x (by omega)
    have h3 : (-x / -y + x / -y) * -y ≤ 0 := by rw [Int.add_mul]; omega
    have : -x / -y + x / -y ≤ 0 := by
      rcases Int.lt_or_le 0 (-x / -y + x / -y) with q | q
      · have := Int.mul_pos q hy'
        omega
      · exact q
    omega
/-! arcs -/
theorem asn_order {u v : Int} (hu : -1073741824 ≤ u) (h : u ≤ v) (hv : v ≤ 1073741824) : asn u ≤ - asn (-v) := by
  have a := asn_is u hu
  have b := asn_is (-v) (by omega)
  obtain ⟨a1, a2, a3, _⟩ := a
  obtain ⟨b1, b2, b3, _⟩ := b
  have c := (lob_opp (asn (-v)) b1 b2).1
  rcases Int.lt_or_le (- asn (-v)) (asn u) with q | q
  · have := strict (m := - asn (-v)) (n := asn u) (by omega) q a2
    omega
  · exact q
theorem asin_ok {x y : Int} (h : (asinR x y).2.2 = 0) : validB x y = true ∧ max x (-1073741824) ≤ min y 1073741824 ∧ asinR x y = (asn (max x (-1073741824)), - asn (- min y 1073741824), 0) := by
  unfold asinR at h ⊢
  cases hv : validB x y with
  | false => rw [hv] at h; simp at h
  | true =>
    rw [hv] at h
    simp only [Bool.true_eq_false, if_false] at h ⊢
    split at h
    · rename_i q; exact ⟨trivial, q, by rw [if_pos q]⟩
    · cases h
theorem asin_grow {a b c d : Int} (hv : validB c d = true) (h : (asinR a b).2.2 = 0) (h1 : c ≤ a) (h3 : b ≤ d) : Within (asinR a b) (asinR c d) := by
  obtain ⟨v1, v2, v3⟩ := asin_ok h
  have e : asinR c d = (asn (max c (-1073741824)), - asn (- min d 1073741824), 0) := by
    unfold asinR
    rw [hv]
    simp only [Bool.true_eq_false, if_false]
    rw [if_pos (by omega)]
  rw [v3, e]
  have q1 := asn_mono (u := max c (-1073741824)) (v := max a (-1073741824)) (by omega) (by omega)
  have q2 := asn_mono (u := - min d 1073741824) (v := - min b 1073741824) (by omega) (by omega)
  have q3 := asn_order (u := max a (-1073741824)) (v := min b 1073741824) (by omega) v2 (by omega)
  refine ⟨rfl, rfl, ?_, ?_, ?_⟩ <;> dsimp only <;> omega
theorem acos_grow {a b c d : Int} (hv : validB c d = true) (h : (acosR a b).2.2 = 0) (h1 : c ≤ a) (h3 : b ≤ d) : Within (acosR a b) (acosR c d) := by
  have h0 : (asinR a b).2.2 = 0 := by
    unfold acosR at h
    split at h
    · rename_i q; exact q
    · exact h
  obtain ⟨q1, q2, q3, q4, q5⟩ := asin_grow hv h0 h1 h3
  unfold acosR
  rw [if_pos q1, if_pos q2]
  refine ⟨rfl, rfl, ?_, ?_, ?_⟩ <;> dsimp only <;> omega
theorem ahav_grow {a b c d : Int} (hv : validB c d = true) (h : (ahavR a b).2.2 = 0) (h1 : c ≤ a) (h3 : b ≤ d) : Within (ahavR a b) (ahavR c d) := by
  unfold ahavR at h ⊢
  cases va : validB a b with
  | false => rw [va] at h; simp at h
  | true =>
    rw [va] at h
    rw [hv]
    simp only [Bool.true_eq_false, if_false] at h ⊢
    split at h
    · rename_i q
      rw [if_pos q, if_pos (by omega)]
      refine acos_grow (val_mk (by omega) (by omega) (by omega)) h (by omega) (by omega)
    · cases h
theorem ahav_bd {a b : Int} (h : (ahavR a b).2.2 = 0) : 0 ≤ (ahavR a b).1 ∧ (ahavR a b).1 ≤ (ahavR a b).2.1 ∧ (ahavR a b).2.1 ≤ 10800000 := by
  have hv : validB a b = true := by
    unfold ahavR at h
    cases va : validB a b with
    | false => rw [va] at h; simp at h
    | true => rfl
  have g := ahav_grow hv h (Int.le_refl a) (Int.le_refl b)
  refine ⟨?_, g.2.2.2.1, ?_⟩
  all_goals
    unfold ahavR acosR
    have b1 := asinR_bd (1073741824 - 2 * min b 1073741824) (1073741824 - 2 * max a 0)
    rw [hv]
    simp only [Bool.true_eq_false, if_false]
    split
    · split <;> simp <;> omega
    · simp
end Go.Proofs.YtfilgpifiboccaaGreat

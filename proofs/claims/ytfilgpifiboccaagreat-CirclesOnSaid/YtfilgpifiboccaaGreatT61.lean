/-
  Bearing told in a half-plane: the angle of a point, rounded down and up, grows with its direction; the arc of a box without the origin. No walk here.
-/
import Derived.Test.YtfilgpifiboccaaGreatT58
import Derived.Test.YtfilgpifiboccaaGreatT37
namespace Go.Proofs.YtfilgpifiboccaaGreat
open SM
theorem srch_ok (f : Nat → Bool) : ∀ (n low high : Nat), low < high → high - low ≤ 2 ^ n → f low = true → low ≤ srch f n low high ∧ srch f n low high < high ∧ f (srch f n low high) = true ∧ (srch f n low high + 1 = high ∨ f (srch f n low high + 1) = false)
  | 0, low, high, h, hn, hf => by
    have : high = low + 1 := by simp at hn; omega
    subst this
    exact ⟨Nat.le_refl _, by unfold srch; omega, hf, .inl rfl⟩
  | n + 1, low, high, h, hn, hf => by
    have hp : 2 ^ (n + 1) = 2 ^ n * 2 := Nat.pow_succ 2 n
    rw [hp] at hn
    unfold srch
    by_cases c : high - low ≤ 1
    · rw [if_pos c]; exact ⟨Nat.le_refl _, h, hf, .inl (by omega)⟩
    · rw [if_neg c]
      cases hm : f ((low + high) / 2)
      · rw [if_neg (by simp)]
        obtain ⟨a, b, d, e⟩ := srch_ok f n low ((low + high) / 2) (by omega) (by omega) hf
        refine ⟨a, by omega, d, ?_⟩
        rcases e with e | e
        · right; rw [e]; exact hm
        · exact .inr e
      · rw [if_pos rfl]
        obtain ⟨a, b, d, e⟩ := srch_ok f n ((low + high) / 2) high (by omega) (by omega) hm
        exact ⟨by omega, b, d, e⟩
/-- The angle of a point of the first quadrant, rounded down; whether it is exact. -/
def F (x y : Nat) : Nat := srch (reaB x y) 23 0 5400000
def exF (x y : Nat) : Bool := (F x y == 0 && y == 0) || (F x y == 2700000 && x == y)
def C (x y : Nat) : Nat := F x y + if exF x y then 0 else 1
theorem F_spec (x y : Nat) : F x y < 5400000 ∧ reaB x y (F x y) = true ∧ (F x y + 1 = 5400000 ∨ reaB x y (F x y + 1) = false) := by
  have := srch_ok (reaB x y) 23 0 5400000 (by omega) (by decide) (reaB_zero x y)
  exact this.2
theorem F_ge {x y k : Nat} (hx0 : 0 < x) (hx : x ≤ 2147483648) (hy : y ≤ 2147483648) (hk : k < 5400000) (h : reaB x y k = true) : k ≤ F x y := by
  obtain ⟨a, b, c⟩ := F_spec x y
  rcases Nat.lt_or_ge (F x y) k with h1 | h1
  · exfalso
    have := reaB_mono (j := F x y + 1) hx0 hx hy hx hy (by rw [Nat.mul_comm]; exact Nat.le_refl _) (by omega) (by omega) h
    rcases c with c | c
    · omega
    · rw [c] at this; cases this
  · exact h1
theorem F_mono {x y u v : Nat} (hx0 : 0 < x) (hx : x ≤ 2147483648) (hy : y ≤ 2147483648) (hu0 : 0 < u) (hu : u ≤ 2147483648) (hv : v ≤ 2147483648) (hc : y * u ≤ x * v) : F x y ≤ F u v := by
  obtain ⟨a, b, c⟩ := F_spec x y
  exact F_ge hu0 hu hv a (reaB_mono hx0 hx hy hu hv hc (Nat.le_refl _) (by omega) b)
theorem C_mono {x y u v : Nat} (hx0 : 0 < x) (hx : x ≤ 2147483648) (hy : y ≤ 2147483648) (hu0 : 0 < u) (hu : u ≤ 2147483648) (hv : v ≤ 2147483648) (hc : y * u ≤ x * v) : C x y ≤ C u v := by
  have hF := F_mono hx0 hx hy hu0 hu hv hc
  unfold C
  cases hex : exF u v
  · simp only [Bool.false_eq_true, reduceIte]; split <;> omega
  · simp only [reduceIte]
    rcases Nat.eq_or_lt_of_le hF with e | e
    · have : exF x y = true := by
        unfold exF at hex ⊢
        simp only [Bool.or_eq_true, Bool.and_eq_true, beq_iff_eq] at hex ⊢
        rcases hex with ⟨h1, h2⟩ | ⟨h1, h2⟩
        · left
          rw [h2, Nat.mul_zero] at hc
          have := Nat.eq_zero_of_le_zero hc
          rcases Nat.mul_eq_zero.1 this with h3 | h3
          · exact ⟨by omega, h3⟩
          · omega
        · right
          refine ⟨by omega, ?_⟩
          subst h2
          have h3 : y ≤ x := Nat.le_of_mul_le_mul_right hc hu0
          have h4 := (F_spec x y).2.1
          rw [e, h1] at h4
          have := (reaB_mid x y).1 h4
          omega
      rw [this, if_pos rfl]; omega
    · split <;> omega
theorem C_bd (x y : Nat) : F x y ≤ C x y ∧ C x y ≤ 5400000 := by
  have := (F_spec x y).1
  unfold C
  constructor <;> (split <;> omega)
/-! Points with positive x: the angle from minus a right angle on. -/
def fl (x y : Int) : Int := if 0 ≤ y then (F x.toNat y.toNat : Int) else (F (-y).toNat x.toNat : Int) - 5400000
def ex (x y : Int) : Bool := if 0 ≤ y then exF x.toNat y.toNat else exF (-y).toNat x.toNat
def ce (x y : Int) : Int := fl x y + if ex x y then 0 else 1
def In31 (x y : Int) : Prop := 0 < x ∧ x ≤ 2147483648 ∧ -2147483648 ≤ y ∧ y ≤ 2147483648
theorem ce_eq (x y : Int) : ce x y = if 0 ≤ y then (C x.toNat y.toNat : Int) else (C (-y).toNat x.toNat : Int) - 5400000 := by
  unfold ce fl ex C
  by_cases h : 0 ≤ y
  · rw [if_pos h, if_pos h, if_pos h]; split <;> simp
  · rw [if_neg h, if_neg h, if_neg h]; split <;> omega
theorem fl_bd (x y : Int) : -5400000 ≤ fl x y ∧ fl x y ≤ ce x y ∧ ce x y ≤ 5400000 ∧ ce x y ≤ fl x y + 1 := by
  refine ⟨?_, ?_, ?_, ?_⟩
  · unfold fl; split <;> omega
  · unfold ce; split <;> omega
  · rw [ce_eq]
    have := C_bd x.toNat y.toNat
    have := C_bd (-y).toNat x.toNat
    split <;> omega
  · unfold ce; split <;> omega
theorem nat_mul {a b : Int} (ha : 0 ≤ a) (hb : 0 ≤ b) : ((a.toNat * b.toNat : Nat) : Int) = a * b := by
  rw [Int.natCast_mul, Int.toNat_of_nonneg ha, Int.toNat_of_nonneg hb]
theorem nat_le {a b c d : Int} (ha : 0 ≤ a) (hb : 0 ≤ b) (hc : 0 ≤ c) (hd : 0 ≤ d) (h : a * b ≤ c * d) : a.toNat * b.toNat ≤ c.toNat * d.toNat := by
  have e1 := nat_mul ha hb
  have e2 := nat_mul hc hd
  omega
theorem fl_mono {x y u v : Int} (hp : In31 x y) (hq : In31 u v) (hc : y * u ≤ x * v) : fl x y ≤ fl u v ∧ ce x y ≤ ce u v := by
  obtain ⟨p0, p1, p2, p3⟩ := hp
  obtain ⟨q0, q1, q2, q3⟩ := hq
  rw [ce_eq, ce_eq]
  unfold fl
  by_cases hy : 0 ≤ y
  · have hv : 0 ≤ v := by
      rcases Int.lt_or_le v 0 with h | h
      · exfalso
        have := Int.mul_neg_of_pos_of_neg p0 h
        have := Int.mul_nonneg hy (Int.le_of_lt q0)
        omega
      · exact h
    rw [if_pos hy, if_pos hv, if_pos hy, if_pos hv]
    have hn := nat_le hy (Int.le_of_lt q0) (Int.le_of_lt p0) hv hc
    have := F_mono (x := x.toNat) (y := y.toNat) (u := u.toNat) (v := v.toNat) (by omega) (by omega) (by omega) (by omega) (by omega) (by omega) hn
    have := C_mono (x := x.toNat) (y := y.toNat) (u := u.toNat) (v := v.toNat) (by omega) (by omega) (by omega) (by omega) (by omega) (by omega) hn
    omega
  · rw [if_neg hy, if_neg hy]
    by_cases hv : 0 ≤ v
    · rw [if_pos hv, if_pos hv]
      have := (F_spec (-y).toNat x.toNat).1
      have := C_bd (-y).toNat x.toNat
      have := C_bd u.toNat v.toNat
      omega
    · rw [if_neg hv, if_neg hv]
      have hc' : x * (-v) ≤ (-y) * u := by rw [Int.mul_neg, Int.neg_mul]; omega
      have hn := nat_le (a := x) (b := -v) (c := -y) (d := u) (by omega) (by omega) (by omega) (by omega) hc'
      have := F_mono (x := (-y).toNat) (y := x.toNat) (u := (-v).toNat) (v := u.toNat) (by omega) (by omega) (by omega) (by omega) (by omega) (by omega) hn
      have := C_mono (x := (-y).toNat) (y := x.toNat) (u := (-v).toNat) (v := u.toNat) (by omega) (by omega) (by omega) (by omega) (by omega) (by omega) hn
      omega
/-! What Bearing answers for a box without the origin, told in a half-plane. No walk here. -/
theorem rot_rot (x y : Int) : ∀ j, rot (-y) x (j + 1) = rot x y j
  | 0 => by simp only [rot]; simp
  | j + 1 => by
    have ih := rot_rot x y j
    rw [rot, ih]
    rfl
/-- A point turned by a right angle has an angle a right angle greater. -/
theorem ang_rot (x y : Int) (h : ¬ (x = 0 ∧ y = 0)) : angF (-y) x = (angF x y + 5400000) % 21600000 ∧ excF (-y) x = excF x y ∧ 0 ≤ angF x y ∧ angF x y < 21600000 := by
  have key : (qr (-y) x = qr x y + 1 ∧ qr x y < 3) ∨ (qr x y = 3 ∧ qr (-y) x = 0) := by
    unfold qr
    (repeat' split) <;> omega
  have hrot : rot (-y) x (qr (-y) x) = rot x y (qr x y) := by
    rcases key with ⟨h1, h2⟩ | ⟨h1, h2⟩
    · rw [h1, rot_rot]
    · rw [h1, h2]; simp only [rot]; simp
  have hl : low1 (-y) x = low1 x y := by unfold low1; rw [hrot]
  have hb : low1 x y < 5400000 := (F_spec (rot x y (qr x y)).1.toNat (rot x y (qr x y)).2.toNat).1
  have hq := qr_le x y
  refine ⟨?_, ?_, ?_, ?_⟩
  · unfold angF
    rw [hl]
    rcases key with ⟨h1, h2⟩ | ⟨h1, h2⟩
    · rw [h1]; omega
    · rw [h1, h2]; omega
  · unfold excF; rw [hl, hrot]
  · unfold angF; omega
  · unfold angF; omega
theorem ang_right {x y : Int} (hx : 0 < x) : angF x y = fl x y % 21600000 ∧ excF x y = ex x y := by
  have hbd := fl_bd x y
  by_cases hy : 0 ≤ y
  · have hq : qr x y = 0 := by unfold qr; rw [if_pos ⟨hx, hy⟩]
    have hf : fl x y = (F x.toNat y.toNat : Int) := by unfold fl; rw [if_pos hy]
    have hl : low1 x y = F x.toNat y.toNat := by unfold low1 F; rw [hq]; rfl
    have := (F_spec x.toNat y.toNat).1
    refine ⟨by unfold angF; rw [hq, hl, hf]; omega, ?_⟩
    unfold excF ex exF
    rw [if_pos hy, hl, hq]
    simp only [rot]
    have e1 : (y == 0) = (y.toNat == 0) := by rw [Bool.eq_iff_iff]; simp only [beq_iff_eq]; omega
    have e2 : (x == y) = (x.toNat == y.toNat) := by rw [Bool.eq_iff_iff]; simp only [beq_iff_eq]; omega
    rw [e1, e2]
  · have hq : qr x y = 3 := by unfold qr; rw [if_neg (by omega), if_neg (by omega), if_neg (by omega)]
    have hr : rot x y 3 = (-y, x) := by simp only [rot]; simp
    have hf : fl x y = (F (-y).toNat x.toNat : Int) - 5400000 := by unfold fl; rw [if_neg hy]
    have hl : low1 x y = F (-y).toNat x.toNat := by unfold low1 F; rw [hq, hr]
    have := (F_spec (-y).toNat x.toNat).1
    refine ⟨by unfold angF; rw [hq, hl, hf]; omega, ?_⟩
    unfold excF ex exF
    rw [if_neg hy, hl, hq, hr]
    simp only
    have e1 : (x == 0) = (x.toNat == 0) := by rw [Bool.eq_iff_iff]; simp only [beq_iff_eq]; omega
    have e2 : (-y == x) = ((-y).toNat == x.toNat) := by rw [Bool.eq_iff_iff]; simp only [beq_iff_eq]; omega
    rw [e1, e2]
/-- Turned forward by j right angles. -/
def fwd (p : Int × Int) : Nat → Int × Int
  | 0 => p
  | j + 1 => (-(fwd p j).2, (fwd p j).1)
theorem fwd_ne {p : Int × Int} (h : ¬ (p.1 = 0 ∧ p.2 = 0)) : ∀ j, ¬ ((fwd p j).1 = 0 ∧ (fwd p j).2 = 0)
  | 0 => h
  | j + 1 => by have := fwd_ne h j; simp only [fwd]; omega
theorem ang_fwd {x y : Int} (hx : 0 < x) : ∀ j : Nat, angF (fwd (x, y) j).1 (fwd (x, y) j).2 = (fl x y + 5400000 * j) % 21600000 ∧ excF (fwd (x, y) j).1 (fwd (x, y) j).2 = ex x y
  | 0 => by
    obtain ⟨a, b⟩ := ang_right (y := y) hx
    simp only [fwd]
    exact ⟨by rw [a]; simp, b⟩
  | j + 1 => by
    obtain ⟨a, b⟩ := ang_fwd (x := x) (y := y) hx j
    have hne := fwd_ne (p := (x, y)) (by simp only; omega) j
    obtain ⟨c, d, _, _⟩ := ang_rot _ _ hne
    simp only [fwd]
    rw [c, d, a, b]
    refine ⟨?_, rfl⟩
    have : ((j + 1 : Nat) : Int) = (j : Int) + 1 := by omega
    rw [this]
    omega
theorem bef_fwd (p q : Int × Int) : ∀ j, bef (fwd p j) (fwd q j) = bef p q
  | 0 => rfl
  | j + 1 => by
    rw [← bef_fwd p q j]
    unfold bef
    rw [decide_eq_decide]
    simp only [fwd]
    rw [Int.mul_neg, Int.neg_mul, Int.mul_comm (fwd p j).1, Int.mul_comm (fwd p j).2]
    constructor <;> intro h <;> omega
theorem bef_trans {p q r : Int × Int} (hp : 0 < p.1) (hq : 0 < q.1) (hr : 0 < r.1) (h1 : bef p q = true) (h2 : bef q r = true) : bef p r = true := by
  unfold bef at *
  simp only [decide_eq_true_eq] at *
  have a := Int.mul_le_mul_of_nonneg_right h1 (Int.le_of_lt hr)
  have b := Int.mul_le_mul_of_nonneg_left h2 (Int.le_of_lt hp)
  have e1 : p.2 * q.1 * r.1 = p.2 * r.1 * q.1 := by grind
  have e2 : p.1 * q.2 * r.1 = p.1 * (q.2 * r.1) := by grind
  have e3 : p.1 * (q.1 * r.2) = p.1 * r.2 * q.1 := by grind
  rw [e1, e2] at a
  rw [e3] at b
  exact Int.le_of_mul_le_mul_right (Int.le_trans a b) hq
theorem bef_total (p q : Int × Int) : bef p q = true ∨ bef q p = true := by
  unfold bef
  simp only [decide_eq_true_eq]
  rw [Int.mul_comm p.1, Int.mul_comm p.2]
  omega
/-- The first and the last of four corners that are points of a half-plane, turned. -/
theorem fst_min {yl yh xl xh : Int} {j : Nat} (c : Nat → Int × Int) (hc : ∀ i, i < 4 → cor yl yh xl xh i = fwd (c i) j) (hp : ∀ i, i < 4 → 0 < (c i).1) :
    ∀ m, m ≤ 4 → ∃ i, i < 4 ∧ fstP yl yh xl xh m = fwd (c i) j ∧ ∀ k, k < m → bef (c i) (c k) = true
  | 0, _ => ⟨0, by omega, hc 0 (by omega), fun k hk => by omega⟩
  | m + 1, hm => by
    obtain ⟨i, hi, e, h⟩ := fst_min c hc hp m (by omega)
    have hcm := hc m (by omega)
    unfold fstP
    rw [hcm, e, bef_fwd]
    cases hb : bef (c m) (c i)
    · rw [if_neg (by simp)]
      refine ⟨i, hi, rfl, fun k hk => ?_⟩
      rcases Nat.eq_or_lt_of_le (Nat.le_of_lt_succ hk) with e2 | e2
      · subst e2
        rcases bef_total (c i) (c k) with h2 | h2
        · exact h2
        · rw [hb] at h2; cases h2
      · exact h k e2
    · rw [if_pos rfl]
      refine ⟨m, by omega, rfl, fun k hk => ?_⟩
      rcases Nat.eq_or_lt_of_le (Nat.le_of_lt_succ hk) with e2 | e2
      · subst e2; unfold bef; simp only [decide_eq_true_eq]; rw [Int.mul_comm]; exact Int.le_refl _
      · exact bef_trans (hp m (by omega)) (hp i hi) (hp k (by omega)) hb (h k e2)
theorem lst_max {yl yh xl xh : Int} {j : Nat} (c : Nat → Int × Int) (hc : ∀ i, i < 4 → cor yl yh xl xh i = fwd (c i) j) (hp : ∀ i, i < 4 → 0 < (c i).1) :
    ∀ m, m ≤ 4 → ∃ i, i < 4 ∧ lstP yl yh xl xh m = fwd (c i) j ∧ ∀ k, k < m → bef (c k) (c i) = true
  | 0, _ => ⟨0, by omega, hc 0 (by omega), fun k hk => by omega⟩
  | m + 1, hm => by
    obtain ⟨i, hi, e, h⟩ := lst_max c hc hp m (by omega)
    have hcm := hc m (by omega)
    unfold lstP
    rw [hcm, e, bef_fwd]
    cases hb : bef (c i) (c m)
    · rw [if_neg (by simp)]
      refine ⟨i, hi, rfl, fun k hk => ?_⟩
      rcases Nat.eq_or_lt_of_le (Nat.le_of_lt_succ hk) with e2 | e2
      · subst e2
        rcases bef_total (c i) (c k) with h2 | h2
        · rw [hb] at h2; cases h2
        · exact h2
      · exact h k e2
    · rw [if_pos rfl]
      refine ⟨m, by omega, rfl, fun k hk => ?_⟩
      rcases Nat.eq_or_lt_of_le (Nat.le_of_lt_succ hk) with e2 | e2
      · subst e2; unfold bef; simp only [decide_eq_true_eq]; rw [Int.mul_comm]; exact Int.le_refl _
      · exact bef_trans (hp k (by omega)) (hp i hi) (hp m (by omega)) (h k e2) hb
/-- The box turned back by right angles: y's ends, x's ends. -/
def rbox (yl yh xl xh : Int) : Nat → Int × Int × Int × Int
  | 0 => (yl, yh, xl, xh)
  | 1 => (-xh, -xl, yl, yh)
  | 2 => (-yh, -yl, -xh, -xl)
  | _ => (xl, xh, -yh, -yl)
/-- The least angle of a box in the right half-plane, rounded down, and the greatest, rounded up. -/
def loA (y0 x0 x1 : Int) : Int := if 0 ≤ y0 then fl x1 y0 else fl x0 y0
def hiA (y1 x0 x1 : Int) : Int := if 0 ≤ y1 then ce x0 y1 else ce x1 y1
theorem half_ex {yl yh xl xh : Int} (h : originB yl yh xl xh = false) : ∃ j, j ≤ 3 ∧ 0 < (rbox yl yh xl xh j).2.2.1 := by
  simp only [originB, decide_eq_false_iff_not] at h
  by_cases h1 : 0 < xl
  · exact ⟨0, by omega, h1⟩
  by_cases h2 : 0 < yl
  · exact ⟨1, by omega, h2⟩
  by_cases h3 : xh < 0
  · exact ⟨2, by omega, by simp only [rbox]; omega⟩
  · exact ⟨3, by omega, by simp only [rbox]; omega⟩
/-- The points of a box are not before its least corner, nor behind its greatest. -/
theorem box_lo {y0 y1 x0 x1 x y : Int} (hx0 : 0 < x0) (hx : x0 ≤ x ∧ x ≤ x1) (hy : y0 ≤ y ∧ y ≤ y1) (b0 : x1 ≤ 2147483648) (b1 : -2147483648 ≤ y0) (b2 : y1 ≤ 2147483648) : loA y0 x0 x1 ≤ fl x y ∧ ce x y ≤ hiA y1 x0 x1 := by
  have hp : In31 x y := ⟨by omega, by omega, by omega, by omega⟩
  constructor
  · unfold loA
    by_cases h : 0 ≤ y0
    · rw [if_pos h]
      refine (fl_mono ⟨by omega, b0, by omega, by omega⟩ hp ?_).1
      exact Int.le_trans (Int.mul_le_mul_of_nonneg_left hx.2 h) (by rw [Int.mul_comm y0]; exact Int.mul_le_mul_of_nonneg_left hy.1 (by omega))
    · rw [if_neg h]
      refine (fl_mono ⟨by omega, by omega, by omega, by omega⟩ hp ?_).1
      have a := Int.mul_le_mul_of_nonneg_left hy.1 (Int.le_of_lt hx0)
      have b := Int.mul_le_mul_of_nonneg_left hx.1 (show 0 ≤ -y0 by omega)
      rw [Int.neg_mul, Int.neg_mul] at b
      rw [Int.mul_comm x0 y0] at a
      omega
  · unfold hiA
    by_cases h : 0 ≤ y1
    · rw [if_pos h]
      refine (fl_mono hp ⟨by omega, by omega, by omega, by omega⟩ ?_).2
      have a := Int.mul_le_mul_of_nonneg_right hy.2 (Int.le_of_lt hx0)
      have b := Int.mul_le_mul_of_nonneg_right hx.1 h
      rw [Int.mul_comm x0 y1] at b
      omega
    · rw [if_neg h]
      refine (fl_mono hp ⟨by omega, by omega, by omega, by omega⟩ ?_).2
      have a := Int.mul_le_mul_of_nonneg_right hy.2 (show 0 ≤ x1 by omega)
      have b := Int.mul_le_mul_of_nonneg_right hx.2 (show 0 ≤ -y1 by omega)
      rw [Int.mul_neg, Int.mul_neg] at b
      rw [Int.mul_comm x1 y1] at b
      omega
theorem box_one {y0 y1 x0 x1 : Int} (hx0 : 0 < x0) (hx : x0 ≤ x1) (hy : y0 ≤ y1) (b0 : x1 ≤ 2147483648) (b1 : -2147483648 ≤ y0) (b2 : y1 ≤ 2147483648) : -5400000 ≤ loA y0 x0 x1 ∧ loA y0 x0 x1 ≤ hiA y1 x0 x1 ∧ hiA y1 x0 x1 ≤ 5400000 := by
  have a := box_lo (x := x0) (y := y0) hx0 ⟨Int.le_refl _, hx⟩ ⟨Int.le_refl _, hy⟩ b0 b1 b2
  have b := fl_bd x0 y0
  refine ⟨?_, by omega, ?_⟩
  · unfold loA; split
    · exact (fl_bd x1 y0).1
    · exact (fl_bd x0 y0).1
  · unfold hiA; split
    · exact (fl_bd x0 y1).2.2.1
    · exact (fl_bd x1 y1).2.2.1
/-- Bearing's arc, told by a half-plane that holds the box. -/
theorem bear_str {yl yh xl xh y0 y1 x0 x1 : Int} {j : Nat} (hvx : validB xl xh = true) (hvy : validB yl yh = true) (ho : originB yl yh xl xh = false) (hj : j ≤ 3) (hr : rbox yl yh xl xh j = (y0, y1, x0, x1)) (hx0 : 0 < x0) :
    bearR yl yh xl xh = ((loA y0 x0 x1 + 5400000 * j) % 21600000, (loA y0 x0 x1 + 5400000 * j) % 21600000 + (hiA y1 x0 x1 - loA y0 x0 x1), 0) := by
  simp only [validB, decide_eq_true_eq] at hvx hvy
  -- the corners, turned
  obtain ⟨c, hc, hin, hmem⟩ : ∃ c : Nat → Int × Int, (∀ i, i < 4 → cor yl yh xl xh i = fwd (c i) j) ∧ (∀ i, i < 4 → ((c i).1 = x0 ∨ (c i).1 = x1) ∧ ((c i).2 = y0 ∨ (c i).2 = y1)) ∧
      (∀ x y, (x = x0 ∨ x = x1) → (y = y0 ∨ y = y1) → ∃ i, i < 4 ∧ c i = (x, y)) := by
    have four : ∀ i, i < 4 → i = 0 ∨ i = 1 ∨ i = 2 ∨ i = 3 := fun i hi => by omega
    rcases (show j = 0 ∨ j = 1 ∨ j = 2 ∨ j = 3 by omega) with rfl | rfl | rfl | rfl <;> simp only [rbox, Prod.mk.injEq] at hr <;> obtain ⟨rfl, rfl, rfl, rfl⟩ := hr
    · refine ⟨fun i => cor yl yh xl xh i, fun i _ => rfl, fun i hi => ?_, fun x y hx hy => ?_⟩
      · rcases four i hi with rfl | rfl | rfl | rfl <;> simp [cor]
      · rcases hx with rfl | rfl <;> rcases hy with rfl | rfl
        · exact ⟨0, by omega, rfl⟩
        · exact ⟨1, by omega, rfl⟩
        · exact ⟨2, by omega, rfl⟩
        · exact ⟨3, by omega, rfl⟩
    · refine ⟨fun i => ((cor yl yh xl xh i).2, -(cor yl yh xl xh i).1), fun i _ => by simp [fwd], fun i hi => ?_, fun x y hx hy => ?_⟩
      · rcases four i hi with rfl | rfl | rfl | rfl <;> simp [cor]
      · rcases hx with rfl | rfl <;> rcases hy with rfl | rfl
        · exact ⟨2, by omega, rfl⟩
        · exact ⟨0, by omega, rfl⟩
        · exact ⟨3, by omega, rfl⟩
        · exact ⟨1, by omega, rfl⟩
    · refine ⟨fun i => (-(cor yl yh xl xh i).1, -(cor yl yh xl xh i).2), fun i _ => by simp [fwd], fun i hi => ?_, fun x y hx hy => ?_⟩
      · rcases four i hi with rfl | rfl | rfl | rfl <;> simp [cor]
      · rcases hx with rfl | rfl <;> rcases hy with rfl | rfl
        · exact ⟨3, by omega, rfl⟩
        · exact ⟨2, by omega, rfl⟩
        · exact ⟨1, by omega, rfl⟩
        · exact ⟨0, by omega, rfl⟩
    · refine ⟨fun i => (-(cor yl yh xl xh i).2, (cor yl yh xl xh i).1), fun i _ => by simp [fwd], fun i hi => ?_, fun x y hx hy => ?_⟩
      · rcases four i hi with rfl | rfl | rfl | rfl <;> simp [cor]
      · rcases hx with rfl | rfl <;> rcases hy with rfl | rfl
        · exact ⟨1, by omega, rfl⟩
        · exact ⟨3, by omega, rfl⟩
        · exact ⟨0, by omega, rfl⟩
        · exact ⟨2, by omega, rfl⟩
  have hbd : x0 ≤ x1 ∧ y0 ≤ y1 ∧ x1 ≤ 2147483648 ∧ -2147483648 ≤ y0 ∧ y1 ≤ 2147483648 := by
    rcases (show j = 0 ∨ j = 1 ∨ j = 2 ∨ j = 3 by omega) with rfl | rfl | rfl | rfl <;> simp only [rbox, Prod.mk.injEq] at hr <;> omega
  obtain ⟨d1, d2, d3, d4, d5⟩ := hbd
  have hpos : ∀ i, i < 4 → 0 < (c i).1 := fun i hi => by have := hin i hi; omega
  have h31 : ∀ i, i < 4 → In31 (c i).1 (c i).2 := fun i hi => by have := hin i hi; exact ⟨by omega, by omega, by omega, by omega⟩
  obtain ⟨i, hi, ei, mi⟩ := fst_min c hc hpos 4 (Nat.le_refl _)
  obtain ⟨k, hk, ek, mk⟩ := lst_max c hc hpos 4 (Nat.le_refl _)
  have mono : ∀ p q, p < 4 → q < 4 → bef (c p) (c q) = true → fl (c p).1 (c p).2 ≤ fl (c q).1 (c q).2 ∧ ce (c p).1 (c p).2 ≤ ce (c q).1 (c q).2 := fun p q hp hq h => by
    unfold bef at h
    simp only [decide_eq_true_eq] at h
    exact fl_mono (h31 p hp) (h31 q hq) h
  -- the least and the greatest
  have ea : fl (c i).1 (c i).2 = loA y0 x0 x1 := by
    have h1 := (box_lo (x := (c i).1) (y := (c i).2) hx0 (by have := hin i hi; omega) (by have := hin i hi; omega) d3 d4 d5).1
    have h2 : fl (c i).1 (c i).2 ≤ loA y0 x0 x1 := by
      unfold loA
      split
      · obtain ⟨m, hm, em⟩ := hmem x1 y0 (.inr rfl) (.inl rfl)
        have := (mono i m hi hm (mi m hm)).1
        rw [em] at this; exact this
      · obtain ⟨m, hm, em⟩ := hmem x0 y0 (.inl rfl) (.inl rfl)
        have := (mono i m hi hm (mi m hm)).1
        rw [em] at this; exact this
    omega
  have eb : ce (c k).1 (c k).2 = hiA y1 x0 x1 := by
    have h1 := (box_lo (x := (c k).1) (y := (c k).2) hx0 (by have := hin k hk; omega) (by have := hin k hk; omega) d3 d4 d5).2
    have h2 : hiA y1 x0 x1 ≤ ce (c k).1 (c k).2 := by
      unfold hiA
      split
      · obtain ⟨m, hm, em⟩ := hmem x0 y1 (.inl rfl) (.inr rfl)
        have := (mono m k hm hk (mk m hm)).2
        rw [em] at this; exact this
      · obtain ⟨m, hm, em⟩ := hmem x1 y1 (.inr rfl) (.inr rfl)
        have := (mono m k hm hk (mk m hm)).2
        rw [em] at this; exact this
    omega
  have a1 := ang_fwd (x := (c i).1) (y := (c i).2) (hpos i hi) j
  have a2 := ang_fwd (x := (c k).1) (y := (c k).2) (hpos k hk) j
  have hle := (mono i k hi hk (mi k hk)).1
  have f1 := fl_bd (c i).1 (c i).2
  have f2 := fl_bd (c k).1 (c k).2
  unfold bearR
  rw [if_neg (by simp [validB]; omega), if_neg (by rw [ho]; simp), ei, ek, a1.1, a2.1, a2.2, ea]
  rw [ea] at hle f1
  unfold ce at eb f2
  unfold upE
  have hjn : (j : Int) ≤ 3 := by omega
  generalize (if ex (c k).1 (c k).2 = true then (0 : Int) else 1) = u at *
  generalize fl (c k).1 (c k).2 = g at *
  generalize loA y0 x0 x1 = a at *
  generalize hiA y1 x0 x1 = b at *
  rw [← eb]
  simp only [Prod.mk.injEq, true_and, and_true]
  split <;> omega
end Go.Proofs.YtfilgpifiboccaaGreat

import Derived.Test.YtmlmohcghoelkaaT58
import Derived.Test.YtmlmohcghoelkaaT65
namespace Go.Proofs.Ytmlmohcghoelkaa
open SM
/-! The sine's growth up to an eighth of a turn. No walk here. -/
def jG : Jet := jmul jx (hJ 1 (jmul jx jx) 10 jz)
theorem has_G : Has NN (fun n => xR n * hR 1 (xR n * xR n) 10 0) jG := has_x.mul (has_h 1 NN _ _ (has_x.mul has_x) 10 _ _ (has_z NN))
theorem jG1 : jG.b1 ≤ 3 / 5 * th := by decide +kernel
theorem tS_grow (n : Nat) (hn : n < 2700000) : 2 / 5 * th ≤ tS (n + 1) - tS n := by
  have h := has_G.h1 n (by unfold NN; omega)
  have h1 := jG1
  have hx : xR (n + 1) - xR n = th := by
    unfold xR
    rw [Rat.natCast_add]
    have : ((1 : Nat) : Rat) = 1 := rfl
    rw [this]
    grind
  have e : tS (n + 1) - tS n = th - d1 (fun n => xR n * hR 1 (xR n * xR n) 10 0) n := by
    unfold tS d1
    rw [← hx]
    grind
  rw [e]
  unfold Wit at h
  generalize d1 (fun n => xR n * hR 1 (xR n * xR n) 10 0) n = D at *
  grind
theorem T_grow (n : Nat) (hn : n < 2700000) : 2 / 5 * th ≤ T (n + 1) - T n := by
  unfold T
  rw [if_pos (by omega), if_pos (by omega)]
  exact tS_grow n hn
end Go.Proofs.Ytmlmohcghoelkaa
namespace Go.Proofs.Ytmlmohcghoelkaa
open SM
/-! ArctrigDirections' plain law: the direction of an angle is the angle. No walk here. -/
theorem lob_congr {m n : Int} (h : m % 21600000 = n % 21600000) : lob m = lob n ∧ hib m = hib n := by
  have e1 : red m = red n := by unfold red; rw [h]
  have e2 : south m = south n := by unfold south; rw [h]
  unfold lob hib
  rw [e1, e2]
  exact ⟨rfl, rfl⟩
theorem lob_half (n : Int) : lob (n + 10800000) = - hib n ∧ hib (n + 10800000) = - lob n := by
  have a0 := Int.emod_nonneg (n + 10800000) (show (21600000 : Int) ≠ 0 by omega)
  have a1 := Int.emod_lt_of_pos (n + 10800000) (show (0 : Int) < 21600000 by omega)
  have b0 := Int.emod_nonneg n (show (21600000 : Int) ≠ 0 by omega)
  have b1 := Int.emod_lt_of_pos n (show (0 : Int) < 21600000 by omega)
  have hs : (n + 10800000) % 21600000 = n % 21600000 + 10800000 ∨ (n + 10800000) % 21600000 + 10800000 = n % 21600000 := by omega
  have hr : red (n + 10800000) = red n := by
    unfold red
    generalize (n + 10800000) % 21600000 = p at *
    generalize n % 21600000 = q at *
    simp only
    repeat' split
    all_goals omega
  have hz : south (n + 10800000) = ! south n ∨ (exa (red n) = true ∧ flo (red n) = 0) := by
    by_cases h : n % 21600000 = 0 ∨ n % 21600000 = 10800000
    · right
      have : red n = 0 := by
        unfold red
        generalize n % 21600000 = q at *
        simp only
        repeat' split
        all_goals omega
      rw [this]; decide
    · left
      unfold south
      generalize (n + 10800000) % 21600000 = p at *
      generalize n % 21600000 = q at *
      by_cases h2 : 10800000 < q
      · rw [decide_eq_true h2, decide_eq_false (by omega)]; rfl
      · rw [decide_eq_false h2, decide_eq_true (by omega)]; rfl
  unfold lob hib upf
  rw [hr]
  rcases hz with h | ⟨h, h2⟩
  · rw [h]
    cases south n <;> simp
  · rw [h, h2]
    simp only [reduceIte]
    constructor <;> (repeat' split) <;> rfl
theorem dir_box (n : Int) : ∃ (j r : Nat), j ≤ 3 ∧ r < 5400000 ∧ n % 21600000 = 5400000 * j + r ∧
    rbox (lob n) (hib n) (lob (n + 5400000)) (hib (n + 5400000)) j = ((flo r : Int), upf r, (flo (5400000 - r) : Int), upf (5400000 - r)) := by
  have b0 := Int.emod_nonneg n (show (21600000 : Int) ≠ 0 by omega)
  have b1 := Int.emod_lt_of_pos n (show (0 : Int) < 21600000 by omega)
  refine ⟨(n % 21600000 / 5400000).toNat, (n % 21600000 % 5400000).toNat, by omega, by omega, by omega, ?_⟩
  obtain ⟨r, hr⟩ : ∃ r : Int, n % 21600000 % 5400000 = r := ⟨_, rfl⟩
  have hr0 : 0 ≤ r ∧ r < 5400000 := by omega
  have p1 := at_pos r (by omega) (by omega)
  have p2 := at_pos (5400000 - r) (by omega) (by omega)
  have s1 := lob_sym r
  have t1 : (5400000 - r).toNat = 5400000 - r.toNat := by omega
  rw [t1] at p2
  rw [hr, ← p1.1, ← p1.2, ← p2.1, ← p2.2]
  rcases (show n % 21600000 / 5400000 = 0 ∨ n % 21600000 / 5400000 = 1 ∨ n % 21600000 / 5400000 = 2 ∨ n % 21600000 / 5400000 = 3 by omega) with h | h | h | h
  · rw [h]
    have c1 := lob_congr (m := n) (n := r) (by omega)
    have c2 := lob_congr (m := n + 5400000) (n := r + 5400000) (by omega)
    show (lob n, hib n, lob (n + 5400000), hib (n + 5400000)) = _
    rw [c1.1, c1.2, c2.1, c2.2, s1.1, s1.2]
  · rw [h]
    have c1 := lob_congr (m := n) (n := r + 5400000) (by omega)
    have c2 := lob_congr (m := n + 5400000) (n := r + 10800000) (by omega)
    have hh := lob_half r
    show (-hib (n + 5400000), -lob (n + 5400000), lob n, hib n) = _
    rw [c1.1, c1.2, c2.1, c2.2, s1.1, s1.2, hh.1, hh.2, Int.neg_neg, Int.neg_neg]
  · rw [h]
    have c1 := lob_congr (m := n) (n := r + 10800000) (by omega)
    have c2 := lob_congr (m := n + 5400000) (n := r + 5400000 + 10800000) (by omega)
    have hh := lob_half r
    have hh2 := lob_half (r + 5400000)
    show (-hib n, -lob n, -hib (n + 5400000), -lob (n + 5400000)) = _
    rw [c1.1, c1.2, c2.1, c2.2, hh.1, hh.2, hh2.1, hh2.2, s1.1, s1.2, Int.neg_neg, Int.neg_neg, Int.neg_neg, Int.neg_neg]
  · rw [h]
    have c1 := lob_congr (m := n) (n := r + 5400000 + 10800000) (by omega)
    have c2 := lob_congr (m := n + 5400000) (n := r) (by omega)
    have hh2 := lob_half (r + 5400000)
    show (lob (n + 5400000), hib (n + 5400000), -hib n, -lob n) = _
    rw [c1.1, c1.2, c2.1, c2.2, hh2.1, hh2.2, s1.1, s1.2, Int.neg_neg, Int.neg_neg]
end Go.Proofs.Ytmlmohcghoelkaa
namespace Go.Proofs.Ytmlmohcghoelkaa
open SM
/-! ArctrigDirections' plain law: the inequalities. No walk here. -/
def KR : Rat := 1 / 1073741824
def dl : Rat := 1 / 70000000000000000
/-- The floor and the ceiling of a sine, in units. -/
theorem flo_bd (k : Nat) (hk : k ≤ 5400000) : (flo k : Rat) * KR ≤ T k + dl ∧ T k ≤ (flo k : Rat) * KR + KR ∧ T k ≤ ((upf k : Int) : Rat) * KR + dl ∧ ((upf k : Int) : Rat) * KR ≤ T k + KR := by
  cases hx : exa k
  · obtain ⟨g1, g2⟩ := gap k hk hx
    have hu : ((upf k : Int) : Rat) = (flo k : Rat) + 1 := by
      unfold upf; rw [hx]; simp only [Bool.false_eq_true, reduceIte]
      rw [Rat.intCast_add, Rat.intCast_natCast]; rfl
    rw [hu]
    unfold G86 at g1 g2
    unfold KR dl
    generalize (flo k : Rat) = f at *
    refine ⟨?_, ?_, ?_, ?_⟩ <;> grind
  · have g := at_exact k hk hx
    have hu : ((upf k : Int) : Rat) = (flo k : Rat) := by
      unfold upf; rw [hx]; simp only [reduceIte]
      rw [Rat.intCast_natCast]
    rw [hu]
    unfold Wit G86 at g
    unfold KR dl
    generalize (flo k : Rat) = f at *
    refine ⟨?_, ?_, ?_, ?_⟩ <;> grind
theorem T_mid : 7 / 10 ≤ T 2700000 := by
  have g := (gap 2700000 (by omega) (by decide)).1
  have f : flo 2700000 = 759250124 := by decide +kernel
  have c : ((759250124 : Nat) : Rat) = 759250124 := rfl
  rw [f, c] at g
  unfold G86 at g
  grind
theorem T_mono {j k : Nat} (h : j ≤ k) (hk : k ≤ 5400000) : T j ≤ T k := by
  rcases Nat.eq_or_lt_of_le h with e | e
  · subst e; exact Rat.le_refl
  · have := T_lt e hk; grind
/-- One step's growth of the cross product of sines and cosines. -/
theorem cross_step (q : Nat) (hq : q < 5400000) : 1 / 5 * th ≤ T (5400000 - q) * T (q + 1) - T q * T (5400000 - (q + 1)) := by
  have b1 := T_le_one q (by omega)
  have b2 := T_le_one (5400000 - (q + 1)) (by omega)
  have m := T_mid
  have hth : 0 ≤ th := by unfold th pi96; grind
  have g1 : 0 ≤ T (q + 1) - T q := by have := T_mono (j := q) (k := q + 1) (by omega) (by omega); grind
  have g2 : 0 ≤ T (5400000 - q) - T (5400000 - (q + 1)) := by have := T_mono (j := 5400000 - (q + 1)) (k := 5400000 - q) (by omega) (by omega); grind
  have e : T (5400000 - q) * T (q + 1) - T q * T (5400000 - (q + 1)) = T (5400000 - q) * (T (q + 1) - T q) + T q * (T (5400000 - q) - T (5400000 - (q + 1))) := by grind
  rw [e]
  rcases Nat.lt_or_ge q 2700000 with h | h
  · have h1 := T_grow q h
    have h2 : 7 / 10 ≤ T (5400000 - q) := by have := T_mono (j := 2700000) (k := 5400000 - q) (by omega) (by omega); grind
    have p1 := Rat.mul_nonneg (show 0 ≤ T (5400000 - q) - 7 / 10 by grind) g1
    have p2 := Rat.mul_nonneg b1.1 g2
    grind
  · have h1 := T_grow (5400000 - (q + 1)) (by omega)
    rw [show 5400000 - (q + 1) + 1 = 5400000 - q by omega] at h1
    have h2 : 7 / 10 ≤ T q := by have := T_mono (j := 2700000) (k := q) (by omega) (by omega); grind
    have p1 := Rat.mul_nonneg (show 0 ≤ T q - 7 / 10 by grind) g2
    have p2 := Rat.mul_nonneg (show 0 ≤ T (5400000 - q) by have := T_le_one (5400000 - q) (by omega); exact this.1) g1
    grind
end Go.Proofs.Ytmlmohcghoelkaa
namespace Go.Proofs.Ytmlmohcghoelkaa
open SM
theorem cast_lt {a b : Nat} {p : Rat} (hp : 0 ≤ p) (h : (a : Rat) * p < (b : Rat) * p) : a < b := by
  rcases Nat.lt_or_ge a b with h1 | h1
  · exact h1
  · exfalso
    have h2 : ((b : Nat) : Rat) ≤ ((a : Nat) : Rat) := Rat.natCast_le_natCast.2 h1
    have := Rat.mul_le_mul_of_nonneg_right h2 hp
    grind
/-- The test, told by the sines themselves. -/
theorem reaB_T {X Y q : Nat} (hX : X ≤ 2147483648) (hY : Y ≤ 2147483648) (hq : q ≤ 5400000) :
    ((T q + epN) * ((X : Rat) * KR) ≤ (T (5400000 - q) - epN) * ((Y : Rat) * KR) → reaB X Y q = true) ∧
    ((T (5400000 - q) + epN) * ((Y : Rat) * KR) < (T q - epN) * ((X : Rat) * KR) → reaB X Y q = false) := by
  have hK : 0 ≤ KR := by unfold KR; grind
  have x0 : (0 : Rat) ≤ (X : Rat) * KR := Rat.mul_nonneg (by exact_mod_cast Nat.zero_le _) hK
  have y0 : (0 : Rat) ≤ (Y : Rat) * KR := Rat.mul_nonneg (by exact_mod_cast Nat.zero_le _) hK
  have he : 0 ≤ epN := by unfold epN; grind
  have b1 := T_le_one q hq
  have b2 := T_le_one (5400000 - q) (by omega)
  by_cases q0 : q = 0
  · subst q0
    refine ⟨fun _ => reaB_zero X Y, fun h => ?_⟩
    exfalso
    have z : T 0 = 0 := by unfold T tS xR; rw [if_pos (by omega)]; have : ((0 : Nat) : Rat) = 0 := rfl; rw [this]; grind
    have p1 := Rat.mul_nonneg (show 0 ≤ T (5400000 - 0) + epN by grind) y0
    have p2 := Rat.mul_nonneg he x0
    rw [z] at h
    grind
  by_cases q2 : q = 2700000
  · subst q2
    have m := T_mid
    rw [show 5400000 - 2700000 = 2700000 by omega]
    generalize T 2700000 = t at *
    refine ⟨fun h => (reaB_mid X Y).2 ?_, fun h => ?_⟩
    · rcases Nat.lt_or_ge Y X with h1 | h1
      · exfalso
        have h2 : ((Y + 1 : Nat) : Rat) ≤ ((X : Nat) : Rat) := Rat.natCast_le_natCast.2 h1
        rw [Rat.natCast_add] at h2
        have c1 : ((1 : Nat) : Rat) = 1 := rfl
        rw [c1] at h2
        have h3 := Rat.mul_le_mul_of_nonneg_right h2 hK
        have p1 := Rat.mul_nonneg (show 0 ≤ t + epN by grind) (show 0 ≤ (X : Rat) * KR - ((Y : Rat) + 1) * KR by grind)
        have p2 := Rat.mul_nonneg he y0
        have p3 : 0 < (t + epN) * KR := Rat.mul_pos (by grind) (by unfold KR; grind)
        grind
      · exact h1
    · have : ¬ X ≤ Y := fun h1 => by
        have h2 : ((X : Nat) : Rat) ≤ ((Y : Nat) : Rat) := Rat.natCast_le_natCast.2 h1
        have h3 := Rat.mul_le_mul_of_nonneg_right h2 hK
        have p1 := Rat.mul_nonneg (show 0 ≤ t + epN by grind) (show 0 ≤ (Y : Rat) * KR - (X : Rat) * KR by grind)
        have p2 := Rat.mul_nonneg he x0
        grind
      cases hb : reaB X Y 2700000
      · rfl
      · exact absurd ((reaB_mid X Y).1 hb) this
  obtain ⟨e1, e2⟩ := sinN_err q hq
  have hU := epU_pos.1
  have hUK : 0 ≤ epU * KR := Rat.mul_nonneg hU hK
  unfold Wit at e1 e2
  have r1 : ((sinN q * X : Nat) : Rat) * (epU * KR) = (sinN q : Rat) * epU * ((X : Rat) * KR) := by rw [Rat.natCast_mul]; grind
  have r2 : ((cosN q * Y : Nat) : Rat) * (epU * KR) = (cosN q : Rat) * epU * ((Y : Rat) * KR) := by rw [Rat.natCast_mul]; grind
  have s1 := Rat.mul_nonneg (show 0 ≤ T q + epN - (sinN q : Rat) * epU by grind) x0
  have s2 := Rat.mul_nonneg (show 0 ≤ (sinN q : Rat) * epU - (T q - epN) by grind) x0
  have s3 := Rat.mul_nonneg (show 0 ≤ T (5400000 - q) + epN - (cosN q : Rat) * epU by grind) y0
  have s4 := Rat.mul_nonneg (show 0 ≤ (cosN q : Rat) * epU - (T (5400000 - q) - epN) by grind) y0
  refine ⟨fun h => (reaB_iff hX hY q0 q2 hq).2 ?_, fun h => ?_⟩
  · rcases Nat.lt_or_ge (cosN q * Y) (sinN q * X) with h1 | h1
    · exfalso
      have hUK2 : 0 < epU * KR := Rat.mul_pos (by unfold epU; grind) (by unfold KR; grind)
      have h2 : ((cosN q * Y : Nat) : Rat) < ((sinN q * X : Nat) : Rat) := Rat.natCast_lt_natCast.2 h1
      have h3 := Rat.mul_lt_mul_of_pos_right h2 hUK2
      rw [r1, r2] at h3
      grind
    · exact h1
  · have h1 : cosN q * Y < sinN q * X := by
      apply cast_lt hUK
      rw [r1, r2]
      grind
    cases hb : reaB X Y q
    · rfl
    · have := (reaB_iff hX hY q0 q2 hq).1 hb
      omega
end Go.Proofs.Ytmlmohcghoelkaa
namespace Go.Proofs.Ytmlmohcghoelkaa
open SM
def upN (k : Nat) : Nat := flo k + if exa k then 0 else 1
theorem upN_eq (k : Nat) : (upN k : Int) = upf k := by unfold upN upf; split <;> simp
theorem upN_bd (k : Nat) (hk : k ≤ 5400000) : upN k ≤ 2147483648 ∧ flo k ≤ 2147483648 := by
  have := flo_le k hk
  unfold upN
  split <;> omega
theorem flo_bdN (k : Nat) (hk : k ≤ 5400000) : (flo k : Rat) * KR ≤ T k + dl ∧ T k ≤ (flo k : Rat) * KR + KR ∧ T k ≤ (upN k : Rat) * KR + dl ∧ (upN k : Rat) * KR ≤ T k + KR := by
  have h := flo_bd k hk
  rw [← upN_eq, Rat.intCast_natCast] at h
  exact h
def gm : Rat := 1 / 5000000000000000
/-- Where the sine is not exact its floor and its ceiling are apart from it. -/
theorem flo_gap (k : Nat) (hk : k ≤ 5400000) (hx : exa k = false) : (flo k : Rat) * KR + gm ≤ T k ∧ T k + gm ≤ (upN k : Rat) * KR := by
  obtain ⟨g1, g2⟩ := gap k hk hx
  have hu : (upN k : Rat) = (flo k : Rat) + 1 := by
    unfold upN; rw [hx]; simp only [Bool.false_eq_true, reduceIte]
    rw [Rat.natCast_add]; rfl
  rw [hu]
  unfold G86 at g1 g2
  unfold KR gm
  generalize (flo k : Rat) = f at *
  constructor <;> grind
theorem thK : 1 / 20000000 ≤ 1 / 5 * th := by unfold th pi96; grind
theorem F_lt {X Y q : Nat} (hX0 : 0 < X) (hX : X ≤ 2147483648) (hY : Y ≤ 2147483648) (h : reaB X Y q = false) : F X Y < q := by
  rcases Nat.lt_or_ge (F X Y) q with h1 | h1
  · exact h1
  · exfalso
    obtain ⟨a, b, c⟩ := F_spec X Y
    have := reaB_mono (j := q) (k := F X Y) hX0 hX hY hX hY (by rw [Nat.mul_comm]; exact Nat.le_refl _) h1 (by omega) b
    rw [h] at this; cases this
theorem dir_a (r : Nat) (hr : r < 5400000) (h0 : 0 < upN (5400000 - r)) : F (upN (5400000 - r)) (flo r) ≤ r := by
  rcases Nat.eq_or_lt_of_le (show r + 1 ≤ 5400000 by omega) with e | e
  · have := (F_spec (upN (5400000 - r)) (flo r)).1; omega
  · have hc := cross_step r hr
    have ht := thK
    have f1 := flo_bdN r (by omega)
    have f2 := flo_bdN (5400000 - r) (by omega)
    have b1 := T_le_one (r + 1) (by omega)
    have b2 := T_le_one (5400000 - (r + 1)) (by omega)
    have b3 := T_le_one r (by omega)
    have b4 := T_le_one (5400000 - r) (by omega)
    have hb := (reaB_T (X := upN (5400000 - r)) (Y := flo r) (q := r + 1) (upN_bd _ (by omega)).1 (upN_bd _ (by omega)).2 (by omega)).2 (by
      have s1 := Rat.mul_nonneg (show 0 ≤ T (5400000 - (r + 1)) + epN by unfold epN; grind) (show 0 ≤ T r + dl - (flo r : Rat) * KR by grind)
      have s2 : 0 ≤ (T (r + 1) - epN) * ((upN (5400000 - r) : Rat) * KR - (T (5400000 - r) - dl)) := Rat.mul_nonneg (by
        have := T_lt (j := r) (k := r + 1) (by omega) (by omega)
        unfold epN; grind) (by grind)
      generalize (flo r : Rat) * KR = y at *
      generalize (upN (5400000 - r) : Rat) * KR = x at *
      generalize T (5400000 - (r + 1)) = u' at *
      generalize T (r + 1) = t' at *
      generalize T r = t at *
      generalize T (5400000 - r) = u at *
      have k1 := Rat.mul_nonneg (show (0 : Rat) ≤ epN by unfold epN; grind) (show 0 ≤ 1 - t by grind)
      have k2 := Rat.mul_nonneg (show (0 : Rat) ≤ epN by unfold epN; grind) (show 0 ≤ 1 - u by grind)
      have k3 := Rat.mul_nonneg (show (0 : Rat) ≤ dl by unfold dl; grind) (show 0 ≤ 1 - u' by grind)
      have k4 := Rat.mul_nonneg (show (0 : Rat) ≤ dl by unfold dl; grind) (show 0 ≤ 1 - t' by grind)
      unfold epN dl at *
      grind)
    have := F_lt h0 (upN_bd _ (by omega)).1 (upN_bd _ (by omega)).2 hb
    omega
theorem dir_c1 (r : Nat) (hr : r < 5400000) (h0 : 0 < upN (5400000 - r)) : r ≤ F (upN (5400000 - r)) (flo r) + 1 := by
  rcases Nat.eq_zero_or_pos r with e | e
  · omega
  obtain ⟨q, rfl⟩ : ∃ q, r = q + 1 := ⟨r - 1, by omega⟩
  have hc := cross_step q (by omega)
  have ht := thK
  have f1 := flo_bdN (q + 1) (by omega)
  have f2 := flo_bdN (5400000 - (q + 1)) (by omega)
  have b1 := T_le_one q (by omega)
  have b2 := T_le_one (5400000 - q) (by omega)
  have b3 := T_le_one (q + 1) (by omega)
  have b4 := T_le_one (5400000 - (q + 1)) (by omega)
  have hb := (reaB_T (X := upN (5400000 - (q + 1))) (Y := flo (q + 1)) (q := q) (upN_bd _ (by omega)).1 (upN_bd _ (by omega)).2 (by omega)).1 (by
    have hu : 0 ≤ T (5400000 - q) - epN := by
      have := T_lt (j := 5400000 - (q + 1)) (k := 5400000 - q) (by omega) (by omega)
      unfold epN; grind
    have s1 := Rat.mul_nonneg (show 0 ≤ T q + epN by unfold epN; grind) (show 0 ≤ T (5400000 - (q + 1)) + KR - (upN (5400000 - (q + 1)) : Rat) * KR by grind)
    have s2 := Rat.mul_nonneg hu (show 0 ≤ (flo (q + 1) : Rat) * KR - (T (q + 1) - KR) by grind)
    generalize (flo (q + 1) : Rat) * KR = y at *
    generalize (upN (5400000 - (q + 1)) : Rat) * KR = x at *
    generalize T (5400000 - (q + 1)) = u' at *
    generalize T (q + 1) = t' at *
    generalize T q = t at *
    generalize T (5400000 - q) = u at *
    have k1 := Rat.mul_nonneg (show (0 : Rat) ≤ epN by unfold epN; grind) (show 0 ≤ 1 - t' by grind)
    have k2 := Rat.mul_nonneg (show (0 : Rat) ≤ epN by unfold epN; grind) (show 0 ≤ 1 - u' by grind)
    have k3 := Rat.mul_nonneg (show (0 : Rat) ≤ KR by unfold KR; grind) (show 0 ≤ 1 - t by grind)
    have k4 := Rat.mul_nonneg (show (0 : Rat) ≤ KR by unfold KR; grind) (show 0 ≤ 1 - u by grind)
    unfold epN KR at *
    grind)
  have := F_ge h0 (upN_bd _ (by omega)).1 (upN_bd _ (by omega)).2 (by omega) hb
  omega
theorem dir_c2 (r : Nat) (hr : r < 5400000) (h0 : 0 < flo (5400000 - r)) : C (flo (5400000 - r)) (upN r) ≤ r + 2 := by
  have hC : C (flo (5400000 - r)) (upN r) ≤ F (flo (5400000 - r)) (upN r) + 1 := by unfold C; split <;> omega
  rcases Nat.lt_or_ge (r + 2) 5400000 with e | e
  · have hc := cross_step r hr
    have ht := thK
    have f1 := flo_bdN r (by omega)
    have f2 := flo_bdN (5400000 - r) (by omega)
    have b1 := T_le_one (r + 2) (by omega)
    have b2 := T_le_one (5400000 - (r + 2)) (by omega)
    have b3 := T_le_one r (by omega)
    have b4 := T_le_one (5400000 - r) (by omega)
    have m1 := T_mono (j := r + 1) (k := r + 2) (by omega) (by omega)
    have m2 := T_mono (j := 5400000 - (r + 2)) (k := 5400000 - (r + 1)) (by omega) (by omega)
    have hb := (reaB_T (X := flo (5400000 - r)) (Y := upN r) (q := r + 2) (upN_bd _ (by omega)).2 (upN_bd _ (by omega)).1 (by omega)).2 (by
      have ht2 : 0 ≤ T (r + 2) - epN := by
        have := T_lt (j := r) (k := r + 2) (by omega) (by omega)
        unfold epN; grind
      have s1 := Rat.mul_nonneg (show 0 ≤ T (5400000 - (r + 2)) + epN by unfold epN; grind) (show 0 ≤ T r + KR - (upN r : Rat) * KR by grind)
      have s2 := Rat.mul_nonneg ht2 (show 0 ≤ (flo (5400000 - r) : Rat) * KR - (T (5400000 - r) - KR) by grind)
      have s3 := Rat.mul_nonneg b4.1 (show 0 ≤ T (r + 2) - T (r + 1) by grind)
      have s4 := Rat.mul_nonneg b3.1 (show 0 ≤ T (5400000 - (r + 1)) - T (5400000 - (r + 2)) by grind)
      generalize (upN r : Rat) * KR = y at *
      generalize (flo (5400000 - r) : Rat) * KR = x at *
      generalize T (5400000 - (r + 2)) = u2 at *
      generalize T (r + 2) = t2 at *
      generalize T (5400000 - (r + 1)) = u1 at *
      generalize T (r + 1) = t1 at *
      generalize T r = t at *
      generalize T (5400000 - r) = u at *
      have k1 := Rat.mul_nonneg (show (0 : Rat) ≤ epN by unfold epN; grind) (show 0 ≤ 1 - t by grind)
      have k2 := Rat.mul_nonneg (show (0 : Rat) ≤ epN by unfold epN; grind) (show 0 ≤ 1 - u by grind)
      have k3 := Rat.mul_nonneg (show (0 : Rat) ≤ KR by unfold KR; grind) (show 0 ≤ 1 - u2 by grind)
      have k4 := Rat.mul_nonneg (show (0 : Rat) ≤ KR by unfold KR; grind) (show 0 ≤ 1 - t2 by grind)
      unfold epN KR at *
      grind)
    have := F_lt h0 (upN_bd _ (by omega)).2 (upN_bd _ (by omega)).1 hb
    omega
  · have := (F_spec (flo (5400000 - r)) (upN r)).1
    omega
theorem dir_b (r : Nat) (hr : r < 5400000) (h0 : 0 < flo (5400000 - r)) : r ≤ C (flo (5400000 - r)) (upN r) := by
  have hC := (C_bd (flo (5400000 - r)) (upN r)).1
  rcases Nat.eq_zero_or_pos r with e | e
  · omega
  have f1 := flo_bdN r (by omega)
  have f2 := flo_bdN (5400000 - r) (by omega)
  have b3 := T_le_one r (by omega)
  have b4 := T_le_one (5400000 - r) (by omega)
  have hm : 7 / 10 ≤ T r ∨ 7 / 10 ≤ T (5400000 - r) := by
    have m := T_mid
    rcases Nat.lt_or_ge r 2700000 with h | h
    · right; have := T_mono (j := 2700000) (k := 5400000 - r) (by omega) (by omega); grind
    · left; have := T_mono (j := 2700000) (k := r) h (by omega); grind
  have hb := (reaB_T (X := flo (5400000 - r)) (Y := upN r) (q := r) (upN_bd _ (by omega)).2 (upN_bd _ (by omega)).1 (by omega)).1 (by
    have key : (T r + epN) * ((flo (5400000 - r) : Rat) * KR) ≤ (T (5400000 - r) - epN) * ((upN r : Rat) * KR) := by
      have ex3 : ∀ k : Nat, exa k = true → k = 0 ∨ k = 1800000 ∨ k = 5400000 := fun k h => by
        simp only [exa, Bool.or_eq_true, beq_iff_eq] at h; omega
      have hu : 0 ≤ T (5400000 - r) - epN := by
        have z := T_lt (j := 0) (k := 5400000 - r) (by omega) (by omega)
        have := T_le_one 0 (by omega)
        unfold epN; grind
      cases hx : exa r
      · obtain ⟨g1, g2⟩ := flo_gap r (by omega) hx
        cases hy : exa (5400000 - r)
        · obtain ⟨g3, g4⟩ := flo_gap (5400000 - r) (by omega) hy
          have s1 := Rat.mul_nonneg (show 0 ≤ T r + epN by unfold epN; grind) (show 0 ≤ T (5400000 - r) - gm - (flo (5400000 - r) : Rat) * KR by grind)
          have s2 := Rat.mul_nonneg hu (show 0 ≤ (upN r : Rat) * KR - (T r + gm) by grind)
          generalize (upN r : Rat) * KR = y at *
          generalize (flo (5400000 - r) : Rat) * KR = x at *
          generalize T r = t at *
          generalize T (5400000 - r) = u at *
          unfold epN gm at *
          rcases hm with hm | hm <;> grind
        · have hr2 : r = 3600000 := by have := ex3 _ hy; omega
          have hh : 1 / 3 ≤ T (5400000 - r) := by
            have f : flo 1800000 = 536870912 := by decide +kernel
            have := f2.1
            rw [hr2] at this ⊢
            rw [show 5400000 - 3600000 = 1800000 by omega] at this ⊢
            rw [f] at this
            have c : ((536870912 : Nat) : Rat) = 536870912 := rfl
            rw [c] at this
            unfold KR dl at this
            grind
          have s1 := Rat.mul_nonneg (show 0 ≤ T r + epN by unfold epN; grind) (show 0 ≤ T (5400000 - r) + dl - (flo (5400000 - r) : Rat) * KR by grind)
          have s2 := Rat.mul_nonneg hu (show 0 ≤ (upN r : Rat) * KR - (T r + gm) by grind)
          generalize (upN r : Rat) * KR = y at *
          generalize (flo (5400000 - r) : Rat) * KR = x at *
          generalize T r = t at *
          generalize T (5400000 - r) = u at *
          unfold epN gm dl at *
          grind
      · have hr2 : r = 1800000 := by have := ex3 _ hx; omega
        have hy : exa (5400000 - r) = false := by rw [hr2]; decide
        obtain ⟨g3, g4⟩ := flo_gap (5400000 - r) (by omega) hy
        have hh : 1 / 3 ≤ T r := by
          have f : flo 1800000 = 536870912 := by decide +kernel
          have := f1.1
          rw [hr2] at this ⊢
          rw [f] at this
          have c : ((536870912 : Nat) : Rat) = 536870912 := rfl
          rw [c] at this
          unfold KR dl at this
          grind
        have s1 := Rat.mul_nonneg (show 0 ≤ T r + epN by unfold epN; grind) (show 0 ≤ T (5400000 - r) - gm - (flo (5400000 - r) : Rat) * KR by grind)
        have s2 := Rat.mul_nonneg hu (show 0 ≤ (upN r : Rat) * KR - (T r - dl) by grind)
        generalize (upN r : Rat) * KR = y at *
        generalize (flo (5400000 - r) : Rat) * KR = x at *
        generalize T r = t at *
        generalize T (5400000 - r) = u at *
        unfold epN gm dl at *
        grind
    exact key)
  have := F_ge h0 (upN_bd _ (by omega)).2 (upN_bd _ (by omega)).1 hr hb
  omega
end Go.Proofs.Ytmlmohcghoelkaa
namespace Go.Proofs.Ytmlmohcghoelkaa
open SM
theorem flo_pos {k : Nat} (h0 : 0 < k) (hk : k ≤ 5400000) : 0 < flo k := by
  have := flo_mono (m := 1) (n := k) h0 hk
  have f : flo 1 = 312 := by decide +kernel
  omega
theorem origin_not {yl yh xl xh : Int} (j : Nat) (h : 0 < (rbox yl yh xl xh j).2.2.1) : originB yl yh xl xh = false := by
  simp only [originB, decide_eq_false_iff_not]
  unfold rbox at h
  split at h <;> simp only at h <;> omega
/-- The direction of the box of a sine and a cosine. -/
theorem dir_plain (n : Int) (h0 : -1099511627776 ≤ n) (h1 : n ≤ 1099511627776) : ∃ s t c d p q : Int, sinR n n = (s, t, 0) ∧ cosR n n = (c, d, 0) ∧ bearR s t c d = (p, q, 0) ∧
    0 ≤ p ∧ p < 21600000 ∧ p ≤ q ∧ q ≤ p + 3 ∧ (n - p) % 21600000 ≤ q - p := by
  have hs := sinR_one n h0 h1
  have hc : cosR n n = (lob (n + 5400000), hib (n + 5400000), 0) := by
    rw [cosR_one n h0 h1, (lob_sym n).1, (lob_sym n).2]
  obtain ⟨j, r, hj, hr, hn, hbox⟩ := dir_box n
  have l1 := lob_hib n
  have l2 := lob_hib (n + 5400000)
  have hX0 := flo_pos (k := 5400000 - r) (by omega) (by omega)
  have hX1 : 0 < upN (5400000 - r) := by unfold upN; omega
  have ho : originB (lob n) (hib n) (lob (n + 5400000)) (hib (n + 5400000)) = false := origin_not j (by rw [hbox]; simp only; omega)
  have hb := bear_str (y0 := flo r) (y1 := upf r) (x0 := flo (5400000 - r)) (x1 := upf (5400000 - r)) (yl := lob n) (yh := hib n) (xl := lob (n + 5400000)) (xh := hib (n + 5400000)) (j := j) (by simp [validB]; omega) (by simp [validB]; omega) ho hj hbox (by omega)
  have eA : loA (flo r : Int) (flo (5400000 - r) : Int) (upf (5400000 - r)) = (F (upN (5400000 - r)) (flo r) : Int) := by
    unfold loA
    rw [if_pos (by omega), ← upN_eq]
    unfold fl
    rw [if_pos (by omega)]
    rfl
  have eB : hiA (upf r) (flo (5400000 - r) : Int) (upf (5400000 - r)) = (C (flo (5400000 - r)) (upN r) : Int) := by
    unfold hiA
    rw [← upN_eq r, if_pos (by omega), ce_eq, if_pos (by omega)]
    rfl
  rw [eA, eB] at hb
  have a1 := dir_a r hr hX1
  have a2 := dir_b r hr hX0
  have a3 := dir_c1 r hr hX1
  have a4 := dir_c2 r hr hX0
  refine ⟨_, _, _, _, _, _, hs, hc, hb, ?_, ?_, ?_, ?_, ?_⟩ <;> omega
end Go.Proofs.Ytmlmohcghoelkaa

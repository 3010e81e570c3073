/-
  What the program's enclosures hold: sines, cosines, haversines, sums, products, arcsines of true values. No program here. Bearing's arc holds the direction of every point of its box, for rational points and angles. No program here.
-/
import Derived.Test.YtfilgpifiboccaaGreatTb3
import Derived.Test.YtfilgpifiboccaaGreatMo
import Derived.Test.YtfilgpifiboccaaGreatNe
namespace Go.Proofs.YtfilgpifiboccaaGreat
namespace TB
open SM TA
theorem i_cast (a b : Int) : ((a + b : Int) : Rat) = (a : Rat) + (b : Rat) := Rat.intCast_add a b
theorem le_c {a b : Int} (h : a ≤ b) : (a : Rat) ≤ (b : Rat) := Rat.intCast_le_intCast.2 h
theorem lt_c {a b : Int} (h : a < b) : (a : Rat) + 1 ≤ (b : Rat) := by
  have := le_c (show a + 1 ≤ b by omega)
  rw [i_cast] at this
  exact this
theorem c_le {a b : Int} (h : (a : Rat) ≤ (b : Rat)) : a ≤ b := Rat.intCast_le_intCast.1 h
theorem of_c {a b : Int} {e : Rat} (h : (a : Rat) ≤ (b : Rat) + e) (he : e < 1) : a ≤ b := by
  rcases Int.lt_or_le b a with q | q
  · have := lt_c q
    grind
  · exact q
/-! ### Integer angles -/
theorem mod_eq (n : Int) : si (n : Rat) = si ((n % 21600000 : Int) : Rat) ∧ co (n : Rat) = co ((n % 21600000 : Int) : Rat) := by
  have e : (n : Rat) = ((n % 21600000 : Int) : Rat) + 21600000 * ((n / 21600000 : Int) : Rat) := by
    have h : ((n % 21600000 + 21600000 * (n / 21600000) : Int) : Rat) = (n : Rat) := by rw [Int.emod_add_mul_ediv]
    rw [i_cast, Rat.intCast_mul] at h
    exact h.symm
  have t := turn_eq ((n % 21600000 : Int) : Rat) (n / 21600000)
  rw [← e] at t
  exact ⟨t.2, t.1⟩
theorem reflq (q : Rat) : Cl (22000 * u0) (si (10800000 - q)) (si q) := by
  have o := (oppq (-q)).2
  have n := (negq q).2.neg
  have u := u0_bd
  rw [show -q + 10800000 = 10800000 - q by grind] at o
  rw [show - -si q = si q by grind] at n
  exact (o.trans n).wide (by grind)
theorem th_near : -(1 / 2 ^ 80) ≤ (tb - th) * 5400000 ∧ (tb - th) * 5400000 ≤ 1 / 2 ^ 80 := by decide +kernel
theorem tail_B : En 652 (8 / 5) - En 100 (8 / 5) ≤ 1 / 2 ^ 100 := by decide +kernel
theorem tail_0 : En 100 (1 / 2 ^ 80) - En 0 (1 / 2 ^ 80) ≤ 1 / 2 ^ 79 := by decide +kernel
/-- The program's polynomial is near. -/
theorem near_TB (k : Nat) (h : k ≤ 5400000) : Cl (1 / 2 ^ 60) (si (k : Rat)) (T k) := by
  have n := near_T k h
  have k0 : (0 : Rat) ≤ (k : Rat) := by exact_mod_cast Nat.zero_le k
  have k1 : (k : Rat) ≤ 5400000 := by
    have : (k : Rat) ≤ ((5400000 : Nat) : Rat) := by exact_mod_cast h
    exact this
  have e : rd (k : Int) = (k : Int) := by unfold rd; omega
  have ek : ((k : Int) : Rat) = (k : Rat) := rfl
  have es : si (k : Rat) = Sn 652 (tb * (k : Rat)) := by
    unfold si
    rw [rdq_id (by grind) (by grind)]
    rfl
  have eq : sinQ (k : Int) = Sn 100 (th * (k : Rat)) := by
    unfold sinQ
    rw [e, ek]
  have x := tb_q k0 k1
  have a := tailS 100 552 652 rfl (x := tb * (k : Rat)) (X := 8 / 5) (by grind) x.2 tail_B
  have t := th_near
  have t0 := th_bd
  have d : -(1 / 2 ^ 80) ≤ (tb - th) * (k : Rat) ∧ (tb - th) * (k : Rat) ≤ 1 / 2 ^ 80 := by
    have z : (0 : Rat) ≤ 1 / 2 ^ 80 := by decide +kernel
    have e : (tb - th) * (k : Rat) * 5400000 = (tb - th) * 5400000 * (k : Rat) := by grind
    have m1 := Rat.mul_nonneg (show 0 ≤ 1 / 2 ^ 80 - (tb - th) * 5400000 by grind) k0
    have m2 := Rat.mul_nonneg (show 0 ≤ 1 / 2 ^ 80 + (tb - th) * 5400000 by grind) k0
    have m3 := Rat.mul_nonneg z (show 0 ≤ 5400000 - (k : Rat) by grind)
    generalize (tb - th) * (k : Rat) = y at *
    constructor <;> grind
  have hy : -(32 / 5) ≤ (tb - th) * (k : Rat) ∧ (tb - th) * (k : Rat) ≤ 32 / 5 := by constructor <;> grind
  have hx : -(32 / 5) ≤ th * (k : Rat) ∧ th * (k : Rat) ≤ 32 / 5 := by
    have : th * (k : Rat) = tb * (k : Rat) - (tb - th) * (k : Rat) := by grind
    rw [this]
    constructor <;> grind
  have ad := (addition 100 (x := th * (k : Rat)) (y := (tb - th) * (k : Rat)) (X := 32 / 5) hx.1 hx.2 hy.1 hy.2).2
  have r := rest_100
  have b := part_bd hx.1 hx.2
  have c := tailC 0 100 100 rfl (x := (tb - th) * (k : Rat)) (X := 1 / 2 ^ 80) d.1 d.2 tail_0
  have s := tailS 0 100 100 rfl (x := (tb - th) * (k : Rat)) (X := 1 / 2 ^ 80) d.1 d.2 tail_0
  have c0 : Cn 0 ((tb - th) * (k : Rat)) = 1 := by simp [Cn, sm, sc, P]; grind
  have s0 : Sn 0 ((tb - th) * (k : Rat)) = 0 := by simp [Sn, sm, ss, P]; grind
  rw [c0] at c
  rw [s0] at s
  rw [show th * (k : Rat) + (tb - th) * (k : Rat) = tb * (k : Rat) by grind] at ad
  have m1 := near_mul b.2 (c := Cn 100 ((tb - th) * (k : Rat)) - 1) (k := 1 / 2 ^ 79) ⟨by grind, by grind⟩
  have m2 := near_mul b.1 (c := Sn 100 ((tb - th) * (k : Rat)) - 0) (k := 1 / 2 ^ 79) ⟨by grind, by grind⟩
  rw [eq] at n
  rw [es]
  unfold Cl
  clear b c s d hx hy x t t0
  generalize Sn 100 (th * (k : Rat)) = A at *
  generalize Cn 100 (th * (k : Rat)) = B at *
  generalize Cn 100 ((tb - th) * (k : Rat)) = D at *
  generalize Sn 100 ((tb - th) * (k : Rat)) = E at *
  generalize Sn 100 (tb * (k : Rat)) = F at *
  generalize Sn 652 (tb * (k : Rat)) = G at *
  generalize rest 100 (32 / 5) = R at *
  constructor <;> grind
/-- One times the sine, and the cosine. -/
def Sq (q : Rat) : Rat := 1073741824 * si q
def Cq (q : Rat) : Rat := 1073741824 * co q
theorem big_e : 1073741824 * 1048576 * e0 ≤ e1 := by decide +kernel
theorem flo_B (k : Nat) (hk : k ≤ 5400000) : (flo k : Rat) - e1 ≤ Sq (k : Rat) ∧ Sq (k : Rat) ≤ (upf k : Rat) + e1 := by
  have g : G86 = 77371252455336267181195264 := rfl
  have eb := e1_bd
  unfold Sq
  cases hx : exa k with
  | false =>
    have n := near_TB k hk
    have e : ((upf k : Int) : Rat) = (flo k : Rat) + 1 := by
      unfold upf
      rw [hx]
      show (((flo k : Int) + 1 : Int) : Rat) = _
      rw [Rat.intCast_add]
      rfl
    have p := gap k hk hx
    rw [g] at p
    rw [e]
    unfold Cl at n
    generalize si (k : Rat) = s at *
    generalize T k = t at *
    generalize (flo k : Rat) = f at *
    constructor <;> grind
  | true =>
    have e : ((upf k : Int) : Rat) = (flo k : Rat) := by
      unfold upf
      rw [hx]
      rfl
    rw [e]
    have h0 : k = 0 ∨ k = 1800000 ∨ k = 5400000 := by
      unfold exa at hx
      simp only [Bool.or_eq_true, beq_iff_eq] at hx
      omega
    have f0 : ((flo 0 : Nat) : Rat) = 0 := rfl
    have f1 : ((flo 1800000 : Nat) : Rat) = 536870912 := rfl
    have f2 : ((flo 5400000 : Nat) : Rat) = 1073741824 := rfl
    have u := u0_bd
    have ee : e0 = 1048576 * u0 := rfl
    have be := big_e
    rcases h0 with rfl | rfl | rfl
    · rw [f0, show ((0 : Nat) : Rat) = 0 by rfl, si_0]
      constructor <;> grind
    · have x := third_B
      have y : si ((1800000 : Nat) : Rat) = Sn 652 (tb * 1800000) := by
        unfold si
        rw [show ((1800000 : Nat) : Rat) = 1800000 by rfl, rdq_id (by grind) (by grind)]
        rfl
      rw [f1, y]
      generalize Sn 652 (tb * 1800000) = s at *
      constructor <;> grind
    · have x := quartq.2
      rw [f2, show ((5400000 : Nat) : Rat) = 5400000 by rfl]
      unfold Cl at x
      generalize si 5400000 = s at *
      constructor <;> grind
theorem red_B (n : Int) : (south n = false → Cl e0 (si (n : Rat)) (si (red n : Rat))) ∧ (south n = true → Cl e0 (si (n : Rat)) (-si (red n : Rat))) := by
  have ee : e0 = 1048576 * u0 := rfl
  have u := u0_bd
  have cast : ∀ (m : Int) (k : Nat), (k : Int) = m → (k : Rat) = (m : Rat) := fun m k h => by subst h; rfl
  unfold south red
  have m0 := Int.emod_nonneg n (show (21600000 : Int) ≠ 0 by omega)
  have m1 := Int.emod_lt_of_pos n (show (0 : Int) < 21600000 by omega)
  rw [(mod_eq n).1]
  generalize n % 21600000 = m at *
  have z1 : ((10800000 : Int) : Rat) = 10800000 := rfl
  have z2 : ((21600000 : Int) : Rat) = 21600000 := rfl
  constructor
  · intro h
    have h := of_decide_eq_false h
    dsimp only
    by_cases c : m ≤ 5400000
    · rw [if_pos c, cast m _ (by omega)]
      exact Cl.refl _ (by grind)
    · rw [if_neg c, if_pos (by omega), cast (10800000 - m) _ (by omega), Rat.intCast_sub, z1]
      exact (reflq _).symm.wide (by grind)
  · intro h
    have h := of_decide_eq_true h
    dsimp only
    rw [if_neg (by omega), if_neg (by omega)]
    by_cases c : m ≤ 16200000
    · rw [if_pos c, cast (m - 10800000) _ (by omega), Rat.intCast_sub, z1]
      have o := (oppq ((m : Rat) - 10800000)).2
      rw [show (m : Rat) - 10800000 + 10800000 = (m : Rat) by grind] at o
      exact o.wide (by grind)
    · rw [if_neg c, cast (21600000 - m) _ (by omega), Rat.intCast_sub, z2]
      have o := (negq ((21600000 : Rat) - m)).2
      have t := turn_eq (-((21600000 : Rat) - m)) 1
      rw [show ((1 : Int) : Rat) = 1 by rfl, show -((21600000 : Rat) - m) + 21600000 * 1 = (m : Rat) by grind] at t
      rw [← t.2] at o
      exact o.wide (by grind)
/-- **The bounds hold the sine.** -/
theorem lob_B (n : Int) : (lob n : Rat) - 2 * e1 ≤ Sq (n : Rat) ∧ Sq (n : Rat) ≤ (hib n : Rat) + 2 * e1 := by
  have f := flo_B (red n) (red_le n)
  have r := red_B n
  have be := big_e
  have eb := e0_bd
  unfold lob hib
  unfold Sq at *
  cases hs : south n with
  | false =>
    have r := r.1 hs
    simp only [Bool.false_eq_true, if_false]
    have e : (((flo (red n) : Nat) : Int) : Rat) = (flo (red n) : Rat) := rfl
    rw [e]
    unfold Cl at r
    generalize si (n : Rat) = x at *
    generalize si (red n : Rat) = y at *
    generalize (flo (red n) : Rat) = p at *
    generalize (upf (red n) : Rat) = q at *
    constructor <;> grind
  | true =>
    have r := r.2 hs
    simp only [if_true]
    have e : (((flo (red n) : Nat) : Int) : Rat) = (flo (red n) : Rat) := rfl
    rw [Rat.intCast_neg, Rat.intCast_neg, e]
    unfold Cl at r
    generalize si (n : Rat) = x at *
    generalize si (red n : Rat) = y at *
    generalize (flo (red n) : Rat) = p at *
    generalize (upf (red n) : Rat) = q at *
    constructor <;> grind
/-! ### What an interval, and an arc, hold -/
def Hs (e : Rat) (lo hi : Int) (X : Rat) : Prop := (lo : Rat) - e ≤ X ∧ X ≤ (hi : Rat) + e
theorem Hs.wide {e f : Rat} {lo hi lo' hi' : Int} {X : Rat} (h : Hs e lo hi X) (he : e ≤ f) (h1 : lo' ≤ lo) (h2 : hi ≤ hi') : Hs f lo' hi' X := by
  have a := le_c h1
  have b := le_c h2
  unfold Hs at *
  constructor <;> grind
theorem Hs.near {e f : Rat} {lo hi : Int} {X Y : Rat} (h : Hs e lo hi X) (k : Cl f Y X) : Hs (e + f) lo hi Y := by
  unfold Hs Cl at *
  constructor <;> grind
theorem Hs.int {e : Rat} {lo hi n : Int} (he : 0 ≤ e) (h1 : lo ≤ n) (h2 : n ≤ hi) : Hs e lo hi (n : Rat) := by
  have a := le_c h1
  have b := le_c h2
  unfold Hs
  constructor <;> grind
theorem Hs.meet {e f : Rat} {a b c d : Int} {X : Rat} (h : Hs e a b X) (k : Hs f c d X) (he : e + f < 1) : a ≤ d ∧ c ≤ b := by
  unfold Hs at *
  constructor
  · refine of_c (e := e + f) ?_ he; grind
  · refine of_c (e := e + f) ?_ he; grind
theorem Hs.clamp {e : Rat} {a b : Int} {X : Rat} (he : 0 ≤ e) (h : Hs e a b X) (hab : a ≤ b) : ∃ X' : Rat, (a : Rat) ≤ X' ∧ X' ≤ (b : Rat) ∧ Cl e X X' := by
  have q := le_c hab
  unfold Hs at h
  unfold Cl
  by_cases c1 : X ≤ (a : Rat)
  · exact ⟨a, by grind, by grind, by grind, by grind⟩
  · by_cases c2 : (b : Rat) ≤ X
    · exact ⟨b, by grind, by grind, by grind, by grind⟩
    · exact ⟨X, by grind, by grind, by grind, by grind⟩
theorem Hs.neg {e : Rat} {a b : Int} {X : Rat} (h : Hs e a b X) : Hs e (-b) (-a) (-X) := by
  unfold Hs at *
  rw [Rat.intCast_neg, Rat.intCast_neg]
  constructor <;> grind
theorem Hs.add {e f : Rat} {a b c d : Int} {X Y : Rat} (h1 : Hs e a b X) (h2 : Hs f c d Y) : Hs (e + f) (a + c) (b + d) (X + Y) := by
  unfold Hs at *
  rw [Rat.intCast_add, Rat.intCast_add]
  constructor <;> grind
theorem Hs.sub {e f : Rat} {a b c d : Int} {X Y : Rat} (h1 : Hs e a b X) (h2 : Hs f c d Y) : Hs (e + f) (a - d) (b - c) (X - Y) := by
  unfold Hs at *
  rw [Rat.intCast_sub, Rat.intCast_sub]
  constructor <;> grind
/-- Between two whole angles the sine is between theirs. -/
theorem between (q : Rat) : (si ((q.floor : Int) : Rat) ≤ si q + 9 * e0 ∧ si q ≤ si ((q.floor + 1 : Int) : Rat) + 9 * e0) ∨ (si ((q.floor + 1 : Int) : Rat) ≤ si q + 9 * e0 ∧ si q ≤ si ((q.floor : Int) : Rat) + 9 * e0) := by
  have f0 := Rat.floor_le q
  have f1 := Rat.lt_floor_add_one q
  rw [i_cast] at f1 ⊢
  have z : ((1 : Int) : Rat) = 1 := rfl
  rw [z] at f1 ⊢
  generalize q.floor = n at *
  have ee : e0 = 1048576 * u0 := rfl
  have u := u0_bd
  obtain ⟨m, hm⟩ : ∃ m : Int, m = (n + 5400000) / 21600000 := ⟨_, rfl⟩
  have s0 : -5400000 ≤ n - 21600000 * m := by omega
  have s1 : n - 21600000 * m < 16200000 := by omega
  clear hm
  have t1 := (turn_eq q (-m)).2
  have t2 := (turn_eq (n : Rat) (-m)).2
  have t3 := (turn_eq ((n : Rat) + 1) (-m)).2
  have c0 : -5400000 ≤ (n : Rat) - 21600000 * (m : Rat) := by
    have := le_c s0
    rw [Rat.intCast_sub, Rat.intCast_mul] at this
    exact this
  rw [Rat.intCast_neg] at t1 t2 t3
  rw [← t1, ← t2, ← t3]
  have sqa := sq_nn (q - (n : Rat))
  have sqb := sq_nn ((n : Rat) + 1 - q)
  by_cases c : n - 21600000 * m < 5400000
  · left
    have c1 : (n : Rat) - 21600000 * (m : Rat) + 1 ≤ 5400000 := by
      have := lt_c c
      rw [Rat.intCast_sub, Rat.intCast_mul] at this
      exact this
    have g1 := grow (p := (n : Rat) + 21600000 * -(m : Rat)) (q := q + 21600000 * -(m : Rat)) (by grind) (by grind) (by grind)
    have g2 := grow (p := q + 21600000 * -(m : Rat)) (q := (n : Rat) + 1 + 21600000 * -(m : Rat)) (by grind) (by grind) (by grind)
    rw [show q + 21600000 * -(m : Rat) - ((n : Rat) + 21600000 * -(m : Rat)) = q - (n : Rat) by grind] at g1
    rw [show (n : Rat) + 1 + 21600000 * -(m : Rat) - (q + 21600000 * -(m : Rat)) = (n : Rat) + 1 - q by grind] at g2
    generalize si (q + 21600000 * -(m : Rat)) = y at *
    generalize si ((n : Rat) + 21600000 * -(m : Rat)) = y1 at *
    generalize si ((n : Rat) + 1 + 21600000 * -(m : Rat)) = y2 at *
    generalize (q - (n : Rat)) * (q - (n : Rat)) = w1 at *
    generalize ((n : Rat) + 1 - q) * ((n : Rat) + 1 - q) = w2 at *
    constructor <;> grind
  · right
    have c1 : 5400000 ≤ (n : Rat) - 21600000 * (m : Rat) := by
      have := le_c (show 5400000 ≤ n - 21600000 * m by omega)
      rw [Rat.intCast_sub, Rat.intCast_mul] at this
      exact this
    have c2 : (n : Rat) - 21600000 * (m : Rat) + 1 ≤ 16200000 := by
      have := lt_c s1
      rw [Rat.intCast_sub, Rat.intCast_mul] at this
      exact this
    have r1 := reflq (q + 21600000 * -(m : Rat))
    have r2 := reflq ((n : Rat) + 21600000 * -(m : Rat))
    have r3 := reflq ((n : Rat) + 1 + 21600000 * -(m : Rat))
    have g1 := grow (p := 10800000 - (q + 21600000 * -(m : Rat))) (q := 10800000 - ((n : Rat) + 21600000 * -(m : Rat))) (by grind) (by grind) (by grind)
    have g2 := grow (p := 10800000 - ((n : Rat) + 1 + 21600000 * -(m : Rat))) (q := 10800000 - (q + 21600000 * -(m : Rat))) (by grind) (by grind) (by grind)
    rw [show 10800000 - ((n : Rat) + 21600000 * -(m : Rat)) - (10800000 - (q + 21600000 * -(m : Rat))) = q - (n : Rat) by grind] at g1
    rw [show 10800000 - (q + 21600000 * -(m : Rat)) - (10800000 - ((n : Rat) + 1 + 21600000 * -(m : Rat))) = (n : Rat) + 1 - q by grind] at g2
    unfold Cl at r1 r2 r3
    generalize si (10800000 - (q + 21600000 * -(m : Rat))) = z at *
    generalize si (10800000 - ((n : Rat) + 21600000 * -(m : Rat))) = z1 at *
    generalize si (10800000 - ((n : Rat) + 1 + 21600000 * -(m : Rat))) = z2 at *
    generalize si (q + 21600000 * -(m : Rat)) = y at *
    generalize si ((n : Rat) + 21600000 * -(m : Rat)) = y1 at *
    generalize si ((n : Rat) + 1 + 21600000 * -(m : Rat)) = y2 at *
    generalize (q - (n : Rat)) * (q - (n : Rat)) = w1 at *
    generalize ((n : Rat) + 1 - q) * ((n : Rat) + 1 - q) = w2 at *
    constructor <;> grind
/-- The enclosure of the sine over an arc holds the sine of an angle within. -/
theorem enc_real {lo hi : Int} {q : Rat} (h1 : (lo : Rat) ≤ q) (h2 : q ≤ (hi : Rat)) : Hs (3 * e1) (encL lo hi) (encH lo hi) (Sq q) := by
  have f0 := Rat.floor_le q
  have f1 := Rat.lt_floor_add_one q
  have be := big_e
  have eb := e0_bd
  have b := between q
  have l0 : lo ≤ q.floor := Rat.le_floor_iff.2 h1
  have l1 : q.floor ≤ hi := c_le (by grind)
  have a1 := lob_B q.floor
  have p1 := le_c (encL_has l0 l1)
  have p2 := le_c (encH_has l0 l1)
  by_cases c : q.floor = hi
  · -- then the angle is the end itself
    have e : q = ((q.floor : Int) : Rat) := by rw [c] at f0 ⊢; grind
    rw [← e] at a1
    unfold Hs
    have := e1_bd
    generalize Sq q = s at *
    constructor <;> grind
  · have a2 := lob_B (q.floor + 1)
    have q1 := le_c (encL_has (lo := lo) (hi := hi) (n := q.floor + 1) (by omega) (by omega))
    have q2 := le_c (encH_has (lo := lo) (hi := hi) (n := q.floor + 1) (by omega) (by omega))
    unfold Sq at *
    unfold Hs
    generalize si q = s at *
    generalize si ((q.floor : Int) : Rat) = s1 at *
    generalize si ((q.floor + 1 : Int) : Rat) = s2 at *
    generalize (lob q.floor : Rat) = x1 at *
    generalize (hib q.floor : Rat) = x2 at *
    generalize (lob (q.floor + 1) : Rat) = x3 at *
    generalize (hib (q.floor + 1) : Rat) = x4 at *
    generalize (encL lo hi : Rat) = y1 at *
    generalize (encH lo hi : Rat) = y2 at *
    clear f0 f1 h1 h2
    rcases b with b | b <;> constructor <;> grind
/-- Near angles, in the scale of One. -/
theorem Sq_near {d p q : Rat} (h : Cl d p q) (hd : d ≤ 1) : Cl (2000 * d + e1) (Sq p) (Sq q) ∧ Cl (2000 * d + e1) (Cq p) (Cq q) := by
  have be := big_e
  have eb := e0_bd
  unfold Cl at h
  unfold Sq Cq
  rcases (Rat.le_total : p ≤ q ∨ q ≤ p) with c | c
  · have l := lip c (by grind)
    unfold Cl at *
    generalize si p = x1 at *
    generalize si q = x2 at *
    generalize co p = x3 at *
    generalize co q = x4 at *
    refine ⟨⟨?_, ?_⟩, ?_, ?_⟩ <;> grind
  · have l := lip c (by grind)
    unfold Cl at *
    generalize si p = x1 at *
    generalize si q = x2 at *
    generalize co p = x3 at *
    generalize co q = x4 at *
    refine ⟨⟨?_, ?_⟩, ?_, ?_⟩ <;> grind
theorem enc_B {d : Rat} {lo hi : Int} {q : Rat} (hd : 0 ≤ d) (hd1 : d ≤ 1) (hl : lo ≤ hi) (h : Hs d lo hi q) : Hs (2000 * d + 4 * e1) (encL lo hi) (encH lo hi) (Sq q) := by
  obtain ⟨q', a, b, c⟩ := h.clamp hd hl
  have k := (enc_real a b).near (Sq_near c hd1).1
  exact k.wide (by grind) (Int.le_refl _) (Int.le_refl _)
theorem Cq_Sq (q : Rat) : Cl e1 (Cq q) (Sq (q + 5400000)) := by
  have a := (coq (-q)).1
  have n := (negq q).1
  have u := u0_bd
  have ee : e0 = 1048576 * u0 := rfl
  have be := big_e
  rw [show 5400000 - -q = q + 5400000 by grind] at a
  unfold Cq Sq
  unfold Cl at *
  generalize si (q + 5400000) = x at *
  generalize co (-q) = y at *
  generalize co q = z at *
  constructor <;> grind
theorem aval_le {a b : Int} (h : avalidB a b = true) : a ≤ b := by
  have : -1099511627776 ≤ a ∧ a ≤ b ∧ b ≤ 1099511627776 := by simpa [avalidB] using h
  omega
/-- **Sines and cosines of arcs.** -/
theorem sin_B {d : Rat} {lo hi : Int} {q : Rat} (hv : avalidB lo hi = true) (hd : 0 ≤ d) (hd1 : d ≤ 1) (h : Hs d lo hi q) : Hs (2000 * d + 4 * e1) (sinR lo hi).1 (sinR lo hi).2.1 (Sq q) := by
  have k := enc_B hd hd1 (aval_le hv) h
  have e1 : (sinR lo hi).1 = encL lo hi := by simp [sinR, hv]
  have e2 : (sinR lo hi).2.1 = encH lo hi := by simp [sinR, hv]
  rw [e1, e2]
  exact k
theorem cos_B {d : Rat} {lo hi : Int} {q : Rat} (hv : avalidB lo hi = true) (hd : 0 ≤ d) (hd1 : d ≤ 1) (h : Hs d lo hi q) : Hs (2000 * d + 5 * e1) (cosR lo hi).1 (cosR lo hi).2.1 (Cq q) := by
  have hq : Hs d (lo + 5400000) (hi + 5400000) (q + 5400000) := by
    unfold Hs at *
    rw [i_cast, i_cast]
    have z : ((5400000 : Int) : Rat) = 5400000 := rfl
    rw [z]
    constructor <;> grind
  have k := (enc_B hd hd1 (by have := aval_le hv; omega) hq).near (Cq_Sq q)
  have e1 : (cosR lo hi).1 = encL (lo + 5400000) (hi + 5400000) := by simp [cosR, hv]
  have e2 : (cosR lo hi).2.1 = encH (lo + 5400000) (hi + 5400000) := by simp [cosR, hv]
  rw [e1, e2]
  exact k.wide (by grind) (Int.le_refl _) (Int.le_refl _)
theorem lin_q {a x b : Rat} (y : Rat) (h1 : a ≤ x) (h2 : x ≤ b) : (a * y ≤ x * y ∧ x * y ≤ b * y) ∨ (b * y ≤ x * y ∧ x * y ≤ a * y) := by
  by_cases hy : 0 ≤ y
  · have p := Rat.mul_nonneg (show 0 ≤ x - a by grind) hy
    have q := Rat.mul_nonneg (show 0 ≤ b - x by grind) hy
    left; constructor <;> grind
  · have p := Rat.mul_nonneg (show 0 ≤ x - a by grind) (show 0 ≤ -y by grind)
    have q := Rat.mul_nonneg (show 0 ≤ b - x by grind) (show 0 ≤ -y by grind)
    right; constructor <;> grind
theorem mul_q {a b c d : Int} {X Y : Rat} (h1 : (a : Rat) ≤ X) (h2 : X ≤ (b : Rat)) (h3 : (c : Rat) ≤ Y) (h4 : Y ≤ (d : Rat)) : ((mulL a b c d : Int) : Rat) ≤ X * Y ∧ X * Y ≤ ((mulH a b c d : Int) : Rat) := by
  have l := mn4 (a * c) (a * d) (b * c) (b * d)
  have u := mx4 (a * c) (a * d) (b * c) (b * d)
  have l1 := le_c l.1.1
  have l2 := le_c l.1.2.1
  have l3 := le_c l.1.2.2.1
  have l4 := le_c l.1.2.2.2
  have u1 := le_c u.1.1
  have u2 := le_c u.1.2.1
  have u3 := le_c u.1.2.2.1
  have u4 := le_c u.1.2.2.2
  rw [Rat.intCast_mul] at l1 l2 l3 l4 u1 u2 u3 u4
  have p := lin_q Y h1 h2
  have q := lin_q (a : Rat) h3 h4
  have r := lin_q (b : Rat) h3 h4
  rw [Rat.mul_comm (c : Rat), Rat.mul_comm Y, Rat.mul_comm (d : Rat)] at q r
  unfold mulL mulH
  generalize (mn (mn (mn (a * c) (a * d)) (b * c)) (b * d) : Rat) = m at *
  generalize (mx (mx (mx (a * c) (a * d)) (b * c)) (b * d) : Rat) = n at *
  generalize X * Y = xy at *
  generalize (a : Rat) * Y = ay at *
  generalize (b : Rat) * Y = yb at *
  generalize (a : Rat) * (c : Rat) = ac at *
  generalize (a : Rat) * (d : Rat) = ad at *
  generalize (b : Rat) * (c : Rat) = bc at *
  generalize (b : Rat) * (d : Rat) = bd at *
  constructor <;> grind
theorem floor_c (x : Int) : ((x / 1073741824 : Int) : Rat) * 1073741824 ≤ (x : Rat) := by
  have h : ((x / 1073741824 * 1073741824 : Int) : Rat) ≤ (x : Rat) := le_c (by omega)
  rw [Rat.intCast_mul] at h
  exact h
/-- **Products.** -/
theorem mul_B {a b c d : Int} {e X Y : Rat} (he : 0 ≤ e) (he1 : e ≤ 1 / 4) (h1 : Hs e a b X) (h2 : Hs e c d Y) (ab : a ≤ b) (cd : c ≤ d)
    (ha : -1073741824 ≤ a) (hb : b ≤ 1073741824) (hc : -1073741824 ≤ c) (hd : d ≤ 1073741824) :
    Hs (3 * e) (mulR a b c d).1 (mulR a b c d).2.1 (X * Y / 1073741824) := by
  obtain ⟨x, x1, x2, x3, x4⟩ := h1.clamp he ab
  obtain ⟨y, y1, y2, y3, y4⟩ := h2.clamp he cd
  have m := mul_one ha ab hb hc cd hd
  have ev : mulR a b c d = (mulL a b c d / 1073741824, -(-mulH a b c d / 1073741824), 0) := by
    have := m.1
    unfold mulR at this ⊢
    obtain ⟨hb, hf⟩ := both_ok this
    rw [if_pos hb]
    exact (fit_ok hf).2
  rw [ev]
  have z : ((1073741824 : Int) : Rat) = 1073741824 := rfl
  have za : -1073741824 ≤ (a : Rat) := le_c (a := -1073741824) ha
  have zb : (b : Rat) ≤ 1073741824 := le_c (b := 1073741824) hb
  have zc : -1073741824 ≤ (c : Rat) := le_c (a := -1073741824) hc
  have zd : (d : Rat) ≤ 1073741824 := le_c (b := 1073741824) hd
  have r := mul_q x1 x2 y1 y2
  have f := floor_c (mulL a b c d)
  have g := floor_c (-mulH a b c d)
  rw [Rat.intCast_neg] at g
  have k1 := mul_abs (a := X - x) (b := y) (A := e) (B := 1073741824) x3 x4 (by grind) (by grind)
  have k2 := mul_abs (a := x) (b := Y - y) (A := 1073741824) (B := e) (by grind) (by grind) y3 y4
  have k3 := mul_abs (a := X - x) (b := Y - y) (A := e) (B := e) x3 x4 y3 y4
  have k4 : e * e ≤ e := by have := Rat.mul_nonneg he (show 0 ≤ 1 - e by grind); grind
  have ex : X * Y = x * y + (X - x) * y + x * (Y - y) + (X - x) * (Y - y) := by grind
  unfold Hs
  dsimp only
  rw [ex, Rat.intCast_neg]
  generalize (mulL a b c d : Rat) = L at *
  generalize (mulH a b c d : Rat) = U at *
  generalize ((mulL a b c d / 1073741824 : Int) : Rat) = L' at *
  generalize ((-mulH a b c d / 1073741824 : Int) : Rat) = U' at *
  generalize x * y = p0 at *
  generalize (X - x) * y = p1 at *
  generalize x * (Y - y) = p2 at *
  generalize (X - x) * (Y - y) = p3 at *
  clear ex
  constructor <;> grind
/-! ### Arcsines -/
/-- The program's least arcsine is not above. -/
theorem asn_B {v : Int} {q e d : Rat} (he : 0 ≤ e) (hv : -1073741824 ≤ v) (q0 : -5400000 ≤ q) (_q1 : q ≤ 5400000) (h : (v : Rat) ≤ Sq q + e) (hd0 : 0 ≤ d) (hd : 100000 * (e + 3 * e1) ≤ d * d) : (asn v : Rat) ≤ q + d := by
  obtain ⟨a0, a1, a2, a3⟩ := asn_is v hv
  rcases (Rat.le_total : (asn v : Rat) ≤ q ∨ q ≤ (asn v : Rat)) with c | c
  · grind
  · have p1 : (asn v : Rat) ≤ 5400000 := le_c (b := 5400000) a1
    have g := grow q0 c p1
    have l := (lob_B (asn v)).2
    have m := le_c a2
    have be := big_e
    have eb := e0_bd
    have e1b := e1_bd
    unfold Sq at *
    have k := sqrt_small (z := (asn v : Rat) - q) (f := d) (e := 100000 * (e + 3 * e1)) hd0 ?_ hd
    · have := k.2; grind
    · generalize si (asn v : Rat) = s1 at *
      generalize si q = s2 at *
      generalize (hib (asn v) : Rat) = h1 at *
      generalize (v : Rat) = v' at *
      generalize ((asn v : Rat) - q) * ((asn v : Rat) - q) = w at *
      grind
theorem Sq_neg {q : Rat} (h0 : -10800000 < q) (h1 : q < 10800000) : Sq (-q) = - Sq q := by
  unfold Sq
  rw [(si_neg h0 h1).1]
  grind
/-- **Arcsines of intervals.** -/
theorem asin_B {lo hi : Int} {q e d : Rat} (_hv : validB lo hi = true) (ok : (asinR lo hi).2.2 = 0) (q0 : -5400000 ≤ q) (q1 : q ≤ 5400000) (he : 0 ≤ e) (h : Hs e lo hi (Sq q)) (hd0 : 0 ≤ d) (hd : 100000 * (e + 4 * e1) ≤ d * d) : Hs d (asinR lo hi).1 (asinR lo hi).2.1 q := by
  obtain ⟨_, hm, ev⟩ := asin_ok ok
  have be := big_e
  have eb := e0_bd
  have e1b := e1_bd
  have u := u0_bd
  have ee : e0 = 1048576 * u0 := rfl
  have b := (bdq q).2
  have z : ((1073741824 : Int) : Rat) = 1073741824 := rfl
  have zn : ((-1073741824 : Int) : Rat) = -1073741824 := rfl
  have s0 : -1073741824 - e1 ≤ Sq q ∧ Sq q ≤ 1073741824 + e1 := by
    unfold Sq
    generalize si q = s at *
    constructor <;> grind
  unfold Hs at h
  have x1 : ((max lo (-1073741824) : Int) : Rat) ≤ Sq q + (e + e1) := by
    rcases Int.le_total lo (-1073741824) with c | c
    · rw [Int.max_eq_right c, zn]; grind
    · rw [Int.max_eq_left c]; grind
  have x2 : ((- min hi 1073741824 : Int) : Rat) ≤ Sq (-q) + (e + e1) := by
    rw [Sq_neg (by grind) (by grind), Rat.intCast_neg]
    rcases Int.le_total hi 1073741824 with c | c
    · rw [Int.min_eq_left c]; grind
    · rw [Int.min_eq_right c, z]; grind
  have y1 := asn_B (v := max lo (-1073741824)) (show 0 ≤ e + e1 by grind) (by omega) q0 q1 x1 hd0 (by grind)
  have y2 := asn_B (v := - min hi 1073741824) (show 0 ≤ e + e1 by grind) (by omega) (q := -q) (by grind) (by grind) x2 hd0 (by grind)
  rw [ev]
  unfold Hs
  dsimp only
  rw [Rat.intCast_neg]
  constructor <;> grind
/-- An interval that has the sine of an angle has arcsines. -/
theorem asin_has {lo hi : Int} {q e : Rat} (hv : validB lo hi = true) (_he : 0 ≤ e) (he1 : e ≤ 1 / 4) (h : Hs e lo hi (Sq q)) : (asinR lo hi).2.2 = 0 := by
  have be := big_e
  have eb := e0_bd
  have e1b := e1_bd
  have u := u0_bd
  have ee : e0 = 1048576 * u0 := rfl
  have b := (bdq q).2
  have s0 : -1073741824 - e1 ≤ Sq q ∧ Sq q ≤ 1073741824 + e1 := by
    unfold Sq
    generalize si q = s at *
    constructor <;> grind
  have v := val_bd hv
  unfold Hs at h
  have c1 : lo ≤ 1073741824 := of_c (e := 1 / 2) (by rw [show ((1073741824 : Int) : Rat) = 1073741824 by rfl]; grind) (by grind)
  have c2 : -1073741824 ≤ hi := of_c (e := 1 / 2) (by rw [show ((-1073741824 : Int) : Rat) = -1073741824 by rfl]; grind) (by grind)
  unfold asinR
  rw [hv]
  simp only [Bool.true_eq_false, if_false]
  rw [if_pos (by omega)]
end TB
end Go.Proofs.YtfilgpifiboccaaGreat
namespace Go.Proofs.YtfilgpifiboccaaGreat
namespace TB
open SM TA
theorem thF_near : -(1 / 2 ^ 120) ≤ (tb - thF) * 2700000 ∧ (tb - thF) * 2700000 ≤ 1 / 2 ^ 120 := by decide +kernel
theorem tail_B1 : En 652 (4 / 5) - En 100 (4 / 5) ≤ 1 / 2 ^ 200 := by decide +kernel
theorem tail_B0 : En 100 (1 / 2 ^ 120) - En 0 (1 / 2 ^ 120) ≤ 1 / 2 ^ 119 := by decide +kernel
theorem rest_B8 : rest 100 (4 / 5) ≤ 1 / 2 ^ 118 := by decide +kernel
/-- The sine and the cosine of 'no ties' are near. -/
theorem near_V (k : Nat) (h : k ≤ 2700000) : Cl (1 / 2 ^ 110) (si (k : Rat)) (sV k) ∧ Cl (1 / 2 ^ 110) (co (k : Rat)) (cV k) := by
  have k0 : (0 : Rat) ≤ (k : Rat) := by exact_mod_cast Nat.zero_le k
  have k1 : (k : Rat) ≤ 2700000 := by
    have : (k : Rat) ≤ ((2700000 : Nat) : Rat) := by exact_mod_cast h
    exact this
  have es : si (k : Rat) = Sn 652 (tb * (k : Rat)) ∧ co (k : Rat) = Cn 652 (tb * (k : Rat)) := by
    unfold si co
    rw [rdq_id (by grind) (by grind)]
    exact ⟨rfl, rfl⟩
  have t := tb_bd
  have x : 0 ≤ tb * (k : Rat) ∧ tb * (k : Rat) ≤ 4 / 5 := by
    have := tb_mul (p := (k : Rat)) (c := 2700000) (d := 4 / 5) (by grind) k1 (by grind)
    exact ⟨Rat.mul_nonneg (by grind) k0, this.2⟩
  have a := tailS 100 552 652 rfl (x := tb * (k : Rat)) (X := 4 / 5) (by grind) x.2 tail_B1
  have a' := tailC 100 552 652 rfl (x := tb * (k : Rat)) (X := 4 / 5) (by grind) x.2 tail_B1
  have tn := thF_near
  have d : -(1 / 2 ^ 120) ≤ (tb - thF) * (k : Rat) ∧ (tb - thF) * (k : Rat) ≤ 1 / 2 ^ 120 := by
    have z : (0 : Rat) ≤ 1 / 2 ^ 120 := by decide +kernel
    have e : (tb - thF) * (k : Rat) * 2700000 = (tb - thF) * 2700000 * (k : Rat) := by grind
    have m1 := Rat.mul_nonneg (show 0 ≤ 1 / 2 ^ 120 - (tb - thF) * 2700000 by grind) k0
    have m2 := Rat.mul_nonneg (show 0 ≤ 1 / 2 ^ 120 + (tb - thF) * 2700000 by grind) k0
    have m3 := Rat.mul_nonneg z (show 0 ≤ 2700000 - (k : Rat) by grind)
    generalize (tb - thF) * (k : Rat) = y at *
    constructor <;> grind
  have hx := vx_bd k h
  have b := v_bd k h
  have ad := addition 100 (x := thF * (k : Rat)) (y := (tb - thF) * (k : Rat)) (X := 4 / 5) (by grind) (by grind) (by grind) (by grind)
  have r := rest_B8
  have c := tailC 0 100 100 rfl (x := (tb - thF) * (k : Rat)) (X := 1 / 2 ^ 120) d.1 d.2 tail_B0
  have s := tailS 0 100 100 rfl (x := (tb - thF) * (k : Rat)) (X := 1 / 2 ^ 120) d.1 d.2 tail_B0
  have c0 : Cn 0 ((tb - thF) * (k : Rat)) = 1 := by simp [Cn, sm, sc, P]; grind
  have s0 : Sn 0 ((tb - thF) * (k : Rat)) = 0 := by simp [Sn, sm, ss, P]; grind
  rw [c0] at c
  rw [s0] at s
  rw [show thF * (k : Rat) + (tb - thF) * (k : Rat) = tb * (k : Rat) by grind] at ad
  have eV : sV k = Sn 100 (thF * (k : Rat)) := rfl
  have eC : cV k = Cn 100 (thF * (k : Rat)) := rfl
  rw [← eV, ← eC] at ad
  have m1 := near_mul (z := sV k) (c := Cn 100 ((tb - thF) * (k : Rat)) - 1) (k := 1 / 2 ^ 119) ⟨by grind, by grind⟩ ⟨by grind, by grind⟩
  have m2 := near_mul (z := cV k) (c := Sn 100 ((tb - thF) * (k : Rat)) - 0) (k := 1 / 2 ^ 119) ⟨by grind, by grind⟩ ⟨by grind, by grind⟩
  have m3 := near_mul (z := cV k) (c := Cn 100 ((tb - thF) * (k : Rat)) - 1) (k := 1 / 2 ^ 119) ⟨by grind, by grind⟩ ⟨by grind, by grind⟩
  have m4 := near_mul (z := sV k) (c := Sn 100 ((tb - thF) * (k : Rat)) - 0) (k := 1 / 2 ^ 119) ⟨by grind, by grind⟩ ⟨by grind, by grind⟩
  rw [es.1, es.2]
  unfold Cl
  clear b c s d hx x t tn eV eC c0 s0
  generalize sV k = A at *
  generalize cV k = B at *
  generalize Cn 100 ((tb - thF) * (k : Rat)) = D at *
  generalize Sn 100 ((tb - thF) * (k : Rat)) = E at *
  generalize Sn 100 (tb * (k : Rat)) = F at *
  generalize Cn 100 (tb * (k : Rat)) = F' at *
  generalize Sn 652 (tb * (k : Rat)) = G at *
  generalize Cn 652 (tb * (k : Rat)) = G' at *
  generalize rest 100 (4 / 5) = R at *
  refine ⟨⟨?_, ?_⟩, ?_, ?_⟩ <;> grind
theorem near_K (k : Nat) (h : k ≤ 5400000) : Cl (1 / 2 ^ 105) (si (k : Rat)) (sK k) ∧ Cl (1 / 2 ^ 105) (co (k : Rat)) (cK k) := by
  have u := u0_bd
  unfold sK cK
  by_cases c : k ≤ 2700000
  · rw [if_pos c, if_pos c]
    have := near_V k c
    exact ⟨this.1.wide (by grind), this.2.wide (by grind)⟩
  · rw [if_neg c, if_neg c]
    have n := near_V (5400000 - k) (by omega)
    have e : ((5400000 - k : Nat) : Rat) = 5400000 - (k : Rat) := by
      have : ((5400000 - k + k : Nat) : Rat) = ((5400000 : Nat) : Rat) := by rw [Nat.sub_add_cancel h]
      rw [Rat.natCast_add] at this
      have z : ((5400000 : Nat) : Rat) = 5400000 := rfl
      rw [z] at this
      grind
    rw [e] at n
    have q := coq (k : Rat)
    exact ⟨(q.2.symm.trans n.2).wide (by grind), (q.1.symm.trans n.1).wide (by grind)⟩
theorem nat_bd {x : Nat} (h : x ≤ 2147483648) : 0 ≤ (x : Rat) ∧ (x : Rat) ≤ 2147483648 := by
  have a : (0 : Rat) ≤ (x : Rat) := by exact_mod_cast Nat.zero_le x
  have b : (x : Rat) ≤ ((2147483648 : Nat) : Rat) := by exact_mod_cast h
  exact ⟨a, b⟩
theorem mul_near {x a b e : Rat} (hx : 0 ≤ x ∧ x ≤ 2147483648) (h : Cl e a b) : Cl (2147483648 * e) (x * a) (x * b) := by
  have m := mul_abs (a := x) (b := a - b) (A := 2147483648) (B := e) (by grind) hx.2 h.1 h.2
  unfold Cl
  rw [show x * a - x * b = x * (a - b) by grind]
  exact m
/-- Whether an angle is reached, by the sines. -/
theorem rea_B {k x y : Nat} (hk : k < 5400000) (hx : x ≤ 2147483648) (hy : y ≤ 2147483648) (hxy : 0 < x + y) :
    (reaB x y k = true → (x : Rat) * si (k : Rat) ≤ (y : Rat) * co (k : Rat) + e1) ∧ (reaB x y k = false → (y : Rat) * co (k : Rat) ≤ (x : Rat) * si (k : Rat) + e1) := by
  have eb := e1_bd
  have be := big_e
  have u := u0_bd
  have ee : e0 = 1048576 * u0 := rfl
  have X := nat_bd hx
  have Y := nat_bd hy
  by_cases h0 : k = 0
  · subst h0
    rw [show ((0 : Nat) : Rat) = 0 by rfl, si_0, co_0]
    refine ⟨fun _ => by grind, fun h => ?_⟩
    rw [reaB_zero] at h
    cases h
  by_cases h1 : k = 2700000
  · subst h1
    have q := (coq 2700000).1
    rw [show (5400000 : Rat) - 2700000 = 2700000 by grind] at q
    rw [show ((2700000 : Nat) : Rat) = 2700000 by rfl]
    have s := si_half (q := 2700000) (by grind) (by grind)
    have m := mul_near Y q
    have p := reaB_mid x y
    unfold Cl at m
    constructor
    · intro h
      have := Rat.natCast_le_natCast.2 (p.1 h)
      have g := Rat.mul_nonneg (show 0 ≤ (y : Rat) - (x : Rat) by grind) s
      generalize (y : Rat) * co 2700000 = w at *
      generalize si 2700000 = z at *
      grind
    · intro h
      have h2 : ¬ x ≤ y := fun c => by rw [p.2 c] at h; cases h
      have := Rat.natCast_le_natCast.2 (show y ≤ x by omega)
      have g := Rat.mul_nonneg (show 0 ≤ (x : Rat) - (y : Rat) by grind) s
      generalize (y : Rat) * co 2700000 = w at *
      generalize si 2700000 = z at *
      grind
  have r := rea_sign (by omega) h1 hk hx hy hxy
  have n := near_K k (by omega)
  have m1 := mul_near X n.1
  have m2 := mul_near Y n.2
  unfold Cl at m1 m2
  have z : (2147483648 : Rat) * (1 / 2 ^ 105) ≤ 1 / 2 ^ 70 := by decide +kernel
  generalize (x : Rat) * si (k : Rat) = a at *
  generalize (y : Rat) * co (k : Rat) = b at *
  generalize (x : Rat) * sK k = c at *
  generalize (y : Rat) * cK k = d at *
  clear n X Y
  constructor
  · intro h
    rcases r with ⟨_, r⟩ | ⟨r0, r⟩
    · grind
    · rw [h] at r0; cases r0
  · intro h
    rcases r with ⟨r0, r⟩ | ⟨_, r⟩
    · rw [h] at r0; cases r0
    · grind
/-- A point's angle, rounded down and up, by the sines; first quadrant. -/
theorem F_B {x y : Nat} (hx : x ≤ 2147483648) (hy : y ≤ 2147483648) (hx0 : 0 < x) :
    (x : Rat) * si (F x y : Rat) ≤ (y : Rat) * co (F x y : Rat) + e1 ∧ (y : Rat) * co (C x y : Rat) ≤ (x : Rat) * si (C x y : Rat) + e1 := by
  have eb := e1_bd
  have be := big_e
  have u := u0_bd
  have ee : e0 = 1048576 * u0 := rfl
  have X := nat_bd hx
  have Y := nat_bd hy
  obtain ⟨f1, f2, f3⟩ := F_spec x y
  refine ⟨(rea_B f1 hx hy (by omega)).1 f2, ?_⟩
  unfold C
  cases hex : exF x y with
  | true =>
    rw [if_pos rfl, Nat.add_zero]
    unfold exF at hex
    simp only [Bool.or_eq_true, Bool.and_eq_true, beq_iff_eq] at hex
    rcases hex with ⟨h1, h2⟩ | ⟨h1, h2⟩
    · rw [h1, h2, show ((0 : Nat) : Rat) = 0 by rfl, si_0]
      grind
    · rw [h1, ← h2, show ((2700000 : Nat) : Rat) = 2700000 by rfl]
      have q := (coq 2700000).1
      rw [show (5400000 : Rat) - 2700000 = 2700000 by grind] at q
      have m := mul_near X q
      unfold Cl at m
      generalize (x : Rat) * co 2700000 = w at *
      generalize (x : Rat) * si 2700000 = z at *
      grind
  | false =>
    simp only [Bool.false_eq_true, if_false]
    rcases f3 with h | h
    · rw [h, show ((5400000 : Nat) : Rat) = 5400000 by rfl]
      have q := quartq
      have m1 := mul_near X q.2
      have m2 := mul_near Y q.1
      unfold Cl at m1 m2
      generalize (x : Rat) * si 5400000 = w at *
      generalize (y : Rat) * co 5400000 = z at *
      grind
    · by_cases hk : F x y + 1 < 5400000
      · exact (rea_B hk hx hy (by omega)).2 h
      · rw [show F x y + 1 = 5400000 by omega, show ((5400000 : Nat) : Rat) = 5400000 by rfl]
        have q := quartq
        have m1 := mul_near X q.2
        have m2 := mul_near Y q.1
        unfold Cl at m1 m2
        generalize (x : Rat) * si 5400000 = w at *
        generalize (y : Rat) * co 5400000 = z at *
        grind
theorem int_bd {a : Int} (h : -2147483648 ≤ a ∧ a ≤ 2147483648) : -2147483648 ≤ (a : Rat) ∧ (a : Rat) ≤ 2147483648 :=
  ⟨le_c (a := -2147483648) h.1, le_c (b := 2147483648) h.2⟩
/-- A quarter of a turn back. -/
theorem backq (q : Rat) : Cl (10000 * u0) (si (q - 5400000)) (-co q) ∧ Cl (10000 * u0) (co (q - 5400000)) (si q) := by
  have a := coq q
  have n := negq (5400000 - q)
  have u := u0_bd
  rw [show -(5400000 - q) = q - 5400000 by grind] at n
  exact ⟨(n.2.trans a.1.neg).wide (by grind), (n.1.trans a.2).wide (by grind)⟩
theorem small_mul {x p q : Rat} (hx : -2147483648 ≤ x ∧ x ≤ 2147483648) (h : Cl (40000 * u0) p q) : Cl (e1 / 4) (x * p) (x * q) := by
  have be := big_e
  have u := u0_bd.1
  have ee : e0 = 1048576 * u0 := rfl
  have m := mul_abs (a := x) (b := p - q) (A := 2147483648) (B := 40000 * u0) hx.1 hx.2 h.1 h.2
  have k : 2147483648 * (40000 * u0) ≤ e1 / 4 := by grind
  clear h be
  unfold Cl
  rw [show x * p - x * q = x * (p - q) by grind]
  generalize x * (p - q) = w at *
  generalize 2147483648 * (40000 * u0) = v at *
  constructor <;> grind
/-- A point of the right half-plane. -/
theorem fl_B {a b : Int} (h : In31 a b) : (a : Rat) * si (fl a b : Rat) ≤ (b : Rat) * co (fl a b : Rat) + 2 * e1 ∧ (b : Rat) * co (ce a b : Rat) ≤ (a : Rat) * si (ce a b : Rat) + 2 * e1 := by
  obtain ⟨h0, h1, h2, h3⟩ := h
  have eb := e1_bd
  have be := big_e
  have u := u0_bd
  have ee : e0 = 1048576 * u0 := rfl
  have cast : ∀ m : Int, 0 ≤ m → ((m.toNat : Nat) : Rat) = (m : Rat) := fun m h => by
    have : ((m.toNat : Nat) : Int) = m := Int.toNat_of_nonneg h
    have e : ((m.toNat : Nat) : Rat) = (((m.toNat : Nat) : Int) : Rat) := rfl
    rw [e, this]
  have icast : ∀ n : Nat, (((n : Nat) : Int) : Rat) = (n : Rat) := fun n => rfl
  rw [ce_eq]
  unfold fl
  by_cases hb : 0 ≤ b
  · rw [if_pos hb, if_pos hb, icast, icast]
    have f := F_B (x := a.toNat) (y := b.toNat) (by omega) (by omega) (by omega)
    rw [cast a (by omega), cast b hb] at f
    obtain ⟨f1, f2⟩ := f
    clear cast icast be u ee
    generalize (a : Rat) * si (F a.toNat b.toNat : Rat) = x1 at *
    generalize (b : Rat) * co (F a.toNat b.toNat : Rat) = x2 at *
    generalize (b : Rat) * co (C a.toNat b.toNat : Rat) = x3 at *
    generalize (a : Rat) * si (C a.toNat b.toNat : Rat) = x4 at *
    constructor <;> grind
  · rw [if_neg hb, if_neg hb]
    have f := F_B (x := (-b).toNat) (y := a.toNat) (by omega) (by omega) (by omega)
    rw [cast a (by omega), cast (-b) (by omega), Rat.intCast_neg] at f
    have z : ((5400000 : Int) : Rat) = 5400000 := rfl
    rw [Rat.intCast_sub, Rat.intCast_sub, z, icast, icast]
    have q1 := backq (F (-b).toNat a.toNat : Rat)
    have q2 := backq (C (-b).toNat a.toNat : Rat)
    have A := int_bd (a := a) (by omega)
    have B := int_bd (a := b) (by omega)
    have m1 := small_mul A (q1.1.wide (f := 40000 * u0) (by grind))
    have m2 := small_mul B (q1.2.wide (f := 40000 * u0) (by grind))
    have m3 := small_mul A (q2.1.wide (f := 40000 * u0) (by grind))
    have m4 := small_mul B (q2.2.wide (f := 40000 * u0) (by grind))
    rw [show (a : Rat) * -co (F (-b).toNat a.toNat : Rat) = -((a : Rat) * co (F (-b).toNat a.toNat : Rat)) by grind] at m1
    rw [show (a : Rat) * -co (C (-b).toNat a.toNat : Rat) = -((a : Rat) * co (C (-b).toNat a.toNat : Rat)) by grind] at m3
    rw [show -(b : Rat) * si (F (-b).toNat a.toNat : Rat) = -((b : Rat) * si (F (-b).toNat a.toNat : Rat)) by grind, show -(b : Rat) * si (C (-b).toNat a.toNat : Rat) = -((b : Rat) * si (C (-b).toNat a.toNat : Rat)) by grind] at f
    clear q1 q2 A B be u ee
    unfold Cl at *
    generalize (a : Rat) * si ((F (-b).toNat a.toNat : Rat) - 5400000) = x1 at *
    generalize (b : Rat) * co ((F (-b).toNat a.toNat : Rat) - 5400000) = x2 at *
    generalize (a : Rat) * si ((C (-b).toNat a.toNat : Rat) - 5400000) = x3 at *
    generalize (b : Rat) * co ((C (-b).toNat a.toNat : Rat) - 5400000) = x4 at *
    generalize (a : Rat) * co (F (-b).toNat a.toNat : Rat) = x5 at *
    generalize (b : Rat) * si (F (-b).toNat a.toNat : Rat) = x6 at *
    generalize (a : Rat) * co (C (-b).toNat a.toNat : Rat) = x7 at *
    generalize (b : Rat) * si (C (-b).toNat a.toNat : Rat) = x8 at *
    constructor <;> grind
/-- A small sine, of an angle that is less than half a turn and not too near it. -/
theorem small_si {z t : Rat} (h0 : 0 ≤ z) (h1 : z ≤ 10800000 - 1 / 2 ^ 13) (ht : t ≤ 1 / 2 ^ 40) (h : si z ≤ t) : z ≤ 8000000 * (t + e0) := by
  have b := tb_bd
  have u := u0_bd
  have ee : e0 = 1048576 * u0 := rfl
  have eb := e0_bd
  rcases (Rat.le_total : z ≤ 5400000 ∨ 5400000 ≤ z) with c | c
  · have p := (si_pos h0 c).1
    have m : z / 3437750 ≤ tb * z := by
      have := Rat.mul_nonneg (show 0 ≤ tb - 1 / 3437750 by grind) h0
      grind
    generalize si z = s at *
    generalize tb * z = w at *
    grind
  · exfalso
    have p := (si_pos (q := 10800000 - z) (by grind) (by grind)).1
    have r := reflq z
    have m := Rat.mul_nonneg (show 0 ≤ tb - 1 / 3437750 by grind) (show 0 ≤ 10800000 - z by grind)
    unfold Cl at r
    generalize si (10800000 - z) = s' at *
    generalize si z = s at *
    generalize tb = w at *
    grind
/-- An angle of positive cosine. -/
theorem pos_co {p ρ : Rat} (h0 : -10800000 ≤ p) (h1 : p ≤ 10800000) (hr0 : 0 ≤ ρ) (hr1 : ρ ≤ 8589934592) (h : 1 / 2 ≤ ρ * co p) : -5400000 + 1 / 2 ^ 13 ≤ p ∧ p ≤ 5400000 - 1 / 2 ^ 13 := by
  have u := u0_bd
  have ee : e0 = 1048576 * u0 := rfl
  have eb := e0_bd
  have b := tb_bd
  have key : ∀ q : Rat, 0 ≤ q → q ≤ 10800000 → 1 / 2 ≤ ρ * co q → q ≤ 5400000 - 1 / 2 ^ 13 := fun q g0 g1 g => by
    rcases (Rat.le_total : q ≤ 5400000 - 1 / 2 ^ 13 ∨ 5400000 - 1 / 2 ^ 13 ≤ q) with c | c
    · exact c
    · exfalso
      have r := (coq q).1
      have k : co q ≤ 1 / 2 ^ 34 - 1 / 2 ^ 36 := by
        unfold Cl at r
        rcases (Rat.le_total : q ≤ 5400000 ∨ 5400000 ≤ q) with e | e
        · have s := (si_pos (q := 5400000 - q) (by grind) (by grind)).2
          have m := Rat.mul_nonneg (show 0 ≤ 1 / 3437740 - tb by grind) (show 0 ≤ 5400000 - q by grind)
          generalize si (5400000 - q) = s' at *
          generalize co q = s at *
          generalize tb = w at *
          grind
        · have s := si_half (q := q - 5400000) (by grind) (by grind)
          have n := (si_neg (q := q - 5400000) (by grind) (by grind)).1
          rw [show -(q - 5400000) = 5400000 - q by grind] at n
          rw [n] at r
          generalize si (q - 5400000) = s' at *
          generalize co q = s at *
          grind
      have m := Rat.mul_nonneg hr0 (show 0 ≤ 1 / 2 ^ 34 - 1 / 2 ^ 36 - co q by grind)
      generalize co q = s at *
      grind
  rcases (Rat.le_total : 0 ≤ p ∨ p ≤ 0) with c | c
  · have := key p c h1 h
    exact ⟨by grind, this⟩
  · have n := negq p
    by_cases hp : p = -10800000
    · exfalso
      have r := (coq p).1
      have o := (coq (-p)).1
      subst hp
      have k := key 10800000 (by grind) (by grind) ?_
      · grind
      · have t := (turn_eq (-10800000) 1).1
        rw [show ((1 : Int) : Rat) = 1 by rfl, show (-10800000 : Rat) + 21600000 * 1 = 10800000 by grind] at t
        rw [t]
        exact h
    · have e := (si_neg (q := p) (by grind) (by grind)).2
      have := key (-p) (by grind) (by grind) (by rw [e]; exact h)
      exact ⟨by grind, by grind⟩
theorem fin_x {a ρ X t w : Rat} (ha : 1 ≤ a) (hρ : 1 / 4 ≤ ρ) (ht : 0 ≤ t) (hw : 0 ≤ w) (h : a * (ρ * X) ≤ t * (2 + 2 * ρ) + w) : X ≤ 10 * t + 4 * w := by
  rcases (Rat.le_total : X ≤ 10 * t + 4 * w ∨ 10 * t + 4 * w ≤ X) with c | c
  · exact c
  · have x0 : 0 ≤ X := by grind
    have m1 := Rat.mul_nonneg (show 0 ≤ a - 1 by grind) (Rat.mul_nonneg (show 0 ≤ ρ by grind) x0)
    have m2 := Rat.mul_nonneg (show 0 ≤ ρ - 1 / 4 by grind) (show 0 ≤ X - 2 * t by grind)
    grind
theorem big_f : 2 ^ 100 * e0 ≤ e1 := by decide +kernel
/-- A direction that is not before a point's angle, as far as points tell. -/
theorem cross_B {a b : Rat} {k p ρ t : Rat} (ha : 1 ≤ a) (hb : -2147483648 ≤ b ∧ b ≤ 2147483648) (hk0 : -5400000 ≤ k) (hk1 : k ≤ 5400000) (hp : -5400000 + 1 / 2 ^ 13 ≤ p ∧ p ≤ 5400000 - 1 / 2 ^ 13) (hr0 : 0 ≤ ρ) (hr : 1 / 2 ≤ ρ * co p) (ht : 0 ≤ t) (ht1 : t ≤ 1 / 2 ^ 50) (ha1 : a ≤ 2147483648) (hr1 : ρ ≤ 8589934592) :
    (a * si k ≤ b * co k + t → b * (ρ * co p) ≤ a * (ρ * si p) + t → k ≤ p + 8000000 * (16 * t + e1)) ∧
    (b * co k ≤ a * si k + t → a * (ρ * si p) ≤ b * (ρ * co p) + t → p ≤ k + 8000000 * (16 * t + e1)) := by
  have u := u0_bd
  have ee : e0 = 1048576 * u0 := rfl
  have eb := e0_bd
  have e1b := e1_bd
  have be := big_f
  have ck := co_ge (q := k) (d := 0) hk0 hk1 (by grind) (by grind) (by grind)
  rw [show tb * 0 / 2 - e0 = -e0 by grind] at ck
  have bk := bdq2 k
  have bp := bdq2 p
  have hρ : 1 / 4 ≤ ρ := by
    have m := Rat.mul_nonneg hr0 (show 0 ≤ 2 - co p by grind)
    generalize co p = c at *
    grind
  have hc2 : ρ * co p ≤ 2 * ρ := by
    have m := Rat.mul_nonneg hr0 (show 0 ≤ 2 - co p by grind)
    grind
  -- what e0 times the points can be
  have q1 := mul_abs (a := ρ) (b := co p) (A := 8589934592) (B := 2) (by grind) hr1 bp.1.1 bp.1.2
  have q2 := mul_abs (a := ρ) (b := si p) (A := 8589934592) (B := 2) (by grind) hr1 bp.2.1 bp.2.2
  have q3 := mul_abs (a := b) (b := ρ * co p) (A := 2147483648) (B := 8589934592 * 2) hb.1 hb.2 q1.1 q1.2
  have q4 := mul_abs (a := a) (b := ρ * si p) (A := 2147483648) (B := 8589934592 * 2) (by grind) ha1 q2.1 q2.2
  have q5 := mul_abs (a := e0) (b := b * (ρ * co p) - a * (ρ * si p)) (A := e0) (B := 2 ^ 70) (by grind) (by grind) (by grind) (by grind)
  have s1 := (subq k p).2
  have s2 := (subq p k).2
  have f1 := fin_x (X := si k * co p - co k * si p) ha hρ ht (w := e1 / 2 ^ 20)
  have f2 := fin_x (X := si p * co k - co p * si k) ha hρ ht (w := e1 / 2 ^ 20)
  have i1 : a * (ρ * (si k * co p - co k * si p)) = a * si k * (ρ * co p) - a * (ρ * si p) * co k := by grind
  have i2 : a * (ρ * (si p * co k - co p * si k)) = a * (ρ * si p) * co k - a * si k * (ρ * co p) := by grind
  rw [i1] at f1
  rw [i2] at f2
  unfold Cl at s1 s2
  have tc := Rat.mul_nonneg ht (show 0 ≤ 2 * ρ - ρ * co p by grind)
  have tk := Rat.mul_nonneg ht (show 0 ≤ 2 - co k by grind)
  have te := Rat.mul_nonneg ht (show 0 ≤ e0 by grind)
  have te2 := Rat.mul_nonneg (show 0 ≤ 1 - t by grind) (show 0 ≤ e0 by grind)
  have w0 : 0 ≤ e1 / 2 ^ 20 := by grind
  clear q1 q2 q3 q4 i1 i2 bk
  constructor
  · intro g1 g2
    rcases (Rat.le_total : k ≤ p ∨ p ≤ k) with c | c
    · grind
    · have w := small_si (z := k - p) (t := 16 * t + e1 / 2) (by grind) (by grind) (by grind) ?_
      · grind
      · have m1 := Rat.mul_nonneg (show 0 ≤ b * co k + t - a * si k by grind) (show 0 ≤ ρ * co p by grind)
        have m2 := Rat.mul_nonneg (show 0 ≤ a * (ρ * si p) + t - b * (ρ * co p) by grind) (show 0 ≤ co k + e0 by grind)
        have := f1 (by grind) ?_
        · generalize si k * co p - co k * si p = X at *
          generalize si (k - p) = s at *
          grind
        · generalize a * (ρ * si p) = A at *
          generalize a * si k = B at *
          generalize ρ * co p = P at *
          generalize co k = c at *
          grind
  · intro g1 g2
    rcases (Rat.le_total : p ≤ k ∨ k ≤ p) with c | c
    · grind
    · have w := small_si (z := p - k) (t := 16 * t + e1 / 2) (by grind) (by grind) (by grind) ?_
      · grind
      · have m1 := Rat.mul_nonneg (show 0 ≤ a * si k + t - b * co k by grind) (show 0 ≤ ρ * co p by grind)
        have m2 := Rat.mul_nonneg (show 0 ≤ b * (ρ * co p) + t - a * (ρ * si p) by grind) (show 0 ≤ co k + e0 by grind)
        have := f2 (by grind) ?_
        · generalize si p * co k - co p * si k = X at *
          generalize si (p - k) = s at *
          grind
        · generalize a * (ρ * si p) = A at *
          generalize a * si k = B at *
          generalize ρ * co p = P at *
          generalize co k = c at *
          grind
/-- The least and the greatest angle of a box in the right half-plane hold every point's. -/
theorem half_B {y0 y1 x0 x1 : Int} {p ρ e : Rat} (hx0 : 0 < x0) (hx : x0 ≤ x1) (hy : y0 ≤ y1) (b0 : x1 ≤ 2147483648) (b1 : -2147483648 ≤ y0) (b2 : y1 ≤ 2147483648)
    (hp0 : -10800000 ≤ p) (hp1 : p ≤ 10800000) (hr0 : 0 ≤ ρ) (hr1 : ρ ≤ 8589934592) (he : 0 ≤ e) (he1 : e ≤ 1 / 2 ^ 90)
    (hX : Hs e x0 x1 (ρ * co p)) (hY : Hs e y0 y1 (ρ * si p)) : Hs (2 ^ 64 * (e + e1)) (loA y0 x0 x1) (hiA y1 x0 x1) p := by
  have u := u0_bd
  have ee : e0 = 1048576 * u0 := rfl
  have eb := e0_bd
  have e1b := e1_bd
  have X0 := lt_c hx0
  have z0 : ((0 : Int) : Rat) = 0 := rfl
  rw [z0] at X0
  have X01 := le_c hx
  have Y01 := le_c hy
  have X1 := le_c b0
  have Y0 := le_c b1
  have Y1 := le_c b2
  have zb : ((2147483648 : Int) : Rat) = 2147483648 := rfl
  have zc : ((-2147483648 : Int) : Rat) = -2147483648 := rfl
  rw [zb] at X1 Y1
  rw [zc] at Y0
  have hr : 1 / 2 ≤ ρ * co p := by unfold Hs at hX; grind
  have hp := pos_co hp0 hp1 hr0 hr1 hr
  have t0 : 0 ≤ 8589934592 * e + 2 * e1 := by grind
  have t1 : 8589934592 * e + 2 * e1 ≤ 1 / 2 ^ 50 := by grind
  obtain ⟨X, xa, xb, xc⟩ := hX.clamp he hx
  obtain ⟨Y, ya, yb, yc⟩ := hY.clamp he hy
  -- a corner's crossing, but for e
  have err : ∀ a b : Rat, (-2147483648 ≤ a ∧ a ≤ 2147483648) → (-2147483648 ≤ b ∧ b ≤ 2147483648) → -(8589934592 * e) ≤ (a * (ρ * si p) - b * (ρ * co p)) - (a * Y - b * X) ∧ (a * (ρ * si p) - b * (ρ * co p)) - (a * Y - b * X) ≤ 8589934592 * e := fun a b ha hb => by
    have m1 := mul_abs ha.1 ha.2 yc.1 yc.2
    have m2 := mul_abs hb.1 hb.2 xc.1 xc.2
    rw [show (a * (ρ * si p) - b * (ρ * co p)) - (a * Y - b * X) = a * (ρ * si p - Y) - b * (ρ * co p - X) by grind]
    generalize a * (ρ * si p - Y) = v at *
    generalize b * (ρ * co p - X) = w at *
    constructor <;> grind
  have fin : 8000000 * (16 * (8589934592 * e + 2 * e1) + e1) ≤ 2 ^ 64 * (e + e1) := by grind
  have lowK : ∀ a b : Int, In31 a b → 1 ≤ (a : Rat) → (0 ≤ (a : Rat) * Y - (b : Rat) * X) → (fl a b : Rat) ≤ p + 2 ^ 64 * (e + e1) := fun a b h ha hc => by
    have f := fl_B h
    have fb := fl_bd a b
    have A := int_bd (a := a) (by have := h; unfold In31 at this; omega)
    have B := int_bd (a := b) (by have := h; unfold In31 at this; omega)
    have k0 := le_c fb.1
    have k1 := le_c (show fl a b ≤ 5400000 by omega)
    have z5 : ((5400000 : Int) : Rat) = 5400000 := rfl
    have z6 : ((-5400000 : Int) : Rat) = -5400000 := rfl
    rw [z5] at k1
    rw [z6] at k0
    have er := err a b A B
    have c := (cross_B (a := (a : Rat)) (b := (b : Rat)) (k := (fl a b : Rat)) ha B k0 k1 hp hr0 hr t0 t1 A.2 hr1).1 (by grind) (by grind)
    grind
  have highK : ∀ a b : Int, In31 a b → 1 ≤ (a : Rat) → ((a : Rat) * Y - (b : Rat) * X ≤ 0) → p ≤ (ce a b : Rat) + 2 ^ 64 * (e + e1) := fun a b h ha hc => by
    have f := fl_B h
    have fb := fl_bd a b
    have A := int_bd (a := a) (by have := h; unfold In31 at this; omega)
    have B := int_bd (a := b) (by have := h; unfold In31 at this; omega)
    have k0 := le_c (show -5400000 ≤ ce a b by omega)
    have k1 := le_c fb.2.2.1
    have z5 : ((5400000 : Int) : Rat) = 5400000 := rfl
    have z6 : ((-5400000 : Int) : Rat) = -5400000 := rfl
    rw [z5] at k1
    rw [z6] at k0
    have er := err a b A B
    have c := (cross_B (a := (a : Rat)) (b := (b : Rat)) (k := (ce a b : Rat)) ha B k0 k1 hp hr0 hr t0 t1 A.2 hr1).2 (by grind) (by grind)
    grind
  clear err fin hX hY
  unfold Hs
  constructor
  · have : (loA y0 x0 x1 : Rat) ≤ p + 2 ^ 64 * (e + e1) := by
      unfold loA
      by_cases h : 0 ≤ y0
      · rw [if_pos h]
        have h' := le_c h
        rw [z0] at h'
        refine lowK x1 y0 ⟨by omega, b0, by omega, by omega⟩ (by grind) ?_
        have m1 := Rat.mul_nonneg (show 0 ≤ (x1 : Rat) by grind) (show 0 ≤ Y - (y0 : Rat) by grind)
        have m2 := Rat.mul_nonneg h' (show 0 ≤ (x1 : Rat) - X by grind)
        grind
      · rw [if_neg h]
        have h' := le_c (show y0 ≤ 0 by omega)
        rw [z0] at h'
        refine lowK x0 y0 ⟨by omega, by omega, by omega, by omega⟩ (by grind) ?_
        have m1 := Rat.mul_nonneg (show 0 ≤ (x0 : Rat) by grind) (show 0 ≤ Y - (y0 : Rat) by grind)
        have m2 := Rat.mul_nonneg (show 0 ≤ -(y0 : Rat) by grind) (show 0 ≤ X - (x0 : Rat) by grind)
        grind
    grind
  · unfold hiA
    by_cases h : 0 ≤ y1
    · rw [if_pos h]
      have h' := le_c h
      rw [z0] at h'
      refine highK x0 y1 ⟨by omega, by omega, by omega, by omega⟩ (by grind) ?_
      have m1 := Rat.mul_nonneg (show 0 ≤ (x0 : Rat) by grind) (show 0 ≤ (y1 : Rat) - Y by grind)
      have m2 := Rat.mul_nonneg h' (show 0 ≤ X - (x0 : Rat) by grind)
      grind
    · rw [if_neg h]
      have h' := le_c (show y1 ≤ 0 by omega)
      rw [z0] at h'
      refine highK x1 y1 ⟨by omega, by omega, by omega, by omega⟩ (by grind) ?_
      have m1 := Rat.mul_nonneg (show 0 ≤ (x1 : Rat) by grind) (show 0 ≤ (y1 : Rat) - Y by grind)
      have m2 := Rat.mul_nonneg (show 0 ≤ -(y1 : Rat) by grind) (show 0 ≤ (x1 : Rat) - X by grind)
      grind
/-- A direction's arc holds an angle, but for whole turns. -/
def Dr (d : Rat) (lo hi : Int) (q : Rat) : Prop := ∃ m : Int, Hs d lo hi (q + 21600000 * (m : Rat))
theorem Dr.all {d : Rat} (hd : 0 ≤ d) (q : Rat) : Dr d 0 21600000 q := by
  have a := Rat.floor_le (q / 21600000)
  have b := Rat.lt_floor_add_one (q / 21600000)
  rw [i_cast, show ((1 : Int) : Rat) = 1 by rfl] at b
  refine ⟨-(q / 21600000).floor, ?_⟩
  rw [Rat.intCast_neg]
  unfold Hs
  rw [show ((0 : Int) : Rat) = 0 by rfl, show ((21600000 : Int) : Rat) = 21600000 by rfl]
  generalize ((q / 21600000).floor : Rat) = f at *
  constructor <;> grind
/-- **Bearing holds the direction.** -/
theorem bear_B {yl yh xl xh : Int} {q ρ e : Rat} (hvy : validB yl yh = true) (hvx : validB xl xh = true) (hr0 : 0 ≤ ρ) (hr1 : ρ ≤ 8589934592) (he : 0 ≤ e) (he1 : e ≤ 1 / 2 ^ 91)
    (hY : Hs e yl yh (ρ * si q)) (hX : Hs e xl xh (ρ * co q)) : (bearR yl yh xl xh).2.2 = 0 ∧ Dr (2 ^ 64 * (e + 2 * e1)) (bearR yl yh xl xh).1 (bearR yl yh xl xh).2.1 q := by
  have u := u0_bd
  have ee : e0 = 1048576 * u0 := rfl
  have eb := e0_bd
  have e1b := e1_bd
  have be := big_f
  cases ho : originB yl yh xl xh with
  | true =>
    have ev : bearR yl yh xl xh = (0, 21600000, 0) := by
      unfold bearR
      rw [hvy, hvx, ho]
      simp
    rw [ev]
    exact ⟨rfl, Dr.all (by grind) q⟩
  | false =>
    obtain ⟨j, hj, hx0⟩ := half_ex ho
    obtain ⟨y0, y1, x0, x1, hr⟩ : ∃ y0 y1 x0 x1, rbox yl yh xl xh j = (y0, y1, x0, x1) := ⟨_, _, _, _, rfl⟩
    rw [hr] at hx0
    dsimp only at hx0
    have ev := bear_str hvx hvy ho hj hr hx0
    have vx := val_bd hvx
    have vy := val_bd hvy
    -- the point turned back
    have rot : Hs (e + e1) x0 x1 (ρ * co (rdq (q - 5400000 * (j : Rat)))) ∧ Hs (e + e1) y0 y1 (ρ * si (rdq (q - 5400000 * (j : Rat)))) := by
      have t := turn_eq (q - 5400000 * (j : Rat)) (-tm (q - 5400000 * (j : Rat)))
      have er : (q - 5400000 * (j : Rat)) + 21600000 * ((-tm (q - 5400000 * (j : Rat)) : Int) : Rat) = rdq (q - 5400000 * (j : Rat)) := by
        unfold rdq
        rw [Rat.intCast_neg]
        grind
      rw [er] at t
      rw [t.1, t.2]
      have sc : ∀ {p r : Rat}, Cl (40000 * u0) p r → Cl e1 (ρ * p) (ρ * r) := fun {p r} h => by
        have m := mul_abs (a := ρ) (b := p - r) (A := 8589934592) (B := 40000 * u0) (by grind) hr1 h.1 h.2
        unfold Cl
        rw [show ρ * p - ρ * r = ρ * (p - r) by grind]
        generalize ρ * (p - r) = w at *
        constructor <;> grind
      rcases (show j = 0 ∨ j = 1 ∨ j = 2 ∨ j = 3 by omega) with rfl | rfl | rfl | rfl <;> simp only [rbox, Prod.mk.injEq] at hr <;> obtain ⟨rfl, rfl, rfl, rfl⟩ := hr
      · rw [show ((0 : Nat) : Rat) = 0 by rfl, show q - 5400000 * 0 = q by grind]
        exact ⟨hX.wide (by grind) (Int.le_refl _) (Int.le_refl _), hY.wide (by grind) (Int.le_refl _) (Int.le_refl _)⟩
      · rw [show ((1 : Nat) : Rat) = 1 by rfl, show q - 5400000 * 1 = q - 5400000 by grind]
        have b := backq q
        have s1 := sc (b.1.wide (f := 40000 * u0) (by grind))
        have s2 := sc (b.2.wide (f := 40000 * u0) (by grind))
        rw [show ρ * -co q = -(ρ * co q) by grind] at s1
        exact ⟨hY.near s2, hX.neg.near s1⟩
      · rw [show ((2 : Nat) : Rat) = 2 by rfl, show q - 5400000 * 2 = q - 10800000 by grind]
        have o := oppq (q - 10800000)
        rw [show q - 10800000 + 10800000 = q by grind] at o
        have s1 := (sc (o.1.wide (f := 40000 * u0) (by grind))).neg.symm
        have s2 := (sc (o.2.wide (f := 40000 * u0) (by grind))).neg.symm
        rw [show -(ρ * -co (q - 10800000)) = ρ * co (q - 10800000) by grind] at s1
        rw [show -(ρ * -si (q - 10800000)) = ρ * si (q - 10800000) by grind] at s2
        exact ⟨hX.neg.near s1, hY.neg.near s2⟩
      · have b := coq (-q)
        have n := negq q
        rw [show 5400000 - -q = q + 5400000 by grind] at b
        have t2 := turn_eq (q - 5400000 * ((3 : Nat) : Rat)) 1
        rw [show ((1 : Int) : Rat) = 1 by rfl, show ((3 : Nat) : Rat) = 3 by rfl, show q - 5400000 * 3 + 21600000 * 1 = q + 5400000 by grind] at t2
        rw [show ((3 : Nat) : Rat) = 3 by rfl, ← t2.1, ← t2.2]
        have s1 := sc ((b.1.trans n.1).wide (f := 40000 * u0) (by grind))
        have s2 := sc ((b.2.trans n.2).wide (f := 40000 * u0) (by grind))
        rw [show ρ * -si q = -(ρ * si q) by grind] at s2
        exact ⟨hY.neg.near s2, hX.near s1⟩
    have hbd : x0 ≤ x1 ∧ y0 ≤ y1 ∧ x1 ≤ 2147483648 ∧ -2147483648 ≤ y0 ∧ y1 ≤ 2147483648 := by
      rcases (show j = 0 ∨ j = 1 ∨ j = 2 ∨ j = 3 by omega) with rfl | rfl | rfl | rfl <;> simp only [rbox, Prod.mk.injEq] at hr <;> omega
    have rb := rdq_bd (q - 5400000 * (j : Rat))
    have h := half_B hx0 hbd.1 hbd.2.1 hbd.2.2.1 hbd.2.2.2.1 hbd.2.2.2.2 rb.1 (by grind) hr0 hr1 (e := e + e1) (by grind) (by grind) rot.1 rot.2
    rw [ev]
    refine ⟨rfl, ?_⟩
    obtain ⟨k, hk⟩ : ∃ k : Int, (loA y0 x0 x1 + 5400000 * (j : Int)) % 21600000 = loA y0 x0 x1 + 5400000 * (j : Int) - 21600000 * k := ⟨(loA y0 x0 x1 + 5400000 * (j : Int)) / 21600000, by omega⟩
    refine ⟨-tm (q - 5400000 * (j : Rat)) - k, ?_⟩
    dsimp only
    rw [hk]
    unfold Hs at h ⊢
    have ej : ((j : Int) : Rat) = (j : Rat) := rfl
    rw [Rat.intCast_add, Rat.intCast_sub, Rat.intCast_add, Rat.intCast_mul, Rat.intCast_mul, ej, Rat.intCast_sub, Rat.intCast_sub, Rat.intCast_neg, show ((5400000 : Int) : Rat) = 5400000 by rfl, show ((21600000 : Int) : Rat) = 21600000 by rfl]
    have er : rdq (q - 5400000 * (j : Rat)) = q - 5400000 * (j : Rat) - 21600000 * (tm (q - 5400000 * (j : Rat)) : Rat) := rfl
    rw [er] at h
    generalize (tm (q - 5400000 * (j : Rat)) : Rat) = M at *
    generalize (loA y0 x0 x1 : Rat) = A at *
    generalize (hiA y1 x0 x1 : Rat) = B at *
    clear rot ev rb
    constructor <;> grind
end TB
end Go.Proofs.YtfilgpifiboccaaGreat

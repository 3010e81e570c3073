/-
  What the program's enclosures hold: sines, cosines, haversines, sums, products, arcsines of true values. No program here.
-/
import Derived.Test.YtkfkddbglnbjgaaGreatTb3
import Derived.Test.YtkfkddbglnbjgaaGreatMo
namespace Go.Proofs.YtkfkddbglnbjgaaGreat
namespace TB
open SM TA
theorem i_cast (a b : Int) : ((a + b : Int) : Rat) = (a : Rat) + (b : Rat) := Rat.intCast_add a b
theorem le_c {a b : Int} (h : a ≤ b) : (a : Rat) ≤ (b : Rat) := Rat.intCast_le_intCast.2 h
theorem lt_c {a b : Int} (h : a < b) : (a : Rat) + 1 ≤ (b : Rat) := by
  have := le_c (show a + 1 ≤ b by omega)
  rw [i_cast] at this
  exact this
theorem c_le {a b : Int} (h : (a : Rat) ≤ (b : Rat)) : a ≤ b := Rat.intCast_le_intCast.1 h
theorem of_c {a b : Int} {e : Rat} (h : (a : Rat) ≤ (b : Rat) + e) (he : e < 1) : a ≤ b := by
  rcases Int.lt_or_le b a with q | q
  · have := lt_c q
    grind
  · exact q
/-! ### Integer angles -/
theorem mod_eq (n : Int) : si (n : Rat) = si ((n % 21600000 : Int) : Rat) ∧ co (n : Rat) = co ((n % 21600000 : Int) : Rat) := by
  have e : (n : Rat) = ((n % 21600000 : Int) : Rat) + 21600000 * ((n / 21600000 : Int) : Rat) := by
    have h : ((n % 21600000 + 21600000 * (n / 21600000) : Int) : Rat) = (n : Rat) := by rw [Int.emod_add_mul_ediv]
    rw [i_cast, Rat.intCast_mul] at h
    exact h.symm
  have t := turn_eq ((n % 21600000 : Int) : Rat) (n / 21600000)
  rw [← e] at t
  exact ⟨t.2, t.1⟩
theorem reflq (q : Rat) : Cl (22000 * u0) (si (10800000 - q)) (si q) := by
  have o := (oppq (-q)).2
  have n := (negq q).2.neg
  have u := u0_bd
  rw [show -q + 10800000 = 10800000 - q by grind] at o
  rw [show - -si q = si q by grind] at n
  exact (o.trans n).wide (by grind)
theorem th_near : -(1 / 2 ^ 80) ≤ (tb - th) * 5400000 ∧ (tb - th) * 5400000 ≤ 1 / 2 ^ 80 := by decide +kernel
theorem tail_B : En 652 (8 / 5) - En 100 (8 / 5) ≤ 1 / 2 ^ 100 := by decide +kernel
theorem tail_0 : En 100 (1 / 2 ^ 80) - En 0 (1 / 2 ^ 80) ≤ 1 / 2 ^ 79 := by decide +kernel
/-- The program's polynomial is near. -/
theorem near_TB (k : Nat) (h : k ≤ 5400000) : Cl (1 / 2 ^ 60) (si (k : Rat)) (T k) := by
  have n := near_T k h
  have k0 : (0 : Rat) ≤ (k : Rat) := by exact_mod_cast Nat.zero_le k
  have k1 : (k : Rat) ≤ 5400000 := by
    have : (k : Rat) ≤ ((5400000 : Nat) : Rat) := by exact_mod_cast h
    exact this
  have e : rd (k : Int) = (k : Int) := by unfold rd; omega
  have ek : ((k : Int) : Rat) = (k : Rat) := rfl
  have es : si (k : Rat) = Sn 652 (tb * (k : Rat)) := by
    unfold si
    rw [rdq_id (by grind) (by grind)]
    rfl
  have eq : sinQ (k : Int) = Sn 100 (th * (k : Rat)) := by
    unfold sinQ
    rw [e, ek]
  have x := tb_q k0 k1
  have a := tailS 100 552 652 rfl (x := tb * (k : Rat)) (X := 8 / 5) (by grind) x.2 tail_B
  have t := th_near
  have t0 := th_bd
  have d : -(1 / 2 ^ 80) ≤ (tb - th) * (k : Rat) ∧ (tb - th) * (k : Rat) ≤ 1 / 2 ^ 80 := by
    have z : (0 : Rat) ≤ 1 / 2 ^ 80 := by decide +kernel
    have e : (tb - th) * (k : Rat) * 5400000 = (tb - th) * 5400000 * (k : Rat) := by grind
    have m1 := Rat.mul_nonneg (show 0 ≤ 1 / 2 ^ 80 - (tb - th) * 5400000 by grind) k0
    have m2 := Rat.mul_nonneg (show 0 ≤ 1 / 2 ^ 80 + (tb - th) * 5400000 by grind) k0
    have m3 := Rat.mul_nonneg z (show 0 ≤ 5400000 - (k : Rat) by grind)
    generalize (tb - th) * (k : Rat) = y at *
    constructor <;> grind
  have hy : -(32 / 5) ≤ (tb - th) * (k : Rat) ∧ (tb - th) * (k : Rat) ≤ 32 / 5 := by constructor <;> grind
  have hx : -(32 / 5) ≤ th * (k : Rat) ∧ th * (k : Rat) ≤ 32 / 5 := by
    have : th * (k : Rat) = tb * (k : Rat) - (tb - th) * (k : Rat) := by grind
    rw [this]
    constructor <;> grind
  have ad := (addition 100 (x := th * (k : Rat)) (y := (tb - th) * (k : Rat)) (X := 32 / 5) hx.1 hx.2 hy.1 hy.2).2
  have r := rest_100
  have b := part_bd hx.1 hx.2
  have c := tailC 0 100 100 rfl (x := (tb - th) * (k : Rat)) (X := 1 / 2 ^ 80) d.1 d.2 tail_0
  have s := tailS 0 100 100 rfl (x := (tb - th) * (k : Rat)) (X := 1 / 2 ^ 80) d.1 d.2 tail_0
  have c0 : Cn 0 ((tb - th) * (k : Rat)) = 1 := by simp [Cn, sm, sc, P]; grind
  have s0 : Sn 0 ((tb - th) * (k : Rat)) = 0 := by simp [Sn, sm, ss, P]; grind
  rw [c0] at c
  rw [s0] at s
  rw [show th * (k : Rat) + (tb - th) * (k : Rat) = tb * (k : Rat) by grind] at ad
  have m1 := near_mul b.2 (c := Cn 100 ((tb - th) * (k : Rat)) - 1) (k := 1 / 2 ^ 79) ⟨by grind, by grind⟩
  have m2 := near_mul b.1 (c := Sn 100 ((tb - th) * (k : Rat)) - 0) (k := 1 / 2 ^ 79) ⟨by grind, by grind⟩
  rw [eq] at n
  rw [es]
  unfold Cl
  clear b c s d hx hy x t t0
  generalize Sn 100 (th * (k : Rat)) = A at *
  generalize Cn 100 (th * (k : Rat)) = B at *
  generalize Cn 100 ((tb - th) * (k : Rat)) = D at *
  generalize Sn 100 ((tb - th) * (k : Rat)) = E at *
  generalize Sn 100 (tb * (k : Rat)) = F at *
  generalize Sn 652 (tb * (k : Rat)) = G at *
  generalize rest 100 (32 / 5) = R at *
  constructor <;> grind
/-- One times the sine, and the cosine. -/
def Sq (q : Rat) : Rat := 1073741824 * si q
def Cq (q : Rat) : Rat := 1073741824 * co q
theorem big_e : 1073741824 * 1048576 * e0 ≤ e1 := by decide +kernel
theorem flo_B (k : Nat) (hk : k ≤ 5400000) : (flo k : Rat) - e1 ≤ Sq (k : Rat) ∧ Sq (k : Rat) ≤ (upf k : Rat) + e1 := by
  have g : G86 = 77371252455336267181195264 := rfl
  have eb := e1_bd
  unfold Sq
  cases hx : exa k with
  | false =>
    have n := near_TB k hk
    have e : ((upf k : Int) : Rat) = (flo k : Rat) + 1 := by
      unfold upf
      rw [hx]
      show (((flo k : Int) + 1 : Int) : Rat) = _
      rw [Rat.intCast_add]
      rfl
    have p := gap k hk hx
    rw [g] at p
    rw [e]
    unfold Cl at n
    generalize si (k : Rat) = s at *
    generalize T k = t at *
    generalize (flo k : Rat) = f at *
    constructor <;> grind
  | true =>
    have e : ((upf k : Int) : Rat) = (flo k : Rat) := by
      unfold upf
      rw [hx]
      rfl
    rw [e]
    have h0 : k = 0 ∨ k = 1800000 ∨ k = 5400000 := by
      unfold exa at hx
      simp only [Bool.or_eq_true, beq_iff_eq] at hx
      omega
    have f0 : ((flo 0 : Nat) : Rat) = 0 := rfl
    have f1 : ((flo 1800000 : Nat) : Rat) = 536870912 := rfl
    have f2 : ((flo 5400000 : Nat) : Rat) = 1073741824 := rfl
    have u := u0_bd
    have ee : e0 = 1048576 * u0 := rfl
    have be := big_e
    rcases h0 with rfl | rfl | rfl
    · rw [f0, show ((0 : Nat) : Rat) = 0 by rfl, si_0]
      constructor <;> grind
    · have x := third_B
      have y : si ((1800000 : Nat) : Rat) = Sn 652 (tb * 1800000) := by
        unfold si
        rw [show ((1800000 : Nat) : Rat) = 1800000 by rfl, rdq_id (by grind) (by grind)]
        rfl
      rw [f1, y]
      generalize Sn 652 (tb * 1800000) = s at *
      constructor <;> grind
    · have x := quartq.2
      rw [f2, show ((5400000 : Nat) : Rat) = 5400000 by rfl]
      unfold Cl at x
      generalize si 5400000 = s at *
      constructor <;> grind
theorem red_B (n : Int) : (south n = false → Cl e0 (si (n : Rat)) (si (red n : Rat))) ∧ (south n = true → Cl e0 (si (n : Rat)) (-si (red n : Rat))) := by
  have ee : e0 = 1048576 * u0 := rfl
  have u := u0_bd
  have cast : ∀ (m : Int) (k : Nat), (k : Int) = m → (k : Rat) = (m : Rat) := fun m k h => by subst h; rfl
  unfold south red
  have m0 := Int.emod_nonneg n (show (21600000 : Int) ≠ 0 by omega)
  have m1 := Int.emod_lt_of_pos n (show (0 : Int) < 21600000 by omega)
  rw [(mod_eq n).1]
  generalize n % 21600000 = m at *
  have z1 : ((10800000 : Int) : Rat) = 10800000 := rfl
  have z2 : ((21600000 : Int) : Rat) = 21600000 := rfl
  constructor
  · intro h
    have h := of_decide_eq_false h
    dsimp only
    by_cases c : m ≤ 5400000
    · rw [if_pos c, cast m _ (by omega)]
      exact Cl.refl _ (by grind)
    · rw [if_neg c, if_pos (by omega), cast (10800000 - m) _ (by omega), Rat.intCast_sub, z1]
      exact (reflq _).symm.wide (by grind)
  · intro h
    have h := of_decide_eq_true h
    dsimp only
    rw [if_neg (by omega), if_neg (by omega)]
    by_cases c : m ≤ 16200000
    · rw [if_pos c, cast (m - 10800000) _ (by omega), Rat.intCast_sub, z1]
      have o := (oppq ((m : Rat) - 10800000)).2
      rw [show (m : Rat) - 10800000 + 10800000 = (m : Rat) by grind] at o
      exact o.wide (by grind)
    · rw [if_neg c, cast (21600000 - m) _ (by omega), Rat.intCast_sub, z2]
      have o := (negq ((21600000 : Rat) - m)).2
      have t := turn_eq (-((21600000 : Rat) - m)) 1
      rw [show ((1 : Int) : Rat) = 1 by rfl, show -((21600000 : Rat) - m) + 21600000 * 1 = (m : Rat) by grind] at t
      rw [← t.2] at o
      exact o.wide (by grind)
/-- **The bounds hold the sine.** -/
theorem lob_B (n : Int) : (lob n : Rat) - 2 * e1 ≤ Sq (n : Rat) ∧ Sq (n : Rat) ≤ (hib n : Rat) + 2 * e1 := by
  have f := flo_B (red n) (red_le n)
  have r := red_B n
  have be := big_e
  have eb := e0_bd
  unfold lob hib
  unfold Sq at *
  cases hs : south n with
  | false =>
    have r := r.1 hs
    simp only [Bool.false_eq_true, if_false]
    have e : (((flo (red n) : Nat) : Int) : Rat) = (flo (red n) : Rat) := rfl
    rw [e]
    unfold Cl at r
    generalize si (n : Rat) = x at *
    generalize si (red n : Rat) = y at *
    generalize (flo (red n) : Rat) = p at *
    generalize (upf (red n) : Rat) = q at *
    constructor <;> grind
  | true =>
    have r := r.2 hs
    simp only [if_true]
    have e : (((flo (red n) : Nat) : Int) : Rat) = (flo (red n) : Rat) := rfl
    rw [Rat.intCast_neg, Rat.intCast_neg, e]
    unfold Cl at r
    generalize si (n : Rat) = x at *
    generalize si (red n : Rat) = y at *
    generalize (flo (red n) : Rat) = p at *
    generalize (upf (red n) : Rat) = q at *
    constructor <;> grind
/-! ### What an interval, and an arc, hold -/
def Hs (e : Rat) (lo hi : Int) (X : Rat) : Prop := (lo : Rat) - e ≤ X ∧ X ≤ (hi : Rat) + e
theorem Hs.wide {e f : Rat} {lo hi lo' hi' : Int} {X : Rat} (h : Hs e lo hi X) (he : e ≤ f) (h1 : lo' ≤ lo) (h2 : hi ≤ hi') : Hs f lo' hi' X := by
  have a := le_c h1
  have b := le_c h2
  unfold Hs at *
  constructor <;> grind
theorem Hs.near {e f : Rat} {lo hi : Int} {X Y : Rat} (h : Hs e lo hi X) (k : Cl f Y X) : Hs (e + f) lo hi Y := by
  unfold Hs Cl at *
  constructor <;> grind
theorem Hs.int {e : Rat} {lo hi n : Int} (he : 0 ≤ e) (h1 : lo ≤ n) (h2 : n ≤ hi) : Hs e lo hi (n : Rat) := by
  have a := le_c h1
  have b := le_c h2
  unfold Hs
  constructor <;> grind
theorem Hs.meet {e f : Rat} {a b c d : Int} {X : Rat} (h : Hs e a b X) (k : Hs f c d X) (he : e + f < 1) : a ≤ d ∧ c ≤ b := by
  unfold Hs at *
  constructor
  · refine of_c (e := e + f) ?_ he; grind
  · refine of_c (e := e + f) ?_ he; grind
theorem Hs.clamp {e : Rat} {a b : Int} {X : Rat} (he : 0 ≤ e) (h : Hs e a b X) (hab : a ≤ b) : ∃ X' : Rat, (a : Rat) ≤ X' ∧ X' ≤ (b : Rat) ∧ Cl e X X' := by
  have q := le_c hab
  unfold Hs at h
  unfold Cl
  by_cases c1 : X ≤ (a : Rat)
  · exact ⟨a, by grind, by grind, by grind, by grind⟩
  · by_cases c2 : (b : Rat) ≤ X
    · exact ⟨b, by grind, by grind, by grind, by grind⟩
    · exact ⟨X, by grind, by grind, by grind, by grind⟩
theorem Hs.neg {e : Rat} {a b : Int} {X : Rat} (h : Hs e a b X) : Hs e (-b) (-a) (-X) := by
  unfold Hs at *
  rw [Rat.intCast_neg, Rat.intCast_neg]
  constructor <;> grind
theorem Hs.add {e f : Rat} {a b c d : Int} {X Y : Rat} (h1 : Hs e a b X) (h2 : Hs f c d Y) : Hs (e + f) (a + c) (b + d) (X + Y) := by
  unfold Hs at *
  rw [Rat.intCast_add, Rat.intCast_add]
  constructor <;> grind
theorem Hs.sub {e f : Rat} {a b c d : Int} {X Y : Rat} (h1 : Hs e a b X) (h2 : Hs f c d Y) : Hs (e + f) (a - d) (b - c) (X - Y) := by
  unfold Hs at *
  rw [Rat.intCast_sub, Rat.intCast_sub]
  constructor <;> grind
/-- Between two whole angles the sine is between theirs. -/
theorem between (q : Rat) : (si ((q.floor : Int) : Rat) ≤ si q + 9 * e0 ∧ si q ≤ si ((q.floor + 1 : Int) : Rat) + 9 * e0) ∨ (si ((q.floor + 1 : Int) : Rat) ≤ si q + 9 * e0 ∧ si q ≤ si ((q.floor : Int) : Rat) + 9 * e0) := by
  have f0 := Rat.floor_le q
  have f1 := Rat.lt_floor_add_one q
  rw [i_cast] at f1 ⊢
  have z : ((1 : Int) : Rat) = 1 := rfl
  rw [z] at f1 ⊢
  generalize q.floor = n at *
  have ee : e0 = 1048576 * u0 := rfl
  have u := u0_bd
  obtain ⟨m, hm⟩ : ∃ m : Int, m = (n + 5400000) / 21600000 := ⟨_, rfl⟩
  have s0 : -5400000 ≤ n - 21600000 * m := by omega
  have s1 : n - 21600000 * m < 16200000 := by omega
  clear hm
  have t1 := (turn_eq q (-m)).2
  have t2 := (turn_eq (n : Rat) (-m)).2
  have t3 := (turn_eq ((n : Rat) + 1) (-m)).2
  have c0 : -5400000 ≤ (n : Rat) - 21600000 * (m : Rat) := by
    have := le_c s0
    rw [Rat.intCast_sub, Rat.intCast_mul] at this
    exact this
  rw [Rat.intCast_neg] at t1 t2 t3
  rw [← t1, ← t2, ← t3]
  have sqa := sq_nn (q - (n : Rat))
  have sqb := sq_nn ((n : Rat) + 1 - q)
  by_cases c : n - 21600000 * m < 5400000
  · left
    have c1 : (n : Rat) - 21600000 * (m : Rat) + 1 ≤ 5400000 := by
      have := lt_c c
      rw [Rat.intCast_sub, Rat.intCast_mul] at this
      exact this
    have g1 := grow (p := (n : Rat) + 21600000 * -(m : Rat)) (q := q + 21600000 * -(m : Rat)) (by grind) (by grind) (by grind)
    have g2 := grow (p := q + 21600000 * -(m : Rat)) (q := (n : Rat) + 1 + 21600000 * -(m : Rat)) (by grind) (by grind) (by grind)
    rw [show q + 21600000 * -(m : Rat) - ((n : Rat) + 21600000 * -(m : Rat)) = q - (n : Rat) by grind] at g1
    rw [show (n : Rat) + 1 + 21600000 * -(m : Rat) - (q + 21600000 * -(m : Rat)) = (n : Rat) + 1 - q by grind] at g2
    generalize si (q + 21600000 * -(m : Rat)) = y at *
    generalize si ((n : Rat) + 21600000 * -(m : Rat)) = y1 at *
    generalize si ((n : Rat) + 1 + 21600000 * -(m : Rat)) = y2 at *
    generalize (q - (n : Rat)) * (q - (n : Rat)) = w1 at *
    generalize ((n : Rat) + 1 - q) * ((n : Rat) + 1 - q) = w2 at *
    constructor <;> grind
  · right
    have c1 : 5400000 ≤ (n : Rat) - 21600000 * (m : Rat) := by
      have := le_c (show 5400000 ≤ n - 21600000 * m by omega)
      rw [Rat.intCast_sub, Rat.intCast_mul] at this
      exact this
    have c2 : (n : Rat) - 21600000 * (m : Rat) + 1 ≤ 16200000 := by
      have := lt_c s1
      rw [Rat.intCast_sub, Rat.intCast_mul] at this
      exact this
    have r1 := reflq (q + 21600000 * -(m : Rat))
    have r2 := reflq ((n : Rat) + 21600000 * -(m : Rat))
    have r3 := reflq ((n : Rat) + 1 + 21600000 * -(m : Rat))
    have g1 := grow (p := 10800000 - (q + 21600000 * -(m : Rat))) (q := 10800000 - ((n : Rat) + 21600000 * -(m : Rat))) (by grind) (by grind) (by grind)
    have g2 := grow (p := 10800000 - ((n : Rat) + 1 + 21600000 * -(m : Rat))) (q := 10800000 - (q + 21600000 * -(m : Rat))) (by grind) (by grind) (by grind)
    rw [show 10800000 - ((n : Rat) + 21600000 * -(m : Rat)) - (10800000 - (q + 21600000 * -(m : Rat))) = q - (n : Rat) by grind] at g1
    rw [show 10800000 - (q + 21600000 * -(m : Rat)) - (10800000 - ((n : Rat) + 1 + 21600000 * -(m : Rat))) = (n : Rat) + 1 - q by grind] at g2
    unfold Cl at r1 r2 r3
    generalize si (10800000 - (q + 21600000 * -(m : Rat))) = z at *
    generalize si (10800000 - ((n : Rat) + 21600000 * -(m : Rat))) = z1 at *
    generalize si (10800000 - ((n : Rat) + 1 + 21600000 * -(m : Rat))) = z2 at *
    generalize si (q + 21600000 * -(m : Rat)) = y at *
    generalize si ((n : Rat) + 21600000 * -(m : Rat)) = y1 at *
    generalize si ((n : Rat) + 1 + 21600000 * -(m : Rat)) = y2 at *
    generalize (q - (n : Rat)) * (q - (n : Rat)) = w1 at *
    generalize ((n : Rat) + 1 - q) * ((n : Rat) + 1 - q) = w2 at *
    constructor <;> grind
/-- The enclosure of the sine over an arc holds the sine of an angle within. -/
theorem enc_real {lo hi : Int} {q : Rat} (h1 : (lo : Rat) ≤ q) (h2 : q ≤ (hi : Rat)) : Hs (3 * e1) (encL lo hi) (encH lo hi) (Sq q) := by
  have f0 := Rat.floor_le q
  have f1 := Rat.lt_floor_add_one q
  have be := big_e
  have eb := e0_bd
  have b := between q
  have l0 : lo ≤ q.floor := Rat.le_floor_iff.2 h1
  have l1 : q.floor ≤ hi := c_le (by grind)
  have a1 := lob_B q.floor
  have p1 := le_c (encL_has l0 l1)
  have p2 := le_c (encH_has l0 l1)
  by_cases c : q.floor = hi
  · -- then the angle is the end itself
    have e : q = ((q.floor : Int) : Rat) := by rw [c] at f0 ⊢; grind
    rw [← e] at a1
    unfold Hs
    have := e1_bd
    generalize Sq q = s at *
    constructor <;> grind
  · have a2 := lob_B (q.floor + 1)
    have q1 := le_c (encL_has (lo := lo) (hi := hi) (n := q.floor + 1) (by omega) (by omega))
    have q2 := le_c (encH_has (lo := lo) (hi := hi) (n := q.floor + 1) (by omega) (by omega))
    unfold Sq at *
    unfold Hs
    generalize si q = s at *
    generalize si ((q.floor : Int) : Rat) = s1 at *
    generalize si ((q.floor + 1 : Int) : Rat) = s2 at *
    generalize (lob q.floor : Rat) = x1 at *
    generalize (hib q.floor : Rat) = x2 at *
    generalize (lob (q.floor + 1) : Rat) = x3 at *
    generalize (hib (q.floor + 1) : Rat) = x4 at *
    generalize (encL lo hi : Rat) = y1 at *
    generalize (encH lo hi : Rat) = y2 at *
    clear f0 f1 h1 h2
    rcases b with b | b <;> constructor <;> grind
/-- Near angles, in the scale of One. -/
theorem Sq_near {d p q : Rat} (h : Cl d p q) (hd : d ≤ 1) : Cl (2000 * d + e1) (Sq p) (Sq q) ∧ Cl (2000 * d + e1) (Cq p) (Cq q) := by
  have be := big_e
  have eb := e0_bd
  unfold Cl at h
  unfold Sq Cq
  rcases (Rat.le_total : p ≤ q ∨ q ≤ p) with c | c
  · have l := lip c (by grind)
    unfold Cl at *
    generalize si p = x1 at *
    generalize si q = x2 at *
    generalize co p = x3 at *
    generalize co q = x4 at *
    refine ⟨⟨?_, ?_⟩, ?_, ?_⟩ <;> grind
  · have l := lip c (by grind)
    unfold Cl at *
    generalize si p = x1 at *
    generalize si q = x2 at *
    generalize co p = x3 at *
    generalize co q = x4 at *
    refine ⟨⟨?_, ?_⟩, ?_, ?_⟩ <;> grind
theorem enc_B {d : Rat} {lo hi : Int} {q : Rat} (hd : 0 ≤ d) (hd1 : d ≤ 1) (hl : lo ≤ hi) (h : Hs d lo hi q) : Hs (2000 * d + 4 * e1) (encL lo hi) (encH lo hi) (Sq q) := by
  obtain ⟨q', a, b, c⟩ := h.clamp hd hl
  have k := (enc_real a b).near (Sq_near c hd1).1
  exact k.wide (by grind) (Int.le_refl _) (Int.le_refl _)
theorem Cq_Sq (q : Rat) : Cl e1 (Cq q) (Sq (q + 5400000)) := by
  have a := (coq (-q)).1
  have n := (negq q).1
  have u := u0_bd
  have ee : e0 = 1048576 * u0 := rfl
  have be := big_e
  rw [show 5400000 - -q = q + 5400000 by grind] at a
  unfold Cq Sq
  unfold Cl at *
  generalize si (q + 5400000) = x at *
  generalize co (-q) = y at *
  generalize co q = z at *
  constructor <;> grind
theorem aval_le {a b : Int} (h : avalidB a b = true) : a ≤ b := by
  have : -1099511627776 ≤ a ∧ a ≤ b ∧ b ≤ 1099511627776 := by simpa [avalidB] using h
  omega
/-- **Sines and cosines of arcs.** -/
theorem sin_B {d : Rat} {lo hi : Int} {q : Rat} (hv : avalidB lo hi = true) (hd : 0 ≤ d) (hd1 : d ≤ 1) (h : Hs d lo hi q) : Hs (2000 * d + 4 * e1) (sinR lo hi).1 (sinR lo hi).2.1 (Sq q) := by
  have k := enc_B hd hd1 (aval_le hv) h
  have e1 : (sinR lo hi).1 = encL lo hi := by simp [sinR, hv]
  have e2 : (sinR lo hi).2.1 = encH lo hi := by simp [sinR, hv]
  rw [e1, e2]
  exact k
theorem cos_B {d : Rat} {lo hi : Int} {q : Rat} (hv : avalidB lo hi = true) (hd : 0 ≤ d) (hd1 : d ≤ 1) (h : Hs d lo hi q) : Hs (2000 * d + 5 * e1) (cosR lo hi).1 (cosR lo hi).2.1 (Cq q) := by
  have hq : Hs d (lo + 5400000) (hi + 5400000) (q + 5400000) := by
    unfold Hs at *
    rw [i_cast, i_cast]
    have z : ((5400000 : Int) : Rat) = 5400000 := rfl
    rw [z]
    constructor <;> grind
  have k := (enc_B hd hd1 (by have := aval_le hv; omega) hq).near (Cq_Sq q)
  have e1 : (cosR lo hi).1 = encL (lo + 5400000) (hi + 5400000) := by simp [cosR, hv]
  have e2 : (cosR lo hi).2.1 = encH (lo + 5400000) (hi + 5400000) := by simp [cosR, hv]
  rw [e1, e2]
  exact k.wide (by grind) (Int.le_refl _) (Int.le_refl _)
theorem lin_q {a x b : Rat} (y : Rat) (h1 : a ≤ x) (h2 : x ≤ b) : (a * y ≤ x * y ∧ x * y ≤ b * y) ∨ (b * y ≤ x * y ∧ x * y ≤ a * y) := by
  by_cases hy : 0 ≤ y
  · have p := Rat.mul_nonneg (show 0 ≤ x - a by grind) hy
    have q := Rat.mul_nonneg (show 0 ≤ b - x by grind) hy
    left; constructor <;> grind
  · have p := Rat.mul_nonneg (show 0 ≤ x - a by grind) (show 0 ≤ -y by grind)
    have q := Rat.mul_nonneg (show 0 ≤ b - x by grind) (show 0 ≤ -y by grind)
    right; constructor <;> grind
theorem mul_q {a b c d : Int} {X Y : Rat} (h1 : (a : Rat) ≤ X) (h2 : X ≤ (b : Rat)) (h3 : (c : Rat) ≤ Y) (h4 : Y ≤ (d : Rat)) : ((mulL a b c d : Int) : Rat) ≤ X * Y ∧ X * Y ≤ ((mulH a b c d : Int) : Rat) := by
  have l := mn4 (a * c) (a * d) (b * c) (b * d)
  have u := mx4 (a * c) (a * d) (b * c) (b * d)
  have l1 := le_c l.1.1
  have l2 := le_c l.1.2.1
  have l3 := le_c l.1.2.2.1
  have l4 := le_c l.1.2.2.2
  have u1 := le_c u.1.1
  have u2 := le_c u.1.2.1
  have u3 := le_c u.1.2.2.1
  have u4 := le_c u.1.2.2.2
  rw [Rat.intCast_mul] at l1 l2 l3 l4 u1 u2 u3 u4
  have p := lin_q Y h1 h2
  have q := lin_q (a : Rat) h3 h4
  have r := lin_q (b : Rat) h3 h4
  rw [Rat.mul_comm (c : Rat), Rat.mul_comm Y, Rat.mul_comm (d : Rat)] at q r
  unfold mulL mulH
  generalize (mn (mn (mn (a * c) (a * d)) (b * c)) (b * d) : Rat) = m at *
  generalize (mx (mx (mx (a * c) (a * d)) (b * c)) (b * d) : Rat) = n at *
  generalize X * Y = xy at *
  generalize (a : Rat) * Y = ay at *
  generalize (b : Rat) * Y = yb at *
  generalize (a : Rat) * (c : Rat) = ac at *
  generalize (a : Rat) * (d : Rat) = ad at *
  generalize (b : Rat) * (c : Rat) = bc at *
  generalize (b : Rat) * (d : Rat) = bd at *
  constructor <;> grind
theorem floor_c (x : Int) : ((x / 1073741824 : Int) : Rat) * 1073741824 ≤ (x : Rat) := by
  have h : ((x / 1073741824 * 1073741824 : Int) : Rat) ≤ (x : Rat) := le_c (by omega)
  rw [Rat.intCast_mul] at h
  exact h
/-- **Products.** -/
theorem mul_B {a b c d : Int} {e X Y : Rat} (he : 0 ≤ e) (he1 : e ≤ 1 / 4) (h1 : Hs e a b X) (h2 : Hs e c d Y) (ab : a ≤ b) (cd : c ≤ d)
    (ha : -1073741824 ≤ a) (hb : b ≤ 1073741824) (hc : -1073741824 ≤ c) (hd : d ≤ 1073741824) :
    Hs (3 * e) (mulR a b c d).1 (mulR a b c d).2.1 (X * Y / 1073741824) := by
  obtain ⟨x, x1, x2, x3, x4⟩ := h1.clamp he ab
  obtain ⟨y, y1, y2, y3, y4⟩ := h2.clamp he cd
  have m := mul_one ha ab hb hc cd hd
  have ev : mulR a b c d = (mulL a b c d / 1073741824, -(-mulH a b c d / 1073741824), 0) := by
    have := m.1
    unfold mulR at this ⊢
    obtain ⟨hb, hf⟩ := both_ok this
    rw [if_pos hb]
    exact (fit_ok hf).2
  rw [ev]
  have z : ((1073741824 : Int) : Rat) = 1073741824 := rfl
  have za : -1073741824 ≤ (a : Rat) := le_c (a := -1073741824) ha
  have zb : (b : Rat) ≤ 1073741824 := le_c (b := 1073741824) hb
  have zc : -1073741824 ≤ (c : Rat) := le_c (a := -1073741824) hc
  have zd : (d : Rat) ≤ 1073741824 := le_c (b := 1073741824) hd
  have r := mul_q x1 x2 y1 y2
  have f := floor_c (mulL a b c d)
  have g := floor_c (-mulH a b c d)
  rw [Rat.intCast_neg] at g
  have k1 := mul_abs (a := X - x) (b := y) (A := e) (B := 1073741824) x3 x4 (by grind) (by grind)
  have k2 := mul_abs (a := x) (b := Y - y) (A := 1073741824) (B := e) (by grind) (by grind) y3 y4
  have k3 := mul_abs (a := X - x) (b := Y - y) (A := e) (B := e) x3 x4 y3 y4
  have k4 : e * e ≤ e := by have := Rat.mul_nonneg he (show 0 ≤ 1 - e by grind); grind
  have ex : X * Y = x * y + (X - x) * y + x * (Y - y) + (X - x) * (Y - y) := by grind
  unfold Hs
  dsimp only
  rw [ex, Rat.intCast_neg]
  generalize (mulL a b c d : Rat) = L at *
  generalize (mulH a b c d : Rat) = U at *
  generalize ((mulL a b c d / 1073741824 : Int) : Rat) = L' at *
  generalize ((-mulH a b c d / 1073741824 : Int) : Rat) = U' at *
  generalize x * y = p0 at *
  generalize (X - x) * y = p1 at *
  generalize x * (Y - y) = p2 at *
  generalize (X - x) * (Y - y) = p3 at *
  clear ex
  constructor <;> grind
/-! ### Arcsines -/
/-- The program's least arcsine is not above. -/
theorem asn_B {v : Int} {q e d : Rat} (he : 0 ≤ e) (hv : -1073741824 ≤ v) (q0 : -5400000 ≤ q) (_q1 : q ≤ 5400000) (h : (v : Rat) ≤ Sq q + e) (hd0 : 0 ≤ d) (hd : 100000 * (e + 3 * e1) ≤ d * d) : (asn v : Rat) ≤ q + d := by
  obtain ⟨a0, a1, a2, a3⟩ := asn_is v hv
  rcases (Rat.le_total : (asn v : Rat) ≤ q ∨ q ≤ (asn v : Rat)) with c | c
  · grind
  · have p1 : (asn v : Rat) ≤ 5400000 := le_c (b := 5400000) a1
    have g := grow q0 c p1
    have l := (lob_B (asn v)).2
    have m := le_c a2
    have be := big_e
    have eb := e0_bd
    have e1b := e1_bd
    unfold Sq at *
    have k := sqrt_small (z := (asn v : Rat) - q) (f := d) (e := 100000 * (e + 3 * e1)) hd0 ?_ hd
    · have := k.2; grind
    · generalize si (asn v : Rat) = s1 at *
      generalize si q = s2 at *
      generalize (hib (asn v) : Rat) = h1 at *
      generalize (v : Rat) = v' at *
      generalize ((asn v : Rat) - q) * ((asn v : Rat) - q) = w at *
      grind
theorem Sq_neg {q : Rat} (h0 : -10800000 < q) (h1 : q < 10800000) : Sq (-q) = - Sq q := by
  unfold Sq
  rw [(si_neg h0 h1).1]
  grind
/-- **Arcsines of intervals.** -/
theorem asin_B {lo hi : Int} {q e d : Rat} (_hv : validB lo hi = true) (ok : (asinR lo hi).2.2 = 0) (q0 : -5400000 ≤ q) (q1 : q ≤ 5400000) (he : 0 ≤ e) (h : Hs e lo hi (Sq q)) (hd0 : 0 ≤ d) (hd : 100000 * (e + 4 * e1) ≤ d * d) : Hs d (asinR lo hi).1 (asinR lo hi).2.1 q := by
  obtain ⟨_, hm, ev⟩ := asin_ok ok
  have be := big_e
  have eb := e0_bd
  have e1b := e1_bd
  have u := u0_bd
  have ee : e0 = 1048576 * u0 := rfl
  have b := (bdq q).2
  have z : ((1073741824 : Int) : Rat) = 1073741824 := rfl
  have zn : ((-1073741824 : Int) : Rat) = -1073741824 := rfl
  have s0 : -1073741824 - e1 ≤ Sq q ∧ Sq q ≤ 1073741824 + e1 := by
    unfold Sq
    generalize si q = s at *
    constructor <;> grind
  unfold Hs at h
  have x1 : ((max lo (-1073741824) : Int) : Rat) ≤ Sq q + (e + e1) := by
    rcases Int.le_total lo (-1073741824) with c | c
    · rw [Int.max_eq_right c, zn]; grind
    · rw [Int.max_eq_left c]; grind
  have x2 : ((- min hi 1073741824 : Int) : Rat) ≤ Sq (-q) + (e + e1) := by
    rw [Sq_neg (by grind) (by grind), Rat.intCast_neg]
    rcases Int.le_total hi 1073741824 with c | c
    · rw [Int.min_eq_left c]; grind
    · rw [Int.min_eq_right c, z]; grind
  have y1 := asn_B (v := max lo (-1073741824)) (show 0 ≤ e + e1 by grind) (by omega) q0 q1 x1 hd0 (by grind)
  have y2 := asn_B (v := - min hi 1073741824) (show 0 ≤ e + e1 by grind) (by omega) (q := -q) (by grind) (by grind) x2 hd0 (by grind)
  rw [ev]
  unfold Hs
  dsimp only
  rw [Rat.intCast_neg]
  constructor <;> grind
/-- An interval that has the sine of an angle has arcsines. -/
theorem asin_has {lo hi : Int} {q e : Rat} (hv : validB lo hi = true) (_he : 0 ≤ e) (he1 : e ≤ 1 / 4) (h : Hs e lo hi (Sq q)) : (asinR lo hi).2.2 = 0 := by
  have be := big_e
  have eb := e0_bd
  have e1b := e1_bd
  have u := u0_bd
  have ee : e0 = 1048576 * u0 := rfl
  have b := (bdq q).2
  have s0 : -1073741824 - e1 ≤ Sq q ∧ Sq q ≤ 1073741824 + e1 := by
    unfold Sq
    generalize si q = s at *
    constructor <;> grind
  have v := val_bd hv
  unfold Hs at h
  have c1 : lo ≤ 1073741824 := of_c (e := 1 / 2) (by rw [show ((1073741824 : Int) : Rat) = 1073741824 by rfl]; grind) (by grind)
  have c2 : -1073741824 ≤ hi := of_c (e := 1 / 2) (by rw [show ((-1073741824 : Int) : Rat) = -1073741824 by rfl]; grind) (by grind)
  unfold asinR
  rw [hv]
  simp only [Bool.true_eq_false, if_false]
  rw [if_pos (by omega)]
end TB
end Go.Proofs.YtkfkddbglnbjgaaGreat

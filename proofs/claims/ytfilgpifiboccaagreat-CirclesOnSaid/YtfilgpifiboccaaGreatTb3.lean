/-
  Sine and cosine of rational angles, nearer than any need: the constants. No program here. Rational angles: addition, turns, signs, growth of the sine. No program here. Rational angles of given sines, and of given directions. No program here.
-/
import Derived.Test.YtfilgpifiboccaaGreatTa
namespace Go.Proofs.YtfilgpifiboccaaGreat
namespace TB
open SM TA
/-- A power of a half. -/
def pw (n : Nat) : Rat := 1 / ((2 ^ n : Nat) : Rat)
/-- Half a turn to 2560 bits; the length of a unit; what is neglected. -/
def piN : Nat := 1361252757398622614210308031816944563295789684324126529685410669750463032901918149778521655839743605959674928731089823146989365642170368889113133881887576594843707879128282940504223844271883137412851325937349614932712174980589351087954220001438807934692205467635764783614178486695651005420606763724274834328528948581018923114502452792556190226489351253372057085896525025124384269588334446152912592611219108414341446061058571548015383485157918025243662716944804850517630198168356061990570741769777839903697453293271042854722388163096590410892661043239943502317395869422906788611909947251132614021423401616192386183657163344982368202759587978585651728916046104554464074683541188811774354136770053165430412068306334717002271937927145831956506959951963934297900526159389632913
def tb : Rat := (piN : Rat) * pw 2560 / 10800000
def u0 : Rat := pw 2500
def e0 : Rat := 1048576 * u0
def cn (x : Rat) : Rat := Cn 652 x
def sn (x : Rat) : Rat := Sn 652 x
theorem rest_B : rest 652 (32 / 5) ≤ u0 := by decide +kernel
theorem quart_B : (-u0 ≤ Cn 652 (tb * 5400000) ∧ Cn 652 (tb * 5400000) ≤ u0) ∧ -u0 ≤ Sn 652 (tb * 5400000) - 1 ∧ Sn 652 (tb * 5400000) - 1 ≤ u0 := by decide +kernel
theorem third_B : -u0 ≤ Sn 652 (tb * 1800000) - 1 / 2 ∧ Sn 652 (tb * 1800000) - 1 / 2 ≤ u0 := by decide +kernel
theorem zero_B : Cn 652 0 = 1 ∧ Sn 652 0 = 0 := by decide +kernel
theorem tb_bd : 1 / 3437750 ≤ tb ∧ tb ≤ 1 / 3437740 := by decide +kernel
theorem u0_bd : 0 < u0 ∧ u0 ≤ 1 / 2 ^ 200 := by decide +kernel
theorem e0_bd : 0 < e0 ∧ e0 ≤ 1 / 2 ^ 200 := by decide +kernel
end TB
end Go.Proofs.YtfilgpifiboccaaGreat
namespace Go.Proofs.YtfilgpifiboccaaGreat
namespace TB
open SM TA
/-- Close. -/
def Cl (e a b : Rat) : Prop := -e ≤ a - b ∧ a - b ≤ e
theorem Cl.symm {e a b : Rat} (h : Cl e a b) : Cl e b a := by unfold Cl at *; constructor <;> grind
theorem Cl.trans {e f a b c : Rat} (h : Cl e a b) (k : Cl f b c) : Cl (e + f) a c := by unfold Cl at *; constructor <;> grind
theorem Cl.wide {e f a b : Rat} (h : Cl e a b) (k : e ≤ f) : Cl f a b := by unfold Cl at *; constructor <;> grind
theorem Cl.refl {e : Rat} (a : Rat) (h : 0 ≤ e) : Cl e a a := by unfold Cl; constructor <;> grind
theorem Cl.add {e f a b c d : Rat} (h : Cl e a b) (k : Cl f c d) : Cl (e + f) (a + c) (b + d) := by unfold Cl at *; constructor <;> grind
theorem Cl.sub {e f a b c d : Rat} (h : Cl e a b) (k : Cl f c d) : Cl (e + f) (a - c) (b - d) := by unfold Cl at *; constructor <;> grind
theorem Cl.neg {e a b : Rat} (h : Cl e a b) : Cl e (-a) (-b) := by unfold Cl at *; constructor <;> grind
/-- Products of numbers that are not great. -/
theorem Cl.mul {e f a b c d : Rat} (A B : Rat) (h : Cl e a b) (k : Cl f c d) (hc : -A ≤ c ∧ c ≤ A) (hb : -B ≤ b ∧ b ≤ B) : Cl (A * e + B * f) (a * c) (b * d) := by
  unfold Cl at *
  have m := mul_abs h.1 h.2 hc.1 hc.2
  have n := mul_abs hb.1 hb.2 k.1 k.2
  have x : a * c - b * d = (a - b) * c + b * (c - d) := by grind
  rw [x]
  generalize (a - b) * c = p at *
  generalize b * (c - d) = q at *
  constructor <;> grind
theorem sq_nn (z : Rat) : 0 ≤ z * z := by
  rcases (Rat.le_total : 0 ≤ z ∨ z ≤ 0) with h | h
  · exact Rat.mul_nonneg h h
  · have := Rat.mul_nonneg (a := -z) (b := -z) (by grind) (by grind)
    grind
theorem cn_neg (x : Rat) : cn (-x) = cn x := Cn_neg 652 x
theorem sn_neg (x : Rat) : sn (-x) = - sn x := Sn_neg 652 x
theorem cn_0 : cn 0 = 1 := zero_B.1
theorem sn_0 : sn 0 = 0 := zero_B.2
/-- The addition theorem. -/
theorem add {x y : Rat} (hx : -(32 / 5) ≤ x ∧ x ≤ 32 / 5) (hy : -(32 / 5) ≤ y ∧ y ≤ 32 / 5) : Cl u0 (cn x * cn y - sn x * sn y) (cn (x + y)) ∧ Cl u0 (sn x * cn y + cn x * sn y) (sn (x + y)) := by
  have a := addition 652 (X := 32 / 5) hx.1 hx.2 hy.1 hy.2
  have r := rest_B
  unfold Cl cn sn
  generalize rest 652 (32 / 5) = R at *
  generalize Cn 652 x * Cn 652 y - Sn 652 x * Sn 652 y = A at *
  generalize Sn 652 x * Cn 652 y + Cn 652 x * Sn 652 y = B at *
  generalize Cn 652 (x + y) = A' at *
  generalize Sn 652 (x + y) = B' at *
  refine ⟨⟨?_, ?_⟩, ?_, ?_⟩ <;> grind
theorem two_bd {z : Rat} (hz : z * z ≤ 2) : -2 ≤ z ∧ z ≤ 2 := by
  constructor
  · rcases (Rat.le_total : -2 ≤ z ∨ z ≤ -2) with h | h
    · exact h
    · have := sq_nn (-2 - z)
      have : 0 ≤ (-2 - z) * (2 - z) := Rat.mul_nonneg (by grind) (by grind)
      grind
  · rcases (Rat.le_total : z ≤ 2 ∨ 2 ≤ z) with h | h
    · exact h
    · have := sq_nn (z - 2)
      have : 0 ≤ (z - 2) * (z + 2) := Rat.mul_nonneg (by grind) (by grind)
      grind
theorem bd {x : Rat} (h : -(32 / 5) ≤ x ∧ x ≤ 32 / 5) : (-2 ≤ cn x ∧ cn x ≤ 2) ∧ (-2 ≤ sn x ∧ sn x ≤ 2) := by
  have a := (add h (y := -x) (by grind)).1
  rw [cn_neg, sn_neg, show x + -x = 0 by grind, cn_0] at a
  have s1 := sq_nn (cn x)
  have s2 := sq_nn (sn x)
  have u := u0_bd
  unfold Cl at a
  generalize cn x = c at *
  generalize sn x = s at *
  exact ⟨two_bd (by grind), two_bd (by grind)⟩
theorem one_bd' {z e : Rat} (he : 0 ≤ e) (hz : z * z ≤ 1 + e) : -(1 + e) ≤ z ∧ z ≤ 1 + e := by
  constructor
  · rcases (Rat.le_total : -(1 + e) ≤ z ∨ z ≤ -(1 + e)) with h | h
    · exact h
    · have := Rat.mul_nonneg (show 0 ≤ -(1 + e) - z by grind) (show 0 ≤ -1 - z by grind)
      have := Rat.mul_nonneg he (show 0 ≤ -1 - z by grind)
      grind
  · rcases (Rat.le_total : z ≤ 1 + e ∨ 1 + e ≤ z) with h | h
    · exact h
    · have := Rat.mul_nonneg (show 0 ≤ z - (1 + e) by grind) (show 0 ≤ z - 1 by grind)
      have := Rat.mul_nonneg he (show 0 ≤ z - 1 by grind)
      grind
theorem quart : Cl u0 (cn (tb * 5400000)) 0 ∧ Cl u0 (sn (tb * 5400000)) 1 := by
  have q := quart_B
  unfold Cl cn sn
  generalize Cn 652 (tb * 5400000) = c at *
  generalize Sn 652 (tb * 5400000) = s at *
  refine ⟨⟨?_, ?_⟩, ?_, ?_⟩ <;> grind
theorem half : Cl (16 * u0) (cn (tb * 10800000)) (-1) ∧ Cl (16 * u0) (sn (tb * 10800000)) 0 := by
  have q := quart
  have t := tb_bd
  have a := add (x := tb * 5400000) (y := tb * 5400000) (by grind) (by grind)
  rw [show tb * 5400000 + tb * 5400000 = tb * 10800000 by grind] at a
  have m1 := Cl.mul 2 2 q.1 q.1 (by unfold Cl at q; have := u0_bd; grind) (by grind)
  have m2 := Cl.mul 2 2 q.2 q.2 (by unfold Cl at q; have := u0_bd; grind) (by grind)
  have m3 := Cl.mul 2 2 q.2 q.1 (by unfold Cl at q; have := u0_bd; grind) (by grind)
  have m4 := Cl.mul 2 2 q.1 q.2 (by unfold Cl at q; have := u0_bd; grind) (by grind)
  unfold Cl at *
  generalize cn (tb * 5400000) * cn (tb * 5400000) = p1 at *
  generalize sn (tb * 5400000) * sn (tb * 5400000) = p2 at *
  generalize sn (tb * 5400000) * cn (tb * 5400000) = p3 at *
  generalize cn (tb * 5400000) * sn (tb * 5400000) = p4 at *
  generalize cn (tb * 10800000) = c at *
  generalize sn (tb * 10800000) = s at *
  refine ⟨⟨?_, ?_⟩, ?_, ?_⟩ <;> grind
theorem whole : Cl (256 * u0) (cn (tb * 21600000)) 1 ∧ Cl (256 * u0) (sn (tb * 21600000)) 0 := by
  have q := half
  have t := tb_bd
  have u := u0_bd
  have a := add (x := tb * 10800000) (y := tb * 10800000) (by grind) (by grind)
  rw [show tb * 10800000 + tb * 10800000 = tb * 21600000 by grind] at a
  have m1 := Cl.mul 2 2 q.1 q.1 (by unfold Cl at q; grind) (by grind)
  have m2 := Cl.mul 2 2 q.2 q.2 (by unfold Cl at q; grind) (by grind)
  have m3 := Cl.mul 2 2 q.2 q.1 (by unfold Cl at q; grind) (by grind)
  have m4 := Cl.mul 2 2 q.1 q.2 (by unfold Cl at q; grind) (by grind)
  unfold Cl at *
  generalize cn (tb * 10800000) * cn (tb * 10800000) = p1 at *
  generalize sn (tb * 10800000) * sn (tb * 10800000) = p2 at *
  generalize sn (tb * 10800000) * cn (tb * 10800000) = p3 at *
  generalize cn (tb * 10800000) * sn (tb * 10800000) = p4 at *
  generalize cn (tb * 21600000) = c at *
  generalize sn (tb * 21600000) = s at *
  refine ⟨⟨?_, ?_⟩, ?_, ?_⟩ <;> grind
/-- A whole turn more or less. -/
theorem shift {x t : Rat} (ht : t = tb * 21600000 ∨ t = -(tb * 21600000)) (hx : -(32 / 5) ≤ x ∧ x ≤ 32 / 5) : Cl (1200 * u0) (cn (x + t)) (cn x) ∧ Cl (1200 * u0) (sn (x + t)) (sn x) := by
  have w := whole
  have q := tb_bd
  have u := u0_bd
  have c1 : Cl (256 * u0) (cn t) 1 := by
    rcases ht with rfl | rfl
    · exact w.1
    · rw [cn_neg]; exact w.1
  have s1 : Cl (256 * u0) (sn t) 0 := by
    rcases ht with rfl | rfl
    · exact w.2
    · rw [sn_neg]
      have := w.2.neg
      rwa [show -(0 : Rat) = 0 by grind] at this
  have a := add hx (y := t) (by rcases ht with rfl | rfl <;> constructor <;> grind)
  have b := bd hx
  have m1 := mul_abs b.1.1 b.1.2 c1.1 c1.2
  have m2 := mul_abs b.2.1 b.2.2 s1.1 s1.2
  have m3 := mul_abs b.2.1 b.2.2 c1.1 c1.2
  have m4 := mul_abs b.1.1 b.1.2 s1.1 s1.2
  unfold Cl at a ⊢
  generalize cn (x + t) = X at *
  generalize sn (x + t) = Y at *
  generalize cn x = c at *
  generalize sn x = s at *
  generalize cn t = c' at *
  generalize sn t = s' at *
  clear b c1 s1 w
  refine ⟨⟨?_, ?_⟩, ?_, ?_⟩ <;> grind
/-- The angle of the same direction from half a turn below 0 on. -/
def tm (q : Rat) : Int := ((q + 10800000) / 21600000).floor
def rdq (q : Rat) : Rat := q - 21600000 * (tm q : Rat)
theorem rdq_bd (q : Rat) : -10800000 ≤ rdq q ∧ rdq q < 10800000 := by
  have a := Rat.floor_le ((q + 10800000) / 21600000)
  have b := Rat.lt_floor_add_one ((q + 10800000) / 21600000)
  rw [Rat.intCast_add] at b
  have z : ((1 : Int) : Rat) = 1 := rfl
  rw [z] at b
  unfold rdq tm
  generalize (((q + 10800000) / 21600000).floor : Rat) = f at *
  constructor <;> grind
theorem rdq_turn (q : Rat) (m : Int) : rdq (q + 21600000 * (m : Rat)) = rdq q := by
  unfold rdq tm
  have : (q + 21600000 * (m : Rat) + 10800000) / 21600000 = (q + 10800000) / 21600000 + (m : Rat) := by grind
  rw [this, Rat.floor_add_intCast, Rat.intCast_add]
  grind
theorem rdq_id {q : Rat} (h0 : -10800000 ≤ q) (h1 : q < 10800000) : rdq q = q := by
  have f : tm q = 0 := by
    unfold tm
    have a : 0 ≤ ((q + 10800000) / 21600000).floor := Rat.le_floor_iff.2 (by rw [show ((0 : Int) : Rat) = 0 by rfl]; grind)
    have b : ((q + 10800000) / 21600000).floor < 1 := Rat.floor_lt_iff.2 (by rw [show ((1 : Int) : Rat) = 1 by rfl]; grind)
    omega
  unfold rdq
  rw [f]
  have z : ((0 : Int) : Rat) = 0 := rfl
  rw [z]
  grind
def co (q : Rat) : Rat := cn (tb * rdq q)
def si (q : Rat) : Rat := sn (tb * rdq q)
theorem turn_eq (q : Rat) (m : Int) : co (q + 21600000 * (m : Rat)) = co q ∧ si (q + 21600000 * (m : Rat)) = si q := by
  unfold co si
  rw [rdq_turn]
  exact ⟨rfl, rfl⟩
theorem tb_mul {p : Rat} {c d : Rat} (h0 : -c ≤ p) (h1 : p ≤ c) (hd : c / 3437740 ≤ d) : -d ≤ tb * p ∧ tb * p ≤ d := by
  have t := tb_bd
  have hc : 0 ≤ c := by grind
  have m1 := Rat.mul_nonneg (show 0 ≤ tb by grind) (show 0 ≤ c - p by grind)
  have m2 := Rat.mul_nonneg (show 0 ≤ tb by grind) (show 0 ≤ c + p by grind)
  have m3 := Rat.mul_nonneg (show 0 ≤ 1 / 3437740 - tb by grind) hc
  generalize tb = t at *
  constructor <;> grind
/-- Any angle of less than a turn serves. -/
theorem rep {p : Rat} (h0 : -21600000 ≤ p) (h1 : p ≤ 21600000) : Cl (1200 * u0) (cn (tb * p)) (co p) ∧ Cl (1200 * u0) (sn (tb * p)) (si p) := by
  have b := rdq_bd p
  have u := u0_bd
  have x := tb_mul (d := 32 / 5) h0 h1 (by grind)
  have e : rdq p = p - 21600000 * (tm p : Rat) := rfl
  have lo : (-1 : Int) ≤ tm p := by
    rcases Int.lt_or_le (tm p) (-1) with h | h
    · have : (tm p : Rat) ≤ ((-2 : Int) : Rat) := Rat.intCast_le_intCast.2 (by omega)
      rw [show ((-2 : Int) : Rat) = -2 by rfl] at this
      grind
    · exact h
  have hi : tm p ≤ 1 := by
    rcases Int.lt_or_le 1 (tm p) with h | h
    · have : ((2 : Int) : Rat) ≤ (tm p : Rat) := Rat.intCast_le_intCast.2 (by omega)
      rw [show ((2 : Int) : Rat) = 2 by rfl] at this
      grind
    · exact h
  unfold co si
  rcases (show tm p = 0 ∨ tm p = 1 ∨ tm p = -1 by omega) with h | h | h
  · rw [e, h, show ((0 : Int) : Rat) = 0 by rfl, show p - 21600000 * 0 = p by grind]
    exact ⟨Cl.refl _ (by grind), Cl.refl _ (by grind)⟩
  · rw [e, h, show ((1 : Int) : Rat) = 1 by rfl, show tb * (p - 21600000 * 1) = tb * p + -(tb * 21600000) by grind]
    have s := shift (x := tb * p) (.inr rfl) x
    exact ⟨s.1.symm, s.2.symm⟩
  · rw [e, h, show ((-1 : Int) : Rat) = -1 by rfl, show tb * (p - 21600000 * -1) = tb * p + tb * 21600000 by grind]
    have s := shift (x := tb * p) (.inl rfl) x
    exact ⟨s.1.symm, s.2.symm⟩
/-- **The addition theorem** for rational angles. -/
theorem addq (p q : Rat) : Cl (1300 * u0) (co (p + q)) (co p * co q - si p * si q) ∧ Cl (1300 * u0) (si (p + q)) (si p * co q + co p * si q) := by
  have a := rdq_bd p
  have b := rdq_bd q
  have u := u0_bd
  have x := tb_mul (p := rdq p) (c := 10800000) (d := 32 / 5) (by grind) (by grind) (by grind)
  have y := tb_mul (p := rdq q) (c := 10800000) (d := 32 / 5) (by grind) (by grind) (by grind)
  have s := add x y
  have r := rep (p := rdq p + rdq q) (by grind) (by grind)
  rw [show tb * (rdq p + rdq q) = tb * rdq p + tb * rdq q by grind] at r
  have e : rdq p + rdq q = (p + q) + 21600000 * ((-tm p - tm q : Int) : Rat) := by
    unfold rdq
    rw [Rat.intCast_sub, Rat.intCast_neg]
    grind
  have t := turn_eq (p + q) (-tm p - tm q)
  rw [← e] at t
  rw [t.1, t.2] at r
  refine ⟨?_, ?_⟩
  · exact (r.1.symm.trans s.1.symm).wide (by grind)
  · exact (r.2.symm.trans s.2.symm).wide (by grind)
theorem negq (q : Rat) : Cl (1200 * u0) (co (-q)) (co q) ∧ Cl (1200 * u0) (si (-q)) (-si q) := by
  have b := rdq_bd q
  have r := rep (p := -rdq q) (by grind) (by grind)
  rw [show tb * -rdq q = -(tb * rdq q) by grind, cn_neg, sn_neg] at r
  have e : -rdq q = -q + 21600000 * (tm q : Rat) := by unfold rdq; grind
  have t := turn_eq (-q) (tm q)
  rw [← e] at t
  rw [t.1, t.2] at r
  exact ⟨r.1.symm, r.2.symm⟩
theorem bdq2 (q : Rat) : (-2 ≤ co q ∧ co q ≤ 2) ∧ (-2 ≤ si q ∧ si q ≤ 2) := by
  have b := rdq_bd q
  exact bd (tb_mul (c := 10800000) (by grind) (by grind) (by grind))
theorem co_0 : co 0 = 1 := by
  unfold co
  rw [rdq_id (by grind) (by grind), show tb * 0 = 0 by grind, cn_0]
theorem si_0 : si 0 = 0 := by
  unfold si
  rw [rdq_id (by grind) (by grind), show tb * 0 = 0 by grind, sn_0]
/-- The circle. -/
theorem unit (q : Rat) : Cl (8192 * u0) (co q * co q + si q * si q) 1 := by
  have a := (addq q (-q)).1
  have n := negq q
  have b := bdq2 q
  have m1 := Cl.mul 2 2 (Cl.refl (co q) (e := 0) (by grind)) n.1 (by have := (bdq2 (-q)).1; exact this) b.1
  have m2 := Cl.mul 2 2 (Cl.refl (si q) (e := 0) (by grind)) n.2 (by have := (bdq2 (-q)).2; exact this) b.2
  rw [show q + -q = 0 by grind, co_0] at a
  have u := u0_bd
  unfold Cl at *
  generalize co q * co (-q) = p1 at *
  generalize si q * si (-q) = p2 at *
  rw [show si q * -si q = -(si q * si q) by grind] at m2
  generalize co q * co q = p3 at *
  generalize si q * si q = p4 at *
  constructor <;> grind
theorem bdq (q : Rat) : (-(1 + 8192 * u0) ≤ co q ∧ co q ≤ 1 + 8192 * u0) ∧ (-(1 + 8192 * u0) ≤ si q ∧ si q ≤ 1 + 8192 * u0) := by
  have n := unit q
  have s1 := sq_nn (co q)
  have s2 := sq_nn (si q)
  have u := u0_bd
  unfold Cl at n
  exact ⟨one_bd' (by grind) (by grind), one_bd' (by grind) (by grind)⟩
theorem subq (p q : Rat) : Cl (8000 * u0) (co (p - q)) (co p * co q + si p * si q) ∧ Cl (8000 * u0) (si (p - q)) (si p * co q - co p * si q) := by
  have a := addq p (-q)
  have n := negq q
  have b := bdq2 p
  have b' := bdq2 (-q)
  have u := u0_bd
  have m1 := Cl.mul 2 2 (Cl.refl (co p) (e := 0) (by grind)) n.1 b'.1 b.1
  have m2 := Cl.mul 2 2 (Cl.refl (si p) (e := 0) (by grind)) n.2 b'.2 b.2
  have m3 := Cl.mul 2 2 (Cl.refl (si p) (e := 0) (by grind)) n.1 b'.1 b.2
  have m4 := Cl.mul 2 2 (Cl.refl (co p) (e := 0) (by grind)) n.2 b'.2 b.1
  rw [show p + -q = p - q by grind] at a
  constructor
  · have := a.1.trans (m1.sub m2)
    rw [show co p * co q - si p * -si q = co p * co q + si p * si q by grind] at this
    exact this.wide (by grind)
  · have := a.2.trans (m3.add m4)
    rw [show si p * co q + co p * -si q = si p * co q - co p * si q by grind] at this
    exact this.wide (by grind)
theorem quartq : Cl u0 (co 5400000) 0 ∧ Cl u0 (si 5400000) 1 := by
  unfold co si
  rw [rdq_id (by grind) (by grind)]
  exact quart
/-- A quarter of a turn less; half a turn more. -/
theorem coq (q : Rat) : Cl (8192 * u0) (si (5400000 - q)) (co q) ∧ Cl (8192 * u0) (co (5400000 - q)) (si q) := by
  have a := subq 5400000 q
  have k := quartq
  have b := bdq2 q
  have u := u0_bd
  have m1 := Cl.mul 2 1 k.2 (Cl.refl (co q) (e := 0) (by grind)) b.1 (by grind)
  have m2 := Cl.mul 2 1 k.1 (Cl.refl (si q) (e := 0) (by grind)) b.2 (by grind)
  have m3 := Cl.mul 2 1 k.1 (Cl.refl (co q) (e := 0) (by grind)) b.1 (by grind)
  have m4 := Cl.mul 2 1 k.2 (Cl.refl (si q) (e := 0) (by grind)) b.2 (by grind)
  constructor
  · have := a.2.trans (m1.sub m2)
    rw [show 1 * co q - 0 * si q = co q by grind] at this
    exact this.wide (by grind)
  · have := a.1.trans (m3.add m4)
    rw [show 0 * co q + 1 * si q = si q by grind] at this
    exact this.wide (by grind)
theorem oppq (q : Rat) : Cl (20000 * u0) (co (q + 10800000)) (-co q) ∧ Cl (20000 * u0) (si (q + 10800000)) (-si q) := by
  have a := coq (-(q + 5400000))
  have b := coq (-q)
  have n := negq q
  have n2 := negq (q + 5400000)
  have c := coq (-(q + 5400000))
  have u := u0_bd
  -- q + half: a quarter less of minus (q + quarter)
  have e1 : (5400000 : Rat) - -(q + 5400000) = q + 10800000 := by grind
  have e2 : (5400000 : Rat) - -q = q + 5400000 := by grind
  rw [e1] at a
  rw [e2] at b
  -- co (q + H) ~ si (-(q + Q)) ~ - si (q + Q) ~ - co (-q) ~ - co q
  constructor
  · have := ((a.2.trans n2.2).trans (b.1.neg)).trans n.1.neg
    exact this.wide (by grind)
  · have := ((a.1.trans n2.1).trans b.2).trans n.2
    exact this.wide (by grind)
/-! ### Signs and growth -/
theorem P_two {x : Rat} (h0 : 0 ≤ x) (h1 : x ≤ 8 / 5) (n : Nat) : 0 ≤ P (n + 3) x ∧ P (n + 3) x ≤ P (n + 1) x := by
  have p1 := P_nonneg h0 (n + 1)
  have p3 := P_nonneg h0 (n + 3)
  have e2 := P_succ (n + 1) x
  have e3 := P_succ (n + 2) x
  refine ⟨p3, ?_⟩
  have hn : (0 : Rat) ≤ (n : Rat) := by exact_mod_cast Nat.zero_le n
  have c1 : ((n + 1 : Nat) : Rat) = (n : Rat) + 1 := by push_cast; rfl
  have c2 : ((n + 2 : Nat) : Rat) = (n : Rat) + 2 := by push_cast; rfl
  rw [c1] at e2
  rw [c2] at e3
  rw [show n + 1 + 1 = n + 2 by rfl] at e2
  rw [show n + 2 + 1 = n + 3 by rfl] at e3
  have q : ((n : Rat) + 1 + 1) * ((n : Rat) + 2 + 1) * P (n + 3) x = x * x * P (n + 1) x := by grind
  have x2 : x * x ≤ 64 / 25 := by
    have := Rat.mul_nonneg h0 (show 0 ≤ 8 / 5 - x by grind)
    grind
  have g1 := Rat.mul_nonneg (show 0 ≤ 64 / 25 - x * x by grind) p1
  have g2 := Rat.mul_nonneg (Rat.mul_nonneg hn (show 0 ≤ (n : Rat) + 5 by grind)) p3
  generalize P (n + 3) x = a at *
  generalize P (n + 1) x = b at *
  have : 6 * a ≤ 3 * b := by grind
  grind
theorem sn_le4 {x : Rat} (h0 : 0 ≤ x) (h1 : x ≤ 8 / 5) : ∀ m : Nat, sm (fun k => ss k * P k x) (4 * m + 1) ≤ x - P (4 * m + 1) x
  | 0 => by
    have : P 1 x = x := by simp [P]; grind
    simp only [Nat.mul_zero, Nat.zero_add, this, sm]
    have : ss 0 = 0 := by decide +kernel
    rw [this]
    grind
  | m + 1 => by
    have ih := sn_le4 h0 h1 m
    rw [show 4 * (m + 1) + 1 = 4 * m + 1 + 1 + 1 + 1 + 1 by omega, sm, sm, sm, sm]
    have s1 : ss (4 * m + 1) = 1 := by unfold ss; rw [if_pos (by omega)]
    have s2 : ss (4 * m + 1 + 1) = 0 := by unfold ss; rw [if_neg (by omega), if_neg (by omega)]
    have s3 : ss (4 * m + 1 + 1 + 1) = -1 := by unfold ss; rw [if_neg (by omega), if_pos (by omega)]
    have s4 : ss (4 * m + 1 + 1 + 1 + 1) = 0 := by unfold ss; rw [if_neg (by omega), if_neg (by omega)]
    rw [s1, s2, s3, s4]
    have a := P_two h0 h1 (4 * m)
    have b := P_two h0 h1 (4 * m + 2)
    rw [show 4 * m + 2 + 3 = 4 * m + 1 + 1 + 1 + 1 + 1 by omega, show 4 * m + 2 + 1 = 4 * m + 1 + 1 + 1 by omega] at b
    rw [show 4 * m + 3 = 4 * m + 1 + 1 + 1 by omega] at a
    generalize sm (fun k => ss k * P k x) (4 * m + 1) = S0 at *
    generalize P (4 * m + 1) x = p1 at *
    generalize P (4 * m + 1 + 1) x = p2 at *
    generalize P (4 * m + 1 + 1 + 1) x = p3 at *
    generalize P (4 * m + 1 + 1 + 1 + 1) x = p4 at *
    generalize P (4 * m + 1 + 1 + 1 + 1 + 1) x = p5 at *
    grind
theorem sn_ge4 {x : Rat} (h0 : 0 ≤ x) (h1 : x ≤ 8 / 5) : ∀ m : Nat, x / 2 ≤ sm (fun k => ss k * P k x) (4 * (m + 1) + 1)
  | 0 => by
    have s0 : ss 0 = 0 := by decide +kernel
    have s1 : ss 1 = 1 := by decide +kernel
    have s2 : ss 2 = 0 := by decide +kernel
    have s3 : ss 3 = -1 := by decide +kernel
    have s4 : ss 4 = 0 := by decide +kernel
    simp only [sm]
    rw [s0, s1, s2, s3, s4]
    have e1 : P 1 x = x := by simp [P]; grind
    have e3 : P 3 x = x * x * x / 6 := by simp [P]; grind
    rw [e1, e3]
    have a := Rat.mul_nonneg h0 (show 0 ≤ 8 / 5 - x by grind)
    have b := Rat.mul_nonneg h0 (show 0 ≤ 64 / 25 - x * x by grind)
    generalize P 0 x = p0 at *
    generalize P 2 x = p2 at *
    generalize P 4 x = p4 at *
    grind
  | m + 1 => by
    have ih := sn_ge4 h0 h1 m
    rw [show 4 * (m + 1 + 1) + 1 = 4 * (m + 1) + 1 + 1 + 1 + 1 + 1 by omega, sm, sm, sm, sm]
    have s1 : ss (4 * (m + 1) + 1) = 1 := by unfold ss; rw [if_pos (by omega)]
    have s2 : ss (4 * (m + 1) + 1 + 1) = 0 := by unfold ss; rw [if_neg (by omega), if_neg (by omega)]
    have s3 : ss (4 * (m + 1) + 1 + 1 + 1) = -1 := by unfold ss; rw [if_neg (by omega), if_pos (by omega)]
    have s4 : ss (4 * (m + 1) + 1 + 1 + 1 + 1) = 0 := by unfold ss; rw [if_neg (by omega), if_neg (by omega)]
    rw [s1, s2, s3, s4]
    have a := P_two h0 h1 (4 * (m + 1))
    rw [show 4 * (m + 1) + 3 = 4 * (m + 1) + 1 + 1 + 1 by omega] at a
    generalize sm (fun k => ss k * P k x) (4 * (m + 1) + 1) = S0 at *
    generalize P (4 * (m + 1) + 1) x = p1 at *
    generalize P (4 * (m + 1) + 1 + 1) x = p2 at *
    generalize P (4 * (m + 1) + 1 + 1 + 1) x = p3 at *
    generalize P (4 * (m + 1) + 1 + 1 + 1 + 1) x = p4 at *
    grind
theorem sn_pos {x : Rat} (h0 : 0 ≤ x) (h1 : x ≤ 8 / 5) : x / 2 ≤ sn x ∧ sn x ≤ x := by
  have a := sn_ge4 h0 h1 162
  have b := sn_le4 h0 h1 163
  have c := P_nonneg h0 (4 * 163 + 1)
  unfold sn Sn
  exact ⟨a, by grind⟩
theorem tb_q {q : Rat} (h0 : 0 ≤ q) (h1 : q ≤ 5400000) : 0 ≤ tb * q ∧ tb * q ≤ 8 / 5 := by
  have t := tb_bd
  have := tb_mul (p := q) (c := 5400000) (d := 8 / 5) (by grind) h1 (by grind)
  exact ⟨Rat.mul_nonneg (by grind) h0, this.2⟩
/-- The sine of an angle of the first quarter. -/
theorem si_pos {q : Rat} (h0 : 0 ≤ q) (h1 : q ≤ 5400000) : tb * q / 2 ≤ si q ∧ si q ≤ tb * q := by
  unfold si
  rw [rdq_id (by grind) (by grind)]
  have := tb_q h0 h1
  exact sn_pos this.1 this.2
theorem si_neg {q : Rat} (h0 : -10800000 < q) (h1 : q < 10800000) : si (-q) = - si q ∧ co (-q) = co q := by
  unfold si co
  rw [rdq_id (by grind) (by grind), rdq_id (by grind) (by grind), show tb * -q = -(tb * q) by grind, sn_neg, cn_neg]
  exact ⟨rfl, rfl⟩
theorem si_half {q : Rat} (h0 : 0 ≤ q) (h1 : q ≤ 5400000) : 0 ≤ si q := by
  have a := (si_pos h0 h1).1
  have b := (tb_q h0 h1).1
  generalize tb * q = x at *
  generalize si q = y at *
  grind
/-- The cosine of an angle at most a quarter away from 0. -/
theorem co_ge {q d : Rat} (h0 : -5400000 ≤ q) (_h1 : q ≤ 5400000) (g0 : 0 ≤ d) (g1 : d ≤ 5400000 - q) (g2 : d ≤ 5400000 + q) : tb * d / 2 - e0 ≤ co q := by
  have e : e0 = 1048576 * u0 := rfl
  have u := u0_bd
  have t := tb_bd
  have key : ∀ z : Rat, 0 ≤ z → d ≤ 5400000 - z → tb * d / 2 - e0 ≤ co z := fun z k0 k1 => by
    have s := (si_pos (q := 5400000 - z) (by grind) (by grind)).1
    have c := (coq z).1
    have m := Rat.mul_nonneg (show 0 ≤ tb by grind) (show 0 ≤ 5400000 - z - d by grind)
    unfold Cl at c
    generalize si (5400000 - z) = a at *
    generalize co z = b at *
    generalize tb = t at *
    grind
  rcases (Rat.le_total : 0 ≤ q ∨ q ≤ 0) with h | h
  · exact key q h g1
  · have k := key (-q) (by grind) (by grind)
    rwa [(si_neg (q := q) (by grind) (by grind)).2] at k
/-- The difference of two sines, and of two cosines. -/
theorem diff (m d : Rat) : Cl (10000 * u0) (si (m + d) - si (m - d)) (2 * (co m * si d)) ∧ Cl (10000 * u0) (co (m + d) - co (m - d)) (-(2 * (si m * si d))) := by
  have a := addq m d
  have b := subq m d
  have u := u0_bd
  constructor
  · have := a.2.sub b.2
    rw [show si m * co d + co m * si d - (si m * co d - co m * si d) = 2 * (co m * si d) by grind] at this
    exact this.wide (by grind)
  · have := a.1.sub b.1
    rw [show co m * co d - si m * si d - (co m * co d + si m * si d) = -(2 * (si m * si d)) by grind] at this
    exact this.wide (by grind)
/-- **The sine grows.** -/
theorem grow {p q : Rat} (h0 : -5400000 ≤ p) (h : p ≤ q) (h1 : q ≤ 5400000) : (q - p) * (q - p) / 100000000000000 - 8 * e0 ≤ si q - si p := by
  have e : e0 = 1048576 * u0 := rfl
  have u := u0_bd
  have t := tb_bd
  have hd : 0 ≤ (q - p) / 2 ∧ (q - p) / 2 ≤ 5400000 := by constructor <;> grind
  have f := (diff ((p + q) / 2) ((q - p) / 2)).1
  rw [show (p + q) / 2 + (q - p) / 2 = q by grind, show (p + q) / 2 - (q - p) / 2 = p by grind] at f
  have s := (si_pos hd.1 hd.2).1
  have s2 := (bdq2 ((q - p) / 2)).2.2
  have c := co_ge (q := (p + q) / 2) (d := (q - p) / 2) (by grind) (by grind) hd.1 (by grind) (by grind)
  have sq1 := sq_nn ((q - p) / 2)
  generalize si ((q - p) / 2) = S at *
  generalize co ((p + q) / 2) = C at *
  have hd0 := hd.1
  have ed : (q - p) * (q - p) = 4 * ((q - p) / 2 * ((q - p) / 2)) := by grind
  rw [ed]
  generalize (q - p) / 2 = d at *
  have x0 : 0 ≤ tb * d := Rat.mul_nonneg (by grind) hd0
  have g1 : d / 3437750 ≤ tb * d := by
    have := Rat.mul_nonneg (show 0 ≤ tb - 1 / 3437750 by grind) hd0
    grind
  have m1 := Rat.mul_nonneg (show 0 ≤ C - (tb * d / 2 - e0) by grind) (show 0 ≤ S by grind)
  have m2 := Rat.mul_nonneg (show 0 ≤ S - tb * d / 2 by grind) (show 0 ≤ tb * d / 2 by grind)
  have m3 := Rat.mul_nonneg (show 0 ≤ tb * d - d / 3437750 by grind) (show 0 ≤ tb * d + d / 3437750 by grind)
  have m4 := Rat.mul_nonneg (show 0 ≤ e0 by grind) (show 0 ≤ 2 - S by grind)
  unfold Cl at f
  generalize tb * d = x at *
  generalize e0 = w at *
  generalize si q = y1 at *
  generalize si p = y2 at *
  grind
/-- Near angles have near sines and cosines. -/
theorem lip {p q : Rat} (h : p ≤ q) (h1 : q ≤ p + 5400000) : Cl ((q - p) / 1000000 + e0) (si q) (si p) ∧ Cl ((q - p) / 1000000 + e0) (co q) (co p) := by
  have e : e0 = 1048576 * u0 := rfl
  have u := u0_bd
  have t := tb_bd
  have hd : 0 ≤ (q - p) / 2 ∧ (q - p) / 2 ≤ 5400000 := by constructor <;> grind
  have f := diff ((p + q) / 2) ((q - p) / 2)
  rw [show (p + q) / 2 + (q - p) / 2 = q by grind, show (p + q) / 2 - (q - p) / 2 = p by grind] at f
  have s := (si_pos hd.1 hd.2).2
  have s0 := si_half hd.1 hd.2
  have b := bdq2 ((p + q) / 2)
  have m1 := mul_abs b.1.1 b.1.2 (show -(si ((q - p) / 2)) ≤ si ((q - p) / 2) by grind) (show si ((q - p) / 2) ≤ si ((q - p) / 2) by grind)
  have m2 := mul_abs b.2.1 b.2.2 (show -(si ((q - p) / 2)) ≤ si ((q - p) / 2) by grind) (show si ((q - p) / 2) ≤ si ((q - p) / 2) by grind)
  have g1 : tb * ((q - p) / 2) ≤ (q - p) / 2 / 3437740 := by
    have := Rat.mul_nonneg (show 0 ≤ 1 / 3437740 - tb by grind) hd.1
    grind
  generalize co ((p + q) / 2) * si ((q - p) / 2) = z1 at *
  generalize si ((p + q) / 2) * si ((q - p) / 2) = z2 at *
  generalize si ((q - p) / 2) = S at *
  generalize tb * ((q - p) / 2) = x at *
  unfold Cl at *
  generalize si q = y1 at *
  generalize si p = y2 at *
  generalize co q = y3 at *
  generalize co p = y4 at *
  clear b s0 hd
  refine ⟨⟨?_, ?_⟩, ?_, ?_⟩ <;> grind
end TB
end Go.Proofs.YtfilgpifiboccaaGreat
namespace Go.Proofs.YtfilgpifiboccaaGreat
namespace TB
open SM TA
theorem si_quart : 1 - e0 ≤ si 5400000 ∧ si (-5400000) ≤ -1 + e0 := by
  have e : e0 = 1048576 * u0 := rfl
  have u := u0_bd
  have q := quartq.2
  have n := (si_neg (q := 5400000) (by grind) (by grind)).1
  unfold Cl at q
  rw [n]
  constructor <;> grind
/-- Halving. -/
theorem halve (y : Rat) (n : Nat) : ∀ a b : Rat, -5400000 ≤ a → a ≤ b → b ≤ 5400000 → si a ≤ y + e0 → y - e0 ≤ si b → ∃ a' b' : Rat, -5400000 ≤ a' ∧ a' ≤ b' ∧ b' ≤ 5400000 ∧ si a' ≤ y + e0 ∧ y - e0 ≤ si b' ∧ (b' - a') * 2 ^ n = b - a := by
  induction n with
  | zero =>
    intro a b h0 h h1 ha hb
    exact ⟨a, b, h0, h, h1, ha, hb, by rw [Rat.pow_zero]; grind⟩
  | succ n ih =>
    intro a b h0 h h1 ha hb
    have e := e0_bd.1
    rcases (Rat.le_total : si ((a + b) / 2) ≤ y ∨ y ≤ si ((a + b) / 2)) with c | c
    · obtain ⟨a', b', k0, k, k1, ka, kb, kw⟩ := ih ((a + b) / 2) b (by grind) (by grind) h1 (by grind) hb
      refine ⟨a', b', k0, k, k1, ka, kb, ?_⟩
      rw [Rat.pow_succ]
      generalize (2 : Rat) ^ n = z at *
      grind
    · obtain ⟨a', b', k0, k, k1, ka, kb, kw⟩ := ih a ((a + b) / 2) h0 (by grind) (by grind) ha (by grind)
      refine ⟨a', b', k0, k, k1, ka, kb, ?_⟩
      rw [Rat.pow_succ]
      generalize (2 : Rat) ^ n = z at *
      grind
theorem pow_big : 10800000 ≤ (2 : Rat) ^ 2520 * e0 ∧ (0 : Rat) < 2 ^ 2520 := by decide +kernel
/-- **Every number from -1 to 1 is a sine.** -/
theorem inv {y : Rat} (h0 : -1 ≤ y) (h1 : y ≤ 1) : ∃ q : Rat, -5400000 ≤ q ∧ q ≤ 5400000 ∧ Cl (4 * e0) (si q) y := by
  have e := e0_bd
  have s := si_quart
  obtain ⟨a, b, k0, k, k1, ka, kb, kw⟩ := halve y 2520 (-5400000) 5400000 (by grind) (by grind) (by grind) (by grind) (by grind)
  have l := (lip (p := a) (q := b) k (by grind)).1
  have p := pow_big
  have w : b - a ≤ e0 := by
    generalize (2 : Rat) ^ 2520 = z at *
    rcases (Rat.le_total : b - a ≤ e0 ∨ e0 ≤ b - a) with c | c
    · exact c
    · have := Rat.mul_nonneg (show 0 ≤ b - a - e0 by grind) (show 0 ≤ z by grind)
      have : (b - a - e0) * z = 0 := by grind
      rcases Rat.mul_eq_zero.1 this with h | h
      · grind
      · grind
  refine ⟨a, k0, by grind, ?_⟩
  unfold Cl at *
  generalize si a = x1 at *
  generalize si b = x2 at *
  constructor <;> grind
/-- A number whose square is small is small. -/
theorem sqrt_small {z f e : Rat} (hf : 0 ≤ f) (hz : z * z ≤ e) (hfe : e ≤ f * f) : -f ≤ z ∧ z ≤ f := by
  constructor
  · rcases (Rat.le_total : -f ≤ z ∨ z ≤ -f) with h | h
    · exact h
    · have a := Rat.mul_nonneg (show 0 ≤ -f - z by grind) (show 0 ≤ f - z by grind)
      have : (-f - z) * (f - z) = z * z - f * f := by grind
      have b := Rat.mul_nonneg (show 0 ≤ -f - z by grind) (show 0 ≤ -f - z by grind)
      have : -f - z = 0 := by
        have c : (-f - z) * (-f - z) + 2 * f * (-f - z) = z * z - f * f := by grind
        have d := Rat.mul_nonneg hf (show 0 ≤ -f - z by grind)
        have : (-f - z) * (-f - z) = 0 := by grind
        rcases Rat.mul_eq_zero.1 this with h | h <;> exact h
      grind
  · rcases (Rat.le_total : z ≤ f ∨ f ≤ z) with h | h
    · exact h
    · have b := Rat.mul_nonneg (show 0 ≤ z - f by grind) (show 0 ≤ z - f by grind)
      have : z - f = 0 := by
        have c : (z - f) * (z - f) + 2 * f * (z - f) = z * z - f * f := by grind
        have d := Rat.mul_nonneg hf (show 0 ≤ z - f by grind)
        have : (z - f) * (z - f) = 0 := by grind
        rcases Rat.mul_eq_zero.1 this with h | h <;> exact h
      grind
/-- Levels of what is neglected. -/
def e1 : Rat := pw 1220
def e2 : Rat := pw 600
theorem e1_bd : 0 < e1 ∧ e1 ≤ 1 / 2 ^ 200 := by decide +kernel
/-- The cosine from the sine. -/
theorem co_from {q x y f g : Rat} (hf : e0 ≤ f) (hf1 : f ≤ 1 / 1000) (hg : 0 ≤ g) (hfg : 100 * f ≤ g * g) (h0 : -5400000 ≤ q) (h1 : q ≤ 5400000) (hs : Cl (6 * f) (si q) y) (hx : 0 ≤ x) (hu : Cl (4 * f) (x * x + y * y) 1) : Cl g (co q) x := by
  have e := e0_bd
  have ee : e0 = 1048576 * u0 := rfl
  have u := unit q
  have c := co_ge (q := q) (d := 0) h0 h1 (by grind) (by grind) (by grind)
  rw [show tb * 0 / 2 - e0 = -e0 by grind] at c
  have b := bdq2 q
  have m := Cl.mul 2 3 hs hs b.2 (by unfold Cl at hs; have := b.2; constructor <;> grind)
  have d : Cl (36 * f) (co q * co q) (x * x) := by
    unfold Cl at *
    generalize co q * co q = z1 at *
    generalize si q * si q = z2 at *
    generalize y * y = z3 at *
    generalize x * x = z4 at *
    constructor <;> grind
  have hx2 : x ≤ 2 := by
    have := sq_nn y
    unfold Cl at hu
    exact (two_bd (z := x) (by grind)).2
  have k := sqrt_small (z := co q - x) (f := g) (e := 100 * f) hg ?_ hfg
  · exact k
  · unfold Cl at d
    rcases (Rat.le_total : co q ≤ x ∨ x ≤ co q) with h | h
    · have a := Rat.mul_nonneg (show 0 ≤ x - co q by grind) (show 0 ≤ co q + f by grind)
      have a2 := Rat.mul_nonneg (show 0 ≤ f by grind) (show 0 ≤ 4 - (x - co q) by grind)
      generalize co q = z at *
      grind
    · have a := Rat.mul_nonneg (show 0 ≤ co q - x by grind) hx
      generalize co q = z at *
      grind
/-- **Every point of the circle has a direction.** -/
theorem dir {x y f g : Rat} (hf : e0 ≤ f) (hf1 : f ≤ 1 / 1000) (hg : f ≤ g) (hfg : 100 * f ≤ g * g) (hu : Cl (2 * f) (x * x + y * y) 1) : ∃ q : Rat, -10800000 ≤ q ∧ q ≤ 16200000 ∧ Cl (2 * g) (co q) x ∧ Cl (8 * f) (si q) y := by
  have e := e0_bd
  have ee : e0 = 1048576 * u0 := rfl
  have eu := u0_bd
  have sx := sq_nn x
  have hy := one_bd' (z := y) (e := 2 * f) (by grind) (by unfold Cl at hu; grind)
  obtain ⟨y', y0, y1, yc⟩ : ∃ y' : Rat, -1 ≤ y' ∧ y' ≤ 1 ∧ Cl (2 * f) y' y := by
    rcases (Rat.le_total : y ≤ 1 ∨ 1 ≤ y) with h | h
    · rcases (Rat.le_total : -1 ≤ y ∨ y ≤ -1) with k | k
      · exact ⟨y, k, h, Cl.refl _ (by grind)⟩
      · exact ⟨-1, by grind, by grind, by unfold Cl; constructor <;> grind⟩
    · exact ⟨1, by grind, by grind, by unfold Cl; constructor <;> grind⟩
  obtain ⟨q, q0, q1, qs⟩ := inv y0 y1
  have qy : Cl (6 * f) (si q) y := (qs.trans yc).wide (by grind)
  rcases (Rat.le_total : 0 ≤ x ∨ x ≤ 0) with h | h
  · have c := co_from hf hf1 (by grind) hfg q0 q1 qy h (hu.wide (by grind))
    exact ⟨q, by grind, by grind, c.wide (by grind), qy.wide (by grind)⟩
  · have c := co_from (x := -x) hf hf1 (by grind) hfg q0 q1 qy (by grind) (by rw [show -x * -x = x * x by grind]; exact hu.wide (by grind))
    have o := oppq (-q)
    have n := si_neg (q := q) (by grind) (by grind)
    rw [n.1, n.2] at o
    refine ⟨-q + 10800000, by grind, by grind, ?_, ?_⟩
    · have := o.1.trans c.neg
      rw [show - -x = x by grind] at this
      exact this.wide (by grind)
    · rw [show - -si q = si q by grind] at o
      exact (o.2.trans qy).wide (by grind)
end TB
end Go.Proofs.YtfilgpifiboccaaGreat

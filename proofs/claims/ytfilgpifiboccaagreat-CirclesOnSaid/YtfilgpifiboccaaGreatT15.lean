import Derived.Test.YtfilgpifiboccaaGreatMb
import Derived.Test.YtfilgpifiboccaaGreatT13
namespace Go.Proofs.YtfilgpifiboccaaGreat
open SM
/-- A number as a fraction of 1. -/
def fr (a : Int) : Rat := (1 / 115792089237316195423570985008687907853269984665640564039457584007913129639936 : Rat) * (a : Rat)
def eps : Rat := 1 / 115792089237316195423570985008687907853269984665640564039457584007913129639936
theorem fr_nonneg {a : Int} (h : 0 ≤ a) : 0 ≤ fr a := by
  have : (0 : Rat) ≤ (a : Rat) := by exact_mod_cast h
  unfold fr; grind
theorem fr_one {a : Int} (h : a ≤ 115792089237316195423570985008687907853269984665640564039457584007913129639936) : fr a ≤ 1 := by
  have : (a : Rat) ≤ ((115792089237316195423570985008687907853269984665640564039457584007913129639936 : Int) : Rat) := Rat.intCast_le_intCast.2 h
  have e : ((115792089237316195423570985008687907853269984665640564039457584007913129639936 : Int) : Rat) = 115792089237316195423570985008687907853269984665640564039457584007913129639936 := rfl
  rw [e] at this
  unfold fr; grind
theorem fr_prod {q u m : Int} (h1 : m * 115792089237316195423570985008687907853269984665640564039457584007913129639936 ≤ q * u) (h2 : q * u < (m + 2) * 115792089237316195423570985008687907853269984665640564039457584007913129639936) : Wit (fr q * fr u - fr m) (2 * eps) := by
  have e : ((115792089237316195423570985008687907853269984665640564039457584007913129639936 : Int) : Rat) = 115792089237316195423570985008687907853269984665640564039457584007913129639936 := rfl
  have h1' : ((m * 115792089237316195423570985008687907853269984665640564039457584007913129639936 : Int) : Rat) ≤ ((q * u : Int) : Rat) := Rat.intCast_le_intCast.2 h1
  have h2' : ((q * u : Int) : Rat) ≤ (((m + 2) * 115792089237316195423570985008687907853269984665640564039457584007913129639936 : Int) : Rat) := Rat.intCast_le_intCast.2 (Int.le_of_lt h2)
  rw [Rat.intCast_mul, Rat.intCast_mul, e] at h1'
  rw [Rat.intCast_mul, Rat.intCast_mul, e, Rat.intCast_add] at h2'
  have e2 : ((2 : Int) : Rat) = 2 := rfl
  rw [e2] at h2'
  unfold fr eps Wit
  generalize (m : Rat) = M at *
  have p : (q : Rat) * (u : Rat) = (u : Rat) * (q : Rat) := by grind
  constructor <;> grind
theorem step_err {Yp q m u v d r : Int} {D : Nat} (hD : (D : Int) = d) (hd : 2 ≤ D) (hr0 : 0 ≤ r) (hr1 : r < d) (hq : Yp = q * d + r) (h1 : m * 115792089237316195423570985008687907853269984665640564039457584007913129639936 ≤ q * u) (h2 : q * u < (m + 2) * 115792089237316195423570985008687907853269984665640564039457584007913129639936) (hv : v = q - m) (hu0 : 0 ≤ u) (hu1 : u ≤ 115792089237316195423570985008687907853269984665640564039457584007913129639936)
    {Y h b E B : Rat} (_hb : 0 ≤ b) (hB : 1 / 2 * b + 3 * eps ≤ B) (hY : Wit (fr Yp - Y) b) (hY1 : Wit Y (7 / 10)) (_hE : 0 ≤ E) (hh : Wit (fr u - h) E) : Wit (fr v - 1 / (D : Rat) * (Y * (1 - h))) (B + 7 / 10 * (1 / (D : Rat)) * E) := by
  have hp := fr_prod h1 h2
  have i1 := inv_le_half hd
  have i0 := inv_nonneg' (D : Rat) (by exact_mod_cast Nat.zero_le _)
  have hDR : (d : Rat) = (D : Rat) := by rw [← hD]; rfl
  have hd2 : (2 : Rat) ≤ (D : Rat) := by exact_mod_cast hd
  have hid : (1 / (D : Rat)) * (D : Rat) = 1 := by grind
  have hrd : (r : Rat) ≤ (D : Rat) := by rw [← hDR]; exact_mod_cast Int.le_of_lt hr1
  have hr0' : (0 : Rat) ≤ (r : Rat) := by exact_mod_cast hr0
  have hqR : (Yp : Rat) = (q : Rat) * (D : Rat) + (r : Rat) := by rw [hq, Rat.intCast_add, Rat.intCast_mul, hDR]
  have hvR : (v : Rat) = (q : Rat) - (m : Rat) := by rw [hv, Rat.intCast_sub]
  generalize 1 / (D : Rat) = i at *
  have fq : fr q = i * (fr Yp) - i * fr r := by unfold fr; grind
  have fv : fr v = fr q - fr m := by unfold fr; grind
  have hir0 : 0 ≤ i * fr r := Rat.mul_nonneg i0 (fr_nonneg hr0)
  have hir1 : i * fr r ≤ eps := by
    have := Rat.mul_le_mul_of_nonneg_left hrd i0
    unfold fr eps; grind
  have w1 : Wit (i * (fr Yp - Y)) (1 / 2 * b) := Wit.mul ⟨by grind, by grind⟩ hY
  have w2 : Wit (fr q - i * Y) (1 / 2 * b + eps) := by
    unfold Wit at *
    have e : fr q - i * Y = i * (fr Yp - Y) - i * fr r := by rw [fq]; grind
    rw [e]
    generalize i * (fr Yp - Y) = A at *
    generalize i * fr r = C at *
    have : 0 ≤ eps := by unfold eps; grind
    constructor <;> grind
  have u0 := fr_nonneg hu0
  have u1 := fr_one hu1
  have w3 : Wit (1 - fr u) 1 := ⟨by grind, by grind⟩
  have w4 : Wit (i * Y) (7 / 10 * i) := (Wit.mul (⟨by grind, by grind⟩ : Wit i i) hY1).eq rfl |>.mono (by grind)
  have w5 : Wit (h - fr u) E := by unfold Wit at *; constructor <;> grind
  have w6 := ((w2.mul w3).add (w4.mul w5)).add hp
  refine (w6.eq ?_).mono ?_
  · rw [fv]; grind
  · grind
/-- The chain of errors. -/
def eb (o : Nat) (B : Rat) : Nat → Rat → Rat
  | 0, E => E
  | k + 1, E => eb o B k (B + 7 / 10 * (1 / (((2 * k + 1 + o) * (2 * k + 2 + o) : Nat) : Rat)) * E)
theorem chain_err {y : Int × Int × Int × Int} {o : Nat} {f : Nat → Int × Int × Int × Int} (hf : Series y (o : Int) f) {Y b B : Rat} (hb : 0 ≤ b) (hB : 1 / 2 * b + 3 * eps ≤ B) (hY : Wit (fr (num y.1 y.2.1 y.2.2.1 y.2.2.2) - Y) b) (hY1 : Wit Y (7 / 10)) :
    ∀ (k : Nat) (h E : Rat), k ≤ 34 → 0 ≤ E → Wit (fr (num (f k).1 (f k).2.1 (f k).2.2.1 (f k).2.2.2) - h) E → Wit (fr (num (f 0).1 (f 0).2.1 (f 0).2.2.1 (f 0).2.2.2) - hR o Y k h) (eb o B k E)
  | 0, h, E, _, _, hh => hh
  | k + 1, h, E, hk, hE, hh => by
    obtain ⟨hw, _, hs⟩ := hf
    obtain ⟨q0, q1, q2, q3, m0, m1, m2, m3, r, hq, hm, hr0, hr1, e1, e2, e3, e4, _, _, _⟩ := (hs k (by omega)).out
    have bu := num_bd _ _ _ _ (hw (k + 1) hk)
    have hd : 2 ≤ (2 * k + 1 + o) * (2 * k + 2 + o) := by
      have : 1 * 2 ≤ (2 * k + 1 + o) * (2 * k + 2 + o) := Nat.mul_le_mul (by omega) (by omega)
      omega
    have hD : (((2 * k + 1 + o) * (2 * k + 2 + o) : Nat) : Int) = divisor k (o : Int) := by
      unfold divisor; push_cast
      have : (2 * ((k : Int) + 1) - 1 + (o : Int)) = 2 * k + 1 + o := by omega
      rw [this]
      have : (2 * ((k : Int) + 1) + (o : Int)) = 2 * k + 2 + o := by omega
      rw [this]
      have : (2 * (k : Int) + 1 + 1 + (o : Int)) = 2 * k + 2 + o := by omega
      first | rw [this] | rfl
    have hst := step_err hD hd hr0 hr1 e1 e2 e3 e4 bu.1 (Int.le_of_lt bu.2) hb hB hY hY1 hE hh
    refine chain_err ⟨hw, ‹_›, hs⟩ hb hB hY hY1 k _ _ (by omega) ?_ hst
    have i0 := inv_nonneg' (((2 * k + 1 + o) * (2 * k + 2 + o) : Nat) : Rat) (by exact_mod_cast Nat.zero_le _)
    have := Rat.mul_nonneg (Rat.mul_nonneg (show (0 : Rat) ≤ 7 / 10 by grind) i0) hE
    have : 0 ≤ eps := by unfold eps; grind
    grind
theorem eb0 : eb 0 (1 / 38685626227668133590597632) 10 1 ≤ 1 / 9223372036854775808 := by decide +kernel
theorem eb1 : eb 1 (1 / 38685626227668133590597632) 10 1 ≤ 1 / 9223372036854775808 := by decide +kernel
theorem series_err {y : Int × Int × Int × Int} {o : Nat} (ho : o = 0 ∨ o = 1) {f : Nat → Int × Int × Int × Int} (hf : Series y (o : Int) f) {Y : Rat} (hY : Wit (fr (num y.1 y.2.1 y.2.2.1 y.2.2.2) - Y) (1 / 38685626227668133590597632)) (hY0 : 0 ≤ Y) (hY1 : Y ≤ 7 / 10) :
    Wit (fr (num (f 0).1 (f 0).2.1 (f 0).2.2.1 (f 0).2.2.2) - hR o Y 10 0) (1 / 9223372036854775808) := by
  have b10 := num_bd _ _ _ _ (hf.1 10 (by omega))
  have hst : Wit (fr (num (f 10).1 (f 10).2.1 (f 10).2.2.1 (f 10).2.2.2) - 0) 1 := by
    have := fr_nonneg b10.1
    have := fr_one (Int.le_of_lt b10.2)
    unfold Wit; constructor <;> grind
  have := chain_err hf (b := 1 / 38685626227668133590597632) (B := 1 / 38685626227668133590597632) (by grind) (by unfold eps; grind) hY ⟨by grind, by grind⟩ 10 0 1 (by omega) (by grind) hst
  rcases ho with rfl | rfl
  · exact this.mono eb0
  · exact this.mono eb1
end Go.Proofs.YtfilgpifiboccaaGreat
namespace Go.Proofs.YtfilgpifiboccaaGreat
open SM
/-- One times the sine, rounded down; whether it is exact; and the sine. -/
def flo (n : Nat) : Nat := if n = 0 then 0 else if n = 1800000 then 536870912 else if n = 5400000 then 1073741824 else if n ≤ 2700000 then aS n / 72057594037927936 else aC (5400000 - n) / 72057594037927936
def exa (n : Nat) : Bool := n == 0 || n == 1800000 || n == 5400000
def T (n : Nat) : Rat := if n ≤ 2700000 then tS n else tC (5400000 - n)
theorem floor_at {A : Nat} {x : Rat} (hA : Wit (G86 * x - (A : Rat)) 2) (hF : Far x) : ((A / 72057594037927936 : Nat) : Rat) * 72057594037927936 + 17000000000 ≤ G86 * x ∧ G86 * x ≤ (((A / 72057594037927936 : Nat) : Rat) + 1) * 72057594037927936 - 17000000000 := by
  obtain ⟨f, h1, h2⟩ := hF
  have e : A / 72057594037927936 = f := by
    have a1 : ((f * 72057594037927936 : Nat) : Rat) ≤ ((A : Nat) : Rat) := by
      rw [Rat.natCast_mul]
      have : ((72057594037927936 : Nat) : Rat) = 72057594037927936 := rfl
      unfold Wit at hA
      rw [this]
      grind
    have a2 : ((A : Nat) : Rat) ≤ (((f + 1) * 72057594037927936 - 1000000000: Nat) : Rat) := by
      have : (((f + 1) * 72057594037927936 - 1000000000 : Nat) : Rat) = ((f : Rat) + 1) * 72057594037927936 - 1000000000 := by
        rw [show (f + 1) * 72057594037927936 - 1000000000 = f * 72057594037927936 + 72057593037927936 by omega, Rat.natCast_add, Rat.natCast_mul]
        have : ((72057594037927936 : Nat) : Rat) = 72057594037927936 := rfl
        rw [this]
        have : ((72057593037927936 : Nat) : Rat) = 72057593037927936 := rfl
        rw [this]
        grind
      unfold Wit at hA
      rw [this]
      grind
    have b1 := Rat.natCast_le_natCast.1 a1
    have b2 := Rat.natCast_le_natCast.1 a2
    omega
  rw [e]
  exact ⟨h1, h2⟩
theorem far_num {x : Rat} {A f : Nat} (hA : Wit (G86 * x - (A : Rat)) 2) (h1 : f * 2 ^ 56 + WW ≤ A) (h2 : A + WW ≤ (f + 1) * 2 ^ 56) : Far x := by
  have e1 := Rat.natCast_le_natCast.2 h1
  have e2 := Rat.natCast_le_natCast.2 h2
  rw [Rat.natCast_add] at e2
  have cB : (BB : Rat) = 2147483648 := rfl
  unfold Wit at hA
  refine far_of ⟨f, ?_, ?_⟩
  · rw [cB]
    grind
  · rw [cB]
    grind
theorem far_mid : Far (tS 2700000) := far_num (f := 759250124) (aS_bd 2700000 (by omega)) (by decide +kernel) (by decide +kernel)
theorem gap (n : Nat) (hn : n ≤ 5400000) (hx : exa n = false) : (flo n : Rat) * 72057594037927936 + 17000000000 ≤ G86 * T n ∧ G86 * T n ≤ ((flo n : Rat) + 1) * 72057594037927936 - 17000000000 := by
  simp only [exa, Bool.or_eq_false_iff, beq_eq_false_iff_ne] at hx
  obtain ⟨⟨h0, h1⟩, h2⟩ := hx
  unfold flo T
  rw [if_neg h0, if_neg h1, if_neg h2]
  by_cases h : n ≤ 2700000
  · rw [if_pos h, if_pos h]
    refine floor_at (aS_bd n (by omega)) ?_
    rcases Nat.lt_or_ge n 2700000 with h3 | h3
    · exact farS n h3 h0 h1
    · have : n = 2700000 := by omega
      rw [this]
      exact far_mid
  · rw [if_neg h, if_neg h]
    exact floor_at (aC_bd _ (by omega)) (farC _ (by omega) (by omega))
theorem at_exact (n : Nat) (hn : n ≤ 5400000) (hx : exa n = true) : Wit (G86 * T n - (flo n : Rat) * 72057594037927936) 1000000000 := by
  simp only [exa, Bool.or_eq_true, beq_iff_eq] at hx
  rcases hx with (rfl | rfl) | rfl
  · have h := aS_bd 0 (by omega)
    have e : aS 0 ≤ 100000000 := by decide +kernel
    have e' : ((aS 0 : Nat) : Rat) ≤ ((100000000 : Nat) : Rat) := Rat.natCast_le_natCast.2 e
    have c : ((100000000 : Nat) : Rat) = 100000000 := rfl
    have z : (0 : Rat) ≤ ((aS 0 : Nat) : Rat) := by exact_mod_cast Nat.zero_le _
    have f : flo 0 = 0 := rfl
    have f' : ((0 : Nat) : Rat) = 0 := rfl
    rw [f, f']
    unfold T
    rw [if_pos (by omega)]
    unfold Wit at *
    rw [c] at e'
    constructor <;> grind
  · have h := aS_bd 1800000 (by omega)
    have e1 : 536870912 * 72057594037927936 ≤ aS 1800000 + 100000000 := by decide +kernel
    have e2 : aS 1800000 ≤ 536870912 * 72057594037927936 + 100000000 := by decide +kernel
    have g1 : ((536870912 * 72057594037927936 : Nat) : Rat) ≤ ((aS 1800000 + 100000000 : Nat) : Rat) := Rat.natCast_le_natCast.2 e1
    have g2 : ((aS 1800000 : Nat) : Rat) ≤ ((536870912 * 72057594037927936 + 100000000 : Nat) : Rat) := Rat.natCast_le_natCast.2 e2
    rw [Rat.natCast_add] at g1
    have c : ((100000000 : Nat) : Rat) = 100000000 := rfl
    have c2 : ((536870912 * 72057594037927936 : Nat) : Rat) = 536870912 * 72057594037927936 := by decide +kernel
    have c3 : ((536870912 * 72057594037927936 + 100000000 : Nat) : Rat) = 536870912 * 72057594037927936 + 100000000 := by decide +kernel
    rw [c, c2] at g1
    rw [c3] at g2
    have f : flo 1800000 = 536870912 := rfl
    have f' : ((536870912 : Nat) : Rat) = 536870912 := rfl
    rw [f, f']
    unfold T
    rw [if_pos (by omega)]
    unfold Wit at *
    constructor <;> grind
  · have h := aC_bd 0 (by omega)
    have e1 : 1073741824 * 72057594037927936 ≤ aC 0 + 100000000 := by decide +kernel
    have e2 : aC 0 ≤ 1073741824 * 72057594037927936 + 100000000 := by decide +kernel
    have g1 : ((1073741824 * 72057594037927936 : Nat) : Rat) ≤ ((aC 0 + 100000000 : Nat) : Rat) := Rat.natCast_le_natCast.2 e1
    have g2 : ((aC 0 : Nat) : Rat) ≤ ((1073741824 * 72057594037927936 + 100000000 : Nat) : Rat) := Rat.natCast_le_natCast.2 e2
    rw [Rat.natCast_add] at g1
    have c : ((100000000 : Nat) : Rat) = 100000000 := rfl
    have c2 : ((1073741824 * 72057594037927936 : Nat) : Rat) = 1073741824 * 72057594037927936 := by decide +kernel
    have c3 : ((1073741824 * 72057594037927936 + 100000000 : Nat) : Rat) = 1073741824 * 72057594037927936 + 100000000 := by decide +kernel
    rw [c, c2] at g1
    rw [c3] at g2
    have f : flo 5400000 = 1073741824 := rfl
    have f' : ((1073741824 : Nat) : Rat) = 1073741824 := rfl
    rw [f, f']
    unfold T
    rw [if_neg (by omega)]
    unfold Wit at *
    constructor <;> grind
theorem up (n : Nat) (hn : n < 5400000) : 1000000000000 ≤ G86 * (T (n + 1) - T n) := by
  unfold T
  rcases Nat.lt_or_ge n 2700000 with h | h
  · rw [if_pos (by omega), if_pos (by omega)]
    exact upS n h
  · rcases Nat.eq_or_lt_of_le h with h1 | h1
    · rw [← h1, if_neg (by omega), if_pos (by omega)]
      have a := aS_bd 2700000 (by omega)
      have b := aC_bd (5400000 - (2700000 + 1)) (by omega)
      have e : aS 2700000 + 1000000000004 ≤ aC (5400000 - (2700000 + 1)) := by decide +kernel
      have e' : ((aS 2700000 + 1000000000004 : Nat) : Rat) ≤ ((aC (5400000 - (2700000 + 1)) : Nat) : Rat) := Rat.natCast_le_natCast.2 e
      rw [Rat.natCast_add] at e'
      have c : ((1000000000004 : Nat) : Rat) = 1000000000004 := rfl
      rw [c] at e'
      unfold Wit at *
      grind
    · rw [if_neg (by omega), if_neg (by omega)]
      have := downC (5400000 - (n + 1)) (by omega)
      rw [show 5400000 - (n + 1) + 1 = 5400000 - n by omega] at this
      exact this
/-- The sine's floor grows; strictly up to an exact one. -/
theorem flo_up (n : Nat) (hn : n < 5400000) : flo n ≤ flo (n + 1) ∧ (exa (n + 1) = true → flo n < flo (n + 1)) := by
  have hu := up n hn
  have lo : (flo n : Rat) * 72057594037927936 - 1000000000 ≤ G86 * T n := by
    cases hx : exa n
    · have := gap n (by omega) hx; grind
    · have := at_exact n (by omega) hx; unfold Wit at this; grind
  cases hx : exa (n + 1)
  · have := gap (n + 1) (by omega) hx
    have h : ((flo n : Nat) : Rat) < ((flo (n + 1) + 1 : Nat) : Rat) := by
      rw [Rat.natCast_add]
      have c : ((1 : Nat) : Rat) = 1 := rfl
      rw [c]
      grind
    have := Rat.natCast_lt_natCast.1 h
    exact ⟨by omega, by intro h; cases h⟩
  · have := at_exact (n + 1) (by omega) hx
    have h : ((flo n : Nat) : Rat) < ((flo (n + 1) : Nat) : Rat) := by
      unfold Wit at this
      grind
    have := Rat.natCast_lt_natCast.1 h
    exact ⟨by omega, fun _ => this⟩
end Go.Proofs.YtfilgpifiboccaaGreat

import Derived.Test.YtfilgpifiboccaaGreatT15
import Derived.Test.YtfilgpifiboccaaGreatT14
import Derived.Deep.RegionHeld3
namespace Go.Proofs.YtfilgpifiboccaaGreat
open Go.RowKit SM
theorem x_err {n : Nat} {v r : Int} (hn : n ≤ 2700000) (h0 : 0 ≤ r) (h1 : r < 10800000) (h : v * 10800000 + r = 363771576891766324280234942777729862653393377328392429958772151117938894466185 * (n : Int)) : Wit (fr v - xR n) (1 / 158456325028528675187087900672) := by
  have e : (v : Rat) * 10800000 + (r : Rat) = 363771576891766324280234942777729862653393377328392429958772151117938894466185 * (n : Rat) := by
    have : ((v * 10800000 + r : Int) : Rat) = ((363771576891766324280234942777729862653393377328392429958772151117938894466185 * (n : Int) : Int) : Rat) := by rw [h]
    rw [Rat.intCast_add, Rat.intCast_mul, Rat.intCast_mul] at this
    exact this
  have r0 : (0 : Rat) ≤ (r : Rat) := by exact_mod_cast h0
  have r1 : (r : Rat) ≤ ((10800000 : Int) : Rat) := Rat.intCast_le_intCast.2 (Int.le_of_lt h1)
  have c1 : ((10800000 : Int) : Rat) = 10800000 := rfl
  rw [c1] at r1
  have n0 : (0 : Rat) ≤ (n : Rat) := by exact_mod_cast Nat.zero_le _
  have n1 : (n : Rat) ≤ ((2700000 : Nat) : Rat) := Rat.natCast_le_natCast.2 hn
  have c2 : ((2700000 : Nat) : Rat) = 2700000 := rfl
  rw [c2] at n1
  clear h h0 h1 hn
  unfold Wit fr xR th pi96
  generalize (n : Rat) = N at *
  generalize (v : Rat) = V at *
  generalize (r : Rat) = R at *
  constructor <;> grind
theorem y_err {n : Nat} {x y : Int} (hn : n ≤ 2700000) (hx : Wit (fr x - xR n) (1 / 158456325028528675187087900672)) (hx0 : 0 ≤ x) (hx1 : x ≤ 115792089237316195423570985008687907853269984665640564039457584007913129639936) (h1 : y * 115792089237316195423570985008687907853269984665640564039457584007913129639936 ≤ x * x) (h2 : x * x < (y + 2) * 115792089237316195423570985008687907853269984665640564039457584007913129639936) : Wit (fr y - xR n * xR n) (1 / 38685626227668133590597632) := by
  have hp := fr_prod h1 h2
  have b := xR_bd n (by omega)
  have u0 := fr_nonneg hx0
  have u1 := fr_one hx1
  have w := hx.mul (show Wit (fr x + xR n) 2 from ⟨by grind, by grind⟩)
  have e : fr y - xR n * xR n = (fr x - xR n) * (fr x + xR n) - (fr x * fr x - fr y) := by grind
  rw [e]
  have : eps = 1 / 115792089237316195423570985008687907853269984665640564039457584007913129639936 := rfl
  rw [this] at hp
  unfold Wit at *
  constructor <;> grind
theorem floor_val {s f : Int} {x : Rat} (h : Wit (fr s - x) (1 / 4611686018427387904)) (h1 : (f : Rat) * 72057594037927936 + 17000000000 ≤ G86 * x) (h2 : G86 * x ≤ ((f : Rat) + 1) * 72057594037927936 - 17000000000) : f * 107839786668602559178668060348078522694548577690162289924414440996864 ≤ s ∧ s < (f + 1) * 107839786668602559178668060348078522694548577690162289924414440996864 := by
  have g : G86 = 77371252455336267181195264 := rfl
  rw [g] at h1 h2
  have c : ((107839786668602559178668060348078522694548577690162289924414440996864 : Int) : Rat) = 107839786668602559178668060348078522694548577690162289924414440996864 := rfl
  have c1 : ((1 : Int) : Rat) = 1 := rfl
  constructor
  · apply Rat.intCast_le_intCast.1
    rw [Rat.intCast_mul, c]
    unfold Wit fr at h
    grind
  · apply Rat.intCast_lt_intCast.1
    rw [Rat.intCast_mul, Rat.intCast_add, c, c1]
    unfold Wit fr at h
    grind
theorem top_word {s0 s1 s2 s3 f : Int} (h : Word s0 ∧ Word s1 ∧ Word s2 ∧ Word s3) (h1 : f * 107839786668602559178668060348078522694548577690162289924414440996864 ≤ num s0 s1 s2 s3) (h2 : num s0 s1 s2 s3 < (f + 1) * 107839786668602559178668060348078522694548577690162289924414440996864) : s0 / 17179869184 = f := by
  obtain ⟨⟨_, _⟩, ⟨_, _⟩, ⟨_, _⟩, ⟨_, _⟩⟩ := h
  unfold num at *
  omega
theorem sine_low (n : Nat) (h0 : 0 < n) (h1 : n ≤ 2700000) (h2 : n ≠ 1800000) (w : World) : Calls Tryz.prog 169 #[.int .i64 (n : Int)] w (SinePost (flo n : Int) false w) := by
  obtain ⟨x0, x1, x2, x3, r, hx, hr0, hr1, ex, H1⟩ := radians_ex (n : Int) (by omega) (by omega)
  obtain ⟨y, f, hy, ey1, ey2, hf, H2⟩ := less_ex x0 x1 x2 x3 1 hx (by omega) (by omega)
  have hu := hf.1 0 (by omega)
  obtain ⟨m0, m1, m2, m3, hm, em1, em2, H3⟩ := nmul_ex x0 x1 x2 x3 (f 0).1 (f 0).2.1 (f 0).2.2.1 (f 0).2.2.2 hx.1 hx.2.1 hx.2.2.1 hx.2.2.2 hu.1 hu.2.1 hu.2.2.1 hu.2.2.2
  obtain ⟨s0, s1, s2, s3, c, hs, hc, es, H4⟩ := sub_ex x0 x1 x2 x3 m0 m1 m2 m3 hx.1 hx.2.1 hx.2.2.1 hx.2.2.2 hm.1 hm.2.1 hm.2.2.1 hm.2.2.2
  change num x0 x1 x2 x3 * 10800000 + r = _ at ex
  change num m0 m1 m2 m3 * _ ≤ num x0 x1 x2 x3 * num (f 0).1 (f 0).2.1 (f 0).2.2.1 (f 0).2.2.2 at em1
  change num x0 x1 x2 x3 * num (f 0).1 (f 0).2.1 (f 0).2.2.1 (f 0).2.2.2 < (num m0 m1 m2 m3 + 2) * _ at em2
  change num s0 s1 s2 s3 = num x0 x1 x2 x3 - num m0 m1 m2 m3 + _ at es
  have bx := num_bd _ _ _ _ hx
  have bu := num_bd _ _ _ _ hu
  have bm := num_bd _ _ _ _ hm
  have bs := num_bd _ _ _ _ hs
  have hxe := x_err h1 hr0 hr1 ex
  have hye := y_err h1 hxe bx.1 (Int.le_of_lt bx.2) ey1 ey2
  have hsq := sq_bd n (by omega)
  have hse := series_err (.inr rfl) hf hye hsq.1 hsq.2
  have hpe := fr_prod em1 em2
  have hle : num m0 m1 m2 m3 ≤ num x0 x1 x2 x3 := by
    have : num x0 x1 x2 x3 * num (f 0).1 (f 0).2.1 (f 0).2.2.1 (f 0).2.2.2 ≤ num x0 x1 x2 x3 * 115792089237316195423570985008687907853269984665640564039457584007913129639936 := Int.mul_le_mul_of_nonneg_left (by omega) bx.1
    generalize num x0 x1 x2 x3 * num (f 0).1 (f 0).2.1 (f 0).2.2.1 (f 0).2.2.2 = P at *
    omega
  have es' : num s0 s1 s2 s3 = num x0 x1 x2 x3 - num m0 m1 m2 m3 := by
    clear em1 em2 ex ey1 ey2
    omega
  have hfs : fr (num s0 s1 s2 s3) = fr (num x0 x1 x2 x3) - fr (num m0 m1 m2 m3) := by
    unfold fr; rw [es', Rat.intCast_sub]; grind
  have hT : Wit (fr (num s0 s1 s2 s3) - tS n) (1 / 4611686018427387904) := by
    have u0 := fr_nonneg bu.1
    have u1 := fr_one (Int.le_of_lt bu.2)
    have xb := xR_bd n (by omega)
    have w1 := hxe.mul (show Wit (1 - fr (num (f 0).1 (f 0).2.1 (f 0).2.2.1 (f 0).2.2.2)) 1 from ⟨by grind, by grind⟩)
    have w2 := (show Wit (xR n) (4 / 5) from ⟨by grind, xb.2⟩).mul hse
    have e : fr (num s0 s1 s2 s3) - tS n = (fr (num x0 x1 x2 x3) - xR n) * (1 - fr (num (f 0).1 (f 0).2.1 (f 0).2.2.1 (f 0).2.2.2)) - xR n * (fr (num (f 0).1 (f 0).2.1 (f 0).2.2.1 (f 0).2.2.2) - hR 1 (xR n * xR n) 10 0) + (fr (num x0 x1 x2 x3) * fr (num (f 0).1 (f 0).2.1 (f 0).2.2.1 (f 0).2.2.2) - fr (num m0 m1 m2 m3)) := by
      rw [hfs]; unfold tS; grind
    rw [e]
    have : eps = 1 / 115792089237316195423570985008687907853269984665640564039457584007913129639936 := rfl
    rw [this] at hpe
    clear e hfs hse hye hxe
    unfold Wit at *
    constructor <;> grind
  have hx0 : exa n = false := by
    simp only [exa, Bool.or_eq_false_iff, beq_eq_false_iff_ne]
    omega
  have hg := gap n (by omega) hx0
  have hTn : T n = tS n := by unfold T; rw [if_pos h1]
  rw [hTn, ← Rat.intCast_natCast] at hg
  have hv := floor_val hT hg.1 hg.2
  have ht := top_word hs hv.1 hv.2
  have := sine_sin (n : Int) x0 x1 x2 x3 (f 0).1 (f 0).2.1 (f 0).2.2.1 (f 0).2.2.2 m0 m1 m2 m3 s0 s1 s2 s3 (by omega) (by omega) (by omega) hs.1 H1 H2 H3 H4 w
  rw [ht] at this
  exact this
theorem sine_high (n : Nat) (h0 : 2700000 < n) (h1 : n < 5400000) (w : World) : Calls Tryz.prog 169 #[.int .i64 (n : Int)] w (SinePost (flo n : Int) false w) := by
  have hk : ((5400000 - n : Nat) : Int) = 5400000 - (n : Int) := by omega
  obtain ⟨x0, x1, x2, x3, r, hx, hr0, hr1, ex, H1⟩ := radians_ex ((5400000 - n : Nat) : Int) (by omega) (by omega)
  obtain ⟨y, f, hy, ey1, ey2, hf, H2⟩ := less_ex x0 x1 x2 x3 0 hx (by omega) (by omega)
  have hu := hf.1 0 (by omega)
  obtain ⟨s0, s1, s2, s3, c, hs, hc, es, H4⟩ := sub_ex 0 0 0 0 (f 0).1 (f 0).2.1 (f 0).2.2.1 (f 0).2.2.2 ⟨by omega, by omega⟩ ⟨by omega, by omega⟩ ⟨by omega, by omega⟩ ⟨by omega, by omega⟩ hu.1 hu.2.1 hu.2.2.1 hu.2.2.2
  change num x0 x1 x2 x3 * 10800000 + r = _ at ex
  change num s0 s1 s2 s3 = num 0 0 0 0 - num (f 0).1 (f 0).2.1 (f 0).2.2.1 (f 0).2.2.2 + _ at es
  have bx := num_bd _ _ _ _ hx
  have bu := num_bd _ _ _ _ hu
  have bs := num_bd _ _ _ _ hs
  have hxe := x_err (n := 5400000 - n) (by omega) hr0 hr1 ex
  have hye := y_err (by omega) hxe bx.1 (Int.le_of_lt bx.2) ey1 ey2
  have hsq := sq_bd (5400000 - n) (by omega)
  have hse := series_err (.inl rfl) hf hye hsq.1 hsq.2
  have hx0 : exa n = false := by
    simp only [exa, Bool.or_eq_false_iff, beq_eq_false_iff_ne]
    omega
  have hg := gap n (by omega) hx0
  have hTn : T n = tC (5400000 - n) := by unfold T; rw [if_neg (by omega)]
  rw [hTn, ← Rat.intCast_natCast] at hg
  have hz : num 0 0 0 0 = 0 := by decide
  have hC : Wit (1 - fr (num (f 0).1 (f 0).2.1 (f 0).2.2.1 (f 0).2.2.2) - tC (5400000 - n)) (1 / 9223372036854775808) := by
    unfold tC
    unfold Wit at *
    constructor <;> grind
  have hpos : 0 < num (f 0).1 (f 0).2.1 (f 0).2.2.1 (f 0).2.2.2 := by
    rcases Int.lt_or_eq_of_le bu.1 with h | h
    · exact h
    · exfalso
      rw [← h] at hC
      have z : fr 0 = 0 := by decide +kernel
      rw [z] at hC
      have g : G86 = 77371252455336267181195264 := rfl
      rw [g] at hg
      unfold Wit at hC
      generalize tC (5400000 - n) = t at *
      have l1 : (((flo n : Int)) : Rat) < ((1073741824 : Int) : Rat) := by
        have : ((1073741824 : Int) : Rat) = 1073741824 := rfl
        rw [this]; grind
      have l2 : ((1073741823 : Int) : Rat) < (((flo n : Int)) : Rat) := by
        have : ((1073741823 : Int) : Rat) = 1073741823 := rfl
        rw [this]; grind
      have := Rat.intCast_lt_intCast.1 l1
      have := Rat.intCast_lt_intCast.1 l2
      omega
  have es' : num s0 s1 s2 s3 = 115792089237316195423570985008687907853269984665640564039457584007913129639936 - num (f 0).1 (f 0).2.1 (f 0).2.2.1 (f 0).2.2.2 := by
    rw [hz] at es
    clear ex ey1 ey2
    omega
  have hfs : fr (num s0 s1 s2 s3) = 1 - fr (num (f 0).1 (f 0).2.1 (f 0).2.2.1 (f 0).2.2.2) := by
    have : ((115792089237316195423570985008687907853269984665640564039457584007913129639936 : Int) : Rat) = 115792089237316195423570985008687907853269984665640564039457584007913129639936 := rfl
    unfold fr; rw [es', Rat.intCast_sub, this]; grind
  have hT : Wit (fr (num s0 s1 s2 s3) - tC (5400000 - n)) (1 / 4611686018427387904) := by
    rw [hfs]; exact hC.mono (by grind)
  have hv := floor_val hT hg.1 hg.2
  have ht := top_word hs hv.1 hv.2
  have := sine_cos (n : Int) x0 x1 x2 x3 (f 0).1 (f 0).2.1 (f 0).2.2.1 (f 0).2.2.2 s0 s1 s2 s3 (by omega) (by omega) hs.1 (hk ▸ H1) H2 H4 w
  rw [ht] at this
  exact this
theorem sine_any (n : Nat) (h : n ≤ 5400000) (w : World) : Calls Tryz.prog 169 #[.int .i64 (n : Int)] w (SinePost (flo n : Int) (exa n) w) := by
  by_cases h0 : n = 0
  · subst h0; exact sine_0 w
  by_cases h1 : n = 1800000
  · subst h1; exact sine_30 w
  by_cases h2 : n = 5400000
  · subst h2; exact sine_90 w
  have hx0 : exa n = false := by
    simp only [exa, Bool.or_eq_false_iff, beq_eq_false_iff_ne]
    omega
  rw [hx0]
  rcases Nat.lt_or_ge 2700000 n with h3 | h3
  · exact sine_high n h3 (by omega) w
  · exact sine_low n (by omega) h3 h1 w
end Go.Proofs.YtfilgpifiboccaaGreat
namespace Go.Proofs.YtfilgpifiboccaaGreat
open Go.RowKit SM
theorem flo_mono {m n : Nat} (h : m ≤ n) (hn : n ≤ 5400000) : flo m ≤ flo n := by
  induction n with
  | zero => have : m = 0 := by omega
            rw [this]; exact Nat.le_refl _
  | succ n ih =>
    rcases Nat.eq_or_lt_of_le h with h1 | h1
    · rw [h1]; exact Nat.le_refl _
    · exact Nat.le_trans (ih (by omega) (by omega)) (flo_up n (by omega)).1
theorem flo_le (n : Nat) (hn : n ≤ 5400000) : flo n ≤ 1073741824 := flo_mono (n := 5400000) hn (Nat.le_refl _)
/-- An angle of the first quadrant with the same sine, but for its sign; whether the sign is other. -/
def red (n : Int) : Nat := let m := n % 21600000; if m ≤ 5400000 then m.toNat else if m ≤ 10800000 then (10800000 - m).toNat else if m ≤ 16200000 then (m - 10800000).toNat else (21600000 - m).toNat
def south (n : Int) : Bool := decide (10800000 < n % 21600000)
theorem red_le (n : Int) : red n ≤ 5400000 := by
  unfold red
  have := Int.emod_lt_of_pos n (show (0 : Int) < 21600000 by omega)
  have := Int.emod_nonneg n (show (21600000 : Int) ≠ 0 by omega)
  generalize n % 21600000 = m at *
  simp only
  split
  · omega
  · split
    · omega
    · split <;> omega
def upf (k : Nat) : Int := if exa k then (flo k : Int) else flo k + 1
def lob (n : Int) : Int := if south n then - upf (red n) else flo (red n)
def hib (n : Int) : Int := if south n then - (flo (red n) : Int) else upf (red n)
/-- What a call returns, with a world that has only grown. -/
def GPost (v : Value) (w : World) (e : Ending) (w' : World) : Prop := e = .returned v ∧ Below w.heap.size w w'
set_option maxHeartbeats 1000000 in
theorem bounds_any (n : Int) (w : World) : Calls Tryz.prog 148 #[.int .i64 n] w (GPost (.tuple #[.int .i64 (lob n), .int .i64 (hib n)]) w) := by
  obtain ⟨V, hV⟩ : ∃ V, V = Value.tuple #[.int .i64 (lob n), .int .i64 (hib n)] := ⟨_, rfl⟩
  have HP : ∀ w', Below w.heap.size w w' → GPost V w (.returned (.tuple #[.int .i64 (lob n), .int .i64 (hib n)])) w' := fun w' h => ⟨by rw [hV], h⟩
  rw [← hV]
  clear hV
  have H53 := Lib.hid (turned_any n)
  have hk := red_le n
  have H54 := sine_any (red n) hk
  have hf := flo_le (red n) hk
  have hu := Int.emod_lt_of_pos n (show (0 : Int) < 21600000 by omega)
  have hl := Int.emod_nonneg n (show (21600000 : Int) ≠ 0 by omega)
  unfold lob hib upf south red at HP
  unfold red at H54 hf
  generalize n % 21600000 = m at *
  simp only at HP H54 hf
  by_cases c1 : m ≤ 5400000
  · simp only [if_pos c1] at H54 hf
    simp only [if_pos c1, show ¬ 10800000 < m by omega, decide_false, Bool.false_eq_true, if_false] at HP
    have hK : (((m).toNat : Nat) : Int) = m := Int.toNat_of_nonneg (by omega)
    rw [hK] at H54
    generalize flo (m).toNat = f at *
    have H54 := Lib.hid H54
    cases he : exa (m).toNat
    · rw [he] at HP H54
      simp only [Bool.false_eq_true, if_false] at HP
      have HP := Lib.hid HP
      clear he hK
      go_enter Tryz.func148, Tryz.ntmps148
      go_wp2_with fail
      refine (H53.out _).mono ?_
      rintro e w1 ⟨rfl, rfl⟩
      go_wp2_with fail
      refine (H54.out _).mono ?_
      rintro e w1 ⟨rfl, hb1⟩
      have HB := Lib.hid hb1
      clear hb1
      go_wp2
      go_ret2
      exact HP.out _ HB.out
    · rw [he] at HP H54
      simp only [if_true] at HP
      have HP := Lib.hid HP
      clear he hK
      go_enter Tryz.func148, Tryz.ntmps148
      go_wp2_with fail
      refine (H53.out _).mono ?_
      rintro e w1 ⟨rfl, rfl⟩
      go_wp2_with fail
      refine (H54.out _).mono ?_
      rintro e w1 ⟨rfl, hb1⟩
      have HB := Lib.hid hb1
      clear hb1
      go_wp2
      go_ret2
      exact HP.out _ HB.out
  by_cases c2 : m ≤ 10800000
  · simp only [if_neg c1, if_pos c2] at H54 hf
    simp only [if_neg c1, if_pos c2, show ¬ 10800000 < m by omega, decide_false, Bool.false_eq_true, if_false] at HP
    have hK : (((10800000 - m).toNat : Nat) : Int) = 10800000 - m := Int.toNat_of_nonneg (by omega)
    rw [hK] at H54
    generalize flo (10800000 - m).toNat = f at *
    have H54 := Lib.hid H54
    cases he : exa (10800000 - m).toNat
    · rw [he] at HP H54
      simp only [Bool.false_eq_true, if_false] at HP
      have HP := Lib.hid HP
      clear he hK
      go_enter Tryz.func148, Tryz.ntmps148
      go_wp2_with fail
      refine (H53.out _).mono ?_
      rintro e w1 ⟨rfl, rfl⟩
      go_wp2_with fail
      refine (H54.out _).mono ?_
      rintro e w1 ⟨rfl, hb1⟩
      have HB := Lib.hid hb1
      clear hb1
      go_wp2
      go_ret2
      exact HP.out _ HB.out
    · rw [he] at HP H54
      simp only [if_true] at HP
      have HP := Lib.hid HP
      clear he hK
      go_enter Tryz.func148, Tryz.ntmps148
      go_wp2_with fail
      refine (H53.out _).mono ?_
      rintro e w1 ⟨rfl, rfl⟩
      go_wp2_with fail
      refine (H54.out _).mono ?_
      rintro e w1 ⟨rfl, hb1⟩
      have HB := Lib.hid hb1
      clear hb1
      go_wp2
      go_ret2
      exact HP.out _ HB.out
  by_cases c3 : m ≤ 16200000
  · simp only [if_neg c1, if_neg c2, if_pos c3] at H54 hf
    simp only [if_neg c1, if_neg c2, if_pos c3, show 10800000 < m by omega, decide_true, if_true] at HP
    have hK : (((m - 10800000).toNat : Nat) : Int) = m - 10800000 := Int.toNat_of_nonneg (by omega)
    rw [hK] at H54
    generalize flo (m - 10800000).toNat = f at *
    have H54 := Lib.hid H54
    cases he : exa (m - 10800000).toNat
    · rw [he] at HP H54
      simp only [Bool.false_eq_true, if_false] at HP
      have HP := Lib.hid HP
      clear he hK
      go_enter Tryz.func148, Tryz.ntmps148
      go_wp2_with fail
      refine (H53.out _).mono ?_
      rintro e w1 ⟨rfl, rfl⟩
      go_wp2_with fail
      refine (H54.out _).mono ?_
      rintro e w1 ⟨rfl, hb1⟩
      have HB := Lib.hid hb1
      clear hb1
      go_wp2
      go_ret2
      exact HP.out _ HB.out
    · rw [he] at HP H54
      simp only [if_true] at HP
      have HP := Lib.hid HP
      clear he hK
      go_enter Tryz.func148, Tryz.ntmps148
      go_wp2_with fail
      refine (H53.out _).mono ?_
      rintro e w1 ⟨rfl, rfl⟩
      go_wp2_with fail
      refine (H54.out _).mono ?_
      rintro e w1 ⟨rfl, hb1⟩
      have HB := Lib.hid hb1
      clear hb1
      go_wp2
      go_ret2
      exact HP.out _ HB.out
  · simp only [if_neg c1, if_neg c2, if_neg c3] at H54 hf
    simp only [if_neg c1, if_neg c2, if_neg c3, show 10800000 < m by omega, decide_true, if_true] at HP
    have hK : (((21600000 - m).toNat : Nat) : Int) = 10800000 - (m - 10800000) := by omega
    rw [hK] at H54
    generalize flo (21600000 - m).toNat = f at *
    have H54 := Lib.hid H54
    cases he : exa (21600000 - m).toNat
    · rw [he] at HP H54
      simp only [Bool.false_eq_true, if_false] at HP
      have HP := Lib.hid HP
      clear he hK
      go_enter Tryz.func148, Tryz.ntmps148
      go_wp2_with fail
      refine (H53.out _).mono ?_
      rintro e w1 ⟨rfl, rfl⟩
      go_wp2_with fail
      refine (H54.out _).mono ?_
      rintro e w1 ⟨rfl, hb1⟩
      have HB := Lib.hid hb1
      clear hb1
      go_wp2
      go_ret2
      exact HP.out _ HB.out
    · rw [he] at HP H54
      simp only [if_true] at HP
      have HP := Lib.hid HP
      clear he hK
      go_enter Tryz.func148, Tryz.ntmps148
      go_wp2_with fail
      refine (H53.out _).mono ?_
      rintro e w1 ⟨rfl, rfl⟩
      go_wp2_with fail
      refine (H54.out _).mono ?_
      rintro e w1 ⟨rfl, hb1⟩
      have HB := Lib.hid hb1
      clear hb1
      go_wp2
      go_ret2
      exact HP.out _ HB.out
end Go.Proofs.YtfilgpifiboccaaGreat
namespace Go.Proofs.YtfilgpifiboccaaGreat
open Go.RowKit SM
theorem lob_hib (n : Int) : (lob n = hib n ∨ hib n = lob n + 1) ∧ -1073741824 ≤ lob n ∧ hib n ≤ 1073741824 := by
  have hf := flo_le (red n) (red_le n)
  have hs : exa (red n) = false → flo (red n) < 1073741824 := by
    intro h
    have h1 : red n ≠ 5400000 := by
      intro h2; rw [h2] at h; cases h
    have := flo_mono (m := red n + 1) (n := 5400000) (by have := red_le n; omega) (Nat.le_refl _)
    have h3 := up (red n) (by have := red_le n; omega)
    have h4 := gap (red n) (red_le n) h
    rcases Nat.lt_or_ge (flo (red n)) 1073741824 with h5 | h5
    · exact h5
    · exfalso
      have h6 : flo (red n) = 1073741824 := by omega
      rw [h6] at h4
      have c : ((1073741824 : Nat) : Rat) = 1073741824 := rfl
      rw [c] at h4
      have hT : ∀ k, red n ≤ k → k ≤ 5400000 → G86 * T (red n) ≤ G86 * T k := by
        intro k hk
        induction k with
        | zero => intro _; have : red n = 0 := by omega
                  rw [this]; exact Rat.le_refl
        | succ k ih =>
          intro hk2
          rcases Nat.eq_or_lt_of_le hk with h7 | h7
          · rw [h7]; exact Rat.le_refl
          · have := ih (by omega) (by omega)
            have := up k (by omega)
            grind
      have h8 := hT 5400000 (red_le n) (Nat.le_refl _)
      have h9 := at_exact 5400000 (Nat.le_refl _) rfl
      have f : flo 5400000 = 1073741824 := rfl
      rw [f, c] at h9
      unfold Wit at h9
      grind
  unfold lob hib upf
  cases h : exa (red n)
  · have := hs h
    cases south n
    · simp only [Bool.false_eq_true, reduceIte]; exact ⟨by first | exact .inr trivial | exact .inl rfl | exact .inl trivial | omega, by omega, by omega⟩
    · simp only [Bool.false_eq_true, reduceIte]; exact ⟨by first | exact .inr trivial | exact .inl rfl | exact .inl trivial | omega, by omega, by omega⟩
  · cases south n
    · simp only [Bool.false_eq_true, reduceIte]; exact ⟨by first | exact .inr trivial | exact .inl rfl | exact .inl trivial | omega, by omega, by omega⟩
    · simp only [reduceIte]; exact ⟨by first | exact .inr trivial | exact .inl rfl | exact .inl trivial | omega, by omega, by omega⟩
/-- The comparison of a sine with a number. -/
def cmp (n v : Int) : Int := if lob n = hib n ∧ v = lob n then 0 else if v ≤ lob n then 1 else -1
set_option maxHeartbeats 1000000 in
theorem below_any (n v : Int) (w : World) : Calls Tryz.prog 113 #[.int .i64 n, .int .i64 v] w (GPost (.int .i64 (cmp n v)) w) := by
  obtain ⟨V, hV⟩ : ∃ V, V = Value.int .i64 (cmp n v) := ⟨_, rfl⟩
  have HP : ∀ w', Below w.heap.size w w' → GPost V w (.returned (.int .i64 (cmp n v))) w' := fun w' h => ⟨by rw [hV], h⟩
  rw [← hV]
  clear hV
  have HB := Lib.hid (bounds_any n w)
  obtain ⟨h, h1, h2⟩ := lob_hib n
  unfold cmp at HP
  generalize lob n = lo at *
  generalize hib n = hi at *
  rcases h with rfl | rfl
  · rcases Int.lt_trichotomy v lo with c | c | c
    · rw [if_neg (by omega), if_pos (by omega)] at HP
      have HP := Lib.hid HP
      go_enter Tryz.func113, Tryz.ntmps113
      go_wp2_with fail
      refine HB.out.mono ?_
      rintro e w1 ⟨rfl, hb1⟩
      have HB := Lib.hid hb1
      clear hb1
      go_wp2
      go_ret
      exact HP.out _ HB.out
    · subst c
      rw [if_pos (by omega)] at HP
      have HP := Lib.hid HP
      go_enter Tryz.func113, Tryz.ntmps113
      go_wp2_with fail
      refine HB.out.mono ?_
      rintro e w1 ⟨rfl, hb1⟩
      have HB := Lib.hid hb1
      clear hb1
      go_wp2
      go_ret
      exact HP.out _ HB.out
    · rw [if_neg (by omega), if_neg (by omega)] at HP
      have HP := Lib.hid HP
      go_enter Tryz.func113, Tryz.ntmps113
      go_wp2_with fail
      refine HB.out.mono ?_
      rintro e w1 ⟨rfl, hb1⟩
      have HB := Lib.hid hb1
      clear hb1
      go_wp2
      go_ret
      exact HP.out _ HB.out
  · by_cases c : v ≤ lo
    · rw [if_neg (by omega), if_pos (by omega)] at HP
      have HP := Lib.hid HP
      go_enter Tryz.func113, Tryz.ntmps113
      go_wp2_with fail
      refine HB.out.mono ?_
      rintro e w1 ⟨rfl, hb1⟩
      have HB := Lib.hid hb1
      clear hb1
      go_wp2
      go_ret
      exact HP.out _ HB.out
    · rw [if_neg (by omega), if_neg (by omega)] at HP
      have HP := Lib.hid HP
      go_enter Tryz.func113, Tryz.ntmps113
      go_wp2_with fail
      refine HB.out.mono ?_
      rintro e w1 ⟨rfl, hb1⟩
      have HB := Lib.hid hb1
      clear hb1
      go_wp2
      go_ret
      exact HP.out _ HB.out
end Go.Proofs.YtfilgpifiboccaaGreat
namespace Go.Proofs.YtfilgpifiboccaaGreat
open Go.RowKit SM
theorem flo_upf (k : Nat) (hk : k < 5400000) : (flo k : Int) < upf (k + 1) := by
  have := flo_up k hk
  unfold upf
  cases h : exa (k + 1)
  · simp only [Bool.false_eq_true, reduceIte]; omega
  · simp only [reduceIte]; have := this.2 h; omega
theorem upf_up (k : Nat) (hk : k < 5400000) : upf k ≤ upf (k + 1) := by
  have h := flo_upf k hk
  have h2 : upf k ≤ flo k + 1 := by
    unfold upf
    cases h : exa k
    · simp only [Bool.false_eq_true, reduceIte]; omega
    · simp only [reduceIte]; omega
  omega
theorem at_pos (n : Int) (h0 : 0 ≤ n) (h1 : n ≤ 5400000) : lob n = flo n.toNat ∧ hib n = upf n.toNat := by
  have e : n % 21600000 = n := by omega
  unfold lob hib south red
  simp only [e, if_pos h1, show ¬ 10800000 < n by omega, decide_false, Bool.false_eq_true, reduceIte]
  exact ⟨trivial, trivial⟩
theorem at_neg (n : Int) (h0 : n < 0) (h1 : -5400000 ≤ n) : lob n = - upf (-n).toNat ∧ hib n = - (flo (-n).toNat : Int) := by
  have e : n % 21600000 = n + 21600000 := by omega
  unfold lob hib south red
  simp only [e, show ¬ n + 21600000 ≤ 5400000 by omega, show ¬ n + 21600000 ≤ 10800000 by omega, show 10800000 < n + 21600000 by omega, decide_true, reduceIte]
  by_cases h : n + 21600000 ≤ 16200000
  · simp only [if_pos h]
    rw [show (n + 21600000 - 10800000).toNat = (-n).toNat by omega]
    exact ⟨rfl, rfl⟩
  · simp only [if_neg h]
    rw [show (21600000 - (n + 21600000)).toNat = (-n).toNat by omega]
    exact ⟨rfl, rfl⟩
theorem lob_opp (n : Int) (h0 : -5400000 ≤ n) (h1 : n ≤ 5400000) : lob (-n) = - hib n ∧ hib (-n) = - lob n := by
  rcases Int.lt_trichotomy n 0 with h | h | h
  · have a := at_neg n h h0
    have b := at_pos (-n) (by omega) (by omega)
    rw [a.1, a.2, b.1, b.2]
    constructor <;> omega
  · subst h; decide +kernel
  · have a := at_pos n (by omega) h1
    have b := at_neg (-n) (by omega) (by omega)
    rw [a.1, a.2, b.1, b.2, Int.neg_neg]
    constructor <;> omega
theorem step_up (n : Int) (h0 : -5400000 ≤ n) (h1 : n < 5400000) : lob n < hib (n + 1) ∧ hib n ≤ hib (n + 1) := by
  rcases Int.lt_trichotomy n (-1) with h | h | h
  · have a := at_neg n (by omega) h0
    have b := at_neg (n + 1) (by omega) (by omega)
    have c := flo_upf (-(n + 1)).toNat (by omega)
    have d := flo_up (-(n + 1)).toNat (by omega)
    rw [show (-(n + 1)).toNat + 1 = (-n).toNat by omega] at c d
    rw [a.1, a.2, b.2]
    constructor <;> omega
  · subst h; decide +kernel
  · have a := at_pos n (by omega) (by omega)
    have b := at_pos (n + 1) (by omega) (by omega)
    have c := flo_upf n.toNat (by omega)
    have d := upf_up n.toNat (by omega)
    rw [show n.toNat + 1 = (n + 1).toNat by omega] at c d
    rw [a.1, a.2, b.2]
    constructor <;> omega
theorem hib_mono {m n : Int} (h0 : -5400000 ≤ m) (h : m ≤ n) (h1 : n ≤ 5400000) : hib m ≤ hib n := by
  obtain ⟨d, rfl⟩ : ∃ d : Nat, n = m + d := ⟨(n - m).toNat, by omega⟩
  clear h
  induction d with
  | zero => simp
  | succ d ih =>
    have := step_up (m + d) (by omega) (by omega)
    have := ih (by omega)
    rw [show m + ((d + 1 : Nat) : Int) = m + d + 1 by omega]
    omega
theorem strict {m n : Int} (h0 : -5400000 ≤ m) (h : m < n) (h1 : n ≤ 5400000) : lob m < hib n := by
  have a := step_up m h0 (by omega)
  have b := hib_mono (m := m + 1) (n := n) (by omega) (by omega) h1
  omega
/-- The greatest angle whose sine is at most a number. -/
def IsAsin (v a : Int) : Prop := -5400000 ≤ a ∧ a ≤ 5400000 ∧ hib a ≤ v ∧ (a = 5400000 ∨ v < hib (a + 1))
theorem asin_unique {v a b : Int} (ha : IsAsin v a) (hb : IsAsin v b) : a = b := by
  obtain ⟨a0, a1, a2, a3⟩ := ha
  obtain ⟨b0, b1, b2, b3⟩ := hb
  rcases Int.lt_trichotomy a b with h | h | h
  · exfalso
    have := hib_mono (m := a + 1) (n := b) (by omega) (by omega) b1
    omega
  · exact h
  · exfalso
    have := hib_mono (m := b + 1) (n := a) (by omega) (by omega) a1
    omega
theorem hib_low : hib (-5400000) = -1073741824 := by decide +kernel
theorem asin_ex (v : Int) (hv : -1073741824 ≤ v) : ∃ a, IsAsin v a := by
  have key : ∀ d : Nat, d ≤ 10800000 → hib (5400000 - d) ≤ v → ∃ a, IsAsin v a := by
    intro d
    induction d with
    | zero => intro _ h; exact ⟨5400000, by omega, by omega, by simpa using h, .inl rfl⟩
    | succ d ih =>
      intro hd h
      by_cases c : hib (5400000 - d) ≤ v
      · exact ih (by omega) c
      · refine ⟨5400000 - ((d + 1 : Nat) : Int), by omega, by omega, h, .inr ?_⟩
        rw [show (5400000 - ((d + 1 : Nat) : Int) + 1) = 5400000 - d by omega]
        omega
  refine key 10800000 (by omega) ?_
  rw [show (5400000 - ((10800000 : Nat) : Int)) = -5400000 by omega, hib_low]
  exact hv
open Classical in
noncomputable def asn (v : Int) : Int := if h : ∃ a, IsAsin v a then Classical.choose h else 0
theorem asn_is (v : Int) (hv : -1073741824 ≤ v) : IsAsin v (asn v) := by
  unfold asn
  rw [dif_pos (asin_ex v hv)]
  exact Classical.choose_spec (asin_ex v hv)
theorem asn_eq {v a : Int} (hv : -1073741824 ≤ v) (ha : IsAsin v a) : asn v = a := asin_unique (asn_is v hv) ha
theorem cmp_le (n v : Int) : cmp n v ≤ 0 ↔ hib n ≤ v := by
  obtain ⟨h, _, _⟩ := lob_hib n
  unfold cmp
  split
  · omega
  · split <;> omega
theorem cmp_bd (n v : Int) : -1 ≤ cmp n v ∧ cmp n v ≤ 1 := by
  unfold cmp
  split
  · omega
  · split <;> omega
def loOf : Value → Int | .int _ x => x | _ => 0
set_option maxHeartbeats 1000000 in
theorem asin_any (v : Int) (hv : -1073741824 ≤ v) (w : World) : Calls Tryz.prog 67 #[.int .i64 v] w (GPost (.int .i64 (asn v)) w) := by
  obtain ⟨V, hV⟩ : ∃ V, V = Value.int .i64 (asn v) := ⟨_, rfl⟩
  have HP : ∀ a w', IsAsin v a → Below w.heap.size w w' → GPost V w (.returned (.int .i64 a)) w' := fun a w' h hb => ⟨by rw [hV, asn_eq hv h], hb⟩
  rw [← hV]
  clear hV
  have HP := Lib.hid HP
  have HB := Lib.hid (fun n w => below_any n v w)
  have HS := Lib.hid (show -5400000 ≤ (-5400000 : Int) ∧ (-5400000 : Int) < 5400001 ∧ (5400001 : Int) ≤ 5400001 ∧ hib (-5400000) ≤ v ∧ ((5400001 : Int) = 5400001 ∨ v < hib 5400001) from ⟨by omega, by omega, by omega, by rw [hib_low]; exact hv, .inl rfl⟩)
  clear hv
  go_enter Tryz.func67, Tryz.ntmps67
  go_wp2
  go_loopw [3, 4] (fun l h wr => ∃ low high : Int, l = .int .i64 low ∧ h = .int .i64 high ∧ -5400000 ≤ low ∧ low < high ∧ high ≤ 5400001 ∧ hib low ≤ v ∧ (high = 5400001 ∨ v < hib high) ∧ Below w.heap.size w wr) (fun l h _ => (loOf h - loOf l).toNat)
  case atStart => exact ⟨_, _, rfl, rfl, HS.out.1, HS.out.2.1, HS.out.2.2.1, HS.out.2.2.2.1, .inl rfl, Below.refl _ _⟩
  case round =>
    clear HS
    obtain ⟨low, high, rfl, rfl, h1, h2, h3, h4, h5, h6⟩ := hrel
    have H4 := Lib.hid h4
    have H5 := Lib.hid h5
    have H6 := Lib.hid h6
    clear h4 h5 h6
    by_cases hlt : high - low ≤ 1
    · have HF := Lib.hid (HP.out low wr ⟨h1, by omega, H4.out, by
        rcases H5.out with h | h
        · exact .inl (by omega)
        · exact .inr (by rw [show low + 1 = high by omega]; exact h)⟩ H6.out)
      go_wp2
      go_ret
      exact HF.out
    · have hm : ∃ m, m = (low + high) / 2 ∧ low < m ∧ m < high := ⟨_, rfl, by omega, by omega⟩
      obtain ⟨m, hm, hm1, hm2⟩ := hm
      have HM := Lib.hid (HB.out m wr)
      have bd := cmp_bd m v
      have HL := Lib.hid (cmp_le m v)
      generalize cmp m v = c at *
      go_wp2_with fail
      rw [← hm]
      refine HM.out.mono ?_
      rintro e w1 ⟨rfl, hb1⟩
      have H7 := Lib.hid (H6.out.trans (hb1.mono H6.out.size))
      clear hb1 hm
      by_cases hc : c ≤ 0
      · go_wp2
        go_roundw
        case rel => exact ⟨m, high, rfl, rfl, by omega, by omega, by omega, HL.out.1 hc, H5.out, H7.out⟩
        case measure => simp [loOf]; omega
      · go_wp2
        go_roundw
        case rel => exact ⟨low, m, rfl, rfl, by omega, by omega, by omega, H4.out, .inr (by have := HL.out; omega), H7.out⟩
        case measure => simp [loOf]; omega
end Go.Proofs.YtfilgpifiboccaaGreat
namespace Go.Proofs.YtfilgpifiboccaaGreat
open Go.RowKit
/-- An interval (or an arc) as a value. -/
def pairV (lo hi : Int) : Value := .agg #[.int .i64 lo, .int .i64 hi]
def validB (lo hi : Int) : Bool := decide (-2147483648 ≤ lo ∧ lo ≤ hi ∧ hi ≤ 2147483648)
set_option maxHeartbeats 400000 in
theorem valid_any (lo hi : Int) (w : World) : Calls Tryz.prog 65 #[pairV lo hi] w (GPost (.bool (validB lo hi)) w) := by
  obtain ⟨V, hV⟩ : ∃ V, V = Value.bool (validB lo hi) := ⟨_, rfl⟩
  have HP : ∀ b w', validB lo hi = b → Below w.heap.size w w' → GPost V w (.returned (.bool b)) w' := fun b w' h hb => ⟨by rw [hV, h], hb⟩
  have HP := Lib.hid HP
  have HB := Lib.hid ((Below.refl w.heap.size w).alloc (Nat.le_refl _) (.cells #[.int .i64 lo, .int .i64 hi] 60))
  rw [← hV]
  clear hV
  unfold pairV
  by_cases h1 : -2147483648 ≤ lo
  · by_cases h2 : lo ≤ hi
    · by_cases h3 : hi ≤ 2147483648
      · have HF := Lib.hid (HP.out true _ (by unfold validB; rw [decide_eq_true]; omega) HB.out)
        go_enter Tryz.func65, Tryz.ntmps65
        go_wp2
        go_ret
        exact HF.out
      · have HF := Lib.hid (HP.out false _ (by unfold validB; rw [decide_eq_false]; omega) HB.out)
        go_enter Tryz.func65, Tryz.ntmps65
        go_wp2
        go_ret
        exact HF.out
    · have HF := Lib.hid (HP.out false _ (by unfold validB; rw [decide_eq_false]; omega) HB.out)
      go_enter Tryz.func65, Tryz.ntmps65
      go_wp2
      go_ret
      exact HF.out
  · have HF := Lib.hid (HP.out false _ (by unfold validB; rw [decide_eq_false]; omega) HB.out)
    go_enter Tryz.func65, Tryz.ntmps65
    go_wp2
    go_ret
    exact HF.out
end Go.Proofs.YtfilgpifiboccaaGreat
namespace Go.Proofs.YtfilgpifiboccaaGreat
open Go.RowKit
/-- A block that holds two integers: an interval or an arc. -/
def Pair (t : TypeId) (w : World) (b : Nat) (x y : Int) : Prop := w.heap[b]? = some (.cells #[.int .i64 x, .int .i64 y] t (0, 0))
theorem Pair.lt {t : TypeId} {w : World} {b : Nat} {x y : Int} (h : Pair t w b x y) : b < w.heap.size := by
  unfold Pair at h
  exact (Array.getElem?_eq_some_iff.1 h).1
theorem Pair.below {t : TypeId} {w w' : World} {b : Nat} {x y : Int} (h : Pair t w b x y) (hb : Below w.heap.size w w') : Pair t w' b x y := (hb.block b h.lt).trans h
theorem pair_below {t : TypeId} {w w' : World} {b : Nat} {x y : Int} (hb : Below w.heap.size w w') (h : Pair t w b x y) : Pair t w' b x y := h.below hb
theorem Pair.alloc {t : TypeId} {w : World} {b : Nat} {x y : Int} (h : Pair t w b x y) (o : Obj) : Pair t (w.alloc o) b x y := h.below ((Below.refl _ _).alloc (Nat.le_refl _) _)
theorem Pair.write {t : TypeId} {w : World} {b : Nat} {x y : Int} (h : Pair t w b x y) (u v : Int) :
    Pair t ((w.setCell ⟨b, 0, none⟩ (.int .i64 u)).setCell ⟨b, 1, none⟩ (.int .i64 v)) b u v := by
  unfold Pair at *
  simp [World.setCell, h, Array.getElem?_modify]
theorem Pair.other {t : TypeId} {w : World} {b b' : Nat} {x y : Int} (h : Pair t w b x y) (hb : b ≠ b') (u v : Value) :
    Pair t ((w.setCell ⟨b', 0, none⟩ u).setCell ⟨b', 1, none⟩ v) b x y := by
  unfold Pair at *
  have hb' : b' ≠ b := fun e => hb e.symm
  simp [World.setCell, h, Array.getElem?_modify, hb']
theorem keep2 {t : TypeId} {w : World} {b : Nat} {x y : Int} (h : Pair t w b x y) :
    (w.cell? ⟨b, 0, none⟩ = some (.int .i64 x) ∧ w.cell? ⟨b, 1, none⟩ = some (.int .i64 y)) ∧ w.frozen? ⟨b, 0, none⟩ = false ∧ w.frozen? ⟨b, 1, none⟩ = false := by
  unfold Pair at h
  refine ⟨⟨?_, ?_⟩, ?_, ?_⟩
  · simp [World.cell?, h]
  · simp [World.cell?, h]
  · simp [World.frozen?, h]
  · simp [World.frozen?, h]
set_option maxHeartbeats 1000000 in
theorem part_any (x y lo hi : Int) (w : World) : Calls Tryz.prog 66 #[pairV x y, .int .i64 lo, .int .i64 hi] w (GPost (.tuple #[pairV (max x lo) (min y hi), .bool (decide (max x lo ≤ min y hi))]) w) := by
  have HB := Lib.hid (((Below.refl w.heap.size w).alloc (Nat.le_refl _) (.cells #[.int .i64 (max x lo), .int .i64 (min y hi)] 60)).alloc (by simp) (.cells #[.int .i64 (max x lo), .int .i64 (min y hi)] 60))
  unfold pairV
  go_enter Tryz.func66, Tryz.ntmps66
  go_wp2
  go_region_with fail
  all_goals (
    go_wp2
    refine bodyPost_ret (v := .tuple #[pairV (max x lo) (min y hi), .bool (decide (max x lo ≤ min y hi))]) (by simp [results, Tryz.results66, go_sem, pairV]) rfl ⟨rfl, ?_⟩
    first
      | exact HB.out.drew
      | exact HB.out)
noncomputable def asinR (x y : Int) : Int × Int × Int := if validB x y = false then (0, 0, 1) else if max x (-1073741824) ≤ min y 1073741824 then (asn (max x (-1073741824)), - asn (- min y 1073741824), 0) else (0, 0, 2)
def arcV (r : Int × Int × Int) : Value := .tuple #[pairV r.1 r.2.1, .int .i64 r.2.2]
theorem blk2_first (w : World) (o o' : Obj) : ((w.alloc o).alloc o').heap[w.heap.size]? = some o := by
  rw [Below.heap_alloc _ _ _ (by simp), heap_alloc_new]
theorem blk2_second (w : World) (o o' : Obj) : ((w.alloc o).alloc o').heap[w.heap.size + 1]? = some o' := by
  have := heap_alloc_new (w.alloc o) o'
  simpa using this
set_option maxRecDepth 100000 in
set_option maxHeartbeats 1000000 in
theorem asin_r (x y : Int) (w : World) : Calls Tryz.prog 28 #[pairV x y] w (GPost (arcV (asinR x y)) w) := by
  have HV := Lib.hid (valid_any x y)
  have HQ := Lib.hid (part_any x y (-1073741824) 1073741824)
  have B0 : Below w.heap.size w ((w.alloc (.cells #[.int .i64 x, .int .i64 y] 60)).alloc (.cells #[.int .i64 0, .int .i64 0] 23)) := ((Below.refl w.heap.size w).alloc (Nat.le_refl _) _).alloc (by simp) _
  obtain ⟨V, hV⟩ : ∃ V, V = arcV (asinR x y) := ⟨_, rfl⟩
  rw [← hV]
  unfold asinR at hV
  unfold pairV at HV HQ ⊢
  have n1 : Pair 60 ((w.alloc (.cells #[.int .i64 x, .int .i64 y] 60)).alloc (.cells #[.int .i64 0, .int .i64 0] 23)) w.heap.size x y := blk2_first _ _ _
  have n2 : Pair 23 ((w.alloc (.cells #[.int .i64 x, .int .i64 y] 60)).alloc (.cells #[.int .i64 0, .int .i64 0] 23)) (w.heap.size + 1) 0 0 := blk2_second _ _ _
  have N1 := Lib.hid n1
  have N2 := Lib.hid n2
  have HB := Lib.hid B0
  clear n1 n2 B0
  by_cases hv : validB x y = false
  · rw [if_pos hv] at hV
    rw [hv] at HV
    have hV := Lib.hid hV
    clear hv HQ
    go_enter Tryz.func28, Tryz.ntmps28
    go_wp2_with fail
    refine (HV.out _).mono ?_
    rintro e w1 ⟨rfl, hb⟩
    have n1 := pair_below hb N1.out
    have n2 := pair_below hb N2.out
    have l1 := n1.lt
    have l2 := n2.lt
    obtain ⟨⟨a0, a1⟩, a2, a3⟩ := keep2 n1
    obtain ⟨⟨b0, b1⟩, b2, b3⟩ := keep2 n2
    have HB := Lib.hid ((HB.out.trans (hb.mono HB.out.size)).setCell (p := ⟨w.heap.size + 1, 0, none⟩) (by simp) (.int .i64 0) |>.setCell (p := ⟨w.heap.size + 1, 1, none⟩) (by simp) (.int .i64 0))
    clear hb n1 n2
    go_wp2
    refine bodyPost_ret (v := V) (by rw [hV.out]; simp [results, Tryz.results28, go_sem, arcV, pairV, b0, b1]) rfl ⟨rfl, HB.out⟩
  · rw [if_neg hv] at hV
    have hv' : validB x y = true := by cases h : validB x y <;> simp_all
    rw [hv'] at HV
    have hm1 : -1073741824 ≤ max x (-1073741824) := by omega
    have hm2 : -1073741824 ≤ - min y 1073741824 := by omega
    have hm3 : max x (-1073741824) ≤ 2147483648 ∧ -2147483648 ≤ min y 1073741824 := by simp [validB] at hv'; omega
    clear hv hv'
    generalize max x (-1073741824) = u at *
    generalize min y 1073741824 = v at *
    by_cases hc : u ≤ v
    · rw [if_pos hc] at hV
      rw [decide_eq_true hc] at HQ
      have hA := asn_is u hm1
      have hC := asn_is (-v) hm2
      have wv : IntKind.i64.wrap (-v) = -v := IntWalk.i64_in _ (by omega)
      have wq : IntKind.i64.wrap (-(asn (-v))) = -(asn (-v)) := IntWalk.i64_in _ (by have := hC.1; have := hC.2.1; omega)
      clear hA hC
      have hV := Lib.hid hV
      go_enter Tryz.func28, Tryz.ntmps28
      go_wp2_with fail
      refine (HV.out _).mono ?_
      rintro e w1 ⟨rfl, hb⟩
      have n1 := pair_below hb N1.out
      have n2 := pair_below hb N2.out
      have l1 := n1.lt
      have l2 := n2.lt
      obtain ⟨⟨a0, a1⟩, a2, a3⟩ := keep2 n1
      obtain ⟨⟨b0, b1⟩, b2, b3⟩ := keep2 n2
      have HB := Lib.hid (HB.out.trans (hb.mono HB.out.size))
      have N1 := Lib.hid n1
      have N2 := Lib.hid n2
      clear hb n1 n2
      go_wp2_with fail
      refine (HQ.out _).mono ?_
      rintro e w2 ⟨rfl, hb⟩
      have m1 := pair_below hb N1.out
      have m2 := pair_below hb N2.out
      have k1 := m1.lt
      have k2 := m2.lt
      obtain ⟨⟨c0, c1⟩, c2, c3⟩ := keep2 m1
      obtain ⟨⟨d0, d1⟩, d2, d3⟩ := keep2 m2
      have HB := Lib.hid ((HB.out.trans (hb.mono HB.out.size)).setCell (p := ⟨w.heap.size, 0, none⟩) (Nat.le_refl _) (.int .i64 u) |>.setCell (p := ⟨w.heap.size, 1, none⟩) (Nat.le_refl _) (.int .i64 v))
      have N1 := Lib.hid (m1.write u v)
      have N2 := Lib.hid (m2.other (b' := w.heap.size) (by omega) (.int .i64 u) (.int .i64 v))
      clear hb m1 m2
      go_wp2_with fail
      generalize (w2.setCell ⟨w.heap.size, 0, none⟩ (.int .i64 u)).setCell ⟨w.heap.size, 1, none⟩ (.int .i64 v) = w3 at *
      have k1 := N1.out.lt
      have k2 := N2.out.lt
      obtain ⟨⟨e0, e1⟩, e2, e3⟩ := keep2 N1.out
      obtain ⟨⟨f0, f1⟩, f2, f3⟩ := keep2 N2.out
      clear a0 a1 a2 a3 b0 b1 b2 b3 c0 c1 c2 c3 d0 d1 d2 d3 l1 l2
      go_region_with (
        go_at_call 67
        refine (asin_any _ (by omega) _).mono ?_
        rintro e w4 ⟨rfl, hb⟩
        have n1 := pair_below hb (by exact N1.out)
        have n2 := pair_below hb (by exact N2.out)
        have l1 := n1.lt
        have l2 := n2.lt
        obtain ⟨⟨a0, a1⟩, a2, a3⟩ := keep2 n1
        obtain ⟨⟨b0, b1⟩, b2, b3⟩ := keep2 n2
        have HB := Lib.hid (show Below w.heap.size w w4 from by first | exact HB.out.trans (hb.mono HB.out.size) | exact HB.out.drew.trans (hb.mono HB.out.size))
        have N1 := Lib.hid n1
        have N2 := Lib.hid n2
        clear hb n1 n2)
      all_goals (
        have n3 := N2.out.write (asn u) (-asn (-v))
        obtain ⟨⟨r0, r1⟩, r2, r3⟩ := keep2 n3
        have HF := Lib.hid ((HB.out.setCell (p := ⟨w.heap.size + 1, 0, none⟩) (by simp) (.int .i64 (asn u))).setCell (p := ⟨w.heap.size + 1, 1, none⟩) (by simp) (.int .i64 (-asn (-v))))
        clear n3
        go_wp2
        refine bodyPost_ret (v := V) (by rw [hV.out]; simp [results, Tryz.results28, go_sem, arcV, pairV, r0, r1]) rfl ⟨rfl, ?_⟩
        first
          | exact HF.out
          | exact HF.out.drew)
    · rw [if_neg hc] at hV
      rw [decide_eq_false hc] at HQ
      have hV := Lib.hid hV
      go_enter Tryz.func28, Tryz.ntmps28
      go_wp2_with fail
      refine (HV.out _).mono ?_
      rintro e w1 ⟨rfl, hb⟩
      have n1 := pair_below hb N1.out
      have n2 := pair_below hb N2.out
      have l1 := n1.lt
      have l2 := n2.lt
      obtain ⟨⟨a0, a1⟩, a2, a3⟩ := keep2 n1
      obtain ⟨⟨b0, b1⟩, b2, b3⟩ := keep2 n2
      have HB := Lib.hid (HB.out.trans (hb.mono HB.out.size))
      have N1 := Lib.hid n1
      have N2 := Lib.hid n2
      clear hb n1 n2
      go_wp2_with fail
      refine (HQ.out _).mono ?_
      rintro e w2 ⟨rfl, hb⟩
      have m1 := pair_below hb N1.out
      have m2 := pair_below hb N2.out
      have k1 := m1.lt
      have k2 := m2.lt
      obtain ⟨⟨c0, c1⟩, c2, c3⟩ := keep2 m1
      obtain ⟨⟨d0, d1⟩, d2, d3⟩ := keep2 m2
      have N3 := (m2.other (b' := w.heap.size) (by omega) (.int .i64 u) (.int .i64 v)).write 0 0
      obtain ⟨⟨r0, r1⟩, r2, r3⟩ := keep2 N3
      have HB := Lib.hid ((HB.out.trans (hb.mono HB.out.size)).setCell (p := ⟨w.heap.size, 0, none⟩) (Nat.le_refl _) (.int .i64 u) |>.setCell (p := ⟨w.heap.size, 1, none⟩) (Nat.le_refl _) (.int .i64 v) |>.setCell (p := ⟨w.heap.size + 1, 0, none⟩) (by simp) (.int .i64 0) |>.setCell (p := ⟨w.heap.size + 1, 1, none⟩) (by simp) (.int .i64 0))
      clear hb m1 m2 N3
      go_wp2
      refine bodyPost_ret (v := V) (by rw [hV.out]; simp [results, Tryz.results28, go_sem, arcV, pairV, r0, r1]) rfl ⟨rfl, HB.out⟩
end Go.Proofs.YtfilgpifiboccaaGreat
namespace Go.Proofs.YtfilgpifiboccaaGreat
open Go.RowKit
theorem asinR_bd (x y : Int) : (-5400000 ≤ (asinR x y).1 ∧ (asinR x y).1 ≤ 5400000) ∧ (-5400000 ≤ (asinR x y).2.1 ∧ (asinR x y).2.1 ≤ 5400000) ∧ (0 ≤ (asinR x y).2.2 ∧ (asinR x y).2.2 ≤ 2) := by
  unfold asinR
  split
  · exact ⟨by constructor <;> decide, by constructor <;> decide, by constructor <;> decide⟩
  · split
    · have h1 := asn_is (max x (-1073741824)) (by omega)
      have h2 := asn_is (- min y 1073741824) (by omega)
      obtain ⟨a0, a1, _, _⟩ := h1
      obtain ⟨b0, b1, _, _⟩ := h2
      refine ⟨⟨a0, a1⟩, ⟨?_, ?_⟩, ?_, ?_⟩ <;> simp only <;> omega
    · exact ⟨by constructor <;> decide, by constructor <;> decide, by constructor <;> decide⟩
noncomputable def acosR (x y : Int) : Int × Int × Int := if (asinR x y).2.2 = 0 then (5400000 - (asinR x y).2.1, 5400000 - (asinR x y).1, 0) else (0, 0, (asinR x y).2.2)
noncomputable def ahavR (x y : Int) : Int × Int × Int := if validB x y = false then (0, 0, 1) else if max x 0 ≤ min y 1073741824 then acosR (1073741824 - 2 * min y 1073741824) (1073741824 - 2 * max x 0) else (0, 0, 2)
set_option maxRecDepth 100000 in
set_option maxHeartbeats 1000000 in
theorem acos_r (x y : Int) (w : World) : Calls Tryz.prog 120 #[pairV x y] w (GPost (arcV (acosR x y)) w) := by
  have HA := Lib.hid (asin_r x y)
  obtain ⟨⟨g1, g2⟩, ⟨g3, g4⟩, g5, g6⟩ := asinR_bd x y
  obtain ⟨V, hV⟩ : ∃ V, V = arcV (acosR x y) := ⟨_, rfl⟩
  rw [← hV]
  unfold acosR at hV
  unfold arcV at HA
  generalize (asinR x y).1 = u at *
  generalize (asinR x y).2.1 = v at *
  generalize (asinR x y).2.2 = e at *
  have B0 : Below w.heap.size w ((w.alloc (.cells #[.int .i64 x, .int .i64 y] 60)).alloc (.cells #[.int .i64 0, .int .i64 0] 23)) := ((Below.refl w.heap.size w).alloc (Nat.le_refl _) _).alloc (by simp) _
  unfold pairV at HA ⊢
  have n2 : Pair 23 ((w.alloc (.cells #[.int .i64 x, .int .i64 y] 60)).alloc (.cells #[.int .i64 0, .int .i64 0] 23)) (w.heap.size + 1) 0 0 := blk2_second _ _ _
  have N2 := Lib.hid n2
  have HB := Lib.hid B0
  clear n2 B0
  by_cases he : e = 0
  · subst he
    rw [if_pos rfl] at hV
    have hV := Lib.hid hV
    go_enter Tryz.func120, Tryz.ntmps120
    go_wp2_with fail
    refine (HA.out _).mono ?_
    rintro e w1 ⟨rfl, hb⟩
    have n2 := pair_below hb N2.out
    have l2 := n2.lt
    have hz : w.heap.size + 2 ≤ w1.heap.size := by have := hb.size; simp at this; omega
    obtain ⟨⟨b0, b1⟩, b2, b3⟩ := keep2 n2
    have N3 := (n2.write (5400000 - v) (5400000 - u)).alloc (.cells #[.int .i64 u, .int .i64 v] 23)
    obtain ⟨⟨r0, r1⟩, r2, r3⟩ := keep2 N3
    have HB := Lib.hid (((HB.out.trans (hb.mono HB.out.size)).setCell (p := ⟨w.heap.size + 1, 0, none⟩) (by simp) (.int .i64 (5400000 - v)) |>.setCell (p := ⟨w.heap.size + 1, 1, none⟩) (by simp) (.int .i64 (5400000 - u))).alloc (by simp; omega) (.cells #[.int .i64 u, .int .i64 v] 23))
    clear hb n2 N3
    go_wp2
    refine bodyPost_ret (v := V) (by rw [hV.out]; simp [results, Tryz.results120, go_sem, arcV, pairV, r0, r1]) rfl ⟨rfl, HB.out⟩
  · rw [if_neg he] at hV
    have hV := Lib.hid hV
    go_enter Tryz.func120, Tryz.ntmps120
    go_wp2_with fail
    refine (HA.out _).mono ?_
    rintro e w1 ⟨rfl, hb⟩
    have n2 := pair_below hb N2.out
    have l2 := n2.lt
    have hz : w.heap.size + 2 ≤ w1.heap.size := by have := hb.size; simp at this; omega
    obtain ⟨⟨b0, b1⟩, b2, b3⟩ := keep2 n2
    have N3 := (n2.write 0 0).alloc (.cells #[.int .i64 u, .int .i64 v] 23)
    obtain ⟨⟨r0, r1⟩, r2, r3⟩ := keep2 N3
    have HB := Lib.hid (((HB.out.trans (hb.mono HB.out.size)).setCell (p := ⟨w.heap.size + 1, 0, none⟩) (by simp) (.int .i64 0) |>.setCell (p := ⟨w.heap.size + 1, 1, none⟩) (by simp) (.int .i64 0)).alloc (by simp; omega) (.cells #[.int .i64 u, .int .i64 v] 23))
    clear hb n2 N3
    go_wp2
    refine bodyPost_ret (v := V) (by rw [hV.out]; simp [results, Tryz.results120, go_sem, arcV, pairV, r0, r1]) rfl ⟨rfl, HB.out⟩
end Go.Proofs.YtfilgpifiboccaaGreat
namespace Go.Proofs.YtfilgpifiboccaaGreat
open Go.RowKit
set_option maxRecDepth 100000 in
set_option maxHeartbeats 1000000 in
theorem ahav_r (x y : Int) (w : World) : Calls Tryz.prog 91 #[pairV x y] w (GPost (arcV (ahavR x y)) w) := by
  have HV := Lib.hid (valid_any x y)
  have HQ := Lib.hid (part_any x y 0 1073741824)
  have B0 : Below w.heap.size w ((w.alloc (.cells #[.int .i64 x, .int .i64 y] 60)).alloc (.cells #[.int .i64 0, .int .i64 0] 23)) := ((Below.refl w.heap.size w).alloc (Nat.le_refl _) _).alloc (by simp) _
  obtain ⟨V, hV⟩ : ∃ V, V = arcV (ahavR x y) := ⟨_, rfl⟩
  rw [← hV]
  unfold ahavR at hV
  have n1 : Pair 60 ((w.alloc (.cells #[.int .i64 x, .int .i64 y] 60)).alloc (.cells #[.int .i64 0, .int .i64 0] 23)) w.heap.size x y := blk2_first _ _ _
  have n2 : Pair 23 ((w.alloc (.cells #[.int .i64 x, .int .i64 y] 60)).alloc (.cells #[.int .i64 0, .int .i64 0] 23)) (w.heap.size + 1) 0 0 := blk2_second _ _ _
  have N1 := Lib.hid n1
  have N2 := Lib.hid n2
  have HB := Lib.hid B0
  clear n1 n2 B0
  by_cases hv : validB x y = false
  · rw [if_pos hv] at hV
    rw [hv] at HV
    have hV := Lib.hid hV
    unfold pairV at HV HQ ⊢
    clear hv HQ
    go_enter Tryz.func91, Tryz.ntmps91
    go_wp2_with fail
    refine (HV.out _).mono ?_
    rintro e w1 ⟨rfl, hb⟩
    have n1 := pair_below hb N1.out
    have n2 := pair_below hb N2.out
    have l1 := n1.lt
    have l2 := n2.lt
    obtain ⟨⟨a0, a1⟩, a2, a3⟩ := keep2 n1
    obtain ⟨⟨b0, b1⟩, b2, b3⟩ := keep2 n2
    have HB := Lib.hid ((HB.out.trans (hb.mono HB.out.size)).setCell (p := ⟨w.heap.size + 1, 0, none⟩) (by simp) (.int .i64 0) |>.setCell (p := ⟨w.heap.size + 1, 1, none⟩) (by simp) (.int .i64 0))
    clear hb n1 n2
    go_wp2
    refine bodyPost_ret (v := V) (by rw [hV.out]; simp [results, Tryz.results91, go_sem, arcV, pairV, b0, b1]) rfl ⟨rfl, HB.out⟩
  · rw [if_neg hv] at hV
    have hv' : validB x y = true := by cases h : validB x y <;> simp_all
    rw [hv'] at HV
    have hm3 : 0 ≤ max x 0 ∧ min y 1073741824 ≤ 1073741824 ∧ max x 0 ≤ 2147483648 ∧ -2147483648 ≤ min y 1073741824 := by simp [validB] at hv'; omega
    clear hv hv'
    generalize max x 0 = u at *
    generalize min y 1073741824 = v at *
    by_cases hc : u ≤ v
    · rw [if_pos hc] at hV
      rw [decide_eq_true hc] at HQ
      have HC := Lib.hid (acos_r (1073741824 - 2 * v) (1073741824 - 2 * u))
      unfold arcV at HC hV
      generalize (acosR (1073741824 - 2 * v) (1073741824 - 2 * u)).1 = p at *
      generalize (acosR (1073741824 - 2 * v) (1073741824 - 2 * u)).2.1 = q at *
      generalize (acosR (1073741824 - 2 * v) (1073741824 - 2 * u)).2.2 = r at *
      have hV := Lib.hid hV
      unfold pairV at HV HQ HC ⊢
      go_enter Tryz.func91, Tryz.ntmps91
      go_wp2_with fail
      refine (HV.out _).mono ?_
      rintro e w1 ⟨rfl, hb⟩
      have n1 := pair_below hb N1.out
      have n2 := pair_below hb N2.out
      have l1 := n1.lt
      have l2 := n2.lt
      obtain ⟨⟨a0, a1⟩, a2, a3⟩ := keep2 n1
      obtain ⟨⟨b0, b1⟩, b2, b3⟩ := keep2 n2
      have HB := Lib.hid (HB.out.trans (hb.mono HB.out.size))
      have N1 := Lib.hid n1
      have N2 := Lib.hid n2
      clear hb n1 n2
      go_wp2_with fail
      refine (HQ.out _).mono ?_
      rintro e w2 ⟨rfl, hb⟩
      have m1 := pair_below hb N1.out
      have m2 := pair_below hb N2.out
      have k1 := m1.lt
      have k2 := m2.lt
      obtain ⟨⟨c0, c1⟩, c2, c3⟩ := keep2 m1
      obtain ⟨⟨d0, d1⟩, d2, d3⟩ := keep2 m2
      have HB := Lib.hid ((HB.out.trans (hb.mono HB.out.size)).setCell (p := ⟨w.heap.size, 0, none⟩) (Nat.le_refl _) (.int .i64 u) |>.setCell (p := ⟨w.heap.size, 1, none⟩) (Nat.le_refl _) (.int .i64 v))
      have N1 := Lib.hid (m1.write u v)
      have N2 := Lib.hid (m2.other (b' := w.heap.size) (by omega) (.int .i64 u) (.int .i64 v))
      clear hb m1 m2
      go_wp2_with fail
      refine (HC.out _).mono ?_
      rintro e w3 ⟨rfl, hb⟩
      have n1 := pair_below hb N1.out
      have n2 := pair_below hb N2.out
      have j1 := n1.lt
      have j2 := n2.lt
      obtain ⟨⟨e0, e1⟩, e2, e3⟩ := keep2 n1
      obtain ⟨⟨f0, f1⟩, f2, f3⟩ := keep2 n2
      have N3 := n2.write p q
      obtain ⟨⟨r0, r1⟩, r2, r3⟩ := keep2 N3
      have HB := Lib.hid ((HB.out.trans (hb.mono HB.out.size)).setCell (p := ⟨w.heap.size + 1, 0, none⟩) (by simp) (.int .i64 p) |>.setCell (p := ⟨w.heap.size + 1, 1, none⟩) (by simp) (.int .i64 q))
      clear hb n1 n2 N3
      go_wp2
      refine bodyPost_ret (v := V) (by rw [hV.out]; simp [results, Tryz.results91, go_sem, pairV, r0, r1]) rfl ⟨rfl, HB.out⟩
    · rw [if_neg hc] at hV
      rw [decide_eq_false hc] at HQ
      have hV := Lib.hid hV
      unfold pairV at HV HQ ⊢
      go_enter Tryz.func91, Tryz.ntmps91
      go_wp2_with fail
      refine (HV.out _).mono ?_
      rintro e w1 ⟨rfl, hb⟩
      have n1 := pair_below hb N1.out
      have n2 := pair_below hb N2.out
      have l1 := n1.lt
      have l2 := n2.lt
      obtain ⟨⟨a0, a1⟩, a2, a3⟩ := keep2 n1
      obtain ⟨⟨b0, b1⟩, b2, b3⟩ := keep2 n2
      have HB := Lib.hid (HB.out.trans (hb.mono HB.out.size))
      have N1 := Lib.hid n1
      have N2 := Lib.hid n2
      clear hb n1 n2
      go_wp2_with fail
      refine (HQ.out _).mono ?_
      rintro e w2 ⟨rfl, hb⟩
      have m1 := pair_below hb N1.out
      have m2 := pair_below hb N2.out
      have k1 := m1.lt
      have k2 := m2.lt
      obtain ⟨⟨c0, c1⟩, c2, c3⟩ := keep2 m1
      obtain ⟨⟨d0, d1⟩, d2, d3⟩ := keep2 m2
      have N3 := (m2.other (b' := w.heap.size) (by omega) (.int .i64 u) (.int .i64 v)).write 0 0
      obtain ⟨⟨r0, r1⟩, r2, r3⟩ := keep2 N3
      have HB := Lib.hid ((HB.out.trans (hb.mono HB.out.size)).setCell (p := ⟨w.heap.size, 0, none⟩) (Nat.le_refl _) (.int .i64 u) |>.setCell (p := ⟨w.heap.size, 1, none⟩) (Nat.le_refl _) (.int .i64 v) |>.setCell (p := ⟨w.heap.size + 1, 0, none⟩) (by simp) (.int .i64 0) |>.setCell (p := ⟨w.heap.size + 1, 1, none⟩) (by simp) (.int .i64 0))
      clear hb m1 m2 N3
      go_wp2
      refine bodyPost_ret (v := V) (by rw [hV.out]; simp [results, Tryz.results91, go_sem, arcV, pairV, r0, r1]) rfl ⟨rfl, HB.out⟩
end Go.Proofs.YtfilgpifiboccaaGreat

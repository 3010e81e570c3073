import Derived.Test.YtmlmohcghoelkaaT15
import Derived.Test.YtmlmohcghoelkaaT14
namespace Go.Proofs.Ytmlmohcghoelkaa
open Go.RowKit SM
theorem x_err {n : Nat} {v r : Int} (hn : n ≤ 2700000) (h0 : 0 ≤ r) (h1 : r < 10800000) (h : v * 10800000 + r = 363771576891766324280234942777729862653393377328392429958772151117938894466185 * (n : Int)) : Wit (fr v - xR n) (1 / 158456325028528675187087900672) := by
  have e : (v : Rat) * 10800000 + (r : Rat) = 363771576891766324280234942777729862653393377328392429958772151117938894466185 * (n : Rat) := by
    have : ((v * 10800000 + r : Int) : Rat) = ((363771576891766324280234942777729862653393377328392429958772151117938894466185 * (n : Int) : Int) : Rat) := by rw [h]
    rw [Rat.intCast_add, Rat.intCast_mul, Rat.intCast_mul] at this
    exact this
  have r0 : (0 : Rat) ≤ (r : Rat) := by exact_mod_cast h0
  have r1 : (r : Rat) ≤ ((10800000 : Int) : Rat) := Rat.intCast_le_intCast.2 (Int.le_of_lt h1)
  have c1 : ((10800000 : Int) : Rat) = 10800000 := rfl
  rw [c1] at r1
  have n0 : (0 : Rat) ≤ (n : Rat) := by exact_mod_cast Nat.zero_le _
  have n1 : (n : Rat) ≤ ((2700000 : Nat) : Rat) := Rat.natCast_le_natCast.2 hn
  have c2 : ((2700000 : Nat) : Rat) = 2700000 := rfl
  rw [c2] at n1
  clear h h0 h1 hn
  unfold Wit fr xR th pi96
  generalize (n : Rat) = N at *
  generalize (v : Rat) = V at *
  generalize (r : Rat) = R at *
  constructor <;> grind
theorem y_err {n : Nat} {x y : Int} (hn : n ≤ 2700000) (hx : Wit (fr x - xR n) (1 / 158456325028528675187087900672)) (hx0 : 0 ≤ x) (hx1 : x ≤ 115792089237316195423570985008687907853269984665640564039457584007913129639936) (h1 : y * 115792089237316195423570985008687907853269984665640564039457584007913129639936 ≤ x * x) (h2 : x * x < (y + 2) * 115792089237316195423570985008687907853269984665640564039457584007913129639936) : Wit (fr y - xR n * xR n) (1 / 38685626227668133590597632) := by
  have hp := fr_prod h1 h2
  have b := xR_bd n (by omega)
  have u0 := fr_nonneg hx0
  have u1 := fr_one hx1
  have w := hx.mul (show Wit (fr x + xR n) 2 from ⟨by grind, by grind⟩)
  have e : fr y - xR n * xR n = (fr x - xR n) * (fr x + xR n) - (fr x * fr x - fr y) := by grind
  rw [e]
  have : eps = 1 / 115792089237316195423570985008687907853269984665640564039457584007913129639936 := rfl
  rw [this] at hp
  unfold Wit at *
  constructor <;> grind
theorem floor_val {s f : Int} {x : Rat} (h : Wit (fr s - x) (1 / 4611686018427387904)) (h1 : (f : Rat) * 72057594037927936 + 17000000000 ≤ G86 * x) (h2 : G86 * x ≤ ((f : Rat) + 1) * 72057594037927936 - 17000000000) : f * 107839786668602559178668060348078522694548577690162289924414440996864 ≤ s ∧ s < (f + 1) * 107839786668602559178668060348078522694548577690162289924414440996864 := by
  have g : G86 = 77371252455336267181195264 := rfl
  rw [g] at h1 h2
  have c : ((107839786668602559178668060348078522694548577690162289924414440996864 : Int) : Rat) = 107839786668602559178668060348078522694548577690162289924414440996864 := rfl
  have c1 : ((1 : Int) : Rat) = 1 := rfl
  constructor
  · apply Rat.intCast_le_intCast.1
    rw [Rat.intCast_mul, c]
    unfold Wit fr at h
    grind
  · apply Rat.intCast_lt_intCast.1
    rw [Rat.intCast_mul, Rat.intCast_add, c, c1]
    unfold Wit fr at h
    grind
theorem top_word {s0 s1 s2 s3 f : Int} (h : Word s0 ∧ Word s1 ∧ Word s2 ∧ Word s3) (h1 : f * 107839786668602559178668060348078522694548577690162289924414440996864 ≤ num s0 s1 s2 s3) (h2 : num s0 s1 s2 s3 < (f + 1) * 107839786668602559178668060348078522694548577690162289924414440996864) : s0 / 17179869184 = f := by
  obtain ⟨⟨_, _⟩, ⟨_, _⟩, ⟨_, _⟩, ⟨_, _⟩⟩ := h
  unfold num at *
  omega
theorem sine_low (n : Nat) (h0 : 0 < n) (h1 : n ≤ 2700000) (h2 : n ≠ 1800000) (w : World) : Calls Try.prog 54 #[.int .i64 (n : Int)] w (SinePost (flo n : Int) false w) := by
  obtain ⟨x0, x1, x2, x3, r, hx, hr0, hr1, ex, H1⟩ := radians_ex (n : Int) (by omega) (by omega)
  obtain ⟨y, f, hy, ey1, ey2, hf, H2⟩ := less_ex x0 x1 x2 x3 1 hx (by omega) (by omega)
  have hu := hf.1 0 (by omega)
  obtain ⟨m0, m1, m2, m3, hm, em1, em2, H3⟩ := nmul_ex x0 x1 x2 x3 (f 0).1 (f 0).2.1 (f 0).2.2.1 (f 0).2.2.2 hx.1 hx.2.1 hx.2.2.1 hx.2.2.2 hu.1 hu.2.1 hu.2.2.1 hu.2.2.2
  obtain ⟨s0, s1, s2, s3, c, hs, hc, es, H4⟩ := sub_ex x0 x1 x2 x3 m0 m1 m2 m3 hx.1 hx.2.1 hx.2.2.1 hx.2.2.2 hm.1 hm.2.1 hm.2.2.1 hm.2.2.2
  change num x0 x1 x2 x3 * 10800000 + r = _ at ex
  change num m0 m1 m2 m3 * _ ≤ num x0 x1 x2 x3 * num (f 0).1 (f 0).2.1 (f 0).2.2.1 (f 0).2.2.2 at em1
  change num x0 x1 x2 x3 * num (f 0).1 (f 0).2.1 (f 0).2.2.1 (f 0).2.2.2 < (num m0 m1 m2 m3 + 2) * _ at em2
  change num s0 s1 s2 s3 = num x0 x1 x2 x3 - num m0 m1 m2 m3 + _ at es
  have bx := num_bd _ _ _ _ hx
  have bu := num_bd _ _ _ _ hu
  have bm := num_bd _ _ _ _ hm
  have bs := num_bd _ _ _ _ hs
  have hxe := x_err h1 hr0 hr1 ex
  have hye := y_err h1 hxe bx.1 (Int.le_of_lt bx.2) ey1 ey2
  have hsq := sq_bd n (by omega)
  have hse := series_err (.inr rfl) hf hye hsq.1 hsq.2
  have hpe := fr_prod em1 em2
  have hle : num m0 m1 m2 m3 ≤ num x0 x1 x2 x3 := by
    have : num x0 x1 x2 x3 * num (f 0).1 (f 0).2.1 (f 0).2.2.1 (f 0).2.2.2 ≤ num x0 x1 x2 x3 * 115792089237316195423570985008687907853269984665640564039457584007913129639936 := Int.mul_le_mul_of_nonneg_left (by omega) bx.1
    generalize num x0 x1 x2 x3 * num (f 0).1 (f 0).2.1 (f 0).2.2.1 (f 0).2.2.2 = P at *
    omega
  have es' : num s0 s1 s2 s3 = num x0 x1 x2 x3 - num m0 m1 m2 m3 := by
    clear em1 em2 ex ey1 ey2
    omega
  have hfs : fr (num s0 s1 s2 s3) = fr (num x0 x1 x2 x3) - fr (num m0 m1 m2 m3) := by
    unfold fr; rw [es', Rat.intCast_sub]; grind
  have hT : Wit (fr (num s0 s1 s2 s3) - tS n) (1 / 4611686018427387904) := by
    have u0 := fr_nonneg bu.1
    have u1 := fr_one (Int.le_of_lt bu.2)
    have xb := xR_bd n (by omega)
    have w1 := hxe.mul (show Wit (1 - fr (num (f 0).1 (f 0).2.1 (f 0).2.2.1 (f 0).2.2.2)) 1 from ⟨by grind, by grind⟩)
    have w2 := (show Wit (xR n) (4 / 5) from ⟨by grind, xb.2⟩).mul hse
    have e : fr (num s0 s1 s2 s3) - tS n = (fr (num x0 x1 x2 x3) - xR n) * (1 - fr (num (f 0).1 (f 0).2.1 (f 0).2.2.1 (f 0).2.2.2)) - xR n * (fr (num (f 0).1 (f 0).2.1 (f 0).2.2.1 (f 0).2.2.2) - hR 1 (xR n * xR n) 10 0) + (fr (num x0 x1 x2 x3) * fr (num (f 0).1 (f 0).2.1 (f 0).2.2.1 (f 0).2.2.2) - fr (num m0 m1 m2 m3)) := by
      rw [hfs]; unfold tS; grind
    rw [e]
    have : eps = 1 / 115792089237316195423570985008687907853269984665640564039457584007913129639936 := rfl
    rw [this] at hpe
    clear e hfs hse hye hxe
    unfold Wit at *
    constructor <;> grind
  have hx0 : exa n = false := by
    simp only [exa, Bool.or_eq_false_iff, beq_eq_false_iff_ne]
    omega
  have hg := gap n (by omega) hx0
  have hTn : T n = tS n := by unfold T; rw [if_pos h1]
  rw [hTn, ← Rat.intCast_natCast] at hg
  have hv := floor_val hT hg.1 hg.2
  have ht := top_word hs hv.1 hv.2
  have := sine_sin (n : Int) x0 x1 x2 x3 (f 0).1 (f 0).2.1 (f 0).2.2.1 (f 0).2.2.2 m0 m1 m2 m3 s0 s1 s2 s3 (by omega) (by omega) (by omega) hs.1 H1 H2 H3 H4 w
  rw [ht] at this
  exact this
theorem sine_high (n : Nat) (h0 : 2700000 < n) (h1 : n < 5400000) (w : World) : Calls Try.prog 54 #[.int .i64 (n : Int)] w (SinePost (flo n : Int) false w) := by
  have hk : ((5400000 - n : Nat) : Int) = 5400000 - (n : Int) := by omega
  obtain ⟨x0, x1, x2, x3, r, hx, hr0, hr1, ex, H1⟩ := radians_ex ((5400000 - n : Nat) : Int) (by omega) (by omega)
  obtain ⟨y, f, hy, ey1, ey2, hf, H2⟩ := less_ex x0 x1 x2 x3 0 hx (by omega) (by omega)
  have hu := hf.1 0 (by omega)
  obtain ⟨s0, s1, s2, s3, c, hs, hc, es, H4⟩ := sub_ex 0 0 0 0 (f 0).1 (f 0).2.1 (f 0).2.2.1 (f 0).2.2.2 ⟨by omega, by omega⟩ ⟨by omega, by omega⟩ ⟨by omega, by omega⟩ ⟨by omega, by omega⟩ hu.1 hu.2.1 hu.2.2.1 hu.2.2.2
  change num x0 x1 x2 x3 * 10800000 + r = _ at ex
  change num s0 s1 s2 s3 = num 0 0 0 0 - num (f 0).1 (f 0).2.1 (f 0).2.2.1 (f 0).2.2.2 + _ at es
  have bx := num_bd _ _ _ _ hx
  have bu := num_bd _ _ _ _ hu
  have bs := num_bd _ _ _ _ hs
  have hxe := x_err (n := 5400000 - n) (by omega) hr0 hr1 ex
  have hye := y_err (by omega) hxe bx.1 (Int.le_of_lt bx.2) ey1 ey2
  have hsq := sq_bd (5400000 - n) (by omega)
  have hse := series_err (.inl rfl) hf hye hsq.1 hsq.2
  have hx0 : exa n = false := by
    simp only [exa, Bool.or_eq_false_iff, beq_eq_false_iff_ne]
    omega
  have hg := gap n (by omega) hx0
  have hTn : T n = tC (5400000 - n) := by unfold T; rw [if_neg (by omega)]
  rw [hTn, ← Rat.intCast_natCast] at hg
  have hz : num 0 0 0 0 = 0 := by decide
  have hC : Wit (1 - fr (num (f 0).1 (f 0).2.1 (f 0).2.2.1 (f 0).2.2.2) - tC (5400000 - n)) (1 / 9223372036854775808) := by
    unfold tC
    unfold Wit at *
    constructor <;> grind
  have hpos : 0 < num (f 0).1 (f 0).2.1 (f 0).2.2.1 (f 0).2.2.2 := by
    rcases Int.lt_or_eq_of_le bu.1 with h | h
    · exact h
    · exfalso
      rw [← h] at hC
      have z : fr 0 = 0 := by decide +kernel
      rw [z] at hC
      have g : G86 = 77371252455336267181195264 := rfl
      rw [g] at hg
      unfold Wit at hC
      generalize tC (5400000 - n) = t at *
      have l1 : (((flo n : Int)) : Rat) < ((1073741824 : Int) : Rat) := by
        have : ((1073741824 : Int) : Rat) = 1073741824 := rfl
        rw [this]; grind
      have l2 : ((1073741823 : Int) : Rat) < (((flo n : Int)) : Rat) := by
        have : ((1073741823 : Int) : Rat) = 1073741823 := rfl
        rw [this]; grind
      have := Rat.intCast_lt_intCast.1 l1
      have := Rat.intCast_lt_intCast.1 l2
      omega
  have es' : num s0 s1 s2 s3 = 115792089237316195423570985008687907853269984665640564039457584007913129639936 - num (f 0).1 (f 0).2.1 (f 0).2.2.1 (f 0).2.2.2 := by
    rw [hz] at es
    clear ex ey1 ey2
    omega
  have hfs : fr (num s0 s1 s2 s3) = 1 - fr (num (f 0).1 (f 0).2.1 (f 0).2.2.1 (f 0).2.2.2) := by
    have : ((115792089237316195423570985008687907853269984665640564039457584007913129639936 : Int) : Rat) = 115792089237316195423570985008687907853269984665640564039457584007913129639936 := rfl
    unfold fr; rw [es', Rat.intCast_sub, this]; grind
  have hT : Wit (fr (num s0 s1 s2 s3) - tC (5400000 - n)) (1 / 4611686018427387904) := by
    rw [hfs]; exact hC.mono (by grind)
  have hv := floor_val hT hg.1 hg.2
  have ht := top_word hs hv.1 hv.2
  have := sine_cos (n : Int) x0 x1 x2 x3 (f 0).1 (f 0).2.1 (f 0).2.2.1 (f 0).2.2.2 s0 s1 s2 s3 (by omega) (by omega) hs.1 (hk ▸ H1) H2 H4 w
  rw [ht] at this
  exact this
theorem sine_any (n : Nat) (h : n ≤ 5400000) (w : World) : Calls Try.prog 54 #[.int .i64 (n : Int)] w (SinePost (flo n : Int) (exa n) w) := by
  by_cases h0 : n = 0
  · subst h0; exact sine_0 w
  by_cases h1 : n = 1800000
  · subst h1; exact sine_30 w
  by_cases h2 : n = 5400000
  · subst h2; exact sine_90 w
  have hx0 : exa n = false := by
    simp only [exa, Bool.or_eq_false_iff, beq_eq_false_iff_ne]
    omega
  rw [hx0]
  rcases Nat.lt_or_ge 2700000 n with h3 | h3
  · exact sine_high n h3 (by omega) w
  · exact sine_low n (by omega) h3 h1 w
end Go.Proofs.Ytmlmohcghoelkaa

/-
  HaversineMirrors: the plain laws.
-/
import Derived.Test.YtcjkfchjcealbaaM1
namespace Go.Proofs.Ytcjkfchjcealbaa
open Ev

open SM TA
theorem enc_even {a b : Int} : encL (-b + 5400000) (-a + 5400000) = encL (a + 5400000) (b + 5400000) ∧ encH (-b + 5400000) (-a + 5400000) = encH (a + 5400000) (b + 5400000) := by
  have s1 := lob_sym a
  have s2 := lob_sym b
  rw [show -b + 5400000 = 5400000 - b by omega, show -a + 5400000 = 5400000 - a by omega]
  have m1 : meetB (5400000 - b) (5400000 - a) 16200000 = meetB (a + 5400000) (b + 5400000) 16200000 := decide_eq_decide.2 (by omega)
  have m2 : meetB (5400000 - b) (5400000 - a) 5400000 = meetB (a + 5400000) (b + 5400000) 5400000 := decide_eq_decide.2 (by omega)
  unfold encL encH
  rw [m1, m2, ← s1.1, ← s2.1, ← s1.2, ← s2.2]
  constructor
  · split
    · rfl
    · omega
  · split
    · rfl
    · omega
theorem aval_neg (a b : Int) : avalidB (-b) (-a) = avalidB a b := decide_eq_decide.2 (by omega)
theorem cos_even (a b : Int) : cosR (-b) (-a) = cosR a b := by
  unfold cosR
  rw [aval_neg, enc_even.1, enc_even.2]
theorem hav_even (a b : Int) : havR (-b) (-a) = havR a b := by
  unfold havR
  rw [aval_neg, enc_even.1, enc_even.2]
theorem mul_comm_R (a b c d : Int) : mulR a b c d = mulR c d a b := by
  have eb : bothB a b c d = bothB c d a b := by unfold bothB; rw [Bool.and_comm]
  have eL : mulL a b c d = mulL c d a b := by
    have p := mn4 (a * c) (a * d) (b * c) (b * d)
    have q := mn4 (c * a) (c * b) (d * a) (d * b)
    rw [Int.mul_comm c a, Int.mul_comm c b, Int.mul_comm d a, Int.mul_comm d b] at q
    unfold mulL
    rw [Int.mul_comm c a, Int.mul_comm c b, Int.mul_comm d a, Int.mul_comm d b]
    omega
  have eH : mulH a b c d = mulH c d a b := by
    have p := mx4 (a * c) (a * d) (b * c) (b * d)
    have q := mx4 (c * a) (c * b) (d * a) (d * b)
    rw [Int.mul_comm c a, Int.mul_comm c b, Int.mul_comm d a, Int.mul_comm d b] at q
    unfold mulH
    rw [Int.mul_comm c a, Int.mul_comm c b, Int.mul_comm d a, Int.mul_comm d b]
    omega
  unfold mulR
  rw [eb, eL, eH]
theorem cosV_sym (a b c d : Int) : cosV c d a b = cosV a b c d := by
  unfold cosV
  simp only [mul_comm_R (cosR c d).1 (cosR c d).2.1]
theorem cosV_neg (a b c d : Int) : cosV (-b) (-a) (-d) (-c) = cosV a b c d := by
  unfold cosV
  simp only [cos_even]
theorem bet_sym {a b c d : Int} (h1 : latB a b = true) (h2 : latB c d = true) : betV c d a b = betV a b c d := by
  have l1 := lat_bd h1
  have l2 := lat_bd h2
  rw [(bet_ok (a := a) (b := b) (c := c) (d := d) (by omega) (by omega) (by omega) (by omega) (by omega) (by omega)).1, (bet_ok (a := c) (b := d) (c := a) (d := b) (by omega) (by omega) (by omega) (by omega) (by omega) (by omega)).1]
  have := hav_even (a - d) (b - c)
  rw [show -(b - c) = c - b by omega, show -(a - d) = d - a by omega] at this
  rw [this]
theorem bet_neg {a b c d : Int} (h1 : latB a b = true) (h2 : latB c d = true) : betV (-b) (-a) (-d) (-c) = betV a b c d := by
  have l1 := lat_bd h1
  have l2 := lat_bd h2
  rw [(bet_ok (a := a) (b := b) (c := c) (d := d) (by omega) (by omega) (by omega) (by omega) (by omega) (by omega)).1, (bet_ok (a := -b) (b := -a) (c := -d) (d := -c) (by omega) (by omega) (by omega) (by omega) (by omega) (by omega)).1]
  have := hav_even (a - d) (b - c)
  rw [show -(b - c) = -b - -c by omega, show -(a - d) = -a - -d by omega] at this
  rw [this]
theorem tri_of {a b c d e f : Int} (h1 : latB a b = true) (h2 : latB c d = true) (h3 : avalidB e f = true) : triB a b c d e f = true := by unfold triB; rw [h1, h2, h3]; rfl
theorem lat_neg {a b : Int} (h : latB a b = true) : latB (-b) (-a) = true := by
  have := lat_bd h
  unfold latB
  rw [aval_neg, this.1, decT (by omega), decT (by omega)]
  rfl
theorem zen_sum {a b c d e f a' b' c' d' e' f' : Int} (h : triB a b c d e f = true) (h' : triB a' b' c' d' e' f' = true) (e1 : betV a' b' c' d' = betV a b c d) (e2 : cosV a' b' c' d' = cosV a b c d) (e3 : havR e' f' = havR e f) : zenM a' b' c' d' e' f' = zenM a b c d e f := by
  have : zsum a' b' c' d' e' f' = zsum a b c d e f := by
    unfold zsum zprod
    rw [e1, e2, e3]
  rw [zen_ok h, zen_ok h', this]
theorem zen_sym {a b c d e f : Int} (h : triB a b c d e f = true) : zenM c d a b e f = zenM a b c d e f ∧ zenM (-b) (-a) (-d) (-c) e f = zenM a b c d e f ∧ zenM a b c d (-f) (-e) = zenM a b c d e f := by
  obtain ⟨h1, h2, h3⟩ := tri_bd h
  have h3' : avalidB (-f) (-e) = true := by rw [aval_neg]; exact h3
  exact ⟨zen_sum h (tri_of h2 h1 h3) (bet_sym h1 h2) (cosV_sym a b c d) rfl, zen_sum h (tri_of (lat_neg h1) (lat_neg h2) h3) (bet_neg h1 h2) (cosV_neg a b c d) rfl, zen_sum h (tri_of h1 h2 h3') rfl rfl (hav_even e f)⟩
/-- The numerator and the denominator of the angle at the zenith. -/
theorem num_has {a b c d u v z : Int} (h1 : latB a b = true) (h2 : latB c d = true) (z0 : 0 ≤ u) (z1 : v ≤ 10800000) (g1 : u ≤ z) (g2 : z ≤ v) : TA.Has (1 / 2 ^ 30) (numN a b c d u v).1 (numN a b c d u v).2.1 (H (5400000 - c) - H (a - (5400000 - z))) := by
  have l1 := lat_bd h1
  have l2 := lat_bd h2
  have hd : avalidB (5400000 - d) (5400000 - c) = true := avalid_mk (by omega) (by omega) (by omega)
  have hw : avalidB (a - (5400000 - u)) (b - (5400000 - v)) = true := avalid_mk (by omega) (by omega) (by omega)
  have n0 := num_ok h1 h2 z0 (by omega) z1
  have k := bet_ok (a := a) (b := b) (c := 5400000 - v) (d := 5400000 - u) (by omega) (by omega) (by omega) (by omega) (by omega) (by omega)
  have p1 := hav_has (x := 5400000 - c) hd (by omega) (by omega)
  have p2 := hav_has (x := a - (5400000 - z)) hw (by omega) (by omega)
  have e1 : (havR (a - (5400000 - u)) (b - (5400000 - v))).1 = (betV a b (5400000 - v) (5400000 - u)).1 ∧ (havR (a - (5400000 - u)) (b - (5400000 - v))).2.1 = (betV a b (5400000 - v) (5400000 - u)).2 := by rw [k.1]; exact ⟨rfl, rfl⟩
  rw [e1.1, e1.2] at p2
  have s := sub_has p1 p2
  have ev : numN a b c d u v = ((havR (5400000 - d) (5400000 - c)).1 - (betV a b (5400000 - v) (5400000 - u)).2, (havR (5400000 - d) (5400000 - c)).2.1 - (betV a b (5400000 - v) (5400000 - u)).1, 0) := by
    have := n0.1
    unfold numN subR at this ⊢
    obtain ⟨hb, hf⟩ := both_ok this
    rw [if_pos hb]
    exact (fit_ok hf).2
  rw [ev]
  exact TA.Has.wide s (by decide +kernel) (Int.le_refl _) (Int.le_refl _)
theorem latz {u v : Int} (z0 : 0 ≤ u) (zz : u ≤ v) (z1 : v ≤ 10800000) : latB (5400000 - v) (5400000 - u) = true := by
  unfold latB
  rw [avalid_mk (by omega) (by omega) (by omega), decT (by omega), decT (by omega)]
  rfl
theorem den_has {a b u v z : Int} (h1 : latB a b = true) (z0 : 0 ≤ u) (z1 : v ≤ 10800000) (g1 : u ≤ z) (g2 : z ≤ v) : TA.Has (3 * (1 / 2 ^ 31)) (cosV a b (5400000 - v) (5400000 - u)).1 (cosV a b (5400000 - v) (5400000 - u)).2 (C a * C (5400000 - z) / 1073741824) := by
  have l1 := lat_bd h1
  have hva := (lat_bd (latz z0 (by omega) z1)).1
  have o1 := (one_bd l1.1).2.1
  have o2 := (one_bd hva).2.1
  rw [(cosV_ok l1.1 hva).1]
  exact TA.mul_has (by decide +kernel) (by decide +kernel) (cos_has (x := a) l1.1 (by omega) (by omega)) (cos_has (x := 5400000 - z) hva (by omega) (by omega)) o1.2.1 o2.2.1 o1.1 o1.2.2.1 o2.1 o2.2.2.1
/-- An angle at the zenith that reaches an end. -/
theorem top_edge {n1 n2 d1 d2 : Int} (hn : validB n1 n2 = true) (hd : validB d1 d2 = true) (d0 : 0 ≤ d1) (h : (topS n1 n2 d1 d2).2.2 = 0) : (n1 ≤ 0 → (topS n1 n2 d1 d2).1 = 0) ∧ (d1 ≤ n2 → (topS n1 n2 d1 d2).2.1 = 10800000) := by
  have nb := val_bd hn
  have db := val_bd hd
  unfold topS at h ⊢
  by_cases c1 : d1 ≤ 0 ∧ 0 ≤ d2
  · rw [if_pos c1] at h
    cases h
  · rw [if_neg c1] at h ⊢
    by_cases c5 : (divR n1 n2 d1 d2).2.2 = 5
    · rw [if_pos c5, ahav_all]
      exact ⟨fun _ => rfl, fun _ => rfl⟩
    · have c0 : (divR n1 n2 d1 d2).2.2 = 0 := by
        rcases div_err hn hd c1 with q | q
        · exact q
        · exact absurd q c5
      rw [if_neg c5, if_neg (by omega)] at h ⊢
      have vd := div_val c0
      have bd := val_bd vd
      have ev : divR n1 n2 d1 d2 = (divL n1 n2 d1 d2, divH n1 n2 d1 d2, 0) := by
        have q := c0
        unfold divR at q ⊢
        obtain ⟨hb, hf⟩ := both_ok q
        rw [if_pos hb]
        split at hf
        · cases hf
        · rename_i hz
          rw [if_neg hz]
          exact (fit_ok hf).2
      have dp : 0 < d1 := by omega
      have hh : (ahavR (divR n1 n2 d1 d2).1 (divR n1 n2 d1 d2).2.1).2.2 = 0 := by
        unfold fin23 at h
        dsimp only at h
        split at h
        · cases h
        · exact h
      have hx : max (divR n1 n2 d1 d2).1 0 ≤ min (divR n1 n2 d1 d2).2.1 1073741824 := by
        unfold ahavR at hh
        rw [vd] at hh
        simp only [Bool.true_eq_false, if_false] at hh
        split at hh
        · assumption
        · cases hh
      have hv : ahavR (divR n1 n2 d1 d2).1 (divR n1 n2 d1 d2).2.1 = (5400000 + asn (2 * max (divR n1 n2 d1 d2).1 0 - 1073741824), 5400000 - asn (1073741824 - 2 * min (divR n1 n2 d1 d2).2.1 1073741824), 0) := by
        unfold ahavR
        rw [vd]
        simp only [Bool.true_eq_false, if_false]
        rw [if_pos hx, acosR_in _ _ (by omega) (by omega) (by omega)]
        rw [show -(1073741824 - 2 * max (divR n1 n2 d1 d2).1 0) = 2 * max (divR n1 n2 d1 d2).1 0 - 1073741824 by omega]
      unfold fin23
      dsimp only
      rw [hv]
      dsimp only
      constructor
      · intro q
        have p := (div_has (a := n1) (b := n2) (c := d1) (d := d2) (x := n1) (y := d2) (.inl dp) (Int.le_refl _) nb.2.1 db.2.1 (Int.le_refl _)).1
        have : flD (n1 * 1073741824) d2 ≤ 0 := by
          unfold flD
          rw [if_pos (by omega)]
          exact Int.ediv_nonpos_of_nonpos_of_neg (by omega) (by omega)
        have : (divR n1 n2 d1 d2).1 ≤ 0 := by rw [ev]; dsimp only; omega
        rw [Int.max_eq_right this]
        have := asn_low
        rw [show (2 * 0 - 1073741824 : Int) = -1073741824 by rfl, this]
        rfl
      · intro q
        have p := (div_has (a := n1) (b := n2) (c := d1) (d := d2) (x := n2) (y := d1) (.inl dp) nb.2.1 (Int.le_refl _) (Int.le_refl _) db.2.1).2
        have : 1073741824 ≤ ceD (n2 * 1073741824) d1 := by
          unfold ceD flD
          rw [if_pos dp]
          have : -(n2 * 1073741824) / d1 ≤ -1073741824 := by
            have : -(n2 * 1073741824) ≤ -1073741824 * d1 := by omega
            exact Int.ediv_le_of_le_mul (by omega) this
          omega
        have : 1073741824 ≤ (divR n1 n2 d1 d2).2.1 := by rw [ev]; dsimp only; omega
        rw [Int.min_eq_right this]
        have := asn_low
        rw [show (1073741824 - 2 * 1073741824 : Int) = -1073741824 by rfl, this]
        rfl
/-- At the meridian the angle at the zenith may be 0, or half a turn. -/
theorem top_mer {a b c d e f : Int} (h : triB a b c d e f = true) (hm : H e ≤ 1 / 2 ^ 30 ∨ 1073741824 - 1 / 2 ^ 30 ≤ H e) (ht : (topM a b c d e f (zenM a b c d e f).1 (zenM a b c d e f).2.1).2.2 = 0) :
    (topM a b c d e f (zenM a b c d e f).1 (zenM a b c d e f).2.1).1 = 0 ∨ (topM a b c d e f (zenM a b c d e f).1 (zenM a b c d e f).2.1).2.1 = 10800000 := by
  obtain ⟨h1, h2, h3⟩ := tri_bd h
  have l1 := lat_bd h1
  have l2 := lat_bd h2
  have l3 := aval_bd h3
  obtain ⟨z0, zz, z1, _⟩ := zen_ends (x := a) (y := c) (t := e) h (by omega) (by omega) (by omega)
  have key : ∃ z, ((zenM a b c d e f).1 ≤ z ∧ z ≤ (zenM a b c d e f).2.1) ∧ (H (5400000 - c) ≤ H (a - (5400000 - z)) + 1 / 2 ^ 30 ∨ H (10800000 - a - (5400000 - z)) ≤ H (5400000 - c) + 1 / 2 ^ 30) := by
    have k1 := H_neg (a - c)
    have k2 := H_neg (5400000 - c)
    have k3 := H_turn (10800000 - a - c)
    have k4 := H_turn (5400000 - c)
    rcases hm with q | q
    · have w := W_up a c e q
      by_cases s : c ≤ a
      · refine ⟨a - c, zen_in (x := a) (y := c) (t := e) h (by omega) (by omega) (by omega) (by omega) (by omega) (by grind) (by grind), .inr ?_⟩
        rw [show 10800000 - a - (5400000 - (a - c)) = 5400000 - c by omega]
        grind
      · rw [show -(a - c) = c - a by omega] at k1
        refine ⟨c - a, zen_in (x := a) (y := c) (t := e) h (by omega) (by omega) (by omega) (by omega) (by omega) (by grind) (by grind), .inl ?_⟩
        rw [show a - (5400000 - (c - a)) = -(5400000 - c) by omega]
        grind
    · have w := W_low a c e q
      by_cases s : 0 ≤ a + c
      · refine ⟨10800000 - a - c, zen_in (x := a) (y := c) (t := e) h (by omega) (by omega) (by omega) (by omega) (by omega) (by grind) (by grind), .inl ?_⟩
        rw [show a - (5400000 - (10800000 - a - c)) = 5400000 - c by omega]
        grind
      · rw [show 21600000 - (10800000 - a - c) = 10800000 + a + c by omega] at k3
        refine ⟨10800000 + a + c, zen_in (x := a) (y := c) (t := e) h (by omega) (by omega) (by omega) (by omega) (by omega) (by grind) (by grind), .inr ?_⟩
        rw [show 10800000 - a - (5400000 - (10800000 + a + c)) = 21600000 - (5400000 - c) by omega]
        grind
  obtain ⟨z, ⟨g1, g2⟩, hz⟩ := key
  generalize (zenM a b c d e f).1 = u at *
  generalize (zenM a b c d e f).2.1 = v at *
  rw [top_eq h1 h2 z0 zz z1] at ht ⊢
  have nn := num_has h1 h2 z0 z1 g1 g2
  have dn := den_has h1 z0 z1 g1 g2
  have sm := H_sum a (5400000 - z)
  have hv := latz z0 zz z1
  have cp := cosV_pos h1 hv
  have q := cosV_ok l1.1 (lat_bd hv).1
  have te := top_edge (num_ok h1 h2 z0 zz z1).2 (val_mk (by omega) q.2.2.2.1 (by omega)) cp ht
  have zc0 : ((0 : Int) : Rat) = 0 := rfl
  unfold TA.Has at nn dn
  rcases hz with hz | hz
  · left
    refine te.1 (of_cast (e := 1 / 2 ^ 20) ?_ (by decide +kernel))
    rw [zc0]
    generalize H (5400000 - c) = x1 at *
    generalize H (a - (5400000 - z)) = x2 at *
    generalize ((numN a b c d u v).1 : Rat) = x3 at *
    grind
  · right
    refine te.2 (of_cast (e := 1 / 2 ^ 20) ?_ (by decide +kernel))
    generalize H (5400000 - c) = x1 at *
    generalize H (a - (5400000 - z)) = x2 at *
    generalize ((numN a b c d u v).2.1 : Rat) = x3 at *
    generalize ((cosV a b (5400000 - v) (5400000 - u)).1 : Rat) = x4 at *
    generalize C a * C (5400000 - z) / 1073741824 = x5 at *
    generalize H (10800000 - a - (5400000 - z)) = x6 at *
    grind
end Go.Proofs.Ytcjkfchjcealbaa

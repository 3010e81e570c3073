/-
  Zenith distances and angles at the zenith by haversines: their laws without the errors that cannot come. No program here.
-/
import Derived.Test.YtcjkfchjcealbaaMo
import Derived.Test.YtcjkfchjcealbaaF4
namespace Go.Proofs.Ytcjkfchjcealbaa
open SM Ev
theorem keep0 (e : Int) : keepE 0 e = e := rfl
theorem lat_bd {a b : Int} (h : latB a b = true) : avalidB a b = true ∧ -5400000 ≤ a ∧ a ≤ b ∧ b ≤ 5400000 := by
  unfold latB at h
  simp only [Bool.and_eq_true, decide_eq_true_eq] at h
  have := aval_bd h.1
  exact ⟨h.1, by omega, by omega, by omega⟩
theorem tri_bd {a b c d e f : Int} (h : triB a b c d e f = true) : latB a b = true ∧ latB c d = true ∧ avalidB e f = true := by
  unfold triB at h
  simp only [Bool.and_eq_true] at h
  exact ⟨h.1, h.2.1, h.2.2⟩
theorem asub_ok {a b c d : Int} (h1 : -100000000 ≤ a) (h2 : a ≤ b) (h3 : b ≤ 100000000) (h4 : -100000000 ≤ c) (h5 : c ≤ d) (h6 : d ≤ 100000000) :
    asubR a b c d = (a - d, b - c, 0) := by
  unfold asubR
  rw [if_pos ⟨avalid_mk (by omega) h2 (by omega), avalid_mk (by omega) h5 (by omega)⟩]
  unfold resR fitsB
  simp
  omega
/-- The haversine of a difference. -/
theorem bet_ok {a b c d : Int} (h1 : -100000000 ≤ a) (h2 : a ≤ b) (h3 : b ≤ 100000000) (h4 : -100000000 ≤ c) (h5 : c ≤ d) (h6 : d ≤ 100000000) :
    betV a b c d = ((havR (a - d) (b - c)).1, (havR (a - d) (b - c)).2.1) ∧ (∀ k, betC k a b c d = k) ∧ 0 ≤ (betV a b c d).1 ∧ (betV a b c d).1 ≤ (betV a b c d).2 ∧ (betV a b c d).2 ≤ 1073741824 := by
  have hv : avalidB (a - d) (b - c) = true := avalid_mk (by omega) (by omega) (by omega)
  have h := (one_bd hv).2.2
  unfold betV betC
  rw [asub_ok h1 h2 h3 h4 h5 h6]
  refine ⟨rfl, fun k => ?_, h.1, h.2.1, h.2.2.1⟩
  dsimp only
  rw [h.2.2.2]
  unfold keepE
  split <;> simp_all
/-- The product of the cosines. -/
theorem cosV_ok {a b c d : Int} (h1 : avalidB a b = true) (h2 : avalidB c d = true) :
    cosV a b c d = ((mulR (cosR a b).1 (cosR a b).2.1 (cosR c d).1 (cosR c d).2.1).1, (mulR (cosR a b).1 (cosR a b).2.1 (cosR c d).1 (cosR c d).2.1).2.1) ∧ (∀ k, cosC k a b c d = k) ∧
      -1073741824 ≤ (cosV a b c d).1 ∧ (cosV a b c d).1 ≤ (cosV a b c d).2 ∧ (cosV a b c d).2 ≤ 1073741824 := by
  have p := (one_bd h1).2.1
  have q := (one_bd h2).2.1
  have m := mul_one p.1 p.2.1 p.2.2.1 q.1 q.2.1 q.2.2.1
  refine ⟨rfl, fun k => ?_, m.2.1, m.2.2.1, m.2.2.2⟩
  unfold cosC
  dsimp only
  rw [p.2.2.2, q.2.2.2, m.1]
  unfold keepE
  repeat' split
  all_goals simp_all
def fin23 (r : Int × Int × Int) : Int × Int × Int := (r.1, r.2.1, if r.2.2 = 2 then 23 else r.2.2)
/-- The angle at the zenith, from the two sides of the quotient. -/
noncomputable def topS (n1 n2 d1 d2 : Int) : Int × Int × Int :=
  if d1 ≤ 0 ∧ 0 ≤ d2 then (0, 0, 21) else
    if (divR n1 n2 d1 d2).2.2 = 5 then fin23 (ahavR 0 1073741824) else if (divR n1 n2 d1 d2).2.2 ≠ 0 then (0, 0, (divR n1 n2 d1 d2).2.2) else fin23 (ahavR (divR n1 n2 d1 d2).1 (divR n1 n2 d1 d2).2.1)
def numN (a b c d u v : Int) : Int × Int × Int := subR (havR (5400000 - d) (5400000 - c)).1 (havR (5400000 - d) (5400000 - c)).2.1 (betV a b (5400000 - v) (5400000 - u)).1 (betV a b (5400000 - v) (5400000 - u)).2
theorem fin_cond (r : Int × Int × Int) : cond (r.2.2 == 2) (r.1, r.2.1, (23 : Int)) (r.1, r.2.1, r.2.2) = fin23 r := by
  unfold fin23
  by_cases h : r.2.2 = 2
  · have : (r.2.2 == 2) = true := beq_iff_eq.2 h
    rw [this, if_pos h]; rfl
  · have : (r.2.2 == 2) = false := beq_eq_false_iff_ne.2 h
    rw [this, if_neg h]; rfl
theorem num_ok {a b c d u v : Int} (h1 : latB a b = true) (h2 : latB c d = true) (hu : 0 ≤ u) (huv : u ≤ v) (hv : v ≤ 10800000) :
    (numN a b c d u v).2.2 = 0 ∧ validB (numN a b c d u v).1 (numN a b c d u v).2.1 = true := by
  have l1 := lat_bd h1
  have l2 := lat_bd h2
  have hh : avalidB (5400000 - d) (5400000 - c) = true := avalid_mk (by omega) (by omega) (by omega)
  have h := (one_bd hh).2.2
  have k := bet_ok (a := a) (b := b) (c := 5400000 - v) (d := 5400000 - u) (by omega) (by omega) (by omega) (by omega) (by omega) (by omega)
  unfold numN subR
  rw [if_pos (both_mk (val_mk (by omega) h.2.1 (by omega)) (val_mk (by omega) k.2.2.2.1 (by omega)))]
  have hv : validB ((havR (5400000 - d) (5400000 - c)).1 - (betV a b (5400000 - v) (5400000 - u)).2) ((havR (5400000 - d) (5400000 - c)).2.1 - (betV a b (5400000 - v) (5400000 - u)).1) = true := val_mk (by omega) (by omega) (by omega)
  rw [fit_mk hv]
  exact ⟨rfl, hv⟩
theorem less_ok {a b : Int} (h1 : -100000000 ≤ a ∧ a ≤ 100000000) (h2 : -100000000 ≤ b ∧ b ≤ 100000000) : lessV a b = (5400000 - b, 5400000 - a) := by
  unfold lessV
  rw [i64w (by omega), i64w (by omega)]
theorem top_eq {a b c d e f u v : Int} (h1 : latB a b = true) (h2 : latB c d = true) (hu : 0 ≤ u) (huv : u ≤ v) (hv : v ≤ 10800000) :
    topM a b c d e f u v = topS (numN a b c d u v).1 (numN a b c d u v).2.1 (cosV a b (5400000 - v) (5400000 - u)).1 (cosV a b (5400000 - v) (5400000 - u)).2 := by
  have l1 := lat_bd h1
  have l2 := lat_bd h2
  have hh : avalidB (5400000 - d) (5400000 - c) = true := avalid_mk (by omega) (by omega) (by omega)
  have hz : avalidB (5400000 - v) (5400000 - u) = true := avalid_mk (by omega) (by omega) (by omega)
  have h := (one_bd hh).2.2
  have k := bet_ok (a := a) (b := b) (c := 5400000 - v) (d := 5400000 - u) (by omega) (by omega) (by omega) (by omega) (by omega) (by omega)
  have q := cosV_ok l1.1 hz
  have n0 := (num_ok h1 h2 hu huv hv).1
  unfold topM
  simp only [lt, numV, numC]
  rw [less_ok (a := c) (b := d) (by omega) (by omega), less_ok (a := u) (b := v) (by omega) (by omega)]
  simp only []
  have e1 : keepE 0 (havR (5400000 - d) (5400000 - c)).2.2 = 0 := by rw [h.2.2.2]; rfl
  rw [e1, k.2.1]
  have e2 : subR (havR (5400000 - d) (5400000 - c)).1 (havR (5400000 - d) (5400000 - c)).2.1 (betV a b (5400000 - v) (5400000 - u)).1 (betV a b (5400000 - v) (5400000 - u)).2 = numN a b c d u v := rfl
  rw [e2, n0, q.2.1]
  simp only [fin_cond, keepE, if_true]
  generalize numN a b c d u v = N
  generalize (cosV a b (5400000 - v) (5400000 - u)) = D
  unfold topS
  generalize divR N.1 N.2.1 D.1 D.2 = r
  have e3 : ((0 : Int) != 0) = false := rfl
  rw [e3]
  simp only [cond_false]
  by_cases c1 : D.1 ≤ 0
  · have : decide (D.1 ≤ 0) = true := decide_eq_true c1
    rw [this]
    by_cases c2 : D.2 ≥ 0
    · have : decide (D.2 ≥ 0) = true := decide_eq_true c2
      rw [this, if_pos ⟨c1, c2⟩]
      rfl
    · have : decide (D.2 ≥ 0) = false := decide_eq_false c2
      rw [this, if_neg (by omega)]
      simp only [cond_true, cond_false]
      by_cases c3 : r.2.2 = 5
      · rw [if_pos c3]; simp [c3]
      · rw [if_neg c3]
        by_cases c4 : r.2.2 = 0
        · simp [c4]
        · rw [beq_eq_false_iff_ne.2 c3, bne_iff_ne.2 c4]; simp [c4]
  · have : decide (D.1 ≤ 0) = false := decide_eq_false c1
    rw [this, if_neg (by omega)]
    simp only [cond_false]
    by_cases c3 : r.2.2 = 5
    · rw [if_pos c3]; simp [c3]
    · rw [if_neg c3]
      by_cases c4 : r.2.2 = 0
      · simp [c4]
      · rw [beq_eq_false_iff_ne.2 c3, bne_iff_ne.2 c4]; simp [c4]
theorem div_err {a b c d : Int} (h1 : validB a b = true) (h2 : validB c d = true) (hz : ¬ (c ≤ 0 ∧ 0 ≤ d)) : (divR a b c d).2.2 = 0 ∨ (divR a b c d).2.2 = 5 := by
  unfold divR
  rw [if_pos (both_mk h1 h2), if_neg (by simp [zeroB]; omega)]
  unfold fitR
  split <;> simp
theorem div_val {a b c d : Int} (h : (divR a b c d).2.2 = 0) : validB (divR a b c d).1 (divR a b c d).2.1 = true := by
  unfold divR at h ⊢
  obtain ⟨hb, hf⟩ := both_ok h
  rw [if_pos hb]
  split at hf
  · cases hf
  · rename_i hz
    rw [if_neg hz]
    obtain ⟨hv, e⟩ := fit_ok hf
    rw [e]; exact hv
theorem asn_low : asn (-1073741824) = -5400000 := asn_eq (by omega) ⟨by omega, by omega, by decide +kernel, .inr (by decide +kernel)⟩
theorem ahav_all : ahavR 0 1073741824 = (0, 10800000, 0) := by
  unfold ahavR acosR asinR
  simp [validB, asn_low]
/-- A wider quotient has a wider angle. -/
theorem top_grow {n1 n2 d1 d2 n1' n2' d1' d2' : Int} (hn : validB n1' n2' = true) (hd : validB d1' d2' = true) (h : (topS n1 n2 d1 d2).2.2 = 0)
    (h1 : n1' ≤ n1) (h2 : n1 ≤ n2) (h3 : n2 ≤ n2') (h4 : d1' ≤ d1) (h5 : d1 ≤ d2) (h6 : d2 ≤ d2') :
    (0 ≤ (topS n1 n2 d1 d2).1 ∧ (topS n1 n2 d1 d2).1 ≤ (topS n1 n2 d1 d2).2.1 ∧ (topS n1 n2 d1 d2).2.1 ≤ 10800000) ∧
    ((topS n1' n2' d1' d2').2.2 = 21 ∨ (Within (topS n1 n2 d1 d2) (topS n1' n2' d1' d2') ∧ 0 ≤ (topS n1' n2' d1' d2').1 ∧ (topS n1' n2' d1' d2').2.1 ≤ 10800000)) := by
  have hn' := val_bd hn
  have hd' := val_bd hd
  have z : ¬ (d1 ≤ 0 ∧ 0 ≤ d2) := fun q => by unfold topS at h; rw [if_pos q] at h; cases h
  have fin_ok : ∀ r : Int × Int × Int, (fin23 r).2.2 = 0 → r.2.2 = 0 ∧ fin23 r = (r.1, r.2.1, 0) := fun r q => by
    unfold fin23 at q ⊢
    dsimp only at q
    split at q
    · cases q
    · rename_i c; exact ⟨q, by rw [if_neg c, q]⟩
  -- the part's own bounds
  have small : ∃ p q, topS n1 n2 d1 d2 = (p, q, 0) ∧ 0 ≤ p ∧ p ≤ q ∧ q ≤ 10800000 ∧ ((divR n1 n2 d1 d2).2.2 = 0 → (ahavR (divR n1 n2 d1 d2).1 (divR n1 n2 d1 d2).2.1).2.2 = 0 ∧ p = (ahavR (divR n1 n2 d1 d2).1 (divR n1 n2 d1 d2).2.1).1 ∧ q = (ahavR (divR n1 n2 d1 d2).1 (divR n1 n2 d1 d2).2.1).2.1) := by
    unfold topS at h ⊢
    rw [if_neg z] at h ⊢
    by_cases c3 : (divR n1 n2 d1 d2).2.2 = 5
    · rw [if_pos c3, ahav_all]
      exact ⟨0, 10800000, rfl, by omega, by omega, by omega, fun q => by omega⟩
    · rw [if_neg c3] at h ⊢
      by_cases c4 : (divR n1 n2 d1 d2).2.2 = 0
      · rw [if_neg (by simpa using c4)] at h ⊢
        obtain ⟨g1, g2⟩ := fin_ok _ h
        have b := ahav_bd g1
        exact ⟨_, _, g2, b.1, b.2.1, b.2.2, fun _ => ⟨g1, rfl, rfl⟩⟩
      · rw [if_pos c4] at h
        exact absurd h c4
  obtain ⟨p, q, e, b1, b2, b3, b4⟩ := small
  rw [e]
  refine ⟨⟨b1, b2, b3⟩, ?_⟩
  by_cases z' : d1' ≤ 0 ∧ 0 ≤ d2'
  · left
    unfold topS
    rw [if_pos z']
  · right
    unfold topS
    rw [if_neg z']
    rcases div_err hn hd z' with q0 | q5
    · rw [if_neg (by omega), if_neg (by simpa using q0)]
      obtain ⟨w1, w2, w3, w4, w5⟩ := div_grow q0 h1 h2 h3 h4 h5 h6
      obtain ⟨k1, k2, k3⟩ := b4 w1
      have g := ahav_grow (div_val q0) k1 w3 w5
      have gb := ahav_bd g.2.1
      have : fin23 (ahavR (divR n1' n2' d1' d2').1 (divR n1' n2' d1' d2').2.1) = ((ahavR (divR n1' n2' d1' d2').1 (divR n1' n2' d1' d2').2.1).1, (ahavR (divR n1' n2' d1' d2').1 (divR n1' n2' d1' d2').2.1).2.1, 0) := by
        unfold fin23
        rw [if_neg (by rw [g.2.1]; omega), g.2.1]
      rw [this]
      obtain ⟨g1, g2, g3, g4, g5⟩ := g
      refine ⟨⟨rfl, rfl, ?_, ?_, ?_⟩, ?_, ?_⟩ <;> dsimp only <;> omega
    · rw [if_pos q5, ahav_all]
      refine ⟨⟨rfl, rfl, ?_, ?_, ?_⟩, ?_, ?_⟩ <;> simp [fin23] <;> omega
end Go.Proofs.Ytcjkfchjcealbaa

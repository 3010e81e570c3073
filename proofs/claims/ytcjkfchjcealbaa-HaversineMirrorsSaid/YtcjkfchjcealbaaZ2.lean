/-
  HaversineZenith answers true: the azimuth of a wider zenith distance contains the one of a part.
-/
import Derived.Test.YtcjkfchjcealbaaZ1
namespace Go.Proofs.Ytcjkfchjcealbaa
open Ev

open SM
/-- The azimuth, from the angle at the zenith and the hour angle. -/
def turnedS (p q e f : Int) : Int × Int × Int :=
  if turnL e f ≥ 10800000 ∧ turnH e f ≤ 21600000 then (p, q, 0) else if turnH e f ≤ 10800000 then turnR (21600000 - q) (21600000 - p) else if p + q > 10800000 then (p, 21600000 - p, 0) else turnR (-q) q
theorem azi_eq {a b c d e f u v : Int} (ht : triB a b c d e f = true) (hu : 0 ≤ u) (huv : u ≤ v) (hv : v ≤ 10800000) :
    aziM a b c d e f u v = if (topM a b c d e f u v).2.2 ≠ 0 then (0, 0, (topM a b c d e f u v).2.2) else
      (if turnL e f ≥ 10800000 ∧ turnH e f ≤ 21600000 then ((topM a b c d e f u v).1, (topM a b c d e f u v).2.1, 0) else if turnH e f ≤ 10800000 then turnR (IntKind.i64.wrap (21600000 - (topM a b c d e f u v).2.1)) (IntKind.i64.wrap (21600000 - (topM a b c d e f u v).1)) else if IntKind.i64.wrap ((topM a b c d e f u v).1 + (topM a b c d e f u v).2.1) > 10800000 then ((topM a b c d e f u v).1, IntKind.i64.wrap (21600000 - (topM a b c d e f u v).1), 0) else turnR (IntKind.i64.wrap (0 - (topM a b c d e f u v).2.1)) (topM a b c d e f u v).2.1) := by
  obtain ⟨_, _, he⟩ := tri_bd ht
  unfold aziM
  simp only [lt]
  have et : turnR e f = (turnL e f, turnH e f, 0) := by unfold turnR; rw [if_pos he]
  rw [ht, et]
  generalize topM a b c d e f u v = r
  have d1 : decide (u < 0) = false := decide_eq_false (by omega)
  have d2 : decide (u > v) = false := decide_eq_false (by omega)
  have d3 : decide (v > 10800000) = false := decide_eq_false (by omega)
  rw [d1, d2, d3]
  simp only [Bool.not_true, cond_false]
  by_cases c0 : r.2.2 = 0
  · have : (r.2.2 != 0) = false := bne_eq_false_iff_eq.2 c0
    rw [this, if_neg (by simpa using c0)]
    have z : ((0 : Int) != 0) = false := rfl
    simp only [cond_false, z]
    by_cases c1 : turnL e f ≥ 10800000
    · have : decide (turnL e f ≥ 10800000) = true := decide_eq_true c1
      rw [this]
      by_cases c2 : turnH e f ≤ 21600000
      · have : decide (turnH e f ≤ 21600000) = true := decide_eq_true c2
        rw [this, if_pos ⟨c1, c2⟩]; rfl
      · have : decide (turnH e f ≤ 21600000) = false := decide_eq_false c2
        rw [this, if_neg (by omega)]
        simp only [cond_true, cond_false]
        by_cases c3 : turnH e f ≤ 10800000
        · rw [decide_eq_true c3, if_pos c3]; rfl
        · rw [decide_eq_false c3, if_neg c3]
          simp only [cond_false]
          by_cases c4 : IntKind.i64.wrap (r.1 + r.2.1) > 10800000
          · rw [decide_eq_true c4, if_pos c4]; rfl
          · rw [decide_eq_false c4, if_neg c4]; rfl
    · have : decide (turnL e f ≥ 10800000) = false := decide_eq_false c1
      rw [this, if_neg (by omega)]
      simp only [cond_false]
      by_cases c3 : turnH e f ≤ 10800000
      · rw [decide_eq_true c3, if_pos c3]; rfl
      · rw [decide_eq_false c3, if_neg c3]
        simp only [cond_false]
        by_cases c4 : IntKind.i64.wrap (r.1 + r.2.1) > 10800000
        · rw [decide_eq_true c4, if_pos c4]; rfl
        · rw [decide_eq_false c4, if_neg c4]; rfl
  · have : (r.2.2 != 0) = true := bne_iff_ne.2 c0
    rw [this, if_pos c0]; rfl
theorem azi_arg {a b c d e f u v : Int} (h : (aziM a b c d e f u v).2.2 ≠ 1) : triB a b c d e f = true ∧ 0 ≤ u ∧ u ≤ v ∧ v ≤ 10800000 := by
  unfold aziM at h
  simp only [lt] at h
  cases ht : triB a b c d e f with
  | false => rw [ht] at h; exact absurd rfl h
  | true =>
    rw [ht] at h
    simp only [Bool.not_true, cond_false] at h
    by_cases d1 : u < 0
    · rw [decide_eq_true d1] at h; exact absurd rfl h
    rw [decide_eq_false d1] at h
    by_cases d2 : u > v
    · rw [decide_eq_true d2] at h; exact absurd rfl h
    rw [decide_eq_false d2] at h
    by_cases d3 : v > 10800000
    · rw [decide_eq_true d3] at h; exact absurd rfl h
    exact ⟨rfl, by omega, by omega, by omega⟩
theorem azi_err {a b c d e f u v : Int} (h : (aziM a b c d e f u v).2.2 ≠ 0) : (aziM a b c d e f u v).1 = 0 ∧ (aziM a b c d e f u v).2.1 = 0 := by
  by_cases h1 : (aziM a b c d e f u v).2.2 = 1
  · unfold aziM at h h1 ⊢
    simp only [lt] at h h1 ⊢
    revert h h1
    have tr : ∀ x y : Int, (turnR x y).2.2 ≠ 0 → (turnR x y).1 = 0 ∧ (turnR x y).2.1 = 0 := fun x y q => by
      unfold turnR at q ⊢
      split at q
      · exact absurd rfl q
      · rename_i z; rw [if_neg z]; exact ⟨rfl, rfl⟩
    generalize topM a b c d e f u v = r
    generalize turnR e f = t
    cases (!triB a b c d e f) <;> cases decide (u < 0) <;> cases decide (u > v) <;> cases decide (v > 10800000) <;> cases (r.2.2 != 0) <;> cases (t.2.2 != 0) <;> simp only [cond_true, cond_false] <;> first | exact fun _ _ => ⟨rfl, rfl⟩ | exact fun _ _ => ⟨trivial, trivial⟩ | skip
    cases decide (t.1 ≥ 10800000) <;> cases decide (t.2.1 ≤ 21600000) <;> cases decide (t.2.1 ≤ 10800000) <;> cases decide (IntKind.i64.wrap (r.1 + r.2.1) > 10800000) <;> simp only [cond_true, cond_false] <;> intro h h1 <;> first | exact tr _ _ h | exact absurd rfl h
  · obtain ⟨ht, hu, huv, hv⟩ := azi_arg h1
    rw [azi_eq ht hu huv hv] at h ⊢
    split at h
    · rename_i z; rw [if_pos z]; exact ⟨rfl, rfl⟩
    · rename_i z
      rw [if_neg z]
      have tr : ∀ x y : Int, (turnR x y).2.2 ≠ 0 → (turnR x y).1 = 0 ∧ (turnR x y).2.1 = 0 := fun x y q => by
        unfold turnR at q ⊢
        split at q
        · exact absurd rfl q
        · rename_i z; rw [if_neg z]; exact ⟨rfl, rfl⟩
      revert h
      split
      · intro h; exact absurd rfl h
      · split
        · exact tr _ _
        · split
          · intro h; exact absurd rfl h
          · exact tr _ _
/-- The wider one contains the other one. -/
theorem zenith_plain {a b c d e f u v u' v' : Int} (h : (aziM a b c d e f u v).2.2 = 0) (h1 : 0 ≤ u') (h2 : u' ≤ u) (h3 : v ≤ v') (h4 : v' ≤ 10800000) :
    (aziM a b c d e f u' v').2.2 = 21 ∨ (aziM a b c d e f u' v').2.2 = 0 ∧ (¬ (turnL e f < 10800000 ∧ turnH e f > 10800000) → ¬ turnH e f > 21600000 → ∃ p q p' q', aziM a b c d e f u v = (p, q, 0) ∧ aziM a b c d e f u' v' = (p', q', 0) ∧ -100000000 ≤ p ∧ p ≤ 100000000 ∧ -100000000 ≤ q ∧ q ≤ 100000000 ∧ -100000000 ≤ p' ∧ p' ≤ 100000000 ∧ -100000000 ≤ q' ∧ q' ≤ 100000000 ∧ (p - p') % 21600000 + q - p ≤ q' - p') := by
  obtain ⟨ht, hu, huv, hv⟩ := azi_arg (a := a) (b := b) (c := c) (d := d) (e := e) (f := f) (u := u) (v := v) (by omega)
  obtain ⟨t1, t2, t3⟩ := tri_bd ht
  have l1 := lat_bd t1
  have l2 := lat_bd t2
  have hz : avalidB (5400000 - v') (5400000 - u') = true := avalid_mk (by omega) (by omega) (by omega)
  have e1 := top_eq (a := a) (b := b) (c := c) (d := d) (e := e) (f := f) t1 t2 hu huv hv
  have e2 := top_eq (a := a) (b := b) (c := c) (d := d) (e := e) (f := f) (u := u') (v := v') t1 t2 h1 (by omega) h4
  have w1 := azi_eq (a := a) (b := b) (c := c) (d := d) (e := e) (f := f) ht hu huv hv
  have w2 := azi_eq (a := a) (b := b) (c := c) (d := d) (e := e) (f := f) (u := u') (v := v') ht h1 (by omega) h4
  have m1 := num_ok t1 t2 hu huv hv
  have m2 := num_ok (u := u') (v := v') t1 t2 h1 (by omega) h4
  have k1 := cosV_ok (a := a) (b := b) (c := 5400000 - v) (d := 5400000 - u) l1.1 (avalid_mk (by omega) (by omega) (by omega))
  have k2 := cosV_ok (a := a) (b := b) (c := 5400000 - v') (d := 5400000 - u') l1.1 hz
  have g0 := cos_grow (a := 5400000 - v) (b := 5400000 - u) hz (by omega) (by omega) (by omega)
  have o1 := (one_bd l1.1).2.1
  have o2 := (one_bd hz).2.1
  have gm := mul_grow (mul_one o1.1 o1.2.1 o1.2.2.1 o2.1 o2.2.1 o2.2.2.1).1 (Int.le_refl _) o1.2.1 (Int.le_refl _) g0.2.2.1 g0.2.2.2.1 g0.2.2.2.2
  have b1 := bet_ok (a := a) (b := b) (c := 5400000 - v) (d := 5400000 - u) (by omega) (by omega) (by omega) (by omega) (by omega) (by omega)
  have b2 := bet_ok (a := a) (b := b) (c := 5400000 - v') (d := 5400000 - u') (by omega) (by omega) (by omega) (by omega) (by omega) (by omega)
  have gb := hav_grow (a := a - (5400000 - u)) (b := b - (5400000 - v)) (c := a - (5400000 - u')) (d := b - (5400000 - v')) (avalid_mk (by omega) (by omega) (by omega)) (by omega) (by omega) (by omega)
  have oh := (one_bd (a := 5400000 - d) (b := 5400000 - c) (avalid_mk (by omega) (by omega) (by omega))).2.2
  have gn : Within (numN a b c d u v) (numN a b c d u' v') := by
    refine sub_grow m2.1 (Int.le_refl _) oh.2.1 (Int.le_refl _) ?_ ?_ ?_
    · rw [b1.1, b2.1]; exact gb.2.2.1
    · exact b1.2.2.2.1
    · rw [b1.1, b2.1]; exact gb.2.2.2.2
  have z0 : (topM a b c d e f u v).2.2 = 0 := by
    rcases Classical.em ((topM a b c d e f u v).2.2 = 0) with z | z
    · exact z
    · rw [w1, if_pos z] at h; exact absurd h z
  rw [e1] at z0
  have gt := top_grow (n1' := (numN a b c d u' v').1) (n2' := (numN a b c d u' v').2.1) (d1' := (cosV a b (5400000 - v') (5400000 - u')).1) (d2' := (cosV a b (5400000 - v') (5400000 - u')).2) m2.2
    (val_mk (by omega) k2.2.2.2.1 (by omega)) z0 gn.2.2.1 gn.2.2.2.1 gn.2.2.2.2 (by rw [k1.1, k2.1]; exact gm.2.2.1) k1.2.2.2.1 (by rw [k1.1, k2.1]; exact gm.2.2.2.2)
  rw [← e1, ← e2] at gt
  rw [← e1] at z0
  obtain ⟨⟨r1, r2, r3⟩, gt⟩ := gt
  rcases gt with gt | ⟨⟨s1, s2, s3, s4, s5⟩, s6, s7⟩
  · left
    rw [w2, if_pos (by omega)]
    exact gt
  · right
    rw [if_neg (show ¬ (topM a b c d e f u v).2.2 ≠ 0 by simpa using z0)] at w1
    rw [if_neg (show ¬ (topM a b c d e f u' v').2.2 ≠ 0 by simpa using s2)] at w2
    rw [w1, w2]
    clear w1 w2 e1 e2
    generalize topM a b c d e f u v = r at *
    generalize topM a b c d e f u' v' = s at *
    have tv : ∀ x y : Int, -1099511627776 ≤ x → x ≤ y → y ≤ 1099511627776 → (turnR x y).2.2 = 0 := fun x y q1 q2 q3 => by
      unfold turnR
      rw [if_pos (avalid_mk q1 q2 q3)]
    refine ⟨?_, fun hl hh => ?_⟩
    · split
      · rfl
      · split
        · rw [i64w (x := 21600000 - s.2.1) (by omega), i64w (x := 21600000 - s.1) (by omega)]
          exact tv _ _ (by omega) (by omega) (by omega)
        · split
          · rfl
          · rw [i64w (x := 0 - s.2.1) (by omega)]
            exact tv _ _ (by omega) (by omega) (by omega)
    by_cases ca : turnL e f ≥ 10800000 ∧ turnH e f ≤ 21600000
    · rw [if_pos ca, if_pos ca]
      exact ⟨_, _, _, _, rfl, rfl, by omega, by omega, by omega, by omega, by omega, by omega, by omega, by omega, by omega⟩
    · have cb : turnH e f ≤ 10800000 := by omega
      rw [if_neg ca, if_neg ca, if_pos cb, if_pos cb, i64w (x := 21600000 - r.2.1) (by omega), i64w (x := 21600000 - r.1) (by omega), i64w (x := 21600000 - s.2.1) (by omega), i64w (x := 21600000 - s.1) (by omega)]
      unfold turnR
      rw [if_pos (avalid_mk (by omega) (by omega) (by omega)), if_pos (avalid_mk (by omega) (by omega) (by omega))]
      refine ⟨_, _, _, _, rfl, rfl, ?_⟩
      unfold turnL turnH
      rw [if_neg (by omega), if_neg (by omega), if_neg (by omega), if_neg (by omega)]
      omega
noncomputable def rwrapM (a : Int) : Int :=
  cond (decide ((Int.tmod a 21600000) < 0))
  (IntKind.i64.wrap ((Int.tmod a 21600000) + 21600000))
  ((Int.tmod a 21600000))
noncomputable def book_rwrapM_gives : Book := []
theorem book_rwrapM_gives_ok : BookOk Try.prog book_rwrapM_gives := bookOk_nil
theorem rwrapM_gives_tree (a : Int) : evF Try.prog Es Cs book_rwrapM_gives 20 6 15 ([.int .i64 a].map AV.v) [] [] last =
  cond (decide ((Int.tmod a 21600000) < 0))
  (some (.v (.int .i64 (IntKind.i64.wrap ((Int.tmod a 21600000) + 21600000)))))
  (some (.v (.int .i64 (Int.tmod a 21600000)))) := by kernel_rfl
theorem rwrapM_gives (a : Int) : Gives Try.prog 15 [.int .i64 a] (.int .i64 (rwrapM a)) := by
  refine evF_gives (E := Es) mixed Es_ok Cs_ok book_rwrapM_gives_ok (lim := 20) (d := 6) (nm := []) ?_
  rw [rwrapM_gives_tree a]
  unfold rwrapM
  refine case_cond (fun (r : Int) => AV.v (.int .i64 (r))) ?_ ?_
  · rfl
  · rfl
noncomputable def turnP (a b : Int) : Int × Int :=
  cond (decide (IntKind.i64.wrap (b - a) ≥ 21600000))
  ((0, 21600000))
  (((rwrapM a), IntKind.i64.wrap ((rwrapM a) + (IntKind.i64.wrap (b - a)))))
noncomputable def book_turnP_gives : Book := [(15, eI (fun a => .int .i64 (rwrapM a)))]
theorem book_turnP_gives_ok : BookOk Try.prog book_turnP_gives := (bookOk_cons (eI_ok rwrapM_gives) bookOk_nil)
theorem turnP_gives_tree (a b : Int) : evF Try.prog Es Cs book_turnP_gives 20 6 14 ([.agg ⟨[.int .i64 a, .int .i64 b]⟩].map AV.v) [] [] last =
  cond (decide (IntKind.i64.wrap (b - a) ≥ 21600000))
  (some (.v (.agg ⟨[.int .i64 0, .int .i64 21600000]⟩)))
  (some (.v (.agg ⟨[.int .i64 (rwrapM a), .int .i64 (IntKind.i64.wrap ((rwrapM a) + (IntKind.i64.wrap (b - a))))]⟩))) := by kernel_rfl
theorem turnP_gives (a b : Int) : Gives Try.prog 14 [.agg ⟨[.int .i64 a, .int .i64 b]⟩] (pairV (turnP a b).1 (turnP a b).2) := by
  refine evF_gives (E := Es) mixed Es_ok Cs_ok book_turnP_gives_ok (lim := 20) (d := 6) (nm := []) ?_
  rw [turnP_gives_tree a b]
  unfold turnP
  refine case_cond (fun (r : Int × Int) => AV.v (pairV (r).1 (r).2)) ?_ ?_
  · rfl
  · rfl

/-! ### The examples of the chapter -/
theorem ahav_at {x y p q : Int} (h1 : 0 ≤ x) (h2 : x ≤ y) (h3 : y ≤ 1073741824) (hp : IsAsin (2 * x - 1073741824) p) (hq : IsAsin (1073741824 - 2 * y) q) : ahavR x y = (5400000 + p, 5400000 - q, 0) := by
  have e1 : asn (1073741824 - 2 * y) = q := asn_eq (by omega) hq
  have e2 : asn (2 * x - 1073741824) = p := asn_eq (by omega) hp
  unfold ahavR acosR asinR
  rw [val_mk (a := x) (b := y) (by omega) h2 (by omega)]
  simp only [Bool.true_eq_false, if_false]
  have m1 : max x 0 = x := by omega
  have m2 : min y 1073741824 = y := by omega
  rw [m1, m2, if_pos h2, val_mk (a := 1073741824 - 2 * y) (b := 1073741824 - 2 * x) (by omega) (by omega) (by omega)]
  simp only [Bool.true_eq_false, if_false]
  have m3 : max (1073741824 - 2 * y) (-1073741824) = 1073741824 - 2 * y := by omega
  have m4 : min (1073741824 - 2 * x) 1073741824 = 1073741824 - 2 * x := by omega
  rw [m3, m4, if_pos (show 1073741824 - 2 * y ≤ 1073741824 - 2 * x by omega), e1, show -(1073741824 - 2 * x) = 2 * x - 1073741824 by omega, e2]
  simp
theorem zen_a : zenM 0 0 0 0 3600000 3600000 = (3600000, 3600000, 0) := by
  have h : ahavR 268435456 268435456 = (3600000, 3600000, 0) := by
    rw [ahav_at (p := -1800000) (q := 1800000) (by omega) (by omega) (by omega) ⟨by omega, by omega, by decide +kernel, .inr (by decide +kernel)⟩ ⟨by omega, by omega, by decide +kernel, .inr (by decide +kernel)⟩]
    rfl
  have e1 : cosV 0 0 0 0 = (1073741824, 1073741824) := by decide +kernel
  have e2 : cosC 0 0 0 0 0 = 0 := by decide +kernel
  have e3 : havR 3600000 3600000 = (268435456, 268435456, 0) := by decide +kernel
  have e4 : betV 0 0 0 0 = (0, 0) := by decide +kernel
  have e5 : betC 0 0 0 0 0 = 0 := by decide +kernel
  have e6 : mulR 1073741824 1073741824 268435456 268435456 = (268435456, 268435456, 0) := by decide +kernel
  have e7 : addR 0 0 268435456 268435456 = (268435456, 268435456, 0) := by decide +kernel
  have e8 : triB 0 0 0 0 3600000 3600000 = true := by decide +kernel
  unfold zenM
  simp only [lt, numV, numC, arcW, arcC, e1, e2, e3, e4, e5, e6, e7, e8, h, keep0]
  rfl
theorem top_a : topM 0 0 0 0 3600000 3600000 3600000 3600000 = (5399999, 5400001, 0) := by
  rw [top_eq (by decide +kernel) (by decide +kernel) (by omega) (by omega) (by omega)]
  have e1 : numN 0 0 0 0 3600000 3600000 = (464943848, 464943849, 0) := by decide +kernel
  have e2 : cosV 0 0 (5400000 - 3600000) (5400000 - 3600000) = (929887696, 929887697) := by decide +kernel
  have e3 : divR 464943848 464943849 929887696 929887697 = (536870911, 536870914, 0) := by decide +kernel
  rw [e1, e2]
  unfold topS
  simp only [e3]
  rw [ahav_at (x := 536870911) (y := 536870914) (p := -1) (q := -1) (by omega) (by omega) (by omega) ⟨by omega, by omega, by decide +kernel, .inr (by decide +kernel)⟩ ⟨by omega, by omega, by decide +kernel, .inr (by decide +kernel)⟩]
  rfl
theorem sol_a : solM 0 0 0 0 3600000 3600000 = (1800000, 1800000, 16199999, 16200001, 0) := by
  have e1 : aziM 0 0 0 0 3600000 3600000 3600000 3600000 = (16199999, 16200001, 0) := by
    rw [azi_eq (by decide +kernel) (by omega) (by omega) (by omega), top_a]
    decide +kernel
  have e2 : lessV 3600000 3600000 = (1800000, 1800000) := by decide +kernel
  unfold solM
  simp only [lt, zen_a, e1, e2]
  rfl
theorem zen_b : zenM 1800000 1800000 1800000 1800000 0 0 = (0, 0, 0) := by
  have h : ahavR 0 0 = (0, 0, 0) := by
    rw [ahav_at (p := -5400000) (q := 5400000) (by omega) (by omega) (by omega) ⟨by omega, by omega, by decide +kernel, .inr (by decide +kernel)⟩ ⟨by omega, by omega, by decide +kernel, .inl rfl⟩]
    rfl
  have e1 : mulR (cosV 1800000 1800000 1800000 1800000).1 (cosV 1800000 1800000 1800000 1800000).2 0 0 = (0, 0, 0) := by decide +kernel
  have e2 : cosC 0 1800000 1800000 1800000 1800000 = 0 := by decide +kernel
  have e3 : havR 0 0 = (0, 0, 0) := by decide +kernel
  have e4 : betV 1800000 1800000 1800000 1800000 = (0, 0) := by decide +kernel
  have e5 : betC 0 1800000 1800000 1800000 1800000 = 0 := by decide +kernel
  have e7 : addR 0 0 0 0 = (0, 0, 0) := by decide +kernel
  have e8 : triB 1800000 1800000 1800000 1800000 0 0 = true := by decide +kernel
  unfold zenM
  simp only [lt, numV, numC, arcW, arcC, e1, e2, e3, e4, e5, e7, e8, h, keep0]
  rfl
theorem azi_b : (aziM 1800000 1800000 1800000 1800000 0 0 0 0).2.2 = 21 := by
  have e1 : topM 1800000 1800000 1800000 1800000 0 0 0 0 = (0, 0, 21) := by
    rw [top_eq (by decide +kernel) (by decide +kernel) (by omega) (by omega) (by omega)]
    have e2 : cosV 1800000 1800000 (5400000 - 0) (5400000 - 0) = (0, 0) := by decide +kernel
    rw [e2]
    unfold topS
    simp
  rw [azi_eq (by decide +kernel) (by omega) (by omega) (by omega), e1]
  simp
noncomputable def book_awake_gives : Book := [(9, eT (fun a b c d e f => arcV (zenM a b c d e f))), (13, eTP (fun a b c d e f u v => arcV (aziM a b c d e f u v))), (16, eT (fun a b c d e f => solV (solM a b c d e f)))]
theorem book_awake_gives_ok : BookOk Try.prog book_awake_gives := (bookOk_cons (eT_ok zenM_gives) (bookOk_cons (eTP_ok aziM_gives) (bookOk_cons (eT_ok solM_gives) bookOk_nil)))
theorem awake_gives_tree  : evF Try.prog Es Cs book_awake_gives 20 6 8 ([].map AV.v) [] [] last =
  lt (solM 0 0 0 0 3600000 3600000) fun x1 =>
  lt (zenM 1800000 1800000 1800000 1800000 0 0) fun x2 =>
  lt (aziM 1800000 1800000 1800000 1800000 0 0 x2.1 x2.2.1) fun x3 =>
  cond (x1.2.2.2.2 == 0)
  (cond ((x1.1 == 1800000) && ((x1.2.1 == 1800000) && ((x1.2.2.1 == 16199999) && ((x1.2.2.2.1 == 16200001) && true))))
   (cond (x2.2.2 == 0)
    (cond ((x2.1 == 0) && ((x2.2.1 == 0) && true))
     (some (.v (.bool (x3.2.2 == 21))))
     (some (.v (.bool false))))
    (some (.v (.bool false))))
   (some (.v (.bool false))))
  (some (.v (.bool false))) := by kernel_rfl
theorem awake_gives  : Gives Try.prog 8 [] (.bool (true)) := by
  refine evF_gives (E := Es) mixed Es_ok Cs_ok book_awake_gives_ok (lim := 20) (d := 6) (nm := []) ?_
  rw [awake_gives_tree]
  simp only [lt, sol_a, zen_b]
  have := azi_b
  rw [this]
  rfl
theorem turnP_ok {e f : Int} (h : avalidB e f = true) : turnP e f = (turnL e f, turnH e f) := by
  have := aval_bd h
  have hw : ∀ x : Int, -1099511627776 ≤ x → x ≤ 1099511627776 → rwrapM x = x % 21600000 := fun x q1 q2 => by
    unfold rwrapM
    have t := turned_hm2 x
    by_cases c : x.tmod 21600000 < 0
    · rw [decide_eq_true c, cond_true, i64w (by omega)]
      omega
    · rw [decide_eq_false c, cond_false]
      omega
  unfold turnP turnL turnH
  rw [i64w (x := f - e) (by omega), hw e (by omega) (by omega)]
  by_cases c : f - e ≥ 21600000
  · rw [decide_eq_true c, if_pos c, if_pos c]; rfl
  · rw [decide_eq_false c, if_neg c, if_neg c, cond_false, i64w (by omega)]
theorem rwrap_ok (x : Int) : rwrapM x = x % 21600000 := by
  unfold rwrapM
  have t := turned_hm2 x
  by_cases c : x.tmod 21600000 < 0
  · rw [decide_eq_true c, cond_true, i64w (by omega)]
    omega
  · rw [decide_eq_false c, cond_false]
    omega
noncomputable def book_hz : Book := [(8, e0 (.bool (true))), (13, eTP (fun a b c d e f u v => arcV (aziM a b c d e f u v))), (14, eP (fun a b => pairV (turnP a b).1 (turnP a b).2)), (15, eI (fun a => .int .i64 (rwrapM a)))]
theorem book_hz_ok : BookOk Try.prog book_hz := (bookOk_cons (e0_ok awake_gives) (bookOk_cons (eTP_ok aziM_gives) (bookOk_cons (eP_ok turnP_gives) (bookOk_cons (eI_ok rwrapM_gives) bookOk_nil))))
theorem hz_tree (a b c d e f u v w : Int) : evF Try.prog Es Cs book_hz 20 6 4 ([.agg ⟨[.int .i64 a, .int .i64 b, .int .i64 c, .int .i64 d, .int .i64 e, .int .i64 f]⟩, .agg ⟨[.int .i64 u, .int .i64 v]⟩, .int .u16 w].map AV.v) [] [] last =
  cond (!(true))
  (some (.v (.bool false)))
  (lt (aziM a b c d e f u v) fun x1 =>
   cond (x1.2.2 != 0)
   (some (.v (.bool ((x1.1 == 0) && ((x1.2.1 == 0) && true)))))
   (lt (aziM a b c d e f (mx 0 (IntKind.i64.wrap (u - (IntKind.i64.wrap (w))))) (mn 10800000 (IntKind.i64.wrap (v + (IntKind.i64.wrap (w)))))) fun x2 =>
    cond (x2.2.2 != 0)
    (some (.v (.bool (x2.2.2 == 21))))
    (lt (turnP e f) fun x3 =>
     cond (decide (x3.1 < 10800000))
     (cond (decide (x3.2 > 10800000))
      (some (.v (.bool true)))
      (cond (decide (x3.2 > 21600000))
       (some (.v (.bool true)))
       (cond (decide (IntKind.i64.wrap (x2.2.1 - x2.1) ≥ 21600000))
        (some (.v (.bool true)))
        (some (.v (.bool (decide (IntKind.i64.wrap ((IntKind.i64.wrap ((rwrapM (IntKind.i64.wrap (x1.1 - x2.1))) + x1.2.1)) - x1.1) ≤ IntKind.i64.wrap (x2.2.1 - x2.1)))))))))
     (cond (decide (x3.2 > 21600000))
      (some (.v (.bool true)))
      (cond (decide (IntKind.i64.wrap (x2.2.1 - x2.1) ≥ 21600000))
       (some (.v (.bool true)))
       (some (.v (.bool (decide (IntKind.i64.wrap ((IntKind.i64.wrap ((rwrapM (IntKind.i64.wrap (x1.1 - x2.1))) + x1.2.1)) - x1.1) ≤ IntKind.i64.wrap (x2.2.1 - x2.1))))))))))) := by kernel_rfl
theorem hz_any (a b c d e f u v w : Int) (hw : 0 ≤ w ∧ w ≤ 65535) : Gives Try.prog 4 [.agg ⟨[.int .i64 a, .int .i64 b, .int .i64 c, .int .i64 d, .int .i64 e, .int .i64 f]⟩, .agg ⟨[.int .i64 u, .int .i64 v]⟩, .int .u16 w] (.bool true) := by
  refine evF_gives (E := Es) mixed Es_ok Cs_ok book_hz_ok (lim := 20) (d := 6) (nm := []) ?_
  rw [hz_tree]
  simp only [lt, Bool.not_true, cond_false]
  by_cases he : (aziM a b c d e f u v).2.2 = 0
  · rw [bne_eq_false_iff_eq.2 he, cond_false]
    obtain ⟨ht, hu, huv, hv⟩ := azi_arg (a := a) (b := b) (c := c) (d := d) (e := e) (f := f) (u := u) (v := v) (by omega)
    rw [i64w (x := w) (by omega), i64w (x := u - w) (by omega), i64w (x := v + w) (by omega)]
    have m1 := mx_bd 0 (u - w)
    have m2 := mn_bd 10800000 (v + w)
    generalize mx 0 (u - w) = u' at *
    generalize mn 10800000 (v + w) = v' at *
    have hz := zenith_plain (u' := u') (v' := v') he (by omega) (by omega) (by omega) (by omega)
    by_cases hf : (aziM a b c d e f u' v').2.2 = 0
    · rw [bne_eq_false_iff_eq.2 hf, cond_false, turnP_ok (tri_bd ht).2.2]
      dsimp only
      rcases hz with hz | ⟨_, hz⟩
      · omega
      by_cases c1 : turnL e f < 10800000 ∧ turnH e f > 10800000
      · rw [decide_eq_true c1.1, decide_eq_true c1.2]; rfl
      by_cases c2 : turnH e f > 21600000
      · rw [decide_eq_true c2]
        cases decide (turnL e f < 10800000) <;> cases decide (turnH e f > 10800000) <;> rfl
      obtain ⟨p, q, p', q', e1, e2, b1, b2, b3, b4, b5, b6, b7, b8, hin⟩ := hz c1 c2
      rw [e1, e2, decide_eq_false c2]
      dsimp only
      rw [i64w (x := q' - p') (by omega), i64w (x := p - p') (by omega), rwrap_ok, i64w (x := (p - p') % 21600000 + q) (by omega), i64w (x := (p - p') % 21600000 + q - p) (by omega), decide_eq_true hin]
      cases decide (turnL e f < 10800000)
      · cases decide (q' - p' ≥ 21600000) <;> rfl
      · have : decide (turnH e f > 10800000) = false ∨ decide (turnH e f > 10800000) = true := by cases decide (turnH e f > 10800000) <;> simp
        rcases this with z | z <;> rw [z] <;> cases decide (q' - p' ≥ 21600000) <;> rfl
    · rw [bne_iff_ne.2 hf, cond_true]
      rcases hz with hz | ⟨hz, _⟩
      · rw [hz]; rfl
      · exact absurd hz hf
  · rw [bne_iff_ne.2 he, cond_true]
    obtain ⟨z1, z2⟩ := azi_err he
    rw [z1, z2]
    rfl
end Go.Proofs.Ytcjkfchjcealbaa

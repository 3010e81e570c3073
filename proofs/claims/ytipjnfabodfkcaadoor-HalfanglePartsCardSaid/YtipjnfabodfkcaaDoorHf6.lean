/-
  Half-angles: a part has its solution inside. No program here.
-/
import Derived.Test.YtipjnfabodfkcaaDoorHf5
namespace Go.Proofs.YtipjnfabodfkcaaDoor
open SM TB TA
/-! ### By the three half-angles -/
def sP (u w : Int × Int) : Int × Int × Int := mulT (cosR u.1 u.2) (sinR w.1 w.2)
def sQ (v w : Int × Int) : Int × Int × Int := mulT (cosR v.1 v.2) (cosR w.1 w.2)
def sR (u w : Int × Int) : Int × Int × Int := mulT (sinR u.1 u.2) (sinR w.1 w.2)
def sS (v w : Int × Int) : Int × Int × Int := mulT (sinR v.1 v.2) (cosR w.1 w.2)
def sY (u v w : Int × Int) : Int × Int × Int := lenT (sR u w) (sS v w)
def sX (u v w : Int × Int) : Int × Int × Int := lenT (sP u w) (sQ v w)
def sB (u v w : Int × Int) : Int × Int × Int := beaT (sY u v w) (sX u v w)
def sZ (u v w : Int × Int) : Int × Int × Int := oppS (beaT (sQ v w) (sP u w)) (beaT (sS v w) (sR u w))
def Ok2 (u : Int × Int) : Prop := avalidB u.1 u.2 = true
def In2 (u' u : Int × Int) : Prop := u.1 ≤ u'.1 ∧ u'.1 ≤ u'.2 ∧ u'.2 ≤ u.2
theorem s_one {u v w : Int × Int} (hu : Ok2 u) (hv : Ok2 v) (hw : Ok2 w) : OneR (sP u w) ∧ OneR (sQ v w) ∧ OneR (sR u w) ∧ OneR (sS v w) :=
  ⟨mul_ones (cos_one hu) (sin_one hw), mul_ones (cos_one hv) (cos_one hw), mul_ones (sin_one hu) (sin_one hw), mul_ones (sin_one hv) (cos_one hw)⟩
/-- Half a turn more. -/
theorem s_half {u v w : Int × Int} (hu : Ok2 u) (hv : Ok2 v) (hw : Ok2 w) (hw' : Ok2 (w.1 + 10800000, w.2 + 10800000)) :
    sY u v (w.1 + 10800000, w.2 + 10800000) = sY u v w ∧ sX u v (w.1 + 10800000, w.2 + 10800000) = sX u v w ∧ sZ u v (w.1 + 10800000, w.2 + 10800000) = sZ u v w := by
  have t := trig_half hw hw'
  obtain ⟨p, q, r, s⟩ := s_one hu hv hw
  have eP : sP u (w.1 + 10800000, w.2 + 10800000) = negT (sP u w) := by
    unfold sP
    dsimp only
    rw [t.1]
    exact mul_neg (cos_one hu) (sin_one hw)
  have eQ : sQ v (w.1 + 10800000, w.2 + 10800000) = negT (sQ v w) := by
    unfold sQ
    dsimp only
    rw [t.2]
    exact mul_neg (cos_one hv) (cos_one hw)
  have eR : sR u (w.1 + 10800000, w.2 + 10800000) = negT (sR u w) := by
    unfold sR
    dsimp only
    rw [t.1]
    exact mul_neg (sin_one hu) (sin_one hw)
  have eS : sS v (w.1 + 10800000, w.2 + 10800000) = negT (sS v w) := by
    unfold sS
    dsimp only
    rw [t.2]
    exact mul_neg (sin_one hv) (cos_one hw)
  unfold sY sX sZ
  rw [eP, eQ, eR, eS]
  exact ⟨len_neg _ _, len_neg _ _, oppS_neg q p s r⟩
/-! ### Growing -/
theorem mulT_grow {r s r' s' : Int × Int × Int} (h : OneR r) (k : OneR s) (g : Within r' r) (j : Within s' s) : Within (mulT r' s') (mulT r s) :=
  mul_grow (mul_ones h k).2.2.2 g.2.2.1 g.2.2.2.1 g.2.2.2.2 j.2.2.1 j.2.2.2.1 j.2.2.2.2
theorem sqr_grow {r r' : Int × Int × Int} (h : OneR r) (h' : OneR r') (g : Within r' r) : Within (sqrR r'.1 r'.2.1) (sqrR r.1 r.2.1) := by
  have a := sqr_ones h
  have b := sqr_ones h'
  obtain ⟨g1, g2, g3, g4, g5⟩ := g
  have i' := sqr_int h'.val
  have L : sqrL r.1 r.2.1 ≤ sqrL r'.1 r'.2.1 := by
    have z := i'.1
    unfold sqrL at z ⊢
    by_cases c : r.1 ≤ 0 ∧ 0 ≤ r.2.1
    · rw [if_pos c]
      exact z
    · rw [if_neg c, if_neg (by omega)]
      rcases (show 0 < r.1 ∨ r.2.1 < 0 by omega) with k | k
      · have s1 := sq_le (x := r.1) (m := r'.1) (by omega) (by omega)
        have s2 := sq_le (x := r.1) (m := r'.2.1) (by omega) (by omega)
        omega
      · have s1 := sq_le (x := -r.2.1) (m := -r'.1) (by omega) (by omega)
        have s2 := sq_le (x := -r.2.1) (m := -r'.2.1) (by omega) (by omega)
        rw [Int.neg_mul_neg, Int.neg_mul_neg] at s1 s2
        omega
  have H : sqrH r'.1 r'.2.1 ≤ sqrH r.1 r.2.1 := by
    have one : ∀ x : Int, r.1 ≤ x → x ≤ r.2.1 → x * x ≤ max (r.1 * r.1) (r.2.1 * r.2.1) := fun x k1 k2 => by
      rcases Int.le_total 0 x with k | k
      · have := sq_le k k2
        omega
      · have := sq_le (x := -x) (m := -r.1) (by omega) (by omega)
        rw [Int.neg_mul_neg, Int.neg_mul_neg] at this
        omega
    have x1 := one r'.1 g3 (by omega)
    have x2 := one r'.2.1 (by omega) g5
    unfold sqrH
    omega
  rw [a.1, b.1]
  unfold Within
  dsimp only
  exact ⟨rfl, rfl, by omega, by omega, by omega⟩
theorem len_grow {r s r' s' : Int × Int × Int} (h : OneR r) (k : OneR s) (h' : OneR r') (k' : OneR s') (g : Within r' r) (j : Within s' s) : Within (lenT r' s') (lenT r s) := by
  have a := sqr_grow h h' g
  have b := sqr_grow k k' j
  have l := len_ok h k
  have l' := len_ok h' k'
  have S : Within (sumT r' s') (sumT r s) := add_grow (by have := congrArg (fun z => z.2.2) l.1; exact this) a.2.2.1 a.2.2.2.1 a.2.2.2.2 b.2.2.1 b.2.2.2.1 b.2.2.2.2
  obtain ⟨_, _, s3, s4, s5⟩ := S
  have v := val_bd l.2.2.1
  have v' := val_bd l'.2.2.1
  have q := sqt_ok l.2.1 v.2.1 v.2.2
  have q' := sqt_ok l'.2.1 v'.2.1 v'.2.2
  have z := l.2.1
  have m1 := irt_mono (m := (sumT r s).1 * 1073741824) (n := (sumT r' s').1 * 1073741824) (by omega) (by omega) (by omega)
  have m2 := irt_mono (m := (sumT r' s').2.1 * 1073741824) (n := (sumT r s).2.1 * 1073741824) (by omega) (by omega) (by omega)
  unfold lenT
  rw [q.1, q'.1]
  unfold Within
  dsimp only
  exact ⟨rfl, rfl, m1.1, q'.2.2.1, m2.2⟩
theorem bea_grow {r s r' s' : Int × Int × Int} (h : OneR r) (k : OneR s) (g : Within r' r) (j : Within s' s) :
    ∃ p q p' q' : Int, beaT r s = (p, q, 0) ∧ beaT r' s' = (p', q', 0) ∧ 0 ≤ p ∧ p < 21600000 ∧ 0 ≤ p' ∧ p' < 21600000 ∧ p ≤ q ∧ q ≤ p + 21600000 ∧ p' ≤ q' ∧ q' ≤ p' + 21600000 ∧
      ((p = 0 ∧ q = 21600000) ∨ (p' < p ∧ p ≤ p' + 21600000 ∧ q' + 21600000 ≤ q) ∨ (p ≤ p' ∧ q' ≤ q)) :=
  grow_plain h.val k.val g.2.2.1 g.2.2.2.2 j.2.2.1 j.2.2.2.2 g.2.2.2.1 j.2.2.2.1
theorem sol_grow {u v w u' v' w' : Int × Int} (hu : Ok2 u) (hv : Ok2 v) (hw : Ok2 w) (hu' : Ok2 u') (hv' : Ok2 v') (hw' : Ok2 w') (iu : In2 u' u) (iv : In2 v' v) (iw : In2 w' w)
    (ho : originB (sY u v w).1 (sY u v w).2.1 (sX u v w).1 (sX u v w).2.1 = false) :
    originB (sY u' v' w').1 (sY u' v' w').2.1 (sX u' v' w').1 (sX u' v' w').2.1 = false ∧ ((sB u v w).1 ≤ (sB u' v' w').1 ∧ (sB u' v' w').2.1 ≤ (sB u v w).2.1) ∧
      (21600000 ≤ (sZ u v w).2.1 - (sZ u v w).1 ∨ ((sZ u' v' w').1 - (sZ u v w).1) % 21600000 + (sZ u' v' w').2.1 - (sZ u' v' w').1 ≤ (sZ u v w).2.1 - (sZ u v w).1) := by
  obtain ⟨p, q, r, s⟩ := s_one hu hv hw
  obtain ⟨p', q', r', s'⟩ := s_one hu' hv' hw'
  have gP : Within (sP u' w') (sP u w) := mulT_grow (cos_one hu) (sin_one hw) (cos_grow hu iu.1 iu.2.1 iu.2.2) (sin_grow hw iw.1 iw.2.1 iw.2.2)
  have gQ : Within (sQ v' w') (sQ v w) := mulT_grow (cos_one hv) (cos_one hw) (cos_grow hv iv.1 iv.2.1 iv.2.2) (cos_grow hw iw.1 iw.2.1 iw.2.2)
  have gR : Within (sR u' w') (sR u w) := mulT_grow (sin_one hu) (sin_one hw) (sin_grow hu iu.1 iu.2.1 iu.2.2) (sin_grow hw iw.1 iw.2.1 iw.2.2)
  have gS : Within (sS v' w') (sS v w) := mulT_grow (sin_one hv) (cos_one hw) (sin_grow hv iv.1 iv.2.1 iv.2.2) (cos_grow hw iw.1 iw.2.1 iw.2.2)
  have gY : Within (sY u' v' w') (sY u v w) := len_grow r s r' s' gR gS
  have gX : Within (sX u' v' w') (sX u v w) := len_grow p q p' q' gP gQ
  have lY := len_ok r s
  have lX := len_ok p q
  have yv : validB (sY u v w).1 (sY u v w).2.1 = true := lY.2.2.2.2.2
  have xv : validB (sX u v w).1 (sX u v w).2.1 = true := lX.2.2.2.2.2
  have y0 : 0 ≤ (sY u v w).1 := lY.2.2.2.2.1
  have x0 : 0 ≤ (sX u v w).1 := lX.2.2.2.2.1
  have lY' := len_ok r' s'
  have lX' := len_ok p' q'
  have yv' : validB (sY u' v' w').1 (sY u' v' w').2.1 = true := lY'.2.2.2.2.2
  have xv' : validB (sX u' v' w').1 (sX u' v' w').2.1 = true := lX'.2.2.2.2.2
  have y0' : 0 ≤ (sY u' v' w').1 := lY'.2.2.2.2.1
  have x0' : 0 ≤ (sX u' v' w').1 := lX'.2.2.2.2.1
  have b1 := val_bd yv
  have b2 := val_bd xv
  have b3 := val_bd yv'
  have b4 := val_bd xv'
  have n : ¬ ((sX u v w).1 ≤ 0 ∧ 0 ≤ (sX u v w).2.1 ∧ (sY u v w).1 ≤ 0 ∧ 0 ≤ (sY u v w).2.1) := by
    simpa only [originB, decide_eq_false_iff_not] using ho
  have c1 := gY.2.2.1
  have c2 := gX.2.2.1
  have o' : originB (sY u' v' w').1 (sY u' v' w').2.1 (sX u' v' w').1 (sX u' v' w').2.1 = false := decide_eq_false (by omega)
  refine ⟨o', ?_, ?_⟩
  · have f := bear_first yv xv y0 x0 ho
    have f' := bear_first yv' xv' y0' x0' o'
    obtain ⟨i, j, k, l, e1, e2, _, _, _, _, _, _, _, _, hin⟩ := grow_plain yv xv gY.2.2.1 gY.2.2.2.2 gX.2.2.1 gX.2.2.2.2 gY.2.2.2.1 gX.2.2.2.1
    have h1 : sB u v w = (i, j, 0) := e1
    have h2 : sB u' v' w' = (k, l, 0) := e2
    rw [e1] at f
    rw [e2] at f'
    rw [h1, h2]
    dsimp only at f f' ⊢
    omega
  · obtain ⟨i, j, i', j', e1, e2, z1, z2, z3, z4, z5, z6, z7, z8, hin⟩ := bea_grow q p gQ gP
    obtain ⟨k, l, k', l', e3, e4, t1, t2, t3, t4, t5, t6, t7, t8, kin⟩ := bea_grow s r gS gR
    unfold sZ
    rw [e1, e2, e3, e4]
    unfold oppS fullB
    dsimp only
    by_cases c1 : 21600000 ≤ j - i
    · rw [decide_eq_true c1]
      simp
    · by_cases c2 : 21600000 ≤ l - k
      · rw [decide_eq_true c2]
        simp
      · have d1 : ¬ 21600000 ≤ j' - i' := by omega
        have d2 : ¬ 21600000 ≤ l' - k' := by omega
        rw [decide_eq_false c1, decide_eq_false c2, decide_eq_false d1, decide_eq_false d2]
        simp only [Bool.or_self, Bool.false_eq_true, if_false]
        unfold turnL turnH
        by_cases c3 : 21600000 ≤ -(i + k) - -(j + l)
        · rw [if_pos c3, if_pos c3]
          left
          omega
        · rw [if_neg c3, if_neg c3, if_neg (by omega), if_neg (by omega)]
          right
          obtain ⟨A, hA⟩ : ∃ A : Int, (i ≤ i' + 21600000 * A ∧ j' + 21600000 * A ≤ j) := by
            rcases hin with h | h | h
            · exact ⟨0, by omega⟩
            · exact ⟨1, by omega⟩
            · exact ⟨0, by omega⟩
          obtain ⟨C, hC⟩ : ∃ C : Int, (k ≤ k' + 21600000 * C ∧ l' + 21600000 * C ≤ l) := by
            rcases kin with h | h | h
            · exact ⟨0, by omega⟩
            · exact ⟨1, by omega⟩
            · exact ⟨0, by omega⟩
          omega
/-- A single triangle in a triangle. -/
theorem hpart_ok {a b c d e f x y t : Int} (h : triB a b c d e f = true) (hx : a ≤ x ∧ x ≤ b) (hy : c ≤ y ∧ y ≤ d) (ht : e ≤ t ∧ t ≤ f)
    (ho : originB (hfY a b c d e f).1 (hfY a b c d e f).2.1 (hfX a b c d e f).1 (hfX a b c d e f).2.1 = false) :
    triB x x y y t t = true ∧ originB (hfY x x y y t t).1 (hfY x x y y t t).2.1 (hfX x x y y t t).1 (hfX x x y y t t).2.1 = false ∧
      ((hfH a b c d e f).1 ≤ (hfH x x y y t t).1 ∧ (hfH x x y y t t).2.1 ≤ (hfH a b c d e f).2.1) ∧
      (21600000 ≤ (hfZ a b c d e f).2.1 - (hfZ a b c d e f).1 ∨ ((hfZ x x y y t t).1 - (hfZ a b c d e f).1) % 21600000 + (hfZ x x y y t t).2.1 - (hfZ x x y y t t).1 ≤ (hfZ a b c d e f).2.1 - (hfZ a b c d e f).1) := by
  obtain ⟨h1, h2, h3⟩ := tri_bd h
  have l1 := lat_bd h1
  have l2 := lat_bd h2
  have l3 := aval_bd h3
  have h' : triB x x y y t t = true := tri_mk (lat_mk (by omega) (by omega) (by omega)) (lat_mk (by omega) (by omega) (by omega)) (avalid_mk (by omega) (by omega) (by omega))
  obtain ⟨ku, kv, kw⟩ := ang_bd h
  obtain ⟨ku', kv', kw'⟩ := ang_bd h'
  have iu : In2 (fU x x y y) (fU a b c d) := by
    unfold In2 fU
    dsimp only
    omega
  have iv : In2 (fV x x y y) (fV a b c d) := by
    unfold In2 fV
    dsimp only
    omega
  -- the half hour angle: inside, or inside with half a turn more
  have iw : In2 (fW t t) (fW e f) ∨ (In2 ((fW t t).1 + 10800000, (fW t t).2 + 10800000) (fW e f) ∧ Ok2 ((fW t t).1 + 10800000, (fW t t).2 + 10800000)) := by
    have m0 := Int.emod_nonneg t (show (21600000 : Int) ≠ 0 by omega)
    have m1 := Int.emod_lt_of_pos t (show (0 : Int) < 21600000 by omega)
    have m2 := Int.emod_nonneg e (show (21600000 : Int) ≠ 0 by omega)
    have m3 := Int.emod_lt_of_pos e (show (0 : Int) < 21600000 by omega)
    unfold In2 Ok2 fW turnL turnH
    rw [if_neg (show ¬ 21600000 ≤ t - t by omega), if_neg (show ¬ 21600000 ≤ t - t by omega)]
    by_cases c1 : 21600000 ≤ f - e
    · rw [if_pos c1, if_pos c1]
      left
      dsimp only
      omega
    · rw [if_neg c1, if_neg c1]
      dsimp only
      by_cases c2 : e % 21600000 + (t - e) < 21600000
      · left
        omega
      · right
        exact ⟨by omega, avalid_mk (by omega) (by omega) (by omega)⟩
  have G : ∃ w' : Int × Int, Ok2 w' ∧ In2 w' (fW e f) ∧ sY (fU x x y y) (fV x x y y) w' = hfY x x y y t t ∧ sX (fU x x y y) (fV x x y y) w' = hfX x x y y t t ∧ sZ (fU x x y y) (fV x x y y) w' = hfZ x x y y t t := by
    rcases iw with i | ⟨i, o⟩
    · exact ⟨_, kw', i, rfl, rfl, rfl⟩
    · have s := s_half (u := fU x x y y) (v := fV x x y y) (w := fW t t) ku' kv' kw' o
      exact ⟨_, o, i, s.1, s.2.1, s.2.2⟩
  obtain ⟨w', o, i, g1, g2, g3⟩ := G
  have R := sol_grow (u := fU a b c d) (v := fV a b c d) (w := fW e f) ku kv kw ku' kv' o iu iv i ho
  have eB : sB (fU x x y y) (fV x x y y) w' = hfB x x y y t t := by
    unfold sB
    rw [g1, g2]
    rfl
  have eZ : sZ (fU a b c d) (fV a b c d) (fW e f) = hfZ a b c d e f := rfl
  have eB2 : sB (fU a b c d) (fV a b c d) (fW e f) = hfB a b c d e f := rfl
  rw [g1, g2, g3, eB, eB2, eZ] at R
  refine ⟨h', R.1, ?_, R.2.2⟩
  have q := R.2.1
  unfold hfH
  dsimp only
  omega
end Go.Proofs.YtipjnfabodfkcaaDoor

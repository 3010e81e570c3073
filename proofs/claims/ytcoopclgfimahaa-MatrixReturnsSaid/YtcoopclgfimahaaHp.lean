/-
  Rotated vectors: a part has its solution inside. No program here.
-/
import Derived.Test.YtcoopclgfimahaaHk
namespace Go.Proofs.Ytcoopclgfimahaa
open SM TB TA
theorem nr_grow {a b c d : Int} (h1 : c ≤ a) (h2 : a ≤ b) (h3 : b ≤ d) : nrA c d ≤ nrA a b ∧ frA a b ≤ frA c d := by
  unfold nrA frA
  constructor
  · repeat' split
    all_goals omega
  · repeat' split
    all_goals omega
theorem root_mono {m n : Int} (h0 : 0 ≤ m) (h : m ≤ n) (h1 : n < 18446744073709551616) : rootR m ≤ rootR n := by
  have a := rt_ok h0 (by omega)
  have b := rt_ok (n := n) (by omega) h1
  rcases Int.lt_or_le (rootR n) (rootR m) with c | c
  · exfalso
    have := sq_int (x := rootR n + 1) (m := rootR m) (by omega) (by omega)
    omega
  · exact c
theorem upr_mono {m n : Int} (h0 : 0 ≤ m) (h : m ≤ n) (h1 : n < 18446744073709551616) : upr m ≤ upr n := by
  have r := root_mono h0 h h1
  have a := rt_ok h0 (by omega)
  have b := upr_ok (n := n) (by omega) h1
  have c := upr_ok h0 (by omega)
  rcases Int.lt_or_le (upr n) (upr m) with k | k
  · exfalso
    -- then the root of m is that of n, and m is above its square, n is not
    have e : upr n = rootR n ∧ upr m = rootR m + 1 ∧ rootR m = rootR n := by omega
    unfold upr at e
    by_cases c1 : rootR m * rootR m < m
    · have e1 := e.1
      split at e1
      · omega
      · rename_i c2
        rw [e.2.2] at c1
        omega
    · rw [if_neg c1] at e
      omega
  · exact k
theorem hyp_grow {a b c d a' b' c' d' : Int} (h1 : -2147483648 ≤ a) (h3 : b ≤ 2147483648) (h4 : -1073741824 ≤ c) (h6 : d ≤ 1073741824) (i1 : a ≤ a') (i2 : a' ≤ b') (i3 : b' ≤ b) (i4 : c ≤ c') (i5 : c' ≤ d') (i6 : d' ≤ d) :
    (hypM a b c d).1 ≤ (hypM a' b' c' d').1 ∧ (hypM a' b' c' d').2 ≤ (hypM a b c d).2 := by
  have n1 := nr_bd (a := a) (b := b) (by omega)
  have n2 := nr_bd (a := c) (b := d) (by omega)
  have n1' := nr_bd i2
  have n2' := nr_bd i5
  have g1 := nr_grow i1 i2 i3
  have g2 := nr_grow i4 i5 i6
  have s1 := sq_int (x := nrA a b) (m := nrA a' b') n1.1 g1.1
  have s2 := sq_int (x := nrA c d) (m := nrA c' d') n2.1 g2.1
  have s3 := sq_int (x := frA a' b') (m := frA a b) (by omega) g1.2
  have s4 := sq_int (x := frA c' d') (m := frA c d) (by omega) g2.2
  have t1 := sq_int (x := nrA a' b') (m := 2147483648) n1'.1 (by omega)
  have t2 := sq_int (x := nrA c' d') (m := 1073741824) n2'.1 (by omega)
  have t3 := sq_int (x := frA a b) (m := 2147483648) (by omega) (by omega)
  have t4 := sq_int (x := frA c d) (m := 1073741824) (by omega) (by omega)
  rw [hyp_eq h1 (by omega) h3 h4 (by omega) h6, hyp_eq (a := a') (b := b') (c := c') (d := d') (by omega) i2 (by omega) (by omega) i5 (by omega)]
  dsimp only
  have r := root_mono (m := nrA a b * nrA a b + nrA c d * nrA c d) (n := nrA a' b' * nrA a' b' + nrA c' d' * nrA c' d') (by omega) (by omega) (by omega)
  have u := upr_mono (m := frA a' b' * frA a' b' + frA c' d' * frA c' d') (n := frA a b * frA a b + frA c d * frA c d) (by omega) (by omega) (by omega)
  omega
theorem nb_grow {p q r s : Int × Int × Int} (hr : DirR r) (hp : DirR p) (h1 : (p.1 ≤ 5400000 ∧ p.2.1 ≤ 5400000) ∨ (16200000 ≤ p.1 ∧ p.2.1 ≤ 27000000)) (_h : q = p ∧ s = r)
    (hin : (p.1 = 0 ∧ p.2.1 = 21600000) ∨ (r.1 < p.1 ∧ p.1 ≤ r.1 + 21600000 ∧ r.2.1 + 21600000 ≤ p.2.1) ∨ (p.1 ≤ r.1 ∧ r.2.1 ≤ p.2.1)) : (nbR p).1 ≤ (nbR r).1 ∧ (nbR r).2 ≤ (nbR p).2 := by
  obtain ⟨d1, d2, d3, d4, d5⟩ := hr
  obtain ⟨f1, f2, f3, f4, f5⟩ := hp
  unfold nbR
  split
  · split
    · dsimp only; omega
    · dsimp only; omega
  · split
    · dsimp only; omega
    · dsimp only; omega
theorem mpart_ok {a b c d e f a' b' c' d' e' f' : Int} (h : triB a b c d e f = true) (ha : a ≤ a' ∧ a' ≤ b' ∧ b' ≤ b) (hc : c ≤ c' ∧ c' ≤ d' ∧ d' ≤ d) (he : e ≤ e' ∧ e' ≤ f' ∧ f' ≤ f) :
    triB a' b' c' d' e' f' = true ∧ (maltE a b c d e f).1 ≤ (maltE a' b' c' d' e' f').1 ∧ (maltE a' b' c' d' e' f').2.1 ≤ (maltE a b c d e f).2.1 ∧
      (((maziE a b c d e f).1 = 0 ∧ (maziE a b c d e f).2.1 = 21600000) ∨ ((maziE a b c d e f).1 ≤ (maziE a' b' c' d' e' f').1 + 21600000 ∧ (maziE a' b' c' d' e' f').2.1 + 21600000 ≤ (maziE a b c d e f).2.1) ∨ ((maziE a b c d e f).1 ≤ (maziE a' b' c' d' e' f').1 ∧ (maziE a' b' c' d' e' f').2.1 ≤ (maziE a b c d e f).2.1)) := by
  obtain ⟨h1, h2, h3⟩ := tri_bd h
  have l1 := lat_bd h1
  have l2 := lat_bd h2
  have l3 := aval_bd h3
  have h' : triB a' b' c' d' e' f' = true := tri_mk (lat_mk (by omega) (by omega) (by omega)) (lat_mk (by omega) (by omega) (by omega)) (avalid_mk (by omega) (by omega) (by omega))
  obtain ⟨h1', h2', h3'⟩ := tri_bd h'
  have l1' := (lat_bd h1').1
  have l2' := (lat_bd h2').1
  obtain ⟨x0, y0, t0⟩ := tri_point h
  obtain ⟨x0', y0', t0'⟩ := tri_point h'
  obtain ⟨hh, zz, s⟩ := sees (a : Rat) (c : Rat) (e : Rat)
  obtain ⟨hh', zz', s'⟩ := sees (a' : Rat) (c' : Rat) (e' : Rat)
  obtain ⟨v1, v2, v3, v4⟩ := mup_v h x0 y0 t0
  obtain ⟨v1', v2', v3', v4'⟩ := mup_v h' x0' y0' t0'
  obtain ⟨L, hu, hn⟩ := malt_v h x0 y0 t0 s
  obtain ⟨L', hu', hn'⟩ := malt_v h' x0' y0' t0' s'
  have K := hy_v h x0 y0 t0 s
  have K' := hy_v h' x0' y0' t0' s'
  -- growing
  have gc1 := cos_grow l1.1 ha.1 ha.2.1 ha.2.2
  have gs1 := sin_grow l1.1 ha.1 ha.2.1 ha.2.2
  have gc2 := cos_grow l2.1 hc.1 hc.2.1 hc.2.2
  have gs2 := sin_grow l2.1 hc.1 hc.2.1 hc.2.2
  have gs3 := sin_grow h3 he.1 he.2.1 he.2.2
  have gc3 := cos_grow h3 he.1 he.2.1 he.2.2
  have xo : OneR (xE c d e f) := mul_ones (cos_one l2.1) (cos_one h3)
  have xo' : OneR (xE c' d' e' f') := mul_ones (cos_one l2') (cos_one h3')
  have wo : OneR (wE c d e f) := mul_ones (cos_one l2.1) (sin_one h3)
  have wo' : OneR (wE c' d' e' f') := mul_ones (cos_one l2') (sin_one h3')
  have gx : Within (xE c' d' e' f') (xE c d e f) := mul_grow xo.2.2.2 gc2.2.2.1 gc2.2.2.2.1 gc2.2.2.2.2 gc3.2.2.1 gc3.2.2.2.1 gc3.2.2.2.2
  have gw : Within (wE c' d' e' f') (wE c d e f) := mul_grow wo.2.2.2 gc2.2.2.1 gc2.2.2.2.1 gc2.2.2.2.2 gs3.2.2.1 gs3.2.2.2.1 gs3.2.2.2.2
  have m1 := mul_ones xo (cos_one l1.1)
  have m2 := mul_ones (sin_one l2.1) (sin_one l1.1)
  have m3 := mul_ones (sin_one l2.1) (cos_one l1.1)
  have m4 := mul_ones xo (sin_one l1.1)
  have g1 := mul_grow m1.2.2.2 gx.2.2.1 gx.2.2.2.1 gx.2.2.2.2 gc1.2.2.1 gc1.2.2.2.1 gc1.2.2.2.2
  have g2 := mul_grow m2.2.2.2 gs2.2.2.1 gs2.2.2.2.1 gs2.2.2.2.2 gs1.2.2.1 gs1.2.2.2.1 gs1.2.2.2.2
  have g3 := mul_grow m3.2.2.2 gs2.2.2.1 gs2.2.2.2.1 gs2.2.2.2.2 gc1.2.2.1 gc1.2.2.2.1 gc1.2.2.2.2
  have g4 := mul_grow m4.2.2.2 gx.2.2.1 gx.2.2.2.1 gx.2.2.2.2 gs1.2.2.1 gs1.2.2.2.1 gs1.2.2.2.2
  have gu : Within (mupE a' b' c' d' e' f') (mupE a b c d e f) := add_grow v1.1 g1.2.2.1 g1.2.2.2.1 g1.2.2.2.2 g2.2.2.1 g2.2.2.2.1 g2.2.2.2.2
  have gn : Within (mnoE a' b' c' d' e' f') (mnoE a b c d e f) := sub_grow v2.1 g3.2.2.1 g3.2.2.2.1 g3.2.2.2.2 g4.2.2.1 g4.2.2.2.1 g4.2.2.2.2
  have nv := val_bd v2.2.1
  have uv := val_bd v1.2.1
  have gk := hyp_grow nv.1 nv.2.2 wo.1 wo.2.2.1 gn.2.2.1 gn.2.2.2.1 gn.2.2.2.2 gw.2.2.1 gw.2.2.2.1 gw.2.2.2.2
  have gk' : (hyE a b c d e f).1 ≤ (hyE a' b' c' d' e' f').1 ∧ (hyE a' b' c' d' e' f').2 ≤ (hyE a b c d e f).2 := gk
  have ga := asin_grow v1.2.1 L'.2.2.2 gu.2.2.1 gu.2.2.2.2
  -- the altitude
  have alt : (maltE a b c d e f).1 ≤ (maltE a' b' c' d' e' f').1 ∧ (maltE a' b' c' d' e' f').2.1 ≤ (maltE a b c d e f).2.1 := by
    have lo' : (asinR (mupE a' b' c' d' e' f').1 (mupE a' b' c' d' e' f').2.1).1 ≤ (maltE a' b' c' d' e' f').1 ∧ (maltE a' b' c' d' e' f').2.1 ≤ (asinR (mupE a' b' c' d' e' f').1 (mupE a' b' c' d' e' f').2.1).2.1 := by
      unfold maltE alT
      split
      · exact ⟨Int.le_refl _, Int.le_refl _⟩
      · have x := mx_mn (nbR (bearR (mupE a' b' c' d' e' f').1 (mupE a' b' c' d' e' f').2.1 (hyE a' b' c' d' e' f').1 (hyE a' b' c' d' e' f').2)).1 (asinR (mupE a' b' c' d' e' f').1 (mupE a' b' c' d' e' f').2.1).1 (nbR (bearR (mupE a' b' c' d' e' f').1 (mupE a' b' c' d' e' f').2.1 (hyE a' b' c' d' e' f').1 (hyE a' b' c' d' e' f').2)).2 (asinR (mupE a' b' c' d' e' f').1 (mupE a' b' c' d' e' f').2.1).2.1
        exact ⟨x.2.1, x.2.2.2.2.1⟩
    have g1 := ga.2.2.1
    have g2 := ga.2.2.2.2
    cases ho : originB (mupE a b c d e f).1 (mupE a b c d e f).2.1 (hyE a b c d e f).1 (hyE a b c d e f).2 with
    | true =>
      have e1 : maltE a b c d e f = ((asinR (mupE a b c d e f).1 (mupE a b c d e f).2.1).1, (asinR (mupE a b c d e f).1 (mupE a b c d e f).2.1).2.1, 0) := by
        unfold maltE alT
        rw [ho]
        rfl
      rw [e1]
      dsimp only
      omega
    | false =>
      have ho0 : ¬ ((hyE a b c d e f).1 ≤ 0 ∧ 0 ≤ (hyE a b c d e f).2 ∧ (mupE a b c d e f).1 ≤ 0 ∧ 0 ≤ (mupE a b c d e f).2.1) := by
        simpa only [originB, decide_eq_false_iff_not] using ho
      have u1 := gu.2.2.1
      have u2 := gu.2.2.2.1
      have u3 := gu.2.2.2.2
      have k1 := K'.2.1
      have ho' : originB (mupE a' b' c' d' e' f').1 (mupE a' b' c' d' e' f').2.1 (hyE a' b' c' d' e' f').1 (hyE a' b' c' d' e' f').2 = false := decide_eq_false (by omega)
      have kv : validB (hyE a b c d e f).1 (hyE a b c d e f).2 = true := val_mk (by have := K.1; omega) K.2.1 (by have := K.2.2.1; omega)
      have kv' : validB (hyE a' b' c' d' e' f').1 (hyE a' b' c' d' e' f').2 = true := val_mk (by have := K'.1; omega) K'.2.1 (by have := K'.2.2.1; omega)
      have B := bear_right v1.2.1 kv K.1 ho
      have D := bea_dir v1.2.1 kv
      have D' := bea_dir v1'.2.1 kv'
      obtain ⟨p, q, r, s, e1, e2, b1, b2, b3, b4, b5, b6, b7, b8, hin⟩ := grow_plain v1.2.1 kv u1 u3 gk'.1 gk'.2 u2 k1
      have nb := nb_grow (p := bearR (mupE a b c d e f).1 (mupE a b c d e f).2.1 (hyE a b c d e f).1 (hyE a b c d e f).2) (r := bearR (mupE a' b' c' d' e' f').1 (mupE a' b' c' d' e' f').2.1 (hyE a' b' c' d' e' f').1 (hyE a' b' c' d' e' f').2) D' D B ⟨rfl, rfl⟩ (by rw [e1, e2]; exact hin)
      unfold maltE alT
      rw [ho, ho']
      simp only [Bool.false_eq_true, if_false]
      have x := mx_mn (nbR (bearR (mupE a b c d e f).1 (mupE a b c d e f).2.1 (hyE a b c d e f).1 (hyE a b c d e f).2)).1 (asinR (mupE a b c d e f).1 (mupE a b c d e f).2.1).1 (nbR (bearR (mupE a b c d e f).1 (mupE a b c d e f).2.1 (hyE a b c d e f).1 (hyE a b c d e f).2)).2 (asinR (mupE a b c d e f).1 (mupE a b c d e f).2.1).2.1
      have x' := mx_mn (nbR (bearR (mupE a' b' c' d' e' f').1 (mupE a' b' c' d' e' f').2.1 (hyE a' b' c' d' e' f').1 (hyE a' b' c' d' e' f').2)).1 (asinR (mupE a' b' c' d' e' f').1 (mupE a' b' c' d' e' f').2.1).1 (nbR (bearR (mupE a' b' c' d' e' f').1 (mupE a' b' c' d' e' f').2.1 (hyE a' b' c' d' e' f').1 (hyE a' b' c' d' e' f').2)).2 (asinR (mupE a' b' c' d' e' f').1 (mupE a' b' c' d' e' f').2.1).2.1
      omega
  refine ⟨h', alt.1, alt.2, ?_⟩
  have n1 := (neg_one wo).1
  have n2 := (neg_one wo').1
  have ge : (meaE c d e f).1 ≤ (meaE c' d' e' f').1 ∧ (meaE c' d' e' f').2.1 ≤ (meaE c d e f).2.1 ∧ (meaE c' d' e' f').1 ≤ (meaE c' d' e' f').2.1 := by
    unfold meaE
    rw [n1, n2]
    dsimp only
    have q1 := gw.2.2.1
    have q2 := gw.2.2.2.1
    have q3 := gw.2.2.2.2
    omega
  obtain ⟨p, q, r, s, e1, e2, b1, b2, b3, b4, b5, b6, b7, b8, hin⟩ := grow_plain v4.2.1 v2.2.1 ge.1 ge.2.1 gn.2.2.1 gn.2.2.2.2 ge.2.2 gn.2.2.2.1
  have f1 : maziE a b c d e f = (p, q, 0) := e1
  have f2 : maziE a' b' c' d' e' f' = (r, s, 0) := e2
  rw [f1, f2]
  dsimp only
  rcases hin with i | ⟨i1, i2, i3⟩ | i
  · exact .inl i
  · exact .inr (.inl ⟨i2, i3⟩)
  · exact .inr (.inr i)
end Go.Proofs.Ytcoopclgfimahaa

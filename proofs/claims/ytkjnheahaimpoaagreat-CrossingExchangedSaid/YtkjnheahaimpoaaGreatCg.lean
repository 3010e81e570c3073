/-
  Two circles through a point: one of the crossings holds the point. No program here.
-/
import Derived.Test.YtkjnheahaimpoaaGreatCf
import Derived.Test.YtkjnheahaimpoaaGreatXa
namespace Go.Proofs.YtkjnheahaimpoaaGreat
open SM TB TA
theorem lvG : 100000 * (1000 * e1 + 1073741824 * (10 * e0) + 4 * e1) ≤ pw 592 * pw 592 ∧ 0 < pw 592 ∧ 1000 * e1 + 1073741824 * (10 * e0) ≤ 1 / 4 ∧ pw 592 ≤ pw 590 ∧ pw 590 ≤ pw 160 ∧ dS + pw 170 ≤ pw 160 ∧ 200 * eT ≤ pw 430 ∧ 100 * e0 ≤ eT ∧ 0 < eT ∧ pw 64 ≤ 1 / 8 ∧ 0 < pw 64 ∧ 0 < pw 590 ∧ 0 < pw 170 ∧ 0 < dS := by decide +kernel
theorem alt_near {a b c d e f : Int} {x y t h : Rat} (ht : triB a b c d e f = true) (hx : Hs 0 a b x) (hy : Hs 0 c d y) (hz : Hs 0 e f t) (h0 : -5400000 ≤ h) (h1 : h ≤ 5400000) (k : Cl (10 * e0) (si h) (upT x y t)) :
    LatR (asinR (cupE a b c d e f).1 (cupE a b c d e f).2.1) ∧ Hs (pw 590) (asinR (cupE a b c d e f).1 (cupE a b c d e f).2.1).1 (asinR (cupE a b c d e f).1 (cupE a b c d e f).2.1).2.1 h := by
  obtain ⟨w1, w2, w3, w4, _⟩ := lvG
  have eb := e0_bd
  have e1b := e1_bd
  have k' := asin_v (cup_v ht hx hy hz).1 k h0 h1 (by grind) (by grind) (by grind) w3 w1
  exact ⟨k'.1, k'.2.wide w4 (Int.le_refl _) (Int.le_refl _)⟩
theorem up_sym (x y t : Rat) : Cl e0 (upT x y (-t)) (upT y x t) := by
  have n := (negq t).1
  have ub := u0_bd
  have ee : e0 = 1048576 * u0 := rfl
  have bx := bdq2 x
  have by' := bdq2 y
  have m := mul_abs bx.1.1 bx.1.2 by'.1.1 by'.1.2
  have d := mul_abs (a := co x * co y) (b := co (-t) - co t) (A := 4) (B := 1200 * u0) (by grind) (by grind) (by unfold Cl at n; grind) (by unfold Cl at n; grind)
  unfold upT
  have i : si x * si y + co x * co y * co (-t) = si y * si x + co y * co x * co t + co x * co y * (co (-t) - co t) := by grind
  rw [i]
  generalize co x * co y * (co (-t) - co t) = x1 at *
  clear i
  unfold Cl
  constructor <;> grind
theorem fold_any (w : Rat) : ∃ (X : Rat) (m : Int), 0 ≤ X ∧ X ≤ 10800000 ∧ Cl (3000 * u0) (co X) (co w) ∧ (X = w + 21600000 * (m : Rat) ∨ -X = w + 21600000 * (m : Rat)) := by
  have b := rdq_bd w
  have ub := u0_bd
  have e : rdq w = w + 21600000 * ((-(tm w) : Int) : Rat) := by
    unfold rdq
    rw [Rat.intCast_neg]
    grind
  have c := (turn_eq w (-(tm w))).1
  rw [← e] at c
  rcases (Rat.le_total : 0 ≤ rdq w ∨ rdq w ≤ 0) with g | g
  · exact ⟨rdq w, -(tm w), g, by grind, by rw [c]; exact Cl.refl _ (by grind), .inl e⟩
  · have n := (negq (rdq w)).1
    rw [c] at n
    exact ⟨-rdq w, -(tm w), by grind, by grind, n.wide (by grind), .inr (by rw [← e]; grind)⟩
/-- The triangle of the two centres and the point. -/
theorem tri_three {h1 h2 h3 z1 z2 X R : Rat} (k : Cl (100 * eT) (si h1 * si h2 + co h1 * co h2 * co (z1 - z2)) R) (k3 : Cl (10 * e0) (si h3) R) (hX : Cl (3000 * u0) (co X) (co (z2 - z1))) : Tri (pw 430) (5400000 - h3) (5400000 - h2) (5400000 - h1) X := by
  obtain ⟨w1, w2, w3, w4, w5, w6, w7, w8, w9, _⟩ := lvG
  have c1 := coq h1
  have c2 := coq h2
  have c3 := (coq h3).2
  have n := (negq (z1 - z2)).1
  rw [show -(z1 - z2) = z2 - z1 by grind] at n
  have ub := u0_bd
  have ee : e0 = 1048576 * u0 := rfl
  have eb := e0_bd
  have b1 := bdq2 h1
  have b2 := bdq2 h2
  have b1' := bdq2 (5400000 - h1)
  have bX := bdq2 X
  have m1 := Cl.mul 2 2 c2.2 c1.2 b1'.1 b2.2
  have m2 := Cl.mul 2 2 c2.1 c1.1 b1'.2 b2.1
  have q := mul_abs b2.1.1 b2.1.2 b1.1.1 b1.1.2
  have m3 := Cl.mul 2 4 m2 (hX.trans n) bX.1 (by grind)
  unfold Tri
  rw [show co h2 * co h1 * co (z1 - z2) = co h1 * co h2 * co (z1 - z2) by grind] at m3
  rw [show si h2 * si h1 = si h1 * si h2 by grind] at m1
  generalize co (5400000 - h2) * co (5400000 - h1) = x1 at *
  generalize si (5400000 - h2) * si (5400000 - h1) * co X = x2 at *
  generalize si h1 * si h2 = x3 at *
  generalize co h1 * co h2 * co (z1 - z2) = x4 at *
  clear c1 c2 m2 n hX q
  unfold Cl at *
  constructor <;> grind
/-- What a crossing answers: the altitude between the centres, the bearing, the opening. -/
noncomputable def cwH (c d t : Int) : Int × Int × Int := asinR (cupE c c d d t t).1 (cupE c c d d t t).2.1
def cwZ (c d t : Int) : Int × Int × Int := bearR (ceaE d d t t).1 (ceaE d d t t).2.1 (cnoE c c d d t t).1 (cnoE c c d d t t).2.1
noncomputable def cwO (c d t p q p' q' : Int) : Int × Int × Int := angZ (angT p' q' p q (5400000 - (cwH c d t).2.1) (5400000 - (cwH c d t).1)) (angL p q (5400000 - (cwH c d t).2.1) (5400000 - (cwH c d t).1))
/-- A point is in the place at a bearing. -/
def Inn (c p q u v y t : Int) : Prop := (asinR (atU c c p q u v).1 (atU c c p q u v).2.1).1 ≤ y ∧ y ≤ (asinR (atU c c p q u v).1 (atU c c p q u v).2.1).2.1 ∧ ∃ k : Int, (bearR (atE p q u v).1 (atE p q u v).2.1 (atN c c p q u v).1 (atN c c p q u v).2.1).1 ≤ t + 21600000 * k ∧ t + 21600000 * k ≤ (bearR (atE p q u v).1 (atE p q u v).2.1 (atN c c p q u v).1 (atN c c p q u v).2.1).2.1
theorem hs_lat {p q : Int} {r : Int × Int × Int} {h : Rat} (hp : p ≤ 5400000 - r.2.1) (hq : 5400000 - r.1 ≤ q) (k : Hs (pw 590) r.1 r.2.1 h) : Hs (pw 590) p q (5400000 - h) := by
  have a := le_c hp
  have b := le_c hq
  rw [Rat.intCast_sub, show ((5400000 : Int) : Rat) = 5400000 by rfl] at a b
  unfold Hs at *
  constructor <;> grind
theorem cross_hold {c d y t1 t2 t3 p q p' q' : Int} (hc : latB c c = true) (hd : latB d d = true) (hy : latB y y = true) (ht : t1 + t2 = t3) (b1 : -100000000 ≤ t1 ∧ t1 ≤ 100000000) (b2 : -100000000 ≤ t2 ∧ t2 ≤ 100000000)
    (hp : 0 ≤ p ∧ p ≤ q ∧ q ≤ 10800000) (hp' : 0 ≤ p' ∧ p' ≤ q' ∧ q' ≤ 10800000) (r1 : p ≤ 5400000 - (cwH y c t2).2.1) (r2 : 5400000 - (cwH y c t2).1 ≤ q) (r3 : p' ≤ 5400000 - (cwH y d t3).2.1) (r4 : 5400000 - (cwH y d t3).1 ≤ q') :
    (cwO c d t1 p q p' q').2.2 = 21 ∨ (cwO c d t1 p q p' q').2.2 = 24 ∨ ((cwO c d t1 p q p' q').2.2 = 0 ∧ 0 ≤ (cwO c d t1 p q p' q').1 ∧ (cwO c d t1 p q p' q').1 ≤ (cwO c d t1 p q p' q').2.1 ∧ (cwO c d t1 p q p' q').2.1 ≤ 10800000 ∧
      (Inn c p q ((cwZ c d t1).1 - (cwO c d t1 p q p' q').2.1) ((cwZ c d t1).2.1 - (cwO c d t1 p q p' q').1) y t2 ∨ Inn c p q ((cwZ c d t1).1 + (cwO c d t1 p q p' q').1) ((cwZ c d t1).2.1 + (cwO c d t1 p q p' q').2.1) y t2)) := by
  obtain ⟨w1, w2, w3, w4, w5, w6, w7, w8, w9, w10, w11, w12, w13, w14⟩ := lvG
  have eb := e0_bd
  have vt1 : avalidB t1 t1 = true := avalid_mk (by omega) (Int.le_refl _) (by omega)
  have vt2 : avalidB t2 t2 = true := avalid_mk (by omega) (Int.le_refl _) (by omega)
  have vt3 : avalidB t3 t3 = true := avalid_mk (by omega) (Int.le_refl _) (by omega)
  have self : ∀ n : Int, Hs 0 n n (n : Rat) := fun n => Hs.at (Int.le_refl n) (Int.le_refl n)
  have lc := lat_bd hc
  have ld := lat_bd hd
  have ly := lat_bd hy
  obtain ⟨h1, z1, s1⟩ := sees (c : Rat) (d : Rat) (t1 : Rat)
  obtain ⟨h2, z2, s2⟩ := sees (c : Rat) (y : Rat) (-(t2 : Rat))
  obtain ⟨h3, z3, s3⟩ := sees (y : Rat) (d : Rat) (t3 : Rat)
  have T := two_sees s1 s2
  have k3 : Cl (10 * e0) (si h3) (si (d : Rat) * si (y : Rat) + co (d : Rat) * co (y : Rat) * co ((t1 : Rat) - -(t2 : Rat))) := by
    have e : (t1 : Rat) - -(t2 : Rat) = (t3 : Rat) := by
      rw [← ht, Rat.intCast_add]
      grind
    have k := s3.2.2.2.2.1
    rw [e]
    unfold upT at k
    rw [show si (d : Rat) * si (y : Rat) + co (d : Rat) * co (y : Rat) * co (t3 : Rat) = si (y : Rat) * si (d : Rat) + co (y : Rat) * co (d : Rat) * co (t3 : Rat) by grind]
    exact k.wide (by grind)
  obtain ⟨X, m, X0, X1, Xc, Xe⟩ := fold_any (z2 - z1)
  have TR := tri_three T k3 Xc
  -- the sides
  have A1 := alt_near (tri_mk hc hd vt1) (self c) (self d) (self t1) s1.1 s1.2.1 (s1.2.2.2.2.1.wide (by grind))
  have A2 := alt_near (tri_mk hy hc vt2) (self y) (self c) (self t2) s2.1 s2.2.1 (((s2.2.2.2.2.1).trans (up_sym _ _ _)).wide (by grind))
  have A3 := alt_near (tri_mk hy hd vt3) (self y) (self d) (self t3) s3.1 s3.2.1 (s3.2.2.2.2.1.wide (by grind))
  have kA := hs_lat r3 r4 A3.2
  have kB := hs_lat r1 r2 A2.2
  have kC := hs_lat (Int.le_refl (5400000 - (cwH c d t1).2.1)) (Int.le_refl (5400000 - (cwH c d t1).1)) A1.2
  have L1 : LatR (cwH c d t1) := A1.1
  have hC : 0 ≤ 5400000 - (cwH c d t1).2.1 ∧ 5400000 - (cwH c d t1).2.1 ≤ 5400000 - (cwH c d t1).1 ∧ 5400000 - (cwH c d t1).1 ≤ 10800000 := by
    obtain ⟨g1, g2, g3, _⟩ := L1
    omega
  have V := ang_v3 hp' hp hC kA kB kC ⟨by have := s2.2.1; grind, by have := s2.1; grind⟩ ⟨by have := s1.2.1; grind, by have := s1.1; grind⟩ X0 X1 TR
  have eO : angZ (angT p' q' p q (5400000 - (cwH c d t1).2.1) (5400000 - (cwH c d t1).1)) (angL p q (5400000 - (cwH c d t1).2.1) (5400000 - (cwH c d t1).1)) = cwO c d t1 p q p' q' := rfl
  rw [eO] at V
  rcases V with V | V | V
  · exact .inl V
  · exact .inr (.inl V)
  obtain ⟨v1, v2, v3, v4, v5, _⟩ := V
  refine .inr (.inr ⟨v1, v3, v4, v5, ?_⟩)
  have cv := cup_v (tri_mk hc hd vt1) (self c) (self d) (self t1)
  have Z := az_v cv.2.2 cv.2.1 s1
  have eZ : bearR (ceaE d d t1 t1).1 (ceaE d d t1 t1).2.1 (cnoE c c d d t1 t1).1 (cnoE c c d d t1 t1).2.1 = cwZ c d t1 := rfl
  rw [eZ] at Z
  obtain ⟨ZD, k, ZH⟩ := Z
  obtain ⟨d1, d2, d3, d4, _⟩ := ZD
  have vp : avalidB p q = true := avalid_mk (by omega) hp.2.1 (by omega)
  have Y0 := le_c ly.2.1
  have Y1 := le_c ly.2.2.2
  rw [show ((-5400000 : Int) : Rat) = -5400000 by rfl] at Y0
  rw [show ((5400000 : Int) : Rat) = 5400000 by rfl] at Y1
  have kR : Hs (pw 160) p q (5400000 - h2) := kB.wide w5 (Int.le_refl _) (Int.le_refl _)
  have fin : ∀ u v : Int, avalidB u v = true → (∃ j : Int, Hs (pw 160) u v (z2 + 21600000 * (j : Rat))) → Inn c p q u v y t2 := fun u v huv ⟨j, hj⟩ => by
    obtain ⟨_, P2, _, P4⟩ := at_pt hc vp huv Y0 Y1 s2 kR hj
    rw [show - -(t2 : Rat) = (t2 : Rat) by grind] at P4
    obtain ⟨i, P4⟩ := P4
    unfold Hs at P2 P4
    have e : ((t2 + 21600000 * i : Int) : Rat) = (t2 : Rat) + 21600000 * (i : Rat) := by
      rw [Rat.intCast_add, Rat.intCast_mul, show ((21600000 : Int) : Rat) = 21600000 by rfl]
    rw [← e] at P4
    exact ⟨of_c (e := pw 64) (by grind) (by grind), of_c (e := pw 64) P2.2 (by grind), i, of_c (e := pw 64) (by grind) (by grind), of_c (e := pw 64) P4.2 (by grind)⟩
  rcases Xe with Xe | Xe
  · right
    refine fin _ _ (avalid_mk (by omega) (by omega) (by omega)) ⟨m + k, ?_⟩
    have g := (ZH.add v2).wide w6 (Int.le_refl _) (Int.le_refl _)
    rw [Rat.intCast_add]
    rw [show z2 + 21600000 * ((m : Rat) + (k : Rat)) = z1 + 21600000 * (k : Rat) + X by grind]
    exact g
  · left
    refine fin _ _ (avalid_mk (by omega) (by omega) (by omega)) ⟨m + k, ?_⟩
    have g := (ZH.sub v2).wide w6 (Int.le_refl _) (Int.le_refl _)
    rw [Rat.intCast_add]
    rw [show z2 + 21600000 * ((m : Rat) + (k : Rat)) = z1 + 21600000 * (k : Rat) - X by grind]
    exact g
end Go.Proofs.YtkjnheahaimpoaaGreat

/-
  Sides, angles, and the excess by half-angles: the computed arcs hold the true ones. No program here. The angles of a spherical triangle of two sides and an angle: what is computed holds the true ones, and their sum. No program here. The true angles of a spherical triangle of two sides and an angle, and the excess. No program here. Two sides and an angle: the third side, the two other angles, the excess: all that is computed holds the truth. No program here. Two sides and an angle: what halfangle.Side, Angle and Excess answer, together. No program here.
-/
import Derived.Test.YtipjnfabodfkcaaDoorXt
namespace Go.Proofs.YtipjnfabodfkcaaDoor
open SM TB TA
open Ev (lt keepE)
theorem lvU : 3 * pw 590 ≤ pw 588 ∧ 0 < pw 588 ∧ pw 588 ≤ 1 ∧ 2000 * pw 588 + 5 * e1 ≤ pw 576 ∧ 0 < pw 576 ∧ 27 * pw 576 ≤ pw 571 ∧ pw 571 ≤ 1 / 4 ∧ pw 571 + 1073741824 * (pw 400 + 8 * e0) ≤ pw 369 ∧ 0 < pw 369 ∧ pw 369 ≤ 1 / 4 ∧ 1073741824 * pw 369 ≤ pw 338 ∧ 0 < pw 338 ∧ pw 338 ≤ pw 169 * pw 169 ∧ 0 < pw 169 ∧ pw 338 ≤ pw 169 ∧ pw 169 + 1073741824 * pw 300 ≤ 1 / 2 ^ 91 ∧ 2 ^ 64 * (pw 169 + 1073741824 * pw 300 + 2 * e1) ≤ pw 104 ∧ 4 * pw 104 ≤ pw 100 ∧ pw 104 ≤ 1 / 8 ∧ 0 < pw 300 ∧ 2 * e0 ≤ pw 300 ∧ 0 < pw 590 ∧ pw 590 ≤ pw 588 ∧ 0 < pw 104 := by decide +kernel
theorem lvA2 : 3 * pw 576 + 1073741824 * (pw 430 + e0) ≤ pw 399 ∧ 0 < pw 399 ∧ pw 576 ≤ 1 / 4 ∧ 3 * pw 576 ≤ pw 399 ∧ 8589934592 * pw 399 ≤ pw 366 ∧ 0 < pw 366 ∧ 2 * pw 366 + 2 * e1 + 2147483648 * e0 ≤ 1 / 4 ∧ 100000 * (2 * pw 366 + 2 * e1 + 2147483648 * e0 + 4 * e1) ≤ pw 170 * pw 170 ∧ 0 < pw 170 ∧ pw 399 ≤ 1 / 4 ∧ 0 < pw 430 ∧ pw 430 ≤ 1 / 4 ∧
    1073741824 * (20 * e0) ≤ e1 ∧ 2 * (60 * e1) + 2 * e1 + 2147483648 * e0 ≤ 1 / 4 ∧ 100000 * (2 * (60 * e1) + 2 * e1 + 2147483648 * e0 + 4 * e1) ≤ pw 590 * pw 590 := by decide +kernel
/-! ### Parts of arcs -/
theorem div4_v {a b : Int} {e q : Rat} (h : Hs e a b (4 * q)) (he : 0 ≤ e) : Hs e (a / 4) (-(-b / 4)) q := by
  unfold Hs at *
  have l : ((a / 4 * 4 : Int) : Rat) ≤ (a : Rat) := le_c (by omega)
  have u : ((-b / 4 * 4 : Int) : Rat) ≤ ((-b : Int) : Rat) := le_c (by omega)
  rw [Rat.intCast_mul, show ((4 : Int) : Rat) = 4 by rfl] at l
  rw [Rat.intCast_mul, Rat.intCast_neg, show ((4 : Int) : Rat) = 4 by rfl] at u
  rw [Rat.intCast_neg]
  generalize ((a / 4 : Int) : Rat) = p at *
  generalize ((-b / 4 : Int) : Rat) = s at *
  constructor <;> grind
theorem prt2_v {a b c d e f : Int} {A B C : Rat} (hA : Hs (pw 590) a b A) (hB : Hs (pw 590) c d B) (hC : Hs (pw 590) e f C) : Hs (pw 588) (prt 2 a b c d e f).1 (prt 2 a b c d e f).2 ((A + B - C) / 2) := by
  obtain ⟨w1, w2, _⟩ := lvU
  have h := (hA.add hB).sub hC
  unfold prt
  dsimp only
  refine half_v (by grind) ?_
  rw [show 2 * ((A + B - C) / 2) = A + B - C by grind]
  exact h.wide (by grind) (Int.le_refl _) (Int.le_refl _)
theorem prt4_v {a b c d e f : Int} {A B C : Rat} (hA : Hs (pw 590) a b A) (hB : Hs (pw 590) c d B) (hC : Hs (pw 590) e f C) : Hs (pw 588) (prt 4 a b c d e f).1 (prt 4 a b c d e f).2 ((A + B - C) / 4) := by
  obtain ⟨w1, w2, _⟩ := lvU
  have h := (hA.add hB).sub hC
  unfold prt
  dsimp only
  refine div4_v ?_ (by grind)
  rw [show 4 * ((A + B - C) / 4) = A + B - C by grind]
  exact h.wide (by grind) (Int.le_refl _) (Int.le_refl _)
theorem prs_v {a b c d e f : Int} {A B C : Rat} (hA : Hs (pw 590) a b A) (hB : Hs (pw 590) c d B) (hC : Hs (pw 590) e f C) : Hs (pw 588) (prs a b c d e f).1 (prs a b c d e f).2 ((A + B + C) / 4) := by
  obtain ⟨w1, w2, _⟩ := lvU
  have h := (hA.add hB).add hC
  unfold prs
  dsimp only
  refine div4_v ?_ (by grind)
  rw [show 4 * ((A + B + C) / 4) = A + B + C by grind]
  exact h.wide (by grind) (Int.le_refl _) (Int.le_refl _)
theorem sp_v {p : Int × Int} {P : Rat} (hv : avalidB p.1 p.2 = true) (h : Hs (pw 588) p.1 p.2 P) : Vl (sp p) (pw 576) (si P) ∧ Vl (cp p) (pw 576) (co P) := by
  obtain ⟨w1, w2, w3, w4, _⟩ := lvU
  exact ⟨(sin_v hv (by grind) w3 h).wide w4, (cos_v hv (by grind) w3 h).wide w4⟩
/-! ### The excess -/
theorem ex_v {p q r s : Int × Int} {P M N R : Rat} (hp : avalidB p.1 p.2 = true) (hq : avalidB q.1 q.2 = true) (hr : avalidB r.1 r.2 = true) (hs : avalidB s.1 s.2 = true)
    (kp : Hs (pw 588) p.1 p.2 P) (kq : Hs (pw 588) q.1 q.2 M) (kr : Hs (pw 588) r.1 r.2 N) (ks : Hs (pw 588) s.1 s.2 R) :
    Vl (exS p q r s) (pw 571) (pS P M N R) ∧ Vl (exC p q r s) (pw 571) (pC P M N R) := by
  obtain ⟨w1, w2, w3, w4, w5, w6, w7, _⟩ := lvU
  have p1 := sp_v hp kp
  have q1 := sp_v hq kq
  have r1 := sp_v hr kr
  have s1 := sp_v hs ks
  constructor
  · have a1 := mul_v (sin_one hp) (sin_one hq) (by grind) (by grind) p1.1 q1.1
    have a2 := mul_v (mul_ones (sin_one hp) (sin_one hq)) (sin_one hr) (e := 3 * pw 576) (by grind) (by grind) a1 (r1.1.wide (by grind))
    have a3 := mul_v (mul_ones (mul_ones (sin_one hp) (sin_one hq)) (sin_one hr)) (sin_one hs) (e := 9 * pw 576) (by grind) (by grind) (a2.wide (by grind)) (s1.1.wide (by grind))
    exact a3.wide (by grind)
  · have a1 := mul_v (cos_one hp) (cos_one hq) (by grind) (by grind) p1.2 q1.2
    have a2 := mul_v (mul_ones (cos_one hp) (cos_one hq)) (cos_one hr) (e := 3 * pw 576) (by grind) (by grind) a1 (r1.2.wide (by grind))
    have a3 := mul_v (mul_ones (mul_ones (cos_one hp) (cos_one hq)) (cos_one hr)) (cos_one hs) (e := 9 * pw 576) (by grind) (by grind) (a2.wide (by grind)) (s1.2.wide (by grind))
    exact a3.wide (by grind)
theorem sqt_max {a b : Int} (h : validB a b = true) (hb : 0 ≤ b) : sqtR a b = sqtR (max 0 a) b := by
  have v := val_bd h
  unfold sqtR
  rw [if_pos h, if_pos (val_mk (a := max 0 a) (b := b) (by omega) (by omega) v.2.2), show max 0 (max 0 a) = max 0 a by omega]
/-- The root, of an enclosure that may begin below 0. -/
theorem sqt_w {r : Int × Int × Int} {e X τ σ : Rat} (h' : Vl r e (X * X)) (hX : 0 ≤ X) (_he0 : 0 ≤ e) (he : e ≤ 1 / 4) (ht : 1073741824 * e ≤ τ) (ht0 : 0 ≤ τ) (hts : τ ≤ σ * σ) (hs0 : 0 ≤ σ) (hs1 : τ ≤ σ) : Vl (sqtR r.1 r.2.1) σ X := by
  have v := val_bd h'.2.1
  have xx := sq_nn X
  obtain ⟨k1, k2, k3⟩ := h'
  unfold Hs at k3
  have hb : 0 ≤ r.2.1 := of_c (e := 1 / 2) (by rw [show ((0 : Int) : Rat) = 0 by rfl]; grind) (by grind)
  rw [sqt_max k2 hb]
  refine sqt_v (r := (max 0 r.1, r.2.1, 0)) (e := e) (by dsimp only; omega) ⟨rfl, val_mk (by dsimp only; omega) (by dsimp only; omega) v.2.2, ?_⟩ hX ht ht0 hts hs0 hs1
  unfold Hs
  dsimp only
  refine ⟨?_, k3.2⟩
  rcases Int.le_total 0 r.1 with c | c
  · rw [Int.max_eq_right c]; exact k3.1
  · rw [Int.max_eq_left c, show ((0 : Int) : Rat) = 0 by rfl]; grind
theorem exq_hold {p q r s : Int × Int} {P M N R ψ l : Rat} (hp : avalidB p.1 p.2 = true) (hq : avalidB q.1 q.2 = true) (hr : avalidB r.1 r.2 = true) (hs : avalidB s.1 s.2 = true)
    (kp : Hs (pw 588) p.1 p.2 P) (kq : Hs (pw 588) q.1 q.2 M) (kr : Hs (pw 588) r.1 r.2 N) (ks : Hs (pw 588) s.1 s.2 R)
    (ψ0 : 0 ≤ ψ) (ψ1 : ψ ≤ 5400000) (l0 : 0 ≤ l) (l1 : l ≤ 2) (c1 : Cl (pw 400) (l * l * (co ψ * co ψ)) (pC P M N R)) (c2 : Cl (pw 400) (l * l * (si ψ * si ψ)) (pS P M N R)) :
    (sqtR (exS p q r s).1 (exS p q r s).2.1).2.2 = 0 ∧ (sqtR (exC p q r s).1 (exC p q r s).2.1).2.2 = 0 ∧
    (fullB (beaT (sqtR (exS p q r s).1 (exS p q r s).2.1) (sqtR (exC p q r s).1 (exC p q r s).2.1)) = false → Hs (pw 100) (4 * (beaT (sqtR (exS p q r s).1 (exS p q r s).2.1) (sqtR (exC p q r s).1 (exC p q r s).2.1)).1) (4 * (beaT (sqtR (exS p q r s).1 (exS p q r s).2.1) (sqtR (exC p q r s).1 (exC p q r s).2.1)).2.1) (4 * ψ)) := by
  obtain ⟨w1, w2, w3, w4, w5, w6, w7, w8, w9, w10, w11, w12, w13, w14, w15, w16, w17, w18, w19, w20, w21, w22, w23, w24⟩ := lvU
  have eb := e0_bd
  obtain ⟨VS, VT⟩ := ex_v hp hq hr hs kp kq kr ks
  obtain ⟨oS, oT⟩ := ex_one hp hq hr hs
  obtain ⟨ρ, r0, r1, rc, rr⟩ := co_nn ψ0 ψ1
  have s0 := si_half ψ0 ψ1
  generalize exS p q r s = S at *
  generalize exC p q r s = T at *
  have n1 : Vl S (pw 369) (l * si ψ * (l * si ψ)) := (VS.near (show Cl (pw 400) (l * si ψ * (l * si ψ)) _ by rw [show l * si ψ * (l * si ψ) = l * l * (si ψ * si ψ) by grind]; exact c2)).wide (by grind)
  have n2 : Vl T (pw 369) (l * ρ * (l * ρ)) := by
    have m := Cl.mul 4 4 (Cl.refl (l * l) (e := 0) (by grind)) rr (by have := mul_abs (a := ρ) (b := ρ) (A := 2) (B := 2) (by grind) r1 (by grind) r1; grind) (by have := mul_abs (a := l) (b := l) (A := 2) (B := 2) (by grind) l1 (by grind) l1; grind)
    have m2 : Cl (pw 400 + 8 * e0) (l * ρ * (l * ρ)) (pC P M N R) := by
      rw [show l * ρ * (l * ρ) = l * l * (ρ * ρ) by grind]
      exact (m.trans c1).wide (by grind)
    exact (VT.near m2).wide (by grind)
  have Y := sqt_w n1 (Rat.mul_nonneg l0 s0) (by grind) w10 w11 (by grind) w13 (by grind) w15
  have X := sqt_w n2 (Rat.mul_nonneg l0 r0) (by grind) w10 w11 (by grind) w13 (by grind) w15
  refine ⟨Y.1, X.1, fun hf => ?_⟩
  have B := bear_v (q := ψ) (ρ := l) (e := pw 169) (t := pw 300) Y X (Cl.refl _ (by grind)) (by
    have m := mul_abs (a := l) (b := co ψ - ρ) (A := 2) (B := e0) (by grind) l1 (by unfold Cl at rc; grind) (by unfold Cl at rc; grind)
    unfold Cl
    rw [show l * co ψ - l * ρ = l * (co ψ - ρ) by grind]
    constructor <;> grind) l0 (by grind) (by grind) (by grind) w16
  have bS := sqt_bd oS.val Y.1
  have bT := sqt_bd oT.val X.1
  have ho : originB (sqtR S.1 S.2.1).1 (sqtR S.1 S.2.1).2.1 (sqtR T.1 T.2.1).1 (sqtR T.1 T.2.1).2.1 = false := by
    cases ho : originB (sqtR S.1 S.2.1).1 (sqtR S.1 S.2.1).2.1 (sqtR T.1 T.2.1).1 (sqtR T.1 T.2.1).2.1 with
    | false => rfl
    | true =>
      unfold beaT bearR at hf
      rw [bS.1, bT.1, ho] at hf
      cases hf
  have F := bear_first bS.1 bT.1 bS.2 bT.2 ho
  obtain ⟨_, m, B⟩ := B
  replace B := B.wide w17 (Int.le_refl _) (Int.le_refl _)
  have eb : bearR (sqtR S.1 S.2.1).1 (sqtR S.1 S.2.1).2.1 (sqtR T.1 T.2.1).1 (sqtR T.1 T.2.1).2.1 = beaT (sqtR S.1 S.2.1) (sqtR T.1 T.2.1) := rfl
  rw [eb] at F B
  generalize beaT (sqtR S.1 S.2.1) (sqtR T.1 T.2.1) = Q at *
  clear VS VT n1 n2 Y X bS bT ho oS oT hf c1 c2 rr rc
  unfold Hs at B ⊢
  have f1 : (0 : Rat) ≤ (Q.1 : Rat) := le_c (a := 0) F.1
  have f2 : (Q.2.1 : Rat) ≤ 5400000 := le_c (b := 5400000) F.2
  have hm : m = 0 := by
    rcases Int.lt_trichotomy m 0 with q | q | q
    · have := le_c (show m ≤ -1 by omega)
      rw [show ((-1 : Int) : Rat) = -1 by rfl] at this
      grind
    · exact q
    · have := le_c (show 1 ≤ m by omega)
      rw [show ((1 : Int) : Rat) = 1 by rfl] at this
      grind
  subst hm
  rw [show ((0 : Int) : Rat) = 0 by rfl] at B
  rw [Rat.intCast_mul, Rat.intCast_mul, show ((4 : Int) : Rat) = 4 by rfl]
  constructor <;> grind
/-- Short products: the box has all directions. -/
theorem ex_small {p q r s : Int × Int} {P M N R : Rat} (hp : avalidB p.1 p.2 = true) (hq : avalidB q.1 q.2 = true) (hr : avalidB r.1 r.2 = true) (hs : avalidB s.1 s.2 = true)
    (kp : Hs (pw 588) p.1 p.2 P) (kq : Hs (pw 588) q.1 q.2 M) (kr : Hs (pw 588) r.1 r.2 N) (ks : Hs (pw 588) s.1 s.2 R)
    (c1 : -1 / 2 ^ 60 ≤ pC P M N R ∧ pC P M N R ≤ 1 / 2 ^ 60) (c2 : -1 / 2 ^ 60 ≤ pS P M N R ∧ pS P M N R ≤ 1 / 2 ^ 60) :
    (sqtR (exS p q r s).1 (exS p q r s).2.1).2.2 = 0 ∧ (sqtR (exC p q r s).1 (exC p q r s).2.1).2.2 = 0 ∧ fullB (beaT (sqtR (exS p q r s).1 (exS p q r s).2.1) (sqtR (exC p q r s).1 (exC p q r s).2.1)) = true := by
  obtain ⟨w1, w2, w3, w4, w5, w6, w7, w8⟩ := lvU
  obtain ⟨VS, VT⟩ := ex_v hp hq hr hs kp kq kr ks
  have key : ∀ (V : Int × Int × Int) (X : Rat), Vl V (pw 571) X → (-1 / 2 ^ 60 ≤ X ∧ X ≤ 1 / 2 ^ 60) → (sqtR V.1 V.2.1).2.2 = 0 ∧ validB (sqtR V.1 V.2.1).1 (sqtR V.1 V.2.1).2.1 = true ∧ (sqtR V.1 V.2.1).1 = 0 ∧ 0 ≤ (sqtR V.1 V.2.1).2.1 := fun V X h k => by
    obtain ⟨k1, k2, k3⟩ := h
    have v := val_bd k2
    unfold Hs at k3
    have a1 : V.1 ≤ 0 := of_c (e := 1 / 2) (by rw [show ((0 : Int) : Rat) = 0 by rfl]; grind) (by grind)
    have a2 : 0 ≤ V.2.1 := of_c (e := 1 / 2) (by rw [show ((0 : Int) : Rat) = 0 by rfl]; grind) (by grind)
    have z : max 0 V.1 = 0 := by omega
    have o := sqt_ok (a := 0) (b := V.2.1) (by omega) a2 v.2.2
    have i0 : irt (0 * 1073741824) = 0 := by
      have r := irt_ok (n := 0 * 1073741824) (by omega) (by omega)
      rcases Int.lt_or_eq_of_le r.1 with g | g
      · exfalso
        have := Int.mul_pos g g
        omega
      · exact g.symm
    rw [sqt_max k2 a2, z, o.1]
    exact ⟨rfl, val_mk (by dsimp only; omega) o.2.2.1 o.2.2.2, i0, by dsimp only; omega⟩
  obtain ⟨s1, s2, s3, s4⟩ := key _ _ VS c2
  obtain ⟨t1, t2, t3, t4⟩ := key _ _ VT c1
  refine ⟨s1, t1, ?_⟩
  have ho : originB (sqtR (exS p q r s).1 (exS p q r s).2.1).1 (sqtR (exS p q r s).1 (exS p q r s).2.1).2.1 (sqtR (exC p q r s).1 (exC p q r s).2.1).1 (sqtR (exC p q r s).1 (exC p q r s).2.1).2.1 = true := decide_eq_true (by omega)
  unfold beaT bearR
  rw [s2, t2, ho]
  rfl
end Go.Proofs.YtipjnfabodfkcaaDoor
namespace Go.Proofs.YtipjnfabodfkcaaDoor
open SM TB TA
open Ev (lt keepE)
theorem sin_nn {B C : Rat} (hB : 0 ≤ B ∧ B ≤ 10800000) (hC : 0 ≤ C ∧ C ≤ 10800000) : -e0 ≤ si B * si C := by
  have b := si_up hB.1 hB.2
  have c := si_up hC.1 hC.2
  have bb := bdq2 B
  have bc := bdq2 C
  have ub := u0_bd
  have ee := ee0
  have m := Rat.mul_nonneg (show 0 ≤ si B + 22000 * u0 by grind) (show 0 ≤ si C + 22000 * u0 by grind)
  have m2 := Rat.mul_nonneg (show 0 ≤ u0 by grind) (show 0 ≤ 2 - si B by grind)
  have m3 := Rat.mul_nonneg (show 0 ≤ u0 by grind) (show 0 ≤ 2 - si C by grind)
  have m4 : u0 * u0 ≤ u0 / 1000000 := by decide +kernel
  have i : (si B + 22000 * u0) * (si C + 22000 * u0) = si B * si C + 22000 * (u0 * si B) + 22000 * (u0 * si C) + 484000000 * (u0 * u0) := by grind
  rw [i] at m
  have i2 : u0 * (2 - si B) = 2 * u0 - u0 * si B := by grind
  have i3 : u0 * (2 - si C) = 2 * u0 - u0 * si C := by grind
  rw [i2] at m2
  rw [i3] at m3
  generalize si B * si C = x1 at *
  generalize u0 * si B = x2 at *
  generalize u0 * si C = x3 at *
  generalize u0 * u0 = x4 at *
  clear i i2 i3 b c bb bc
  grind
/-- The angle by three sides. -/
theorem ang_v3 {a b c d e f : Int} {A B C X : Rat} (h1 : 0 ≤ a ∧ a ≤ b ∧ b ≤ 10800000) (h2 : 0 ≤ c ∧ c ≤ d ∧ d ≤ 10800000) (h3 : 0 ≤ e ∧ e ≤ f ∧ f ≤ 10800000)
    (kA : Hs (pw 590) a b A) (kB : Hs (pw 590) c d B) (kC : Hs (pw 590) e f C) (hB : 0 ≤ B ∧ B ≤ 10800000) (hC : 0 ≤ C ∧ C ≤ 10800000) (X0 : 0 ≤ X) (X1 : X ≤ 10800000) (hT : Tri (pw 430) A B C X) :
    (angE (angT a b c d e f) (angL c d e f)).2.2 = 21 ∨ (angE (angT a b c d e f) (angL c d e f)).2.2 = 24 ∨
    ((angE (angT a b c d e f) (angL c d e f)).2.2 = 0 ∧ Hs (pw 170) (angE (angT a b c d e f) (angL c d e f)).1 (angE (angT a b c d e f) (angL c d e f)).2.1 X ∧ 0 ≤ (angE (angT a b c d e f) (angL c d e f)).1 ∧ (angE (angT a b c d e f) (angL c d e f)).1 ≤ (angE (angT a b c d e f) (angL c d e f)).2.1 ∧ (angE (angT a b c d e f) (angL c d e f)).2.1 ≤ 10800000 ∧ 1 / 2 ^ 31 ≤ si B * si C) := by
  obtain ⟨w1, w2, w3, w4, w5, w6, w7, _⟩ := lvU
  have w23 : pw 590 ≤ pw 588 := by decide +kernel
  obtain ⟨v1, v2, v3, v4, v5, v6, v7, v8, v9, v10, v11, v12, v13, v14, v15⟩ := lvA2
  have eb := e0_bd
  have ub := u0_bd
  have ee := ee0
  have vP : avalidB (prt 2 a b e f c d).1 (prt 2 a b e f c d).2 = true := prt_val (.inl rfl) h1 h3 h2
  have vN : avalidB (prt 2 a b c d e f).1 (prt 2 a b c d e f).2 = true := prt_val (.inl rfl) h1 h2 h3
  have vB : avalidB c d = true := avalid_mk (by omega) h2.2.1 (by omega)
  have vC : avalidB e f = true := avalid_mk (by omega) h3.2.1 (by omega)
  obtain ⟨oT, oL⟩ := angT_one h1 h2 h3
  have sB := (sp_v (p := (c, d)) vB (kB.wide w23 (Int.le_refl _) (Int.le_refl _))).1
  have sC := (sp_v (p := (e, f)) vC (kC.wide w23 (Int.le_refl _) (Int.le_refl _))).1
  have VT : Vl (angT a b c d e f) (3 * pw 576) (si ((A + C - B) / 2) * si ((A + B - C) / 2)) := mul_v (sin_one vP) (sin_one vN) (by grind) v3 (sp_v vP (prt2_v kA kC kB)).1 (sp_v vN (prt2_v kA kB kC)).1
  have VL : Vl (angL c d e f) (3 * pw 576) (si B * si C) := mul_v (sin_one vB) (sin_one vC) (by grind) v3 sB sC
  have key : Cl (pw 430 + e0) (si B * si C * ((1 - co X) / 2)) (si ((A + C - B) / 2) * si ((A + B - C) / 2)) := by
    have p := (addq ((A + C - B) / 2) ((A + B - C) / 2)).1
    have q := (subq ((A + C - B) / 2) ((A + B - C) / 2)).1
    have r := (subq C B).1
    rw [show (A + C - B) / 2 + (A + B - C) / 2 = A by grind] at p
    rw [show (A + C - B) / 2 - (A + B - C) / 2 = C - B by grind] at q
    unfold Tri at hT
    rw [show co C * co B + si C * si B = co B * co C + si B * si C by grind] at r
    rw [show si B * si C * ((1 - co X) / 2) = (si B * si C - si B * si C * co X) / 2 by grind]
    clear VT VL sB sC kA kB kC
    generalize si ((A + C - B) / 2) * si ((A + B - C) / 2) = x1 at *
    generalize co ((A + C - B) / 2) * co ((A + B - C) / 2) = x2 at *
    generalize si B * si C * co X = x3 at *
    generalize si B * si C = x4 at *
    generalize co B * co C = x5 at *
    unfold Cl at *
    constructor <;> grind
  have NT := (VT.near key).wide v1
  have NL := VL.wide v4
  have nn := sin_nn hB hC
  clear VT VL
  generalize angT a b c d e f = T at *
  generalize angL c d e f = L at *
  unfold angE
  by_cases z : L.1 ≤ 0 ∧ 0 ≤ L.2.1
  · left
    rw [if_pos z]
  rw [if_neg z]
  by_cases g : (divR T.1 T.2.1 L.1 L.2.1).2.2 = 0
  · right; right
    have L0 : 0 ≤ L.2.1 := by
      have k := NL.2.2
      unfold Hs at k
      exact of_c (e := 3 / 4) (by rw [show ((0 : Int) : Rat) = 0 by rfl]; grind) (by grind)
    have d0 : 1 ≤ L.1 := by omega
    have bx := (bdq X).1
    have D := div_v NT NL d0 (by grind) (by grind) (by grind) g
    have cX := (coq X).1
    have AH := ahav_v (D.wide v5) (q := 5400000 - X) (t := e0) (d := pw 170) (by
      rw [show 1 - 2 * ((1 - co X) / 2) = co X by grind]
      exact cX.wide (by grind)) (by grind) (by grind) (by grind) (by grind) (by grind) v7 v8
    rw [show 5400000 - (5400000 - X) = X by grind] at AH
    obtain ⟨q1, q2, q3, q4, q5⟩ := AH
    rw [if_neg (by rw [g]; simp), if_neg (by rw [q1]; simp)]
    refine ⟨rfl, q5, q2, q3, q4, ?_⟩
    have k := NL.2.2
    unfold Hs at k
    have d1 := le_c d0
    rw [show ((1 : Int) : Rat) = 1 by rfl] at d1
    grind
  · right; left
    rw [if_pos g]
/-- The side. -/
theorem sid_v {a b c d e f : Int} {A B C x : Rat} (h1 : 0 ≤ a ∧ a ≤ b ∧ b ≤ 10800000) (h2 : 0 ≤ c ∧ c ≤ d ∧ d ≤ 10800000) (hv : avalidB e f = true) (kB : Hs 0 a b B) (kC : Hs 0 c d C) (kx : Hs 0 e f x) (hA : 0 ≤ A ∧ A ≤ 10800000) (hT : Tri (10 * e0) A B C x) :
    (ahavR (sidH a b c d e f).1 (sidH a b c d e f).2.1).2.2 = 0 ∧ 0 ≤ (ahavR (sidH a b c d e f).1 (sidH a b c d e f).2.1).1 ∧ (ahavR (sidH a b c d e f).1 (sidH a b c d e f).2.1).1 ≤ (ahavR (sidH a b c d e f).1 (sidH a b c d e f).2.1).2.1 ∧ (ahavR (sidH a b c d e f).1 (sidH a b c d e f).2.1).2.1 ≤ 10800000 ∧ Hs (pw 590) (ahavR (sidH a b c d e f).1 (sidH a b c d e f).2.1).1 (ahavR (sidH a b c d e f).1 (sidH a b c d e f).2.1).2.1 A := by
  obtain ⟨v1, v2, v3, v4, v5, v6, v7, v8, v9, v10, v11, v12, v13, v14, v15⟩ := lvA2
  have eb := e0_bd
  have ub := u0_bd
  have ee := ee0
  have e1b := e1_bd
  have va : avalidB a b = true := avalid_mk (by omega) h1.2.1 (by omega)
  have vc : avalidB c d = true := avalid_mk (by omega) h2.2.1 (by omega)
  have vd : avalidB (a - d) (b - c) = true := avalid_mk (by omega) (by omega) (by omega)
  have H1 := hav_v (d := 0) vd (by grind) (by grind) (by have := kB.sub kC; rw [show (0 : Rat) + 0 = 0 by grind] at this; exact this)
  have H2 := hav_v (d := 0) hv (by grind) (by grind) kx
  have S1 := sin_at va kB
  have S2 := sin_at vc kC
  have m1 := mul_v (sin_one va) (sin_one vc) (by grind) (by grind) S1 S2
  have m2 := mul_v (mul_ones (sin_one va) (sin_one vc)) (hav_one hv) (e := 3 * (5 * e1)) (by grind) (by grind) m1 (H2.wide (by grind))
  have ad := add_v (hav_one vd) (mul_ones (mul_ones (sin_one va) (sin_one vc)) (hav_one hv)) H1 m2
  have key : Cl (20 * e0) ((1 - co A) / 2) ((1 - co (B - C)) / 2 + si B * si C * ((1 - co x) / 2)) := by
    have r := (subq B C).1
    unfold Tri at hT
    rw [show si B * si C * ((1 - co x) / 2) = (si B * si C - si B * si C * co x) / 2 by grind]
    clear H1 H2 S1 S2 m1 m2 ad kB kC
    generalize si B * si C * co x = x3 at *
    generalize si B * si C = x4 at *
    generalize co B * co C = x5 at *
    unfold Cl at *
    constructor <;> grind
  have N : Vl (sidH a b c d e f) (60 * e1) ((1 - co A) / 2) := (ad.near key).wide (by grind)
  have cX := (coq A).1
  have AH := ahav_v N (q := 5400000 - A) (t := e0) (d := pw 590) (by
    rw [show 1 - 2 * ((1 - co A) / 2) = co A by grind]
    exact cX.wide (by grind)) (by grind) (by grind) (by grind) (by grind) (by decide +kernel) v14 v15
  rw [show 5400000 - (5400000 - A) = A by grind] at AH
  exact AH
theorem Tri.swap {ε A B C x : Rat} (h : Tri ε A B C x) : Tri ε A C B x := by
  unfold Tri at *
  rw [show co C * co B + si C * si B * co x = co B * co C + si B * si C * co x by grind]
  exact h
theorem Tri.wide {ε f A B C x : Rat} (h : Tri ε A B C x) (k : ε ≤ f) : Tri f A B C x := Cl.wide h k
/-- The cosine formula at another vertex. -/
theorem vert_tri {ε A B C x θ : Rat} (hT : Tri (10 * e0) A B C x) (k : Cl ε (si A * co θ) (co B * si C - si B * co x * co C)) (h0 : 0 ≤ ε) : Tri (4 * ε + 100 * e0) B A C θ := by
  have bB := bdq2 B
  have bC := bdq2 C
  have bx := bdq2 x
  have bA := bdq2 A
  have un := unit C
  have ub := u0_bd
  have ee := ee0
  unfold Tri at *
  have m1 := mul_abs (a := co A - (co B * co C + si B * si C * co x)) (b := co C) (A := 10 * e0) (B := 2) (by unfold Cl at hT; grind) (by unfold Cl at hT; grind) bC.1.1 bC.1.2
  have m2 := mul_abs (a := si A * co θ - (co B * si C - si B * co x * co C)) (b := si C) (A := ε) (B := 2) (by unfold Cl at k; grind) (by unfold Cl at k; grind) bC.2.1 bC.2.2
  have m3 := mul_abs (a := co C * co C + si C * si C - 1) (b := co B) (A := 8192 * u0) (B := 2) (by unfold Cl at un; grind) (by unfold Cl at un; grind) bB.1.1 bB.1.2
  have i : co A * co C + si A * si C * co θ - co B = (co A - (co B * co C + si B * si C * co x)) * co C + (si A * co θ - (co B * si C - si B * co x * co C)) * si C + (co C * co C + si C * si C - 1) * co B := by grind
  generalize (co A - (co B * co C + si B * si C * co x)) * co C = x1 at *
  generalize (si A * co θ - (co B * si C - si B * co x * co C)) * si C = x2 at *
  generalize (co C * co C + si C * si C - 1) * co B = x3 at *
  generalize co A * co C + si A * si C * co θ = x4 at *
  clear hT k un
  unfold Cl
  constructor <;> grind
/-- Two directions of two vectors, and their sum. -/
theorem arm_sum {c s α β X Y P Q τ : Rat} (hc : -2 ≤ c ∧ c ≤ 2) (hs : -2 ≤ s ∧ s ≤ 2) (t0 : 0 ≤ τ) (t1 : τ ≤ 1) (a1 : Cl τ (c * co α) X) (a2 : Cl τ (c * si α) Y) (b1 : Cl τ (s * co β) P) (b2 : Cl τ (s * si β) Q) :
    Cl (30 * τ + e0) (c * s * co (α + β)) (X * P - Y * Q) ∧ Cl (30 * τ + e0) (c * s * si (α + β)) (X * Q + Y * P) := by
  have ab := addq α β
  have bα := bdq2 α
  have bβ := bdq2 β
  have ub := u0_bd
  have ee := ee0
  have cs := mul_abs hc.1 hc.2 hs.1 hs.2
  have f1 := mul_abs hs.1 hs.2 bβ.1.1 bβ.1.2
  have f2 := mul_abs hs.1 hs.2 bβ.2.1 bβ.2.2
  have g1 := mul_abs hc.1 hc.2 bα.1.1 bα.1.2
  have g2 := mul_abs hc.1 hc.2 bα.2.1 bα.2.2
  have bX : -5 ≤ X ∧ X ≤ 5 := by unfold Cl at a1; constructor <;> grind
  have bY : -5 ≤ Y ∧ Y ≤ 5 := by unfold Cl at a2; constructor <;> grind
  have m1 := Cl.mul 4 5 a1 b1 (by grind) bX
  have m2 := Cl.mul 4 5 a2 b2 (by grind) bY
  have m3 := Cl.mul 4 5 a1 b2 (by grind) bX
  have m4 := Cl.mul 4 5 a2 b1 (by grind) bY
  have p := mul_abs (a := co (α + β) - (co α * co β - si α * si β)) (b := c * s) (A := 1300 * u0) (B := 4) (by unfold Cl at ab; grind) (by unfold Cl at ab; grind) (by grind) (by grind)
  have q := mul_abs (a := si (α + β) - (si α * co β + co α * si β)) (b := c * s) (A := 1300 * u0) (B := 4) (by unfold Cl at ab; grind) (by unfold Cl at ab; grind) (by grind) (by grind)
  have i1 : c * s * co (α + β) = (co (α + β) - (co α * co β - si α * si β)) * (c * s) + c * co α * (s * co β) - c * si α * (s * si β) := by grind
  have i2 : c * s * si (α + β) = (si (α + β) - (si α * co β + co α * si β)) * (c * s) + c * si α * (s * co β) + c * co α * (s * si β) := by grind
  rw [i1, i2]
  generalize (co (α + β) - (co α * co β - si α * si β)) * (c * s) = x1 at *
  generalize (si (α + β) - (si α * co β + co α * si β)) * (c * s) = x2 at *
  generalize c * co α * (s * co β) = x3 at *
  generalize c * si α * (s * si β) = x4 at *
  generalize c * si α * (s * co β) = x5 at *
  generalize c * co α * (s * si β) = x6 at *
  generalize X * P = x7 at *
  generalize Y * Q = x8 at *
  generalize X * Q = x9 at *
  generalize Y * P = x10 at *
  clear i1 i2 a1 a2 b1 b2 ab f1 f2 g1 g2 cs
  unfold Cl at *
  refine ⟨⟨?_, ?_⟩, ?_, ?_⟩ <;> grind
end Go.Proofs.YtipjnfabodfkcaaDoor
namespace Go.Proofs.YtipjnfabodfkcaaDoor
open SM TB TA
theorem lvY : 5 * e0 + eT ≤ 1 / 2 ^ 37 * pw 560 ∧ 0 < pw 560 ∧ pw 559 ≤ 1 / 2 ^ 40 ∧ pw 560 + e0 ≤ pw 559 ∧ 8000000 * (pw 559 + 2 * e0) ≤ pw 535 ∧ pw 535 ≤ 1 ∧ 2000 * pw 535 + e1 ≤ pw 524 ∧ 2 * pw 524 + eT ≤ pw 522 ∧ pw 522 + e0 ≤ pw 521 ∧ 30 * pw 521 + e0 ≤ pw 516 ∧ 0 < pw 521 ∧ pw 521 ≤ 1 ∧ pw 516 + 50 * e0 ≤ pw 515 ∧ pw 515 ≤ 1 / 2 ^ 36 * pw 478 ∧ 0 < pw 478 ∧ pw 478 ≤ 1 / 2 ^ 40 ∧ 8000000 * (pw 478 + 2 * e0) ≤ pw 454 ∧ pw 454 ≤ 1 ∧ 2000 * pw 454 + e1 ≤ pw 443 ∧ 8 * pw 443 + 2 * pw 515 + 100 * e0 ≤ pw 435 ∧ 0 < pw 435 ∧ 4 * pw 435 + 100 * e0 ≤ pw 430 ∧ 2 * pw 425 + 2 * pw 454 ≤ pw 400 ∧ 4 * pw 522 + 100 * e0 ≤ pw 519 ∧ 0 < pw 443 ∧ 0 < pw 454 ∧ 0 < pw 515 ∧ pw 425 ≤ 1 ∧ 0 < pw 522 := by decide +kernel
theorem low_div {ρ r s f : Rat} (h : r ≤ ρ) (r0 : 0 < r) (f0 : 0 ≤ f) (hs : -(r * f) < ρ * s) : -f ≤ s := by
  rcases (Rat.le_total : -f ≤ s ∨ s ≤ -f) with c | c
  · exact c
  · exfalso
    have m := Rat.mul_nonneg (show 0 ≤ ρ - r by grind) (show 0 ≤ -s by grind)
    have m2 := Rat.mul_nonneg (show 0 ≤ r by grind) (show 0 ≤ -f - s by grind)
    grind
theorem prod_low {p q : Rat} (h0 : -e0 ≤ p) (h1 : p ≤ 2) (k0 : -e0 ≤ q) (k1 : q ≤ 2) : -(5 * e0) ≤ p * q := by
  have eb := e0_bd
  have m := Rat.mul_nonneg (show 0 ≤ p + e0 by grind) (show 0 ≤ q + e0 by grind)
  have m1 := Rat.mul_nonneg (show 0 ≤ e0 by grind) (show 0 ≤ 2 - p by grind)
  have m2 := Rat.mul_nonneg (show 0 ≤ e0 by grind) (show 0 ≤ 2 - q by grind)
  have m3 := Rat.mul_nonneg (show 0 ≤ e0 by grind) (show 0 ≤ 1 - e0 by grind)
  grind
theorem mul_cl {ρ a b e : Rat} (h0 : 0 ≤ ρ) (h1 : ρ ≤ 2) (h : Cl e a b) : Cl (2 * e) (ρ * a) (ρ * b) := by
  have m := mul_abs (a := ρ) (b := a - b) (A := 2) (B := e) (by grind) h1 h.1 h.2
  unfold Cl
  rw [show ρ * a - ρ * b = ρ * (a - b) by grind]
  constructor <;> grind
/-- A direction to the upper side. -/
theorem arm_up {ρ σ X Y : Rat} (h0 : 1 / 2 ^ 36 ≤ ρ) (h1 : ρ ≤ 2) (s0 : -10800000 ≤ σ) (s1 : σ ≤ 16200000) (a1 : Cl eT (ρ * co σ) X) (a2 : Cl eT (ρ * si σ) Y) (hY : -(5 * e0) ≤ Y) :
    ∃ σ' : Rat, 0 ≤ σ' ∧ σ' ≤ 10800000 ∧ Cl (pw 522) (ρ * co σ') X ∧ Cl (pw 522) (ρ * si σ') Y := by
  obtain ⟨w1, w2, w3, w4, w5, w6, w7, w8, _⟩ := lvY
  have eb := e0_bd
  have g : -(pw 560) ≤ si σ := low_div h0 (by grind) (by grind) (by unfold Cl at a2; grind)
  obtain ⟨q, m, q0, q1, qc⟩ := clampT (τ := pw 559) s0 (by grind) (by grind) (by grind) w3
  have n := near_q (qc.wide w5) w6
  rw [(turn_eq σ m).1, (turn_eq σ m).2] at n
  have m1 := mul_cl (show 0 ≤ ρ by grind) h1 (n.2.wide w7)
  have m2 := mul_cl (show 0 ≤ ρ by grind) h1 (n.1.wide w7)
  exact ⟨q, q0, q1, (m1.trans a1).wide w8, (m2.trans a2).wide w8⟩
/-- A direction to the right side. -/
theorem arm_right {ρ σ X Y : Rat} (h0 : 1 / 2 ^ 36 ≤ ρ) (h1 : ρ ≤ 2) (s0 : -10800000 ≤ σ) (s1 : σ ≤ 16200000) (a1 : Cl eT (ρ * co σ) X) (a2 : Cl eT (ρ * si σ) Y) (hX : -(5 * e0) ≤ X) :
    ∃ σ' : Rat, -5400000 ≤ σ' ∧ σ' ≤ 5400000 ∧ Cl (pw 522) (ρ * co σ') X ∧ Cl (pw 522) (ρ * si σ') Y := by
  obtain ⟨w1, w2, w3, w4, w5, w6, w7, w8, _⟩ := lvY
  have eb := e0_bd
  have ub := u0_bd
  have ee := ee0
  have g : -(pw 560) ≤ co σ := low_div h0 (by grind) (by grind) (by unfold Cl at a1; grind)
  have c1 := (coq (-σ)).1
  have c2 := (negq σ).1
  have g2 : -(pw 559) ≤ si (σ + 5400000) := by
    rw [show 5400000 - -σ = σ + 5400000 by grind] at c1
    unfold Cl at c1 c2
    grind
  obtain ⟨q, m, q0, q1, qc⟩ := clampT (q := σ + 5400000) (τ := pw 559) (by grind) (by grind) g2 (by grind) w3
  have qd : Cl (8000000 * (pw 559 + 2 * e0)) (q - 5400000) (σ + 21600000 * (m : Rat)) := by
    unfold Cl at *
    constructor <;> grind
  have n := near_q (qd.wide w5) w6
  rw [(turn_eq σ m).1, (turn_eq σ m).2] at n
  have m1 := mul_cl (show 0 ≤ ρ by grind) h1 (n.2.wide w7)
  have m2 := mul_cl (show 0 ≤ ρ by grind) h1 (n.1.wide w7)
  exact ⟨q - 5400000, by grind, by grind, (m1.trans a1).wide w8, (m2.trans a2).wide w8⟩
/-- An angle of a triangle, from its direction. -/
theorem vert_angle {k θ N : Rat} (k0 : 1 / 2 ^ 35 ≤ k) (k1 : k ≤ 4) (t0 : -5400000 ≤ θ) (t1 : θ ≤ 16200000) (c1 : Cl (pw 516) (k * co θ) (N / 2)) (c2 : -(pw 515) ≤ k * si θ) :
    ∃ θ' : Rat, 0 ≤ θ' ∧ θ' ≤ 10800000 ∧ Cl (pw 454) θ' θ ∧ Cl (8 * pw 443 + 2 * pw 515) (2 * k * co θ') N := by
  obtain ⟨w1, w2, w3, w4, w5, w6, w7, w8, w9, w10, w11, w12, w13, w14, w15, w16, w17, w18, w19, w20, w21, w22, w23, w24, w25, w26, w27, w28⟩ := lvY
  have eb := e0_bd
  have g : -(pw 478) ≤ si θ := low_div k0 (by grind) (by grind) (by grind)
  obtain ⟨q, q0, q1, qc⟩ := clampH (τ := pw 478) (by grind) (by grind) g (by grind) w16
  have n := (near_q (qc.wide w17) w18).2.wide w19
  refine ⟨q, q0, q1, qc.wide w17, ?_⟩
  have m := mul_abs (a := k) (b := co q - co θ) (A := 4) (B := pw 443) (by grind) k1 n.1 n.2
  have i : 2 * k * co q = 2 * (k * (co q - co θ)) + 2 * (k * co θ) := by grind
  rw [i]
  generalize k * (co q - co θ) = x1 at *
  generalize k * co θ = x2 at *
  clear n g qc i
  unfold Cl at *
  constructor <;> grind
/-- The north component, by the sides. -/
theorem noT_co {B C x : Rat} : Cl e0 (noT (5400000 - C) (5400000 - B) x) (co B * si C - si B * co x * co C) ∧ Cl e0 (-(eaT (5400000 - B) x)) (si B * si x) := by
  have b := coq B
  have c := coq C
  have u := u0_bd
  have ee := ee0
  have bB := bdq2 B
  have bC := bdq2 C
  have bx := bdq2 x
  have bC' := bdq2 (5400000 - C)
  have m1 := Cl.mul 2 2 b.1 c.2 bC'.1 bB.1
  have m2 := Cl.mul 2 2 b.2 (Cl.refl (co x) (e := 0) (by grind)) bx.1 bB.2
  have m4 := mul_abs (a := si B) (b := co x) (A := 2) (B := 2) bB.2.1 bB.2.2 bx.1.1 bx.1.2
  have m3 := Cl.mul 2 4 m2 c.1 bC'.2 (by grind)
  have m5 := Cl.mul 2 2 b.2 (Cl.refl (si x) (e := 0) (by grind)) bx.2 bB.2
  unfold noT eaT
  constructor
  · generalize si (5400000 - B) * co (5400000 - C) = X1 at *
    generalize co (5400000 - B) * co x * si (5400000 - C) = X2 at *
    generalize co B * si C = Y1 at *
    generalize si B * co x * co C = Y2 at *
    clear b c m2 m4 m5 bB bC bx bC'
    unfold Cl at *
    constructor <;> grind
  · generalize co (5400000 - B) * si x = X1 at *
    generalize si B * si x = Y1 at *
    clear b c m2 m4 m1 m3 bB bC bx bC'
    unfold Cl at *
    constructor <;> grind
/-- The direction of half the excess. -/
theorem half_exc {B C x κ σ : Rat} (c1 : Cl (pw 522) (co κ * co σ) (co ((B + C) / 2) * si (x / 2))) (c2 : Cl (pw 522) (co κ * si σ) (co ((B - C) / 2) * co (x / 2))) (k0 : 0 ≤ co κ) (k1 : co κ ≤ 2) :
    Cl (pw 519) (co κ * co (x / 2 + σ - 5400000)) (co (B / 2) * co (C / 2) + si (B / 2) * si (C / 2) * co x) ∧ Cl (pw 519) (co κ * si (x / 2 + σ - 5400000)) (si (B / 2) * si (C / 2) * si x) := by
  obtain ⟨w1, w2, w3, w4, w5, w6, w7, w8, w9, w10, w11, w12, w13, w14, w15, w16, w17, w18, w19, w20, w21, w22, w23, w24, w25, w26, w27, w28, w29⟩ := lvY
  have eb := e0_bd
  have ub := u0_bd
  have ee := ee0
  have bk := backq (x / 2 + σ)
  have ad := addq (x / 2) σ
  have dx := dblq (x / 2)
  rw [show x / 2 + x / 2 = x by grind] at dx
  have pu := (addq (B / 2) (C / 2)).1
  have pv := (subq (B / 2) (C / 2)).1
  rw [show B / 2 + C / 2 = (B + C) / 2 by grind] at pu
  rw [show B / 2 - C / 2 = (B - C) / 2 by grind] at pv
  have bw := bdq2 (x / 2)
  have b2 := bdq2 (B / 2)
  have b3 := bdq2 (C / 2)
  have m1 := mul_cl k0 k1 (Cl.trans bk.2 ad.2)
  have m2 := mul_cl k0 k1 (Cl.trans bk.1 (Cl.neg ad.1))
  have bu := bdq2 ((B + C) / 2)
  have bv := bdq2 ((B - C) / 2)
  generalize co ((B + C) / 2) = cu at *
  generalize co ((B - C) / 2) = cv at *
  have ww := mul_abs bw.2.1 bw.2.2 bw.1.1 bw.1.2
  -- the parts
  have n1 := Cl.mul 2 4 c1 (Cl.refl (si (x / 2)) (e := 0) (by grind)) bw.2 (by have := mul_abs (a := cu) (b := si (x / 2)) (A := 2) (B := 2) bu.1.1 bu.1.2 bw.2.1 bw.2.2; grind)
  have n2 := Cl.mul 2 4 c2 (Cl.refl (co (x / 2)) (e := 0) (by grind)) bw.1 (by have := mul_abs (a := cv) (b := co (x / 2)) (A := 2) (B := 2) bv.1.1 bv.1.2 bw.1.1 bw.1.2; grind)
  have n3 := Cl.mul 2 4 c1 (Cl.refl (co (x / 2)) (e := 0) (by grind)) bw.1 (by have := mul_abs (a := cu) (b := si (x / 2)) (A := 2) (B := 2) bu.1.1 bu.1.2 bw.2.1 bw.2.2; grind)
  have n4 := Cl.mul 2 4 c2 (Cl.refl (si (x / 2)) (e := 0) (by grind)) bw.2 (by have := mul_abs (a := cv) (b := co (x / 2)) (A := 2) (B := 2) bv.1.1 bv.1.2 bw.1.1 bw.1.2; grind)
  have r1 := Cl.mul 2 5 dx.1 pu bu.1 (by have := bdq2 x; grind)
  have r2 := Cl.mul 2 5 dx.2.1 pv bv.1 (by have := bdq2 x; grind)
  have r3 := Cl.mul 4 2 dx.2.2 (Cl.sub pv pu) (by grind) (bdq2 x).2
  rw [show co κ * (si (x / 2) * co σ + co (x / 2) * si σ) = co κ * co σ * si (x / 2) + co κ * si σ * co (x / 2) by grind] at m1
  rw [show co κ * -(co (x / 2) * co σ - si (x / 2) * si σ) = co κ * si σ * si (x / 2) - co κ * co σ * co (x / 2) by grind] at m2
  generalize co κ * co (x / 2 + σ - 5400000) = y1 at *
  generalize co κ * si (x / 2 + σ - 5400000) = y2 at *
  rw [show 2 * (si (x / 2) * si (x / 2)) * cu = 2 * (cu * si (x / 2) * si (x / 2)) by grind, show (1 - co x) * (co (B / 2) * co (C / 2) - si (B / 2) * si (C / 2)) = co (B / 2) * co (C / 2) - si (B / 2) * si (C / 2) - co (B / 2) * co (C / 2) * co x + si (B / 2) * si (C / 2) * co x by grind] at r1
  rw [show 2 * (co (x / 2) * co (x / 2)) * cv = 2 * (cv * co (x / 2) * co (x / 2)) by grind, show (1 + co x) * (co (B / 2) * co (C / 2) + si (B / 2) * si (C / 2)) = co (B / 2) * co (C / 2) + si (B / 2) * si (C / 2) + co (B / 2) * co (C / 2) * co x + si (B / 2) * si (C / 2) * co x by grind] at r2
  rw [show 2 * (si (x / 2) * co (x / 2)) * (cv - cu) = 2 * (cv * co (x / 2) * si (x / 2)) - 2 * (cu * si (x / 2) * co (x / 2)) by grind, show si x * (co (B / 2) * co (C / 2) + si (B / 2) * si (C / 2) - (co (B / 2) * co (C / 2) - si (B / 2) * si (C / 2))) = 2 * (si (B / 2) * si (C / 2) * si x) by grind] at r3
  clear dx pu pv bk ad c1 c2 bw b2 b3 bu bv ww k0 k1
  generalize co (B / 2) * co (C / 2) * co x = z0 at *
  generalize co (B / 2) * co (C / 2) = z1 at *
  generalize si (B / 2) * si (C / 2) * co x = z2 at *
  generalize si (B / 2) * si (C / 2) * si x = z4 at *
  generalize si (B / 2) * si (C / 2) = z3 at *
  generalize cu * si (x / 2) * si (x / 2) = z5 at *
  generalize cv * co (x / 2) * co (x / 2) = z6 at *
  generalize cv * co (x / 2) * si (x / 2) = z7 at *
  generalize cu * si (x / 2) * co (x / 2) = z8 at *
  generalize co κ * co σ * si (x / 2) = z9 at *
  generalize co κ * si σ * co (x / 2) = z10 at *
  generalize co κ * si σ * si (x / 2) = z11 at *
  generalize co κ * co σ * co (x / 2) = z12 at *
  unfold Cl at *
  refine ⟨⟨?_, ?_⟩, ?_, ?_⟩ <;> grind
end Go.Proofs.YtipjnfabodfkcaaDoor
namespace Go.Proofs.YtipjnfabodfkcaaDoor
open SM TB TA
open Ev (lt keepE)
theorem noT_sym {B C x h : Rat} (k : Cl (5 * e0) (si h) (upT (5400000 - C) (5400000 - B) x)) : Cl (5 * e0) (si h) (upT (5400000 - B) (5400000 - C) x) := by
  have : upT (5400000 - B) (5400000 - C) x = upT (5400000 - C) (5400000 - B) x := by
    unfold upT
    grind
  rw [this]
  exact k
theorem tri8 {a b c : Rat} (ha : -2 ≤ a ∧ a ≤ 2) (hb : -2 ≤ b ∧ b ≤ 2) (hc : -2 ≤ c ∧ c ≤ 2) : -8 ≤ a * b * c ∧ a * b * c ≤ 8 := by
  have m := mul_abs ha.1 ha.2 hb.1 hb.2
  have n := mul_abs m.1 m.2 hc.1 hc.2
  constructor <;> grind
theorem turned (u v w : Rat) : Cl (e0 / 2) (co u * si w * (si u * si w) - co (-v) * co w * (si (-v) * co w)) (co u * si w * (si u * si w) + co v * co w * (si v * co w)) ∧ Cl (e0 / 2) (co u * si w * (si (-v) * co w) + co (-v) * co w * (si u * si w)) (co u * si w * (-(si v * co w)) + co v * co w * (si u * si w)) := by
  have n := negq v
  have ub := u0_bd
  have ee := ee0
  have bu := bdq2 u
  have bv := bdq2 v
  have bv' := bdq2 (-v)
  have bw := bdq2 w
  have t1 := tri8 bv'.2 bw.1 bw.1
  have t2 := tri8 bv.1 bw.1 bw.1
  have t3 := tri8 bu.1 bw.2 bw.1
  have t4 := tri8 bw.1 bu.2 bw.2
  unfold Cl at n
  have m1 := mul_abs (a := co (-v) - co v) (b := si (-v) * co w * co w) (A := 1200 * u0) (B := 8) n.1.1 n.1.2 t1.1 t1.2
  have m2 := mul_abs (a := si (-v) - -si v) (b := co v * co w * co w) (A := 1200 * u0) (B := 8) n.2.1 n.2.2 t2.1 t2.2
  have m3 := mul_abs (a := si (-v) - -si v) (b := co u * si w * co w) (A := 1200 * u0) (B := 8) n.2.1 n.2.2 t3.1 t3.2
  have m4 := mul_abs (a := co (-v) - co v) (b := co w * si u * si w) (A := 1200 * u0) (B := 8) n.1.1 n.1.2 t4.1 t4.2
  unfold Cl
  have i1 : co u * si w * (si u * si w) - co (-v) * co w * (si (-v) * co w) - (co u * si w * (si u * si w) + co v * co w * (si v * co w)) = -((co (-v) - co v) * (si (-v) * co w * co w)) - (si (-v) - -si v) * (co v * co w * co w) := by grind
  have i2 : co u * si w * (si (-v) * co w) + co (-v) * co w * (si u * si w) - (co u * si w * (-(si v * co w)) + co v * co w * (si u * si w)) = (si (-v) - -si v) * (co u * si w * co w) + (co (-v) - co v) * (co w * si u * si w) := by grind
  rw [i1, i2]
  generalize (co (-v) - co v) * (si (-v) * co w * co w) = x1 at *
  generalize (si (-v) - -si v) * (co v * co w * co w) = x2 at *
  generalize (si (-v) - -si v) * (co u * si w * co w) = x3 at *
  generalize (co (-v) - co v) * (co w * si u * si w) = x4 at *
  clear i1 i2 t1 t2 t3 t4 n bu bv bv' bw
  refine ⟨⟨?_, ?_⟩, ?_, ?_⟩ <;> grind
/-- From the direction of a vertex to its cosine formula. -/
theorem vert_end {A B C x κ θ N : Rat} {k : Rat} (hT : Tri (10 * e0) A B C x) (hA : Cl (20 * e0) (si A) (2 * k)) (k0 : 1 / 2 ^ 35 ≤ k) (k1 : k ≤ 4) (t0 : -5400000 ≤ θ) (t1 : θ ≤ 16200000) (c1 : Cl (pw 516) (k * co θ) (N / 2)) (c2 : -(pw 515) ≤ k * si θ) (hN : Cl (20 * e0) N (co B * si C - si B * co x * co C)) (_h : κ = κ) :
    ∃ θ' : Rat, 0 ≤ θ' ∧ θ' ≤ 10800000 ∧ Cl (pw 454) θ' θ ∧ Tri (pw 430) B A C θ' := by
  obtain ⟨w1, w2, w3, w4, w5, w6, w7, w8, w9, w10, w11, w12, w13, w14, w15, w16, w17, w18, w19, w20, w21, w22, w23, w24, w25, w26, w27, w28, w29⟩ := lvY
  have eb := e0_bd
  obtain ⟨θ', q0, q1, qc, qn⟩ := vert_angle k0 k1 t0 t1 c1 c2
  refine ⟨θ', q0, q1, qc, (vert_tri hT (ε := pw 435) ?_ (by grind)).wide w22⟩
  have b := bdq2 θ'
  have m := mul_abs (a := si A - 2 * k) (b := co θ') (A := 20 * e0) (B := 2) (by unfold Cl at hA; grind) (by unfold Cl at hA; grind) b.1.1 b.1.2
  have i : si A * co θ' = (si A - 2 * k) * co θ' + 2 * k * co θ' := by grind
  rw [i]
  generalize (si A - 2 * k) * co θ' = x1 at *
  generalize 2 * k * co θ' = x2 at *
  clear i hT hA qc b
  unfold Cl at *
  constructor <;> grind
theorem vertices {B C x h z : Rat} (hB : 0 ≤ B ∧ B ≤ 10800000) (hC : 0 ≤ C ∧ C ≤ 10800000) (hx : 0 ≤ x ∧ x ≤ 10800000) (s : Sees (5400000 - C) (5400000 - B) x h z) (big : 1 / 2 ^ 33 ≤ si (5400000 - h)) :
    ∃ B' C' ψ : Rat, (0 ≤ B' ∧ B' ≤ 10800000) ∧ (0 ≤ C' ∧ C' ≤ 10800000) ∧ Tri (pw 430) B (5400000 - h) C B' ∧ Tri (pw 430) C (5400000 - h) B C' ∧ Exq (5400000 - h) B C ψ ∧ Cl (pw 400) (4 * ψ) (x + B' + C' - 10800000) := by
  obtain ⟨w1, w2, w3, w4, w5, w6, w7, w8, w9, w10, w11, w12, w13, w14, w15, w16, w17, w18, w19, w20, w21, w22, w23, w24, w25, w26, w27, w28, w29⟩ := lvY
  have eb := e0_bd
  have ub := u0_bd
  have ee := ee0
  have hT : Tri (10 * e0) (5400000 - h) B C x := (tri_sees s).swap
  obtain ⟨h0, h1, _, _, k1, _, _⟩ := s
  have G := gauss (x := 5400000 - C) (y := 5400000 - B) (t := x) (h := h) (u := (B + C) / 2) (v := (B - C) / 2) (w := x / 2) (κ := (5400000 - h) / 2) (by grind) (by grind) (by rw [show x / 2 + x / 2 = x by grind]; exact ⟨rfl, rfl⟩) (by grind) (by grind) k1
  have G' := gauss (x := 5400000 - B) (y := 5400000 - C) (t := x) (h := h) (u := (B + C) / 2) (v := -((B - C) / 2)) (w := x / 2) (κ := (5400000 - h) / 2) (by grind) (by grind) (by rw [show x / 2 + x / 2 = x by grind]; exact ⟨rfl, rfl⟩) (by grind) (by grind) (noT_sym k1)
  obtain ⟨G1, G2, G3, G4, G5⟩ := G
  obtain ⟨_, _, H3, H4, _⟩ := G'
  have ch := (coq h).1
  have κ0 : 0 ≤ (5400000 - h) / 2 := by grind
  have κ1 : (5400000 - h) / 2 ≤ 5400000 := by grind
  have sκ := si_half κ0 κ1
  have cκ := (co_lat (show -5400000 ≤ (5400000 - h) / 2 by grind) κ1).1
  have bκ := bdq2 ((5400000 - h) / 2)
  have kk : 1 / 2 ^ 35 ≤ co ((5400000 - h) / 2) * si ((5400000 - h) / 2) := by
    unfold Cl at G5 ch
    grind
  have kc : 1 / 2 ^ 36 ≤ co ((5400000 - h) / 2) := by
    rcases (Rat.le_total : 1 / 2 ^ 36 ≤ co ((5400000 - h) / 2) ∨ co ((5400000 - h) / 2) ≤ 1 / 2 ^ 36) with g | g
    · exact g
    · have := Rat.mul_nonneg (show 0 ≤ 1 / 2 ^ 36 - co ((5400000 - h) / 2) by grind) sκ
      have b2 := (bdq ((5400000 - h) / 2)).2.2
      grind
  have ks : 1 / 2 ^ 36 ≤ si ((5400000 - h) / 2) := by
    rcases (Rat.le_total : 1 / 2 ^ 36 ≤ si ((5400000 - h) / 2) ∨ si ((5400000 - h) / 2) ≤ 1 / 2 ^ 36) with g | g
    · exact g
    · have := Rat.mul_nonneg (show 0 ≤ 1 / 2 ^ 36 - si ((5400000 - h) / 2) by grind) (show 0 ≤ co ((5400000 - h) / 2) by grind)
      have b2 := (bdq ((5400000 - h) / 2)).1.2
      grind
  -- the halves' bounds
  have x0 : 0 ≤ x / 2 := by grind
  have x1 : x / 2 ≤ 5400000 := by grind
  have sw := si_half x0 x1
  have cw := (co_lat (show -5400000 ≤ x / 2 by grind) x1).1
  have bw := bdq2 (x / 2)
  have su := si_up (show 0 ≤ (B + C) / 2 by grind) (show (B + C) / 2 ≤ 10800000 by grind)
  have bu := bdq2 ((B + C) / 2)
  have cv := (co_lat (show -5400000 ≤ (B - C) / 2 by grind) (show (B - C) / 2 ≤ 5400000 by grind)).1
  have bv := bdq2 ((B - C) / 2)
  have qlow : -(5 * e0) ≤ co ((B - C) / 2) * co (x / 2) := prod_low cv bv.1.2 cw bw.1.2
  have rlow : -(5 * e0) ≤ si ((B + C) / 2) * si (x / 2) := prod_low (by grind) bu.2.2 (by grind) bw.2.2
  -- the two directions
  obtain ⟨σ, σ0, σ1, a1, a2⟩ := aim (ρ := co ((5400000 - h) / 2)) (by grind) bκ.1.2 (G2.wide (show 16 * e0 ≤ 40 * e0 by grind))
  obtain ⟨δ, δ0, δ1, b1, b2⟩ := aim (ρ := si ((5400000 - h) / 2)) (by grind) bκ.2.2 (G1.wide (show 16 * e0 ≤ 40 * e0 by grind))
  obtain ⟨σ', s0, s1, a1', a2'⟩ := arm_up kc bκ.1.2 σ0 σ1 a1 a2 qlow
  obtain ⟨δ', d0, d1, b1', b2'⟩ := arm_right ks bκ.2.2 δ0 δ1 b1 b2 rlow
  have nδ := negq δ'
  have b3' : Cl (pw 521) (si ((5400000 - h) / 2) * co (-δ')) (si ((B + C) / 2) * si (x / 2)) := ((mul_cl sκ bκ.2.2 nδ.1).trans b1').wide (by grind)
  have b4' : Cl (pw 521) (si ((5400000 - h) / 2) * si (-δ')) (-(si ((B - C) / 2) * co (x / 2))) := by
    have m := mul_cl sκ bκ.2.2 nδ.2
    have n := b2'.neg
    rw [show si ((5400000 - h) / 2) * -si δ' = -(si ((5400000 - h) / 2) * si δ') by grind] at m
    exact (m.trans n).wide (by grind)
  have hX := half_exc a1' a2' (by grind) bκ.1.2
  have S1 := arm_sum (τ := pw 521) bκ.1 bκ.2 (by grind) w12 (a1'.wide (by grind)) (a2'.wide (by grind)) (b1'.wide (by grind)) (b2'.wide (by grind))
  have S2 := arm_sum (τ := pw 521) bκ.1 bκ.2 (by grind) w12 (a1'.wide (by grind)) (a2'.wide (by grind)) b3' b4'
  have N1 := @noT_co B C x
  have N2 := @noT_co C B x
  have nB := sin_nn hB hx
  have nC := sin_nn hC hx
  have T := turned ((B + C) / 2) ((B - C) / 2) (x / 2)
  have hA : Cl (20 * e0) (si (5400000 - h)) (2 * (co ((5400000 - h) / 2) * si ((5400000 - h) / 2))) := by
    clear S1 S2 N1 N2 T H3 H4 G3 G4 hX
    unfold Cl at *
    constructor <;> grind
  have k4 : co ((5400000 - h) / 2) * si ((5400000 - h) / 2) ≤ 4 := by
    have := mul_abs bκ.1.1 bκ.1.2 bκ.2.1 bκ.2.2
    grind
  have F1 := vert_end (κ := 0) (θ := σ' + δ') (N := noT (5400000 - C) (5400000 - B) x + (2 * (co ((B + C) / 2) * si (x / 2) * (si ((B + C) / 2) * si (x / 2)) - co ((B - C) / 2) * co (x / 2) * (si ((B - C) / 2) * co (x / 2))) - noT (5400000 - C) (5400000 - B) x)) hT hA kk k4 (by grind) (by grind) (by
      rw [show (noT (5400000 - C) (5400000 - B) x + (2 * (co ((B + C) / 2) * si (x / 2) * (si ((B + C) / 2) * si (x / 2)) - co ((B - C) / 2) * co (x / 2) * (si ((B - C) / 2) * co (x / 2))) - noT (5400000 - C) (5400000 - B) x)) / 2 = co ((B + C) / 2) * si (x / 2) * (si ((B + C) / 2) * si (x / 2)) - co ((B - C) / 2) * co (x / 2) * (si ((B - C) / 2) * co (x / 2)) by grind]
      exact S1.1.wide w10) (by
      have S := S1.2
      have N := N1.2
      clear S1 S2 N1 N2 T H3 H4 G3 hX hA G1 G2 a1 a2 a1' a2' b1 b2 b1' b2' b3' b4' nδ G5 ch
      generalize co ((B + C) / 2) * si (x / 2) * (si ((B - C) / 2) * co (x / 2)) + co ((B - C) / 2) * co (x / 2) * (si ((B + C) / 2) * si (x / 2)) = y1 at *
      generalize co ((5400000 - h) / 2) * si ((5400000 - h) / 2) * si (σ' + δ') = y2 at *
      generalize eaT (5400000 - B) x = y3 at *
      generalize si B * si x = y4 at *
      unfold Cl at *
      grind) (by
      have N := N1.1
      clear S1 S2 N1 N2 T H3 H4 G4 hX hA G1 G2 a1 a2 a1' a2' b1 b2 b1' b2' b3' b4' nδ G5 ch
      generalize co ((B + C) / 2) * si (x / 2) * (si ((B + C) / 2) * si (x / 2)) - co ((B - C) / 2) * co (x / 2) * (si ((B - C) / 2) * co (x / 2)) = y1 at *
      generalize noT (5400000 - C) (5400000 - B) x = y2 at *
      generalize co B * si C - si B * co x * co C = y3 at *
      unfold Cl at *
      constructor <;> grind) rfl
  have F2 := vert_end (κ := 0) (θ := σ' + -δ') (N := 2 * (co ((B + C) / 2) * si (x / 2) * (si ((B + C) / 2) * si (x / 2)) - co ((B - C) / 2) * co (x / 2) * (-(si ((B - C) / 2) * co (x / 2))))) hT.swap hA kk k4 (by grind) (by grind) (by
      rw [show (2 * (co ((B + C) / 2) * si (x / 2) * (si ((B + C) / 2) * si (x / 2)) - co ((B - C) / 2) * co (x / 2) * (-(si ((B - C) / 2) * co (x / 2))))) / 2 = co ((B + C) / 2) * si (x / 2) * (si ((B + C) / 2) * si (x / 2)) - co ((B - C) / 2) * co (x / 2) * (-(si ((B - C) / 2) * co (x / 2))) by grind]
      exact S2.1.wide w10) (by
      have S := S2.2
      have N := N2.2
      have T := T.2
      clear S1 S2 N1 N2 G3 G4 H3 hX hA G1 G2 a1 a2 a1' a2' b1 b2 b1' b2' b3' b4' nδ G5 ch
      generalize co ((B + C) / 2) * si (x / 2) * -(si ((B - C) / 2) * co (x / 2)) + co ((B - C) / 2) * co (x / 2) * (si ((B + C) / 2) * si (x / 2)) = y1 at *
      generalize co ((B + C) / 2) * si (x / 2) * (si (-((B - C) / 2)) * co (x / 2)) + co (-((B - C) / 2)) * co (x / 2) * (si ((B + C) / 2) * si (x / 2)) = y5 at *
      generalize co ((5400000 - h) / 2) * si ((5400000 - h) / 2) * si (σ' + -δ') = y2 at *
      generalize eaT (5400000 - C) x = y3 at *
      generalize si C * si x = y4 at *
      unfold Cl at *
      grind) (by
      have N := N2.1
      have T := T.1
      rw [show 2 * (co ((B + C) / 2) * si (x / 2) * (si ((B + C) / 2) * si (x / 2)) - co ((B - C) / 2) * co (x / 2) * -(si ((B - C) / 2) * co (x / 2))) = 2 * (co ((B + C) / 2) * si (x / 2) * (si ((B + C) / 2) * si (x / 2)) + co ((B - C) / 2) * co (x / 2) * (si ((B - C) / 2) * co (x / 2))) by grind]
      clear S1 S2 N1 N2 G3 G4 H4 hX hA G1 G2 a1 a2 a1' a2' b1 b2 b1' b2' b3' b4' nδ G5 ch
      generalize co ((B + C) / 2) * si (x / 2) * (si ((B + C) / 2) * si (x / 2)) + co ((B - C) / 2) * co (x / 2) * (si ((B - C) / 2) * co (x / 2)) = y1 at *
      generalize co ((B + C) / 2) * si (x / 2) * (si ((B + C) / 2) * si (x / 2)) - co (-((B - C) / 2)) * co (x / 2) * (si (-((B - C) / 2)) * co (x / 2)) = y5 at *
      generalize noT (5400000 - B) (5400000 - C) x = y2 at *
      generalize co C * si B - si C * co x * co B = y3 at *
      unfold Cl at *
      constructor <;> grind) rfl
  obtain ⟨B', p0, p1, pc, pT⟩ := F1
  obtain ⟨C', q0, q1, qc, qT⟩ := F2
  obtain ⟨ψ, m, hE, hψ⟩ := ex_psi (A := 5400000 - h) (η := x / 2 + σ' - 5400000) ⟨by grind, by grind⟩ hB hC hx hT (by grind) (by grind) (by grind) hX.1 hX.2
  refine ⟨B', C', ψ, ⟨p0, p1⟩, ⟨q0, q1⟩, pT, qT, hE, ?_⟩
  obtain ⟨e1', e2', _⟩ := hE
  clear pT qT hX S1 S2 N1 N2 T H3 H4 G3 G4 hA G1 G2 a1 a2 a1' a2' b1 b2 b1' b2' b3' b4' nδ G5 ch hT k1
  unfold Cl at hψ pc qc ⊢
  have hm : m = 0 := by
    rcases Int.lt_trichotomy m 0 with q | q | q
    · have := le_c (show m ≤ -1 by omega)
      rw [show ((-1 : Int) : Rat) = -1 by rfl] at this
      grind
    · exact q
    · have := le_c (show 1 ≤ m by omega)
      rw [show ((1 : Int) : Rat) = 1 by rfl] at this
      grind
  subst hm
  rw [show ((0 : Int) : Rat) = 0 by rfl] at hψ
  constructor <;> grind
end Go.Proofs.YtipjnfabodfkcaaDoor
namespace Go.Proofs.YtipjnfabodfkcaaDoor
open SM TB TA
open Ev (lt keepE)
theorem lvQ : pw 170 ≤ 1 / 8 ∧ pw 100 ≤ 1 / 8 ∧ pw 400 ≤ 1 / 8 ∧ 0 < pw 590 ∧ 10 * e0 ≤ pw 430 ∧ eT ≤ pw 519 ∧ pw 590 ≤ pw 588 ∧ 3 * pw 576 ≤ 1 / 8 ∧ pw 576 ≤ 1 / 4 ∧ 0 < pw 576 ∧ 0 < pw 588 := by decide +kernel
/-- Half of the side is near a right angle: the products are small. -/
theorem small_q {A B C x : Rat} (hA : 0 ≤ A ∧ A ≤ 10800000) (hB : 0 ≤ B ∧ B ≤ 10800000) (hC : 0 ≤ C ∧ C ≤ 10800000) (hT : Tri (10 * e0) A B C x) (h : co (A / 2) ≤ 1 / 2 ^ 70) :
    (-1 / 2 ^ 60 ≤ qC A B C ∧ qC A B C ≤ 1 / 2 ^ 60) ∧ (-1 / 2 ^ 60 ≤ qS A B C ∧ qS A B C ≤ 1 / 2 ^ 60) := by
  have eb := e0_bd
  have bd := cc_bd hB.1 hB.2 hC.1 hC.2
  have ba := half_bd hA.1 hA.2
  have v := vw hT hB hC
  obtain ⟨pc, ps⟩ := exq (a := A / 2) (b := B / 2) (c := C / 2) (P := (A + B + C) / 4) (M := (B + C - A) / 4) (N := (A + C - B) / 4) (R := (A + B - C) / 4) (by grind) (by grind) (by grind) hT (by grind) (by grind) (by grind) (by grind)
  unfold qC qS
  generalize pC ((A + B + C) / 4) ((B + C - A) / 4) ((A + C - B) / 4) ((A + B - C) / 4) = x1 at *
  generalize pS ((A + B + C) / 4) ((B + C - A) / 4) ((A + C - B) / 4) ((A + B - C) / 4) = x2 at *
  have m := Rat.mul_nonneg (show 0 ≤ 1 / 2 ^ 70 - co (A / 2) by grind) (show 0 ≤ 1 / 2 ^ 70 + co (A / 2) by grind)
  have w2 := sq_nn (si (B / 2) * si (C / 2) * si x)
  generalize si (B / 2) * si (C / 2) * si x = W at *
  generalize co (B / 2) * co (C / 2) + si (B / 2) * si (C / 2) * co x = V at *
  generalize co (B / 2) * co (C / 2) = u at *
  generalize co (A / 2) = α at *
  have bV := sqrt_small (z := V) (f := 1 / 2 ^ 69) (e := 1 / 2 ^ 138) (by grind) (by unfold Cl at v; grind) (by grind)
  have n1 := mul_abs (a := u) (b := α + V) (A := 2) (B := 1 / 2 ^ 67) (by grind) (by grind) (by grind) (by grind)
  have n2 := mul_abs (a := u) (b := α - V) (A := 2) (B := 1 / 2 ^ 67) (by grind) (by grind) (by grind) (by grind)
  generalize u * (α + V) = y1 at *
  generalize u * (α - V) = y2 at *
  unfold Cl at pc ps
  clear v m w2 bV bd ba hT
  refine ⟨⟨?_, ?_⟩, ?_, ?_⟩ <;> grind
/-- A quarter of the excess, or small products. -/
theorem psi_or {A B C x : Rat} (hA : 0 ≤ A ∧ A ≤ 10800000) (hB : 0 ≤ B ∧ B ≤ 10800000) (hC : 0 ≤ C ∧ C ≤ 10800000) (hx : 0 ≤ x ∧ x ≤ 10800000) (hT : Tri (10 * e0) A B C x) :
    (∃ ψ : Rat, Exq A B C ψ) ∨ ((-1 / 2 ^ 60 ≤ qC A B C ∧ qC A B C ≤ 1 / 2 ^ 60) ∧ (-1 / 2 ^ 60 ≤ qS A B C ∧ qS A B C ≤ 1 / 2 ^ 60)) := by
  obtain ⟨w1, w2, w3, w4, w5, w6, _⟩ := lvQ
  have eb := e0_bd
  rcases (Rat.le_total : co (A / 2) ≤ 1 / 2 ^ 70 ∨ 1 / 2 ^ 70 ≤ co (A / 2)) with g | g
  · exact .inr (small_q hA hB hC hT g)
  · left
    have b := bdq2 (A / 2)
    obtain ⟨η, n0, n1, k1, k2⟩ := aim (ρ := co (A / 2)) (by grind) b.1.2 ((vw hT hB hC).wide (show 20 * e0 ≤ 40 * e0 by grind))
    obtain ⟨ψ, _, h, _⟩ := ex_psi hA hB hC hx hT g n0 (by grind) (k1.wide w6) (k2.wide w6)
    exact ⟨ψ, h⟩
section
variable {a b c d e f : Int} {A B C : Rat} (h1 : 0 ≤ a ∧ a ≤ b ∧ b ≤ 10800000) (h2 : 0 ≤ c ∧ c ≤ d ∧ d ≤ 10800000) (h3 : 0 ≤ e ∧ e ≤ f ∧ f ≤ 10800000) (kA : Hs (pw 590) a b A) (kB : Hs (pw 590) c d B) (kC : Hs (pw 590) e f C)
include h1 h2 h3 kA kB kC
theorem exc_hold {ψ : Rat} (h : Exq A B C ψ) : (excE a b c d e f).2.2 = 24 ∨ ((excE a b c d e f).2.2 = 0 ∧ Hs (pw 100) (excE a b c d e f).1 (excE a b c d e f).2.1 (4 * ψ)) := by
  obtain ⟨p0, p1, l, l0, l1, c1, c2⟩ := h
  have v0 := prs_val h1 h2 h3
  have v1 : avalidB (prt 4 c d e f a b).1 (prt 4 c d e f a b).2 = true := prt_val (.inr rfl) h2 h3 h1
  have v2 : avalidB (prt 4 a b e f c d).1 (prt 4 a b e f c d).2 = true := prt_val (.inr rfl) h1 h3 h2
  have v3 : avalidB (prt 4 a b c d e f).1 (prt 4 a b c d e f).2 = true := prt_val (.inr rfl) h1 h2 h3
  obtain ⟨s1, s2, s3⟩ := exq_hold v0 v1 v2 v3 (prs_v kA kB kC) (prt4_v kB kC kA) (prt4_v kA kC kB) (prt4_v kA kB kC) p0 p1 l0 l1 c1 c2
  unfold excE exE
  rw [if_neg (by rw [s1, s2]; simp)]
  cases hf : fullB (beaT (sqtR (exS (prs a b c d e f) (prt 4 c d e f a b) (prt 4 a b e f c d) (prt 4 a b c d e f)).1 (exS (prs a b c d e f) (prt 4 c d e f a b) (prt 4 a b e f c d) (prt 4 a b c d e f)).2.1) (sqtR (exC (prs a b c d e f) (prt 4 c d e f a b) (prt 4 a b e f c d) (prt 4 a b c d e f)).1 (exC (prs a b c d e f) (prt 4 c d e f a b) (prt 4 a b e f c d) (prt 4 a b c d e f)).2.1)) with
  | true =>
    left
    rw [if_pos rfl]
  | false =>
    right
    rw [if_neg (by simp)]
    exact ⟨rfl, s3 hf⟩
theorem exc_small (h : (-1 / 2 ^ 60 ≤ qC A B C ∧ qC A B C ≤ 1 / 2 ^ 60) ∧ (-1 / 2 ^ 60 ≤ qS A B C ∧ qS A B C ≤ 1 / 2 ^ 60)) : (excE a b c d e f).2.2 = 24 := by
  have v0 := prs_val h1 h2 h3
  have v1 : avalidB (prt 4 c d e f a b).1 (prt 4 c d e f a b).2 = true := prt_val (.inr rfl) h2 h3 h1
  have v2 : avalidB (prt 4 a b e f c d).1 (prt 4 a b e f c d).2 = true := prt_val (.inr rfl) h1 h3 h2
  have v3 : avalidB (prt 4 a b c d e f).1 (prt 4 a b c d e f).2 = true := prt_val (.inr rfl) h1 h2 h3
  obtain ⟨s1, s2, s3⟩ := ex_small v0 v1 v2 v3 (prs_v kA kB kC) (prt4_v kB kC kA) (prt4_v kA kC kB) (prt4_v kA kB kC) h.1 h.2
  unfold excE exE
  rw [if_neg (by rw [s1, s2]; simp), s3, if_pos rfl]
omit h1 kA in
/-- The sines are too small: the pole. -/
theorem ang_zero (hB : 0 ≤ B ∧ B ≤ 10800000) (hC : 0 ≤ C ∧ C ≤ 10800000) (hs : si B * si C ≤ 1 / 2 ^ 31) : (angE (angT a b c d e f) (angL c d e f)).2.2 = 21 := by
  obtain ⟨w1, w2, w3, w4, w5, w6, w7, w8, w9, w10, w11⟩ := lvQ
  have eb := e0_bd
  have vB : avalidB c d = true := avalid_mk (by omega) h2.2.1 (by omega)
  have vC : avalidB e f = true := avalid_mk (by omega) h3.2.1 (by omega)
  have sB := (sp_v (p := (c, d)) vB (kB.wide w7 (Int.le_refl _) (Int.le_refl _))).1
  have sC := (sp_v (p := (e, f)) vC (kC.wide w7 (Int.le_refl _) (Int.le_refl _))).1
  have VL : Vl (angL c d e f) (3 * pw 576) (si B * si C) := mul_v (sin_one vB) (sin_one vC) (by grind) w9 sB sC
  have nn := sin_nn hB hC
  have k := VL.2.2
  unfold Hs at k
  have L0 : 0 ≤ (angL c d e f).2.1 := of_c (e := 3 / 4) (by rw [show ((0 : Int) : Rat) = 0 by rfl]; grind) (by grind)
  have L1 : (angL c d e f).1 ≤ 0 := of_c (e := 3 / 4) (by rw [show ((0 : Int) : Rat) = 0 by rfl]; grind) (by grind)
  unfold angE
  rw [if_pos ⟨L1, L0⟩]
end
theorem one_hs {a : Int} : Hs (pw 590) a a (a : Rat) := (Hs.at (Int.le_refl a) (Int.le_refl a)).wide (by have := lvQ.2.2.2.1; grind) (Int.le_refl _) (Int.le_refl _)
/-- What Side, Angle, and Excess answer for two sides and an angle. -/
theorem tri41 {a b c : Int} (sa : sideM a a = true) (sb : sideM b b = true) (c0 : 0 ≤ c) (c1 : c ≤ 10800000) :
    ∃ lo hi : Int, hsidM a a b b c c = (lo, hi, 0) ∧ 0 ≤ lo ∧ lo ≤ hi ∧ hi ≤ 10800000 ∧
      ((anglM lo hi a a b b).2.2 = 21 ∨ (anglM lo hi a a b b).2.2 = 24 ∨ ((anglM lo hi a a b b).2.2 = 0 ∧ (anglM lo hi a a b b).1 ≤ c ∧ c ≤ (anglM lo hi a a b b).2.1)) ∧
      ((excM lo hi a a b b).2.2 = 24 ∨ (excM lo hi a a b b).2.2 = 0) ∧ ((excM b b lo hi a a).2.2 = 24 ∨ (excM b b lo hi a a).2.2 = 0) ∧
      ((excM lo hi a a b b).2.2 = 0 → (excM b b lo hi a a).2.2 = 0 → (excM lo hi a a b b).1 ≤ (excM b b lo hi a a).2.1 ∧ (excM b b lo hi a a).1 ≤ (excM lo hi a a b b).2.1) ∧
      ((anglM a a lo hi b b).2.2 = 21 ∨ (anglM a a lo hi b b).2.2 = 24 ∨ ((anglM a a lo hi b b).2.2 = 0 ∧ 0 ≤ (anglM a a lo hi b b).1 ∧ (anglM a a lo hi b b).1 ≤ (anglM a a lo hi b b).2.1 ∧ (anglM a a lo hi b b).2.1 ≤ 10800000)) ∧
      ((anglM b b lo hi a a).2.2 = 21 ∨ (anglM b b lo hi a a).2.2 = 24 ∨ ((anglM b b lo hi a a).2.2 = 0 ∧ 0 ≤ (anglM b b lo hi a a).1 ∧ (anglM b b lo hi a a).1 ≤ (anglM b b lo hi a a).2.1 ∧ (anglM b b lo hi a a).2.1 ≤ 10800000)) ∧
      ((excM lo hi a a b b).2.2 = 0 → (anglM a a lo hi b b).2.2 = 0 → (anglM b b lo hi a a).2.2 = 0 → (excM lo hi a a b b).1 ≤ c + (anglM a a lo hi b b).2.1 + (anglM b b lo hi a a).2.1 - 10800000 ∧ c + (anglM a a lo hi b b).1 + (anglM b b lo hi a a).1 - 10800000 ≤ (excM lo hi a a b b).2.1) := by
  obtain ⟨w1, w2, w3, w4, w5, w6, w7, w8, w9, w10, w11⟩ := lvQ
  have eb := e0_bd
  obtain ⟨a0, _, a1, va⟩ := side_bd sa
  obtain ⟨b0, _, b1, vb⟩ := side_bd sb
  have h1 : 0 ≤ a ∧ a ≤ a ∧ a ≤ 10800000 := ⟨a0, Int.le_refl a, a1⟩
  have h2 : 0 ≤ b ∧ b ≤ b ∧ b ≤ 10800000 := ⟨b0, Int.le_refl b, b1⟩
  have vc : avalidB c c = true := avalid_mk (by omega) (Int.le_refl c) (by omega)
  have rB : 0 ≤ (a : Rat) ∧ (a : Rat) ≤ 10800000 := ⟨le_c (a := 0) a0, le_c (b := 10800000) a1⟩
  have rC : 0 ≤ (b : Rat) ∧ (b : Rat) ≤ 10800000 := ⟨le_c (a := 0) b0, le_c (b := 10800000) b1⟩
  have rx : 0 ≤ (c : Rat) ∧ (c : Rat) ≤ 10800000 := ⟨le_c (a := 0) c0, le_c (b := 10800000) c1⟩
  obtain ⟨h, z, s⟩ := sees (5400000 - (b : Rat)) (5400000 - (a : Rat)) (c : Rat)
  have hT : Tri (10 * e0) (5400000 - h) (a : Rat) (b : Rat) (c : Rat) := (tri_sees s).swap
  have rA : 0 ≤ 5400000 - h ∧ 5400000 - h ≤ 10800000 := by
    obtain ⟨g0, g1, _⟩ := s
    constructor <;> grind
  have S := sid_v h1 h2 vc (Hs.at (Int.le_refl a) (Int.le_refl a)) (Hs.at (Int.le_refl b) (Int.le_refl b)) (Hs.at (Int.le_refl c) (Int.le_refl c)) rA hT
  have eS := hsid_ok sa sb vc
  have V := @vertices (a : Rat) (b : Rat) (c : Rat) h z rB rC rx s
  have PO := psi_or rA rB rC rx hT
  obtain ⟨q1, q2, q3, q4, kA⟩ := S
  have eE : hsidM a a b b c c = ((ahavR (sidH a a b b c c).1 (sidH a a b b c c).2.1).1, (ahavR (sidH a a b b c c).1 (sidH a a b b c c).2.1).2.1, 0) := by
    rw [eS]
    unfold sidE
    rw [if_neg (by rw [q1]; simp)]
  refine ⟨_, _, eE, q2, q3, q4, ?_⟩
  clear eS eE q1 s
  generalize (ahavR (sidH a a b b c c).1 (sidH a a b b c c).2.1).1 = lo at *
  generalize (ahavR (sidH a a b b c c).1 (sidH a a b b c c).2.1).2.1 = hi at *
  generalize 5400000 - h = A at *
  have h0 : 0 ≤ lo ∧ lo ≤ hi ∧ hi ≤ 10800000 := ⟨q2, q3, q4⟩
  have sl : sideM lo hi = true := by
    unfold sideM
    rw [avalid_mk (by omega) q3 (by omega), decide_eq_true (show lo ≥ 0 from q2), decide_eq_true q4]
    rfl
  rw [angl_ok sl sa sb, angl_ok sa sl sb, angl_ok sb sl sa, exc_ok sl sa sb, exc_ok sb sl sa]
  have kB : Hs (pw 590) a a (a : Rat) := one_hs
  have kC : Hs (pw 590) b b (b : Rat) := one_hs
  -- the two other angles
  have W : (∃ B' C' ψ : Rat, (0 ≤ B' ∧ B' ≤ 10800000) ∧ (0 ≤ C' ∧ C' ≤ 10800000) ∧ Tri (pw 430) (a : Rat) A (b : Rat) B' ∧ Tri (pw 430) (b : Rat) A (a : Rat) C' ∧ Exq A (a : Rat) (b : Rat) ψ ∧ Cl (pw 400) (4 * ψ) ((c : Rat) + B' + C' - 10800000)) ∨ si A ≤ 1 / 2 ^ 33 := by
    rcases (Rat.le_total : 1 / 2 ^ 33 ≤ si A ∨ si A ≤ 1 / 2 ^ 33) with g | g
    · exact .inl (V g)
    · exact .inr g
  clear V
  have low : ∀ X : Rat, 0 ≤ X ∧ X ≤ 10800000 → si A ≤ 1 / 2 ^ 33 → si A * si X ≤ 1 / 2 ^ 31 := fun X hX g => by
    have sx := si_up hX.1 hX.2
    have sA := si_up rA.1 rA.2
    have bx := bdq2 X
    have ub := u0_bd
    have m := Rat.mul_nonneg (show 0 ≤ 1 / 2 ^ 33 - si A by grind) (show 0 ≤ si X + 22000 * u0 by grind)
    have m2 := Rat.mul_nonneg (show 0 ≤ 1 / 2 ^ 33 - si A by grind) (show 0 ≤ 22000 * u0 by grind)
    have m3 := Rat.mul_nonneg (show 0 ≤ si A + 22000 * u0 by grind) (show 0 ≤ 22000 * u0 by grind)
    have i : (1 / 2 ^ 33 - si A) * (si X + 22000 * u0) = 1 / 2 ^ 33 * si X - si A * si X + (1 / 2 ^ 33 - si A) * (22000 * u0) := by grind
    rw [i] at m
    have m4 : (1 / 2 ^ 33 - si A) * (22000 * u0) ≤ 1 / 2 ^ 40 := by
      have ee := ee0
      have := mul_abs (a := 1 / 2 ^ 33 - si A) (b := 22000 * u0) (A := 4) (B := 1 / 2 ^ 100) (by have := (bdq2 A).2; grind) (by have := (bdq2 A).2; grind) (by grind) (by grind)
      grind
    generalize (1 / 2 ^ 33 - si A) * (22000 * u0) = y1 at *
    generalize si A * si X = y2 at *
    clear i m2 m3
    grind
  have P := ang_v3 h0 h1 h2 kA kB kC rB rC rx.1 rx.2 (hT.wide w5)
  refine ⟨?_, ?_⟩
  · rcases P with P | P | P
    · exact .inl P
    · exact .inr (.inl P)
    · refine .inr (.inr ⟨P.1, ?_⟩)
      have k := P.2.1
      unfold Hs at k
      exact ⟨of_c (e := pw 170) (by grind) (by grind), of_c (e := pw 170) k.2 (by grind)⟩
  clear P
  refine ⟨?_, ?_, ?_, ?_, ?_, ?_⟩
  · rcases PO with ⟨ψ, hp⟩ | hp
    · rcases exc_hold h0 h1 h2 kA kB kC hp with g | g
      · exact .inl g
      · exact .inr g.1
    · exact .inl (exc_small h0 h1 h2 kA kB kC hp)
  · rcases PO with ⟨ψ, hp⟩ | hp
    · rcases exc_hold h2 h0 h1 kC kA kB hp.rot with g | g
      · exact .inl g
      · exact .inr g.1
    · exact .inl (exc_small h2 h0 h1 kC kA kB (by rw [(q_rot A (a : Rat) (b : Rat)).1, (q_rot A (a : Rat) (b : Rat)).2]; exact hp))
  · intro e1 e2
    rcases PO with ⟨ψ, hp⟩ | hp
    · rcases exc_hold h0 h1 h2 kA kB kC hp with g | g
      · rw [e1] at g; cases g
      rcases exc_hold h2 h0 h1 kC kA kB hp.rot with k | k
      · rw [e2] at k; cases k
      exact g.2.meet k.2 (by grind)
    · have := exc_small h0 h1 h2 kA kB kC hp
      rw [e1] at this
      cases this
  · rcases W with ⟨B', C', ψ, r1, r2, t1, t2, _⟩ | g
    · rcases ang_v3 h1 h0 h2 kB kA kC rA rC r1.1 r1.2 t1 with P | P | P
      · exact .inl P
      · exact .inr (.inl P)
      · exact .inr (.inr ⟨P.1, P.2.2.1, P.2.2.2.1, P.2.2.2.2.1⟩)
    · exact .inl (ang_zero h0 h2 kA kC rA rC (low _ rC g))
  · rcases W with ⟨B', C', ψ, r1, r2, t1, t2, _⟩ | g
    · rcases ang_v3 h2 h0 h1 kC kA kB rA rB r2.1 r2.2 t2 with P | P | P
      · exact .inl P
      · exact .inr (.inl P)
      · exact .inr (.inr ⟨P.1, P.2.2.1, P.2.2.2.1, P.2.2.2.2.1⟩)
    · exact .inl (ang_zero h0 h1 kA kB rA rB (low _ rB g))
  · intro e1 e2 e3
    rcases W with ⟨B', C', ψ, r1, r2, t1, t2, hE, hc⟩ | g
    · rcases exc_hold h0 h1 h2 kA kB kC hE with g | g
      · rw [e1] at g; cases g
      rcases ang_v3 h1 h0 h2 kB kA kC rA rC r1.1 r1.2 t1 with P | P | P
      · rw [e2] at P; cases P
      · rw [e2] at P; cases P
      rcases ang_v3 h2 h0 h1 kC kA kB rA rB r2.1 r2.2 t2 with Q | Q | Q
      · rw [e3] at Q; cases Q
      · rw [e3] at Q; cases Q
      have k1 := g.2
      have k2 := P.2.1
      have k3 := Q.2.1
      unfold Hs at k1 k2 k3
      unfold Cl at hc
      constructor
      · refine of_c (e := 7 / 8) ?_ (by grind)
        rw [Rat.intCast_sub, Rat.intCast_add, Rat.intCast_add, show ((10800000 : Int) : Rat) = 10800000 by rfl]
        grind
      · refine of_c (e := 7 / 8) ?_ (by grind)
        rw [Rat.intCast_sub, Rat.intCast_add, Rat.intCast_add, show ((10800000 : Int) : Rat) = 10800000 by rfl]
        grind
    · have := ang_zero (a := a) (b := a) h0 h2 kA kC rA rC (low _ rC g)
      rw [e2] at this
      cases this
end Go.Proofs.YtipjnfabodfkcaaDoor

/-
  A divided triangle: no error comes; and its arcs hold the true altitude and azimuth. No program here.
-/
import Derived.Test.YtmididlfnajhiaaGreatDoorHc
import Derived.Test.YtmididlfnajhiaaGreatDoorFa
namespace Go.Proofs.YtmididlfnajhiaaGreatDoor
open SM TB TA
open Ev (lt keepE)
noncomputable section
def wesE (c d e f : Int) : Int × Int × Int := mulR (cosR c d).1 (cosR c d).2.1 (sinR e f).1 (sinR e f).2.1
def norE (c d e f : Int) : Int × Int × Int := mulR (cosR c d).1 (cosR c d).2.1 (cosR e f).1 (cosR e f).2.1
def perE (c d e f : Int) : Int × Int × Int := asinR (wesE c d e f).1 (wesE c d e f).2.1
def fooE (c d e f : Int) : Int × Int × Int := bearR (sinR c d).1 (sinR c d).2.1 (norE c d e f).1 (norE c d e f).2.1
end
theorem div_one {a b c d e f : Int} (h : triB a b c d e f = true) : OneR (wesE c d e f) ∧ OneR (norE c d e f) ∧ LatR (perE c d e f) ∧ DirR (fooE c d e f) := by
  obtain ⟨h1, h2, h3⟩ := tri_bd h
  have l2 := (lat_bd h2).1
  have w : OneR (wesE c d e f) := mul_ones (cos_one l2) (sin_one h3)
  have n : OneR (norE c d e f) := mul_ones (cos_one l2) (cos_one h3)
  exact ⟨w, n, asin_one w, bea_dir (sin_one l2).val n.val⟩
noncomputable section
def awaA (a b c d e f : Int) : Int × Int := ((fooE c d e f).1 - b, (fooE c d e f).2.1 - a)
def crE (c d e f : Int) : Int × Int × Int := cosR (perE c d e f).1 (perE c d e f).2.1
def caE (a b c d e f : Int) : Int × Int × Int := cosR (awaA a b c d e f).1 (awaA a b c d e f).2
def saE (a b c d e f : Int) : Int × Int × Int := sinR (awaA a b c d e f).1 (awaA a b c d e f).2
def upM (a b c d e f : Int) : Int × Int × Int := mulR (crE c d e f).1 (crE c d e f).2.1 (caE a b c d e f).1 (caE a b c d e f).2.1
def noM (a b c d e f : Int) : Int × Int × Int := mulR (crE c d e f).1 (crE c d e f).2.1 (saE a b c d e f).1 (saE a b c d e f).2.1
def altE (a b c d e f : Int) : Int × Int × Int := asinR (upM a b c d e f).1 (upM a b c d e f).2.1
def eaM (c d e f : Int) : Int × Int × Int := negR (wesE c d e f).1 (wesE c d e f).2.1
def azE (a b c d e f : Int) : Int × Int × Int := bearR (eaM c d e f).1 (eaM c d e f).2.1 (noM a b c d e f).1 (noM a b c d e f).2.1
end
theorem sol_one {a b c d e f : Int} (h : triB a b c d e f = true) : avalidB (awaA a b c d e f).1 (awaA a b c d e f).2 = true ∧ asubR (fooE c d e f).1 (fooE c d e f).2.1 a b = ((awaA a b c d e f).1, (awaA a b c d e f).2, 0) ∧ OneR (crE c d e f) ∧ OneR (caE a b c d e f) ∧ OneR (saE a b c d e f) ∧ OneR (upM a b c d e f) ∧ OneR (noM a b c d e f) ∧ LatR (altE a b c d e f) ∧ OneR (eaM c d e f) ∧ DirR (azE a b c d e f) := by
  obtain ⟨h1, h2, h3⟩ := tri_bd h
  have l1 := lat_bd h1
  obtain ⟨w, n, p, q⟩ := div_one h
  have hv : avalidB (awaA a b c d e f).1 (awaA a b c d e f).2 = true := by
    obtain ⟨q1, q2, q3, q4, _⟩ := q
    unfold awaA
    exact avalid_mk (by dsimp only; omega) (by dsimp only; omega) (by dsimp only; omega)
  have hs : asubR (fooE c d e f).1 (fooE c d e f).2.1 a b = ((awaA a b c d e f).1, (awaA a b c d e f).2, 0) := by
    obtain ⟨q1, q2, q3, q4, _⟩ := q
    rw [asub_ok (by omega) q2 (by omega) (by omega) (by omega) (by omega)]
    rfl
  have k1 : OneR (crE c d e f) := cos_one p.val
  have k2 : OneR (caE a b c d e f) := cos_one hv
  have k3 : OneR (saE a b c d e f) := sin_one hv
  have k4 : OneR (upM a b c d e f) := mul_ones k1 k2
  have k5 : OneR (noM a b c d e f) := mul_ones k1 k3
  have k6 : OneR (eaM c d e f) := (neg_one w).2
  exact ⟨hv, hs, k1, k2, k3, k4, k5, asin_one k4, k6, bea_dir k6.val k5.val⟩
theorem sol_ok {a b c d e f : Int} (h : triB a b c d e f = true) : solM a b c d e f = ((altE a b c d e f).1, (altE a b c d e f).2.1, (azE a b c d e f).1, (azE a b c d e f).2.1, 0) := by
  obtain ⟨h1, h2, h3⟩ := tri_bd h
  have l2 := (lat_bd h2).1
  obtain ⟨w, n, p, q⟩ := div_one h
  obtain ⟨hv, hs, k1, k2, k3, k4, k5, k6, k7, k8⟩ := sol_one h
  unfold solM
  rw [h]
  simp only [lt, Bool.not_true, cond_false]
  have c1 : gcosC 0 c d = 0 := by unfold gcosC; rw [(cos_one l2).2.2.2]; rfl
  have c2 : gsinC 0 e f = 0 := by unfold gsinC; rw [(sin_one h3).2.2.2]; rfl
  have m1 : gmulC 0 (gcosV c d).1 (gcosV c d).2 (gsinV e f).1 (gsinV e f).2 = 0 := by
    show keepE 0 (wesE c d e f).2.2 = 0
    rw [w.2.2.2]; rfl
  have v1 : gmulV (gcosV c d).1 (gcosV c d).2 (gsinV e f).1 (gsinV e f).2 = ((wesE c d e f).1, (wesE c d e f).2.1) := rfl
  have a1 : gasinC 0 (wesE c d e f).1 (wesE c d e f).2.1 = 0 := by
    show keepE 0 (perE c d e f).2.2 = 0
    rw [p.2.2.2]; rfl
  have u1 : gasinV (wesE c d e f).1 (wesE c d e f).2.1 = ((perE c d e f).1, (perE c d e f).2.1) := rfl
  have c3 : gsinC 0 c d = 0 := by unfold gsinC; rw [(sin_one l2).2.2.2]; rfl
  have c4 : gcosC 0 e f = 0 := by unfold gcosC; rw [(cos_one h3).2.2.2]; rfl
  have m2 : gmulC 0 (gcosV c d).1 (gcosV c d).2 (gcosV e f).1 (gcosV e f).2 = 0 := by
    show keepE 0 (norE c d e f).2.2 = 0
    rw [n.2.2.2]; rfl
  have v2 : gmulV (gcosV c d).1 (gcosV c d).2 (gcosV e f).1 (gcosV e f).2 = ((norE c d e f).1, (norE c d e f).2.1) := rfl
  have b1 : gbeaC 0 (gsinV c d).1 (gsinV c d).2 (norE c d e f).1 (norE c d e f).2.1 = 0 := by
    show keepE 0 (fooE c d e f).2.2 = 0
    rw [q.2.2.2.2]; rfl
  have u2 : gbeaV (gsinV c d).1 (gsinV c d).2 (norE c d e f).1 (norE c d e f).2.1 = ((fooE c d e f).1, (fooE c d e f).2.1) := rfl
  rw [c1, c2, m1, v1]
  dsimp only
  rw [a1, u1, c3, c4, m2, v2]
  dsimp only
  rw [b1, u2]
  dsimp only
  rw [hs]
  dsimp only
  have d0 : arcC 0 (awaA a b c d e f).1 (awaA a b c d e f).2 0 = 0 := rfl
  have d1 : arcW (awaA a b c d e f).1 (awaA a b c d e f).2 0 = ((awaA a b c d e f).1, (awaA a b c d e f).2) := rfl
  have d2 : gcosC 0 (perE c d e f).1 (perE c d e f).2.1 = 0 := by unfold gcosC; rw [(cos_one p.val).2.2.2]; rfl
  have d3 : gcosC 0 (awaA a b c d e f).1 (awaA a b c d e f).2 = 0 := by unfold gcosC; rw [(cos_one hv).2.2.2]; rfl
  have d4 : gsinC 0 (awaA a b c d e f).1 (awaA a b c d e f).2 = 0 := by unfold gsinC; rw [(sin_one hv).2.2.2]; rfl
  have y1 : gcosV (perE c d e f).1 (perE c d e f).2.1 = ((crE c d e f).1, (crE c d e f).2.1) := rfl
  have y2 : gcosV (awaA a b c d e f).1 (awaA a b c d e f).2 = ((caE a b c d e f).1, (caE a b c d e f).2.1) := rfl
  have y3 : gsinV (awaA a b c d e f).1 (awaA a b c d e f).2 = ((saE a b c d e f).1, (saE a b c d e f).2.1) := rfl
  rw [d0, d1]
  dsimp only
  rw [d2, d3, y1, y2, y3]
  dsimp only
  have g1 : gmulC 0 (crE c d e f).1 (crE c d e f).2.1 (caE a b c d e f).1 (caE a b c d e f).2.1 = 0 := by
    show keepE 0 (upM a b c d e f).2.2 = 0
    rw [k4.2.2.2]; rfl
  have g2 : gmulV (crE c d e f).1 (crE c d e f).2.1 (caE a b c d e f).1 (caE a b c d e f).2.1 = ((upM a b c d e f).1, (upM a b c d e f).2.1) := rfl
  have g3 : gmulC 0 (crE c d e f).1 (crE c d e f).2.1 (saE a b c d e f).1 (saE a b c d e f).2.1 = 0 := by
    show keepE 0 (noM a b c d e f).2.2 = 0
    rw [k5.2.2.2]; rfl
  have g4 : gmulV (crE c d e f).1 (crE c d e f).2.1 (saE a b c d e f).1 (saE a b c d e f).2.1 = ((noM a b c d e f).1, (noM a b c d e f).2.1) := rfl
  rw [g1, g2]
  dsimp only
  have g5 : gasinC 0 (upM a b c d e f).1 (upM a b c d e f).2.1 = 0 := by
    show keepE 0 (altE a b c d e f).2.2 = 0
    rw [k6.2.2.2]; rfl
  have g6 : gasinV (upM a b c d e f).1 (upM a b c d e f).2.1 = ((altE a b c d e f).1, (altE a b c d e f).2.1) := rfl
  have g7 : gnegC 0 (wesE c d e f).1 (wesE c d e f).2.1 = 0 := by
    show keepE 0 (eaM c d e f).2.2 = 0
    rw [k7.2.2.2]; rfl
  have g8 : gnegV (wesE c d e f).1 (wesE c d e f).2.1 = ((eaM c d e f).1, (eaM c d e f).2.1) := rfl
  rw [g5, g6, c1, c2, m1, g7, g8, d4, g3, g4]
  dsimp only
  have g9 : gbeaC 0 (eaM c d e f).1 (eaM c d e f).2.1 (noM a b c d e f).1 (noM a b c d e f).2.1 = 0 := by
    show keepE 0 (azE a b c d e f).2.2 = 0
    rw [k8.2.2.2.2]; rfl
  rw [g9]
  rfl
def eK : Rat := pw 480
def dK : Rat := pw 500
def dR : Rat := pw 598
theorem lvA : 0 < eK ∧ 0 < dK ∧ 0 < dR ∧ 100000 * (15 * e1 + 1073741824 * (5 * e0) + 4 * e1) ≤ dR * dR ∧ 15 * e1 + 1073741824 * (5 * e0) ≤ 1 / 4 ∧ 2 ^ 64 * (15 * e1 + 1073741824 * (2 * eT) + 2 * e1) ≤ dK ∧ 15 * e1 + 1073741824 * (2 * eT) ≤ 1 / 2 ^ 91 ∧ 2000 * dR + 5 * e1 ≤ eK ∧ 2000 * dK + 5 * e1 ≤ eK ∧ dK ≤ 1 ∧ dR ≤ 1 ∧
    100000 * (3 * eK + 1073741824 * (100 * eT) + 4 * e1) ≤ pw 230 * pw 230 ∧ 0 ≤ pw 230 ∧ pw 230 ≤ dS ∧ 3 * eK + 1073741824 * (100 * eT) ≤ 1 / 2 ^ 91 ∧ 2 ^ 64 * (3 * eK + 1073741824 * (100 * eT) + 2 * e1) ≤ dS ∧ 15 * e1 ≤ 3 * eK ∧ eK ≤ 1 / 100 ∧ 16000 * u0 ≤ eT ∧ 10 * e0 ≤ eT ∧ 0 < eT := by decide +kernel
theorem div_hold {a b c d e f : Int} {y t : Rat} (h : triB a b c d e f = true) (hy : Hs 0 c d y) (ht : Hs 0 e f t) {r k : Rat} (r0 : -5400000 ≤ r) (r1 : r ≤ 5400000) (k1 : Cl (5 * e0) (si r) (co y * si t)) (k2 : Cl eT (co r * co k) (co y * co t)) (k3 : Cl eT (co r * si k) (si y)) :
    Hs dR (perE c d e f).1 (perE c d e f).2.1 r ∧ Dr dK (fooE c d e f).1 (fooE c d e f).2.1 k ∧ Vl (wesE c d e f) (15 * e1) (co y * si t) := by
  obtain ⟨w1, w2, w3, w4, w5, w6, w7, w8, w9, w10, w11, w12, w13, w14, w15, w16, w17, w18, w19, w20, w21⟩ := lvA
  have e1b := e1_bd
  have e0b := e0_bd
  obtain ⟨h1, h2, h3⟩ := tri_bd h
  have l2 := (lat_bd h2).1
  have s2 := sin_one l2
  have c2 := cos_one l2
  have s3 := sin_one h3
  have c3 := cos_one h3
  have S2 := sin_at l2 hy
  have C2 := cos_at l2 hy
  have S3 := sin_at h3 ht
  have C3 := cos_at h3 ht
  have m1 : Vl (wesE c d e f) (15 * e1) (co y * si t) := (mul_v c2 s3 (by grind) (by grind) C2 S3).wide (by grind)
  have m2 : Vl (norE c d e f) (15 * e1) (co y * co t) := (mul_v c2 c3 (by grind) (by grind) C2 C3).wide (by grind)
  have cl := co_lat r0 r1
  obtain ⟨ρ, ρ0, ρ1, hn, he⟩ := len_pos cl.1 cl.2 k2 k3
  exact ⟨(asin_v m1 k1 r0 r1 (by grind) (by grind) (by grind) w5 w4).2, (bear_v (S2.wide (f := 15 * e1) (by grind)) m2 he hn ρ0 (by grind) (by grind) (by grind) w7).2.wide w6, m1⟩
theorem ageton_hold {a b c d e f : Int} (h : triB a b c d e f = true) : Hold a b c d e f (altE a b c d e f) (azE a b c d e f) := by
  obtain ⟨w1, w2, w3, w4, w5, w6, w7, w8, w9, w10, w11, w12, w13, w14, w15, w16, w17, w18, w19, w20, w21⟩ := lvA
  have e1b := e1_bd
  have e0b := e0_bd
  obtain ⟨h1, h2, h3⟩ := tri_bd h
  obtain ⟨W, N, P, Q⟩ := div_one h
  obtain ⟨hv, hs, o1, o2, o3, o4, o5, o6, o7, o8⟩ := sol_one h
  have key : ∀ x y t : Rat, Hs 0 a b x → Hs 0 c d y → Hs 0 e f t → ∀ h' z : Rat, Sees x y t h' z → ∃ A B : Rat, Vl (upM a b c d e f) (3 * eK) A ∧ Vl (noM a b c d e f) (3 * eK) B ∧ Cl (20 * eT) (upT x y t) A ∧ Cl (20 * eT) (noT x y t) B ∧ Vl (eaM c d e f) (3 * eK) (eaT y t) := by
    intro x y t x0 y0 t0 h' z' s'
    obtain ⟨r, k, r0, r1, k0, k1', k1, k2, k3⟩ := foot y t
    obtain ⟨hR, ⟨m, hK⟩, hW⟩ := div_hold h y0 t0 r0 r1 k1 k2 k3
    have hA : Hs dK (awaA a b c d e f).1 (awaA a b c d e f).2 ((k - x) + 21600000 * (m : Rat)) := by
      unfold Hs at hK x0 ⊢
      unfold awaA
      dsimp only
      rw [Rat.intCast_sub, Rat.intCast_sub]
      generalize ((fooE c d e f).1 : Rat) = p at *
      generalize ((fooE c d e f).2.1 : Rat) = q at *
      generalize (m : Rat) = m' at *
      constructor <;> grind
    have cr : Vl (crE c d e f) eK (co r) := (cos_v P.val (by grind) w11 hR).wide w8
    have ca := (cos_v hv (by grind) w10 hA).wide w9
    have sa := (sin_v hv (by grind) w10 hA).wide w9
    have tq := turn_eq (k - x) m
    rw [tq.1] at ca
    rw [tq.2] at sa
    have sq := subq k x
    have br := (bdq2 r).1
    have bx := bdq2 x
    have g1 := Cl.mul 2 4 k2 (Cl.refl (co x) (e := 0) (by grind)) bx.1 (by have := mul_abs (bdq2 y).1.1 (bdq2 y).1.2 (bdq2 t).1.1 (bdq2 t).1.2; grind)
    have g2 := Cl.mul 2 4 k3 (Cl.refl (si x) (e := 0) (by grind)) bx.2 (by have := (bdq2 y).2; grind)
    have g3 := Cl.mul 2 4 k3 (Cl.refl (co x) (e := 0) (by grind)) bx.1 (by have := (bdq2 y).2; grind)
    have g4 := Cl.mul 2 4 k2 (Cl.refl (si x) (e := 0) (by grind)) bx.2 (by have := mul_abs (bdq2 y).1.1 (bdq2 y).1.2 (bdq2 t).1.1 (bdq2 t).1.2; grind)
    have q1 := mul_abs br.1 br.2 sq.1.1 sq.1.2
    have q2 := mul_abs br.1 br.2 sq.2.1 sq.2.2
    refine ⟨co r * co (k - x), co r * si (k - x), mul_v o1 o2 (by grind) (by grind) cr ca, mul_v o1 o3 (by grind) (by grind) cr sa, ?_, ?_, ?_⟩
    · rw [show co r * (co (k - x) - (co k * co x + si k * si x)) = co r * co (k - x) - (co r * co k * co x + co r * si k * si x) by grind] at q1
      unfold upT
      unfold Cl at *
      generalize co r * co (k - x) = v1 at *
      generalize co r * co k * co x = v2 at *
      generalize co r * si k * si x = v3 at *
      rw [show si x * si y + co x * co y * co t = co y * co t * co x + si y * si x by grind]
      generalize co y * co t * co x = v4 at *
      generalize si y * si x = v5 at *
      clear g3 g4 q2 sq hR hK hA s' k1 k2 k3
      constructor <;> grind
    · rw [show co r * (si (k - x) - (si k * co x - co k * si x)) = co r * si (k - x) - (co r * si k * co x - co r * co k * si x) by grind] at q2
      unfold noT
      unfold Cl at *
      generalize co r * si (k - x) = v1 at *
      generalize co r * si k * co x = v2 at *
      generalize co r * co k * si x = v3 at *
      generalize co y * co t * si x = v4 at *
      generalize si y * co x = v5 at *
      clear g1 g2 q1 sq hR hK hA s' k1 k2 k3
      constructor <;> grind
    · exact (neg_v W hW).wide w17
  refine ⟨o6, o8, bear_form o7.val o5.val, ?_, ?_⟩
  · intro x y t x0 y0 t0 h' z' s'
    obtain ⟨A, B, vA, vB, cA, cB, vE⟩ := key x y t x0 y0 t0 h' z' s'
    obtain ⟨g0, g1, z0, z1, k1, k2, k3⟩ := s'
    exact ((asin_v vA ((k1.trans cA).wide (f := 100 * eT) (by grind)) g0 g1 (by grind) (by grind) w13 (by grind) w12).2).wide w14 (Int.le_refl _) (Int.le_refl _)
  · intro x y t x0 y0 t0 h' z' s'
    obtain ⟨A, B, vA, vB, cA, cB, vE⟩ := key x y t x0 y0 t0 h' z' s'
    obtain ⟨g0, g1, z0, z1, k1, k2, k3⟩ := s'
    have cl := co_lat g0 g1
    obtain ⟨ρ, ρ0, ρ1, hn, he⟩ := len_pos cl.1 cl.2 k2 k3
    exact (bear_v vE vB (he.wide (f := 100 * eT) (by grind)) ((hn.trans cB).wide (f := 100 * eT) (by grind)) ρ0 (by grind) (by grind) (by grind) w15).2.wide w16
end Go.Proofs.YtmididlfnajhiaaGreatDoor

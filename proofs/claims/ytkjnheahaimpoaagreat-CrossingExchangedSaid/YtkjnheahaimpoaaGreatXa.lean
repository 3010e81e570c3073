/-
  halfangle.Angle: its closed form, and that the angle by three sides holds the true one. No program here.
-/
import Derived.Test.YtkjnheahaimpoaaGreatFa
import Derived.Test.YtkjnheahaimpoaaGreatHv
namespace Go.Proofs.YtkjnheahaimpoaaGreat
open SM TB TA
open Ev (lt keepE)
theorem ee0 : e0 = 1048576 * u0 := rfl
def mulT (r s : Int × Int × Int) : Int × Int × Int := mulR r.1 r.2.1 s.1 s.2.1
theorem half_v {a b : Int} {e q : Rat} (he : 0 ≤ e) (h : Hs e a b (2 * q)) : Hs e (a / 2) (-(-b / 2)) q := by
  unfold Hs at *
  have e0 : ((-1 : Int) : Rat) = -1 := rfl
  have l : ((a / 2 * 2 : Int) : Rat) ≤ (a : Rat) := le_c (by omega)
  have u : ((-b / 2 * 2 : Int) : Rat) ≤ ((-b : Int) : Rat) := le_c (by omega)
  rw [Rat.intCast_mul, show ((2 : Int) : Rat) = 2 by rfl] at l
  rw [Rat.intCast_mul, Rat.intCast_neg, show ((2 : Int) : Rat) = 2 by rfl] at u
  rw [Rat.intCast_neg]
  generalize ((a / 2 : Int) : Rat) = p at *
  generalize ((-b / 2 : Int) : Rat) = s at *
  constructor <;> grind
theorem lt_eq {α β : Type} {x y : α} {f : α → β} {r : β} (h : x = y) (k : f y = r) : lt x f = r := by
  subst h
  exact k
theorem k0 {e : Int} (h : e = 0) : keepE 0 e = 0 := by
  rw [h]
  rfl
theorem aadd_ok {a b c d : Int} (h1 : -100000000 ≤ a) (h2 : a ≤ b) (h3 : b ≤ 100000000) (h4 : -100000000 ≤ c) (h5 : c ≤ d) (h6 : d ≤ 100000000) :
    aaddR a b c d = (a + c, b + d, 0) := by
  unfold aaddR
  rw [if_pos ⟨avalid_mk (by omega) h2 (by omega), avalid_mk (by omega) h5 (by omega)⟩]
  unfold resR fitsB
  rw [if_pos ⟨decide_eq_true (by omega), decide_eq_true (by omega)⟩]
theorem tim_ok {a b n d : Int} (h1 : -100000000 ≤ a) (h2 : a ≤ b) (h3 : b ≤ 100000000) (h : (n = 1 ∧ (d = 2 ∨ d = 4)) ∨ (d = 1 ∧ (n = 2 ∨ n = 4))) : timR a b n d = ((a * n) / d, -(-(b * n) / d), 0) := by
  unfold timR
  rw [if_pos (avalid_mk (by omega) h2 (by omega)), if_pos (by omega)]
  have l : a * n ≤ b * n := Int.mul_le_mul_of_nonneg_right h2 (by omega)
  have e1 : mn (a * n) (b * n) = a * n := by unfold mn; split <;> omega
  have e2 : mx (a * n) (b * n) = b * n := by unfold mx; split <;> omega
  rw [e1, e2]
  unfold resR fitsB
  have q : -1000000000 ≤ a * n / d ∧ a * n / d ≤ 1000000000 ∧ -1000000000 ≤ -(b * n) / d ∧ -(b * n) / d ≤ 1000000000 := by
    rcases h with ⟨rfl, rfl | rfl⟩ | ⟨rfl, rfl | rfl⟩ <;> omega
  rw [if_pos ⟨decide_eq_true (by omega), decide_eq_true (by omega)⟩]
theorem side_bd {a b : Int} (h : sideM a b = true) : 0 ≤ a ∧ a ≤ b ∧ b ≤ 10800000 ∧ avalidB a b = true := by
  unfold sideM at h
  cases h1 : avalidB a b with
  | false => rw [h1] at h; cases h
  | true =>
    have v := aval_bd h1
    rw [h1, cond_true] at h
    by_cases h2 : a ≥ 0
    · rw [decide_eq_true h2, cond_true] at h
      have := of_decide_eq_true h
      exact ⟨h2, by omega, this, rfl⟩
    · rw [decide_eq_false h2] at h; cases h
def prt (n a b c d e f : Int) : Int × Int := ((a + c - f) / n, -(-(b + d - e) / n))
def sp (p : Int × Int) : Int × Int × Int := sinR p.1 p.2
def cp (p : Int × Int) : Int × Int × Int := cosR p.1 p.2
theorem prt_val {n a b c d e f : Int} (hn : n = 2 ∨ n = 4) (h1 : 0 ≤ a ∧ a ≤ b ∧ b ≤ 10800000) (h2 : 0 ≤ c ∧ c ≤ d ∧ d ≤ 10800000) (h3 : 0 ≤ e ∧ e ≤ f ∧ f ≤ 10800000) : avalidB (prt n a b c d e f).1 (prt n a b c d e f).2 = true := by
  unfold prt
  rcases hn with rfl | rfl <;> exact avalid_mk (by dsimp only; omega) (by dsimp only; omega) (by dsimp only; omega)
theorem prt_tim {n a b c d e f : Int} (hn : n = 2 ∨ n = 4) (h1 : 0 ≤ a ∧ a ≤ b ∧ b ≤ 10800000) (h2 : 0 ≤ c ∧ c ≤ d ∧ d ≤ 10800000) (h3 : 0 ≤ e ∧ e ≤ f ∧ f ≤ 10800000) : timR (a + c - f) (b + d - e) 1 n = ((prt n a b c d e f).1, (prt n a b c d e f).2, 0) := by
  rw [tim_ok (by omega) (by omega) (by omega) (.inl ⟨rfl, hn⟩), Int.mul_one, Int.mul_one]
  rfl
def angT (a b c d e f : Int) : Int × Int × Int := mulT (sp (prt 2 a b e f c d)) (sp (prt 2 a b c d e f))
def angL (c d e f : Int) : Int × Int × Int := mulT (sinR c d) (sinR e f)
noncomputable def angZ (T L : Int × Int × Int) : Int × Int × Int := if L.1 ≤ 0 ∧ 0 ≤ L.2.1 then (0, 0, 21) else if (divR T.1 T.2.1 L.1 L.2.1).2.2 ≠ 0 then (0, 0, 24) else if (ahavR (divR T.1 T.2.1 L.1 L.2.1).1 (divR T.1 T.2.1 L.1 L.2.1).2.1).2.2 ≠ 0 then (0, 0, 12) else ((ahavR (divR T.1 T.2.1 L.1 L.2.1).1 (divR T.1 T.2.1 L.1 L.2.1).2.1).1, (ahavR (divR T.1 T.2.1 L.1 L.2.1).1 (divR T.1 T.2.1 L.1 L.2.1).2.1).2.1, 0)
theorem ang_end {T L : Int × Int × Int} (hT : validB T.1 T.2.1 = true) (hL : validB L.1 L.2.1 = true) :
    (lt (divR T.1 T.2.1 L.1 L.2.1) fun x25 => cond (x25.2.2 == 16) ((0 : Int), (0 : Int), (21 : Int)) (cond (x25.2.2 == 5) (0, 0, 24) (lt (ahavR x25.1 x25.2.1) fun x26 => cond (x26.2.2 != 0) (0, 0, 12) (x26.1, x26.2.1, 0)))) = angZ T L := by
  unfold angZ
  simp only [lt]
  by_cases z : L.1 ≤ 0 ∧ 0 ≤ L.2.1
  · have e : (divR T.1 T.2.1 L.1 L.2.1).2.2 = 16 := by
      unfold divR
      rw [if_pos (both_mk hT hL), if_pos (by simp [zeroB, z])]
    rw [e, if_pos z]
    rfl
  · rw [if_neg z]
    rcases div_err hT hL z with e | e
    · rw [e, if_neg (by decide)]
      by_cases g : (ahavR (divR T.1 T.2.1 L.1 L.2.1).1 (divR T.1 T.2.1 L.1 L.2.1).2.1).2.2 = 0
      · rw [g, if_neg (by decide)]
        rfl
      · rw [if_pos g, bne_iff_ne.2 g]
        rfl
    · rw [e, if_pos (by decide)]
      rfl
theorem angT_one {a b c d e f : Int} (h1 : 0 ≤ a ∧ a ≤ b ∧ b ≤ 10800000) (h2 : 0 ≤ c ∧ c ≤ d ∧ d ≤ 10800000) (h3 : 0 ≤ e ∧ e ≤ f ∧ f ≤ 10800000) : OneR (angT a b c d e f) ∧ OneR (angL c d e f) :=
  ⟨mul_ones (sin_one (prt_val (.inl rfl) h1 h3 h2)) (sin_one (prt_val (.inl rfl) h1 h2 h3)), mul_ones (sin_one (avalid_mk (by omega) h2.2.1 (by omega))) (sin_one (avalid_mk (by omega) h3.2.1 (by omega)))⟩
theorem angl_ok {a b c d e f : Int} (s1 : sideM a b = true) (s2 : sideM c d = true) (s3 : sideM e f = true) : anglM a b c d e f = angZ (angT a b c d e f) (angL c d e f) := by
  obtain ⟨a0, a1, a2, va⟩ := side_bd s1
  obtain ⟨b0, b1, b2, vb⟩ := side_bd s2
  have h1 : 0 ≤ a ∧ a ≤ b ∧ b ≤ 10800000 := ⟨a0, a1, a2⟩
  have h2 : 0 ≤ c ∧ c ≤ d ∧ d ≤ 10800000 := ⟨b0, b1, b2⟩
  obtain ⟨c0, c1, c2, vc⟩ := side_bd s3
  have h3 : 0 ≤ e ∧ e ≤ f ∧ f ≤ 10800000 := ⟨c0, c1, c2⟩
  obtain ⟨oT, oL⟩ := angT_one h1 h2 h3
  unfold anglM
  rw [s1, s2, s3, Bool.not_true, cond_false, cond_false, cond_false]
  refine lt_eq (show wplusV a b e f = (a + e, b + f) from by unfold wplusV; rw [aadd_ok (by omega) (by omega) (by omega) (by omega) (by omega) (by omega)]) ?_
  (try dsimp only)
  refine lt_eq (show wplusC 0 a b e f = 0 from k0 (by rw [aadd_ok (by omega) (by omega) (by omega) (by omega) (by omega) (by omega)])) ?_
  (try dsimp only)
  refine lt_eq (show wminV (a + e) (b + f) c d = (a + e - d, b + f - c) from by unfold wminV; rw [asub_ok (by omega) (by omega) (by omega) (by omega) (by omega) (by omega)]) ?_
  (try dsimp only)
  refine lt_eq (show wminC 0 (a + e) (b + f) c d = 0 from k0 (by rw [asub_ok (by omega) (by omega) (by omega) (by omega) (by omega) (by omega)])) ?_
  (try dsimp only)
  refine lt_eq (show wpartV (a + e - d) (b + f - c) 1 2 = ((prt 2 a b e f c d).1, (prt 2 a b e f c d).2) from by unfold wpartV; rw [prt_tim (.inl rfl) h1 h3 h2]) ?_
  (try dsimp only)
  refine lt_eq (show wpartC 0 (a + e - d) (b + f - c) 1 2 = 0 from k0 (by rw [prt_tim (.inl rfl) h1 h3 h2])) ?_
  (try dsimp only)
  refine lt_eq (show wplusV a b c d = (a + c, b + d) from by unfold wplusV; rw [aadd_ok (by omega) (by omega) (by omega) (by omega) (by omega) (by omega)]) ?_
  (try dsimp only)
  refine lt_eq (show wplusC 0 a b c d = 0 from k0 (by rw [aadd_ok (by omega) (by omega) (by omega) (by omega) (by omega) (by omega)])) ?_
  (try dsimp only)
  refine lt_eq (show wminV (a + c) (b + d) e f = (a + c - f, b + d - e) from by unfold wminV; rw [asub_ok (by omega) (by omega) (by omega) (by omega) (by omega) (by omega)]) ?_
  (try dsimp only)
  refine lt_eq (show wminC 0 (a + c) (b + d) e f = 0 from k0 (by rw [asub_ok (by omega) (by omega) (by omega) (by omega) (by omega) (by omega)])) ?_
  (try dsimp only)
  refine lt_eq (show wpartV (a + c - f) (b + d - e) 1 2 = ((prt 2 a b c d e f).1, (prt 2 a b c d e f).2) from by unfold wpartV; rw [prt_tim (.inl rfl) h1 h2 h3]) ?_
  (try dsimp only)
  refine lt_eq (show wpartC 0 (a + c - f) (b + d - e) 1 2 = 0 from k0 (by rw [prt_tim (.inl rfl) h1 h2 h3])) ?_
  (try dsimp only)
  refine lt_eq (show wsinV (prt 2 a b e f c d).1 (prt 2 a b e f c d).2 = ((sinR (prt 2 a b e f c d).1 (prt 2 a b e f c d).2).1, (sinR (prt 2 a b e f c d).1 (prt 2 a b e f c d).2).2.1) from rfl) ?_
  (try dsimp only)
  refine lt_eq (show wsinC 0 (prt 2 a b e f c d).1 (prt 2 a b e f c d).2 = 0 from k0 (sin_one (prt_val (.inl rfl) h1 h3 h2)).2.2.2) ?_
  (try dsimp only)
  refine lt_eq (show wsinV (prt 2 a b c d e f).1 (prt 2 a b c d e f).2 = ((sinR (prt 2 a b c d e f).1 (prt 2 a b c d e f).2).1, (sinR (prt 2 a b c d e f).1 (prt 2 a b c d e f).2).2.1) from rfl) ?_
  (try dsimp only)
  refine lt_eq (show wsinC 0 (prt 2 a b c d e f).1 (prt 2 a b c d e f).2 = 0 from k0 (sin_one (prt_val (.inl rfl) h1 h2 h3)).2.2.2) ?_
  (try dsimp only)
  refine lt_eq (show wmulV (sinR (prt 2 a b e f c d).1 (prt 2 a b e f c d).2).1 (sinR (prt 2 a b e f c d).1 (prt 2 a b e f c d).2).2.1 (sinR (prt 2 a b c d e f).1 (prt 2 a b c d e f).2).1 (sinR (prt 2 a b c d e f).1 (prt 2 a b c d e f).2).2.1 = ((angT a b c d e f).1, (angT a b c d e f).2.1) from rfl) ?_
  (try dsimp only)
  refine lt_eq (show wmulC 0 (sinR (prt 2 a b e f c d).1 (prt 2 a b e f c d).2).1 (sinR (prt 2 a b e f c d).1 (prt 2 a b e f c d).2).2.1 (sinR (prt 2 a b c d e f).1 (prt 2 a b c d e f).2).1 (sinR (prt 2 a b c d e f).1 (prt 2 a b c d e f).2).2.1 = 0 from k0 oT.2.2.2) ?_
  (try dsimp only)
  refine lt_eq (show wsinV c d = ((sinR c d).1, (sinR c d).2.1) from rfl) ?_
  (try dsimp only)
  refine lt_eq (show wsinC 0 c d = 0 from k0 (sin_one vb).2.2.2) ?_
  (try dsimp only)
  refine lt_eq (show wsinV e f = ((sinR e f).1, (sinR e f).2.1) from rfl) ?_
  (try dsimp only)
  refine lt_eq (show wsinC 0 e f = 0 from k0 (sin_one vc).2.2.2) ?_
  (try dsimp only)
  refine lt_eq (show wmulV (sinR c d).1 (sinR c d).2.1 (sinR e f).1 (sinR e f).2.1 = ((angL c d e f).1, (angL c d e f).2.1) from rfl) ?_
  (try dsimp only)
  refine lt_eq (show wmulC 0 (sinR c d).1 (sinR c d).2.1 (sinR e f).1 (sinR e f).2.1 = 0 from k0 oL.2.2.2) ?_
  (try dsimp only)
  rw [show ((0 : Int) != 0) = false from rfl, cond_false]
  exact ang_end oT.val oL.val
def Tri (ε A B C x : Rat) : Prop := Cl ε (co A) (co B * co C + si B * si C * co x)
theorem lvU : 3 * pw 590 ≤ pw 588 ∧ 0 < pw 588 ∧ pw 588 ≤ 1 ∧ 2000 * pw 588 + 5 * e1 ≤ pw 576 ∧ 0 < pw 576 ∧ 27 * pw 576 ≤ pw 571 ∧ pw 571 ≤ 1 / 4 ∧ pw 571 + 1073741824 * (pw 400 + 8 * e0) ≤ pw 369 ∧ 0 < pw 369 ∧ pw 369 ≤ 1 / 4 ∧ 1073741824 * pw 369 ≤ pw 338 ∧ 0 < pw 338 ∧ pw 338 ≤ pw 169 * pw 169 ∧ 0 < pw 169 ∧ pw 338 ≤ pw 169 ∧ pw 169 + 1073741824 * pw 300 ≤ 1 / 2 ^ 91 ∧ 2 ^ 64 * (pw 169 + 1073741824 * pw 300 + 2 * e1) ≤ pw 104 ∧ 4 * pw 104 ≤ pw 100 ∧ pw 104 ≤ 1 / 8 ∧ 0 < pw 300 ∧ 2 * e0 ≤ pw 300 ∧ 0 < pw 590 ∧ pw 590 ≤ pw 588 ∧ 0 < pw 104 := by decide +kernel
theorem lvA2 : 3 * pw 576 + 1073741824 * (pw 430 + e0) ≤ pw 399 ∧ 0 < pw 399 ∧ pw 576 ≤ 1 / 4 ∧ 3 * pw 576 ≤ pw 399 ∧ 8589934592 * pw 399 ≤ pw 366 ∧ 0 < pw 366 ∧ 2 * pw 366 + 2 * e1 + 2147483648 * e0 ≤ 1 / 4 ∧ 100000 * (2 * pw 366 + 2 * e1 + 2147483648 * e0 + 4 * e1) ≤ pw 170 * pw 170 ∧ 0 < pw 170 ∧ pw 399 ≤ 1 / 4 ∧ 0 < pw 430 ∧ pw 430 ≤ 1 / 4 ∧
    1073741824 * (20 * e0) ≤ e1 ∧ 2 * (60 * e1) + 2 * e1 + 2147483648 * e0 ≤ 1 / 4 ∧ 100000 * (2 * (60 * e1) + 2 * e1 + 2147483648 * e0 + 4 * e1) ≤ pw 590 * pw 590 := by decide +kernel
theorem prt2_v {a b c d e f : Int} {A B C : Rat} (hA : Hs (pw 590) a b A) (hB : Hs (pw 590) c d B) (hC : Hs (pw 590) e f C) : Hs (pw 588) (prt 2 a b c d e f).1 (prt 2 a b c d e f).2 ((A + B - C) / 2) := by
  obtain ⟨w1, w2, _⟩ := lvU
  have h := (hA.add hB).sub hC
  unfold prt
  dsimp only
  refine half_v (by grind) ?_
  rw [show 2 * ((A + B - C) / 2) = A + B - C by grind]
  exact h.wide (by grind) (Int.le_refl _) (Int.le_refl _)
theorem sp_v {p : Int × Int} {P : Rat} (hv : avalidB p.1 p.2 = true) (h : Hs (pw 588) p.1 p.2 P) : Vl (sp p) (pw 576) (si P) ∧ Vl (cp p) (pw 576) (co P) := by
  obtain ⟨w1, w2, w3, w4, _⟩ := lvU
  exact ⟨(sin_v hv (by grind) w3 h).wide w4, (cos_v hv (by grind) w3 h).wide w4⟩
theorem sin_nn {B C : Rat} (hB : 0 ≤ B ∧ B ≤ 10800000) (hC : 0 ≤ C ∧ C ≤ 10800000) : -e0 ≤ si B * si C := by
  have b := si_up hB.1 hB.2
  have c := si_up hC.1 hC.2
  have bb := bdq2 B
  have bc := bdq2 C
  have ub := u0_bd
  have ee := ee0
  have m := Rat.mul_nonneg (show 0 ≤ si B + 22000 * u0 by grind) (show 0 ≤ si C + 22000 * u0 by grind)
  have m2 := Rat.mul_nonneg (show 0 ≤ u0 by grind) (show 0 ≤ 2 - si B by grind)
  have m3 := Rat.mul_nonneg (show 0 ≤ u0 by grind) (show 0 ≤ 2 - si C by grind)
  have m4 : u0 * u0 ≤ u0 / 1000000 := by decide +kernel
  have i : (si B + 22000 * u0) * (si C + 22000 * u0) = si B * si C + 22000 * (u0 * si B) + 22000 * (u0 * si C) + 484000000 * (u0 * u0) := by grind
  rw [i] at m
  have i2 : u0 * (2 - si B) = 2 * u0 - u0 * si B := by grind
  have i3 : u0 * (2 - si C) = 2 * u0 - u0 * si C := by grind
  rw [i2] at m2
  rw [i3] at m3
  generalize si B * si C = x1 at *
  generalize u0 * si B = x2 at *
  generalize u0 * si C = x3 at *
  generalize u0 * u0 = x4 at *
  clear i i2 i3 b c bb bc
  grind
theorem ang_v3 {a b c d e f : Int} {A B C X : Rat} (h1 : 0 ≤ a ∧ a ≤ b ∧ b ≤ 10800000) (h2 : 0 ≤ c ∧ c ≤ d ∧ d ≤ 10800000) (h3 : 0 ≤ e ∧ e ≤ f ∧ f ≤ 10800000)
    (kA : Hs (pw 590) a b A) (kB : Hs (pw 590) c d B) (kC : Hs (pw 590) e f C) (hB : 0 ≤ B ∧ B ≤ 10800000) (hC : 0 ≤ C ∧ C ≤ 10800000) (X0 : 0 ≤ X) (X1 : X ≤ 10800000) (hT : Tri (pw 430) A B C X) :
    (angZ (angT a b c d e f) (angL c d e f)).2.2 = 21 ∨ (angZ (angT a b c d e f) (angL c d e f)).2.2 = 24 ∨
    ((angZ (angT a b c d e f) (angL c d e f)).2.2 = 0 ∧ Hs (pw 170) (angZ (angT a b c d e f) (angL c d e f)).1 (angZ (angT a b c d e f) (angL c d e f)).2.1 X ∧ 0 ≤ (angZ (angT a b c d e f) (angL c d e f)).1 ∧ (angZ (angT a b c d e f) (angL c d e f)).1 ≤ (angZ (angT a b c d e f) (angL c d e f)).2.1 ∧ (angZ (angT a b c d e f) (angL c d e f)).2.1 ≤ 10800000 ∧ 1 / 2 ^ 31 ≤ si B * si C) := by
  obtain ⟨w1, w2, w3, w4, w5, w6, w7, _⟩ := lvU
  have w23 : pw 590 ≤ pw 588 := by decide +kernel
  obtain ⟨v1, v2, v3, v4, v5, v6, v7, v8, v9, v10, v11, v12, v13, v14, v15⟩ := lvA2
  have eb := e0_bd
  have ub := u0_bd
  have ee := ee0
  have vP : avalidB (prt 2 a b e f c d).1 (prt 2 a b e f c d).2 = true := prt_val (.inl rfl) h1 h3 h2
  have vN : avalidB (prt 2 a b c d e f).1 (prt 2 a b c d e f).2 = true := prt_val (.inl rfl) h1 h2 h3
  have vB : avalidB c d = true := avalid_mk (by omega) h2.2.1 (by omega)
  have vC : avalidB e f = true := avalid_mk (by omega) h3.2.1 (by omega)
  obtain ⟨oT, oL⟩ := angT_one h1 h2 h3
  have sB := (sp_v (p := (c, d)) vB (kB.wide w23 (Int.le_refl _) (Int.le_refl _))).1
  have sC := (sp_v (p := (e, f)) vC (kC.wide w23 (Int.le_refl _) (Int.le_refl _))).1
  have VT : Vl (angT a b c d e f) (3 * pw 576) (si ((A + C - B) / 2) * si ((A + B - C) / 2)) := mul_v (sin_one vP) (sin_one vN) (by grind) v3 (sp_v vP (prt2_v kA kC kB)).1 (sp_v vN (prt2_v kA kB kC)).1
  have VL : Vl (angL c d e f) (3 * pw 576) (si B * si C) := mul_v (sin_one vB) (sin_one vC) (by grind) v3 sB sC
  have key : Cl (pw 430 + e0) (si B * si C * ((1 - co X) / 2)) (si ((A + C - B) / 2) * si ((A + B - C) / 2)) := by
    have p := (addq ((A + C - B) / 2) ((A + B - C) / 2)).1
    have q := (subq ((A + C - B) / 2) ((A + B - C) / 2)).1
    have r := (subq C B).1
    rw [show (A + C - B) / 2 + (A + B - C) / 2 = A by grind] at p
    rw [show (A + C - B) / 2 - (A + B - C) / 2 = C - B by grind] at q
    unfold Tri at hT
    rw [show co C * co B + si C * si B = co B * co C + si B * si C by grind] at r
    rw [show si B * si C * ((1 - co X) / 2) = (si B * si C - si B * si C * co X) / 2 by grind]
    clear VT VL sB sC kA kB kC
    generalize si ((A + C - B) / 2) * si ((A + B - C) / 2) = x1 at *
    generalize co ((A + C - B) / 2) * co ((A + B - C) / 2) = x2 at *
    generalize si B * si C * co X = x3 at *
    generalize si B * si C = x4 at *
    generalize co B * co C = x5 at *
    unfold Cl at *
    constructor <;> grind
  have NT := (VT.near key).wide v1
  have NL := VL.wide v4
  have nn := sin_nn hB hC
  clear VT VL
  generalize angT a b c d e f = T at *
  generalize angL c d e f = L at *
  unfold angZ
  by_cases z : L.1 ≤ 0 ∧ 0 ≤ L.2.1
  · left
    rw [if_pos z]
  rw [if_neg z]
  by_cases g : (divR T.1 T.2.1 L.1 L.2.1).2.2 = 0
  · right; right
    have L0 : 0 ≤ L.2.1 := by
      have k := NL.2.2
      unfold Hs at k
      exact of_c (e := 3 / 4) (by rw [show ((0 : Int) : Rat) = 0 by rfl]; grind) (by grind)
    have d0 : 1 ≤ L.1 := by omega
    have bx := (bdq X).1
    have D := div_v NT NL d0 (by grind) (by grind) (by grind) g
    have cX := (coq X).1
    have AH := ahav_v (D.wide v5) (q := 5400000 - X) (t := e0) (d := pw 170) (by
      rw [show 1 - 2 * ((1 - co X) / 2) = co X by grind]
      exact cX.wide (by grind)) (by grind) (by grind) (by grind) (by grind) (by grind) v7 v8
    rw [show 5400000 - (5400000 - X) = X by grind] at AH
    obtain ⟨q1, q2, q3, q4, q5⟩ := AH
    rw [if_neg (by rw [g]; simp), if_neg (by rw [q1]; simp)]
    refine ⟨rfl, q5, q2, q3, q4, ?_⟩
    have k := NL.2.2
    unfold Hs at k
    have d1 := le_c d0
    rw [show ((1 : Int) : Rat) = 1 by rfl] at d1
    grind
  · right; left
    rw [if_pos g]
theorem Tri.swap {ε A B C x : Rat} (h : Tri ε A B C x) : Tri ε A C B x := by
  unfold Tri at *
  rw [show co C * co B + si C * si B * co x = co B * co C + si B * si C * co x by grind]
  exact h
theorem Tri.wide {ε f A B C x : Rat} (h : Tri ε A B C x) (k : ε ≤ f) : Tri f A B C x := Cl.wide h k
end Go.Proofs.YtkjnheahaimpoaaGreat

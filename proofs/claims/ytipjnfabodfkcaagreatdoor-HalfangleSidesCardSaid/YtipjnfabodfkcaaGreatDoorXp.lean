/-
  halfangle.Angle, Side, Excess: what they answer, as closed forms. No program here.
-/
import Derived.Test.YtipjnfabodfkcaaGreatDoorFp
import Derived.Test.YtipjnfabodfkcaaGreatDoorHv
namespace Go.Proofs.YtipjnfabodfkcaaGreatDoor
open SM TB TA
open Ev (lt keepE)
theorem side_bd {a b : Int} (h : sideM a b = true) : 0 ≤ a ∧ a ≤ b ∧ b ≤ 10800000 ∧ avalidB a b = true := by
  unfold sideM at h
  cases h1 : avalidB a b with
  | false => rw [h1] at h; cases h
  | true =>
    have v := aval_bd h1
    rw [h1, cond_true] at h
    by_cases h2 : a ≥ 0
    · rw [decide_eq_true h2, cond_true] at h
      have := of_decide_eq_true h
      exact ⟨h2, by omega, this, rfl⟩
    · rw [decide_eq_false h2] at h; cases h
def prt (n a b c d e f : Int) : Int × Int := ((a + c - f) / n, -(-(b + d - e) / n))
def prs (a b c d e f : Int) : Int × Int := ((a + c + e) / 4, -(-(b + d + f) / 4))
def sp (p : Int × Int) : Int × Int × Int := sinR p.1 p.2
def cp (p : Int × Int) : Int × Int × Int := cosR p.1 p.2
theorem prt_val {n a b c d e f : Int} (hn : n = 2 ∨ n = 4) (h1 : 0 ≤ a ∧ a ≤ b ∧ b ≤ 10800000) (h2 : 0 ≤ c ∧ c ≤ d ∧ d ≤ 10800000) (h3 : 0 ≤ e ∧ e ≤ f ∧ f ≤ 10800000) : avalidB (prt n a b c d e f).1 (prt n a b c d e f).2 = true := by
  unfold prt
  rcases hn with rfl | rfl <;> exact avalid_mk (by dsimp only; omega) (by dsimp only; omega) (by dsimp only; omega)
theorem prs_val {a b c d e f : Int} (h1 : 0 ≤ a ∧ a ≤ b ∧ b ≤ 10800000) (h2 : 0 ≤ c ∧ c ≤ d ∧ d ≤ 10800000) (h3 : 0 ≤ e ∧ e ≤ f ∧ f ≤ 10800000) : avalidB (prs a b c d e f).1 (prs a b c d e f).2 = true := by
  unfold prs
  exact avalid_mk (by dsimp only; omega) (by dsimp only; omega) (by dsimp only; omega)
theorem prt_tim {n a b c d e f : Int} (hn : n = 2 ∨ n = 4) (h1 : 0 ≤ a ∧ a ≤ b ∧ b ≤ 10800000) (h2 : 0 ≤ c ∧ c ≤ d ∧ d ≤ 10800000) (h3 : 0 ≤ e ∧ e ≤ f ∧ f ≤ 10800000) : timR (a + c - f) (b + d - e) 1 n = ((prt n a b c d e f).1, (prt n a b c d e f).2, 0) := by
  rw [tim_ok (by omega) (by omega) (by omega) (.inl ⟨rfl, hn⟩), Int.mul_one, Int.mul_one]
  rfl
theorem prs_tim {a b c d e f : Int} (h1 : 0 ≤ a ∧ a ≤ b ∧ b ≤ 10800000) (h2 : 0 ≤ c ∧ c ≤ d ∧ d ≤ 10800000) (h3 : 0 ≤ e ∧ e ≤ f ∧ f ≤ 10800000) : timR (a + c + e) (b + d + f) 1 4 = ((prs a b c d e f).1, (prs a b c d e f).2, 0) := by
  rw [tim_ok (by omega) (by omega) (by omega) (.inl ⟨rfl, .inr rfl⟩), Int.mul_one, Int.mul_one]
  rfl
def angT (a b c d e f : Int) : Int × Int × Int := mulT (sp (prt 2 a b e f c d)) (sp (prt 2 a b c d e f))
def angL (c d e f : Int) : Int × Int × Int := mulT (sinR c d) (sinR e f)
noncomputable def angZ (T L : Int × Int × Int) : Int × Int × Int := if L.1 ≤ 0 ∧ 0 ≤ L.2.1 then (0, 0, 21) else if (divR T.1 T.2.1 L.1 L.2.1).2.2 ≠ 0 then (0, 0, 24) else if (ahavR (divR T.1 T.2.1 L.1 L.2.1).1 (divR T.1 T.2.1 L.1 L.2.1).2.1).2.2 ≠ 0 then (0, 0, 12) else ((ahavR (divR T.1 T.2.1 L.1 L.2.1).1 (divR T.1 T.2.1 L.1 L.2.1).2.1).1, (ahavR (divR T.1 T.2.1 L.1 L.2.1).1 (divR T.1 T.2.1 L.1 L.2.1).2.1).2.1, 0)
theorem ang_end {T L : Int × Int × Int} (hT : validB T.1 T.2.1 = true) (hL : validB L.1 L.2.1 = true) :
    (lt (divR T.1 T.2.1 L.1 L.2.1) fun x25 => cond (x25.2.2 == 16) ((0 : Int), (0 : Int), (21 : Int)) (cond (x25.2.2 == 5) (0, 0, 24) (lt (ahavR x25.1 x25.2.1) fun x26 => cond (x26.2.2 != 0) (0, 0, 12) (x26.1, x26.2.1, 0)))) = angZ T L := by
  unfold angZ
  simp only [lt]
  by_cases z : L.1 ≤ 0 ∧ 0 ≤ L.2.1
  · have e : (divR T.1 T.2.1 L.1 L.2.1).2.2 = 16 := by
      unfold divR
      rw [if_pos (both_mk hT hL), if_pos (by simp [zeroB, z])]
    rw [e, if_pos z]
    rfl
  · rw [if_neg z]
    rcases div_err hT hL z with e | e
    · rw [e, if_neg (by decide)]
      by_cases g : (ahavR (divR T.1 T.2.1 L.1 L.2.1).1 (divR T.1 T.2.1 L.1 L.2.1).2.1).2.2 = 0
      · rw [g, if_neg (by decide)]
        rfl
      · rw [if_pos g, bne_iff_ne.2 g]
        rfl
    · rw [e, if_pos (by decide)]
      rfl
theorem angT_one {a b c d e f : Int} (h1 : 0 ≤ a ∧ a ≤ b ∧ b ≤ 10800000) (h2 : 0 ≤ c ∧ c ≤ d ∧ d ≤ 10800000) (h3 : 0 ≤ e ∧ e ≤ f ∧ f ≤ 10800000) : OneR (angT a b c d e f) ∧ OneR (angL c d e f) :=
  ⟨mul_ones (sin_one (prt_val (.inl rfl) h1 h3 h2)) (sin_one (prt_val (.inl rfl) h1 h2 h3)), mul_ones (sin_one (avalid_mk (by omega) h2.2.1 (by omega))) (sin_one (avalid_mk (by omega) h3.2.1 (by omega)))⟩
theorem angl_ok {a b c d e f : Int} (s1 : sideM a b = true) (s2 : sideM c d = true) (s3 : sideM e f = true) : anglM a b c d e f = angZ (angT a b c d e f) (angL c d e f) := by
  obtain ⟨a0, a1, a2, va⟩ := side_bd s1
  obtain ⟨b0, b1, b2, vb⟩ := side_bd s2
  have h1 : 0 ≤ a ∧ a ≤ b ∧ b ≤ 10800000 := ⟨a0, a1, a2⟩
  have h2 : 0 ≤ c ∧ c ≤ d ∧ d ≤ 10800000 := ⟨b0, b1, b2⟩
  obtain ⟨c0, c1, c2, vc⟩ := side_bd s3
  have h3 : 0 ≤ e ∧ e ≤ f ∧ f ≤ 10800000 := ⟨c0, c1, c2⟩
  obtain ⟨oT, oL⟩ := angT_one h1 h2 h3
  unfold anglM
  rw [s1, s2, s3, Bool.not_true, cond_false, cond_false, cond_false]
  refine lt_eq (show wplusV a b e f = (a + e, b + f) from by unfold wplusV; rw [aadd_ok (by omega) (by omega) (by omega) (by omega) (by omega) (by omega)]) ?_
  (try dsimp only)
  refine lt_eq (show wplusC 0 a b e f = 0 from k0 (by rw [aadd_ok (by omega) (by omega) (by omega) (by omega) (by omega) (by omega)])) ?_
  (try dsimp only)
  refine lt_eq (show wminV (a + e) (b + f) c d = (a + e - d, b + f - c) from by unfold wminV; rw [asub_ok (by omega) (by omega) (by omega) (by omega) (by omega) (by omega)]) ?_
  (try dsimp only)
  refine lt_eq (show wminC 0 (a + e) (b + f) c d = 0 from k0 (by rw [asub_ok (by omega) (by omega) (by omega) (by omega) (by omega) (by omega)])) ?_
  (try dsimp only)
  refine lt_eq (show wpartV (a + e - d) (b + f - c) 1 2 = ((prt 2 a b e f c d).1, (prt 2 a b e f c d).2) from by unfold wpartV; rw [prt_tim (.inl rfl) h1 h3 h2]) ?_
  (try dsimp only)
  refine lt_eq (show wpartC 0 (a + e - d) (b + f - c) 1 2 = 0 from k0 (by rw [prt_tim (.inl rfl) h1 h3 h2])) ?_
  (try dsimp only)
  refine lt_eq (show wplusV a b c d = (a + c, b + d) from by unfold wplusV; rw [aadd_ok (by omega) (by omega) (by omega) (by omega) (by omega) (by omega)]) ?_
  (try dsimp only)
  refine lt_eq (show wplusC 0 a b c d = 0 from k0 (by rw [aadd_ok (by omega) (by omega) (by omega) (by omega) (by omega) (by omega)])) ?_
  (try dsimp only)
  refine lt_eq (show wminV (a + c) (b + d) e f = (a + c - f, b + d - e) from by unfold wminV; rw [asub_ok (by omega) (by omega) (by omega) (by omega) (by omega) (by omega)]) ?_
  (try dsimp only)
  refine lt_eq (show wminC 0 (a + c) (b + d) e f = 0 from k0 (by rw [asub_ok (by omega) (by omega) (by omega) (by omega) (by omega) (by omega)])) ?_
  (try dsimp only)
  refine lt_eq (show wpartV (a + c - f) (b + d - e) 1 2 = ((prt 2 a b c d e f).1, (prt 2 a b c d e f).2) from by unfold wpartV; rw [prt_tim (.inl rfl) h1 h2 h3]) ?_
  (try dsimp only)
  refine lt_eq (show wpartC 0 (a + c - f) (b + d - e) 1 2 = 0 from k0 (by rw [prt_tim (.inl rfl) h1 h2 h3])) ?_
  (try dsimp only)
  refine lt_eq (show wsinV (prt 2 a b e f c d).1 (prt 2 a b e f c d).2 = ((sinR (prt 2 a b e f c d).1 (prt 2 a b e f c d).2).1, (sinR (prt 2 a b e f c d).1 (prt 2 a b e f c d).2).2.1) from rfl) ?_
  (try dsimp only)
  refine lt_eq (show wsinC 0 (prt 2 a b e f c d).1 (prt 2 a b e f c d).2 = 0 from k0 (sin_one (prt_val (.inl rfl) h1 h3 h2)).2.2.2) ?_
  (try dsimp only)
  refine lt_eq (show wsinV (prt 2 a b c d e f).1 (prt 2 a b c d e f).2 = ((sinR (prt 2 a b c d e f).1 (prt 2 a b c d e f).2).1, (sinR (prt 2 a b c d e f).1 (prt 2 a b c d e f).2).2.1) from rfl) ?_
  (try dsimp only)
  refine lt_eq (show wsinC 0 (prt 2 a b c d e f).1 (prt 2 a b c d e f).2 = 0 from k0 (sin_one (prt_val (.inl rfl) h1 h2 h3)).2.2.2) ?_
  (try dsimp only)
  refine lt_eq (show wmulV (sinR (prt 2 a b e f c d).1 (prt 2 a b e f c d).2).1 (sinR (prt 2 a b e f c d).1 (prt 2 a b e f c d).2).2.1 (sinR (prt 2 a b c d e f).1 (prt 2 a b c d e f).2).1 (sinR (prt 2 a b c d e f).1 (prt 2 a b c d e f).2).2.1 = ((angT a b c d e f).1, (angT a b c d e f).2.1) from rfl) ?_
  (try dsimp only)
  refine lt_eq (show wmulC 0 (sinR (prt 2 a b e f c d).1 (prt 2 a b e f c d).2).1 (sinR (prt 2 a b e f c d).1 (prt 2 a b e f c d).2).2.1 (sinR (prt 2 a b c d e f).1 (prt 2 a b c d e f).2).1 (sinR (prt 2 a b c d e f).1 (prt 2 a b c d e f).2).2.1 = 0 from k0 oT.2.2.2) ?_
  (try dsimp only)
  refine lt_eq (show wsinV c d = ((sinR c d).1, (sinR c d).2.1) from rfl) ?_
  (try dsimp only)
  refine lt_eq (show wsinC 0 c d = 0 from k0 (sin_one vb).2.2.2) ?_
  (try dsimp only)
  refine lt_eq (show wsinV e f = ((sinR e f).1, (sinR e f).2.1) from rfl) ?_
  (try dsimp only)
  refine lt_eq (show wsinC 0 e f = 0 from k0 (sin_one vc).2.2.2) ?_
  (try dsimp only)
  refine lt_eq (show wmulV (sinR c d).1 (sinR c d).2.1 (sinR e f).1 (sinR e f).2.1 = ((angL c d e f).1, (angL c d e f).2.1) from rfl) ?_
  (try dsimp only)
  refine lt_eq (show wmulC 0 (sinR c d).1 (sinR c d).2.1 (sinR e f).1 (sinR e f).2.1 = 0 from k0 oL.2.2.2) ?_
  (try dsimp only)
  rw [show ((0 : Int) != 0) = false from rfl, cond_false]
  exact ang_end oT.val oL.val
noncomputable def sidH (a b c d e f : Int) : Int × Int × Int := addR (havR (a - d) (b - c)).1 (havR (a - d) (b - c)).2.1 (mulT (mulT (sinR a b) (sinR c d)) (havR e f)).1 (mulT (mulT (sinR a b) (sinR c d)) (havR e f)).2.1
noncomputable def sidE (r : Int × Int × Int) : Int × Int × Int := if r.2.2 ≠ 0 then (0, 0, r.2.2) else (r.1, r.2.1, 0)
theorem hsid_ok {a b c d e f : Int} (s1 : sideM a b = true) (s2 : sideM c d = true) (s3 : avalidB e f = true) : hsidM a b c d e f = sidE (ahavR (sidH a b c d e f).1 (sidH a b c d e f).2.1) := by
  obtain ⟨a0, a1, a2, va⟩ := side_bd s1
  obtain ⟨b0, b1, b2, vb⟩ := side_bd s2
  have h1 : 0 ≤ a ∧ a ≤ b ∧ b ≤ 10800000 := ⟨a0, a1, a2⟩
  have h2 : 0 ≤ c ∧ c ≤ d ∧ d ≤ 10800000 := ⟨b0, b1, b2⟩
  have vd : avalidB (a - d) (b - c) = true := avalid_mk (by omega) (by omega) (by omega)
  have oh := hav_one vd
  have om := mul_ones (mul_ones (sin_one va) (sin_one vb)) (hav_one s3)
  have ad := add_ones oh om
  have ea : (sidH a b c d e f).2.2 = 0 := by
    have : sidH a b c d e f = _ := ad.1
    rw [this]
  unfold hsidM
  rw [s1, s2, s3, Bool.not_true, cond_false, cond_false, cond_false]
  refine lt_eq (show wminV a b c d = (a - d, b - c) from by unfold wminV; rw [asub_ok (by omega) (by omega) (by omega) (by omega) (by omega) (by omega)]) ?_
  (try dsimp only)
  refine lt_eq (show wminC 0 a b c d = 0 from k0 (by rw [asub_ok (by omega) (by omega) (by omega) (by omega) (by omega) (by omega)])) ?_
  (try dsimp only)
  refine lt_eq (show whavV (a - d) (b - c) = ((havR (a - d) (b - c)).1, (havR (a - d) (b - c)).2.1) from rfl) ?_
  (try dsimp only)
  refine lt_eq (show whavC 0 (a - d) (b - c) = 0 from k0 (hav_one vd).2.2.2) ?_
  (try dsimp only)
  refine lt_eq (show wsinV a b = ((sinR a b).1, (sinR a b).2.1) from rfl) ?_
  (try dsimp only)
  refine lt_eq (show wsinC 0 a b = 0 from k0 (sin_one va).2.2.2) ?_
  (try dsimp only)
  refine lt_eq (show wsinV c d = ((sinR c d).1, (sinR c d).2.1) from rfl) ?_
  (try dsimp only)
  refine lt_eq (show wsinC 0 c d = 0 from k0 (sin_one vb).2.2.2) ?_
  (try dsimp only)
  refine lt_eq (show wmulV (sinR a b).1 (sinR a b).2.1 (sinR c d).1 (sinR c d).2.1 = ((mulT (sinR a b) (sinR c d)).1, (mulT (sinR a b) (sinR c d)).2.1) from rfl) ?_
  (try dsimp only)
  refine lt_eq (show wmulC 0 (sinR a b).1 (sinR a b).2.1 (sinR c d).1 (sinR c d).2.1 = 0 from k0 (mul_ones (sin_one va) (sin_one vb)).2.2.2) ?_
  (try dsimp only)
  refine lt_eq (show whavV e f = ((havR e f).1, (havR e f).2.1) from rfl) ?_
  (try dsimp only)
  refine lt_eq (show whavC 0 e f = 0 from k0 (hav_one s3).2.2.2) ?_
  (try dsimp only)
  refine lt_eq (show wmulV (mulT (sinR a b) (sinR c d)).1 (mulT (sinR a b) (sinR c d)).2.1 (havR e f).1 (havR e f).2.1 = ((mulT (mulT (sinR a b) (sinR c d)) (havR e f)).1, (mulT (mulT (sinR a b) (sinR c d)) (havR e f)).2.1) from rfl) ?_
  (try dsimp only)
  refine lt_eq (show wmulC 0 (mulT (sinR a b) (sinR c d)).1 (mulT (sinR a b) (sinR c d)).2.1 (havR e f).1 (havR e f).2.1 = 0 from k0 om.2.2.2) ?_
  (try dsimp only)
  refine lt_eq (show addR (havR (a - d) (b - c)).1 (havR (a - d) (b - c)).2.1 (mulT (mulT (sinR a b) (sinR c d)) (havR e f)).1 (mulT (mulT (sinR a b) (sinR c d)) (havR e f)).2.1 = sidH a b c d e f from rfl) ?_
  (try dsimp only)
  refine lt_eq (show wfixV (sidH a b c d e f).1 (sidH a b c d e f).2.1 (sidH a b c d e f).2.2 = ((sidH a b c d e f).1, (sidH a b c d e f).2.1) from rfl) ?_
  (try dsimp only)
  refine lt_eq (show wfixC 0 (sidH a b c d e f).1 (sidH a b c d e f).2.1 (sidH a b c d e f).2.2 = 0 from k0 ea) ?_
  (try dsimp only)
  generalize ahavR (sidH a b c d e f).1 (sidH a b c d e f).2.1 = r
  simp only [lt]
  unfold sidE
  have ew : arcW r.1 r.2.1 r.2.2 = (r.1, r.2.1) := rfl
  have ec : arcC 0 r.1 r.2.1 r.2.2 = r.2.2 := keep0 _
  rw [ew, ec]
  by_cases g : r.2.2 = 0
  · rw [g, if_neg (by simp)]
    rfl
  · rw [if_pos g, bne_iff_ne.2 g]
    rfl
def exS (p q r s : Int × Int) : Int × Int × Int := mulT (mulT (mulT (sp p) (sp q)) (sp r)) (sp s)
def exC (p q r s : Int × Int) : Int × Int × Int := mulT (mulT (mulT (cp p) (cp q)) (cp r)) (cp s)
noncomputable def exE (S T : Int × Int × Int) : Int × Int × Int := if (sqtR S.1 S.2.1).2.2 ≠ 0 ∨ (sqtR T.1 T.2.1).2.2 ≠ 0 then (0, 0, 12) else if fullB (beaT (sqtR S.1 S.2.1) (sqtR T.1 T.2.1)) = true then (0, 0, 24) else (4 * (beaT (sqtR S.1 S.2.1) (sqtR T.1 T.2.1)).1, 4 * (beaT (sqtR S.1 S.2.1) (sqtR T.1 T.2.1)).2.1, 0)
noncomputable def excE (a b c d e f : Int) : Int × Int × Int := exE (exS (prs a b c d e f) (prt 4 c d e f a b) (prt 4 a b e f c d) (prt 4 a b c d e f)) (exC (prs a b c d e f) (prt 4 c d e f a b) (prt 4 a b e f c d) (prt 4 a b c d e f))
theorem ex_one {p q r s : Int × Int} (hp : avalidB p.1 p.2 = true) (hq : avalidB q.1 q.2 = true) (hr : avalidB r.1 r.2 = true) (hs : avalidB s.1 s.2 = true) : OneR (exS p q r s) ∧ OneR (exC p q r s) :=
  ⟨mul_ones (mul_ones (mul_ones (sin_one hp) (sin_one hq)) (sin_one hr)) (sin_one hs), mul_ones (mul_ones (mul_ones (cos_one hp) (cos_one hq)) (cos_one hr)) (cos_one hs)⟩
theorem sqt_bd {r : Int × Int × Int} (h : validB r.1 r.2.1 = true) (ok : (sqtR r.1 r.2.1).2.2 = 0) : validB (sqtR r.1 r.2.1).1 (sqtR r.1 r.2.1).2.1 = true ∧ 0 ≤ (sqtR r.1 r.2.1).1 := by
  have v := val_bd h
  unfold sqtR at ok ⊢
  rw [if_pos h] at ok ⊢
  by_cases c : r.2.1 < 0
  · rw [if_pos c] at ok
    cases ok
  · rw [if_neg c]
    have q := sqt_ok (a := max 0 r.1) (b := r.2.1) (by omega) (by omega) v.2.2
    have vv : validB (irt (max 0 r.1 * 1073741824)) (iru (r.2.1 * 1073741824)) = true := val_mk (by omega) q.2.2.1 q.2.2.2
    unfold fitR
    rw [if_pos vv]
    exact ⟨vv, q.2.1⟩
theorem exc_core {p q r s : Int × Int} (v0 : avalidB p.1 p.2 = true) (v1 : avalidB q.1 q.2 = true) (v2 : avalidB r.1 r.2 = true) (v3 : avalidB s.1 s.2 = true) : (lt (wsinV p.1 p.2) fun x26 =>
     lt (wsinC 0 p.1 p.2) fun x25 =>
     lt (wsinV q.1 q.2) fun x28 =>
     lt (wsinC x25 q.1 q.2) fun x27 =>
     lt (wmulV x26.1 x26.2 x28.1 x28.2) fun x30 =>
     lt (wmulC x27 x26.1 x26.2 x28.1 x28.2) fun x29 =>
     lt (wsinV r.1 r.2) fun x32 =>
     lt (wsinC x29 r.1 r.2) fun x31 =>
     lt (wmulV x30.1 x30.2 x32.1 x32.2) fun x34 =>
     lt (wmulC x31 x30.1 x30.2 x32.1 x32.2) fun x33 =>
     lt (wsinV s.1 s.2) fun x36 =>
     lt (wsinC x33 s.1 s.2) fun x35 =>
     lt (wmulV x34.1 x34.2 x36.1 x36.2) fun x38 =>
     lt (wmulC x35 x34.1 x34.2 x36.1 x36.2) fun x37 =>
     lt (wcosV p.1 p.2) fun x40 =>
     lt (wcosC x37 p.1 p.2) fun x39 =>
     lt (wcosV q.1 q.2) fun x42 =>
     lt (wcosC x39 q.1 q.2) fun x41 =>
     lt (wmulV x40.1 x40.2 x42.1 x42.2) fun x44 =>
     lt (wmulC x41 x40.1 x40.2 x42.1 x42.2) fun x43 =>
     lt (wcosV r.1 r.2) fun x46 =>
     lt (wcosC x43 r.1 r.2) fun x45 =>
     lt (wmulV x44.1 x44.2 x46.1 x46.2) fun x48 =>
     lt (wmulC x45 x44.1 x44.2 x46.1 x46.2) fun x47 =>
     lt (wcosV s.1 s.2) fun x50 =>
     lt (wcosC x47 s.1 s.2) fun x49 =>
     lt (wmulV x48.1 x48.2 x50.1 x50.2) fun x52 =>
     lt (wmulC x49 x48.1 x48.2 x50.1 x50.2) fun x51 =>
     cond (x51 != 0)
     ((0 : Int), (0 : Int), x51)
     (lt (sqtR x38.1 x38.2) fun x53 =>
      lt (sqtR x52.1 x52.2) fun x54 =>
      cond (x53.2.2 != 0)
      ((0, 0, 12))
      (cond (x54.2.2 != 0)
       ((0, 0, 12))
       (lt (wbeaV x53.1 x53.2.1 x54.1 x54.2.1) fun x56 =>
        lt (wbeaC x51 x53.1 x53.2.1 x54.1 x54.2.1) fun x55 =>
        cond (wallM x56.1 x56.2)
        ((0, 0, 24))
        (lt (wpartV x56.1 x56.2 4 1) fun x58 =>
         lt (wpartC x55 x56.1 x56.2 4 1) fun x57 =>
         (x58.1, x58.2, x57)))))) = exE (exS p q r s) (exC p q r s) := by
  obtain ⟨oS, oT⟩ := ex_one v0 v1 v2 v3
  refine lt_eq (show wsinV p.1 p.2 = ((sinR p.1 p.2).1, (sinR p.1 p.2).2.1) from rfl) ?_
  (try dsimp only)
  refine lt_eq (show wsinC 0 p.1 p.2 = 0 from k0 (sin_one v0).2.2.2) ?_
  (try dsimp only)
  refine lt_eq (show wsinV q.1 q.2 = ((sinR q.1 q.2).1, (sinR q.1 q.2).2.1) from rfl) ?_
  (try dsimp only)
  refine lt_eq (show wsinC 0 q.1 q.2 = 0 from k0 (sin_one v1).2.2.2) ?_
  (try dsimp only)
  refine lt_eq (show wmulV (sinR p.1 p.2).1 (sinR p.1 p.2).2.1 (sinR q.1 q.2).1 (sinR q.1 q.2).2.1 = ((mulT (sp p) (sp q)).1, (mulT (sp p) (sp q)).2.1) from rfl) ?_
  (try dsimp only)
  refine lt_eq (show wmulC 0 (sinR p.1 p.2).1 (sinR p.1 p.2).2.1 (sinR q.1 q.2).1 (sinR q.1 q.2).2.1 = 0 from k0 (mul_ones (sin_one v0) (sin_one v1)).2.2.2) ?_
  (try dsimp only)
  refine lt_eq (show wsinV r.1 r.2 = ((sinR r.1 r.2).1, (sinR r.1 r.2).2.1) from rfl) ?_
  (try dsimp only)
  refine lt_eq (show wsinC 0 r.1 r.2 = 0 from k0 (sin_one v2).2.2.2) ?_
  (try dsimp only)
  refine lt_eq (show wmulV (mulT (sp p) (sp q)).1 (mulT (sp p) (sp q)).2.1 (sinR r.1 r.2).1 (sinR r.1 r.2).2.1 = ((mulT (mulT (sp p) (sp q)) (sp r)).1, (mulT (mulT (sp p) (sp q)) (sp r)).2.1) from rfl) ?_
  (try dsimp only)
  refine lt_eq (show wmulC 0 (mulT (sp p) (sp q)).1 (mulT (sp p) (sp q)).2.1 (sinR r.1 r.2).1 (sinR r.1 r.2).2.1 = 0 from k0 (mul_ones (mul_ones (sin_one v0) (sin_one v1)) (sin_one v2)).2.2.2) ?_
  (try dsimp only)
  refine lt_eq (show wsinV s.1 s.2 = ((sinR s.1 s.2).1, (sinR s.1 s.2).2.1) from rfl) ?_
  (try dsimp only)
  refine lt_eq (show wsinC 0 s.1 s.2 = 0 from k0 (sin_one v3).2.2.2) ?_
  (try dsimp only)
  refine lt_eq (show wmulV (mulT (mulT (sp p) (sp q)) (sp r)).1 (mulT (mulT (sp p) (sp q)) (sp r)).2.1 (sinR s.1 s.2).1 (sinR s.1 s.2).2.1 = ((mulT (mulT (mulT (sp p) (sp q)) (sp r)) (sp s)).1, (mulT (mulT (mulT (sp p) (sp q)) (sp r)) (sp s)).2.1) from rfl) ?_
  (try dsimp only)
  refine lt_eq (show wmulC 0 (mulT (mulT (sp p) (sp q)) (sp r)).1 (mulT (mulT (sp p) (sp q)) (sp r)).2.1 (sinR s.1 s.2).1 (sinR s.1 s.2).2.1 = 0 from k0 (mul_ones (mul_ones (mul_ones (sin_one v0) (sin_one v1)) (sin_one v2)) (sin_one v3)).2.2.2) ?_
  (try dsimp only)
  refine lt_eq (show wcosV p.1 p.2 = ((cosR p.1 p.2).1, (cosR p.1 p.2).2.1) from rfl) ?_
  (try dsimp only)
  refine lt_eq (show wcosC 0 p.1 p.2 = 0 from k0 (cos_one v0).2.2.2) ?_
  (try dsimp only)
  refine lt_eq (show wcosV q.1 q.2 = ((cosR q.1 q.2).1, (cosR q.1 q.2).2.1) from rfl) ?_
  (try dsimp only)
  refine lt_eq (show wcosC 0 q.1 q.2 = 0 from k0 (cos_one v1).2.2.2) ?_
  (try dsimp only)
  refine lt_eq (show wmulV (cosR p.1 p.2).1 (cosR p.1 p.2).2.1 (cosR q.1 q.2).1 (cosR q.1 q.2).2.1 = ((mulT (cp p) (cp q)).1, (mulT (cp p) (cp q)).2.1) from rfl) ?_
  (try dsimp only)
  refine lt_eq (show wmulC 0 (cosR p.1 p.2).1 (cosR p.1 p.2).2.1 (cosR q.1 q.2).1 (cosR q.1 q.2).2.1 = 0 from k0 (mul_ones (cos_one v0) (cos_one v1)).2.2.2) ?_
  (try dsimp only)
  refine lt_eq (show wcosV r.1 r.2 = ((cosR r.1 r.2).1, (cosR r.1 r.2).2.1) from rfl) ?_
  (try dsimp only)
  refine lt_eq (show wcosC 0 r.1 r.2 = 0 from k0 (cos_one v2).2.2.2) ?_
  (try dsimp only)
  refine lt_eq (show wmulV (mulT (cp p) (cp q)).1 (mulT (cp p) (cp q)).2.1 (cosR r.1 r.2).1 (cosR r.1 r.2).2.1 = ((mulT (mulT (cp p) (cp q)) (cp r)).1, (mulT (mulT (cp p) (cp q)) (cp r)).2.1) from rfl) ?_
  (try dsimp only)
  refine lt_eq (show wmulC 0 (mulT (cp p) (cp q)).1 (mulT (cp p) (cp q)).2.1 (cosR r.1 r.2).1 (cosR r.1 r.2).2.1 = 0 from k0 (mul_ones (mul_ones (cos_one v0) (cos_one v1)) (cos_one v2)).2.2.2) ?_
  (try dsimp only)
  refine lt_eq (show wcosV s.1 s.2 = ((cosR s.1 s.2).1, (cosR s.1 s.2).2.1) from rfl) ?_
  (try dsimp only)
  refine lt_eq (show wcosC 0 s.1 s.2 = 0 from k0 (cos_one v3).2.2.2) ?_
  (try dsimp only)
  refine lt_eq (show wmulV (mulT (mulT (cp p) (cp q)) (cp r)).1 (mulT (mulT (cp p) (cp q)) (cp r)).2.1 (cosR s.1 s.2).1 (cosR s.1 s.2).2.1 = ((mulT (mulT (mulT (cp p) (cp q)) (cp r)) (cp s)).1, (mulT (mulT (mulT (cp p) (cp q)) (cp r)) (cp s)).2.1) from rfl) ?_
  (try dsimp only)
  refine lt_eq (show wmulC 0 (mulT (mulT (cp p) (cp q)) (cp r)).1 (mulT (mulT (cp p) (cp q)) (cp r)).2.1 (cosR s.1 s.2).1 (cosR s.1 s.2).2.1 = 0 from k0 (mul_ones (mul_ones (mul_ones (cos_one v0) (cos_one v1)) (cos_one v2)) (cos_one v3)).2.2.2) ?_
  (try dsimp only)
  rw [show ((0 : Int) != 0) = false from rfl, cond_false]
  have vS := oS.val
  have vT := oT.val
  refine (show ∀ S T : Int × Int × Int, validB S.1 S.2.1 = true → validB T.1 T.2.1 = true → (lt (sqtR S.1 S.2.1) fun x53 =>
      lt (sqtR T.1 T.2.1) fun x54 =>
      cond (x53.2.2 != 0)
      ((0 : Int), (0 : Int), (12 : Int))
      (cond (x54.2.2 != 0)
       (0, 0, 12)
       (lt (wbeaV x53.1 x53.2.1 x54.1 x54.2.1) fun x56 =>
        lt (wbeaC 0 x53.1 x53.2.1 x54.1 x54.2.1) fun x55 =>
        cond (wallM x56.1 x56.2)
        (0, 0, 24)
        (lt (wpartV x56.1 x56.2 4 1) fun x58 =>
         lt (wpartC x55 x56.1 x56.2 4 1) fun x57 =>
         (x58.1, x58.2, x57))))) = exE S T from fun S T vS vT => ?_) _ _ vS vT
  unfold exE
  simp only [lt]
  by_cases g : (sqtR S.1 S.2.1).2.2 = 0
  · by_cases k : (sqtR T.1 T.2.1).2.2 = 0
    · have bS := sqt_bd vS g
      have bT := sqt_bd vT k
      rw [g, k, if_neg (by simp), show ((0 : Int) != 0) = false from rfl, cond_false, cond_false]
      have D := bea_dir bS.1 bT.1
      have Bb := dir_bd D
      have e1 : wbeaV (sqtR S.1 S.2.1).1 (sqtR S.1 S.2.1).2.1 (sqtR T.1 T.2.1).1 (sqtR T.1 T.2.1).2.1 = ((beaT (sqtR S.1 S.2.1) (sqtR T.1 T.2.1)).1, (beaT (sqtR S.1 S.2.1) (sqtR T.1 T.2.1)).2.1) := rfl
      have e2 : wbeaC 0 (sqtR S.1 S.2.1).1 (sqtR S.1 S.2.1).2.1 (sqtR T.1 T.2.1).1 (sqtR T.1 T.2.1).2.1 = 0 := k0 D.2.2.2.2
      rw [e1, e2]
      have eb : bearR (sqtR S.1 S.2.1).1 (sqtR S.1 S.2.1).2.1 (sqtR T.1 T.2.1).1 (sqtR T.1 T.2.1).2.1 = beaT (sqtR S.1 S.2.1) (sqtR T.1 T.2.1) := rfl
      rw [eb] at Bb
      cases ho : originB (sqtR S.1 S.2.1).1 (sqtR S.1 S.2.1).2.1 (sqtR T.1 T.2.1).1 (sqtR T.1 T.2.1).2.1 with
      | true =>
        have ef : beaT (sqtR S.1 S.2.1) (sqtR T.1 T.2.1) = (0, 21600000, 0) := by
          unfold beaT bearR
          rw [bS.1, bT.1, ho]
          rfl
        rw [ef]
        rfl
      | false =>
      have F := bear_first bS.1 bT.1 bS.2 bT.2 ho
      rw [eb] at F
      generalize beaT (sqtR S.1 S.2.1) (sqtR T.1 T.2.1) = r at *
      dsimp only
      rw [wall_eq (by omega) (by omega) (by omega) (by omega)]
      unfold fullB
      rw [decide_eq_false (show ¬ 21600000 ≤ r.2.1 - r.1 by omega), cond_false, if_neg (by simp)]
      have E9 : timR r.1 r.2.1 4 1 = (4 * r.1, 4 * r.2.1, 0) := by
        rw [tim_ok (by omega) (by omega) (by omega) (.inr ⟨rfl, .inr rfl⟩), Int.ediv_one, Int.ediv_one, Int.neg_neg, Int.mul_comm 4, Int.mul_comm 4]
      have e3 : wpartV r.1 r.2.1 4 1 = (4 * r.1, 4 * r.2.1) := by unfold wpartV; rw [E9]
      have e4 : wpartC 0 r.1 r.2.1 4 1 = 0 := k0 (by rw [E9])
      rw [e3, e4]
    · rw [g, show ((0 : Int) != 0) = false from rfl, cond_false, bne_iff_ne.2 k, if_pos (.inr k)]
      rfl
  · rw [bne_iff_ne.2 g, if_pos (.inl g)]
    rfl
theorem exc_ok {a b c d e f : Int} (s1 : sideM a b = true) (s2 : sideM c d = true) (s3 : sideM e f = true) : excM a b c d e f = excE a b c d e f := by
  obtain ⟨a0, a1, a2, va⟩ := side_bd s1
  obtain ⟨b0, b1, b2, vb⟩ := side_bd s2
  have h1 : 0 ≤ a ∧ a ≤ b ∧ b ≤ 10800000 := ⟨a0, a1, a2⟩
  have h2 : 0 ≤ c ∧ c ≤ d ∧ d ≤ 10800000 := ⟨b0, b1, b2⟩
  obtain ⟨c0, c1, c2, vc⟩ := side_bd s3
  have h3 : 0 ≤ e ∧ e ≤ f ∧ f ≤ 10800000 := ⟨c0, c1, c2⟩
  have v0 := prs_val h1 h2 h3
  have v1 : avalidB (prt 4 c d e f a b).1 (prt 4 c d e f a b).2 = true := prt_val (.inr rfl) h2 h3 h1
  have v2 : avalidB (prt 4 a b e f c d).1 (prt 4 a b e f c d).2 = true := prt_val (.inr rfl) h1 h3 h2
  have v3 : avalidB (prt 4 a b c d e f).1 (prt 4 a b c d e f).2 = true := prt_val (.inr rfl) h1 h2 h3
  unfold excM
  rw [s1, s2, s3, Bool.not_true, cond_false, cond_false, cond_false]
  refine lt_eq (show wplusV a b c d = (a + c, b + d) from by unfold wplusV; rw [aadd_ok (by omega) (by omega) (by omega) (by omega) (by omega) (by omega)]) ?_
  (try dsimp only)
  refine lt_eq (show wplusC 0 a b c d = 0 from k0 (by rw [aadd_ok (by omega) (by omega) (by omega) (by omega) (by omega) (by omega)])) ?_
  (try dsimp only)
  refine lt_eq (show wplusV (a + c) (b + d) e f = (a + c + e, b + d + f) from by unfold wplusV; rw [aadd_ok (by omega) (by omega) (by omega) (by omega) (by omega) (by omega)]) ?_
  (try dsimp only)
  refine lt_eq (show wplusC 0 (a + c) (b + d) e f = 0 from k0 (by rw [aadd_ok (by omega) (by omega) (by omega) (by omega) (by omega) (by omega)])) ?_
  (try dsimp only)
  refine lt_eq (show wpartV (a + c + e) (b + d + f) 1 4 = ((prs a b c d e f).1, (prs a b c d e f).2) from by unfold wpartV; rw [prs_tim h1 h2 h3]) ?_
  (try dsimp only)
  refine lt_eq (show wpartC 0 (a + c + e) (b + d + f) 1 4 = 0 from k0 (by rw [prs_tim h1 h2 h3])) ?_
  (try dsimp only)
  refine lt_eq (show wplusV c d e f = (c + e, d + f) from by unfold wplusV; rw [aadd_ok (by omega) (by omega) (by omega) (by omega) (by omega) (by omega)]) ?_
  (try dsimp only)
  refine lt_eq (show wplusC 0 c d e f = 0 from k0 (by rw [aadd_ok (by omega) (by omega) (by omega) (by omega) (by omega) (by omega)])) ?_
  (try dsimp only)
  refine lt_eq (show wminV (c + e) (d + f) a b = (c + e - b, d + f - a) from by unfold wminV; rw [asub_ok (by omega) (by omega) (by omega) (by omega) (by omega) (by omega)]) ?_
  (try dsimp only)
  refine lt_eq (show wminC 0 (c + e) (d + f) a b = 0 from k0 (by rw [asub_ok (by omega) (by omega) (by omega) (by omega) (by omega) (by omega)])) ?_
  (try dsimp only)
  refine lt_eq (show wpartV (c + e - b) (d + f - a) 1 4 = ((prt 4 c d e f a b).1, (prt 4 c d e f a b).2) from by unfold wpartV; rw [prt_tim (.inr rfl) h2 h3 h1]) ?_
  (try dsimp only)
  refine lt_eq (show wpartC 0 (c + e - b) (d + f - a) 1 4 = 0 from k0 (by rw [prt_tim (.inr rfl) h2 h3 h1])) ?_
  (try dsimp only)
  refine lt_eq (show wplusV a b e f = (a + e, b + f) from by unfold wplusV; rw [aadd_ok (by omega) (by omega) (by omega) (by omega) (by omega) (by omega)]) ?_
  (try dsimp only)
  refine lt_eq (show wplusC 0 a b e f = 0 from k0 (by rw [aadd_ok (by omega) (by omega) (by omega) (by omega) (by omega) (by omega)])) ?_
  (try dsimp only)
  refine lt_eq (show wminV (a + e) (b + f) c d = (a + e - d, b + f - c) from by unfold wminV; rw [asub_ok (by omega) (by omega) (by omega) (by omega) (by omega) (by omega)]) ?_
  (try dsimp only)
  refine lt_eq (show wminC 0 (a + e) (b + f) c d = 0 from k0 (by rw [asub_ok (by omega) (by omega) (by omega) (by omega) (by omega) (by omega)])) ?_
  (try dsimp only)
  refine lt_eq (show wpartV (a + e - d) (b + f - c) 1 4 = ((prt 4 a b e f c d).1, (prt 4 a b e f c d).2) from by unfold wpartV; rw [prt_tim (.inr rfl) h1 h3 h2]) ?_
  (try dsimp only)
  refine lt_eq (show wpartC 0 (a + e - d) (b + f - c) 1 4 = 0 from k0 (by rw [prt_tim (.inr rfl) h1 h3 h2])) ?_
  (try dsimp only)
  refine lt_eq (show wplusV a b c d = (a + c, b + d) from by unfold wplusV; rw [aadd_ok (by omega) (by omega) (by omega) (by omega) (by omega) (by omega)]) ?_
  (try dsimp only)
  refine lt_eq (show wplusC 0 a b c d = 0 from k0 (by rw [aadd_ok (by omega) (by omega) (by omega) (by omega) (by omega) (by omega)])) ?_
  (try dsimp only)
  refine lt_eq (show wminV (a + c) (b + d) e f = (a + c - f, b + d - e) from by unfold wminV; rw [asub_ok (by omega) (by omega) (by omega) (by omega) (by omega) (by omega)]) ?_
  (try dsimp only)
  refine lt_eq (show wminC 0 (a + c) (b + d) e f = 0 from k0 (by rw [asub_ok (by omega) (by omega) (by omega) (by omega) (by omega) (by omega)])) ?_
  (try dsimp only)
  refine lt_eq (show wpartV (a + c - f) (b + d - e) 1 4 = ((prt 4 a b c d e f).1, (prt 4 a b c d e f).2) from by unfold wpartV; rw [prt_tim (.inr rfl) h1 h2 h3]) ?_
  (try dsimp only)
  refine lt_eq (show wpartC 0 (a + c - f) (b + d - e) 1 4 = 0 from k0 (by rw [prt_tim (.inr rfl) h1 h2 h3])) ?_
  (try dsimp only)
  exact exc_core v0 v1 v2 v3
end Go.Proofs.YtipjnfabodfkcaaGreatDoor

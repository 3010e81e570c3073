/-
  halfangle.Angle: its closed form, and that the angle by three sides holds the true one. No program here.
-/
import Derived.Test.YtfilgpifiboccaaGreatFa
import Derived.Test.YtfilgpifiboccaaGreatCd
namespace Go.Proofs.YtfilgpifiboccaaGreat
open SM TB TA
open Ev (lt keepE)
def mulT (r s : Int × Int × Int) : Int × Int × Int := mulR r.1 r.2.1 s.1 s.2.1
theorem lt_eq {α β : Type} {x y : α} {f : α → β} {r : β} (h : x = y) (k : f y = r) : lt x f = r := by
  subst h
  exact k
theorem k0 {e : Int} (h : e = 0) : keepE 0 e = 0 := by
  rw [h]
  rfl
theorem aadd_ok {a b c d : Int} (h1 : -100000000 ≤ a) (h2 : a ≤ b) (h3 : b ≤ 100000000) (h4 : -100000000 ≤ c) (h5 : c ≤ d) (h6 : d ≤ 100000000) :
    aaddR a b c d = (a + c, b + d, 0) := by
  unfold aaddR
  rw [if_pos ⟨avalid_mk (by omega) h2 (by omega), avalid_mk (by omega) h5 (by omega)⟩]
  unfold resR fitsB
  rw [if_pos ⟨decide_eq_true (by omega), decide_eq_true (by omega)⟩]
theorem tim_ok {a b n d : Int} (h1 : -100000000 ≤ a) (h2 : a ≤ b) (h3 : b ≤ 100000000) (h : (n = 1 ∧ (d = 2 ∨ d = 4)) ∨ (d = 1 ∧ (n = 2 ∨ n = 4))) : timR a b n d = ((a * n) / d, -(-(b * n) / d), 0) := by
  unfold timR
  rw [if_pos (avalid_mk (by omega) h2 (by omega)), if_pos (by omega)]
  have l : a * n ≤ b * n := Int.mul_le_mul_of_nonneg_right h2 (by omega)
  have e1 : mn (a * n) (b * n) = a * n := by unfold mn; split <;> omega
  have e2 : mx (a * n) (b * n) = b * n := by unfold mx; split <;> omega
  rw [e1, e2]
  unfold resR fitsB
  have q : -1000000000 ≤ a * n / d ∧ a * n / d ≤ 1000000000 ∧ -1000000000 ≤ -(b * n) / d ∧ -(b * n) / d ≤ 1000000000 := by
    rcases h with ⟨rfl, rfl | rfl⟩ | ⟨rfl, rfl | rfl⟩ <;> omega
  rw [if_pos ⟨decide_eq_true (by omega), decide_eq_true (by omega)⟩]
theorem side_bd {a b : Int} (h : sideM a b = true) : 0 ≤ a ∧ a ≤ b ∧ b ≤ 10800000 ∧ avalidB a b = true := by
  unfold sideM at h
  cases h1 : avalidB a b with
  | false => rw [h1] at h; cases h
  | true =>
    have v := aval_bd h1
    rw [h1, cond_true] at h
    by_cases h2 : a ≥ 0
    · rw [decide_eq_true h2, cond_true] at h
      have := of_decide_eq_true h
      exact ⟨h2, by omega, this, rfl⟩
    · rw [decide_eq_false h2] at h; cases h
def prt (n a b c d e f : Int) : Int × Int := ((a + c - f) / n, -(-(b + d - e) / n))
def sp (p : Int × Int) : Int × Int × Int := sinR p.1 p.2
theorem prt_val {n a b c d e f : Int} (hn : n = 2 ∨ n = 4) (h1 : 0 ≤ a ∧ a ≤ b ∧ b ≤ 10800000) (h2 : 0 ≤ c ∧ c ≤ d ∧ d ≤ 10800000) (h3 : 0 ≤ e ∧ e ≤ f ∧ f ≤ 10800000) : avalidB (prt n a b c d e f).1 (prt n a b c d e f).2 = true := by
  unfold prt
  rcases hn with rfl | rfl <;> exact avalid_mk (by dsimp only; omega) (by dsimp only; omega) (by dsimp only; omega)
theorem prt_tim {n a b c d e f : Int} (hn : n = 2 ∨ n = 4) (h1 : 0 ≤ a ∧ a ≤ b ∧ b ≤ 10800000) (h2 : 0 ≤ c ∧ c ≤ d ∧ d ≤ 10800000) (h3 : 0 ≤ e ∧ e ≤ f ∧ f ≤ 10800000) : timR (a + c - f) (b + d - e) 1 n = ((prt n a b c d e f).1, (prt n a b c d e f).2, 0) := by
  rw [tim_ok (by omega) (by omega) (by omega) (.inl ⟨rfl, hn⟩), Int.mul_one, Int.mul_one]
  rfl
def angT (a b c d e f : Int) : Int × Int × Int := mulT (sp (prt 2 a b e f c d)) (sp (prt 2 a b c d e f))
def angL (c d e f : Int) : Int × Int × Int := mulT (sinR c d) (sinR e f)
noncomputable def angZ (T L : Int × Int × Int) : Int × Int × Int := if L.1 ≤ 0 ∧ 0 ≤ L.2.1 then (0, 0, 21) else if (divR T.1 T.2.1 L.1 L.2.1).2.2 ≠ 0 then (0, 0, 24) else if (ahavR (divR T.1 T.2.1 L.1 L.2.1).1 (divR T.1 T.2.1 L.1 L.2.1).2.1).2.2 ≠ 0 then (0, 0, 12) else ((ahavR (divR T.1 T.2.1 L.1 L.2.1).1 (divR T.1 T.2.1 L.1 L.2.1).2.1).1, (ahavR (divR T.1 T.2.1 L.1 L.2.1).1 (divR T.1 T.2.1 L.1 L.2.1).2.1).2.1, 0)
theorem ang_end {T L : Int × Int × Int} (hT : validB T.1 T.2.1 = true) (hL : validB L.1 L.2.1 = true) :
    (lt (divR T.1 T.2.1 L.1 L.2.1) fun x25 => cond (x25.2.2 == 16) ((0 : Int), (0 : Int), (21 : Int)) (cond (x25.2.2 == 5) (0, 0, 24) (lt (ahavR x25.1 x25.2.1) fun x26 => cond (x26.2.2 != 0) (0, 0, 12) (x26.1, x26.2.1, 0)))) = angZ T L := by
  unfold angZ
  simp only [lt]
  by_cases z : L.1 ≤ 0 ∧ 0 ≤ L.2.1
  · have e : (divR T.1 T.2.1 L.1 L.2.1).2.2 = 16 := by
      unfold divR
      rw [if_pos (both_mk hT hL), if_pos (by simp [zeroB, z])]
    rw [e, if_pos z]
    rfl
  · rw [if_neg z]
    rcases div_err hT hL z with e | e
    · rw [e, if_neg (by decide)]
      by_cases g : (ahavR (divR T.1 T.2.1 L.1 L.2.1).1 (divR T.1 T.2.1 L.1 L.2.1).2.1).2.2 = 0
      · rw [g, if_neg (by decide)]
        rfl
      · rw [if_pos g, bne_iff_ne.2 g]
        rfl
    · rw [e, if_pos (by decide)]
      rfl
theorem angT_one {a b c d e f : Int} (h1 : 0 ≤ a ∧ a ≤ b ∧ b ≤ 10800000) (h2 : 0 ≤ c ∧ c ≤ d ∧ d ≤ 10800000) (h3 : 0 ≤ e ∧ e ≤ f ∧ f ≤ 10800000) : OneR (angT a b c d e f) ∧ OneR (angL c d e f) :=
  ⟨mul_ones (sin_one (prt_val (.inl rfl) h1 h3 h2)) (sin_one (prt_val (.inl rfl) h1 h2 h3)), mul_ones (sin_one (avalid_mk (by omega) h2.2.1 (by omega))) (sin_one (avalid_mk (by omega) h3.2.1 (by omega)))⟩
theorem angl_ok {a b c d e f : Int} (s1 : sideM a b = true) (s2 : sideM c d = true) (s3 : sideM e f = true) : anglM a b c d e f = angZ (angT a b c d e f) (angL c d e f) := by
  obtain ⟨a0, a1, a2, va⟩ := side_bd s1
  obtain ⟨b0, b1, b2, vb⟩ := side_bd s2
  have h1 : 0 ≤ a ∧ a ≤ b ∧ b ≤ 10800000 := ⟨a0, a1, a2⟩
  have h2 : 0 ≤ c ∧ c ≤ d ∧ d ≤ 10800000 := ⟨b0, b1, b2⟩
  obtain ⟨c0, c1, c2, vc⟩ := side_bd s3
  have h3 : 0 ≤ e ∧ e ≤ f ∧ f ≤ 10800000 := ⟨c0, c1, c2⟩
  obtain ⟨oT, oL⟩ := angT_one h1 h2 h3
  unfold anglM anglMK
  rw [s1, s2, s3, Bool.not_true, cond_false, cond_false, cond_false]
  refine lt_eq (show wplusV a b e f = (a + e, b + f) from by unfold wplusV; rw [aadd_ok (by omega) (by omega) (by omega) (by omega) (by omega) (by omega)]) ?_
  (try dsimp only)
  refine lt_eq (show wplusC 0 a b e f = 0 from k0 (by rw [aadd_ok (by omega) (by omega) (by omega) (by omega) (by omega) (by omega)])) ?_
  (try dsimp only)
  refine lt_eq (show wminV (a + e) (b + f) c d = (a + e - d, b + f - c) from by unfold wminV; rw [asub_ok (by omega) (by omega) (by omega) (by omega) (by omega) (by omega)]) ?_
  (try dsimp only)
  refine lt_eq (show wminC 0 (a + e) (b + f) c d = 0 from k0 (by rw [asub_ok (by omega) (by omega) (by omega) (by omega) (by omega) (by omega)])) ?_
  (try dsimp only)
  refine lt_eq (show wpartV (a + e - d) (b + f - c) 1 2 = ((prt 2 a b e f c d).1, (prt 2 a b e f c d).2) from by unfold wpartV; rw [prt_tim (.inl rfl) h1 h3 h2]) ?_
  (try dsimp only)
  refine lt_eq (show wpartC 0 (a + e - d) (b + f - c) 1 2 = 0 from k0 (by rw [prt_tim (.inl rfl) h1 h3 h2])) ?_
  (try dsimp only)
  refine lt_eq (show wplusV a b c d = (a + c, b + d) from by unfold wplusV; rw [aadd_ok (by omega) (by omega) (by omega) (by omega) (by omega) (by omega)]) ?_
  (try dsimp only)
  refine lt_eq (show wplusC 0 a b c d = 0 from k0 (by rw [aadd_ok (by omega) (by omega) (by omega) (by omega) (by omega) (by omega)])) ?_
  (try dsimp only)
  refine lt_eq (show wminV (a + c) (b + d) e f = (a + c - f, b + d - e) from by unfold wminV; rw [asub_ok (by omega) (by omega) (by omega) (by omega) (by omega) (by omega)]) ?_
  (try dsimp only)
  refine lt_eq (show wminC 0 (a + c) (b + d) e f = 0 from k0 (by rw [asub_ok (by omega) (by omega) (by omega) (by omega) (by omega) (by omega)])) ?_
  (try dsimp only)
  refine lt_eq (show wpartV (a + c - f) (b + d - e) 1 2 = ((prt 2 a b c d e f).1, (prt 2 a b c d e f).2) from by unfold wpartV; rw [prt_tim (.inl rfl) h1 h2 h3]) ?_
  (try dsimp only)
  refine lt_eq (show wpartC 0 (a + c - f) (b + d - e) 1 2 = 0 from k0 (by rw [prt_tim (.inl rfl) h1 h2 h3])) ?_
  (try dsimp only)
  refine lt_eq (show wsinV (prt 2 a b e f c d).1 (prt 2 a b e f c d).2 = ((sinR (prt 2 a b e f c d).1 (prt 2 a b e f c d).2).1, (sinR (prt 2 a b e f c d).1 (prt 2 a b e f c d).2).2.1) from rfl) ?_
  (try dsimp only)
  refine lt_eq (show wsinC 0 (prt 2 a b e f c d).1 (prt 2 a b e f c d).2 = 0 from k0 (sin_one (prt_val (.inl rfl) h1 h3 h2)).2.2.2) ?_
  (try dsimp only)
  refine lt_eq (show wsinV (prt 2 a b c d e f).1 (prt 2 a b c d e f).2 = ((sinR (prt 2 a b c d e f).1 (prt 2 a b c d e f).2).1, (sinR (prt 2 a b c d e f).1 (prt 2 a b c d e f).2).2.1) from rfl) ?_
  (try dsimp only)
  refine lt_eq (show wsinC 0 (prt 2 a b c d e f).1 (prt 2 a b c d e f).2 = 0 from k0 (sin_one (prt_val (.inl rfl) h1 h2 h3)).2.2.2) ?_
  (try dsimp only)
  refine lt_eq (show wmulV (sinR (prt 2 a b e f c d).1 (prt 2 a b e f c d).2).1 (sinR (prt 2 a b e f c d).1 (prt 2 a b e f c d).2).2.1 (sinR (prt 2 a b c d e f).1 (prt 2 a b c d e f).2).1 (sinR (prt 2 a b c d e f).1 (prt 2 a b c d e f).2).2.1 = ((angT a b c d e f).1, (angT a b c d e f).2.1) from rfl) ?_
  (try dsimp only)
  refine lt_eq (show wmulC 0 (sinR (prt 2 a b e f c d).1 (prt 2 a b e f c d).2).1 (sinR (prt 2 a b e f c d).1 (prt 2 a b e f c d).2).2.1 (sinR (prt 2 a b c d e f).1 (prt 2 a b c d e f).2).1 (sinR (prt 2 a b c d e f).1 (prt 2 a b c d e f).2).2.1 = 0 from k0 oT.2.2.2) ?_
  (try dsimp only)
  refine lt_eq (show wsinV c d = ((sinR c d).1, (sinR c d).2.1) from rfl) ?_
  (try dsimp only)
  refine lt_eq (show wsinC 0 c d = 0 from k0 (sin_one vb).2.2.2) ?_
  (try dsimp only)
  refine lt_eq (show wsinV e f = ((sinR e f).1, (sinR e f).2.1) from rfl) ?_
  (try dsimp only)
  refine lt_eq (show wsinC 0 e f = 0 from k0 (sin_one vc).2.2.2) ?_
  (try dsimp only)
  refine lt_eq (show wmulV (sinR c d).1 (sinR c d).2.1 (sinR e f).1 (sinR e f).2.1 = ((angL c d e f).1, (angL c d e f).2.1) from rfl) ?_
  (try dsimp only)
  refine lt_eq (show wmulC 0 (sinR c d).1 (sinR c d).2.1 (sinR e f).1 (sinR e f).2.1 = 0 from k0 oL.2.2.2) ?_
  (try dsimp only)
  rw [show ((0 : Int) != 0) = false from rfl, cond_false]
  exact ang_end oT.val oL.val
end Go.Proofs.YtfilgpifiboccaaGreat

/-
  The reference's angle by three sides, points at bearings, and crossings are the program's.
-/
import Derived.Test.YtfilgpifiboccaaGreatL36o
namespace Go.Proofs.YtfilgpifiboccaaGreat
open Ev

open SM TB TA
open Ev (lt keepE)
theorem tim_t {a b n d : Int} (h1 : -100000000 ≤ a) (h2 : a ≤ b) (h3 : b ≤ 100000000) (h : (n = 1 ∧ (d = 2 ∨ d = 4)) ∨ (d = 1 ∧ (n = 2 ∨ n = 4))) : rtimP a b n d = true := decide_eq_true ⟨h1, h2, h3, h⟩
noncomputable def threeB (a b c d e f : Int) : Bool := sideM a b && (sideM c d && sideM e f)
theorem three_inv {a b c d e f : Int} (h : threeB a b c d e f = true) : sideM a b = true ∧ sideM c d = true ∧ sideM e f = true := by
  unfold threeB at h
  simpa [Bool.and_eq_true] using h
noncomputable def kS360 : Book := (54, ePP (fun a b c d => pairV (rasubM a b c d).1 (rasubM a b c d).2)) :: (55, ePP (fun a b c d => pairV (raadM a b c d).1 (raadM a b c d).2)) :: (99, eP (fun a b => pairV (rsinM a b).1 (rsinM a b).2)) :: (101, ePPif bothB (fun a b c d => arcV (divR a b c d))) :: (102, eP (fun a b => arcV (ahavR a b))) :: (127, ePPif bothB (fun a b c d => arcV (mulR a b c d))) :: (128, cPI 130 (fun a b c => pairV (rkV a b c).1 (rkV a b c).2) rkC) :: (130, ePIIif rtimP (fun a b c d => pairV (rtimR a b c d).1 (rtimR a b c d).2)) :: []
theorem kS360_ok : BookOk Tryz.prog kS360 := (bookOk_cons (ePP_ok rasubM_gives) (bookOk_cons (ePP_ok raadM_gives) (bookOk_cons (eP_ok rsinM_gives) (bookOk_cons (ePPif_ok rdiv_gives) (bookOk_cons (eP_ok rahav_r) (bookOk_cons (ePPif_ok rmul_gives) (bookOk_cons (cPI_ok rkV_mods) (bookOk_cons (ePIIif_ok rtimR_gives) bookOk_nil))))))))
theorem rang28_gives (a b c d e f : Int) (hp : threeB a b c d e f = true) : Gives Tryz.prog 52 [.agg ⟨[.int .i64 a, .int .i64 b]⟩, .agg ⟨[.int .i64 c, .int .i64 d]⟩, .agg ⟨[.int .i64 e, .int .i64 f]⟩] (arcV (anglM a b c d e f)) := by
  refine ev6_gives Es_ok kS360_ok (t := lt (raadM a b e f) fun x1 => lt (rasubM x1.1 x1.2 c d) fun x2 => lt (rtimR x2.1 x2.2 1 2) fun x3 => cond (rtimP x2.1 x2.2 1 2) (lt (rsinM x3.1 x3.2) fun x4 => lt (raadM a b c d) fun x5 => lt (rasubM x5.1 x5.2 e f) fun x6 => lt (rtimR x6.1 x6.2 1 2) fun x7 => cond (rtimP x6.1 x6.2 1 2) (lt (rsinM x7.1 x7.2) fun x8 => lt (mulR x4.1 x4.2 x8.1 x8.2) fun x9 => cond (bothB x4.1 x4.2 x8.1 x8.2) (lt (rkV x9.1 x9.2.1 x9.2.2) fun x11 => lt (rkC 0 x9.1 x9.2.1 x9.2.2) fun x10 => lt (rsinM c d) fun x12 => lt (rsinM e f) fun x13 => lt (mulR x12.1 x12.2 x13.1 x13.2) fun x14 => cond (bothB x12.1 x12.2 x13.1 x13.2) (lt (rkV x14.1 x14.2.1 x14.2.2) fun x16 => lt (rkC x10 x14.1 x14.2.1 x14.2.2) fun _ => cond (decide (x16.1 ≤ 0)) (cond (decide (x16.2 ≥ 0)) (some (.v (.tuple ⟨[.agg ⟨[.int .i64 0, .int .i64 0]⟩, .int .i64 21]⟩))) (lt (divR x11.1 x11.2 x16.1 x16.2) fun x17 => cond (bothB x11.1 x11.2 x16.1 x16.2) (cond (x17.2.2 != 0) (some (.v (.tuple ⟨[.agg ⟨[.int .i64 0, .int .i64 0]⟩, .int .i64 24]⟩))) (lt (ahavR x17.1 x17.2.1) fun x18 => cond (x18.2.2 != 0) (some (.v (.tuple ⟨[.agg ⟨[.int .i64 0, .int .i64 0]⟩, .int .i64 12]⟩))) (some (.v (.tuple ⟨[.agg ⟨[.int .i64 x18.1, .int .i64 x18.2.1]⟩, .int .i64 0]⟩))))) (none))) (lt (divR x11.1 x11.2 x16.1 x16.2) fun x19 => cond (bothB x11.1 x11.2 x16.1 x16.2) (cond (x19.2.2 != 0) (some (.v (.tuple ⟨[.agg ⟨[.int .i64 0, .int .i64 0]⟩, .int .i64 24]⟩))) (lt (ahavR x19.1 x19.2.1) fun x20 => cond (x20.2.2 != 0) (some (.v (.tuple ⟨[.agg ⟨[.int .i64 0, .int .i64 0]⟩, .int .i64 12]⟩))) (some (.v (.tuple ⟨[.agg ⟨[.int .i64 x20.1, .int .i64 x20.2.1]⟩, .int .i64 0]⟩))))) (none))) (none)) (none)) (none)) (none)) (by kernel_rfl) ?_
  obtain ⟨s1, s2, s3⟩ := three_inv hp
  have s0 := side_bd s1
  have s0' := side_bd s2
  have h1 : 0 ≤ a ∧ a ≤ b ∧ b ≤ 10800000 := ⟨s0.1, s0.2.1, s0.2.2.1⟩
  have h2 : 0 ≤ c ∧ c ≤ d ∧ d ≤ 10800000 := ⟨s0'.1, s0'.2.1, s0'.2.2.1⟩
  have va := s0.2.2.2
  have vb := s0'.2.2.2
  have s0'' := side_bd s3
  have h3 : 0 ≤ e ∧ e ≤ f ∧ f ≤ 10800000 := ⟨s0''.1, s0''.2.1, s0''.2.2.1⟩
  have vc := s0''.2.2.2
  obtain ⟨oT, oL⟩ := angT_one h1 h2 h3
  rw [angl_ok s1 s2 s3]
  refine lt_eq (show raadM a b e f = (a + e, b + f) from raad_eq (by omega) (by omega) (by omega) (by omega) (by omega) (by omega)) ?_
  (try dsimp only)
  refine lt_eq (show rasubM (a + e) (b + f) c d = (a + e - d, b + f - c) from rasub_eq (by omega) (by omega) (by omega) (by omega) (by omega) (by omega)) ?_
  (try dsimp only)
  refine lt_eq (show rtimR (a + e - d) (b + f - c) 1 2 = ((prt 2 a b e f c d).1, (prt 2 a b e f c d).2) from (by unfold rtimR; rw [Int.mul_one, Int.mul_one]; rfl)) ?_
  (try dsimp only)
  refine co_eq (tim_t (by omega) (by omega) (by omega) (.inl ⟨rfl, .inl rfl⟩)) ?_
  refine lt_eq (show rsinM (prt 2 a b e f c d).1 (prt 2 a b e f c d).2 = ((sinR (prt 2 a b e f c d).1 (prt 2 a b e f c d).2).1, (sinR (prt 2 a b e f c d).1 (prt 2 a b e f c d).2).2.1) from rsin_eq (prt_val (.inl rfl) h1 h3 h2)) ?_
  (try dsimp only)
  refine lt_eq (show raadM a b c d = (a + c, b + d) from raad_eq (by omega) (by omega) (by omega) (by omega) (by omega) (by omega)) ?_
  (try dsimp only)
  refine lt_eq (show rasubM (a + c) (b + d) e f = (a + c - f, b + d - e) from rasub_eq (by omega) (by omega) (by omega) (by omega) (by omega) (by omega)) ?_
  (try dsimp only)
  refine lt_eq (show rtimR (a + c - f) (b + d - e) 1 2 = ((prt 2 a b c d e f).1, (prt 2 a b c d e f).2) from (by unfold rtimR; rw [Int.mul_one, Int.mul_one]; rfl)) ?_
  (try dsimp only)
  refine co_eq (tim_t (by omega) (by omega) (by omega) (.inl ⟨rfl, .inl rfl⟩)) ?_
  refine lt_eq (show rsinM (prt 2 a b c d e f).1 (prt 2 a b c d e f).2 = ((sinR (prt 2 a b c d e f).1 (prt 2 a b c d e f).2).1, (sinR (prt 2 a b c d e f).1 (prt 2 a b c d e f).2).2.1) from rsin_eq (prt_val (.inl rfl) h1 h2 h3)) ?_
  (try dsimp only)
  refine lt_eq (show mulR (sinR (prt 2 a b e f c d).1 (prt 2 a b e f c d).2).1 (sinR (prt 2 a b e f c d).1 (prt 2 a b e f c d).2).2.1 (sinR (prt 2 a b c d e f).1 (prt 2 a b c d e f).2).1 (sinR (prt 2 a b c d e f).1 (prt 2 a b c d e f).2).2.1 = angT a b c d e f from rfl) ?_
  (try dsimp only)
  refine co_eq (both_mk (sin_one (prt_val (.inl rfl) h1 h3 h2)).val (sin_one (prt_val (.inl rfl) h1 h2 h3)).val) ?_
  refine lt_eq (show rkV (angT a b c d e f).1 (angT a b c d e f).2.1 (angT a b c d e f).2.2 = ((angT a b c d e f).1, (angT a b c d e f).2.1) from rk_ok oT.2.2.2) ?_
  (try dsimp only)
  refine lt_eq (show rkC 0 (angT a b c d e f).1 (angT a b c d e f).2.1 (angT a b c d e f).2.2 = 0 from rk_c oT.2.2.2) ?_
  (try dsimp only)
  refine lt_eq (show rsinM c d = ((sinR c d).1, (sinR c d).2.1) from rsin_eq vb) ?_
  (try dsimp only)
  refine lt_eq (show rsinM e f = ((sinR e f).1, (sinR e f).2.1) from rsin_eq vc) ?_
  (try dsimp only)
  refine lt_eq (show mulR (sinR c d).1 (sinR c d).2.1 (sinR e f).1 (sinR e f).2.1 = angL c d e f from rfl) ?_
  (try dsimp only)
  refine co_eq (both_mk (sin_one vb).val (sin_one vc).val) ?_
  refine lt_eq (show rkV (angL c d e f).1 (angL c d e f).2.1 (angL c d e f).2.2 = ((angL c d e f).1, (angL c d e f).2.1) from rk_ok oL.2.2.2) ?_
  (try dsimp only)
  refine lt_eq (show rkC 0 (angL c d e f).1 (angL c d e f).2.1 (angL c d e f).2.2 = 0 from rk_c oL.2.2.2) ?_
  (try dsimp only)
  have vT := oT.val
  have vL := oL.val
  generalize angT a b c d e f = T at *
  generalize angL c d e f = L at *
  unfold angZ
  have tail : (lt (divR T.1 T.2.1 L.1 L.2.1) fun y17 =>
          cond (bothB T.1 T.2.1 L.1 L.2.1)
          (cond (y17.2.2 != 0)
           (some (AV.v (.tuple ⟨[.agg ⟨[.int .i64 0, .int .i64 0]⟩, .int .i64 24]⟩)))
           (lt (ahavR y17.1 y17.2.1) fun y18 =>
            cond (y18.2.2 != 0)
            (some (.v (.tuple ⟨[.agg ⟨[.int .i64 0, .int .i64 0]⟩, .int .i64 12]⟩)))
            (some (.v (.tuple ⟨[.agg ⟨[.int .i64 y18.1, .int .i64 y18.2.1]⟩, .int .i64 0]⟩)))))
          none) = some (AV.v (arcV (if (divR T.1 T.2.1 L.1 L.2.1).2.2 ≠ 0 then (0, 0, 24) else if (ahavR (divR T.1 T.2.1 L.1 L.2.1).1 (divR T.1 T.2.1 L.1 L.2.1).2.1).2.2 ≠ 0 then (0, 0, 12) else ((ahavR (divR T.1 T.2.1 L.1 L.2.1).1 (divR T.1 T.2.1 L.1 L.2.1).2.1).1, (ahavR (divR T.1 T.2.1 L.1 L.2.1).1 (divR T.1 T.2.1 L.1 L.2.1).2.1).2.1, 0)))) := by
    refine lt_eq rfl ?_
    refine co_eq (both_mk vT vL) ?_
    by_cases g : (divR T.1 T.2.1 L.1 L.2.1).2.2 = 0
    · rw [g, if_neg (by simp)]
      simp only [lt]
      by_cases k : (ahavR (divR T.1 T.2.1 L.1 L.2.1).1 (divR T.1 T.2.1 L.1 L.2.1).2.1).2.2 = 0
      · rw [k, if_neg (by simp)]; rfl
      · rw [if_pos k, bne_iff_ne.2 k]; rfl
    · rw [if_pos g, bne_iff_ne.2 g]; rfl
  by_cases z1 : L.1 ≤ 0
  · rw [decT z1, cond_true]
    by_cases z2 : L.2.1 ≥ 0
    · rw [decT z2, cond_true, if_pos ⟨z1, z2⟩]; rfl
    · rw [decF z2, cond_false, if_neg (by omega)]
      exact tail
  · rw [decF z1, cond_false, if_neg (by omega)]
    exact tail
end Go.Proofs.YtfilgpifiboccaaGreat

/-
  The reference's Angle, Side, Excess are the program's.
-/
import Derived.Test.YtipjnfabodfkcaaGreatDoorR2
import Derived.Test.YtipjnfabodfkcaaGreatDoorXp
namespace Go.Proofs.YtipjnfabodfkcaaGreatDoor
open Ev

open SM TB TA
open Ev (lt keepE)
theorem ris_eq (a b : Int) : risM a b = sideM a b := by
  have e1 : risM a b = decide (0 ≤ a ∧ a ≤ b ∧ b ≤ 10800000) := by
    unfold risM
    by_cases h2 : a ≥ 0
    · by_cases h1 : a ≤ b
      · by_cases h3 : b ≤ 10800000
        · rw [decT h1, decT h2, decT h3, decT (show 0 ≤ a ∧ a ≤ b ∧ b ≤ 10800000 by omega)]; rfl
        · rw [decT h1, decT h2, decF h3, decF (show ¬ (0 ≤ a ∧ a ≤ b ∧ b ≤ 10800000) by omega)]; rfl
      · rw [decT h2, decF h1, decF (show ¬ (0 ≤ a ∧ a ≤ b ∧ b ≤ 10800000) by omega)]; rfl
    · rw [decF h2, decF (show ¬ (0 ≤ a ∧ a ≤ b ∧ b ≤ 10800000) by omega)]; rfl
  have e2 : sideM a b = decide (0 ≤ a ∧ a ≤ b ∧ b ≤ 10800000) := by
    unfold sideM avalidB
    by_cases hv : -1099511627776 ≤ a ∧ a ≤ b ∧ b ≤ 1099511627776
    · rw [decT hv, cond_true]
      by_cases h2 : a ≥ 0
      · by_cases h3 : b ≤ 10800000
        · rw [decT h2, decT h3, decT (show 0 ≤ a ∧ a ≤ b ∧ b ≤ 10800000 by omega)]; rfl
        · rw [decT h2, decF h3, decF (show ¬ (0 ≤ a ∧ a ≤ b ∧ b ≤ 10800000) by omega)]; rfl
      · rw [decF h2, decF (show ¬ (0 ≤ a ∧ a ≤ b ∧ b ≤ 10800000) by omega)]; rfl
    · rw [decF hv, decF (show ¬ (0 ≤ a ∧ a ≤ b ∧ b ≤ 10800000) by omega)]; rfl
  rw [e1, e2]
noncomputable def threeB (a b c d e f : Int) : Bool := sideM a b && (sideM c d && sideM e f)
noncomputable def twoB (a b c d e f : Int) : Bool := sideM a b && (sideM c d && avalidB e f)
theorem three_inv {a b c d e f : Int} (h : threeB a b c d e f = true) : sideM a b = true ∧ sideM c d = true ∧ sideM e f = true := by
  unfold threeB at h
  simpa [Bool.and_eq_true] using h
theorem two_inv {a b c d e f : Int} (h : twoB a b c d e f = true) : sideM a b = true ∧ sideM c d = true ∧ avalidB e f = true := by
  unfold twoB at h
  simpa [Bool.and_eq_true] using h
noncomputable def rsidE (a b c d e f : Int) : Int × Int := ((ahavR (sidH a b c d e f).1 (sidH a b c d e f).2.1).1, (ahavR (sidH a b c d e f).1 (sidH a b c d e f).2.1).2.1)
noncomputable def book_rang28_gives : Book := [(37, ePP (fun a b c d => pairV (rasubM a b c d).1 (rasubM a b c d).2)), (39, ePIIif rtimP (fun a b c d => pairV (rtimR a b c d).1 (rtimR a b c d).2)), (40, ePP (fun a b c d => pairV (raadM a b c d).1 (raadM a b c d).2)), (44, eP (fun a b => pairV (rsinM a b).1 (rsinM a b).2)), (60, eP (fun a b => arcV (ahavR a b))), (62, ePPif bothB (fun a b c d => arcV (divR a b c d))), (81, ePPif bothB (fun a b c d => arcV (mulR a b c d))), (82, cPI 60 (fun a b c => pairV (rkV a b c).1 (rkV a b c).2) rkC)]
theorem book_rang28_gives_ok : BookOk Tryz.prog book_rang28_gives := (bookOk_cons (ePP_ok rasubM_gives) (bookOk_cons (ePIIif_ok rtimR_gives) (bookOk_cons (ePP_ok raadM_gives) (bookOk_cons (eP_ok rsinM_gives) (bookOk_cons (eP_ok (fun a b W _ => rahav_r a b W)) (bookOk_cons (ePPif_ok rdiv_gives) (bookOk_cons (ePPif_ok rmul_gives) (bookOk_cons (cPI_ok rkV_mods) bookOk_nil))))))))
theorem rang28_gives_tree (a b c d e f : Int) : evF Tryz.prog [] Cs book_rang28_gives 20 6 17 ([.agg ⟨[.int .i64 a, .int .i64 b]⟩, .agg ⟨[.int .i64 c, .int .i64 d]⟩, .agg ⟨[.int .i64 e, .int .i64 f]⟩].map AV.v) [] [] last =
  lt (raadM a b e f) fun x1 =>
  lt (rasubM x1.1 x1.2 c d) fun x2 =>
  lt (rtimR x2.1 x2.2 1 2) fun x3 =>
  cond (rtimP x2.1 x2.2 1 2)
  (lt (rsinM x3.1 x3.2) fun x4 =>
   lt (raadM a b c d) fun x5 =>
   lt (rasubM x5.1 x5.2 e f) fun x6 =>
   lt (rtimR x6.1 x6.2 1 2) fun x7 =>
   cond (rtimP x6.1 x6.2 1 2)
   (lt (rsinM x7.1 x7.2) fun x8 =>
    lt (mulR x4.1 x4.2 x8.1 x8.2) fun x9 =>
    cond (bothB x4.1 x4.2 x8.1 x8.2)
    (lt (rkV x9.1 x9.2.1 x9.2.2) fun x11 =>
     lt (rkC 0 x9.1 x9.2.1 x9.2.2) fun x10 =>
     lt (rsinM c d) fun x12 =>
     lt (rsinM e f) fun x13 =>
     lt (mulR x12.1 x12.2 x13.1 x13.2) fun x14 =>
     cond (bothB x12.1 x12.2 x13.1 x13.2)
     (lt (rkV x14.1 x14.2.1 x14.2.2) fun x16 =>
      lt (rkC x10 x14.1 x14.2.1 x14.2.2) fun _ =>
      cond (decide (x16.1 ≤ 0))
      (cond (decide (x16.2 ≥ 0))
       (some (.v (.tuple ⟨[.agg ⟨[.int .i64 0, .int .i64 0]⟩, .int .i64 21]⟩)))
       (lt (divR x11.1 x11.2 x16.1 x16.2) fun x17 =>
        cond (bothB x11.1 x11.2 x16.1 x16.2)
        (cond (x17.2.2 != 0)
         (some (.v (.tuple ⟨[.agg ⟨[.int .i64 0, .int .i64 0]⟩, .int .i64 24]⟩)))
         (lt (ahavR x17.1 x17.2.1) fun x18 =>
          cond (x18.2.2 != 0)
          (some (.v (.tuple ⟨[.agg ⟨[.int .i64 0, .int .i64 0]⟩, .int .i64 12]⟩)))
          (some (.v (.tuple ⟨[.agg ⟨[.int .i64 x18.1, .int .i64 x18.2.1]⟩, .int .i64 0]⟩)))))
        (none)))
      (lt (divR x11.1 x11.2 x16.1 x16.2) fun x19 =>
       cond (bothB x11.1 x11.2 x16.1 x16.2)
       (cond (x19.2.2 != 0)
        (some (.v (.tuple ⟨[.agg ⟨[.int .i64 0, .int .i64 0]⟩, .int .i64 24]⟩)))
        (lt (ahavR x19.1 x19.2.1) fun x20 =>
         cond (x20.2.2 != 0)
         (some (.v (.tuple ⟨[.agg ⟨[.int .i64 0, .int .i64 0]⟩, .int .i64 12]⟩)))
         (some (.v (.tuple ⟨[.agg ⟨[.int .i64 x20.1, .int .i64 x20.2.1]⟩, .int .i64 0]⟩)))))
       (none)))
     (none))
    (none))
   (none))
  (none) := by kernel_rfl
theorem rang28_gives (a b c d e f : Int) (hp : threeB a b c d e f = true) : Gives Tryz.prog 17 [.agg ⟨[.int .i64 a, .int .i64 b]⟩, .agg ⟨[.int .i64 c, .int .i64 d]⟩, .agg ⟨[.int .i64 e, .int .i64 f]⟩] (arcV (anglM a b c d e f)) := by
  refine evF_gives (E := []) mixed (by simp) Cs_ok book_rang28_gives_ok (lim := 20) (d := 6) (nm := []) ?_
  rw [rang28_gives_tree a b c d e f]
  obtain ⟨s1, s2, s3⟩ := three_inv hp
  have s0 := side_bd s1
  have s0' := side_bd s2
  have h1 : 0 ≤ a ∧ a ≤ b ∧ b ≤ 10800000 := ⟨s0.1, s0.2.1, s0.2.2.1⟩
  have h2 : 0 ≤ c ∧ c ≤ d ∧ d ≤ 10800000 := ⟨s0'.1, s0'.2.1, s0'.2.2.1⟩
  have va := s0.2.2.2
  have vb := s0'.2.2.2
  have s0'' := side_bd s3
  have h3 : 0 ≤ e ∧ e ≤ f ∧ f ≤ 10800000 := ⟨s0''.1, s0''.2.1, s0''.2.2.1⟩
  have vc := s0''.2.2.2
  obtain ⟨oT, oL⟩ := angT_one h1 h2 h3
  rw [angl_ok s1 s2 s3]
  refine lt_eq (show raadM a b e f = (a + e, b + f) from raad_eq (by omega) (by omega) (by omega) (by omega) (by omega) (by omega)) ?_
  (try dsimp only)
  refine lt_eq (show rasubM (a + e) (b + f) c d = (a + e - d, b + f - c) from rasub_eq (by omega) (by omega) (by omega) (by omega) (by omega) (by omega)) ?_
  (try dsimp only)
  refine lt_eq (show rtimR (a + e - d) (b + f - c) 1 2 = ((prt 2 a b e f c d).1, (prt 2 a b e f c d).2) from (by unfold rtimR; rw [Int.mul_one, Int.mul_one]; rfl)) ?_
  (try dsimp only)
  refine co_eq (tim_t (by omega) (by omega) (by omega) (.inl ⟨rfl, .inl rfl⟩)) ?_
  refine lt_eq (show rsinM (prt 2 a b e f c d).1 (prt 2 a b e f c d).2 = ((sinR (prt 2 a b e f c d).1 (prt 2 a b e f c d).2).1, (sinR (prt 2 a b e f c d).1 (prt 2 a b e f c d).2).2.1) from rsin_eq (prt_val (.inl rfl) h1 h3 h2)) ?_
  (try dsimp only)
  refine lt_eq (show raadM a b c d = (a + c, b + d) from raad_eq (by omega) (by omega) (by omega) (by omega) (by omega) (by omega)) ?_
  (try dsimp only)
  refine lt_eq (show rasubM (a + c) (b + d) e f = (a + c - f, b + d - e) from rasub_eq (by omega) (by omega) (by omega) (by omega) (by omega) (by omega)) ?_
  (try dsimp only)
  refine lt_eq (show rtimR (a + c - f) (b + d - e) 1 2 = ((prt 2 a b c d e f).1, (prt 2 a b c d e f).2) from (by unfold rtimR; rw [Int.mul_one, Int.mul_one]; rfl)) ?_
  (try dsimp only)
  refine co_eq (tim_t (by omega) (by omega) (by omega) (.inl ⟨rfl, .inl rfl⟩)) ?_
  refine lt_eq (show rsinM (prt 2 a b c d e f).1 (prt 2 a b c d e f).2 = ((sinR (prt 2 a b c d e f).1 (prt 2 a b c d e f).2).1, (sinR (prt 2 a b c d e f).1 (prt 2 a b c d e f).2).2.1) from rsin_eq (prt_val (.inl rfl) h1 h2 h3)) ?_
  (try dsimp only)
  refine lt_eq (show mulR (sinR (prt 2 a b e f c d).1 (prt 2 a b e f c d).2).1 (sinR (prt 2 a b e f c d).1 (prt 2 a b e f c d).2).2.1 (sinR (prt 2 a b c d e f).1 (prt 2 a b c d e f).2).1 (sinR (prt 2 a b c d e f).1 (prt 2 a b c d e f).2).2.1 = angT a b c d e f from rfl) ?_
  (try dsimp only)
  refine co_eq (both_mk (sin_one (prt_val (.inl rfl) h1 h3 h2)).val (sin_one (prt_val (.inl rfl) h1 h2 h3)).val) ?_
  refine lt_eq (show rkV (angT a b c d e f).1 (angT a b c d e f).2.1 (angT a b c d e f).2.2 = ((angT a b c d e f).1, (angT a b c d e f).2.1) from rk_ok oT.2.2.2) ?_
  (try dsimp only)
  refine lt_eq (show rkC 0 (angT a b c d e f).1 (angT a b c d e f).2.1 (angT a b c d e f).2.2 = 0 from rk_c oT.2.2.2) ?_
  (try dsimp only)
  refine lt_eq (show rsinM c d = ((sinR c d).1, (sinR c d).2.1) from rsin_eq vb) ?_
  (try dsimp only)
  refine lt_eq (show rsinM e f = ((sinR e f).1, (sinR e f).2.1) from rsin_eq vc) ?_
  (try dsimp only)
  refine lt_eq (show mulR (sinR c d).1 (sinR c d).2.1 (sinR e f).1 (sinR e f).2.1 = angL c d e f from rfl) ?_
  (try dsimp only)
  refine co_eq (both_mk (sin_one vb).val (sin_one vc).val) ?_
  refine lt_eq (show rkV (angL c d e f).1 (angL c d e f).2.1 (angL c d e f).2.2 = ((angL c d e f).1, (angL c d e f).2.1) from rk_ok oL.2.2.2) ?_
  (try dsimp only)
  refine lt_eq (show rkC 0 (angL c d e f).1 (angL c d e f).2.1 (angL c d e f).2.2 = 0 from rk_c oL.2.2.2) ?_
  (try dsimp only)
  have vT := oT.val
  have vL := oL.val
  generalize angT a b c d e f = T at *
  generalize angL c d e f = L at *
  unfold angZ
  have tail : (lt (divR T.1 T.2.1 L.1 L.2.1) fun y17 =>
          cond (bothB T.1 T.2.1 L.1 L.2.1)
          (cond (y17.2.2 != 0)
           (some (AV.v (.tuple ⟨[.agg ⟨[.int .i64 0, .int .i64 0]⟩, .int .i64 24]⟩)))
           (lt (ahavR y17.1 y17.2.1) fun y18 =>
            cond (y18.2.2 != 0)
            (some (.v (.tuple ⟨[.agg ⟨[.int .i64 0, .int .i64 0]⟩, .int .i64 12]⟩)))
            (some (.v (.tuple ⟨[.agg ⟨[.int .i64 y18.1, .int .i64 y18.2.1]⟩, .int .i64 0]⟩)))))
          none) = some (AV.v (arcV (if (divR T.1 T.2.1 L.1 L.2.1).2.2 ≠ 0 then (0, 0, 24) else if (ahavR (divR T.1 T.2.1 L.1 L.2.1).1 (divR T.1 T.2.1 L.1 L.2.1).2.1).2.2 ≠ 0 then (0, 0, 12) else ((ahavR (divR T.1 T.2.1 L.1 L.2.1).1 (divR T.1 T.2.1 L.1 L.2.1).2.1).1, (ahavR (divR T.1 T.2.1 L.1 L.2.1).1 (divR T.1 T.2.1 L.1 L.2.1).2.1).2.1, 0)))) := by
    refine lt_eq rfl ?_
    refine co_eq (both_mk vT vL) ?_
    by_cases g : (divR T.1 T.2.1 L.1 L.2.1).2.2 = 0
    · rw [g, if_neg (by simp)]
      simp only [lt]
      by_cases k : (ahavR (divR T.1 T.2.1 L.1 L.2.1).1 (divR T.1 T.2.1 L.1 L.2.1).2.1).2.2 = 0
      · rw [k, if_neg (by simp)]; rfl
      · rw [if_pos k, bne_iff_ne.2 k]; rfl
    · rw [if_pos g, bne_iff_ne.2 g]; rfl
  by_cases z1 : L.1 ≤ 0
  · rw [decT z1, cond_true]
    by_cases z2 : L.2.1 ≥ 0
    · rw [decT z2, cond_true, if_pos ⟨z1, z2⟩]; rfl
    · rw [decF z2, cond_false, if_neg (by omega)]
      exact tail
  · rw [decF z1, cond_false, if_neg (by omega)]
    exact tail
noncomputable def book_rsid28_gives : Book := [(37, ePP (fun a b c d => pairV (rasubM a b c d).1 (rasubM a b c d).2)), (44, eP (fun a b => pairV (rsinM a b).1 (rsinM a b).2)), (59, eP (fun a b => pairV (rhavM a b).1 (rhavM a b).2)), (60, eP (fun a b => arcV (ahavR a b))), (81, ePPif bothB (fun a b c d => arcV (mulR a b c d))), (82, cPI 60 (fun a b c => pairV (rkV a b c).1 (rkV a b c).2) rkC), (85, ePPif bothB (fun a b c d => arcV (addR a b c d)))]
theorem book_rsid28_gives_ok : BookOk Tryz.prog book_rsid28_gives := (bookOk_cons (ePP_ok rasubM_gives) (bookOk_cons (eP_ok rsinM_gives) (bookOk_cons (eP_ok rhavM_gives) (bookOk_cons (eP_ok (fun a b W _ => rahav_r a b W)) (bookOk_cons (ePPif_ok rmul_gives) (bookOk_cons (cPI_ok rkV_mods) (bookOk_cons (ePPif_ok radd_gives) bookOk_nil)))))))
theorem rsid28_gives_tree (a b c d e f : Int) : evF Tryz.prog [] Cs book_rsid28_gives 20 6 15 ([.agg ⟨[.int .i64 a, .int .i64 b]⟩, .agg ⟨[.int .i64 c, .int .i64 d]⟩, .agg ⟨[.int .i64 e, .int .i64 f]⟩].map AV.v) [] [] last =
  lt (rsinM a b) fun x1 =>
  lt (rsinM c d) fun x2 =>
  lt (mulR x1.1 x1.2 x2.1 x2.2) fun x3 =>
  cond (bothB x1.1 x1.2 x2.1 x2.2)
  (lt (rkV x3.1 x3.2.1 x3.2.2) fun x5 =>
   lt (rkC 0 x3.1 x3.2.1 x3.2.2) fun x4 =>
   lt (rhavM e f) fun x6 =>
   lt (mulR x5.1 x5.2 x6.1 x6.2) fun x7 =>
   cond (bothB x5.1 x5.2 x6.1 x6.2)
   (lt (rkV x7.1 x7.2.1 x7.2.2) fun x9 =>
    lt (rkC x4 x7.1 x7.2.1 x7.2.2) fun x8 =>
    lt (rasubM a b c d) fun x10 =>
    lt (rhavM x10.1 x10.2) fun x11 =>
    lt (addR x11.1 x11.2 x9.1 x9.2) fun x12 =>
    cond (bothB x11.1 x11.2 x9.1 x9.2)
    (lt (rkV x12.1 x12.2.1 x12.2.2) fun x14 =>
     lt (rkC x8 x12.1 x12.2.1 x12.2.2) fun _ =>
     lt (ahavR x14.1 x14.2) fun x15 =>
     some (.v (.agg ⟨[.int .i64 x15.1, .int .i64 x15.2.1]⟩)))
    (none))
   (none))
  (none) := by kernel_rfl
theorem rsid28_gives (a b c d e f : Int) (hp : twoB a b c d e f = true) : Gives Tryz.prog 15 [.agg ⟨[.int .i64 a, .int .i64 b]⟩, .agg ⟨[.int .i64 c, .int .i64 d]⟩, .agg ⟨[.int .i64 e, .int .i64 f]⟩] (pairV (rsidE a b c d e f).1 (rsidE a b c d e f).2) := by
  refine evF_gives (E := []) mixed (by simp) Cs_ok book_rsid28_gives_ok (lim := 20) (d := 6) (nm := []) ?_
  rw [rsid28_gives_tree a b c d e f]
  obtain ⟨s1, s2, s3⟩ := two_inv hp
  have s0 := side_bd s1
  have s0' := side_bd s2
  have h1 : 0 ≤ a ∧ a ≤ b ∧ b ≤ 10800000 := ⟨s0.1, s0.2.1, s0.2.2.1⟩
  have h2 : 0 ≤ c ∧ c ≤ d ∧ d ≤ 10800000 := ⟨s0'.1, s0'.2.1, s0'.2.2.1⟩
  have va := s0.2.2.2
  have vb := s0'.2.2.2
  have vd : avalidB (a - d) (b - c) = true := avalid_mk (by omega) (by omega) (by omega)
  have oh := hav_one vd
  have on := mul_ones (sin_one va) (sin_one vb)
  have om := mul_ones on (hav_one s3)
  have ad := add_ones oh om
  have ea : (sidH a b c d e f).2.2 = 0 := by
    have : sidH a b c d e f = _ := ad.1
    rw [this]
  unfold rsidE
  refine lt_eq (show rsinM a b = ((sinR a b).1, (sinR a b).2.1) from rsin_eq va) ?_
  (try dsimp only)
  refine lt_eq (show rsinM c d = ((sinR c d).1, (sinR c d).2.1) from rsin_eq vb) ?_
  (try dsimp only)
  refine lt_eq (show mulR (sinR a b).1 (sinR a b).2.1 (sinR c d).1 (sinR c d).2.1 = mulT (sinR a b) (sinR c d) from rfl) ?_
  (try dsimp only)
  refine co_eq (both_mk (sin_one va).val (sin_one vb).val) ?_
  refine lt_eq (show rkV (mulT (sinR a b) (sinR c d)).1 (mulT (sinR a b) (sinR c d)).2.1 (mulT (sinR a b) (sinR c d)).2.2 = ((mulT (sinR a b) (sinR c d)).1, (mulT (sinR a b) (sinR c d)).2.1) from rk_ok on.2.2.2) ?_
  (try dsimp only)
  refine lt_eq (show rkC 0 (mulT (sinR a b) (sinR c d)).1 (mulT (sinR a b) (sinR c d)).2.1 (mulT (sinR a b) (sinR c d)).2.2 = 0 from rk_c on.2.2.2) ?_
  (try dsimp only)
  refine lt_eq (show rhavM e f = ((havR e f).1, (havR e f).2.1) from rhav_eq s3) ?_
  (try dsimp only)
  refine lt_eq (show mulR (mulT (sinR a b) (sinR c d)).1 (mulT (sinR a b) (sinR c d)).2.1 (havR e f).1 (havR e f).2.1 = mulT (mulT (sinR a b) (sinR c d)) (havR e f) from rfl) ?_
  (try dsimp only)
  refine co_eq (both_mk on.val (hav_one s3).val) ?_
  refine lt_eq (show rkV (mulT (mulT (sinR a b) (sinR c d)) (havR e f)).1 (mulT (mulT (sinR a b) (sinR c d)) (havR e f)).2.1 (mulT (mulT (sinR a b) (sinR c d)) (havR e f)).2.2 = ((mulT (mulT (sinR a b) (sinR c d)) (havR e f)).1, (mulT (mulT (sinR a b) (sinR c d)) (havR e f)).2.1) from rk_ok om.2.2.2) ?_
  (try dsimp only)
  refine lt_eq (show rkC 0 (mulT (mulT (sinR a b) (sinR c d)) (havR e f)).1 (mulT (mulT (sinR a b) (sinR c d)) (havR e f)).2.1 (mulT (mulT (sinR a b) (sinR c d)) (havR e f)).2.2 = 0 from rk_c om.2.2.2) ?_
  (try dsimp only)
  refine lt_eq (show rasubM a b c d = (a - d, b - c) from rasub_eq (by omega) (by omega) (by omega) (by omega) (by omega) (by omega)) ?_
  (try dsimp only)
  refine lt_eq (show rhavM (a - d) (b - c) = ((havR (a - d) (b - c)).1, (havR (a - d) (b - c)).2.1) from rhav_eq vd) ?_
  (try dsimp only)
  refine lt_eq (show addR (havR (a - d) (b - c)).1 (havR (a - d) (b - c)).2.1 (mulT (mulT (sinR a b) (sinR c d)) (havR e f)).1 (mulT (mulT (sinR a b) (sinR c d)) (havR e f)).2.1 = sidH a b c d e f from rfl) ?_
  (try dsimp only)
  refine co_eq (both_mk oh.val om.val) ?_
  refine lt_eq (show rkV (sidH a b c d e f).1 (sidH a b c d e f).2.1 (sidH a b c d e f).2.2 = ((sidH a b c d e f).1, (sidH a b c d e f).2.1) from rk_ok ea) ?_
  (try dsimp only)
  refine lt_eq (show rkC 0 (sidH a b c d e f).1 (sidH a b c d e f).2.1 (sidH a b c d e f).2.2 = 0 from rk_c ea) ?_
  (try dsimp only)
  rfl
theorem rex_core {p q r s : Int × Int} (v0 : avalidB p.1 p.2 = true) (v1 : avalidB q.1 q.2 = true) (v2 : avalidB r.1 r.2 = true) (v3 : avalidB s.1 s.2 = true) : (lt (rsinM p.1 p.2) fun y13 => lt (rcosM p.1 p.2) fun y14 => lt (rsinM q.1 q.2) fun y15 => lt (mulR y13.1 y13.2 y15.1 y15.2) fun y16 => cond (bothB y13.1 y13.2 y15.1 y15.2) (lt (rkV y16.1 y16.2.1 y16.2.2) fun y18 => lt (rkC 0 y16.1 y16.2.1 y16.2.2) fun y17 => lt (rcosM q.1 q.2) fun y19 => lt (mulR y14.1 y14.2 y19.1 y19.2) fun y20 => cond (bothB y14.1 y14.2 y19.1 y19.2) (lt (rkV y20.1 y20.2.1 y20.2.2) fun y22 => lt (rkC y17 y20.1 y20.2.1 y20.2.2) fun y21 => lt (rsinM r.1 r.2) fun y23 => lt (mulR y18.1 y18.2 y23.1 y23.2) fun y24 => cond (bothB y18.1 y18.2 y23.1 y23.2) (lt (rkV y24.1 y24.2.1 y24.2.2) fun y26 => lt (rkC y21 y24.1 y24.2.1 y24.2.2) fun y25 => lt (rcosM r.1 r.2) fun y27 => lt (mulR y22.1 y22.2 y27.1 y27.2) fun y28 => cond (bothB y22.1 y22.2 y27.1 y27.2) (lt (rkV y28.1 y28.2.1 y28.2.2) fun y30 => lt (rkC y25 y28.1 y28.2.1 y28.2.2) fun y29 => lt (rsinM s.1 s.2) fun y31 => lt (mulR y26.1 y26.2 y31.1 y31.2) fun y32 => cond (bothB y26.1 y26.2 y31.1 y31.2) (lt (rkV y32.1 y32.2.1 y32.2.2) fun y34 => lt (rkC y29 y32.1 y32.2.1 y32.2.2) fun y33 => lt (rcosM s.1 s.2) fun y35 => lt (mulR y30.1 y30.2 y35.1 y35.2) fun y36 => cond (bothB y30.1 y30.2 y35.1 y35.2) (lt (rkV y36.1 y36.2.1 y36.2.2) fun y38 => lt (rkC y33 y36.1 y36.2.1 y36.2.2) fun y37 => lt (sqtR y34.1 y34.2) fun y39 => cond (validB y34.1 y34.2) (lt (rkV y39.1 y39.2.1 y39.2.2) fun y41 => lt (rkC y37 y39.1 y39.2.1 y39.2.2) fun y40 => lt (sqtR y38.1 y38.2) fun y42 => cond (validB y38.1 y38.2) (lt (rkV y42.1 y42.2.1 y42.2.2) fun y44 => lt (rkC y40 y42.1 y42.2.1 y42.2.2) fun y43 => cond (y43 != 0) (some (.v (.tuple ⟨[.agg ⟨[.int .i64 0, .int .i64 0]⟩, .int .i64 12]⟩))) (lt (bearR y41.1 y41.2 y44.1 y44.2) fun y45 => cond (rarM y45.1 y45.2.1) (some (.v (.tuple ⟨[.agg ⟨[.int .i64 0, .int .i64 0]⟩, .int .i64 24]⟩))) (lt (rtimR y45.1 y45.2.1 4 1) fun y46 => cond (rtimP y45.1 y45.2.1 4 1) (some (.v (.tuple ⟨[.agg ⟨[.int .i64 y46.1, .int .i64 y46.2]⟩, .int .i64 0]⟩))) (none)))) (none)) (none)) (none)) (none)) (none)) (none)) (none)) (none)) = some (AV.v (arcV (exE (exS p q r s) (exC p q r s)))) := by
  obtain ⟨oS, oT⟩ := ex_one v0 v1 v2 v3
  refine lt_eq (show rsinM p.1 p.2 = ((sinR p.1 p.2).1, (sinR p.1 p.2).2.1) from rsin_eq v0) ?_
  (try dsimp only)
  refine lt_eq (show rcosM p.1 p.2 = ((cosR p.1 p.2).1, (cosR p.1 p.2).2.1) from rcos_eq v0) ?_
  (try dsimp only)
  refine lt_eq (show rsinM q.1 q.2 = ((sinR q.1 q.2).1, (sinR q.1 q.2).2.1) from rsin_eq v1) ?_
  (try dsimp only)
  refine lt_eq (show mulR (sinR p.1 p.2).1 (sinR p.1 p.2).2.1 (sinR q.1 q.2).1 (sinR q.1 q.2).2.1 = mulT (sp p) (sp q) from rfl) ?_
  (try dsimp only)
  refine co_eq (both_mk (sin_one v0).val (sin_one v1).val) ?_
  refine lt_eq (show rkV (mulT (sp p) (sp q)).1 (mulT (sp p) (sp q)).2.1 (mulT (sp p) (sp q)).2.2 = ((mulT (sp p) (sp q)).1, (mulT (sp p) (sp q)).2.1) from rk_ok (mul_ones (sin_one v0) (sin_one v1)).2.2.2) ?_
  (try dsimp only)
  refine lt_eq (show rkC 0 (mulT (sp p) (sp q)).1 (mulT (sp p) (sp q)).2.1 (mulT (sp p) (sp q)).2.2 = 0 from rk_c (mul_ones (sin_one v0) (sin_one v1)).2.2.2) ?_
  (try dsimp only)
  refine lt_eq (show rcosM q.1 q.2 = ((cosR q.1 q.2).1, (cosR q.1 q.2).2.1) from rcos_eq v1) ?_
  (try dsimp only)
  refine lt_eq (show mulR (cosR p.1 p.2).1 (cosR p.1 p.2).2.1 (cosR q.1 q.2).1 (cosR q.1 q.2).2.1 = mulT (cp p) (cp q) from rfl) ?_
  (try dsimp only)
  refine co_eq (both_mk (cos_one v0).val (cos_one v1).val) ?_
  refine lt_eq (show rkV (mulT (cp p) (cp q)).1 (mulT (cp p) (cp q)).2.1 (mulT (cp p) (cp q)).2.2 = ((mulT (cp p) (cp q)).1, (mulT (cp p) (cp q)).2.1) from rk_ok (mul_ones (cos_one v0) (cos_one v1)).2.2.2) ?_
  (try dsimp only)
  refine lt_eq (show rkC 0 (mulT (cp p) (cp q)).1 (mulT (cp p) (cp q)).2.1 (mulT (cp p) (cp q)).2.2 = 0 from rk_c (mul_ones (cos_one v0) (cos_one v1)).2.2.2) ?_
  (try dsimp only)
  refine lt_eq (show rsinM r.1 r.2 = ((sinR r.1 r.2).1, (sinR r.1 r.2).2.1) from rsin_eq v2) ?_
  (try dsimp only)
  refine lt_eq (show mulR (mulT (sp p) (sp q)).1 (mulT (sp p) (sp q)).2.1 (sinR r.1 r.2).1 (sinR r.1 r.2).2.1 = mulT (mulT (sp p) (sp q)) (sp r) from rfl) ?_
  (try dsimp only)
  refine co_eq (both_mk (mul_ones (sin_one v0) (sin_one v1)).val (sin_one v2).val) ?_
  refine lt_eq (show rkV (mulT (mulT (sp p) (sp q)) (sp r)).1 (mulT (mulT (sp p) (sp q)) (sp r)).2.1 (mulT (mulT (sp p) (sp q)) (sp r)).2.2 = ((mulT (mulT (sp p) (sp q)) (sp r)).1, (mulT (mulT (sp p) (sp q)) (sp r)).2.1) from rk_ok (mul_ones (mul_ones (sin_one v0) (sin_one v1)) (sin_one v2)).2.2.2) ?_
  (try dsimp only)
  refine lt_eq (show rkC 0 (mulT (mulT (sp p) (sp q)) (sp r)).1 (mulT (mulT (sp p) (sp q)) (sp r)).2.1 (mulT (mulT (sp p) (sp q)) (sp r)).2.2 = 0 from rk_c (mul_ones (mul_ones (sin_one v0) (sin_one v1)) (sin_one v2)).2.2.2) ?_
  (try dsimp only)
  refine lt_eq (show rcosM r.1 r.2 = ((cosR r.1 r.2).1, (cosR r.1 r.2).2.1) from rcos_eq v2) ?_
  (try dsimp only)
  refine lt_eq (show mulR (mulT (cp p) (cp q)).1 (mulT (cp p) (cp q)).2.1 (cosR r.1 r.2).1 (cosR r.1 r.2).2.1 = mulT (mulT (cp p) (cp q)) (cp r) from rfl) ?_
  (try dsimp only)
  refine co_eq (both_mk (mul_ones (cos_one v0) (cos_one v1)).val (cos_one v2).val) ?_
  refine lt_eq (show rkV (mulT (mulT (cp p) (cp q)) (cp r)).1 (mulT (mulT (cp p) (cp q)) (cp r)).2.1 (mulT (mulT (cp p) (cp q)) (cp r)).2.2 = ((mulT (mulT (cp p) (cp q)) (cp r)).1, (mulT (mulT (cp p) (cp q)) (cp r)).2.1) from rk_ok (mul_ones (mul_ones (cos_one v0) (cos_one v1)) (cos_one v2)).2.2.2) ?_
  (try dsimp only)
  refine lt_eq (show rkC 0 (mulT (mulT (cp p) (cp q)) (cp r)).1 (mulT (mulT (cp p) (cp q)) (cp r)).2.1 (mulT (mulT (cp p) (cp q)) (cp r)).2.2 = 0 from rk_c (mul_ones (mul_ones (cos_one v0) (cos_one v1)) (cos_one v2)).2.2.2) ?_
  (try dsimp only)
  refine lt_eq (show rsinM s.1 s.2 = ((sinR s.1 s.2).1, (sinR s.1 s.2).2.1) from rsin_eq v3) ?_
  (try dsimp only)
  refine lt_eq (show mulR (mulT (mulT (sp p) (sp q)) (sp r)).1 (mulT (mulT (sp p) (sp q)) (sp r)).2.1 (sinR s.1 s.2).1 (sinR s.1 s.2).2.1 = mulT (mulT (mulT (sp p) (sp q)) (sp r)) (sp s) from rfl) ?_
  (try dsimp only)
  refine co_eq (both_mk (mul_ones (mul_ones (sin_one v0) (sin_one v1)) (sin_one v2)).val (sin_one v3).val) ?_
  refine lt_eq (show rkV (mulT (mulT (mulT (sp p) (sp q)) (sp r)) (sp s)).1 (mulT (mulT (mulT (sp p) (sp q)) (sp r)) (sp s)).2.1 (mulT (mulT (mulT (sp p) (sp q)) (sp r)) (sp s)).2.2 = ((mulT (mulT (mulT (sp p) (sp q)) (sp r)) (sp s)).1, (mulT (mulT (mulT (sp p) (sp q)) (sp r)) (sp s)).2.1) from rk_ok (mul_ones (mul_ones (mul_ones (sin_one v0) (sin_one v1)) (sin_one v2)) (sin_one v3)).2.2.2) ?_
  (try dsimp only)
  refine lt_eq (show rkC 0 (mulT (mulT (mulT (sp p) (sp q)) (sp r)) (sp s)).1 (mulT (mulT (mulT (sp p) (sp q)) (sp r)) (sp s)).2.1 (mulT (mulT (mulT (sp p) (sp q)) (sp r)) (sp s)).2.2 = 0 from rk_c (mul_ones (mul_ones (mul_ones (sin_one v0) (sin_one v1)) (sin_one v2)) (sin_one v3)).2.2.2) ?_
  (try dsimp only)
  refine lt_eq (show rcosM s.1 s.2 = ((cosR s.1 s.2).1, (cosR s.1 s.2).2.1) from rcos_eq v3) ?_
  (try dsimp only)
  refine lt_eq (show mulR (mulT (mulT (cp p) (cp q)) (cp r)).1 (mulT (mulT (cp p) (cp q)) (cp r)).2.1 (cosR s.1 s.2).1 (cosR s.1 s.2).2.1 = mulT (mulT (mulT (cp p) (cp q)) (cp r)) (cp s) from rfl) ?_
  (try dsimp only)
  refine co_eq (both_mk (mul_ones (mul_ones (cos_one v0) (cos_one v1)) (cos_one v2)).val (cos_one v3).val) ?_
  refine lt_eq (show rkV (mulT (mulT (mulT (cp p) (cp q)) (cp r)) (cp s)).1 (mulT (mulT (mulT (cp p) (cp q)) (cp r)) (cp s)).2.1 (mulT (mulT (mulT (cp p) (cp q)) (cp r)) (cp s)).2.2 = ((mulT (mulT (mulT (cp p) (cp q)) (cp r)) (cp s)).1, (mulT (mulT (mulT (cp p) (cp q)) (cp r)) (cp s)).2.1) from rk_ok (mul_ones (mul_ones (mul_ones (cos_one v0) (cos_one v1)) (cos_one v2)) (cos_one v3)).2.2.2) ?_
  (try dsimp only)
  refine lt_eq (show rkC 0 (mulT (mulT (mulT (cp p) (cp q)) (cp r)) (cp s)).1 (mulT (mulT (mulT (cp p) (cp q)) (cp r)) (cp s)).2.1 (mulT (mulT (mulT (cp p) (cp q)) (cp r)) (cp s)).2.2 = 0 from rk_c (mul_ones (mul_ones (mul_ones (cos_one v0) (cos_one v1)) (cos_one v2)) (cos_one v3)).2.2.2) ?_
  (try dsimp only)
  have vS := oS.val
  have vT := oT.val
  generalize hS : exS p q r s = S at *
  generalize hC : exC p q r s = T at *
  unfold exS at hS
  unfold exC at hC
  rw [hS, hC]
  clear hS hC oS oT
  unfold exE
  by_cases g : (sqtR S.1 S.2.1).2.2 = 0
  · by_cases k : (sqtR T.1 T.2.1).2.2 = 0
    · refine lt_eq rfl ?_
      refine co_eq vS ?_
      refine lt_eq (rk_ok g) ?_
      refine lt_eq (rk_c g) ?_
      refine lt_eq rfl ?_
      refine co_eq vT ?_
      refine lt_eq (rk_ok k) ?_
      refine lt_eq (rk_c k) ?_
      (try dsimp only)
      rw [if_neg (by rw [g, k]; simp), show ((0 : Int) != 0) = false from rfl, cond_false]
      have bS := sqt_bd vS g
      have bT := sqt_bd vT k
      have D := bea_dir bS.1 bT.1
      have Bb := dir_bd D
      have eb : bearR (sqtR S.1 S.2.1).1 (sqtR S.1 S.2.1).2.1 (sqtR T.1 T.2.1).1 (sqtR T.1 T.2.1).2.1 = beaT (sqtR S.1 S.2.1) (sqtR T.1 T.2.1) := rfl
      rw [eb] at Bb
      refine lt_eq eb ?_
      (try dsimp only)
      cases ho : originB (sqtR S.1 S.2.1).1 (sqtR S.1 S.2.1).2.1 (sqtR T.1 T.2.1).1 (sqtR T.1 T.2.1).2.1 with
      | true =>
        have ef : beaT (sqtR S.1 S.2.1) (sqtR T.1 T.2.1) = (0, 21600000, 0) := by
          unfold beaT bearR
          rw [bS.1, bT.1, ho]
          rfl
        rw [ef]
        rfl
      | false =>
      have F := bear_first bS.1 bT.1 bS.2 bT.2 ho
      rw [eb] at F
      generalize beaT (sqtR S.1 S.2.1) (sqtR T.1 T.2.1) = r at *
      rw [rar_eq (by omega) (by omega) (by omega) (by omega)]
      unfold fullB
      rw [decF (show ¬ 21600000 ≤ r.2.1 - r.1 by omega), cond_false, if_neg (by simp)]
      refine lt_eq (show rtimR r.1 r.2.1 4 1 = (4 * r.1, 4 * r.2.1) from by unfold rtimR; rw [Int.ediv_one, Int.ediv_one, Int.neg_neg, Int.mul_comm 4, Int.mul_comm 4]) ?_
      refine co_eq (tim_t (by omega) (by omega) (by omega) (.inr ⟨rfl, .inr rfl⟩)) ?_
      rfl
    · refine lt_eq rfl ?_
      refine co_eq vS ?_
      refine lt_eq (rk_ok g) ?_
      refine lt_eq (rk_c g) ?_
      refine lt_eq rfl ?_
      refine co_eq vT ?_
      refine lt_eq rfl ?_
      refine lt_eq (show rkC 0 (sqtR T.1 T.2.1).1 (sqtR T.1 T.2.1).2.1 (sqtR T.1 T.2.1).2.2 = (sqtR T.1 T.2.1).2.2 from keep0 _) ?_
      rw [bne_iff_ne.2 k, if_pos (.inr k)]
      rfl
  · refine lt_eq rfl ?_
    refine co_eq vS ?_
    refine lt_eq rfl ?_
    refine lt_eq (show rkC 0 (sqtR S.1 S.2.1).1 (sqtR S.1 S.2.1).2.1 (sqtR S.1 S.2.1).2.2 = (sqtR S.1 S.2.1).2.2 from keep0 _) ?_
    refine lt_eq rfl ?_
    refine co_eq vT ?_
    refine lt_eq rfl ?_
    refine lt_eq (show rkC (sqtR S.1 S.2.1).2.2 (sqtR T.1 T.2.1).1 (sqtR T.1 T.2.1).2.1 (sqtR T.1 T.2.1).2.2 = (sqtR S.1 S.2.1).2.2 from by unfold rkC keepE; rw [if_neg g]) ?_
    rw [bne_iff_ne.2 g, if_pos (.inl g)]
    rfl
noncomputable def book_rexc28_gives : Book := [(37, ePP (fun a b c d => pairV (rasubM a b c d).1 (rasubM a b c d).2)), (39, ePIIif rtimP (fun a b c d => pairV (rtimR a b c d).1 (rtimR a b c d).2)), (40, ePP (fun a b c d => pairV (raadM a b c d).1 (raadM a b c d).2)), (43, eP (fun a b => pairV (rcosM a b).1 (rcosM a b).2)), (44, eP (fun a b => pairV (rsinM a b).1 (rsinM a b).2)), (48, ePP (fun a b c d => arcV (bearR a b c d))), (49, eP (fun a b => .bool (rarM a b))), (81, ePPif bothB (fun a b c d => arcV (mulR a b c d))), (82, cPI 60 (fun a b c => pairV (rkV a b c).1 (rkV a b c).2) rkC), (84, ePif validB (fun a b => arcV (sqtR a b)))]
theorem book_rexc28_gives_ok : BookOk Tryz.prog book_rexc28_gives := (bookOk_cons (ePP_ok rasubM_gives) (bookOk_cons (ePIIif_ok rtimR_gives) (bookOk_cons (ePP_ok raadM_gives) (bookOk_cons (eP_ok rcosM_gives) (bookOk_cons (eP_ok rsinM_gives) (bookOk_cons (ePP_ok rbear) (bookOk_cons (eP_ok rarM_gives) (bookOk_cons (ePPif_ok rmul_gives) (bookOk_cons (cPI_ok rkV_mods) (bookOk_cons (ePif_ok rsqt_gives) bookOk_nil))))))))))
theorem rexc28_gives_tree (a b c d e f : Int) : evF Tryz.prog [] Cs book_rexc28_gives 20 6 18 ([.agg ⟨[.int .i64 a, .int .i64 b]⟩, .agg ⟨[.int .i64 c, .int .i64 d]⟩, .agg ⟨[.int .i64 e, .int .i64 f]⟩].map AV.v) [] [] last =
  lt (raadM a b c d) fun x1 =>
  lt (raadM x1.1 x1.2 e f) fun x2 =>
  lt (rtimR x2.1 x2.2 1 4) fun x3 =>
  cond (rtimP x2.1 x2.2 1 4)
  (lt (raadM c d e f) fun x4 =>
   lt (rasubM x4.1 x4.2 a b) fun x5 =>
   lt (rtimR x5.1 x5.2 1 4) fun x6 =>
   cond (rtimP x5.1 x5.2 1 4)
   (lt (raadM a b e f) fun x7 =>
    lt (rasubM x7.1 x7.2 c d) fun x8 =>
    lt (rtimR x8.1 x8.2 1 4) fun x9 =>
    cond (rtimP x8.1 x8.2 1 4)
    (lt (raadM a b c d) fun x10 =>
     lt (rasubM x10.1 x10.2 e f) fun x11 =>
     lt (rtimR x11.1 x11.2 1 4) fun x12 =>
     cond (rtimP x11.1 x11.2 1 4)
     (lt (rsinM x3.1 x3.2) fun x13 =>
      lt (rcosM x3.1 x3.2) fun x14 =>
      lt (rsinM x6.1 x6.2) fun x15 =>
      lt (mulR x13.1 x13.2 x15.1 x15.2) fun x16 =>
      cond (bothB x13.1 x13.2 x15.1 x15.2)
      (lt (rkV x16.1 x16.2.1 x16.2.2) fun x18 =>
       lt (rkC 0 x16.1 x16.2.1 x16.2.2) fun x17 =>
       lt (rcosM x6.1 x6.2) fun x19 =>
       lt (mulR x14.1 x14.2 x19.1 x19.2) fun x20 =>
       cond (bothB x14.1 x14.2 x19.1 x19.2)
       (lt (rkV x20.1 x20.2.1 x20.2.2) fun x22 =>
        lt (rkC x17 x20.1 x20.2.1 x20.2.2) fun x21 =>
        lt (rsinM x9.1 x9.2) fun x23 =>
        lt (mulR x18.1 x18.2 x23.1 x23.2) fun x24 =>
        cond (bothB x18.1 x18.2 x23.1 x23.2)
        (lt (rkV x24.1 x24.2.1 x24.2.2) fun x26 =>
         lt (rkC x21 x24.1 x24.2.1 x24.2.2) fun x25 =>
         lt (rcosM x9.1 x9.2) fun x27 =>
         lt (mulR x22.1 x22.2 x27.1 x27.2) fun x28 =>
         cond (bothB x22.1 x22.2 x27.1 x27.2)
         (lt (rkV x28.1 x28.2.1 x28.2.2) fun x30 =>
          lt (rkC x25 x28.1 x28.2.1 x28.2.2) fun x29 =>
          lt (rsinM x12.1 x12.2) fun x31 =>
          lt (mulR x26.1 x26.2 x31.1 x31.2) fun x32 =>
          cond (bothB x26.1 x26.2 x31.1 x31.2)
          (lt (rkV x32.1 x32.2.1 x32.2.2) fun x34 =>
           lt (rkC x29 x32.1 x32.2.1 x32.2.2) fun x33 =>
           lt (rcosM x12.1 x12.2) fun x35 =>
           lt (mulR x30.1 x30.2 x35.1 x35.2) fun x36 =>
           cond (bothB x30.1 x30.2 x35.1 x35.2)
           (lt (rkV x36.1 x36.2.1 x36.2.2) fun x38 =>
            lt (rkC x33 x36.1 x36.2.1 x36.2.2) fun x37 =>
            lt (sqtR x34.1 x34.2) fun x39 =>
            cond (validB x34.1 x34.2)
            (lt (rkV x39.1 x39.2.1 x39.2.2) fun x41 =>
             lt (rkC x37 x39.1 x39.2.1 x39.2.2) fun x40 =>
             lt (sqtR x38.1 x38.2) fun x42 =>
             cond (validB x38.1 x38.2)
             (lt (rkV x42.1 x42.2.1 x42.2.2) fun x44 =>
              lt (rkC x40 x42.1 x42.2.1 x42.2.2) fun x43 =>
              cond (x43 != 0)
              (some (.v (.tuple ⟨[.agg ⟨[.int .i64 0, .int .i64 0]⟩, .int .i64 12]⟩)))
              (lt (bearR x41.1 x41.2 x44.1 x44.2) fun x45 =>
               cond (rarM x45.1 x45.2.1)
               (some (.v (.tuple ⟨[.agg ⟨[.int .i64 0, .int .i64 0]⟩, .int .i64 24]⟩)))
               (lt (rtimR x45.1 x45.2.1 4 1) fun x46 =>
                cond (rtimP x45.1 x45.2.1 4 1)
                (some (.v (.tuple ⟨[.agg ⟨[.int .i64 x46.1, .int .i64 x46.2]⟩, .int .i64 0]⟩)))
                (none))))
             (none))
            (none))
           (none))
          (none))
         (none))
        (none))
       (none))
      (none))
     (none))
    (none))
   (none))
  (none) := by kernel_rfl
theorem rexc28_gives (a b c d e f : Int) (hp : threeB a b c d e f = true) : Gives Tryz.prog 18 [.agg ⟨[.int .i64 a, .int .i64 b]⟩, .agg ⟨[.int .i64 c, .int .i64 d]⟩, .agg ⟨[.int .i64 e, .int .i64 f]⟩] (arcV (excM a b c d e f)) := by
  refine evF_gives (E := []) mixed (by simp) Cs_ok book_rexc28_gives_ok (lim := 20) (d := 6) (nm := []) ?_
  rw [rexc28_gives_tree a b c d e f]
  obtain ⟨s1, s2, s3⟩ := three_inv hp
  have s0 := side_bd s1
  have s0' := side_bd s2
  have h1 : 0 ≤ a ∧ a ≤ b ∧ b ≤ 10800000 := ⟨s0.1, s0.2.1, s0.2.2.1⟩
  have h2 : 0 ≤ c ∧ c ≤ d ∧ d ≤ 10800000 := ⟨s0'.1, s0'.2.1, s0'.2.2.1⟩
  have va := s0.2.2.2
  have vb := s0'.2.2.2
  have s0'' := side_bd s3
  have h3 : 0 ≤ e ∧ e ≤ f ∧ f ≤ 10800000 := ⟨s0''.1, s0''.2.1, s0''.2.2.1⟩
  have vc := s0''.2.2.2
  have v0 := prs_val h1 h2 h3
  have v1 : avalidB (prt 4 c d e f a b).1 (prt 4 c d e f a b).2 = true := prt_val (.inr rfl) h2 h3 h1
  have v2 : avalidB (prt 4 a b e f c d).1 (prt 4 a b e f c d).2 = true := prt_val (.inr rfl) h1 h3 h2
  have v3 : avalidB (prt 4 a b c d e f).1 (prt 4 a b c d e f).2 = true := prt_val (.inr rfl) h1 h2 h3
  rw [exc_ok s1 s2 s3]
  refine lt_eq (show raadM a b c d = (a + c, b + d) from raad_eq (by omega) (by omega) (by omega) (by omega) (by omega) (by omega)) ?_
  (try dsimp only)
  refine lt_eq (show raadM (a + c) (b + d) e f = (a + c + e, b + d + f) from raad_eq (by omega) (by omega) (by omega) (by omega) (by omega) (by omega)) ?_
  (try dsimp only)
  refine lt_eq (show rtimR (a + c + e) (b + d + f) 1 4 = ((prs a b c d e f).1, (prs a b c d e f).2) from (by unfold rtimR; rw [Int.mul_one, Int.mul_one]; rfl)) ?_
  (try dsimp only)
  refine co_eq (tim_t (by omega) (by omega) (by omega) (.inl ⟨rfl, .inr rfl⟩)) ?_
  refine lt_eq (show raadM c d e f = (c + e, d + f) from raad_eq (by omega) (by omega) (by omega) (by omega) (by omega) (by omega)) ?_
  (try dsimp only)
  refine lt_eq (show rasubM (c + e) (d + f) a b = (c + e - b, d + f - a) from rasub_eq (by omega) (by omega) (by omega) (by omega) (by omega) (by omega)) ?_
  (try dsimp only)
  refine lt_eq (show rtimR (c + e - b) (d + f - a) 1 4 = ((prt 4 c d e f a b).1, (prt 4 c d e f a b).2) from (by unfold rtimR; rw [Int.mul_one, Int.mul_one]; rfl)) ?_
  (try dsimp only)
  refine co_eq (tim_t (by omega) (by omega) (by omega) (.inl ⟨rfl, .inr rfl⟩)) ?_
  refine lt_eq (show raadM a b e f = (a + e, b + f) from raad_eq (by omega) (by omega) (by omega) (by omega) (by omega) (by omega)) ?_
  (try dsimp only)
  refine lt_eq (show rasubM (a + e) (b + f) c d = (a + e - d, b + f - c) from rasub_eq (by omega) (by omega) (by omega) (by omega) (by omega) (by omega)) ?_
  (try dsimp only)
  refine lt_eq (show rtimR (a + e - d) (b + f - c) 1 4 = ((prt 4 a b e f c d).1, (prt 4 a b e f c d).2) from (by unfold rtimR; rw [Int.mul_one, Int.mul_one]; rfl)) ?_
  (try dsimp only)
  refine co_eq (tim_t (by omega) (by omega) (by omega) (.inl ⟨rfl, .inr rfl⟩)) ?_
  refine lt_eq (show raadM a b c d = (a + c, b + d) from raad_eq (by omega) (by omega) (by omega) (by omega) (by omega) (by omega)) ?_
  (try dsimp only)
  refine lt_eq (show rasubM (a + c) (b + d) e f = (a + c - f, b + d - e) from rasub_eq (by omega) (by omega) (by omega) (by omega) (by omega) (by omega)) ?_
  (try dsimp only)
  refine lt_eq (show rtimR (a + c - f) (b + d - e) 1 4 = ((prt 4 a b c d e f).1, (prt 4 a b c d e f).2) from (by unfold rtimR; rw [Int.mul_one, Int.mul_one]; rfl)) ?_
  (try dsimp only)
  refine co_eq (tim_t (by omega) (by omega) (by omega) (.inl ⟨rfl, .inr rfl⟩)) ?_
  exact rex_core v0 v1 v2 v3
end Go.Proofs.YtipjnfabodfkcaaGreatDoor

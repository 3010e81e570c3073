/-
  The reference's Solve is the program's.
-/
import Derived.Test.YtipjnfabodfkcaaGreatDoorR2
namespace Go.Proofs.YtipjnfabodfkcaaGreatDoor
open Ev

open SM TB TA
open Ev (lt keepE)
noncomputable def book_rsol28_gives : Book := [(37, ePP (fun a b c d => pairV (rasubM a b c d).1 (rasubM a b c d).2)), (38, e0 (pairV (rgtM).1 (rgtM).2)), (39, ePIIif rtimP (fun a b c d => pairV (rtimR a b c d).1 (rtimR a b c d).2)), (40, ePP (fun a b c d => pairV (raadM a b c d).1 (raadM a b c d).2)), (41, eP (fun a b => pairV (rturnM a b).1 (rturnM a b).2)), (43, eP (fun a b => pairV (rcosM a b).1 (rcosM a b).2)), (44, eP (fun a b => pairV (rsinM a b).1 (rsinM a b).2)), (48, ePP (fun a b c d => arcV (bearR a b c d))), (49, eP (fun a b => .bool (rarM a b))), (50, eP (fun a b => pairV (ranegM a b).1 (ranegM a b).2)), (81, ePPif bothB (fun a b c d => arcV (mulR a b c d))), (82, cPI 60 (fun a b c => pairV (rkV a b c).1 (rkV a b c).2) rkC), (84, ePif validB (fun a b => arcV (sqtR a b))), (85, ePPif bothB (fun a b c d => arcV (addR a b c d))), (86, ePif validB (fun a b => arcV (sqrR a b)))]
theorem book_rsol28_gives_ok : BookOk Tryz.prog book_rsol28_gives := (bookOk_cons (ePP_ok rasubM_gives) (bookOk_cons (e0_ok rgtM_gives) (bookOk_cons (ePIIif_ok rtimR_gives) (bookOk_cons (ePP_ok raadM_gives) (bookOk_cons (eP_ok rturnM_gives) (bookOk_cons (eP_ok rcosM_gives) (bookOk_cons (eP_ok rsinM_gives) (bookOk_cons (ePP_ok rbear) (bookOk_cons (eP_ok rarM_gives) (bookOk_cons (eP_ok ranegM_gives) (bookOk_cons (ePPif_ok rmul_gives) (bookOk_cons (cPI_ok rkV_mods) (bookOk_cons (ePif_ok rsqt_gives) (bookOk_cons (ePPif_ok radd_gives) (bookOk_cons (ePif_ok rsqr_gives) bookOk_nil)))))))))))))))
theorem rsol28_gives_tree (a b c d e f : Int) : evF Tryz.prog [] Cs book_rsol28_gives 20 6 9 ([.agg ⟨[.int .i64 a, .int .i64 b, .int .i64 c, .int .i64 d, .int .i64 e, .int .i64 f]⟩].map AV.v) [] [] last =
  lt (rgtM) fun x1 =>
  lt (rasubM x1.1 x1.2 c d) fun x2 =>
  lt (rgtM) fun x3 =>
  lt (rasubM x3.1 x3.2 a b) fun x4 =>
  lt (raadM x2.1 x2.2 x4.1 x4.2) fun x5 =>
  lt (rtimR x5.1 x5.2 1 2) fun x6 =>
  cond (rtimP x5.1 x5.2 1 2)
  (lt (rasubM x2.1 x2.2 x4.1 x4.2) fun x7 =>
   lt (rtimR x7.1 x7.2 1 2) fun x8 =>
   cond (rtimP x7.1 x7.2 1 2)
   (lt (rturnM e f) fun x9 =>
    lt (rtimR x9.1 x9.2 1 2) fun x10 =>
    cond (rtimP x9.1 x9.2 1 2)
    (lt (rcosM x6.1 x6.2) fun x11 =>
     lt (rsinM x10.1 x10.2) fun x12 =>
     lt (mulR x11.1 x11.2 x12.1 x12.2) fun x13 =>
     cond (bothB x11.1 x11.2 x12.1 x12.2)
     (lt (rkV x13.1 x13.2.1 x13.2.2) fun x15 =>
      lt (rkC 0 x13.1 x13.2.1 x13.2.2) fun x14 =>
      lt (rcosM x8.1 x8.2) fun x16 =>
      lt (rcosM x10.1 x10.2) fun x17 =>
      lt (mulR x16.1 x16.2 x17.1 x17.2) fun x18 =>
      cond (bothB x16.1 x16.2 x17.1 x17.2)
      (lt (rkV x18.1 x18.2.1 x18.2.2) fun x20 =>
       lt (rkC x14 x18.1 x18.2.1 x18.2.2) fun x19 =>
       lt (rsinM x6.1 x6.2) fun x21 =>
       lt (rsinM x10.1 x10.2) fun x22 =>
       lt (mulR x21.1 x21.2 x22.1 x22.2) fun x23 =>
       cond (bothB x21.1 x21.2 x22.1 x22.2)
       (lt (rkV x23.1 x23.2.1 x23.2.2) fun x25 =>
        lt (rkC x19 x23.1 x23.2.1 x23.2.2) fun x24 =>
        lt (rsinM x8.1 x8.2) fun x26 =>
        lt (rcosM x10.1 x10.2) fun x27 =>
        lt (mulR x26.1 x26.2 x27.1 x27.2) fun x28 =>
        cond (bothB x26.1 x26.2 x27.1 x27.2)
        (lt (rkV x28.1 x28.2.1 x28.2.2) fun x30 =>
         lt (rkC x24 x28.1 x28.2.1 x28.2.2) fun x29 =>
         lt (sqrR x25.1 x25.2) fun x31 =>
         cond (validB x25.1 x25.2)
         (lt (rkV x31.1 x31.2.1 x31.2.2) fun x33 =>
          lt (rkC x29 x31.1 x31.2.1 x31.2.2) fun x32 =>
          lt (sqrR x30.1 x30.2) fun x34 =>
          cond (validB x30.1 x30.2)
          (lt (rkV x34.1 x34.2.1 x34.2.2) fun x36 =>
           lt (rkC x32 x34.1 x34.2.1 x34.2.2) fun x35 =>
           lt (addR x33.1 x33.2 x36.1 x36.2) fun x37 =>
           cond (bothB x33.1 x33.2 x36.1 x36.2)
           (lt (rkV x37.1 x37.2.1 x37.2.2) fun x39 =>
            lt (rkC x35 x37.1 x37.2.1 x37.2.2) fun x38 =>
            lt (sqtR x39.1 x39.2) fun x40 =>
            cond (validB x39.1 x39.2)
            (lt (rkV x40.1 x40.2.1 x40.2.2) fun x42 =>
             lt (rkC x38 x40.1 x40.2.1 x40.2.2) fun x41 =>
             lt (sqrR x15.1 x15.2) fun x43 =>
             cond (validB x15.1 x15.2)
             (lt (rkV x43.1 x43.2.1 x43.2.2) fun x45 =>
              lt (rkC x41 x43.1 x43.2.1 x43.2.2) fun x44 =>
              lt (sqrR x20.1 x20.2) fun x46 =>
              cond (validB x20.1 x20.2)
              (lt (rkV x46.1 x46.2.1 x46.2.2) fun x48 =>
               lt (rkC x44 x46.1 x46.2.1 x46.2.2) fun x47 =>
               lt (addR x45.1 x45.2 x48.1 x48.2) fun x49 =>
               cond (bothB x45.1 x45.2 x48.1 x48.2)
               (lt (rkV x49.1 x49.2.1 x49.2.2) fun x51 =>
                lt (rkC x47 x49.1 x49.2.1 x49.2.2) fun x50 =>
                lt (sqtR x51.1 x51.2) fun x52 =>
                cond (validB x51.1 x51.2)
                (lt (rkV x52.1 x52.2.1 x52.2.2) fun x54 =>
                 lt (rkC x50 x52.1 x52.2.1 x52.2.2) fun _ =>
                 lt (bearR x42.1 x42.2 x54.1 x54.2) fun x55 =>
                 cond (rarM x55.1 x55.2.1)
                 (some (.v (.tuple ⟨[.agg ⟨[.int .i64 0, .int .i64 0, .int .i64 0, .int .i64 0]⟩, .int .i64 24]⟩)))
                 (lt (rgtM) fun x56 =>
                  lt (rtimR x55.1 x55.2.1 2 1) fun x57 =>
                  cond (rtimP x55.1 x55.2.1 2 1)
                  (lt (rasubM x56.1 x56.2 x57.1 x57.2) fun x58 =>
                   lt (bearR x20.1 x20.2 x15.1 x15.2) fun x59 =>
                   lt (bearR x30.1 x30.2 x25.1 x25.2) fun x60 =>
                   cond (!(rarM x59.1 x59.2.1))
                   (cond (!(rarM x60.1 x60.2.1))
                    (lt (raadM x59.1 x59.2.1 x60.1 x60.2.1) fun x61 =>
                     lt (ranegM x61.1 x61.2) fun x62 =>
                     lt (rturnM x62.1 x62.2) fun x63 =>
                     some (.v (.tuple ⟨[.agg ⟨[.int .i64 x58.1, .int .i64 x58.2, .int .i64 x63.1, .int .i64 x63.2]⟩, .int .i64 0]⟩)))
                    (some (.v (.tuple ⟨[.agg ⟨[.int .i64 x58.1, .int .i64 x58.2, .int .i64 0, .int .i64 21600000]⟩, .int .i64 0]⟩))))
                   (some (.v (.tuple ⟨[.agg ⟨[.int .i64 x58.1, .int .i64 x58.2, .int .i64 0, .int .i64 21600000]⟩, .int .i64 0]⟩))))
                  (none)))
                (none))
               (none))
              (none))
             (none))
            (none))
           (none))
          (none))
         (none))
        (none))
       (none))
      (none))
     (none))
    (none))
   (none))
  (none) := by kernel_rfl
theorem rsol28_gives (a b c d e f : Int) (hp : triB a b c d e f = true) : Gives Tryz.prog 9 [.agg ⟨[.int .i64 a, .int .i64 b, .int .i64 c, .int .i64 d, .int .i64 e, .int .i64 f]⟩] (solV (hslM a b c d e f)) := by
  refine evF_gives (E := []) mixed (by simp) Cs_ok book_rsol28_gives_ok (lim := 20) (d := 6) (nm := []) ?_
  rw [rsol28_gives_tree a b c d e f]
  obtain ⟨h1, h2, h3⟩ := tri_bd hp
  have l1 := lat_bd h1
  have l2 := lat_bd h2
  obtain ⟨vu, vv, vw⟩ := ang_bd hp
  obtain ⟨p, q, r, s⟩ := one4 hp
  have L1 := len_ok r s
  have L2 := len_ok p q
  have S1 := sqr_ones r
  have S2 := sqr_ones s
  have S3 := sqr_ones p
  have S4 := sqr_ones q
  have V := val4 hp
  have tu := turn_bd h3
  have B := bea_dir V.1 V.2.1
  have DA := bea_dir q.val p.val
  have DC := bea_dir s.val r.val
  rw [hsl_ok hp]
  refine lt_eq (show rgtM = (5400000, 5400000) from rfl) ?_
  (try dsimp only)
  refine lt_eq (show rasubM 5400000 5400000 c d = (5400000 - d, 5400000 - c) from rasub_eq (by omega) (by omega) (by omega) (by omega) (by omega) (by omega)) ?_
  (try dsimp only)
  refine lt_eq (show rgtM = (5400000, 5400000) from rfl) ?_
  (try dsimp only)
  refine lt_eq (show rasubM 5400000 5400000 a b = (5400000 - b, 5400000 - a) from rasub_eq (by omega) (by omega) (by omega) (by omega) (by omega) (by omega)) ?_
  (try dsimp only)
  refine lt_eq (show raadM (5400000 - d) (5400000 - c) (5400000 - b) (5400000 - a) = (10800000 - b - d, 10800000 - a - c) from by rw [raad_eq (by omega) (by omega) (by omega) (by omega) (by omega) (by omega), show 5400000 - d + (5400000 - b) = 10800000 - b - d by omega, show 5400000 - c + (5400000 - a) = 10800000 - a - c by omega]) ?_
  (try dsimp only)
  refine lt_eq (show rtimR (10800000 - b - d) (10800000 - a - c) 1 2 = ((fU a b c d).1, (fU a b c d).2) from (by unfold rtimR; rw [Int.mul_one, Int.mul_one]; rfl)) ?_
  (try dsimp only)
  refine co_eq (tim_t (by omega) (by omega) (by omega) (.inl ⟨rfl, .inl rfl⟩)) ?_
  refine lt_eq (show rasubM (5400000 - d) (5400000 - c) (5400000 - b) (5400000 - a) = (a - d, b - c) from by rw [rasub_eq (by omega) (by omega) (by omega) (by omega) (by omega) (by omega), show 5400000 - d - (5400000 - a) = a - d by omega, show 5400000 - c - (5400000 - b) = b - c by omega]) ?_
  (try dsimp only)
  refine lt_eq (show rtimR (a - d) (b - c) 1 2 = ((fV a b c d).1, (fV a b c d).2) from (by unfold rtimR; rw [Int.mul_one, Int.mul_one]; rfl)) ?_
  (try dsimp only)
  refine co_eq (tim_t (by omega) (by omega) (by omega) (.inl ⟨rfl, .inl rfl⟩)) ?_
  refine lt_eq (show rturnM e f = (turnL e f, turnH e f) from rturn_eq h3) ?_
  (try dsimp only)
  refine lt_eq (show rtimR (turnL e f) (turnH e f) 1 2 = ((fW e f).1, (fW e f).2) from (by unfold rtimR; rw [Int.mul_one, Int.mul_one]; rfl)) ?_
  (try dsimp only)
  refine co_eq (tim_t (by omega) (by omega) (by omega) (.inl ⟨rfl, .inl rfl⟩)) ?_
  refine lt_eq (show rcosM (fU a b c d).1 (fU a b c d).2 = ((cosR (fU a b c d).1 (fU a b c d).2).1, (cosR (fU a b c d).1 (fU a b c d).2).2.1) from rcos_eq vu) ?_
  (try dsimp only)
  refine lt_eq (show rsinM (fW e f).1 (fW e f).2 = ((sinR (fW e f).1 (fW e f).2).1, (sinR (fW e f).1 (fW e f).2).2.1) from rsin_eq vw) ?_
  (try dsimp only)
  refine lt_eq (show mulR (cosR (fU a b c d).1 (fU a b c d).2).1 (cosR (fU a b c d).1 (fU a b c d).2).2.1 (sinR (fW e f).1 (fW e f).2).1 (sinR (fW e f).1 (fW e f).2).2.1 = hfP a b c d e f from rfl) ?_
  (try dsimp only)
  refine co_eq (both_mk (cos_one vu).val (sin_one vw).val) ?_
  refine lt_eq (show rkV (hfP a b c d e f).1 (hfP a b c d e f).2.1 (hfP a b c d e f).2.2 = ((hfP a b c d e f).1, (hfP a b c d e f).2.1) from rk_ok p.2.2.2) ?_
  (try dsimp only)
  refine lt_eq (show rkC 0 (hfP a b c d e f).1 (hfP a b c d e f).2.1 (hfP a b c d e f).2.2 = 0 from rk_c p.2.2.2) ?_
  (try dsimp only)
  refine lt_eq (show rcosM (fV a b c d).1 (fV a b c d).2 = ((cosR (fV a b c d).1 (fV a b c d).2).1, (cosR (fV a b c d).1 (fV a b c d).2).2.1) from rcos_eq vv) ?_
  (try dsimp only)
  refine lt_eq (show rcosM (fW e f).1 (fW e f).2 = ((cosR (fW e f).1 (fW e f).2).1, (cosR (fW e f).1 (fW e f).2).2.1) from rcos_eq vw) ?_
  (try dsimp only)
  refine lt_eq (show mulR (cosR (fV a b c d).1 (fV a b c d).2).1 (cosR (fV a b c d).1 (fV a b c d).2).2.1 (cosR (fW e f).1 (fW e f).2).1 (cosR (fW e f).1 (fW e f).2).2.1 = hfQ a b c d e f from rfl) ?_
  (try dsimp only)
  refine co_eq (both_mk (cos_one vv).val (cos_one vw).val) ?_
  refine lt_eq (show rkV (hfQ a b c d e f).1 (hfQ a b c d e f).2.1 (hfQ a b c d e f).2.2 = ((hfQ a b c d e f).1, (hfQ a b c d e f).2.1) from rk_ok q.2.2.2) ?_
  (try dsimp only)
  refine lt_eq (show rkC 0 (hfQ a b c d e f).1 (hfQ a b c d e f).2.1 (hfQ a b c d e f).2.2 = 0 from rk_c q.2.2.2) ?_
  (try dsimp only)
  refine lt_eq (show rsinM (fU a b c d).1 (fU a b c d).2 = ((sinR (fU a b c d).1 (fU a b c d).2).1, (sinR (fU a b c d).1 (fU a b c d).2).2.1) from rsin_eq vu) ?_
  (try dsimp only)
  refine lt_eq (show rsinM (fW e f).1 (fW e f).2 = ((sinR (fW e f).1 (fW e f).2).1, (sinR (fW e f).1 (fW e f).2).2.1) from rsin_eq vw) ?_
  (try dsimp only)
  refine lt_eq (show mulR (sinR (fU a b c d).1 (fU a b c d).2).1 (sinR (fU a b c d).1 (fU a b c d).2).2.1 (sinR (fW e f).1 (fW e f).2).1 (sinR (fW e f).1 (fW e f).2).2.1 = hfR a b c d e f from rfl) ?_
  (try dsimp only)
  refine co_eq (both_mk (sin_one vu).val (sin_one vw).val) ?_
  refine lt_eq (show rkV (hfR a b c d e f).1 (hfR a b c d e f).2.1 (hfR a b c d e f).2.2 = ((hfR a b c d e f).1, (hfR a b c d e f).2.1) from rk_ok r.2.2.2) ?_
  (try dsimp only)
  refine lt_eq (show rkC 0 (hfR a b c d e f).1 (hfR a b c d e f).2.1 (hfR a b c d e f).2.2 = 0 from rk_c r.2.2.2) ?_
  (try dsimp only)
  refine lt_eq (show rsinM (fV a b c d).1 (fV a b c d).2 = ((sinR (fV a b c d).1 (fV a b c d).2).1, (sinR (fV a b c d).1 (fV a b c d).2).2.1) from rsin_eq vv) ?_
  (try dsimp only)
  refine lt_eq (show rcosM (fW e f).1 (fW e f).2 = ((cosR (fW e f).1 (fW e f).2).1, (cosR (fW e f).1 (fW e f).2).2.1) from rcos_eq vw) ?_
  (try dsimp only)
  refine lt_eq (show mulR (sinR (fV a b c d).1 (fV a b c d).2).1 (sinR (fV a b c d).1 (fV a b c d).2).2.1 (cosR (fW e f).1 (fW e f).2).1 (cosR (fW e f).1 (fW e f).2).2.1 = hfS a b c d e f from rfl) ?_
  (try dsimp only)
  refine co_eq (both_mk (sin_one vv).val (cos_one vw).val) ?_
  refine lt_eq (show rkV (hfS a b c d e f).1 (hfS a b c d e f).2.1 (hfS a b c d e f).2.2 = ((hfS a b c d e f).1, (hfS a b c d e f).2.1) from rk_ok s.2.2.2) ?_
  (try dsimp only)
  refine lt_eq (show rkC 0 (hfS a b c d e f).1 (hfS a b c d e f).2.1 (hfS a b c d e f).2.2 = 0 from rk_c s.2.2.2) ?_
  (try dsimp only)
  refine lt_eq rfl ?_
  (try dsimp only)
  refine co_eq (r.val) ?_
  refine lt_eq (show rkV (sqrR (hfR a b c d e f).1 (hfR a b c d e f).2.1).1 (sqrR (hfR a b c d e f).1 (hfR a b c d e f).2.1).2.1 (sqrR (hfR a b c d e f).1 (hfR a b c d e f).2.1).2.2 = ((sqrR (hfR a b c d e f).1 (hfR a b c d e f).2.1).1, (sqrR (hfR a b c d e f).1 (hfR a b c d e f).2.1).2.1) from rk_ok S1.2.1.2.2.2) ?_
  (try dsimp only)
  refine lt_eq (show rkC 0 (sqrR (hfR a b c d e f).1 (hfR a b c d e f).2.1).1 (sqrR (hfR a b c d e f).1 (hfR a b c d e f).2.1).2.1 (sqrR (hfR a b c d e f).1 (hfR a b c d e f).2.1).2.2 = 0 from rk_c S1.2.1.2.2.2) ?_
  (try dsimp only)
  refine lt_eq rfl ?_
  (try dsimp only)
  refine co_eq (s.val) ?_
  refine lt_eq (show rkV (sqrR (hfS a b c d e f).1 (hfS a b c d e f).2.1).1 (sqrR (hfS a b c d e f).1 (hfS a b c d e f).2.1).2.1 (sqrR (hfS a b c d e f).1 (hfS a b c d e f).2.1).2.2 = ((sqrR (hfS a b c d e f).1 (hfS a b c d e f).2.1).1, (sqrR (hfS a b c d e f).1 (hfS a b c d e f).2.1).2.1) from rk_ok S2.2.1.2.2.2) ?_
  (try dsimp only)
  refine lt_eq (show rkC 0 (sqrR (hfS a b c d e f).1 (hfS a b c d e f).2.1).1 (sqrR (hfS a b c d e f).1 (hfS a b c d e f).2.1).2.1 (sqrR (hfS a b c d e f).1 (hfS a b c d e f).2.1).2.2 = 0 from rk_c S2.2.1.2.2.2) ?_
  (try dsimp only)
  refine lt_eq (show addR (sqrR (hfR a b c d e f).1 (hfR a b c d e f).2.1).1 (sqrR (hfR a b c d e f).1 (hfR a b c d e f).2.1).2.1 (sqrR (hfS a b c d e f).1 (hfS a b c d e f).2.1).1 (sqrR (hfS a b c d e f).1 (hfS a b c d e f).2.1).2.1 = sumT (hfR a b c d e f) (hfS a b c d e f) from rfl) ?_
  (try dsimp only)
  refine co_eq (both_mk S1.2.1.val S2.2.1.val) ?_
  refine lt_eq (show rkV (sumT (hfR a b c d e f) (hfS a b c d e f)).1 (sumT (hfR a b c d e f) (hfS a b c d e f)).2.1 (sumT (hfR a b c d e f) (hfS a b c d e f)).2.2 = ((sumT (hfR a b c d e f) (hfS a b c d e f)).1, (sumT (hfR a b c d e f) (hfS a b c d e f)).2.1) from rk_ok (by rw [L1.1])) ?_
  (try dsimp only)
  refine lt_eq (show rkC 0 (sumT (hfR a b c d e f) (hfS a b c d e f)).1 (sumT (hfR a b c d e f) (hfS a b c d e f)).2.1 (sumT (hfR a b c d e f) (hfS a b c d e f)).2.2 = 0 from rk_c (by rw [L1.1])) ?_
  (try dsimp only)
  refine lt_eq (show sqtR (sumT (hfR a b c d e f) (hfS a b c d e f)).1 (sumT (hfR a b c d e f) (hfS a b c d e f)).2.1 = hfY a b c d e f from rfl) ?_
  (try dsimp only)
  refine co_eq L1.2.2.1 ?_
  refine lt_eq (show rkV (hfY a b c d e f).1 (hfY a b c d e f).2.1 (hfY a b c d e f).2.2 = ((hfY a b c d e f).1, (hfY a b c d e f).2.1) from rk_ok L1.2.2.2.1) ?_
  (try dsimp only)
  refine lt_eq (show rkC 0 (hfY a b c d e f).1 (hfY a b c d e f).2.1 (hfY a b c d e f).2.2 = 0 from rk_c L1.2.2.2.1) ?_
  (try dsimp only)
  refine lt_eq rfl ?_
  (try dsimp only)
  refine co_eq (p.val) ?_
  refine lt_eq (show rkV (sqrR (hfP a b c d e f).1 (hfP a b c d e f).2.1).1 (sqrR (hfP a b c d e f).1 (hfP a b c d e f).2.1).2.1 (sqrR (hfP a b c d e f).1 (hfP a b c d e f).2.1).2.2 = ((sqrR (hfP a b c d e f).1 (hfP a b c d e f).2.1).1, (sqrR (hfP a b c d e f).1 (hfP a b c d e f).2.1).2.1) from rk_ok S3.2.1.2.2.2) ?_
  (try dsimp only)
  refine lt_eq (show rkC 0 (sqrR (hfP a b c d e f).1 (hfP a b c d e f).2.1).1 (sqrR (hfP a b c d e f).1 (hfP a b c d e f).2.1).2.1 (sqrR (hfP a b c d e f).1 (hfP a b c d e f).2.1).2.2 = 0 from rk_c S3.2.1.2.2.2) ?_
  (try dsimp only)
  refine lt_eq rfl ?_
  (try dsimp only)
  refine co_eq (q.val) ?_
  refine lt_eq (show rkV (sqrR (hfQ a b c d e f).1 (hfQ a b c d e f).2.1).1 (sqrR (hfQ a b c d e f).1 (hfQ a b c d e f).2.1).2.1 (sqrR (hfQ a b c d e f).1 (hfQ a b c d e f).2.1).2.2 = ((sqrR (hfQ a b c d e f).1 (hfQ a b c d e f).2.1).1, (sqrR (hfQ a b c d e f).1 (hfQ a b c d e f).2.1).2.1) from rk_ok S4.2.1.2.2.2) ?_
  (try dsimp only)
  refine lt_eq (show rkC 0 (sqrR (hfQ a b c d e f).1 (hfQ a b c d e f).2.1).1 (sqrR (hfQ a b c d e f).1 (hfQ a b c d e f).2.1).2.1 (sqrR (hfQ a b c d e f).1 (hfQ a b c d e f).2.1).2.2 = 0 from rk_c S4.2.1.2.2.2) ?_
  (try dsimp only)
  refine lt_eq (show addR (sqrR (hfP a b c d e f).1 (hfP a b c d e f).2.1).1 (sqrR (hfP a b c d e f).1 (hfP a b c d e f).2.1).2.1 (sqrR (hfQ a b c d e f).1 (hfQ a b c d e f).2.1).1 (sqrR (hfQ a b c d e f).1 (hfQ a b c d e f).2.1).2.1 = sumT (hfP a b c d e f) (hfQ a b c d e f) from rfl) ?_
  (try dsimp only)
  refine co_eq (both_mk S3.2.1.val S4.2.1.val) ?_
  refine lt_eq (show rkV (sumT (hfP a b c d e f) (hfQ a b c d e f)).1 (sumT (hfP a b c d e f) (hfQ a b c d e f)).2.1 (sumT (hfP a b c d e f) (hfQ a b c d e f)).2.2 = ((sumT (hfP a b c d e f) (hfQ a b c d e f)).1, (sumT (hfP a b c d e f) (hfQ a b c d e f)).2.1) from rk_ok (by rw [L2.1])) ?_
  (try dsimp only)
  refine lt_eq (show rkC 0 (sumT (hfP a b c d e f) (hfQ a b c d e f)).1 (sumT (hfP a b c d e f) (hfQ a b c d e f)).2.1 (sumT (hfP a b c d e f) (hfQ a b c d e f)).2.2 = 0 from rk_c (by rw [L2.1])) ?_
  (try dsimp only)
  refine lt_eq (show sqtR (sumT (hfP a b c d e f) (hfQ a b c d e f)).1 (sumT (hfP a b c d e f) (hfQ a b c d e f)).2.1 = hfX a b c d e f from rfl) ?_
  (try dsimp only)
  refine co_eq L2.2.2.1 ?_
  refine lt_eq (show rkV (hfX a b c d e f).1 (hfX a b c d e f).2.1 (hfX a b c d e f).2.2 = ((hfX a b c d e f).1, (hfX a b c d e f).2.1) from rk_ok L2.2.2.2.1) ?_
  (try dsimp only)
  refine lt_eq (show rkC 0 (hfX a b c d e f).1 (hfX a b c d e f).2.1 (hfX a b c d e f).2.2 = 0 from rk_c L2.2.2.2.1) ?_
  (try dsimp only)
  refine lt_eq (show bearR (hfY a b c d e f).1 (hfY a b c d e f).2.1 (hfX a b c d e f).1 (hfX a b c d e f).2.1 = hfB a b c d e f from rfl) ?_
  (try dsimp only)
  have fb : bearR (hfY a b c d e f).1 (hfY a b c d e f).2.1 (hfX a b c d e f).1 (hfX a b c d e f).2.1 = hfB a b c d e f := rfl
  rw [fb] at B
  have Bb := dir_bd B
  rw [rar_eq Bb.1 Bb.2.1 Bb.2.2.1 Bb.2.2.2.1]
  cases ho : originB (hfY a b c d e f).1 (hfY a b c d e f).2.1 (hfX a b c d e f).1 (hfX a b c d e f).2.1 with
  | true =>
    have eb : hfB a b c d e f = (0, 21600000, 0) := by
      rw [← fb]
      unfold bearR
      rw [V.1, V.2.1, ho]
      rfl
    rw [eb]
    rfl
  | false =>
  have F := bear_first V.1 V.2.1 V.2.2.1 V.2.2.2 ho
  rw [fb] at F
  rw [decF (show ¬ 21600000 ≤ (hfB a b c d e f).2.1 - (hfB a b c d e f).1 by omega), cond_false, if_neg (by simp)]
  refine lt_eq (show rgtM = (5400000, 5400000) from rfl) ?_
  (try dsimp only)
  refine lt_eq (show rtimR (hfB a b c d e f).1 (hfB a b c d e f).2.1 2 1 = (2 * (hfB a b c d e f).1, 2 * (hfB a b c d e f).2.1) from by unfold rtimR; rw [Int.ediv_one, Int.ediv_one, Int.neg_neg, Int.mul_comm 2, Int.mul_comm 2]) ?_
  (try dsimp only)
  refine co_eq (tim_t (by omega) (by omega) (by omega) (.inr ⟨rfl, .inl rfl⟩)) ?_
  refine lt_eq (show rasubM 5400000 5400000 (2 * (hfB a b c d e f).1) (2 * (hfB a b c d e f).2.1) = ((hfH a b c d e f).1, (hfH a b c d e f).2.1) from by rw [rasub_eq (by omega) (by omega) (by omega) (by omega) (by omega) (by omega)]; rfl) ?_
  (try dsimp only)
  refine lt_eq (show bearR (hfQ a b c d e f).1 (hfQ a b c d e f).2.1 (hfP a b c d e f).1 (hfP a b c d e f).2.1 = hfA a b c d e f from rfl) ?_
  (try dsimp only)
  refine lt_eq (show bearR (hfS a b c d e f).1 (hfS a b c d e f).2.1 (hfR a b c d e f).1 (hfR a b c d e f).2.1 = hfC a b c d e f from rfl) ?_
  (try dsimp only)
  have Ab := dir_bd DA
  have Cb := dir_bd DC
  have fa : bearR (hfQ a b c d e f).1 (hfQ a b c d e f).2.1 (hfP a b c d e f).1 (hfP a b c d e f).2.1 = hfA a b c d e f := rfl
  have fc : bearR (hfS a b c d e f).1 (hfS a b c d e f).2.1 (hfR a b c d e f).1 (hfR a b c d e f).2.1 = hfC a b c d e f := rfl
  rw [fa] at Ab DA
  rw [fc] at Cb DC
  obtain ⟨A1, A2, A3, A4, _⟩ := DA
  obtain ⟨C1, C2, C3, C4, _⟩ := DC
  have eZ : hfZ a b c d e f = oppS (hfA a b c d e f) (hfC a b c d e f) := rfl
  rw [rar_eq Ab.1 Ab.2.1 Ab.2.2.1 Ab.2.2.2.1, rar_eq Cb.1 Cb.2.1 Cb.2.2.1 Cb.2.2.2.1, eZ]
  unfold oppS fullB
  generalize hfA a b c d e f = A at *
  generalize hfC a b c d e f = T at *
  by_cases c1 : 21600000 ≤ A.2.1 - A.1
  · rw [decT c1]
    rfl
  rw [decF c1]
  by_cases c2 : 21600000 ≤ T.2.1 - T.1
  · rw [decT c2]
    rfl
  rw [decF c2, Bool.not_false, cond_true, cond_true]
  refine lt_eq (show raadM A.1 A.2.1 T.1 T.2.1 = (A.1 + T.1, A.2.1 + T.2.1) from raad_eq (by omega) (by omega) (by omega) (by omega) (by omega) (by omega)) ?_
  (try dsimp only)
  refine lt_eq (show ranegM (A.1 + T.1) (A.2.1 + T.2.1) = (-(A.2.1 + T.2.1), -(A.1 + T.1)) from raneg_eq (by omega) (by omega) (by omega)) ?_
  (try dsimp only)
  refine lt_eq (rturn_eq (avalid_mk (by omega) (by omega) (by omega))) ?_
  (try dsimp only)
  rfl
end Go.Proofs.YtipjnfabodfkcaaGreatDoor

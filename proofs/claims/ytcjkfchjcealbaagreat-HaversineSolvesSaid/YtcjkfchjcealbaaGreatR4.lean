/-
  The reference's angle at the zenith and its azimuth: the program's.
-/
import Derived.Test.YtcjkfchjcealbaaGreatR3
namespace Go.Proofs.YtcjkfchjcealbaaGreat
open Ev

open SM
noncomputable def angP (a b c d e f u v : Int) : Bool := triB a b c d e f && distM u v
theorem ang_bd {a b c d e f u v : Int} (h : angP a b c d e f u v = true) : triB a b c d e f = true ∧ 0 ≤ u ∧ u ≤ v ∧ v ≤ 10800000 := by
  unfold angP at h
  rw [Bool.and_eq_true] at h
  exact ⟨h.1, (dist_eq u v).1 h.2⟩
theorem ahav_err {x y : Int} (hv : validB x y = true) : (ahavR x y).2.2 = 0 ∨ ahavR x y = (0, 0, 2) := by
  have b := val_bd hv
  unfold ahavR
  rw [hv]
  simp only [Bool.true_eq_false, if_false]
  by_cases h : max x 0 ≤ min y 1073741824
  · rw [if_pos h]
    left
    rw [acosR_in _ _ (by omega) (by omega) (by omega)]
  · rw [if_neg h]
    right; rfl
theorem ang_leaf {n1 n2 d1 d2 : Int} (hn : validB n1 n2 = true) (hd : validB d1 d2 = true) (hz : ¬ (d1 ≤ 0 ∧ 0 ≤ d2)) :
    (cond (bothB n1 n2 d1 d2) (lt (divR n1 n2 d1 d2) fun x10 => cond (x10.2.2 != 0)
      (lt (ahavR 0 1073741824) fun x11 => cond (x11.2.2 != 0) (some (AV.v (.tuple ⟨[.agg ⟨[.int .i64 0, .int .i64 0]⟩, .int .i64 23]⟩))) (some (.v (.tuple ⟨[.agg ⟨[.int .i64 x11.1, .int .i64 x11.2.1]⟩, .int .i64 0]⟩))))
      (lt (ahavR x10.1 x10.2.1) fun x12 => cond (x12.2.2 != 0) (some (.v (.tuple ⟨[.agg ⟨[.int .i64 0, .int .i64 0]⟩, .int .i64 23]⟩))) (some (.v (.tuple ⟨[.agg ⟨[.int .i64 x12.1, .int .i64 x12.2.1]⟩, .int .i64 0]⟩))))) none) = some (.v (arcV (topS n1 n2 d1 d2))) := by
  rw [both_mk hn hd]
  simp only [lt, cond_true]
  unfold topS
  rw [if_neg hz]
  rcases div_err hn hd hz with q | q
  · rw [if_neg (by omega), if_neg (by omega), bne_eq_false_iff_eq.2 q, cond_false]
    rcases ahav_err (div_val q) with h | h
    · have : fin23 (ahavR (divR n1 n2 d1 d2).1 (divR n1 n2 d1 d2).2.1) = ((ahavR (divR n1 n2 d1 d2).1 (divR n1 n2 d1 d2).2.1).1, (ahavR (divR n1 n2 d1 d2).1 (divR n1 n2 d1 d2).2.1).2.1, 0) := by
        unfold fin23
        rw [if_neg (by omega), h]
      rw [bne_eq_false_iff_eq.2 h, cond_false, this]
      rfl
    · rw [h]; rfl
  · rw [if_pos q, ahav_all, bne_iff_ne.2 (show (divR n1 n2 d1 d2).2.2 ≠ 0 by omega), cond_true]
    rfl
noncomputable def book_rang_gives : Book := [(27, eP (fun a b => pairV (rhavM a b).1 (rhavM a b).2)), (28, ePP (fun a b c d => pairV (rasubM a b c d).1 (rasubM a b c d).2)), (29, ePP (fun a b c d => pairV (timesM a b c d).1 (timesM a b c d).2)), (30, eP (fun a b => pairV (rcosM a b).1 (rcosM a b).2)), (31, eP (fun a b => arcV (ahavR a b))), (38, eP (fun a b => pairV (qtrM a b).1 (qtrM a b).2)), (63, ePP (fun a b c d => pairV (minusM a b c d).1 (minusM a b c d).2)), (64, ePPif bothB (fun a b c d => arcV (divR a b c d)))]
theorem book_rang_gives_ok : BookOk Tryz.prog book_rang_gives := (bookOk_cons (eP_ok rhavM_gives) (bookOk_cons (ePP_ok rasubM_gives) (bookOk_cons (ePP_ok timesM_gives) (bookOk_cons (eP_ok rcosM_gives) (bookOk_cons (eP_ok rahav_r) (bookOk_cons (eP_ok qtrM_gives) (bookOk_cons (ePP_ok minusM_gives) (bookOk_cons (ePPif_ok rdiv_gives) bookOk_nil))))))))
theorem rang_gives_tree (a b c d e f u v : Int) : evF Tryz.prog Es Cs book_rang_gives 20 6 35 ([.agg ⟨[.int .i64 a, .int .i64 b, .int .i64 c, .int .i64 d, .int .i64 e, .int .i64 f]⟩, .agg ⟨[.int .i64 u, .int .i64 v]⟩].map AV.v) [] [] last =
  lt (qtrM u v) fun x1 =>
  lt (qtrM c d) fun x2 =>
  lt (rhavM x2.1 x2.2) fun x3 =>
  lt (rasubM a b x1.1 x1.2) fun x4 =>
  lt (rhavM x4.1 x4.2) fun x5 =>
  lt (minusM x3.1 x3.2 x5.1 x5.2) fun x6 =>
  lt (rcosM a b) fun x7 =>
  lt (rcosM x1.1 x1.2) fun x8 =>
  lt (timesM x7.1 x7.2 x8.1 x8.2) fun x9 =>
  cond (decide (x9.1 ≤ 0))
  (cond (decide (x9.2 ≥ 0))
   (some (.v (.tuple ⟨[.agg ⟨[.int .i64 0, .int .i64 0]⟩, .int .i64 21]⟩)))
   (lt (divR x6.1 x6.2 x9.1 x9.2) fun x10 =>
    cond (bothB x6.1 x6.2 x9.1 x9.2)
    (cond (x10.2.2 != 0)
     (lt (ahavR 0 1073741824) fun x11 =>
      cond (x11.2.2 != 0)
      (some (.v (.tuple ⟨[.agg ⟨[.int .i64 0, .int .i64 0]⟩, .int .i64 23]⟩)))
      (some (.v (.tuple ⟨[.agg ⟨[.int .i64 x11.1, .int .i64 x11.2.1]⟩, .int .i64 0]⟩))))
     (lt (ahavR x10.1 x10.2.1) fun x12 =>
      cond (x12.2.2 != 0)
      (some (.v (.tuple ⟨[.agg ⟨[.int .i64 0, .int .i64 0]⟩, .int .i64 23]⟩)))
      (some (.v (.tuple ⟨[.agg ⟨[.int .i64 x12.1, .int .i64 x12.2.1]⟩, .int .i64 0]⟩)))))
    (none)))
  (lt (divR x6.1 x6.2 x9.1 x9.2) fun x13 =>
   cond (bothB x6.1 x6.2 x9.1 x9.2)
   (cond (x13.2.2 != 0)
    (lt (ahavR 0 1073741824) fun x14 =>
     cond (x14.2.2 != 0)
     (some (.v (.tuple ⟨[.agg ⟨[.int .i64 0, .int .i64 0]⟩, .int .i64 23]⟩)))
     (some (.v (.tuple ⟨[.agg ⟨[.int .i64 x14.1, .int .i64 x14.2.1]⟩, .int .i64 0]⟩))))
    (lt (ahavR x13.1 x13.2.1) fun x15 =>
     cond (x15.2.2 != 0)
     (some (.v (.tuple ⟨[.agg ⟨[.int .i64 0, .int .i64 0]⟩, .int .i64 23]⟩)))
     (some (.v (.tuple ⟨[.agg ⟨[.int .i64 x15.1, .int .i64 x15.2.1]⟩, .int .i64 0]⟩)))))
   (none)) := by kernel_rfl
theorem rang_gives (a b c d e f u v : Int) (hp : angP a b c d e f u v = true) : Gives Tryz.prog 35 [.agg ⟨[.int .i64 a, .int .i64 b, .int .i64 c, .int .i64 d, .int .i64 e, .int .i64 f]⟩, .agg ⟨[.int .i64 u, .int .i64 v]⟩] (arcV (topM a b c d e f u v)) := by
  refine evF_gives (E := Es) mixed Es_ok Cs_ok book_rang_gives_ok (lim := 20) (d := 6) (nm := []) ?_
  rw [rang_gives_tree a b c d e f u v]
  obtain ⟨ht, hu, huv, hv⟩ := ang_bd hp
  obtain ⟨h1, h2, h3⟩ := tri_bd ht
  have l1 := lat_bd h1
  have l2 := lat_bd h2
  have hh : avalidB (5400000 - d) (5400000 - c) = true := avalid_mk (by omega) (by omega) (by omega)
  have hz : avalidB (5400000 - v) (5400000 - u) = true := avalid_mk (by omega) (by omega) (by omega)
  have hw : avalidB (a - (5400000 - u)) (b - (5400000 - v)) = true := avalid_mk (by omega) (by omega) (by omega)
  have h := (one_bd hh).2.2
  have hh2 := (one_bd hw).2.2
  have o1 := (one_bd l1.1).2.1
  have o2 := (one_bd hz).2.1
  have k := bet_ok (a := a) (b := b) (c := 5400000 - v) (d := 5400000 - u) (by omega) (by omega) (by omega) (by omega) (by omega) (by omega)
  have q := cosV_ok l1.1 hz
  have n0 := num_ok h1 h2 hu huv hv
  have d0 : validB (cosV a b (5400000 - v) (5400000 - u)).1 (cosV a b (5400000 - v) (5400000 - u)).2 = true := val_mk (by omega) q.2.2.2.1 (by omega)
  rw [top_eq h1 h2 hu huv hv]
  simp only [lt]
  rw [qtr_eq (a := u) (b := v) (by omega) (by omega) (by omega), qtr_eq (a := c) (b := d) (by omega) (by omega) (by omega)]
  dsimp only
  rw [rasub_eq (by omega) (by omega) (by omega) (by omega) (by omega) (by omega)]
  dsimp only
  rw [rhav_eq hh, rhav_eq hw, rcos_eq l1.1, rcos_eq hz]
  have em : minusM (havR (5400000 - d) (5400000 - c)).1 (havR (5400000 - d) (5400000 - c)).2.1 (havR (a - (5400000 - u)) (b - (5400000 - v))).1 (havR (a - (5400000 - u)) (b - (5400000 - v))).2.1 = ((numN a b c d u v).1, (numN a b c d u v).2.1) := by
    unfold minusM
    simp only [lt]
    rw [rsub_eq (val_mk (by omega) h.2.1 (by omega)) (val_mk (by omega) hh2.2.1 (by omega))]
    unfold numN
    rw [k.1]
  have et : timesM (cosR a b).1 (cosR a b).2.1 (cosR (5400000 - v) (5400000 - u)).1 (cosR (5400000 - v) (5400000 - u)).2.1 = cosV a b (5400000 - v) (5400000 - u) := by
    unfold timesM
    simp only [lt]
    rw [rmul_eq (val_mk (by omega) o1.2.1 (by omega)) (val_mk (by omega) o2.2.1 (by omega)), q.1]
  dsimp only
  rw [em, et]
  dsimp only
  clear em et k q h hh2 o1 o2
  have n0 := n0.2
  generalize numN a b c d u v = N at *
  generalize (cosV a b (5400000 - v) (5400000 - u)) = D at *
  by_cases c1 : D.1 ≤ 0
  · rw [decT c1, cond_true]
    by_cases c2 : D.2 ≥ 0
    · rw [decT c2, cond_true]
      unfold topS
      rw [if_pos ⟨c1, c2⟩]
      rfl
    · rw [decF c2, cond_false]
      exact ang_leaf n0 d0 (by omega)
  · rw [decF c1, cond_false]
    exact ang_leaf n0 d0 (by omega)
theorem trnd_eq {p q e f : Int} (h : avalidB e f = true) (h1 : 0 ≤ p) (h2 : p ≤ q) (h3 : q ≤ 10800000) (X : Int × Int × Int)
    (hX : X = (if turnL e f ≥ 10800000 ∧ turnH e f ≤ 21600000 then (p, q, 0) else if turnH e f ≤ 10800000 then turnR (IntKind.i64.wrap (21600000 - q)) (IntKind.i64.wrap (21600000 - p)) else if IntKind.i64.wrap (p + q) > 10800000 then (p, IntKind.i64.wrap (21600000 - p), 0) else turnR (IntKind.i64.wrap (0 - q)) q)) :
    trndM p q e f = (X.1, X.2.1) ∧ X.2.2 = 0 := by
  subst hX
  have tv : ∀ x y : Int, avalidB x y = true → rturnM x y = ((turnR x y).1, (turnR x y).2.1) ∧ (turnR x y).2.2 = 0 := fun x y z => by
    rw [rturn_eq z]
    unfold turnR
    rw [if_pos z]
    exact ⟨rfl, rfl⟩
  have t1 := tv (21600000 - q) (21600000 - p) (avalid_mk (by omega) (by omega) (by omega))
  have t2 := tv (0 - q) q (avalid_mk (by omega) (by omega) (by omega))
  unfold trndM
  simp only [lt]
  rw [rturn_eq h, i64w (x := 21600000 - q) (by omega), i64w (x := 21600000 - p) (by omega), i64w (x := p + q) (by omega), i64w (x := 0 - q) (by omega)]
  dsimp only
  rw [t1.1, t2.1]
  have in2 : (cond (decide (turnH e f ≤ 10800000)) ((turnR (21600000 - q) (21600000 - p)).1, (turnR (21600000 - q) (21600000 - p)).2.1) (cond (decide (p + q > 10800000)) (p, 21600000 - p) ((turnR (0 - q) q).1, (turnR (0 - q) q).2.1))) =
      ((if turnH e f ≤ 10800000 then turnR (21600000 - q) (21600000 - p) else if p + q > 10800000 then (p, 21600000 - p, 0) else turnR (0 - q) q).1, (if turnH e f ≤ 10800000 then turnR (21600000 - q) (21600000 - p) else if p + q > 10800000 then (p, 21600000 - p, 0) else turnR (0 - q) q).2.1) ∧ (if turnH e f ≤ 10800000 then turnR (21600000 - q) (21600000 - p) else if p + q > 10800000 then (p, 21600000 - p, 0) else turnR (0 - q) q).2.2 = 0 := by
    by_cases c : turnH e f ≤ 10800000
    · rw [decT c, if_pos c]; exact ⟨rfl, t1.2⟩
    · rw [decF c, if_neg c, cond_false]
      by_cases c' : p + q > 10800000
      · rw [decT c', if_pos c']; exact ⟨rfl, rfl⟩
      · rw [decF c', if_neg c']; exact ⟨rfl, t2.2⟩
  by_cases c1 : turnL e f ≥ 10800000
  · rw [decT c1, cond_true]
    by_cases c2 : turnH e f ≤ 21600000
    · rw [decT c2, if_pos ⟨c1, c2⟩]; exact ⟨rfl, rfl⟩
    · rw [decF c2, if_neg (by omega), cond_false]; exact in2
  · rw [decF c1, if_neg (by omega), cond_false]; exact in2
theorem top_bd {a b c d e f u v : Int} (h1 : latB a b = true) (h2 : latB c d = true) (hu : 0 ≤ u) (huv : u ≤ v) (hv : v ≤ 10800000) (h : (topM a b c d e f u v).2.2 = 0) : 0 ≤ (topM a b c d e f u v).1 ∧ (topM a b c d e f u v).1 ≤ (topM a b c d e f u v).2.1 ∧ (topM a b c d e f u v).2.1 ≤ 10800000 := by
  have l1 := lat_bd h1
  have hz : avalidB (5400000 - v) (5400000 - u) = true := avalid_mk (by omega) (by omega) (by omega)
  have q := cosV_ok l1.1 hz
  have n0 := num_ok h1 h2 hu huv hv
  have nb := val_bd n0.2
  rw [top_eq h1 h2 hu huv hv] at h ⊢
  exact (top_grow n0.2 (val_mk (by omega) q.2.2.2.1 (by omega)) h (Int.le_refl _) nb.2.1 (Int.le_refl _) (Int.le_refl _) q.2.2.2.1 (Int.le_refl _)).1
noncomputable def book_razi_gives : Book := [(35, eTPif angP (fun a b c d e f u v => arcV (topM a b c d e f u v))), (36, ePP (fun a b c d => pairV (trndM a b c d).1 (trndM a b c d).2))]
theorem book_razi_gives_ok : BookOk Tryz.prog book_razi_gives := (bookOk_cons (eTPif_ok rang_gives) (bookOk_cons (ePP_ok trndM_gives) bookOk_nil))
theorem razi_gives_tree (a b c d e f u v : Int) : evF Tryz.prog Es Cs book_razi_gives 20 6 12 ([.agg ⟨[.int .i64 a, .int .i64 b, .int .i64 c, .int .i64 d, .int .i64 e, .int .i64 f]⟩, .agg ⟨[.int .i64 u, .int .i64 v]⟩].map AV.v) [] [] last =
  lt (topM a b c d e f u v) fun x1 =>
  cond (angP a b c d e f u v)
  (cond (x1.2.2 != 0)
   (some (.v (.tuple ⟨[.agg ⟨[.int .i64 0, .int .i64 0]⟩, .int .i64 x1.2.2]⟩)))
   (lt (trndM x1.1 x1.2.1 e f) fun x2 =>
    some (.v (.tuple ⟨[.agg ⟨[.int .i64 x2.1, .int .i64 x2.2]⟩, .int .i64 0]⟩))))
  (none) := by kernel_rfl
theorem razi_gives (a b c d e f u v : Int) (hp : angP a b c d e f u v = true) : Gives Tryz.prog 12 [.agg ⟨[.int .i64 a, .int .i64 b, .int .i64 c, .int .i64 d, .int .i64 e, .int .i64 f]⟩, .agg ⟨[.int .i64 u, .int .i64 v]⟩] (arcV (aziM a b c d e f u v)) := by
  refine evF_gives (E := Es) mixed Es_ok Cs_ok book_razi_gives_ok (lim := 20) (d := 6) (nm := []) ?_
  rw [razi_gives_tree a b c d e f u v]
  obtain ⟨ht, hu, huv, hv⟩ := ang_bd hp
  obtain ⟨h1, h2, h3⟩ := tri_bd ht
  rw [hp, azi_eq ht hu huv hv]
  simp only [lt, cond_true]
  by_cases z : (topM a b c d e f u v).2.2 = 0
  · have b := top_bd h1 h2 hu huv hv z
    rw [bne_eq_false_iff_eq.2 z, cond_false, if_neg (by omega)]
    obtain ⟨t1, t2⟩ := trnd_eq h3 b.1 b.2.1 b.2.2 _ rfl
    rw [t1]
    unfold arcV
    rw [t2]
    rfl
  · rw [bne_iff_ne.2 z, cond_true, if_pos z]
    rfl
/-! ### The examples of the chapter -/
theorem ahav_at {x y p q : Int} (h1 : 0 ≤ x) (h2 : x ≤ y) (h3 : y ≤ 1073741824) (hp : IsAsin (2 * x - 1073741824) p) (hq : IsAsin (1073741824 - 2 * y) q) : ahavR x y = (5400000 + p, 5400000 - q, 0) := by
  have e1 : asn (1073741824 - 2 * y) = q := asn_eq (by omega) hq
  have e2 : asn (2 * x - 1073741824) = p := asn_eq (by omega) hp
  unfold ahavR acosR asinR
  rw [val_mk (a := x) (b := y) (by omega) h2 (by omega)]
  simp only [Bool.true_eq_false, if_false]
  have m1 : max x 0 = x := by omega
  have m2 : min y 1073741824 = y := by omega
  rw [m1, m2, if_pos h2, val_mk (a := 1073741824 - 2 * y) (b := 1073741824 - 2 * x) (by omega) (by omega) (by omega)]
  simp only [Bool.true_eq_false, if_false]
  have m3 : max (1073741824 - 2 * y) (-1073741824) = 1073741824 - 2 * y := by omega
  have m4 : min (1073741824 - 2 * x) 1073741824 = 1073741824 - 2 * x := by omega
  rw [m3, m4, if_pos (show 1073741824 - 2 * y ≤ 1073741824 - 2 * x by omega), e1, show -(1073741824 - 2 * x) = 2 * x - 1073741824 by omega, e2]
  simp
theorem zen_a : zenM 0 0 0 0 3600000 3600000 = (3600000, 3600000, 0) := by
  have h : ahavR 268435456 268435456 = (3600000, 3600000, 0) := by
    rw [ahav_at (p := -1800000) (q := 1800000) (by omega) (by omega) (by omega) ⟨by omega, by omega, by decide +kernel, .inr (by decide +kernel)⟩ ⟨by omega, by omega, by decide +kernel, .inr (by decide +kernel)⟩]
    rfl
  have e1 : cosV 0 0 0 0 = (1073741824, 1073741824) := by decide +kernel
  have e2 : cosC 0 0 0 0 0 = 0 := by decide +kernel
  have e3 : havR 3600000 3600000 = (268435456, 268435456, 0) := by decide +kernel
  have e4 : betV 0 0 0 0 = (0, 0) := by decide +kernel
  have e5 : betC 0 0 0 0 0 = 0 := by decide +kernel
  have e6 : mulR 1073741824 1073741824 268435456 268435456 = (268435456, 268435456, 0) := by decide +kernel
  have e7 : addR 0 0 268435456 268435456 = (268435456, 268435456, 0) := by decide +kernel
  have e8 : triB 0 0 0 0 3600000 3600000 = true := by decide +kernel
  unfold zenM
  simp only [lt, numV, numC, arcW, arcC, e1, e2, e3, e4, e5, e6, e7, e8, h, keep0]
  rfl
theorem top_a : topM 0 0 0 0 3600000 3600000 3600000 3600000 = (5399999, 5400001, 0) := by
  rw [top_eq (by decide +kernel) (by decide +kernel) (by omega) (by omega) (by omega)]
  have e1 : numN 0 0 0 0 3600000 3600000 = (464943848, 464943849, 0) := by decide +kernel
  have e2 : cosV 0 0 (5400000 - 3600000) (5400000 - 3600000) = (929887696, 929887697) := by decide +kernel
  have e3 : divR 464943848 464943849 929887696 929887697 = (536870911, 536870914, 0) := by decide +kernel
  rw [e1, e2]
  unfold topS
  simp only [e3]
  rw [ahav_at (x := 536870911) (y := 536870914) (p := -1) (q := -1) (by omega) (by omega) (by omega) ⟨by omega, by omega, by decide +kernel, .inr (by decide +kernel)⟩ ⟨by omega, by omega, by decide +kernel, .inr (by decide +kernel)⟩]
  rfl
theorem sol_a : solM 0 0 0 0 3600000 3600000 = (1800000, 1800000, 16199999, 16200001, 0) := by
  have e1 : aziM 0 0 0 0 3600000 3600000 3600000 3600000 = (16199999, 16200001, 0) := by
    rw [azi_eq (by decide +kernel) (by omega) (by omega) (by omega), top_a]
    decide +kernel
  have e2 : lessV 3600000 3600000 = (1800000, 1800000) := by decide +kernel
  unfold solM
  simp only [lt, zen_a, e1, e2]
  rfl
theorem zen_b : zenM 1800000 1800000 1800000 1800000 0 0 = (0, 0, 0) := by
  have h : ahavR 0 0 = (0, 0, 0) := by
    rw [ahav_at (p := -5400000) (q := 5400000) (by omega) (by omega) (by omega) ⟨by omega, by omega, by decide +kernel, .inr (by decide +kernel)⟩ ⟨by omega, by omega, by decide +kernel, .inl rfl⟩]
    rfl
  have e1 : mulR (cosV 1800000 1800000 1800000 1800000).1 (cosV 1800000 1800000 1800000 1800000).2 0 0 = (0, 0, 0) := by decide +kernel
  have e2 : cosC 0 1800000 1800000 1800000 1800000 = 0 := by decide +kernel
  have e3 : havR 0 0 = (0, 0, 0) := by decide +kernel
  have e4 : betV 1800000 1800000 1800000 1800000 = (0, 0) := by decide +kernel
  have e5 : betC 0 1800000 1800000 1800000 1800000 = 0 := by decide +kernel
  have e7 : addR 0 0 0 0 = (0, 0, 0) := by decide +kernel
  have e8 : triB 1800000 1800000 1800000 1800000 0 0 = true := by decide +kernel
  unfold zenM
  simp only [lt, numV, numC, arcW, arcC, e1, e2, e3, e4, e5, e7, e8, h, keep0]
  rfl
theorem azi_b : (aziM 1800000 1800000 1800000 1800000 0 0 0 0).2.2 = 21 := by
  have e1 : topM 1800000 1800000 1800000 1800000 0 0 0 0 = (0, 0, 21) := by
    rw [top_eq (by decide +kernel) (by decide +kernel) (by omega) (by omega) (by omega)]
    have e2 : cosV 1800000 1800000 (5400000 - 0) (5400000 - 0) = (0, 0) := by decide +kernel
    rw [e2]
    unfold topS
    simp
  rw [azi_eq (by decide +kernel) (by omega) (by omega) (by omega), e1]
  simp
noncomputable def book_awake_gives : Book := [(7, eT (fun a b c d e f => arcV (zenM a b c d e f))), (10, eTP (fun a b c d e f u v => arcV (aziM a b c d e f u v))), (13, eT (fun a b c d e f => solV (solM a b c d e f)))]
theorem book_awake_gives_ok : BookOk Tryz.prog book_awake_gives := (bookOk_cons (eT_ok zenM_gives) (bookOk_cons (eTP_ok aziM_gives) (bookOk_cons (eT_ok solM_gives) bookOk_nil)))
theorem awake_gives_tree  : evF Tryz.prog Es Cs book_awake_gives 20 6 6 ([].map AV.v) [] [] last =
  lt (solM 0 0 0 0 3600000 3600000) fun x1 =>
  lt (zenM 1800000 1800000 1800000 1800000 0 0) fun x2 =>
  lt (aziM 1800000 1800000 1800000 1800000 0 0 x2.1 x2.2.1) fun x3 =>
  cond (x1.2.2.2.2 == 0)
  (cond ((x1.1 == 1800000) && ((x1.2.1 == 1800000) && ((x1.2.2.1 == 16199999) && ((x1.2.2.2.1 == 16200001) && true))))
   (cond (x2.2.2 == 0)
    (cond ((x2.1 == 0) && ((x2.2.1 == 0) && true))
     (some (.v (.bool (x3.2.2 == 21))))
     (some (.v (.bool false))))
    (some (.v (.bool false))))
   (some (.v (.bool false))))
  (some (.v (.bool false))) := by kernel_rfl
theorem awake_gives  : Gives Tryz.prog 6 [] (.bool (true)) := by
  refine evF_gives (E := Es) mixed Es_ok Cs_ok book_awake_gives_ok (lim := 20) (d := 6) (nm := []) ?_
  rw [awake_gives_tree]
  simp only [lt, sol_a, zen_b]
  have := azi_b
  rw [this]
  rfl
end Go.Proofs.YtcjkfchjcealbaaGreat

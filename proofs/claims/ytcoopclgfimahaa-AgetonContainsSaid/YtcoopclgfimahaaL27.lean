/-
  The examples of chapter 27; AgetonMeets answers true.
-/
import Derived.Test.YtcoopclgfimahaaLa
import Derived.Test.YtcoopclgfimahaaHa
namespace Go.Proofs.Ytcoopclgfimahaa
open Ev

open SM TB TA
theorem Hold.meets {a b c d e f a' b' c' d' e' f' x y t : Int} {H Z H' Z' : Int × Int × Int} (h : Hold a b c d e f H Z) (k : Hold a' b' c' d' e' f' H' Z') (hx : a ≤ x ∧ x ≤ b) (hy : c ≤ y ∧ y ≤ d) (ht : e ≤ t ∧ t ≤ f) (hx' : a' ≤ x ∧ x ≤ b') (hy' : c' ≤ y ∧ y ≤ d') (ht' : e' ≤ t ∧ t ≤ f') :
    H.1 ≤ H'.2.1 ∧ H'.1 ≤ H.2.1 ∧ agreeR Z.1 Z.2.1 Z'.1 Z'.2.1 = (true, 0) := by
  obtain ⟨h', z', s⟩ := sees x y t
  have w := lv.2.2.1
  have ds : dS + dS < 1 := by decide +kernel
  have m := (h.up x y t hx.1 hx.2 hy.1 hy.2 ht.1 ht.2 h' z' s).meet (k.up x y t hx'.1 hx'.2 hy'.1 hy'.2 ht'.1 ht'.2 h' z' s) ds
  have n := (h.az x y t hx.1 hx.2 hy.1 hy.2 ht.1 ht.2 h' z' s).agree (k.az x y t hx'.1 hx'.2 hy'.1 hy'.2 ht'.1 ht'.2 h' z' s) ds h.dir.2.1 k.dir.2.1
  refine ⟨m.1, m.2, ?_⟩
  unfold agreeR
  rw [if_pos ⟨h.dir.val, k.dir.val⟩, decide_eq_true n]
theorem asin_at {x y p q : Int} (h1 : -1073741824 ≤ x) (h2 : x ≤ y) (h3 : y ≤ 1073741824) (hp : IsAsin x p) (hq : IsAsin (-y) q) : asinR x y = (p, -q, 0) := by
  have e1 : asn x = p := asn_eq h1 hp
  have e2 : asn (-y) = q := asn_eq (by omega) hq
  unfold asinR
  rw [val_mk (a := x) (b := y) (by omega) h2 (by omega)]
  simp only [Bool.true_eq_false, if_false]
  have m1 : max x (-1073741824) = x := by omega
  have m2 : min y 1073741824 = y := by omega
  rw [m1, m2, if_pos h2, e1, e2]
theorem per_a : perE 0 0 1800000 1800000 = (1800000, 1800000, 0) := by
  have e : wesE 0 0 1800000 1800000 = (536870912, 536870912, 0) := by decide +kernel
  unfold perE
  rw [e]
  exact asin_at (x := 536870912) (y := 536870912) (p := 1800000) (q := -1800000) (by omega) (by omega) (by omega) ⟨by omega, by omega, by decide +kernel, .inr (by decide +kernel)⟩ ⟨by omega, by omega, by decide +kernel, .inr (by decide +kernel)⟩
theorem foo_a : fooE 0 0 1800000 1800000 = (0, 0, 0) := by decide +kernel
theorem alt_a : altE 0 0 0 0 1800000 1800000 = (3599999, 3600001, 0) := by
  have e : upM 0 0 0 0 1800000 1800000 = (929887696, 929887697, 0) := by
    unfold upM crE caE awaA
    rw [per_a, foo_a]
    decide +kernel
  unfold altE
  rw [e]
  exact asin_at (x := 929887696) (y := 929887697) (p := 3599999) (q := -3600001) (by omega) (by omega) (by omega) ⟨by omega, by omega, by decide +kernel, .inr (by decide +kernel)⟩ ⟨by omega, by omega, by decide +kernel, .inr (by decide +kernel)⟩
theorem az_a : azE 0 0 0 0 1800000 1800000 = (16200000, 16200000, 0) := by
  unfold azE noM crE saE awaA
  rw [per_a, foo_a]
  decide +kernel
theorem per_b : perE 1800000 1800000 0 0 = (0, 0, 0) := by
  have e : wesE 1800000 1800000 0 0 = (0, 0, 0) := by decide +kernel
  unfold perE
  rw [e]
  exact asin_at (x := 0) (y := 0) (p := 0) (q := 0) (by omega) (by omega) (by omega) ⟨by omega, by omega, by decide +kernel, .inr (by decide +kernel)⟩ ⟨by omega, by omega, by decide +kernel, .inr (by decide +kernel)⟩
theorem foo_b : fooE 1800000 1800000 0 0 = (1799999, 1800001, 0) := by decide +kernel
theorem alt_b : altE 600000 600000 1800000 1800000 0 0 = (4199998, 4200002, 0) := by
  have e : upM 600000 600000 1800000 1800000 0 0 = (1008987161, 1008987376, 0) := by
    unfold upM crE caE awaA
    rw [per_b, foo_b]
    decide +kernel
  unfold altE
  rw [e]
  exact asin_at (x := 1008987161) (y := 1008987376) (p := 4199998) (q := -4200002) (by omega) (by omega) (by omega) ⟨by omega, by omega, by decide +kernel, .inr (by decide +kernel)⟩ ⟨by omega, by omega, by decide +kernel, .inr (by decide +kernel)⟩
theorem dvd_a : dvdM 0 0 0 0 1800000 1800000 = (1800000, 1800000, 0, 0, 0) := by
  rw [dvd_ok (by decide +kernel), per_a, foo_a]
theorem sol_a : solM 0 0 0 0 1800000 1800000 = (3599999, 3600001, 16200000, 16200000, 0) := by
  rw [sol_ok (by decide +kernel), alt_a, az_a]
theorem sol_b : ∃ x y : Int, solM 600000 600000 1800000 1800000 0 0 = (4199998, 4200002, x, y, 0) := by
  refine ⟨(azE 600000 600000 1800000 1800000 0 0).1, (azE 600000 600000 1800000 1800000 0 0).2.1, ?_⟩
  rw [sol_ok (by decide +kernel), alt_b]
noncomputable def book_awake27_gives : Book := [(16, eT (fun a b c d e f => solV (solM a b c d e f))), (20, eT (fun a b c d e f => twoV (dvdM a b c d e f)))]
theorem book_awake27_gives_ok : BookOk Try.prog book_awake27_gives := (bookOk_cons (eT_ok solM_gives) (bookOk_cons (eT_ok dvdM_gives) bookOk_nil))
theorem awake27_gives_tree  : evF Try.prog Es Cs book_awake27_gives 20 6 14 ([].map AV.v) [] [] last =
  lt (dvdM 0 0 0 0 1800000 1800000) fun x1 =>
  lt (solM 0 0 0 0 1800000 1800000) fun x2 =>
  lt (solM 600000 600000 1800000 1800000 0 0) fun x3 =>
  cond (x1.2.2.2.2 == 0)
  (cond (decide (x1.1 ≤ 1800000))
   (cond (decide (1800000 ≤ x1.2.1))
    (cond (decide (IntKind.i64.wrap (x1.2.1 - x1.1) ≤ 20))
     (cond (decide (x1.2.2.1 ≤ 0))
      (cond (decide (0 ≤ x1.2.2.2.1))
       (cond (decide (IntKind.i64.wrap (x1.2.2.2.1 - x1.2.2.1) ≤ 20))
        (cond (x2.2.2.2.2 == 0)
         (cond (decide (x2.1 ≤ 3600000))
          (cond (decide (3600000 ≤ x2.2.1))
           (cond (decide (IntKind.i64.wrap (x2.2.1 - x2.1) ≤ 20))
            (cond (decide (x2.2.2.1 ≤ 16200000))
             (cond (decide (16200000 ≤ x2.2.2.2.1))
              (cond (decide (IntKind.i64.wrap (x2.2.2.2.1 - x2.2.2.1) ≤ 20))
               (cond (x3.2.2.2.2 == 0)
                (cond (decide (x3.1 ≤ 4200000))
                 (cond (decide (4200000 ≤ x3.2.1))
                  (some (.v (.bool (decide (IntKind.i64.wrap (x3.2.1 - x3.1) ≤ 20)))))
                  (some (.v (.bool false))))
                 (some (.v (.bool false))))
                (some (.v (.bool false))))
               (some (.v (.bool false))))
              (some (.v (.bool false))))
             (some (.v (.bool false))))
            (some (.v (.bool false))))
           (some (.v (.bool false))))
          (some (.v (.bool false))))
         (some (.v (.bool false))))
        (some (.v (.bool false))))
       (some (.v (.bool false))))
      (some (.v (.bool false))))
     (some (.v (.bool false))))
    (some (.v (.bool false))))
   (some (.v (.bool false))))
  (some (.v (.bool false))) := by kernel_rfl
theorem awake27_gives  : Gives Try.prog 14 [] (.bool (true)) := by
  refine evF_gives (E := Es) mixed Es_ok Cs_ok book_awake27_gives_ok (lim := 20) (d := 6) (nm := []) ?_
  rw [awake27_gives_tree]
  obtain ⟨x, y, e⟩ := sol_b
  simp only [lt, dvd_a, sol_a, e]
  rfl
noncomputable def book_agm_any : Book := [(14, e0 (.bool (true))), (15, eT (fun a b c d e f => .bool (rtriM a b c d e f))), (16, eT (fun a b c d e f => solV (solM a b c d e f))), (37, eT (fun a b c d e f => solV (csolM a b c d e f))), (39, ePP (fun a b c d => boolV (agreeR a b c d)))]
theorem book_agm_any_ok : BookOk Try.prog book_agm_any := (bookOk_cons (e0_ok awake27_gives) (bookOk_cons (eT_ok rtriM_gives) (bookOk_cons (eT_ok solM_gives) (bookOk_cons (eT_ok csolM_gives) (bookOk_cons (ePP_ok agreeR_gives) bookOk_nil)))))
theorem agm_any_tree (a b c d e f : Int) : evF Try.prog Es Cs book_agm_any 20 6 10 ([.agg ⟨[.int .i64 a, .int .i64 b, .int .i64 c, .int .i64 d, .int .i64 e, .int .i64 f]⟩].map AV.v) [] [] last =
  cond (!(true))
  (some (.v (.bool false)))
  (cond (!(rtriM a b c d e f))
   (some (.v (.bool true)))
   (lt (solM a b c d e f) fun x1 =>
    lt (csolM a b c d e f) fun x2 =>
    cond (x1.2.2.2.2 != 0)
    (some (.v (.bool false)))
    (cond (x2.2.2.2.2 != 0)
     (some (.v (.bool false)))
     (cond (decide (x1.1 ≤ x2.2.1))
      (cond (!(decide (x2.1 ≤ x1.2.1)))
       (some (.v (.bool false)))
       (cond (decide (x1.1 > x1.2.1))
        (some (.v (.bool false)))
        (cond (decide (x1.2.2.1 < 0))
         (some (.v (.bool false)))
         (cond (decide (x1.2.2.1 ≥ 21600000))
          (some (.v (.bool false)))
          (lt (agreeR x1.2.2.1 x1.2.2.2.1 x2.2.2.1 x2.2.2.2.1) fun x3 =>
           cond (x3.2 == 0)
           (some (.v (.bool x3.1)))
           (some (.v (.bool false))))))))
      (some (.v (.bool false))))))) := by kernel_rfl
theorem agm_any (a b c d e f : Int) : Gives Try.prog 10 [.agg ⟨[.int .i64 a, .int .i64 b, .int .i64 c, .int .i64 d, .int .i64 e, .int .i64 f]⟩] (.bool (allT a b c d e f)) := by
  refine evF_gives (E := Es) mixed Es_ok Cs_ok book_agm_any_ok (lim := 20) (d := 6) (nm := []) ?_
  rw [agm_any_tree a b c d e f]
  simp only [lt, Bool.not_true, cond_false]
  rw [rtri_eq]
  unfold allT
  cases ht : triB a b c d e f with
  | false => rfl
  | true =>
    obtain ⟨H, Z, ec, _, hc⟩ := cosine_hold ht
    have ha := ageton_hold ht
    obtain ⟨h1, h2, h3⟩ := tri_bd ht
    have l1 := lat_bd h1
    have l2 := lat_bd h2
    have l3 := aval_bd h3
    have m := ha.meets hc (x := a) (y := c) (t := e) ⟨by omega, by omega⟩ ⟨by omega, by omega⟩ ⟨by omega, by omega⟩ ⟨by omega, by omega⟩ ⟨by omega, by omega⟩ ⟨by omega, by omega⟩
    rw [sol_ok ht, ec]
    dsimp only
    rw [m.2.2, decide_eq_true m.1, decide_eq_true m.2.1, decide_eq_false (show ¬ (altE a b c d e f).1 > (altE a b c d e f).2.1 by have := ha.lat.2.1; omega), decide_eq_false (show ¬ (azE a b c d e f).1 < 0 by have := ha.dir.1; omega), decide_eq_false (show ¬ (azE a b c d e f).1 ≥ 21600000 by have := ha.dir.2.2.1; omega)]
    rfl
theorem fmeet_ok {r s : Int × Int × Int} {e f X Y t : Rat} (h : Vl r e X) (k : Vl s f Y) (hc : Cl t X Y) (he : e + 1073741824 * t + f < 1) : (fmeetR r.1 r.2.1 s.1 s.2.1).2.2 = 0 := by
  have m := (h.near hc.symm).2.2.meet k.2.2 he
  have b1 := val_bd h.2.1
  have b2 := val_bd k.2.1
  unfold fmeetR
  rw [if_pos (both_mk h.2.1 k.2.1)]
  have c : ¬ mx r.1 s.1 > mn r.2.1 s.2.1 := by
    unfold mx mn
    split <;> split <;> omega
  rw [if_neg c]
theorem back_ok {a b c d e f : Int} (h : triB a b c d e f = true) :
    (fmeetR (mulR (cosR (perE c d e f).1 (perE c d e f).2.1).1 (cosR (perE c d e f).1 (perE c d e f).2.1).2.1 (sinR (fooE c d e f).1 (fooE c d e f).2.1).1 (sinR (fooE c d e f).1 (fooE c d e f).2.1).2.1).1 (mulR (cosR (perE c d e f).1 (perE c d e f).2.1).1 (cosR (perE c d e f).1 (perE c d e f).2.1).2.1 (sinR (fooE c d e f).1 (fooE c d e f).2.1).1 (sinR (fooE c d e f).1 (fooE c d e f).2.1).2.1).2.1 (sinR c d).1 (sinR c d).2.1).2.2 = 0 ∧
    (fmeetR (mulR (cosR (perE c d e f).1 (perE c d e f).2.1).1 (cosR (perE c d e f).1 (perE c d e f).2.1).2.1 (cosR (fooE c d e f).1 (fooE c d e f).2.1).1 (cosR (fooE c d e f).1 (fooE c d e f).2.1).2.1).1 (mulR (cosR (perE c d e f).1 (perE c d e f).2.1).1 (cosR (perE c d e f).1 (perE c d e f).2.1).2.1 (cosR (fooE c d e f).1 (fooE c d e f).2.1).1 (cosR (fooE c d e f).1 (fooE c d e f).2.1).2.1).2.1 (mulR (cosR c d).1 (cosR c d).2.1 (cosR e f).1 (cosR e f).2.1).1 (mulR (cosR c d).1 (cosR c d).2.1 (cosR e f).1 (cosR e f).2.1).2.1).2.2 = 0 := by
  obtain ⟨w1, w2, w3, w4, w5, w6, w7, w8, w9, w10, w11, w12, w13, w14, w15, w16, w17, w18, w19, w20, w21⟩ := lvA
  have e1b := e1_bd
  obtain ⟨h1, h2, h3⟩ := tri_bd h
  have l2 := lat_bd h2
  have l3 := aval_bd h3
  obtain ⟨W, N, P, Q⟩ := div_one h
  obtain ⟨r, k, r0, r1, k0, k1', k1, k2, k3⟩ := foot (c : Rat) (e : Rat)
  obtain ⟨hR, ⟨m, hK⟩, hW⟩ := div_hold h (y := c) (t := e) ⟨by omega, by omega⟩ ⟨by omega, by omega⟩ r0 r1 k1 k2 k3
  have cr := (cos_v P.val (by grind) w11 hR).wide w8
  have ck := (cos_v Q.val (by grind) w10 hK).wide w9
  have sk := (sin_v Q.val (by grind) w10 hK).wide w9
  have tq := turn_eq k m
  rw [tq.1] at ck
  rw [tq.2] at sk
  have S2 := sin_at l2.1 (x := c) (by omega) (by omega)
  have C2 := cos_at l2.1 (x := c) (by omega) (by omega)
  have C3 := cos_at h3 (x := e) (by omega) (by omega)
  have p1 := mul_v (cos_one P.val) (sin_one Q.val) (by grind) (by grind) cr sk
  have p2 := mul_v (cos_one P.val) (cos_one Q.val) (by grind) (by grind) cr ck
  have p3 := mul_v (cos_one l2.1) (cos_one h3) (by grind) (by grind) C2 C3
  exact ⟨fmeet_ok p1 S2 k3 (by grind), fmeet_ok p2 p3 k2 (by grind)⟩
noncomputable def book_agb_any : Book := [(14, e0 (.bool (true))), (15, eT (fun a b c d e f => .bool (rtriM a b c d e f))), (20, eT (fun a b c d e f => twoV (dvdM a b c d e f))), (21, eP (fun a b => arcV (cosR a b))), (22, eP (fun a b => arcV (sinR a b))), (23, ePP (fun a b c d => arcV (mulR a b c d))), (24, ePP (fun a b c d => arcV (fmeetR a b c d)))]
theorem book_agb_any_ok : BookOk Try.prog book_agb_any := (bookOk_cons (e0_ok awake27_gives) (bookOk_cons (eT_ok rtriM_gives) (bookOk_cons (eT_ok dvdM_gives) (bookOk_cons (eP_ok cos_r) (bookOk_cons (eP_ok sin_r) (bookOk_cons (ePP_ok mulR_gives) (bookOk_cons (ePP_ok fmeetR_gives) bookOk_nil)))))))
theorem agb_any_tree (a b c d e f : Int) : evF Try.prog Es Cs book_agb_any 20 6 4 ([.agg ⟨[.int .i64 a, .int .i64 b, .int .i64 c, .int .i64 d, .int .i64 e, .int .i64 f]⟩].map AV.v) [] [] last =
  cond (!(true))
  (some (.v (.bool false)))
  (cond (!(rtriM a b c d e f))
   (some (.v (.bool true)))
   (lt (dvdM a b c d e f) fun x1 =>
    lt (cosR x1.1 x1.2.1) fun x2 =>
    lt (sinR x1.2.2.1 x1.2.2.2.1) fun x3 =>
    lt (cosR x1.2.2.1 x1.2.2.2.1) fun x4 =>
    lt (sinR c d) fun x5 =>
    lt (cosR c d) fun x6 =>
    lt (cosR e f) fun x7 =>
    cond (x1.2.2.2.2 != 0)
    (some (.v (.bool false)))
    (cond (x2.2.2 != 0)
     (some (.v (.bool false)))
     (cond (x3.2.2 != 0)
      (some (.v (.bool false)))
      (cond (x4.2.2 != 0)
       (some (.v (.bool false)))
       (cond (x5.2.2 != 0)
        (some (.v (.bool false)))
        (cond (x6.2.2 != 0)
         (some (.v (.bool false)))
         (cond (x7.2.2 != 0)
          (some (.v (.bool false)))
          (lt (mulR x2.1 x2.2.1 x3.1 x3.2.1) fun x8 =>
           lt (mulR x2.1 x2.2.1 x4.1 x4.2.1) fun x9 =>
           lt (mulR x6.1 x6.2.1 x7.1 x7.2.1) fun x10 =>
           cond (x8.2.2 != 0)
           (some (.v (.bool false)))
           (cond (x9.2.2 != 0)
            (some (.v (.bool false)))
            (cond (x10.2.2 != 0)
             (some (.v (.bool false)))
             (lt (fmeetR x8.1 x8.2.1 x5.1 x5.2.1) fun x11 =>
              lt (fmeetR x9.1 x9.2.1 x10.1 x10.2.1) fun x12 =>
              cond (x11.2.2 == 0)
              (some (.v (.bool (x12.2.2 == 0))))
              (some (.v (.bool false))))))))))))))) := by kernel_rfl
theorem agb_any (a b c d e f : Int) : Gives Try.prog 4 [.agg ⟨[.int .i64 a, .int .i64 b, .int .i64 c, .int .i64 d, .int .i64 e, .int .i64 f]⟩] (.bool (allT a b c d e f)) := by
  refine evF_gives (E := Es) mixed Es_ok Cs_ok book_agb_any_ok (lim := 20) (d := 6) (nm := []) ?_
  rw [agb_any_tree a b c d e f]
  simp only [lt, Bool.not_true, cond_false]
  rw [rtri_eq]
  unfold allT
  cases ht : triB a b c d e f with
  | false => rfl
  | true =>
    obtain ⟨W, N, P, Q⟩ := div_one ht
    obtain ⟨h1, h2, h3⟩ := tri_bd ht
    have l2 := lat_bd h2
    have bk := back_ok ht
    have p1 := mul_ones (cos_one P.val) (sin_one Q.val)
    have p2 := mul_ones (cos_one P.val) (cos_one Q.val)
    have p3 := mul_ones (cos_one l2.1) (cos_one h3)
    have z : ((0 : Int) != 0) = false := rfl
    have z' : ((0 : Int) == 0) = true := rfl
    rw [dvd_ok ht]
    dsimp only
    rw [(cos_one P.val).2.2.2, (sin_one Q.val).2.2.2, (cos_one Q.val).2.2.2, (sin_one l2.1).2.2.2, (cos_one l2.1).2.2.2, (cos_one h3).2.2.2, p1.2.2.2, p2.2.2.2, p3.2.2.2, bk.1, bk.2, z, z']
    rfl
end Go.Proofs.Ytcoopclgfimahaa

/-
  HalfangleTriangles answers true.
-/
import Derived.Test.YtipjnfabodfkcaaDoorL28
import Derived.Test.YtipjnfabodfkcaaDoorXq
namespace Go.Proofs.YtipjnfabodfkcaaDoor
open Ev

open SM TB TA
def all3t (_a _b _c : Int) : Bool := true
theorem hsid_no {a b c : Int} (h : sideM a a = false ∨ sideM b b = false) : hsidM a a b b c c = (0, 0, 1) := by
  unfold hsidM
  cases h1 : sideM a a with
  | false => rfl
  | true =>
    cases h2 : sideM b b with
    | false => rfl
    | true => rcases h with h | h <;> simp_all
theorem k_err {α : Type} {e : Int} {x y r : α} (h : e = 21 ∨ e = 24) (k : y = r) : cond (e == 12) x y = r := by
  rcases h with h | h <;> rw [h] <;> exact k
theorem k_err1 {α : Type} {e : Int} {x y r : α} (h : e = 21 ∨ e = 24) (k : y = r) : cond (e == 1) x y = r := by
  rcases h with h | h <;> rw [h] <;> exact k
/-- What comes behind the first angle. -/
noncomputable def rest41 (a b c lo hi : Int) : Option AV := lt (excM lo hi a a b b) fun x3 =>
              lt (excM b b lo hi a a) fun x4 =>
              cond (x3.2.2 == 12)
              (some (.v (.bool false)))
              (cond (x4.2.2 == 12)
               (some (.v (.bool false)))
               (cond (x3.2.2 != 0)
                (some (.v (.bool true)))
                (cond (x4.2.2 != 0)
                 (some (.v (.bool true)))
                 (cond (decide (x3.1 ≤ x4.2.1))
                  (cond (!(decide (x4.1 ≤ x3.2.1)))
                   (some (.v (.bool false)))
                   (lt (anglM a a lo hi b b) fun x5 =>
                    cond (x5.2.2 != 0)
                    (cond (x5.2.2 != 12)
                     (some (.v (.bool (x5.2.2 != 1))))
                     (some (.v (.bool false))))
                    (lt (anglM b b lo hi a a) fun x6 =>
                     cond (x6.2.2 != 0)
                     (cond (x6.2.2 != 12)
                      (some (.v (.bool (x6.2.2 != 1))))
                      (some (.v (.bool false))))
                     (cond (decide (x3.1 ≤ IntKind.i64.wrap ((IntKind.i64.wrap ((IntKind.i64.wrap (c + x5.2.1)) + x6.2.1)) - 10800000)))
                      (some (.v (.bool (decide (IntKind.i64.wrap ((IntKind.i64.wrap ((IntKind.i64.wrap (c + x5.1)) + x6.1)) - 10800000) ≤ x3.2.1)))))
                      (some (.v (.bool false)))))))
                  (some (.v (.bool false)))))))
noncomputable def book_h28tr_any : Book := [(6, e0 (.bool (true))), (15, ePPP (fun a b c d e f => arcV (hsidM a b c d e f))), (16, ePPP (fun a b c d e f => arcV (anglM a b c d e f))), (17, ePPP (fun a b c d e f => arcV (excM a b c d e f)))]
theorem book_h28tr_any_ok : BookOk Tryd.prog book_h28tr_any := (bookOk_cons (e0_ok awake28_gives) (bookOk_cons (ePPP_ok hsidM_gives) (bookOk_cons (ePPP_ok anglM_gives) (bookOk_cons (ePPP_ok excM_gives) bookOk_nil))))
theorem h28tr_any_tree (a b c : Int) : evF Tryd.prog Es Cs book_h28tr_any 20 6 5 ([.int .i64 a, .int .i64 b, .int .i64 c].map AV.v) [] [] last =
  cond (!(true))
  (some (.v (.bool false)))
  (cond (decide (c < 0))
   (some (.v (.bool true)))
   (cond (decide (c > 10800000))
    (some (.v (.bool true)))
    (lt (hsidM a a b b c c) fun x1 =>
     cond (x1.2.2 != 0)
     (cond ((x1.1 == 0) && ((x1.2.1 == 0) && true))
      (some (.v (.bool (x1.2.2 == 1))))
      (some (.v (.bool false))))
     (cond (decide (x1.1 < 0))
      (some (.v (.bool false)))
      (cond (decide (x1.2.1 > 10800000))
       (some (.v (.bool false)))
       (cond (decide (x1.1 > x1.2.1))
        (some (.v (.bool false)))
        (lt (anglM x1.1 x1.2.1 a a b b) fun x2 =>
         cond (x2.2.2 == 0)
         (cond (decide (x2.1 > c))
          (some (.v (.bool false)))
          (cond (decide (x2.2.1 < c))
           (some (.v (.bool false)))
           (cond (x2.2.2 == 12)
            (some (.v (.bool false)))
            (cond (x2.2.2 == 1)
             (some (.v (.bool false)))
             (lt (excM x1.1 x1.2.1 a a b b) fun x3 =>
              lt (excM b b x1.1 x1.2.1 a a) fun x4 =>
              cond (x3.2.2 == 12)
              (some (.v (.bool false)))
              (cond (x4.2.2 == 12)
               (some (.v (.bool false)))
               (cond (x3.2.2 != 0)
                (some (.v (.bool true)))
                (cond (x4.2.2 != 0)
                 (some (.v (.bool true)))
                 (cond (decide (x3.1 ≤ x4.2.1))
                  (cond (!(decide (x4.1 ≤ x3.2.1)))
                   (some (.v (.bool false)))
                   (lt (anglM a a x1.1 x1.2.1 b b) fun x5 =>
                    cond (x5.2.2 != 0)
                    (cond (x5.2.2 != 12)
                     (some (.v (.bool (x5.2.2 != 1))))
                     (some (.v (.bool false))))
                    (lt (anglM b b x1.1 x1.2.1 a a) fun x6 =>
                     cond (x6.2.2 != 0)
                     (cond (x6.2.2 != 12)
                      (some (.v (.bool (x6.2.2 != 1))))
                      (some (.v (.bool false))))
                     (cond (decide (x3.1 ≤ IntKind.i64.wrap ((IntKind.i64.wrap ((IntKind.i64.wrap (c + x5.2.1)) + x6.2.1)) - 10800000)))
                      (some (.v (.bool (decide (IntKind.i64.wrap ((IntKind.i64.wrap ((IntKind.i64.wrap (c + x5.1)) + x6.1)) - 10800000) ≤ x3.2.1)))))
                      (some (.v (.bool false)))))))
                  (some (.v (.bool false))))))))))))
         (cond (x2.2.2 == 12)
          (some (.v (.bool false)))
          (cond (x2.2.2 == 1)
           (some (.v (.bool false)))
           (lt (excM x1.1 x1.2.1 a a b b) fun x7 =>
            lt (excM b b x1.1 x1.2.1 a a) fun x8 =>
            cond (x7.2.2 == 12)
            (some (.v (.bool false)))
            (cond (x8.2.2 == 12)
             (some (.v (.bool false)))
             (cond (x7.2.2 != 0)
              (some (.v (.bool true)))
              (cond (x8.2.2 != 0)
               (some (.v (.bool true)))
               (cond (decide (x7.1 ≤ x8.2.1))
                (cond (!(decide (x8.1 ≤ x7.2.1)))
                 (some (.v (.bool false)))
                 (lt (anglM a a x1.1 x1.2.1 b b) fun x9 =>
                  cond (x9.2.2 != 0)
                  (cond (x9.2.2 != 12)
                   (some (.v (.bool (x9.2.2 != 1))))
                   (some (.v (.bool false))))
                  (lt (anglM b b x1.1 x1.2.1 a a) fun x10 =>
                   cond (x10.2.2 != 0)
                   (cond (x10.2.2 != 12)
                    (some (.v (.bool (x10.2.2 != 1))))
                    (some (.v (.bool false))))
                   (cond (decide (x7.1 ≤ IntKind.i64.wrap ((IntKind.i64.wrap ((IntKind.i64.wrap (c + x9.2.1)) + x10.2.1)) - 10800000)))
                    (some (.v (.bool (decide (IntKind.i64.wrap ((IntKind.i64.wrap ((IntKind.i64.wrap (c + x9.1)) + x10.1)) - 10800000) ≤ x7.2.1)))))
                    (some (.v (.bool false)))))))
                (some (.v (.bool false))))))))))))))))) := by kernel_rfl
theorem h28tr_any (a b c : Int) : Gives Tryd.prog 5 [.int .i64 a, .int .i64 b, .int .i64 c] (.bool (all3t a b c)) := by
  refine evF_gives (E := Es) mixed Es_ok Cs_ok book_h28tr_any_ok (lim := 20) (d := 6) (nm := []) ?_
  rw [h28tr_any_tree a b c]
  unfold all3t
  simp only [Bool.not_true, cond_false]
  by_cases c0 : c < 0
  · rw [decide_eq_true c0]; rfl
  rw [decide_eq_false c0, cond_false]
  by_cases c1 : c > 10800000
  · rw [decide_eq_true c1]; rfl
  rw [decide_eq_false c1, cond_false]
  cases sa : sideM a a with
  | false =>
    rw [hsid_no (.inl sa)]
    rfl
  | true =>
  cases sb : sideM b b with
  | false =>
    rw [hsid_no (.inr sb)]
    rfl
  | true =>
  obtain ⟨lo, hi, e1, l0, l1, l2, hr, hp, hq, hpq, hs, ht, hsum⟩ := tri41 sa sb (c := c) (by omega) (by omega)
  rw [e1]
  have R : rest41 a b c lo hi = some (.v (.bool true)) := by
    unfold rest41
    simp only [lt]
    generalize excM lo hi a a b b = p at *
    generalize excM b b lo hi a a = q at *
    generalize anglM a a lo hi b b = s at *
    generalize anglM b b lo hi a a = t at *
    clear hr e1 sa sb
    rcases hp with hp | hp
    · rw [hp]
      rcases hq with hq | hq <;> rw [hq] <;> rfl
    rcases hq with hq | hq
    · rw [hp, hq]
      rfl
    obtain ⟨m1, m2⟩ := hpq hp hq
    rw [hp, hq, decide_eq_true m1, decide_eq_true m2]
    rcases hs with hs | hs | ⟨hs, s0, s1, s2⟩
    · rw [hs]; rfl
    · rw [hs]; rfl
    rcases ht with ht | ht | ⟨ht, t0, t1, t2⟩
    · rw [hs, ht]; rfl
    · rw [hs, ht]; rfl
    obtain ⟨n1, n2⟩ := hsum hp hs ht
    rw [hs, ht, i64w (x := c + s.2.1) (by omega), i64w (x := c + s.2.1 + t.2.1) (by omega), i64w (x := c + s.2.1 + t.2.1 - 10800000) (by omega), i64w (x := c + s.1) (by omega), i64w (x := c + s.1 + t.1) (by omega), i64w (x := c + s.1 + t.1 - 10800000) (by omega), decide_eq_true n1, decide_eq_true n2]
    rfl
  refine lt_eq rfl ?_
  dsimp only
  rw [show ((0 : Int) != 0) = false from rfl, cond_false, decide_eq_false (show ¬ lo < 0 by omega), decide_eq_false (show ¬ hi > 10800000 by omega), decide_eq_false (show ¬ lo > hi by omega), cond_false, cond_false, cond_false]
  rcases hr with hr | hr | ⟨hr, r0, r1⟩
  · refine lt_eq rfl ?_
    rw [hr]
    exact R
  · refine lt_eq rfl ?_
    rw [hr]
    exact R
  · refine lt_eq rfl ?_
    rw [hr, decide_eq_false (show ¬ (anglM lo hi a a b b).1 > c by omega), decide_eq_false (show ¬ (anglM lo hi a a b b).2.1 < c by omega)]
    exact R
end Go.Proofs.YtipjnfabodfkcaaDoor

/-
  HalfangleMirrors answers true.
-/
import Derived.Test.YtipjnfabodfkcaaDoorL28
namespace Go.Proofs.YtipjnfabodfkcaaDoor
open Ev

open SM TB TA
def all3 (_a _b _c : Int) : Bool := true
/-- On the meridian. -/
theorem mer28 {x y : Int} (h : triB x x y y 0 0 = true) : ((x ≤ y ∧ (hfH x x y y 0 0).1 ≤ 5400000 - (y - x) ∧ 5400000 - (y - x) ≤ (hfH x x y y 0 0).2.1) ∨ (y ≤ x ∧ (hfH x x y y 0 0).1 ≤ 5400000 - (x - y) ∧ 5400000 - (x - y) ≤ (hfH x x y y 0 0).2.1)) := by
  have s0 := single_ok h
  obtain ⟨h1, h2, _⟩ := tri_bd h
  have l1 := lat_bd h1
  have l2 := lat_bd h2
  obtain ⟨p1, p2, p3⟩ := tri_point h
  rw [show ((0 : Int) : Rat) = 0 by rfl] at p3
  have ds : dS < 1 := by decide +kernel
  have bx : -5400000 ≤ (x : Rat) ∧ (x : Rat) ≤ 5400000 := ⟨le_c (a := -5400000) l1.2.1, le_c (b := 5400000) l1.2.2.2⟩
  have by' : -5400000 ≤ (y : Rat) ∧ (y : Rat) ≤ 5400000 := ⟨le_c (a := -5400000) l2.2.1, le_c (b := 5400000) l2.2.2.2⟩
  have fin : ∀ n : Int, (∃ z : Rat, Sees (x : Rat) (y : Rat) 0 (n : Rat) z) → (hfH x x y y 0 0).1 ≤ n ∧ n ≤ (hfH x x y y 0 0).2.1 := fun n ⟨z, s⟩ => by
    have N := hf_up h s0 p1 p2 p3 s
    unfold Hs at N
    exact ⟨of_c (e := dS) (by grind) ds, of_c (e := dS) (by grind) ds⟩
  rcases Int.le_total x y with q | q
  · have c : (x : Rat) ≤ (y : Rat) := le_c q
    have := fin (5400000 - (y - x)) (by
      rw [Rat.intCast_sub, Rat.intCast_sub, show ((5400000 : Int) : Rat) = 5400000 by rfl]
      exact sees_mer bx by' (.inl ⟨c, rfl⟩))
    exact .inl ⟨q, this.1, this.2⟩
  · have c : (y : Rat) ≤ (x : Rat) := le_c q
    have := fin (5400000 - (x - y)) (by
      rw [Rat.intCast_sub, Rat.intCast_sub, show ((5400000 : Int) : Rat) = 5400000 by rfl]
      exact sees_mer bx by' (.inr ⟨c, rfl⟩))
    exact .inr ⟨q, this.1, this.2⟩
noncomputable def book_h28mi_any : Book := [(6, e0 (.bool (true))), (7, eT (fun a b c d e f => solV (hslM a b c d e f))), (12, eP (fun a b => arcV (anegR a b))), (33, ePP (fun a b c d => boolV (agreeR a b c d)))]
theorem book_h28mi_any_ok : BookOk Tryd.prog book_h28mi_any := (bookOk_cons (e0_ok awake28_gives) (bookOk_cons (eT_ok hslM_gives) (bookOk_cons (eP_ok anegR_gives) (bookOk_cons (ePP_ok agreeR_gives) bookOk_nil))))
theorem h28mi_any_tree (a b c : Int) : evF Tryd.prog Es Cs book_h28mi_any 20 6 4 ([.int .i64 a, .int .i64 b, .int .i64 c].map AV.v) [] [] last =
  cond (!(true))
  (some (.v (.bool false)))
  (lt (hslM a a b b c c) fun x1 =>
   cond (x1.2.2.2.2 != 0)
   (some (.v (.bool ((x1.1 == 0) && ((x1.2.1 == 0) && ((x1.2.2.1 == 0) && ((x1.2.2.2.1 == 0) && true)))))))
   (cond (c == (-9223372036854775808))
    (some (.v (.bool false)))
    (lt (hslM a a b b (IntKind.i64.wrap (0 - c)) (IntKind.i64.wrap (0 - c))) fun x2 =>
     lt (hslM a a b b 0 0) fun x3 =>
     cond (x2.2.2.2.2 != 0)
     (some (.v (.bool false)))
     (cond (x3.2.2.2.2 != 0)
      (some (.v (.bool false)))
      (cond (decide (x1.1 ≤ x2.2.1))
       (cond (!(decide (x2.1 ≤ x1.2.1)))
        (some (.v (.bool false)))
        (lt (anegR x2.2.2.1 x2.2.2.2.1) fun x4 =>
         cond (decide (IntKind.i64.wrap (a - b) < 0))
         (cond (x4.2.2 == 0)
          (lt (agreeR x1.2.2.1 x1.2.2.2.1 x4.1 x4.2.1) fun x5 =>
           cond (x5.2 == 0)
           (cond x5.1
            (cond (decide (x3.1 ≤ IntKind.i64.wrap (5400000 - (IntKind.i64.wrap (0 - (IntKind.i64.wrap (a - b)))))))
             (some (.v (.bool (decide (IntKind.i64.wrap (5400000 - (IntKind.i64.wrap (0 - (IntKind.i64.wrap (a - b))))) ≤ x3.2.1)))))
             (some (.v (.bool false))))
            (some (.v (.bool false))))
           (some (.v (.bool false))))
          (some (.v (.bool false))))
         (cond (x4.2.2 == 0)
          (lt (agreeR x1.2.2.1 x1.2.2.2.1 x4.1 x4.2.1) fun x6 =>
           cond (x6.2 == 0)
           (cond x6.1
            (cond (decide (x3.1 ≤ IntKind.i64.wrap (5400000 - (IntKind.i64.wrap (a - b)))))
             (some (.v (.bool (decide (IntKind.i64.wrap (5400000 - (IntKind.i64.wrap (a - b))) ≤ x3.2.1)))))
             (some (.v (.bool false))))
            (some (.v (.bool false))))
           (some (.v (.bool false))))
          (some (.v (.bool false))))))
       (some (.v (.bool false)))))))) := by kernel_rfl
theorem h28mi_any (a b c : Int) : Gives Tryd.prog 4 [.int .i64 a, .int .i64 b, .int .i64 c] (.bool (all3 a b c)) := by
  refine evF_gives (E := Es) mixed Es_ok Cs_ok book_h28mi_any_ok (lim := 20) (d := 6) (nm := []) ?_
  rw [h28mi_any_tree a b c]
  simp only [lt, Bool.not_true, cond_false]
  unfold all3
  cases ht : triB a a b b c c with
  | false =>
    rw [hsl_no ht]
    rfl
  | true =>
    have so := single_ok ht
    obtain ⟨h1, h2, h3⟩ := tri_bd ht
    have l1 := lat_bd h1
    have l2 := lat_bd h2
    have l3 := aval_bd h3
    obtain ⟨hm, mH, mZ⟩ := hmir_ok ht
    have sm := single_ok hm
    have t0 : triB a a b b 0 0 = true := tri_mk h1 h2 (avalid_mk (by omega) (by omega) (by omega))
    have s0 := single_ok t0
    have R := mer28 t0
    have H := half_hold ht so
    have K := half_hold hm sm
    have N := half_hold t0 s0
    have D2 := dir_bd K.dir
    have A : anegR (hfZ a a b b (-c) (-c)).1 (hfZ a a b b (-c) (-c)).2.1 = (-(hfZ a a b b (-c) (-c)).2.1, -(hfZ a a b b (-c) (-c)).1, 0) := aneg_ok D2.1 D2.2.2.2.2 D2.2.2.2.1
    have G : agreeR (hfZ a a b b c c).1 (hfZ a a b b c c).2.1 (-(hfZ a a b b (-c) (-c)).2.1) (-(hfZ a a b b (-c) (-c)).1) = (true, 0) := by
      unfold agreeR
      rw [if_pos ⟨H.dir.val, avalid_mk (by omega) (by omega) (by omega)⟩, decide_eq_true (.inl mZ)]
    have L := H.lat
    obtain ⟨q1, q2, q3, _⟩ := L
    rw [hsl_ok ht, so, if_neg (show ¬ (false = true) by simp)]
    dsimp only
    rw [show ((0 : Int) != 0) = false from rfl, cond_false, beq_eq_false_iff_ne.2 (show c ≠ -9223372036854775808 by omega), cond_false, i64w (x := 0 - c) (by omega), Int.zero_sub, hsl_ok hm, hsl_ok t0, sm, s0, if_neg (show ¬ (false = true) by simp), if_neg (show ¬ (false = true) by simp)]
    dsimp only
    rw [show ((0 : Int) != 0) = false from rfl, cond_false, cond_false, mH, decide_eq_true q2, A]
    dsimp only
    rw [G, i64w (x := a - b) (by omega), i64w (x := 0 - (a - b)) (by omega), i64w (x := 5400000 - (0 - (a - b))) (by omega), i64w (x := 5400000 - (a - b)) (by omega)]
    by_cases c1 : a - b < 0
    · rw [decide_eq_true c1, decide_eq_true (show (hfH a a b b 0 0).1 ≤ 5400000 - (0 - (a - b)) by omega), decide_eq_true (show 5400000 - (0 - (a - b)) ≤ (hfH a a b b 0 0).2.1 by omega)]
      rfl
    · rw [decide_eq_false c1, decide_eq_true (show (hfH a a b b 0 0).1 ≤ 5400000 - (a - b) by omega), decide_eq_true (show 5400000 - (a - b) ≤ (hfH a a b b 0 0).2.1 by omega)]
      rfl
end Go.Proofs.YtipjnfabodfkcaaDoor

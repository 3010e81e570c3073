/-
  The reference's forms of circles and places.
-/
import Derived.Test.YtkjnheahaimpoaaGreatFx
import Derived.Test.YtkjnheahaimpoaaGreatCl
namespace Go.Proofs.YtkjnheahaimpoaaGreat
open Ev

noncomputable def rcvM (a b c d e f : Int) : Bool :=
  cond (decide (a ≥ (-5400000)))
  (cond (decide (a ≤ b))
   (cond (decide (b ≤ 5400000))
    (cond ((c == (-10800000)) && ((d == 10800000) && true))
     (cond (decide (e ≥ 0))
      (cond (decide (e ≤ f))
       ((decide (f ≤ 10800000)))
       (false))
      (false))
     (cond (decide (c ≥ (-10800000)))
      (cond (decide (c < 10800000))
       (cond (decide (c ≤ d))
        (cond (decide (d < IntKind.i64.wrap (c + 21600000)))
         (cond (decide (e ≥ 0))
          (cond (decide (e ≤ f))
           ((decide (f ≤ 10800000)))
           (false))
          (false))
         (false))
        (false))
       (false))
      (false)))
    (false))
   (false))
  (false)
noncomputable def book_rcvM_gives : Book := []
theorem book_rcvM_gives_ok : BookOk Tryz.prog book_rcvM_gives := bookOk_nil
theorem rcvM_gives_tree (a b c d e f : Int) : evF Tryz.prog Es Cs book_rcvM_gives 20 6 11 ([.agg ⟨[.int .i64 a, .int .i64 b, .int .i64 c, .int .i64 d, .int .i64 e, .int .i64 f]⟩].map AV.v) [] [] last =
  cond (decide (a ≥ (-5400000)))
  (cond (decide (a ≤ b))
   (cond (decide (b ≤ 5400000))
    (cond ((c == (-10800000)) && ((d == 10800000) && true))
     (cond (decide (e ≥ 0))
      (cond (decide (e ≤ f))
       (some (.v (.bool (decide (f ≤ 10800000)))))
       (some (.v (.bool false))))
      (some (.v (.bool false))))
     (cond (decide (c ≥ (-10800000)))
      (cond (decide (c < 10800000))
       (cond (decide (c ≤ d))
        (cond (decide (d < IntKind.i64.wrap (c + 21600000)))
         (cond (decide (e ≥ 0))
          (cond (decide (e ≤ f))
           (some (.v (.bool (decide (f ≤ 10800000)))))
           (some (.v (.bool false))))
          (some (.v (.bool false))))
         (some (.v (.bool false))))
        (some (.v (.bool false))))
       (some (.v (.bool false))))
      (some (.v (.bool false)))))
    (some (.v (.bool false))))
   (some (.v (.bool false))))
  (some (.v (.bool false))) := by kernel_rfl
theorem rcvM_gives (a b c d e f : Int) : Gives Tryz.prog 11 [.agg ⟨[.int .i64 a, .int .i64 b, .int .i64 c, .int .i64 d, .int .i64 e, .int .i64 f]⟩] (.bool (rcvM a b c d e f)) := by
  refine evF_gives (E := Es) mixed Es_ok Cs_ok book_rcvM_gives_ok (lim := 20) (d := 6) (nm := []) ?_
  rw [rcvM_gives_tree a b c d e f]
  unfold rcvM
  refine case_cond (fun (r : Bool) => AV.v (.bool (r))) ?_ ?_
  · refine case_cond (fun (r : Bool) => AV.v (.bool (r))) ?_ ?_
    · refine case_cond (fun (r : Bool) => AV.v (.bool (r))) ?_ ?_
      · refine case_cond (fun (r : Bool) => AV.v (.bool (r))) ?_ ?_
        · refine case_cond (fun (r : Bool) => AV.v (.bool (r))) ?_ ?_
          · refine case_cond (fun (r : Bool) => AV.v (.bool (r))) ?_ ?_
            · rfl
            · rfl
          · rfl
        · refine case_cond (fun (r : Bool) => AV.v (.bool (r))) ?_ ?_
          · refine case_cond (fun (r : Bool) => AV.v (.bool (r))) ?_ ?_
            · refine case_cond (fun (r : Bool) => AV.v (.bool (r))) ?_ ?_
              · refine case_cond (fun (r : Bool) => AV.v (.bool (r))) ?_ ?_
                · refine case_cond (fun (r : Bool) => AV.v (.bool (r))) ?_ ?_
                  · refine case_cond (fun (r : Bool) => AV.v (.bool (r))) ?_ ?_
                    · rfl
                    · rfl
                  · rfl
                · rfl
              · rfl
            · rfl
          · rfl
      · rfl
    · rfl
  · rfl
noncomputable def rlonM (a b : Int) : Int × Int :=
  cond (decide (IntKind.i64.wrap (b - a) ≥ 21600000))
  (((-10800000), 10800000))
  (cond (decide ((Int.tmod a 21600000) < 0))
   (cond (decide (IntKind.i64.wrap ((Int.tmod a 21600000) + 21600000) ≥ 10800000))
    ((IntKind.i64.wrap ((IntKind.i64.wrap ((Int.tmod a 21600000) + 21600000)) - 21600000), IntKind.i64.wrap ((IntKind.i64.wrap ((IntKind.i64.wrap ((IntKind.i64.wrap ((Int.tmod a 21600000) + 21600000)) - 21600000)) + b)) - a)))
    ((IntKind.i64.wrap ((Int.tmod a 21600000) + 21600000), IntKind.i64.wrap ((IntKind.i64.wrap ((IntKind.i64.wrap ((Int.tmod a 21600000) + 21600000)) + b)) - a))))
   (cond (decide ((Int.tmod a 21600000) ≥ 10800000))
    ((IntKind.i64.wrap ((Int.tmod a 21600000) - 21600000), IntKind.i64.wrap ((IntKind.i64.wrap ((IntKind.i64.wrap ((Int.tmod a 21600000) - 21600000)) + b)) - a)))
    (((Int.tmod a 21600000), IntKind.i64.wrap ((IntKind.i64.wrap ((Int.tmod a 21600000) + b)) - a)))))
noncomputable def book_rlonM_gives : Book := []
theorem book_rlonM_gives_ok : BookOk Tryz.prog book_rlonM_gives := bookOk_nil
theorem rlonM_gives_tree (a b : Int) : evF Tryz.prog Es Cs book_rlonM_gives 20 6 15 ([.agg ⟨[.int .i64 a, .int .i64 b]⟩].map AV.v) [] [] last =
  cond (decide (IntKind.i64.wrap (b - a) ≥ 21600000))
  (some (.v (.agg ⟨[.int .i64 (-10800000), .int .i64 10800000]⟩)))
  (cond (decide ((Int.tmod a 21600000) < 0))
   (cond (decide (IntKind.i64.wrap ((Int.tmod a 21600000) + 21600000) ≥ 10800000))
    (some (.v (.agg ⟨[.int .i64 (IntKind.i64.wrap ((IntKind.i64.wrap ((Int.tmod a 21600000) + 21600000)) - 21600000)), .int .i64 (IntKind.i64.wrap ((IntKind.i64.wrap ((IntKind.i64.wrap ((IntKind.i64.wrap ((Int.tmod a 21600000) + 21600000)) - 21600000)) + b)) - a))]⟩)))
    (some (.v (.agg ⟨[.int .i64 (IntKind.i64.wrap ((Int.tmod a 21600000) + 21600000)), .int .i64 (IntKind.i64.wrap ((IntKind.i64.wrap ((IntKind.i64.wrap ((Int.tmod a 21600000) + 21600000)) + b)) - a))]⟩))))
   (cond (decide ((Int.tmod a 21600000) ≥ 10800000))
    (some (.v (.agg ⟨[.int .i64 (IntKind.i64.wrap ((Int.tmod a 21600000) - 21600000)), .int .i64 (IntKind.i64.wrap ((IntKind.i64.wrap ((IntKind.i64.wrap ((Int.tmod a 21600000) - 21600000)) + b)) - a))]⟩)))
    (some (.v (.agg ⟨[.int .i64 (Int.tmod a 21600000), .int .i64 (IntKind.i64.wrap ((IntKind.i64.wrap ((Int.tmod a 21600000) + b)) - a))]⟩))))) := by kernel_rfl
theorem rlonM_gives (a b : Int) : Gives Tryz.prog 15 [.agg ⟨[.int .i64 a, .int .i64 b]⟩] (pairV (rlonM a b).1 (rlonM a b).2) := by
  refine evF_gives (E := Es) mixed Es_ok Cs_ok book_rlonM_gives_ok (lim := 20) (d := 6) (nm := []) ?_
  rw [rlonM_gives_tree a b]
  unfold rlonM
  refine case_cond (fun (r : Int × Int) => AV.v (pairV (r).1 (r).2)) ?_ ?_
  · rfl
  · refine case_cond (fun (r : Int × Int) => AV.v (pairV (r).1 (r).2)) ?_ ?_
    · refine case_cond (fun (r : Int × Int) => AV.v (pairV (r).1 (r).2)) ?_ ?_
      · rfl
      · rfl
    · refine case_cond (fun (r : Int × Int) => AV.v (pairV (r).1 (r).2)) ?_ ?_
      · rfl
      · rfl
noncomputable def rplM (a b : Int) : Int × Int × Int × Int :=
  (a, a, b, b)
noncomputable def book_rplM_gives : Book := []
theorem book_rplM_gives_ok : BookOk Tryz.prog book_rplM_gives := bookOk_nil
theorem rplM_gives_tree (a b : Int) : evF Tryz.prog Es Cs book_rplM_gives 20 6 19 ([.agg ⟨[.int .i64 a, .int .i64 b]⟩].map AV.v) [] [] last =
  some (.v (.agg ⟨[.int .i64 a, .int .i64 a, .int .i64 b, .int .i64 b]⟩)) := by kernel_rfl
theorem rplM_gives (a b : Int) : Gives Tryz.prog 19 [.agg ⟨[.int .i64 a, .int .i64 b]⟩] (solP (rplM a b)) := by
  refine evF_gives (E := Es) mixed Es_ok Cs_ok book_rplM_gives_ok (lim := 20) (d := 6) (nm := []) ?_
  rw [rplM_gives_tree a b]
  rfl
noncomputable def rpvM (a b c d : Int) : Bool :=
  cond (decide (a ≥ (-5400000)))
  (cond (decide (a ≤ b))
   (cond (decide (b ≤ 5400000))
    (cond ((c == (-10800000)) && ((d == 10800000) && true))
     (true)
     (cond (decide (c ≥ (-10800000)))
      (cond (decide (c < 10800000))
       (cond (decide (c ≤ d))
        ((decide (d < IntKind.i64.wrap (c + 21600000))))
        (false))
       (false))
      (false)))
    (false))
   (false))
  (false)
noncomputable def book_rpvM_gives : Book := []
theorem book_rpvM_gives_ok : BookOk Tryz.prog book_rpvM_gives := bookOk_nil
theorem rpvM_gives_tree (a b c d : Int) : evF Tryz.prog Es Cs book_rpvM_gives 20 6 12 ([.agg ⟨[.int .i64 a, .int .i64 b, .int .i64 c, .int .i64 d]⟩].map AV.v) [] [] last =
  cond (decide (a ≥ (-5400000)))
  (cond (decide (a ≤ b))
   (cond (decide (b ≤ 5400000))
    (cond ((c == (-10800000)) && ((d == 10800000) && true))
     (some (.v (.bool true)))
     (cond (decide (c ≥ (-10800000)))
      (cond (decide (c < 10800000))
       (cond (decide (c ≤ d))
        (some (.v (.bool (decide (d < IntKind.i64.wrap (c + 21600000))))))
        (some (.v (.bool false))))
       (some (.v (.bool false))))
      (some (.v (.bool false)))))
    (some (.v (.bool false))))
   (some (.v (.bool false))))
  (some (.v (.bool false))) := by kernel_rfl
theorem rpvM_gives (a b c d : Int) : Gives Tryz.prog 12 [.agg ⟨[.int .i64 a, .int .i64 b, .int .i64 c, .int .i64 d]⟩] (.bool (rpvM a b c d)) := by
  refine evF_gives (E := Es) mixed Es_ok Cs_ok book_rpvM_gives_ok (lim := 20) (d := 6) (nm := []) ?_
  rw [rpvM_gives_tree a b c d]
  unfold rpvM
  refine case_cond (fun (r : Bool) => AV.v (.bool (r))) ?_ ?_
  · refine case_cond (fun (r : Bool) => AV.v (.bool (r))) ?_ ?_
    · refine case_cond (fun (r : Bool) => AV.v (.bool (r))) ?_ ?_
      · refine case_cond (fun (r : Bool) => AV.v (.bool (r))) ?_ ?_
        · rfl
        · refine case_cond (fun (r : Bool) => AV.v (.bool (r))) ?_ ?_
          · refine case_cond (fun (r : Bool) => AV.v (.bool (r))) ?_ ?_
            · refine case_cond (fun (r : Bool) => AV.v (.bool (r))) ?_ ?_
              · rfl
              · rfl
            · rfl
          · rfl
      · rfl
    · rfl
  · rfl
noncomputable def rvpM (a b : Int) : Bool :=
  cond (decide (a ≥ (-5400000)))
  (cond (decide (a ≤ 5400000))
   (cond (decide (b ≥ (-10800000)))
    ((decide (b < 10800000)))
    (false))
   (false))
  (false)
noncomputable def book_rvpM_gives : Book := []
theorem book_rvpM_gives_ok : BookOk Tryz.prog book_rvpM_gives := bookOk_nil
theorem rvpM_gives_tree (a b : Int) : evF Tryz.prog Es Cs book_rvpM_gives 20 6 17 ([.agg ⟨[.int .i64 a, .int .i64 b]⟩].map AV.v) [] [] last =
  cond (decide (a ≥ (-5400000)))
  (cond (decide (a ≤ 5400000))
   (cond (decide (b ≥ (-10800000)))
    (some (.v (.bool (decide (b < 10800000)))))
    (some (.v (.bool false))))
   (some (.v (.bool false))))
  (some (.v (.bool false))) := by kernel_rfl
theorem rvpM_gives (a b : Int) : Gives Tryz.prog 17 [.agg ⟨[.int .i64 a, .int .i64 b]⟩] (.bool (rvpM a b)) := by
  refine evF_gives (E := Es) mixed Es_ok Cs_ok book_rvpM_gives_ok (lim := 20) (d := 6) (nm := []) ?_
  rw [rvpM_gives_tree a b]
  unfold rvpM
  refine case_cond (fun (r : Bool) => AV.v (.bool (r))) ?_ ?_
  · refine case_cond (fun (r : Bool) => AV.v (.bool (r))) ?_ ?_
    · refine case_cond (fun (r : Bool) => AV.v (.bool (r))) ?_ ?_
      · rfl
      · rfl
    · rfl
  · rfl
noncomputable def rvalM (a b : Int) : Bool :=
  cond (decide (a ≤ b))
  (cond (decide (a ≥ (-1099511627776)))
   ((decide (b ≤ 1099511627776)))
   (false))
  (false)
noncomputable def book_rvalM_gives : Book := []
theorem book_rvalM_gives_ok : BookOk Tryz.prog book_rvalM_gives := bookOk_nil
theorem rvalM_gives_tree (a b : Int) : evF Tryz.prog Es Cs book_rvalM_gives 20 6 26 ([.agg ⟨[.int .i64 a, .int .i64 b]⟩].map AV.v) [] [] last =
  cond (decide (a ≤ b))
  (cond (decide (a ≥ (-1099511627776)))
   (some (.v (.bool (decide (b ≤ 1099511627776)))))
   (some (.v (.bool false))))
  (some (.v (.bool false))) := by kernel_rfl
theorem rvalM_gives (a b : Int) : Gives Tryz.prog 26 [.agg ⟨[.int .i64 a, .int .i64 b]⟩] (.bool (rvalM a b)) := by
  refine evF_gives (E := Es) mixed Es_ok Cs_ok book_rvalM_gives_ok (lim := 20) (d := 6) (nm := []) ?_
  rw [rvalM_gives_tree a b]
  unfold rvalM
  refine case_cond (fun (r : Bool) => AV.v (.bool (r))) ?_ ?_
  · refine case_cond (fun (r : Bool) => AV.v (.bool (r))) ?_ ?_
    · rfl
    · rfl
  · rfl
open SM TB TA
open Ev (lt keepE)
theorem tmod_emod (x : Int) : x % 21600000 = (if x.tmod 21600000 < 0 then x.tmod 21600000 + 21600000 else x.tmod 21600000) := by
  have h1 := Int.mul_tdiv_add_tmod x 21600000
  have h2 := tm_sign x 21600000
  have h3 := Int.tmod_lt_of_pos x (show (0 : Int) < 21600000 by omega)
  have h4 := Int.tmod_lt_of_pos (-x) (show (0 : Int) < 21600000 by omega)
  rw [Int.neg_tmod] at h4
  split <;> omega
theorem asin_at {x y p q : Int} (h1 : -1073741824 ≤ x) (h2 : x ≤ y) (h3 : y ≤ 1073741824) (hp : IsAsin x p) (hq : IsAsin (-y) q) : asinR x y = (p, -q, 0) := by
  have e1 : asn x = p := asn_eq h1 hp
  have e2 : asn (-y) = q := asn_eq (by omega) hq
  unfold asinR
  rw [val_mk (a := x) (b := y) (by omega) h2 (by omega)]
  simp only [Bool.true_eq_false, if_false]
  have m1 : max x (-1073741824) = x := by omega
  have m2 : min y 1073741824 = y := by omega
  rw [m1, m2, if_pos h2, e1, e2]
/-- A number of an arc, picked by a remainder. -/
def pk (a b u : Int) : Int := IntKind.i64.wrap (a + Int.tmod (IntKind.i64.wrap u) (IntKind.i64.wrap (IntKind.i64.wrap (b - a) + 1)))
theorem pk_ok {a b u : Int} (h1 : -1099511627776 ≤ a) (h2 : a ≤ b) (h3 : b ≤ 1099511627776) (h4 : 0 ≤ u) (h5 : u ≤ 4294967295) : (IntKind.i64.wrap (IntKind.i64.wrap (b - a) + 1) == 0) = false ∧ a ≤ pk a b u ∧ pk a b u ≤ b := by
  unfold pk
  rw [i64w (x := b - a) (by omega), i64w (x := b - a + 1) (by omega), i64w (x := u) (by omega)]
  have m0 := Int.tmod_nonneg (b - a + 1) h4
  have m1 := Int.tmod_lt_of_pos u (show 0 < b - a + 1 by omega)
  rw [i64w (by omega)]
  exact ⟨beq_eq_false_iff_ne.2 (by omega), by omega, by omega⟩
theorem u32_bd (x : Int) : 0 ≤ IntKind.u32.wrap x ∧ IntKind.u32.wrap x ≤ 4294967295 := by
  unfold IntKind.wrap
  simp [IntKind.signed, IntKind.bits]
  omega
theorem rlon_ok {a b : Int} (h1 : -1000000000 ≤ a) (h2 : a ≤ b) (h3 : b ≤ 1000000000) : rlonM a b = (lonL a b, lonH a b) := by
  have t := tmod_emod a
  have m0 := Int.emod_nonneg a (show (21600000 : Int) ≠ 0 by omega)
  have m1 := Int.emod_lt_of_pos a (show (0 : Int) < 21600000 by omega)
  unfold rlonM lonL lonH sgnd
  rw [i64w (x := b - a) (by omega)]
  generalize a % 21600000 = r at *
  generalize a.tmod 21600000 = s at *
  by_cases c : b - a ≥ 21600000
  · rw [decide_eq_true c, cond_true, if_pos c, if_pos c]
  · rw [decide_eq_false c, cond_false, if_neg (show ¬ 21600000 ≤ b - a by omega), if_neg (show ¬ 21600000 ≤ b - a by omega)]
    by_cases g : s < 0
    · rw [if_pos g] at t
      rw [decide_eq_true g, cond_true, i64w (x := s + 21600000) (by omega), ← t]
      by_cases k : r ≥ 10800000
      · rw [decide_eq_true k, cond_true, if_pos (show 10800000 ≤ r from k), i64w (x := r - 21600000) (by omega), i64w (x := r - 21600000 + b) (by omega), i64w (by omega), show r - 21600000 + b - a = r - 21600000 + (b - a) by omega]
      · rw [decide_eq_false k, cond_false, if_neg (show ¬ 10800000 ≤ r by omega), i64w (x := r + b) (by omega), i64w (by omega), show r + b - a = r + (b - a) by omega]
    · rw [if_neg g] at t
      subst t
      rw [decide_eq_false g, cond_false]
      by_cases k : r ≥ 10800000
      · rw [decide_eq_true k, cond_true, if_pos (show 10800000 ≤ r from k), i64w (x := r - 21600000) (by omega), i64w (x := r - 21600000 + b) (by omega), i64w (by omega), show r - 21600000 + b - a = r - 21600000 + (b - a) by omega]
      · rw [decide_eq_false k, cond_false, if_neg (show ¬ 10800000 ≤ r by omega), i64w (x := r + b) (by omega), i64w (by omega), show r + b - a = r + (b - a) by omega]
theorem rlonv {c d : Int} {x y : Bool} (h : cond ((c == (-10800000)) && ((d == 10800000) && true)) x (cond (decide (c ≥ (-10800000))) (cond (decide (c < 10800000)) (cond (decide (c ≤ d)) (cond (decide (d < IntKind.i64.wrap (c + 21600000))) x false) false) false) false) = true) (_hy : y = y) : LonP c d ∧ x = true := by
  cases g : ((c == (-10800000)) && ((d == 10800000) && true)) with
  | true =>
    rw [g, cond_true] at h
    simp only [Bool.and_true, Bool.and_eq_true, beq_iff_eq] at g
    exact ⟨.inl g, h⟩
  | false =>
    rw [g, cond_false] at h
    by_cases g1 : c ≥ -10800000
    · by_cases g2 : c < 10800000
      · by_cases g3 : c ≤ d
        · rw [decide_eq_true g1, decide_eq_true g2, decide_eq_true g3, cond_true, cond_true, cond_true, i64w (x := c + 21600000) (by omega)] at h
          by_cases g4 : d < c + 21600000
          · rw [decide_eq_true g4, cond_true] at h
            exact ⟨.inr ⟨g1, g2, g3, by omega⟩, h⟩
          · rw [decide_eq_false g4] at h; cases h
        · rw [decide_eq_true g1, decide_eq_true g2, decide_eq_false g3] at h; cases h
      · rw [decide_eq_true g1, decide_eq_false g2] at h; cases h
    · rw [decide_eq_false g1] at h; cases h
theorem rcv_bd {a b c d e f : Int} (h : rcvM a b c d e f = true) : latB a b = true ∧ LonP c d ∧ 0 ≤ e ∧ e ≤ f ∧ f ≤ 10800000 := by
  unfold rcvM at h
  by_cases g1 : a ≥ -5400000
  · by_cases g2 : a ≤ b
    · by_cases g3 : b ≤ 5400000
      · rw [decide_eq_true g1, decide_eq_true g2, decide_eq_true g3, cond_true, cond_true, cond_true] at h
        have k : cond ((c == (-10800000)) && ((d == 10800000) && true)) (decide (0 ≤ e ∧ e ≤ f ∧ f ≤ 10800000)) (cond (decide (c ≥ (-10800000))) (cond (decide (c < 10800000)) (cond (decide (c ≤ d)) (cond (decide (d < IntKind.i64.wrap (c + 21600000))) (decide (0 ≤ e ∧ e ≤ f ∧ f ≤ 10800000)) false) false) false) false) = true := by
          have q : cond (decide (e ≥ 0)) (cond (decide (e ≤ f)) (decide (f ≤ 10800000)) false) false = decide (0 ≤ e ∧ e ≤ f ∧ f ≤ 10800000) := by
            by_cases k1 : e ≥ 0
            · by_cases k2 : e ≤ f
              · by_cases k3 : f ≤ 10800000
                · rw [decide_eq_true k1, decide_eq_true k2, decide_eq_true k3, decide_eq_true (show 0 ≤ e ∧ e ≤ f ∧ f ≤ 10800000 by omega)]; rfl
                · rw [decide_eq_true k1, decide_eq_true k2, decide_eq_false k3, decide_eq_false (show ¬ (0 ≤ e ∧ e ≤ f ∧ f ≤ 10800000) by omega)]; rfl
              · rw [decide_eq_true k1, decide_eq_false k2, decide_eq_false (show ¬ (0 ≤ e ∧ e ≤ f ∧ f ≤ 10800000) by omega)]; rfl
            · rw [decide_eq_false k1, decide_eq_false (show ¬ (0 ≤ e ∧ e ≤ f ∧ f ≤ 10800000) by omega)]; rfl
          rw [← q]
          exact h
        obtain ⟨p, q⟩ := rlonv k (y := true) rfl
        have q' := of_decide_eq_true q
        exact ⟨lat_mk g1 g2 g3, p, q'⟩
      · rw [decide_eq_true g1, decide_eq_true g2, decide_eq_false g3] at h; cases h
    · rw [decide_eq_true g1, decide_eq_false g2] at h; cases h
  · rw [decide_eq_false g1] at h; cases h
theorem rpv_bd {a b c d : Int} (h : rpvM a b c d = true) : latB a b = true ∧ LonP c d := by
  unfold rpvM at h
  by_cases g1 : a ≥ -5400000
  · by_cases g2 : a ≤ b
    · by_cases g3 : b ≤ 5400000
      · rw [decide_eq_true g1, decide_eq_true g2, decide_eq_true g3, cond_true, cond_true, cond_true] at h
        refine ⟨lat_mk g1 g2 g3, (rlonv (x := true) (y := true) ?_ rfl).1⟩
        rw [show ∀ t : Bool, cond t true false = t from fun t => by cases t <;> rfl]
        exact h
      · rw [decide_eq_true g1, decide_eq_true g2, decide_eq_false g3] at h; cases h
    · rw [decide_eq_true g1, decide_eq_false g2] at h; cases h
  · rw [decide_eq_false g1] at h; cases h
theorem rvp_bd {a b : Int} (h : rvpM a b = true) : -5400000 ≤ a ∧ a ≤ 5400000 ∧ -10800000 ≤ b ∧ b < 10800000 := by
  unfold rvpM at h
  by_cases g1 : a ≥ -5400000
  · by_cases g2 : a ≤ 5400000
    · by_cases g3 : b ≥ -10800000
      · rw [decide_eq_true g1, decide_eq_true g2, decide_eq_true g3] at h
        exact ⟨g1, g2, g3, of_decide_eq_true h⟩
      · rw [decide_eq_true g1, decide_eq_true g2, decide_eq_false g3] at h; cases h
    · rw [decide_eq_true g1, decide_eq_false g2] at h; cases h
  · rw [decide_eq_false g1] at h; cases h
theorem zeroLon : LonP 0 0 := .inr (by omega)
theorem sixty : asinR 929887696 929887697 = (3599999, 3600001, 0) := Eq.trans (asin_at (x := 929887696) (y := 929887697) (p := 3599999) (q := -3600001) (by omega) (by omega) (by omega) ⟨by omega, by omega, by decide +kernel, .inr (by decide +kernel)⟩ ⟨by omega, by omega, by decide +kernel, .inr (by decide +kernel)⟩) (by decide +kernel)
theorem cat_x : catM 0 0 0 0 3600000 3600000 0 0 = (3599999, 3600001, (catM 0 0 0 0 3600000 3600000 0 0).2.2.1, (catM 0 0 0 0 3600000 3600000 0 0).2.2.2.1, 0) ∧ (catM 0 0 0 0 3600000 3600000 0 0).2.2.1 ≤ 0 ∧ 0 ≤ (catM 0 0 0 0 3600000 3600000 0 0).2.2.2.1 ∧ (catM 0 0 0 0 3600000 3600000 0 0).2.2.2.1 - (catM 0 0 0 0 3600000 3600000 0 0).2.2.1 ≤ 4 := by
  have e := cat_ok (a := 0) (b := 0) (c := 0) (d := 0) (e := 3600000) (f := 3600000) (u := 0) (v := 0) (by decide +kernel) zeroLon (by omega) (by omega) (by omega) (by decide +kernel)
  have ea : atA 0 0 3600000 3600000 0 0 = (3599999, 3600001, 0) := by
    have u : atU 0 0 3600000 3600000 0 0 = (929887696, 929887697, 0) := by decide +kernel
    unfold atA
    rw [u]
    exact sixty
  have eb : lonL (0 + (atB 0 0 3600000 3600000 0 0).1) (0 + (atB 0 0 3600000 3600000 0 0).2.1) ≤ 0 ∧ 0 ≤ lonH (0 + (atB 0 0 3600000 3600000 0 0).1) (0 + (atB 0 0 3600000 3600000 0 0).2.1) ∧ lonH (0 + (atB 0 0 3600000 3600000 0 0).1) (0 + (atB 0 0 3600000 3600000 0 0).2.1) - lonL (0 + (atB 0 0 3600000 3600000 0 0).1) (0 + (atB 0 0 3600000 3600000 0 0).2.1) ≤ 4 := by decide +kernel
  rw [e, ea]
  exact ⟨rfl, eb⟩
theorem ext_x : cextM 0 0 0 0 3600000 3600000 = (-3600000, 3600000, -3600001, 3600001, 0) := by
  obtain ⟨L, R, e, _, k⟩ := cext_ok (a := 0) (b := 0) (c := 0) (d := 0) (e := 3600000) (f := 3600000) (by decide +kernel) zeroLon (by omega) (by omega) (by omega)
  have eq : exQ 0 0 3600000 = (929887696, 929887697, 0) := by decide +kernel
  have ew : exW 0 0 3600000 = (3599999, 3600001, 0) := by
    unfold exW
    rw [eq]
    exact sixty
  have nw : ¬ wideB 0 0 3600000 := by
    unfold wideB
    rw [eq, ew]
    simp
  rcases k with ⟨k, _⟩ | ⟨_, k1, k2⟩
  · exact absurd k nw
  · rw [e, k1, k2, ew]
    decide +kernel
theorem sid_x : csidM 0 0 0 0 3600000 3600000 0 0 0 0 = (1, 0) ∧ csidM 0 0 0 0 3600000 3600000 0 0 5400000 5400000 = (-1, 0) := by
  rw [csid_ok (by decide +kernel) zeroLon (by omega) (by omega) (by omega) (by decide +kernel) zeroLon, csid_ok (by decide +kernel) zeroLon (by omega) (by omega) (by omega) (by decide +kernel) (w := 5400000) (x := 5400000) (.inr (by omega))]
  decide +kernel
theorem tan_x : ∃ z0 z1 : Int, ctanM 0 0 0 0 3600000 3600000 0 3000000 = (0, 3000000, z0, z1, -600001, -599999, 0) ∧ z0 ≤ 16200000 ∧ 16200000 ≤ z1 ∧ z1 - z0 ≤ 4 ∧ 0 ≤ z0 ∧ z1 ≤ 100000000 := by
  have u : cupE 0 0 0 0 3000000 3000000 = (690187940, 690187941, 0) := by decide +kernel
  have ez : (bearR (ceaE 0 0 3000000 3000000).1 (ceaE 0 0 3000000 3000000).2.1 (cnoE 0 0 0 0 3000000 3000000).1 (cnoE 0 0 0 0 3000000 3000000).2.1).1 ≤ 16200000 ∧ 16200000 ≤ (bearR (ceaE 0 0 3000000 3000000).1 (ceaE 0 0 3000000 3000000).2.1 (cnoE 0 0 0 0 3000000 3000000).1 (cnoE 0 0 0 0 3000000 3000000).2.1).2.1 ∧ (bearR (ceaE 0 0 3000000 3000000).1 (ceaE 0 0 3000000 3000000).2.1 (cnoE 0 0 0 0 3000000 3000000).1 (cnoE 0 0 0 0 3000000 3000000).2.1).2.1 - (bearR (ceaE 0 0 3000000 3000000).1 (ceaE 0 0 3000000 3000000).2.1 (cnoE 0 0 0 0 3000000 3000000).1 (cnoE 0 0 0 0 3000000 3000000).2.1).1 ≤ 4 := by decide +kernel
  obtain ⟨Z, eZ, dZ, _, e⟩ := ctan_ok (a := 0) (b := 0) (c := 0) (d := 0) (e := 3600000) (f := 3600000) (u := 0) (v := 3000000) (by decide +kernel) zeroLon (by omega) (by omega) (by omega) (by omega) (by omega) (by omega) (by omega)
  rw [show (3000000 : Int) - 0 = 3000000 by rfl] at e eZ
  rw [← eZ] at ez
  have q : asinR 690187940 690187941 = (2399999, 2400001, 0) := Eq.trans (asin_at (x := 690187940) (y := 690187941) (p := 2399999) (q := -2400001) (by omega) (by omega) (by omega) ⟨by omega, by omega, by decide +kernel, .inr (by decide +kernel)⟩ ⟨by omega, by omega, by decide +kernel, .inr (by decide +kernel)⟩) (by decide +kernel)
  rw [u] at e
  dsimp only at e
  rw [q] at e
  obtain ⟨d1, d2, d3, d4, _⟩ := dZ
  exact ⟨Z.1, Z.2.1, e, ez.1, ez.2.1, ez.2.2, d1, by omega⟩
noncomputable def book_awake35_gives : Book := [(14, eTS (fun a b c d e f u v w x => twoI (csidM a b c d e f u v w x))), (20, eTP (fun a b c d e f u v => cirV (ctanM a b c d e f u v))), (24, eT (fun a b c d e f => solV (cextM a b c d e f))), (27, eTP (fun a b c d e f u v => solV (catM a b c d e f u v)))]
theorem book_awake35_gives_ok : BookOk Tryz.prog book_awake35_gives := (bookOk_cons (eTS_ok csidM_gives) (bookOk_cons (eTP_ok ctanM_gives) (bookOk_cons (eT_ok cextM_gives) (bookOk_cons (eTP_ok catM_gives) bookOk_nil))))
theorem awake35_gives_tree  : evF Tryz.prog Es Cs book_awake35_gives 20 6 10 ([].map AV.v) [] [] last =
  lt (catM 0 0 0 0 3600000 3600000 0 0) fun x1 =>
  lt (cextM 0 0 0 0 3600000 3600000) fun x2 =>
  lt (csidM 0 0 0 0 3600000 3600000 0 0 0 0) fun x3 =>
  lt (csidM 0 0 0 0 3600000 3600000 0 0 5400000 5400000) fun x4 =>
  lt (ctanM 0 0 0 0 3600000 3600000 0 3000000) fun x5 =>
  cond (x1.2.2.2.2 == 0)
  (cond (decide (x1.1 ≤ 3600000))
   (cond (decide (3600000 ≤ x1.2.1))
    (cond (decide (IntKind.i64.wrap (x1.2.1 - x1.1) ≤ 4))
     (cond (decide (x1.2.2.1 ≤ 0))
      (cond (decide (0 ≤ x1.2.2.2.1))
       (cond (decide (IntKind.i64.wrap (x1.2.2.2.1 - x1.2.2.1) ≤ 4))
        (cond (x2.2.2.2.2 == 0)
         (cond ((x2.1 == (-3600000)) && ((x2.2.1 == 3600000) && true))
          (cond (decide (x2.2.2.1 ≤ 3600000))
           (cond (decide (3600000 ≤ x2.2.2.2.1))
            (cond (decide (IntKind.i64.wrap (x2.2.2.2.1 - x2.2.2.1) ≤ 7200010))
             (cond (x3.2 == 0)
              (cond (x3.1 == 1)
               (cond (x4.2 == 0)
                (cond (x4.1 == (-1))
                 (cond (x5.2.2.2.2.2.2 == 0)
                  (cond (decide (x5.2.2.1 ≤ 16200000))
                   (cond (decide (16200000 ≤ x5.2.2.2.1))
                    (cond (decide (IntKind.i64.wrap (x5.2.2.2.1 - x5.2.2.1) ≤ 4))
                     (cond (decide (x5.2.2.2.2.1 ≤ (-600000)))
                      (cond (decide ((-600000) ≤ x5.2.2.2.2.2.1))
                       (some (.v (.bool (decide (IntKind.i64.wrap (x5.2.2.2.2.2.1 - x5.2.2.2.2.1) ≤ 8)))))
                       (some (.v (.bool false))))
                      (some (.v (.bool false))))
                     (some (.v (.bool false))))
                    (some (.v (.bool false))))
                   (some (.v (.bool false))))
                  (some (.v (.bool false))))
                 (some (.v (.bool false))))
                (some (.v (.bool false))))
               (some (.v (.bool false))))
              (some (.v (.bool false))))
             (some (.v (.bool false))))
            (some (.v (.bool false))))
           (some (.v (.bool false))))
          (some (.v (.bool false))))
         (some (.v (.bool false))))
        (some (.v (.bool false))))
       (some (.v (.bool false))))
      (some (.v (.bool false))))
     (some (.v (.bool false))))
    (some (.v (.bool false))))
   (some (.v (.bool false))))
  (some (.v (.bool false))) := by kernel_rfl
theorem awake35_gives  : Gives Tryz.prog 10 [] (.bool (true)) := by
  refine evF_gives (E := Es) mixed Es_ok Cs_ok book_awake35_gives_ok (lim := 20) (d := 6) (nm := []) ?_
  rw [awake35_gives_tree]
  obtain ⟨c1, c2, c3, c4⟩ := cat_x
  obtain ⟨z0, z1, t1, t2, t3, t4, t5, t6⟩ := tan_x
  have cb : -10800000 ≤ (catM 0 0 0 0 3600000 3600000 0 0).2.2.1 ∧ (catM 0 0 0 0 3600000 3600000 0 0).2.2.2.1 ≤ 100000000 := by
    have e := cat_ok (a := 0) (b := 0) (c := 0) (d := 0) (e := 3600000) (f := 3600000) (u := 0) (v := 0) (by decide +kernel) zeroLon (by omega) (by omega) (by omega) (by decide +kernel)
    have B := (at_one (a := 0) (b := 0) (e := 3600000) (f := 3600000) (u := 0) (v := 0) (by decide +kernel) (by decide +kernel) (by decide +kernel)).2
    obtain ⟨b1, b2, b3, b4, _⟩ := B
    have l := lon_bd (a := 0 + (atB 0 0 3600000 3600000 0 0).1) (b := 0 + (atB 0 0 3600000 3600000 0 0).2.1) (by omega)
    rw [e]
    dsimp only
    omega
  simp only [lt]
  rw [c1, ext_x, sid_x.1, sid_x.2, t1]
  dsimp only
  generalize (catM 0 0 0 0 3600000 3600000 0 0).2.2.1 = l0 at *
  generalize (catM 0 0 0 0 3600000 3600000 0 0).2.2.2.1 = l1 at *
  rw [i64w (x := l1 - l0) (by omega), i64w (x := z1 - z0) (by omega), decide_eq_true c2, decide_eq_true c3, decide_eq_true c4, decide_eq_true t2, decide_eq_true t3, decide_eq_true t4]
  rfl
end Go.Proofs.YtkjnheahaimpoaaGreat

/-
  The examples of the chapter; AgetonDivides and AgetonSolves answer true.
-/
import Derived.Test.YtadefgjpkhhffaaGreatR2
namespace Go.Proofs.YtadefgjpkhhffaaGreat
open Ev

open SM
theorem asin_at {x y p q : Int} (h1 : -1073741824 ≤ x) (h2 : x ≤ y) (h3 : y ≤ 1073741824) (hp : IsAsin x p) (hq : IsAsin (-y) q) : asinR x y = (p, -q, 0) := by
  have e1 : asn x = p := asn_eq h1 hp
  have e2 : asn (-y) = q := asn_eq (by omega) hq
  unfold asinR
  rw [val_mk (a := x) (b := y) (by omega) h2 (by omega)]
  simp only [Bool.true_eq_false, if_false]
  have m1 : max x (-1073741824) = x := by omega
  have m2 : min y 1073741824 = y := by omega
  rw [m1, m2, if_pos h2, e1, e2]
theorem per_a : perE 0 0 1800000 1800000 = (1800000, 1800000, 0) := by
  have e : wesE 0 0 1800000 1800000 = (536870912, 536870912, 0) := by decide +kernel
  unfold perE
  rw [e]
  exact asin_at (x := 536870912) (y := 536870912) (p := 1800000) (q := -1800000) (by omega) (by omega) (by omega) ⟨by omega, by omega, by decide +kernel, .inr (by decide +kernel)⟩ ⟨by omega, by omega, by decide +kernel, .inr (by decide +kernel)⟩
theorem foo_a : fooE 0 0 1800000 1800000 = (0, 0, 0) := by decide +kernel
theorem alt_a : altE 0 0 0 0 1800000 1800000 = (3599999, 3600001, 0) := by
  have e : upM 0 0 0 0 1800000 1800000 = (929887696, 929887697, 0) := by
    unfold upM crE caE awaA
    rw [per_a, foo_a]
    decide +kernel
  unfold altE
  rw [e]
  exact asin_at (x := 929887696) (y := 929887697) (p := 3599999) (q := -3600001) (by omega) (by omega) (by omega) ⟨by omega, by omega, by decide +kernel, .inr (by decide +kernel)⟩ ⟨by omega, by omega, by decide +kernel, .inr (by decide +kernel)⟩
theorem az_a : azE 0 0 0 0 1800000 1800000 = (16200000, 16200000, 0) := by
  unfold azE noM crE saE awaA
  rw [per_a, foo_a]
  decide +kernel
theorem per_b : perE 1800000 1800000 0 0 = (0, 0, 0) := by
  have e : wesE 1800000 1800000 0 0 = (0, 0, 0) := by decide +kernel
  unfold perE
  rw [e]
  exact asin_at (x := 0) (y := 0) (p := 0) (q := 0) (by omega) (by omega) (by omega) ⟨by omega, by omega, by decide +kernel, .inr (by decide +kernel)⟩ ⟨by omega, by omega, by decide +kernel, .inr (by decide +kernel)⟩
theorem foo_b : fooE 1800000 1800000 0 0 = (1799999, 1800001, 0) := by decide +kernel
theorem alt_b : altE 600000 600000 1800000 1800000 0 0 = (4199998, 4200002, 0) := by
  have e : upM 600000 600000 1800000 1800000 0 0 = (1008987161, 1008987376, 0) := by
    unfold upM crE caE awaA
    rw [per_b, foo_b]
    decide +kernel
  unfold altE
  rw [e]
  exact asin_at (x := 1008987161) (y := 1008987376) (p := 4199998) (q := -4200002) (by omega) (by omega) (by omega) ⟨by omega, by omega, by decide +kernel, .inr (by decide +kernel)⟩ ⟨by omega, by omega, by decide +kernel, .inr (by decide +kernel)⟩
theorem dvd_a : dvdM 0 0 0 0 1800000 1800000 = (1800000, 1800000, 0, 0, 0) := by
  rw [dvd_ok (by decide +kernel), per_a, foo_a]
theorem sol_a : solM 0 0 0 0 1800000 1800000 = (3599999, 3600001, 16200000, 16200000, 0) := by
  rw [sol_ok (by decide +kernel), alt_a, az_a]
theorem sol_b : ∃ x y : Int, solM 600000 600000 1800000 1800000 0 0 = (4199998, 4200002, x, y, 0) := by
  refine ⟨(azE 600000 600000 1800000 1800000 0 0).1, (azE 600000 600000 1800000 1800000 0 0).2.1, ?_⟩
  rw [sol_ok (by decide +kernel), alt_b]
def allT (_a _b _c _d _e _f : Int) : Bool := true
noncomputable def book_awake_gives : Book := [(6, eT (fun a b c d e f => twoV (dvdM a b c d e f))), (9, eT (fun a b c d e f => solV (solM a b c d e f)))]
theorem book_awake_gives_ok : BookOk Tryz.prog book_awake_gives := (bookOk_cons (eT_ok dvdM_gives) (bookOk_cons (eT_ok solM_gives) bookOk_nil))
theorem awake_gives_tree  : evF Tryz.prog Es Cs book_awake_gives 20 6 5 ([].map AV.v) [] [] last =
  lt (dvdM 0 0 0 0 1800000 1800000) fun x1 =>
  lt (solM 0 0 0 0 1800000 1800000) fun x2 =>
  lt (solM 600000 600000 1800000 1800000 0 0) fun x3 =>
  cond (x1.2.2.2.2 == 0)
  (cond (decide (x1.1 ≤ 1800000))
   (cond (decide (1800000 ≤ x1.2.1))
    (cond (decide (IntKind.i64.wrap (x1.2.1 - x1.1) ≤ 20))
     (cond (decide (x1.2.2.1 ≤ 0))
      (cond (decide (0 ≤ x1.2.2.2.1))
       (cond (decide (IntKind.i64.wrap (x1.2.2.2.1 - x1.2.2.1) ≤ 20))
        (cond (x2.2.2.2.2 == 0)
         (cond (decide (x2.1 ≤ 3600000))
          (cond (decide (3600000 ≤ x2.2.1))
           (cond (decide (IntKind.i64.wrap (x2.2.1 - x2.1) ≤ 20))
            (cond (decide (x2.2.2.1 ≤ 16200000))
             (cond (decide (16200000 ≤ x2.2.2.2.1))
              (cond (decide (IntKind.i64.wrap (x2.2.2.2.1 - x2.2.2.1) ≤ 20))
               (cond (x3.2.2.2.2 == 0)
                (cond (decide (x3.1 ≤ 4200000))
                 (cond (decide (4200000 ≤ x3.2.1))
                  (some (.v (.bool (decide (IntKind.i64.wrap (x3.2.1 - x3.1) ≤ 20)))))
                  (some (.v (.bool false))))
                 (some (.v (.bool false))))
                (some (.v (.bool false))))
               (some (.v (.bool false))))
              (some (.v (.bool false))))
             (some (.v (.bool false))))
            (some (.v (.bool false))))
           (some (.v (.bool false))))
          (some (.v (.bool false))))
         (some (.v (.bool false))))
        (some (.v (.bool false))))
       (some (.v (.bool false))))
      (some (.v (.bool false))))
     (some (.v (.bool false))))
    (some (.v (.bool false))))
   (some (.v (.bool false))))
  (some (.v (.bool false))) := by kernel_rfl
theorem awake_gives  : Gives Tryz.prog 5 [] (.bool (true)) := by
  refine evF_gives (E := Es) mixed Es_ok Cs_ok book_awake_gives_ok (lim := 20) (d := 6) (nm := []) ?_
  rw [awake_gives_tree]
  obtain ⟨x, y, e⟩ := sol_b
  simp only [lt, dvd_a, sol_a, e]
  rfl
noncomputable def book_agd_any : Book := [(5, e0 (.bool (true))), (6, eT (fun a b c d e f => twoV (dvdM a b c d e f))), (7, eT (fun a b c d e f => .bool (rtriM a b c d e f))), (8, eT (fun a b c d e f => pairsV (rdvdM a b c d e f)))]
theorem book_agd_any_ok : BookOk Tryz.prog book_agd_any := (bookOk_cons (e0_ok awake_gives) (bookOk_cons (eT_ok dvdM_gives) (bookOk_cons (eT_ok rtriM_gives) (bookOk_cons (eT_ok rdvdM_gives) bookOk_nil))))
theorem agd_any_tree (a b c d e f : Int) : evF Tryz.prog Es Cs book_agd_any 20 6 3 ([.agg ⟨[.int .i64 a, .int .i64 b, .int .i64 c, .int .i64 d, .int .i64 e, .int .i64 f]⟩].map AV.v) [] [] last =
  cond (!(true))
  (some (.v (.bool false)))
  (lt (dvdM a b c d e f) fun x1 =>
   cond (!(rtriM a b c d e f))
   (cond (x1.2.2.2.2 == 1)
    (cond ((x1.1 == 0) && ((x1.2.1 == 0) && true))
     (some (.v (.bool ((x1.2.2.1 == 0) && ((x1.2.2.2.1 == 0) && true)))))
     (some (.v (.bool false))))
    (some (.v (.bool false))))
   (lt (rdvdM a b c d e f) fun x2 =>
    cond (x1.2.2.2.2 == 0)
    (cond ((x1.1 == x2.1) && ((x1.2.1 == x2.2.1) && true))
     (some (.v (.bool ((x1.2.2.1 == x2.2.2.1) && ((x1.2.2.2.1 == x2.2.2.2) && true)))))
     (some (.v (.bool false))))
    (some (.v (.bool false))))) := by kernel_rfl
theorem agd_any (a b c d e f : Int) : Gives Tryz.prog 3 [.agg ⟨[.int .i64 a, .int .i64 b, .int .i64 c, .int .i64 d, .int .i64 e, .int .i64 f]⟩] (.bool (allT a b c d e f)) := by
  refine evF_gives (E := Es) mixed Es_ok Cs_ok book_agd_any_ok (lim := 20) (d := 6) (nm := []) ?_
  rw [agd_any_tree a b c d e f]
  simp only [lt, Bool.not_true, cond_false]
  rw [rtri_eq]
  unfold allT
  cases ht : triB a b c d e f with
  | false =>
    rw [(dvd_no ht).1]
    rfl
  | true =>
    rw [dvd_ok ht, (rdvd_ok ht).2]
    dsimp only
    rw [self_eq, self_eq]
    rfl
noncomputable def book_ags_any : Book := [(5, e0 (.bool (true))), (7, eT (fun a b c d e f => .bool (rtriM a b c d e f))), (9, eT (fun a b c d e f => solV (solM a b c d e f))), (10, eT (fun a b c d e f => solP (rsolM a b c d e f)))]
theorem book_ags_any_ok : BookOk Tryz.prog book_ags_any := (bookOk_cons (e0_ok awake_gives) (bookOk_cons (eT_ok rtriM_gives) (bookOk_cons (eT_ok solM_gives) (bookOk_cons (eT_ok rsolM_gives) bookOk_nil))))
theorem ags_any_tree (a b c d e f : Int) : evF Tryz.prog Es Cs book_ags_any 20 6 4 ([.agg ⟨[.int .i64 a, .int .i64 b, .int .i64 c, .int .i64 d, .int .i64 e, .int .i64 f]⟩].map AV.v) [] [] last =
  cond (!(true))
  (some (.v (.bool false)))
  (lt (solM a b c d e f) fun x1 =>
   cond (!(rtriM a b c d e f))
   (cond (x1.2.2.2.2 == 1)
    (some (.v (.bool ((x1.1 == 0) && ((x1.2.1 == 0) && ((x1.2.2.1 == 0) && ((x1.2.2.2.1 == 0) && true)))))))
    (some (.v (.bool false))))
   (cond (x1.2.2.2.2 == 0)
    (lt (rsolM a b c d e f) fun x2 =>
     some (.v (.bool ((x1.1 == x2.1) && ((x1.2.1 == x2.2.1) && ((x1.2.2.1 == x2.2.2.1) && ((x1.2.2.2.1 == x2.2.2.2) && true)))))))
    (some (.v (.bool false))))) := by kernel_rfl
theorem ags_any (a b c d e f : Int) : Gives Tryz.prog 4 [.agg ⟨[.int .i64 a, .int .i64 b, .int .i64 c, .int .i64 d, .int .i64 e, .int .i64 f]⟩] (.bool (allT a b c d e f)) := by
  refine evF_gives (E := Es) mixed Es_ok Cs_ok book_ags_any_ok (lim := 20) (d := 6) (nm := []) ?_
  rw [ags_any_tree a b c d e f]
  simp only [lt, Bool.not_true, cond_false]
  rw [rtri_eq]
  unfold allT
  cases ht : triB a b c d e f with
  | false =>
    rw [(dvd_no ht).2]
    rfl
  | true =>
    rw [sol_ok ht, rsol_ok ht]
    dsimp only
    simp
end Go.Proofs.YtadefgjpkhhffaaGreat

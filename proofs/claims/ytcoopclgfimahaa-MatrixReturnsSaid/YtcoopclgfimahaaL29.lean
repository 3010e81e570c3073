/-
  The examples of chapter 29; MatrixMeets, MatrixParts, MatrixZenith, MatrixReturns answer true.
-/
import Derived.Test.YtcoopclgfimahaaLa
import Derived.Test.YtcoopclgfimahaaHc
import Derived.Test.YtcoopclgfimahaaHp
import Derived.Test.YtcoopclgfimahaaHz
namespace Go.Proofs.Ytcoopclgfimahaa
open Ev

def eS (F : Int → Int → Int → Int → Value) : Ent
  | [.v (.agg ⟨[.int .i64 a, .int .i64 b, .int .i64 c, .int .i64 d]⟩)], [] => some (true, .v (F a b c d), [])
  | _, _ => none
theorem eS_ok {P : Program} {g : FuncId} {F : Int → Int → Int → Int → Value} (h : ∀ a b c d, Gives P g [.agg ⟨[.int .i64 a, .int .i64 b, .int .i64 c, .int .i64 d]⟩] (F a b c d)) (args : List AV) (L : Ev.Loc) (z : Bool) (r : AV) (L' : Ev.Loc) (q : eS F args L = some (z, r, L')) (_ : z = true) : Runs P g args L r L' := by
  unfold eS at q
  split at q
  · cases q
    exact gives_runs (h _ _ _ _)
  · cases q
def ePS (F : Int → Int → Int → Int → Int → Int → Value) : Ent
  | [.v (.agg ⟨[.int .i64 a, .int .i64 b]⟩), .v (.agg ⟨[.int .i64 c, .int .i64 d, .int .i64 e, .int .i64 f]⟩)], [] => some (true, .v (F a b c d e f), [])
  | _, _ => none
theorem ePS_ok {P : Program} {g : FuncId} {F : Int → Int → Int → Int → Int → Int → Value} (h : ∀ a b c d e f, Gives P g [.agg ⟨[.int .i64 a, .int .i64 b]⟩, .agg ⟨[.int .i64 c, .int .i64 d, .int .i64 e, .int .i64 f]⟩] (F a b c d e f)) (args : List AV) (L : Ev.Loc) (z : Bool) (r : AV) (L' : Ev.Loc) (q : ePS F args L = some (z, r, L')) (_ : z = true) : Runs P g args L r L' := by
  unfold ePS at q
  split at q
  · cases q
    exact gives_runs (h _ _ _ _ _ _)
  · cases q
noncomputable def rwithM (a b c d : Int) : Bool :=
  cond (decide (IntKind.i64.wrap (d - c) ≥ 21600000))
  (true)
  (lt (rturnM a b) fun x1 =>
   cond (decide (IntKind.i64.wrap (x1.2 - x1.1) ≥ 21600000))
   (false)
   (cond (rinsM (IntKind.i64.wrap (x1.1 + (-21600000))) (IntKind.i64.wrap (x1.2 + (-21600000))) c d)
    (true)
    (cond (rinsM (IntKind.i64.wrap (x1.1 + 0)) (IntKind.i64.wrap (x1.2 + 0)) c d)
     (true)
     (cond (rinsM (IntKind.i64.wrap (x1.1 + 21600000)) (IntKind.i64.wrap (x1.2 + 21600000)) c d)
      (true)
      (false)))))
noncomputable def book_rwithM_gives : Book := [(31, ePP (fun a b c d => .bool (rinsM a b c d))), (36, eP (fun a b => pairV (rturnM a b).1 (rturnM a b).2))]
theorem book_rwithM_gives_ok : BookOk Try.prog book_rwithM_gives := (bookOk_cons (ePP_ok rinsM_gives) (bookOk_cons (eP_ok rturnM_gives) bookOk_nil))
theorem rwithM_gives_tree (a b c d : Int) : evF Try.prog Es Cs book_rwithM_gives 20 6 32 ([.agg ⟨[.int .i64 a, .int .i64 b]⟩, .agg ⟨[.int .i64 c, .int .i64 d]⟩].map AV.v) [] [] last =
  cond (decide (IntKind.i64.wrap (d - c) ≥ 21600000))
  (some (.v (.bool true)))
  (lt (rturnM a b) fun x1 =>
   cond (decide (IntKind.i64.wrap (x1.2 - x1.1) ≥ 21600000))
   (some (.v (.bool false)))
   (cond (rinsM (IntKind.i64.wrap (x1.1 + (-21600000))) (IntKind.i64.wrap (x1.2 + (-21600000))) c d)
    (some (.v (.bool true)))
    (cond (rinsM (IntKind.i64.wrap (x1.1 + 0)) (IntKind.i64.wrap (x1.2 + 0)) c d)
     (some (.v (.bool true)))
     (cond (rinsM (IntKind.i64.wrap (x1.1 + 21600000)) (IntKind.i64.wrap (x1.2 + 21600000)) c d)
      (some (.v (.bool true)))
      (some (.v (.bool false))))))) := by kernel_rfl
theorem rwithM_gives (a b c d : Int) : Gives Try.prog 32 [.agg ⟨[.int .i64 a, .int .i64 b]⟩, .agg ⟨[.int .i64 c, .int .i64 d]⟩] (.bool (rwithM a b c d)) := by
  refine evF_gives (E := Es) mixed Es_ok Cs_ok book_rwithM_gives_ok (lim := 20) (d := 6) (nm := []) ?_
  rw [rwithM_gives_tree a b c d]
  unfold rwithM
  refine case_cond (fun (r : Bool) => AV.v (.bool (r))) ?_ ?_
  · rfl
  · refine case_lt (fun (r : Bool) => AV.v (.bool (r))) fun _ => ?_
    refine case_cond (fun (r : Bool) => AV.v (.bool (r))) ?_ ?_
    · rfl
    · refine case_cond (fun (r : Bool) => AV.v (.bool (r))) ?_ ?_
      · rfl
      · refine case_cond (fun (r : Bool) => AV.v (.bool (r))) ?_ ?_
        · rfl
        · refine case_cond (fun (r : Bool) => AV.v (.bool (r))) ?_ ?_
          · rfl
          · rfl
noncomputable def rightM (a b c d : Int) : Bool :=
  cond (rlatM a b)
  (cond (rvalM c d)
   (lt (rturnM c d) fun x1 =>
    ((x1.1 == c) && ((x1.2 == d) && true)))
   (false))
  (false)
noncomputable def book_rightM_gives : Book := [(34, eP (fun a b => .bool (rlatM a b))), (35, eP (fun a b => .bool (rvalM a b))), (36, eP (fun a b => pairV (rturnM a b).1 (rturnM a b).2))]
theorem book_rightM_gives_ok : BookOk Try.prog book_rightM_gives := (bookOk_cons (eP_ok rlatM_gives) (bookOk_cons (eP_ok rvalM_gives) (bookOk_cons (eP_ok rturnM_gives) bookOk_nil)))
theorem rightM_gives_tree (a b c d : Int) : evF Try.prog Es Cs book_rightM_gives 20 6 30 ([.agg ⟨[.int .i64 a, .int .i64 b, .int .i64 c, .int .i64 d]⟩].map AV.v) [] [] last =
  cond (rlatM a b)
  (cond (rvalM c d)
   (lt (rturnM c d) fun x1 =>
    some (.v (.bool ((x1.1 == c) && ((x1.2 == d) && true)))))
   (some (.v (.bool false))))
  (some (.v (.bool false))) := by kernel_rfl
theorem rightM_gives (a b c d : Int) : Gives Try.prog 30 [.agg ⟨[.int .i64 a, .int .i64 b, .int .i64 c, .int .i64 d]⟩] (.bool (rightM a b c d)) := by
  refine evF_gives (E := Es) mixed Es_ok Cs_ok book_rightM_gives_ok (lim := 20) (d := 6) (nm := []) ?_
  rw [rightM_gives_tree a b c d]
  unfold rightM
  refine case_cond (fun (r : Bool) => AV.v (.bool (r))) ?_ ?_
  · refine case_cond (fun (r : Bool) => AV.v (.bool (r))) ?_ ?_
    · refine case_lt (fun (r : Bool) => AV.v (.bool (r))) fun _ => ?_
      rfl
    · rfl
  · rfl
open SM TB TA
theorem same (x y : Int) : ((x == x) && ((y == y) && true)) = true := by simp
theorem turn_id {p q : Int} (h0 : 0 ≤ p) (h1 : p < 21600000) (h2 : (p = 0 ∧ q = 21600000) ∨ q < p + 21600000) : turnL p q = p ∧ turnH p q = q := by
  unfold turnL turnH
  rcases h2 with ⟨rfl, rfl⟩ | h2
  · exact ⟨rfl, rfl⟩
  · rw [if_neg (by omega), if_neg (by omega)]
    omega
theorem right_ok {H Z : Int × Int × Int} (h : LatR H) (k : DirR Z) (f : (Z.1 = 0 ∧ Z.2.1 = 21600000) ∨ Z.2.1 < Z.1 + 21600000) : rightM H.1 H.2.1 Z.1 Z.2.1 = true := by
  have t := turn_id k.1 k.2.2.1 f
  unfold rightM
  rw [rlat_eq, rval_eq, lat_mk h.1 h.2.1 h.2.2.1, k.val]
  simp only [lt, cond_true]
  rw [rturn_eq k.val, t.1, t.2, same]
theorem rins_eq (a b c d : Int) : rinsM a b c d = decide (c ≤ a ∧ b ≤ d) := by
  unfold rinsM
  by_cases h : c ≤ a
  · rw [decide_eq_true h, cond_true]
    exact decide_eq_decide.2 (by omega)
  · rw [decide_eq_false h, cond_false]
    exact (decide_eq_false (by omega)).symm
/-- An arc, turned, inside a direction form. -/
theorem with_ok {r s p q k : Int} (hv : avalidB r s = true) (hp : 0 ≤ p ∧ p < 21600000 ∧ p ≤ q ∧ q ≤ p + 21600000) (h : 21600000 ≤ q - p ∨ (s - r < 21600000 ∧ p ≤ r + 21600000 * k ∧ s + 21600000 * k ≤ q)) : rwithM r s p q = true := by
  have b := aval_bd hv
  unfold rwithM
  rw [i64w (x := q - p) (by omega)]
  rcases h with h | ⟨h0, h1, h2⟩
  · rw [decide_eq_true (show q - p ≥ 21600000 by omega)]
    rfl
  · by_cases c : q - p ≥ 21600000
    · rw [decide_eq_true c]
      rfl
    · rw [decide_eq_false c, cond_false, rturn_eq hv]
      have tn := turn_narrow (lo := r) (hi := s) (by omega)
      simp only [lt]
      rw [tn.1, tn.2]
      have m0 := Int.emod_nonneg r (show (21600000 : Int) ≠ 0 by omega)
      have m1 := Int.emod_lt_of_pos r (show (0 : Int) < 21600000 by omega)
      rw [i64w (by omega), decide_eq_false (show ¬ r % 21600000 + (s - r) - r % 21600000 ≥ 21600000 by omega), cond_false]
      have j : p ≤ r % 21600000 + 0 ∧ r % 21600000 + (s - r) + 0 ≤ q ∨ p ≤ r % 21600000 + 21600000 ∧ r % 21600000 + (s - r) + 21600000 ≤ q := by omega
      rw [i64w (x := r % 21600000 + -21600000) (by omega), i64w (x := r % 21600000 + (s - r) + -21600000) (by omega), i64w (x := r % 21600000 + 0) (by omega), i64w (x := r % 21600000 + (s - r) + 0) (by omega), i64w (x := r % 21600000 + 21600000) (by omega), i64w (x := r % 21600000 + (s - r) + 21600000) (by omega), rins_eq, rins_eq, rins_eq]
      rcases j with j | j
      · rw [decide_eq_true j]
        cases decide (p ≤ r % 21600000 + -21600000 ∧ r % 21600000 + (s - r) + -21600000 ≤ q) <;> rfl
      · rw [decide_eq_true j]
        cases decide (p ≤ r % 21600000 + -21600000 ∧ r % 21600000 + (s - r) + -21600000 ≤ q) <;> cases decide (p ≤ r % 21600000 + 0 ∧ r % 21600000 + (s - r) + 0 ≤ q) <;> rfl
theorem asin_z : asinR 0 0 = (0, 0, 0) := by
  have e1 : asn 0 = 0 := asn_eq (by omega) ⟨by omega, by omega, by decide +kernel, .inr (by decide +kernel)⟩
  unfold asinR
  rw [val_mk (a := 0) (b := 0) (by omega) (by omega) (by omega)]
  simp only [Bool.true_eq_false, if_false]
  have m1 : max (0 : Int) (-1073741824) = 0 := by omega
  have m2 : -min (0 : Int) 1073741824 = 0 := by omega
  rw [m1, m2, if_pos (by omega), e1]
  rfl
theorem bak_x : bakM 0 0 1800000 1800000 5400000 5400000 = (0, 0, 17999999, 18000001, 0) := by
  have b := (bak_ok (a := 0) (b := 0) (c := 1800000) (d := 1800000) (e := 5400000) (f := 5400000) (by decide +kernel) (by decide +kernel) (by decide +kernel)).1
  have u : bupE 0 0 1800000 1800000 5400000 5400000 = (0, 0, 0) := by decide +kernel
  have l : blhE 0 0 1800000 1800000 5400000 5400000 = (17999999, 18000001, 0) := by decide +kernel
  rw [b, l]
  unfold bdeE
  rw [u]
  dsimp only
  rw [asin_z]
/-- A number of an arc, picked by a remainder. -/
def pk (a b u : Int) : Int := IntKind.i64.wrap (a + Int.tmod (IntKind.i64.wrap u) (IntKind.i64.wrap (IntKind.i64.wrap (b - a) + 1)))
theorem pk_ok {a b u : Int} (h1 : -1099511627776 ≤ a) (h2 : a ≤ b) (h3 : b ≤ 1099511627776) (h4 : 0 ≤ u) (h5 : u ≤ 4294967295) : (IntKind.i64.wrap (IntKind.i64.wrap (b - a) + 1) == 0) = false ∧ a ≤ pk a b u ∧ pk a b u ≤ b := by
  unfold pk
  rw [i64w (x := b - a) (by omega), i64w (x := b - a + 1) (by omega), i64w (x := u) (by omega)]
  have m0 := Int.tmod_nonneg (b - a + 1) h4
  have m1 := Int.tmod_lt_of_pos u (show 0 < b - a + 1 by omega)
  rw [i64w (by omega)]
  exact ⟨beq_eq_false_iff_ne.2 (by omega), by omega, by omega⟩
noncomputable def book_awake29_gives : Book := [(29, eT (fun a b c d e f => solV (msolM a b c d e f))), (33, ePS (fun a b c d e f => twoV (bakM a b c d e f)))]
theorem book_awake29_gives_ok : BookOk Try.prog book_awake29_gives := (bookOk_cons (eT_ok msolM_gives) (bookOk_cons (ePS_ok bakM_gives) bookOk_nil))
theorem awake29_gives_tree  : evF Try.prog Es Cs book_awake29_gives 20 6 26 ([].map AV.v) [] [] last =
  lt (msolM 2700000 2700000 2700000 2700000 0 0) fun x1 =>
  lt (bakM 0 0 1800000 1800000 5400000 5400000) fun x2 =>
  cond (x1.2.2.2.2 == 0)
  (cond (decide (x1.1 ≤ 5400000))
   (cond (decide (x1.2.1 ≥ 5400000))
    (cond (decide (IntKind.i64.wrap (x1.2.1 - x1.1) ≤ 4))
     (cond (x2.2.2.2.2 == 0)
      (cond ((x2.1 == 0) && ((x2.2.1 == 0) && true))
       (cond (decide (x2.2.2.1 ≤ 18000000))
        (cond (decide (x2.2.2.2.1 ≥ 18000000))
         (some (.v (.bool (decide (IntKind.i64.wrap (x2.2.2.2.1 - x2.2.2.1) ≤ 4)))))
         (some (.v (.bool false))))
        (some (.v (.bool false))))
       (some (.v (.bool false))))
      (some (.v (.bool false))))
     (some (.v (.bool false))))
    (some (.v (.bool false))))
   (some (.v (.bool false))))
  (some (.v (.bool false))) := by kernel_rfl
theorem awake29_gives  : Gives Try.prog 26 [] (.bool (true)) := by
  refine evF_gives (E := Es) mixed Es_ok Cs_ok book_awake29_gives_ok (lim := 20) (d := 6) (nm := []) ?_
  rw [awake29_gives_tree]
  have ht : triB 2700000 2700000 2700000 2700000 0 0 = true := by decide +kernel
  have z := malt_zen ht
  have n := malt_narrow ht
  have L := (matrix_ok ht).2.lat
  simp only [lt]
  rw [bak_x, (matrix_ok ht).1]
  dsimp only
  obtain ⟨q1, q2, q3, q4⟩ := L
  rw [i64w (by omega), decide_eq_true z.1, decide_eq_true (show (maltE 2700000 2700000 2700000 2700000 0 0).2.1 ≥ 5400000 from z.2), decide_eq_true n]
  rfl
noncomputable def book_mme_any : Book := [(15, eT (fun a b c d e f => .bool (rtriM a b c d e f))), (26, e0 (.bool (true))), (29, eT (fun a b c d e f => solV (msolM a b c d e f))), (30, eS (fun a b c d => .bool (rightM a b c d))), (37, eT (fun a b c d e f => solV (csolM a b c d e f))), (39, ePP (fun a b c d => boolV (agreeR a b c d))), (40, ePP (fun a b c d => arcV (ameetR a b c d)))]
theorem book_mme_any_ok : BookOk Try.prog book_mme_any := (bookOk_cons (eT_ok rtriM_gives) (bookOk_cons (e0_ok awake29_gives) (bookOk_cons (eT_ok msolM_gives) (bookOk_cons (eS_ok rightM_gives) (bookOk_cons (eT_ok csolM_gives) (bookOk_cons (ePP_ok agreeR_gives) (bookOk_cons (ePP_ok ameetR_gives) bookOk_nil)))))))
theorem mme_any_tree (a b c d e f : Int) : evF Try.prog Es Cs book_mme_any 20 6 11 ([.agg ⟨[.int .i64 a, .int .i64 b, .int .i64 c, .int .i64 d, .int .i64 e, .int .i64 f]⟩].map AV.v) [] [] last =
  cond (!(true))
  (some (.v (.bool false)))
  (cond (!(rtriM a b c d e f))
   (some (.v (.bool true)))
   (lt (msolM a b c d e f) fun x1 =>
    lt (csolM a b c d e f) fun x2 =>
    cond (x1.2.2.2.2 != 0)
    (some (.v (.bool false)))
    (cond (x2.2.2.2.2 != 0)
     (some (.v (.bool false)))
     (cond (!(rightM x1.1 x1.2.1 x1.2.2.1 x1.2.2.2.1))
      (some (.v (.bool false)))
      (cond (!(rightM x2.1 x2.2.1 x2.2.2.1 x2.2.2.2.1))
       (some (.v (.bool false)))
       (lt (ameetR x1.1 x1.2.1 x2.1 x2.2.1) fun x3 =>
        lt (agreeR x1.2.2.1 x1.2.2.2.1 x2.2.2.1 x2.2.2.2.1) fun x4 =>
        cond (x3.2.2 == 0)
        (cond (x4.2 == 0)
         (some (.v (.bool x4.1)))
         (some (.v (.bool false))))
        (some (.v (.bool false))))))))) := by kernel_rfl
theorem mme_any (a b c d e f : Int) : Gives Try.prog 11 [.agg ⟨[.int .i64 a, .int .i64 b, .int .i64 c, .int .i64 d, .int .i64 e, .int .i64 f]⟩] (.bool (allT a b c d e f)) := by
  refine evF_gives (E := Es) mixed Es_ok Cs_ok book_mme_any_ok (lim := 20) (d := 6) (nm := []) ?_
  rw [mme_any_tree a b c d e f]
  simp only [lt, Bool.not_true, cond_false]
  rw [rtri_eq]
  unfold allT
  cases ht : triB a b c d e f with
  | false => rfl
  | true =>
    obtain ⟨H, Z, ec, _, hc⟩ := cosine_hold ht
    obtain ⟨em, hm⟩ := matrix_ok ht
    obtain ⟨p1, p2, p3⟩ := tri_point ht
    have m := hm.meets hc p1 p2 p3 p1 p2 p3
    rw [em, ec]
    dsimp only
    rw [right_ok hm.lat hm.dir hm.form, right_ok hc.lat hc.dir hc.form, m.2.2.1, m.2.2.2]
    rfl
noncomputable def book_mpa_any : Book := [(15, eT (fun a b c d e f => .bool (rtriM a b c d e f))), (26, e0 (.bool (true))), (29, eT (fun a b c d e f => solV (msolM a b c d e f))), (30, eS (fun a b c d => .bool (rightM a b c d))), (31, ePP (fun a b c d => .bool (rinsM a b c d))), (32, ePP (fun a b c d => .bool (rwithM a b c d)))]
theorem book_mpa_any_ok : BookOk Try.prog book_mpa_any := (bookOk_cons (eT_ok rtriM_gives) (bookOk_cons (e0_ok awake29_gives) (bookOk_cons (eT_ok msolM_gives) (bookOk_cons (eS_ok rightM_gives) (bookOk_cons (ePP_ok rinsM_gives) (bookOk_cons (ePP_ok rwithM_gives) bookOk_nil))))))
theorem mpa_any_tree (a b c d e f u v w : Int) : evF Try.prog Es Cs book_mpa_any 20 6 7 ([.agg ⟨[.int .i64 a, .int .i64 b, .int .i64 c, .int .i64 d, .int .i64 e, .int .i64 f]⟩, .int .u32 u, .int .u32 v, .int .u32 w].map AV.v) [] [] last =
  cond (!(true))
  (some (.v (.bool false)))
  (cond (!(rtriM a b c d e f))
   (some (.v (.bool true)))
   (lt (msolM a b c d e f) fun x1 =>
    cond (IntKind.i64.wrap ((IntKind.i64.wrap (b - a)) + 1) == 0)
    (none)
    (cond (IntKind.i64.wrap ((IntKind.i64.wrap (d - c)) + 1) == 0)
     (none)
     (cond (IntKind.i64.wrap ((IntKind.i64.wrap (f - e)) + 1) == 0)
      (none)
      (lt (msolM (IntKind.i64.wrap (a + (Int.tmod (IntKind.i64.wrap (u)) (IntKind.i64.wrap ((IntKind.i64.wrap (b - a)) + 1))))) (IntKind.i64.wrap (a + (Int.tmod (IntKind.i64.wrap (u)) (IntKind.i64.wrap ((IntKind.i64.wrap (b - a)) + 1))))) (IntKind.i64.wrap (c + (Int.tmod (IntKind.i64.wrap (v)) (IntKind.i64.wrap ((IntKind.i64.wrap (d - c)) + 1))))) (IntKind.i64.wrap (c + (Int.tmod (IntKind.i64.wrap (v)) (IntKind.i64.wrap ((IntKind.i64.wrap (d - c)) + 1))))) (IntKind.i64.wrap (e + (Int.tmod (IntKind.i64.wrap (w)) (IntKind.i64.wrap ((IntKind.i64.wrap (f - e)) + 1))))) (IntKind.i64.wrap (e + (Int.tmod (IntKind.i64.wrap (w)) (IntKind.i64.wrap ((IntKind.i64.wrap (f - e)) + 1)))))) fun x2 =>
       cond (x1.2.2.2.2 == 0)
       (cond (x2.2.2.2.2 == 0)
        (cond (rightM x1.1 x1.2.1 x1.2.2.1 x1.2.2.2.1)
         (cond (rightM x2.1 x2.2.1 x2.2.2.1 x2.2.2.2.1)
          (cond (rinsM x2.1 x2.2.1 x1.1 x1.2.1)
           (some (.v (.bool (rwithM x2.2.2.1 x2.2.2.2.1 x1.2.2.1 x1.2.2.2.1))))
           (some (.v (.bool false))))
          (some (.v (.bool false))))
         (some (.v (.bool false))))
        (some (.v (.bool false))))
       (some (.v (.bool false)))))))) := by kernel_rfl
theorem mpa_any (a b c d e f u v w : Int) (hu : 0 ≤ u ∧ u ≤ 4294967295) (hv : 0 ≤ v ∧ v ≤ 4294967295) (hw : 0 ≤ w ∧ w ≤ 4294967295) : Gives Try.prog 7 [.agg ⟨[.int .i64 a, .int .i64 b, .int .i64 c, .int .i64 d, .int .i64 e, .int .i64 f]⟩, .int .u32 u, .int .u32 v, .int .u32 w] (.bool true) := by
  refine evF_gives (E := Es) mixed Es_ok Cs_ok book_mpa_any_ok (lim := 20) (d := 6) (nm := []) ?_
  rw [mpa_any_tree]
  simp only [lt, Bool.not_true, cond_false]
  rw [rtri_eq]
  cases ht : triB a b c d e f with
  | false => rfl
  | true =>
    obtain ⟨h1, h2, h3⟩ := tri_bd ht
    have l1 := lat_bd h1
    have l2 := lat_bd h2
    have l3 := aval_bd h3
    have k1 := pk_ok (a := a) (b := b) (u := u) (by omega) (by omega) (by omega) (by omega) (by omega)
    have k3 := pk_ok (a := c) (b := d) (u := v) (by omega) (by omega) (by omega) (by omega) (by omega)
    have k5 := pk_ok (a := e) (b := f) (u := w) (by omega) (by omega) (by omega) (by omega) (by omega)
    have d1 : IntKind.i64.wrap (a + Int.tmod (IntKind.i64.wrap u) (IntKind.i64.wrap (IntKind.i64.wrap (b - a) + 1))) = pk a b u := rfl
    have d3 : IntKind.i64.wrap (c + Int.tmod (IntKind.i64.wrap v) (IntKind.i64.wrap (IntKind.i64.wrap (d - c) + 1))) = pk c d v := rfl
    have d5 : IntKind.i64.wrap (e + Int.tmod (IntKind.i64.wrap w) (IntKind.i64.wrap (IntKind.i64.wrap (f - e) + 1))) = pk e f w := rfl
    rw [d1, d3, d5, k1.1, k3.1, k5.1]
    have b1 := k1.2
    have b3 := k3.2
    have b5 := k5.2
    clear d1 d3 d5 k1 k3 k5
    generalize pk e f w = t' at *
    generalize pk c d v = y' at *
    generalize pk a b u = x' at *
    obtain ⟨h', p1, p2, p3⟩ := mpart_ok (a' := x') (b' := x') (c' := y') (d' := y') (e' := t') (f' := t') ht ⟨by omega, by omega, by omega⟩ ⟨by omega, by omega, by omega⟩ ⟨by omega, by omega, by omega⟩
    obtain ⟨e1, m1⟩ := matrix_ok ht
    obtain ⟨e2, m2⟩ := matrix_ok h'
    rw [e1, e2]
    dsimp only
    rw [right_ok m1.lat m1.dir m1.form, right_ok m2.lat m2.dir m2.form, rins_eq, decide_eq_true ⟨p1, p2⟩]
    have q := m2.form
    have r1 := m1.dir
    have r2 := m2.dir
    obtain ⟨a1, a2, a3, a4, _⟩ := r1
    obtain ⟨c1, c2, c3, c4, _⟩ := r2
    have w' : rwithM (maziE x' x' y' y' t' t').1 (maziE x' x' y' y' t' t').2.1 (maziE a b c d e f).1 (maziE a b c d e f).2.1 = true := by
      rcases p3 with p3 | p3 | p3
      · exact with_ok (k := 0) m2.dir.val ⟨a1, a3, a2, a4⟩ (.inl (by omega))
      · by_cases c5 : 21600000 ≤ (maziE a b c d e f).2.1 - (maziE a b c d e f).1
        · exact with_ok (k := 0) m2.dir.val ⟨a1, a3, a2, a4⟩ (.inl c5)
        · exact with_ok (k := 1) m2.dir.val ⟨a1, a3, a2, a4⟩ (.inr ⟨by omega, by omega, by omega⟩)
      · by_cases c5 : 21600000 ≤ (maziE a b c d e f).2.1 - (maziE a b c d e f).1
        · exact with_ok (k := 0) m2.dir.val ⟨a1, a3, a2, a4⟩ (.inl c5)
        · exact with_ok (k := 0) m2.dir.val ⟨a1, a3, a2, a4⟩ (.inr ⟨by omega, by omega, by omega⟩)
    rw [w']
    rfl
noncomputable def book_mze_any : Book := [(26, e0 (.bool (true))), (29, eT (fun a b c d e f => solV (msolM a b c d e f))), (30, eS (fun a b c d => .bool (rightM a b c d))), (31, ePP (fun a b c d => .bool (rinsM a b c d)))]
theorem book_mze_any_ok : BookOk Try.prog book_mze_any := (bookOk_cons (e0_ok awake29_gives) (bookOk_cons (eT_ok msolM_gives) (bookOk_cons (eS_ok rightM_gives) (bookOk_cons (ePP_ok rinsM_gives) bookOk_nil))))
theorem mze_any_tree (a b c : Int) : evF Try.prog Es Cs book_mze_any 20 6 8 ([.int .i64 a, .int .i64 b, .int .i64 c].map AV.v) [] [] last =
  cond (!(true))
  (some (.v (.bool false)))
  (cond (decide (a < (-5400000)))
   (some (.v (.bool true)))
   (cond (decide (a > 5400000))
    (some (.v (.bool true)))
    (cond (decide (b < (-5400000)))
     (some (.v (.bool true)))
     (cond (decide (b > 5400000))
      (some (.v (.bool true)))
      (cond (decide (c < (-1099511627776)))
       (some (.v (.bool true)))
       (cond (decide (c > 1099511627776))
        (some (.v (.bool true)))
        (lt (msolM a a b b c c) fun x1 =>
         lt (msolM a a a a 0 0) fun x2 =>
         cond (x1.2.2.2.2 == 0)
         (cond (x2.2.2.2.2 == 0)
          (cond (rightM x1.1 x1.2.1 x1.2.2.1 x1.2.2.2.1)
           (cond (rightM x2.1 x2.2.1 x2.2.2.1 x2.2.2.2.1)
            (cond (decide (IntKind.i64.wrap (x1.2.1 - x1.1) ≤ 4))
             (cond (rinsM 5400000 5400000 x2.1 x2.2.1)
              (some (.v (.bool (decide (IntKind.i64.wrap (x2.2.1 - x2.1) ≤ 4)))))
              (some (.v (.bool false))))
             (some (.v (.bool false))))
            (some (.v (.bool false))))
           (some (.v (.bool false))))
          (some (.v (.bool false))))
         (some (.v (.bool false)))))))))) := by kernel_rfl
theorem mze_any (a b c : Int)  : Gives Try.prog 8 [.int .i64 a, .int .i64 b, .int .i64 c] (.bool true) := by
  refine evF_gives (E := Es) mixed Es_ok Cs_ok book_mze_any_ok (lim := 20) (d := 6) (nm := []) ?_
  rw [mze_any_tree]
  simp only [lt, Bool.not_true, cond_false]
  by_cases c1 : a < -5400000
  · rw [decide_eq_true c1]; rfl
  by_cases c2 : a > 5400000
  · rw [decide_eq_false c1, decide_eq_true c2]; rfl
  by_cases c3 : b < -5400000
  · rw [decide_eq_false c1, decide_eq_false c2, decide_eq_true c3]; rfl
  by_cases c4 : b > 5400000
  · rw [decide_eq_false c1, decide_eq_false c2, decide_eq_false c3, decide_eq_true c4]; rfl
  by_cases c5 : c < -1099511627776
  · rw [decide_eq_false c1, decide_eq_false c2, decide_eq_false c3, decide_eq_false c4, decide_eq_true c5]; rfl
  by_cases c6 : c > 1099511627776
  · rw [decide_eq_false c1, decide_eq_false c2, decide_eq_false c3, decide_eq_false c4, decide_eq_false c5, decide_eq_true c6]; rfl
  rw [decide_eq_false c1, decide_eq_false c2, decide_eq_false c3, decide_eq_false c4, decide_eq_false c5, decide_eq_false c6]
  have t1 : triB a a b b c c = true := tri_mk (lat_mk (by omega) (by omega) (by omega)) (lat_mk (by omega) (by omega) (by omega)) (avalid_mk (by omega) (by omega) (by omega))
  have t2 : triB a a a a 0 0 = true := tri_mk (lat_mk (by omega) (by omega) (by omega)) (lat_mk (by omega) (by omega) (by omega)) (avalid_mk (by omega) (by omega) (by omega))
  obtain ⟨e1, m1⟩ := matrix_ok t1
  obtain ⟨e2, m2⟩ := matrix_ok t2
  have z := malt_zen t2
  have n1 := malt_narrow t1
  have n2 := malt_narrow t2
  rw [e1, e2]
  dsimp only
  have q1 := m1.lat
  have q2 := m2.lat
  unfold LatR at q1 q2
  rw [right_ok m1.lat m1.dir m1.form, right_ok m2.lat m2.dir m2.form, rins_eq, decide_eq_true z, i64w (by omega), i64w (by omega), decide_eq_true n1, decide_eq_true n2]
  rfl
noncomputable def book_mre_any : Book := [(15, eT (fun a b c d e f => .bool (rtriM a b c d e f))), (25, eP (fun a b => arcV (turnR a b))), (26, e0 (.bool (true))), (29, eT (fun a b c d e f => solV (msolM a b c d e f))), (30, eS (fun a b c d => .bool (rightM a b c d))), (31, ePP (fun a b c d => .bool (rinsM a b c d))), (32, ePP (fun a b c d => .bool (rwithM a b c d))), (33, ePS (fun a b c d e f => twoV (bakM a b c d e f))), (34, eP (fun a b => .bool (rlatM a b))), (35, eP (fun a b => .bool (rvalM a b))), (36, eP (fun a b => pairV (rturnM a b).1 (rturnM a b).2))]
theorem book_mre_any_ok : BookOk Try.prog book_mre_any := (bookOk_cons (eT_ok rtriM_gives) (bookOk_cons (eP_ok turnR_gives) (bookOk_cons (e0_ok awake29_gives) (bookOk_cons (eT_ok msolM_gives) (bookOk_cons (eS_ok rightM_gives) (bookOk_cons (ePP_ok rinsM_gives) (bookOk_cons (ePP_ok rwithM_gives) (bookOk_cons (ePS_ok bakM_gives) (bookOk_cons (eP_ok rlatM_gives) (bookOk_cons (eP_ok rvalM_gives) (bookOk_cons (eP_ok rturnM_gives) bookOk_nil)))))))))))
theorem mre_any_tree (a b c d e f : Int) : evF Try.prog Es Cs book_mre_any 20 6 9 ([.agg ⟨[.int .i64 a, .int .i64 b, .int .i64 c, .int .i64 d, .int .i64 e, .int .i64 f]⟩].map AV.v) [] [] last =
  cond (!(true))
  (some (.v (.bool false)))
  (cond (!(rtriM a b c d e f))
   (some (.v (.bool true)))
   (lt (msolM a b c d e f) fun x1 =>
    cond (x1.2.2.2.2 != 0)
    (some (.v (.bool false)))
    (cond (!(rightM x1.1 x1.2.1 x1.2.2.1 x1.2.2.2.1))
     (some (.v (.bool false)))
     (lt (bakM a b x1.1 x1.2.1 x1.2.2.1 x1.2.2.2.1) fun x2 =>
      cond (x2.2.2.2.2 != 0)
      (some (.v (.bool false)))
      (cond (!(rlatM x2.1 x2.2.1))
       (some (.v (.bool false)))
       (cond (!(rvalM x2.2.2.1 x2.2.2.2.1))
        (some (.v (.bool false)))
        (lt (rturnM x2.2.2.1 x2.2.2.2.1) fun x3 =>
         cond (!((x3.1 == x2.2.2.1) && ((x3.2 == x2.2.2.2.1) && true)))
         (some (.v (.bool false)))
         (lt (turnR e f) fun x4 =>
          cond (x4.2.2 == 0)
          (cond (rinsM c d x2.1 x2.2.1)
           (some (.v (.bool (rwithM x4.1 x4.2.1 x2.2.2.1 x2.2.2.2.1))))
           (some (.v (.bool false))))
          (some (.v (.bool false))))))))))) := by kernel_rfl
theorem mre_any (a b c d e f : Int) : Gives Try.prog 9 [.agg ⟨[.int .i64 a, .int .i64 b, .int .i64 c, .int .i64 d, .int .i64 e, .int .i64 f]⟩] (.bool (allT a b c d e f)) := by
  refine evF_gives (E := Es) mixed Es_ok Cs_ok book_mre_any_ok (lim := 20) (d := 6) (nm := []) ?_
  rw [mre_any_tree a b c d e f]
  simp only [lt, Bool.not_true, cond_false]
  rw [rtri_eq]
  unfold allT
  cases ht : triB a b c d e f with
  | false => rfl
  | true =>
    obtain ⟨em, hm⟩ := matrix_ok ht
    obtain ⟨h1, h2, h3⟩ := tri_bd ht
    have l1 := lat_bd h1
    have l2 := lat_bd h2
    have l3 := aval_bd h3
    have hl : latB (maltE a b c d e f).1 (maltE a b c d e f).2.1 = true := lat_mk hm.lat.1 hm.lat.2.1 hm.lat.2.2.1
    obtain ⟨eb, bL, bD⟩ := bak_ok h1 hl hm.dir.val
    have bf := blh_form h1 hl hm.dir.val
    obtain ⟨p1, p2, p3⟩ := tri_point ht
    have dB4 := lvB.2.2.2.2.2.2.2.2.2.1
    have dB0 := lvB.2.2.2.2.2.2.1
    -- every declination, every hour angle
    have key : ∀ y t : Rat, Hs 0 c d y → Hs 0 e f t → Hs dB (bdeE a b (maltE a b c d e f).1 (maltE a b c d e f).2.1 (maziE a b c d e f).1 (maziE a b c d e f).2.1).1 (bdeE a b (maltE a b c d e f).1 (maltE a b c d e f).2.1 (maziE a b c d e f).1 (maziE a b c d e f).2.1).2.1 y ∧ Dr dB (blhE a b (maltE a b c d e f).1 (maltE a b c d e f).2.1 (maziE a b c d e f).1 (maziE a b c d e f).2.1).1 (blhE a b (maltE a b c d e f).1 (maltE a b c d e f).2.1 (maziE a b c d e f).1 (maziE a b c d e f).2.1).2.1 t := fun y t hy ht' => by
      obtain ⟨h', z', s⟩ := sees (a : Rat) y t
      have y0 := le_c l2.2.1
      have y1 := le_c l2.2.2.2
      rw [show ((-5400000 : Int) : Rat) = -5400000 by rfl] at y0
      rw [show ((5400000 : Int) : Rat) = 5400000 by rfl] at y1
      have k := back_hold h1 hl hm.dir.val p1 (hm.up a y t p1 hy ht' h' z' s) (hm.az a y t p1 hy ht' h' z' s) s (by unfold Hs at hy; grind) (by unfold Hs at hy; grind)
      exact ⟨k.2.1, k.2.2.2⟩
    rw [em]
    dsimp only
    rw [right_ok hm.lat hm.dir hm.form, eb]
    dsimp only
    have k1 := (key c e p2 p3).1
    have k2 := (key d e (Hs.at l2.2.2.1 (Int.le_refl d)) p3).1
    have i1 := of_c (a := (bdeE a b (maltE a b c d e f).1 (maltE a b c d e f).2.1 (maziE a b c d e f).1 (maziE a b c d e f).2.1).1) (b := c) (e := dB) (by unfold Hs at k1; grind) (by grind)
    have i2 := of_c (a := d) (b := (bdeE a b (maltE a b c d e f).1 (maltE a b c d e f).2.1 (maziE a b c d e f).1 (maziE a b c d e f).2.1).2.1) (e := dB) (by unfold Hs at k2; grind) (by grind)
    have tn := turn_id bD.1 bD.2.2.1 bf
    have vt : avalidB (turnL e f) (turnH e f) = true := by
      unfold turnL turnH
      have m0 := Int.emod_nonneg e (show (21600000 : Int) ≠ 0 by omega)
      have m1 := Int.emod_lt_of_pos e (show (0 : Int) < 21600000 by omega)
      split <;> exact avalid_mk (by omega) (by omega) (by omega)
    have wi : rwithM (turnL e f) (turnH e f) (blhE a b (maltE a b c d e f).1 (maltE a b c d e f).2.1 (maziE a b c d e f).1 (maziE a b c d e f).2.1).1 (blhE a b (maltE a b c d e f).1 (maltE a b c d e f).2.1 (maziE a b c d e f).1 (maziE a b c d e f).2.1).2.1 = true := by
      by_cases c5 : 21600000 ≤ (blhE a b (maltE a b c d e f).1 (maltE a b c d e f).2.1 (maziE a b c d e f).1 (maziE a b c d e f).2.1).2.1 - (blhE a b (maltE a b c d e f).1 (maltE a b c d e f).2.1 (maziE a b c d e f).1 (maziE a b c d e f).2.1).1
      · exact with_ok (k := 0) vt ⟨bD.1, bD.2.2.1, bD.2.1, bD.2.2.2.1⟩ (.inl c5)
      · obtain ⟨k, s1, s2⟩ := shift_in dB4 l3.2.1 (by omega) (fun t ht' => (key c t p2 ht').2)
        have tn := turn_narrow (lo := e) (hi := f) (by omega)
        rw [tn.1, tn.2] at vt ⊢
        obtain ⟨j, hj⟩ : ∃ j : Int, e % 21600000 = e + 21600000 * j := ⟨-(e / 21600000), by omega⟩
        exact with_ok (k := k - j) vt ⟨bD.1, bD.2.2.1, bD.2.1, bD.2.2.2.1⟩ (.inr ⟨by omega, by omega, by omega⟩)
    have te : turnR e f = (turnL e f, turnH e f, 0) := by
      unfold turnR
      rw [h3]
      rfl
    rw [rlat_eq, rval_eq, lat_mk bL.1 bL.2.1 bL.2.2.1, bD.val, rturn_eq bD.val, tn.1, tn.2, same, te]
    dsimp only
    rw [rins_eq, decide_eq_true ⟨i1, i2⟩, wi]
    rfl
end Go.Proofs.Ytcoopclgfimahaa

/-
  CrossingExchanged answers true.
-/
import Derived.Test.YtkjnheahaimpoaaGreatL36h
namespace Go.Proofs.YtkjnheahaimpoaaGreat
open Ev

open SM TB TA
open Ev (lt keepE)
theorem ner_or {a b c d e f u v w x y z i j : Int} :
    (vpntM i j = false ∧ xnerM a b c d e f u v w x y z i j = (0, 0, 0, 0, 1)) ∨ (vpntM i j = true ∧
      (∀ k : Int, k ≠ 0 → xcrsM a b c d e f u v w x y z = (0, 0, 0, 0, 0, 0, 0, 0, k) → xnerM a b c d e f u v w x y z i j = (0, 0, 0, 0, k)) ∧
      (∀ A B L R A' B' L' R' : Int, latB A B = true → LonP L R → latB A' B' = true → LonP L' R' → xcrsM a b c d e f u v w x y z = (A, B, L, R, A', B', L', R', 0) →
        xnerM a b c d e f u v w x y z i j = (A, B, L, R, 0) ∨ xnerM a b c d e f u v w x y z i j = (A', B', L', R', 0) ∨ xnerM a b c d e f u v w x y z i j = (0, 0, 0, 0, 24))) := by
  cases hv : vpntM i j with
  | false =>
    left
    unfold xnerM
    rw [hv]
    exact ⟨rfl, rfl⟩
  | true =>
    right
    obtain ⟨i0, i1, j0, j1⟩ := vpnt_bd hv
    have li : latB i i = true := lat_mk i0 (Int.le_refl i) i1
    refine ⟨rfl, fun k hk ex => ?_, fun A B L R A' B' L' R' l1 k1 l2 k2 ex => ?_⟩
    · unfold xnerM
      rw [hv, ex]
      simp only [lt, Bool.not_true, cond_false]
      rw [bne_iff_ne.2 hk]
      rfl
    · have tr : ∀ P Q S T : Int, LonP S T → xtriM P Q S T i i j j 0 0 = (P, Q, i, i, S - j, T - j, 0) := fun P Q S T h => by
        have b := lonP_bd h
        unfold xtriM
        rw [asub_ok (a := S) (b := T) (c := j) (d := j) (by omega) (by omega) (by omega) (by omega) (Int.le_refl _) (by omega)]
        rfl
      have b1 := lonP_bd k1
      have b2 := lonP_bd k2
      obtain ⟨_, p2, _, p4, _⟩ := csol_eq (tri_mk l1 li (avalid_mk (a := L - j) (b := R - j) (by omega) (by omega) (by omega)))
      obtain ⟨_, q2, _, q4, _⟩ := csol_eq (tri_mk l2 li (avalid_mk (a := L' - j) (b := R' - j) (by omega) (by omega) (by omega)))
      unfold xnerM
      rw [hv, ex]
      simp only [lt, Bool.not_true, cond_false]
      rw [z0', cond_false, tr A B L R k1, tr A' B' L' R' k2]
      dsimp only
      rw [z0', cond_false, cond_false, p4, q4, p2.2.2.2, q2.2.2.2, z0', cond_false, cond_false]
      generalize asinR (cupE A B i i (L - j) (R - j)).1 (cupE A B i i (L - j) (R - j)).2.1 = H1
      generalize asinR (cupE A' B' i i (L' - j) (R' - j)).1 (cupE A' B' i i (L' - j) (R' - j)).2.1 = H2
      by_cases g1 : H1.1 > H2.2.1
      · rw [decide_eq_true g1]
        exact .inl rfl
      · rw [decide_eq_false g1, cond_false]
        by_cases g2 : H2.1 > H1.2.1
        · rw [decide_eq_true g2]
          exact .inr (.inl rfl)
        · rw [decide_eq_false g2]
          exact .inr (.inr rfl)
theorem has_tt {A B L R A' B' L' R' x y : Int} (h1 : (pconM A B L R x y).2 = 0) (h2 : (pconM A' B' L' R' x y).2 = 0) (h : (pconM A B L R x y).1 = true ∨ (pconM A' B' L' R' x y).1 = true) : hasM A B L R A' B' L' R' x y = (true, true) := by
  unfold hasM
  simp only [lt]
  rw [h1, h2]
  rcases h with h | h
  · rw [h]; rfl
  · rw [h]
    cases (pconM A B L R x y).1 <;> rfl
theorem same4 (A B C D : Int) : ((A == A) && ((B == B) && ((C == C) && ((D == D) && true)))) = true := by simp
def eTTPif (p : Int → Int → Int → Int → Int → Int → Int → Int → Int → Int → Int → Int → Int → Int → Bool) (F : Int → Int → Int → Int → Int → Int → Int → Int → Int → Int → Int → Int → Int → Int → Value) : Ent
  | [.v (.agg ⟨[.int .i64 a, .int .i64 b, .int .i64 c, .int .i64 d, .int .i64 e, .int .i64 f]⟩), .v (.agg ⟨[.int .i64 u, .int .i64 v, .int .i64 w, .int .i64 x, .int .i64 y, .int .i64 z]⟩), .v (.agg ⟨[.int .i64 i, .int .i64 j]⟩)], [] => some (p a b c d e f u v w x y z i j, .v (F a b c d e f u v w x y z i j), [])
  | _, _ => none
theorem eTTPif_ok {P : Program} {g : FuncId} {p : Int → Int → Int → Int → Int → Int → Int → Int → Int → Int → Int → Int → Int → Int → Bool} {F : Int → Int → Int → Int → Int → Int → Int → Int → Int → Int → Int → Int → Int → Int → Value} (h : ∀ a b c d e f u v w x y z i j, p a b c d e f u v w x y z i j = true → Gives P g [.agg ⟨[.int .i64 a, .int .i64 b, .int .i64 c, .int .i64 d, .int .i64 e, .int .i64 f]⟩, .agg ⟨[.int .i64 u, .int .i64 v, .int .i64 w, .int .i64 x, .int .i64 y, .int .i64 z]⟩, .agg ⟨[.int .i64 i, .int .i64 j]⟩] (F a b c d e f u v w x y z i j)) (args : List AV) (L : Ev.Loc) (z : Bool) (r : AV) (L' : Ev.Loc) (q : eTTPif p F args L = some (z, r, L')) (hz : z = true) : Runs P g args L r L' := by
  unfold eTTPif at q
  split at q
  · cases q
    exact gives_runs (h _ _ _ _ _ _ _ _ _ _ _ _ _ _ hz)
  · cases q
def eSSPif (p : Int → Int → Int → Int → Int → Int → Int → Int → Int → Int → Bool) (F : Int → Int → Int → Int → Int → Int → Int → Int → Int → Int → Value) : Ent
  | [.v (.agg ⟨[.int .i64 a, .int .i64 b, .int .i64 c, .int .i64 d]⟩), .v (.agg ⟨[.int .i64 e, .int .i64 f, .int .i64 u, .int .i64 v]⟩), .v (.agg ⟨[.int .i64 w, .int .i64 x]⟩)], [] => some (p a b c d e f u v w x, .v (F a b c d e f u v w x), [])
  | _, _ => none
theorem eSSPif_ok {P : Program} {g : FuncId} {p : Int → Int → Int → Int → Int → Int → Int → Int → Int → Int → Bool} {F : Int → Int → Int → Int → Int → Int → Int → Int → Int → Int → Value} (h : ∀ a b c d e f u v w x, p a b c d e f u v w x = true → Gives P g [.agg ⟨[.int .i64 a, .int .i64 b, .int .i64 c, .int .i64 d]⟩, .agg ⟨[.int .i64 e, .int .i64 f, .int .i64 u, .int .i64 v]⟩, .agg ⟨[.int .i64 w, .int .i64 x]⟩] (F a b c d e f u v w x)) (args : List AV) (L : Ev.Loc) (z : Bool) (r : AV) (L' : Ev.Loc) (q : eSSPif p F args L = some (z, r, L')) (hz : z = true) : Runs P g args L r L' := by
  unfold eSSPif at q
  split at q
  · cases q
    exact gives_runs (h _ _ _ _ _ _ _ _ _ _ hz)
  · cases q
def HoldX (c cl p q d dl p' q' y o : Int) : Prop :=
    (∃ k : Int, (k = 21 ∨ k = 24) ∧ xcrsM c c cl cl p q d d dl dl p' q' = (0, 0, 0, 0, 0, 0, 0, 0, k)) ∨
    ∃ A B L R A' B' L' R' : Int, xcrsM c c cl cl p q d d dl dl p' q' = (A, B, L, R, A', B', L', R', 0) ∧ hasM A B L R A' B' L' R' y o = (true, true)
noncomputable def book_c36e1_any (thrM : Int → Int → Int → Int → Int → Int × Int × Int × Int × Int × Int × Bool) (xcrsM : Int → Int → Int → Int → Int → Int → Int → Int → Int → Int → Int → Int → Int × Int × Int × Int × Int × Int × Int × Int × Int) (xnerM : Int → Int → Int → Int → Int → Int → Int → Int → Int → Int → Int → Int → Int → Int → Int × Int × Int × Int × Int) (hasM : Int → Int → Int → Int → Int → Int → Int → Int → Int → Int → Bool × Bool) (vpntM : Int → Int → Bool) : Book := [(30, e0 (.bool (true))), (31, eP (fun a b => .bool (vpntM a b))), (32, ePPI (fun a b c d e => thrV (thrM a b c d e))), (33, eTT (fun a b c d e f u v w x y z => crsV (xcrsM a b c d e f u v w x y z))), (34, eTTPif (fun a b c d e f u v w x y z i j => decide (xnerM a b c d e f u v w x y z i j = (0, 0, 0, 0, 1))) (fun _ _ _ _ _ _ _ _ _ _ _ _ _ _ => .tuple ⟨[.agg ⟨[.int .i64 0, .int .i64 0, .int .i64 0, .int .i64 0]⟩, .int .i64 1]⟩)), (35, eSSPif (fun a b c d e f u v w x => decide (hasM a b c d e f u v w x = (true, true))) (fun _ _ _ _ _ _ _ _ _ _ => .tuple ⟨[.bool true, .bool true]⟩))]
theorem book_c36e1_any_ok : BookOk Tryz.prog (book_c36e1_any thrM xcrsM xnerM hasM vpntM) := (bookOk_cons (e0_ok awake36_gives) (bookOk_cons (eP_ok vpntM_gives) (bookOk_cons (ePPI_ok thrM_gives) (bookOk_cons (eTT_ok xcrsM_gives) (bookOk_cons (eTTPif_ok (fun a b c d e f u v w x y z i j hp => by
    have hg := xnerM_gives a b c d e f u v w x y z i j
    rw [of_decide_eq_true hp] at hg
    exact hg)) (bookOk_cons (eSSPif_ok (fun a b c d e f u v w x hp => by
    have hg := hasM_gives a b c d e f u v w x
    rw [of_decide_eq_true hp] at hg
    exact hg)) bookOk_nil))))))
theorem c36e1_any_tree (thrM : Int → Int → Int → Int → Int → Int × Int × Int × Int × Int × Int × Bool) (xcrsM : Int → Int → Int → Int → Int → Int → Int → Int → Int → Int → Int → Int → Int × Int × Int × Int × Int × Int × Int × Int × Int) (xnerM : Int → Int → Int → Int → Int → Int → Int → Int → Int → Int → Int → Int → Int → Int → Int × Int × Int × Int × Int) (hasM : Int → Int → Int → Int → Int → Int → Int → Int → Int → Int → Bool × Bool) (vpntM : Int → Int → Bool) (a b c d e f u v w : Int) : evF Tryz.prog Es Cs (book_c36e1_any thrM xcrsM xnerM hasM vpntM) 20 6 9 ([.agg ⟨[.int .i64 a, .int .i64 b]⟩, .agg ⟨[.int .i64 c, .int .i64 d]⟩, .agg ⟨[.int .i64 e, .int .i64 f]⟩, .agg ⟨[.int .i64 u, .int .i64 v]⟩, .int .u16 w].map AV.v) [] [] last =
  cond (!(true))
  (some (.v (.bool false)))
  (cond (!(vpntM a b))
   (some (.v (.bool true)))
   (cond (!(vpntM c d))
    (some (.v (.bool true)))
    (cond (!(vpntM e f))
     (some (.v (.bool true)))
     (lt (thrM a b c d (IntKind.i64.wrap (w))) fun x1 =>
      lt (thrM a b e f (IntKind.i64.wrap (w))) fun x2 =>
      cond (!x1.2.2.2.2.2.2)
      (some (.v (.bool false)))
      (cond (!x2.2.2.2.2.2.2)
       (some (.v (.bool false)))
       (lt (xcrsM x1.1 x1.2.1 x1.2.2.1 x1.2.2.2.1 x1.2.2.2.2.1 x1.2.2.2.2.2.1 x2.1 x2.2.1 x2.2.2.1 x2.2.2.2.1 x2.2.2.2.2.1 x2.2.2.2.2.2.1) fun x3 =>
        lt (xcrsM x2.1 x2.2.1 x2.2.2.1 x2.2.2.2.1 x2.2.2.2.2.1 x2.2.2.2.2.2.1 x1.1 x1.2.1 x1.2.2.1 x1.2.2.2.1 x1.2.2.2.2.1 x1.2.2.2.2.2.1) fun x4 =>
        cond (decide (xnerM x1.1 x1.2.1 x1.2.2.1 x1.2.2.2.1 x1.2.2.2.2.1 x1.2.2.2.2.2.1 x2.1 x2.2.1 x2.2.2.1 x2.2.2.2.1 x2.2.2.2.2.1 x2.2.2.2.2.2.1 u v = (0, 0, 0, 0, 1)))
        (cond (x3.2.2.2.2.2.2.2.2 == 0)
         (cond (decide (hasM x3.1 x3.2.1 x3.2.2.1 x3.2.2.2.1 x3.2.2.2.2.1 x3.2.2.2.2.2.1 x3.2.2.2.2.2.2.1 x3.2.2.2.2.2.2.2.1 a b = (true, true)))
          (cond (!(!(vpntM u v)))
           (some (.v (.bool false)))
           (cond (x4.2.2.2.2.2.2.2.2 != 0)
            (cond ((x4.1 == 0) && ((x4.2.1 == 0) && ((x4.2.2.1 == 0) && ((x4.2.2.2.1 == 0) && true))))
             (cond ((x4.2.2.2.2.1 == 0) && ((x4.2.2.2.2.2.1 == 0) && ((x4.2.2.2.2.2.2.1 == 0) && ((x4.2.2.2.2.2.2.2.1 == 0) && true))))
              (cond (x4.2.2.2.2.2.2.2.2 == 21)
               (some (.v (.bool true)))
               (some (.v (.bool (x4.2.2.2.2.2.2.2.2 == 24)))))
              (some (.v (.bool false))))
             (some (.v (.bool false))))
            (cond (decide (hasM x4.1 x4.2.1 x4.2.2.1 x4.2.2.2.1 x4.2.2.2.2.1 x4.2.2.2.2.2.1 x4.2.2.2.2.2.2.1 x4.2.2.2.2.2.2.2.1 a b = (true, true)))
             (some (.v (.bool true)))
             (none))))
          (none))
         (cond (1 != x3.2.2.2.2.2.2.2.2)
          (cond (x4.2.2.2.2.2.2.2.2 != 0)
           (cond ((x4.1 == 0) && ((x4.2.1 == 0) && ((x4.2.2.1 == 0) && ((x4.2.2.2.1 == 0) && true))))
            (cond ((x4.2.2.2.2.1 == 0) && ((x4.2.2.2.2.2.1 == 0) && ((x4.2.2.2.2.2.2.1 == 0) && ((x4.2.2.2.2.2.2.2.1 == 0) && true))))
             (cond (x4.2.2.2.2.2.2.2.2 == 21)
              (some (.v (.bool true)))
              (some (.v (.bool (x4.2.2.2.2.2.2.2.2 == 24)))))
             (some (.v (.bool false))))
            (some (.v (.bool false))))
           (cond (decide (hasM x4.1 x4.2.1 x4.2.2.1 x4.2.2.2.1 x4.2.2.2.2.1 x4.2.2.2.2.2.1 x4.2.2.2.2.2.2.1 x4.2.2.2.2.2.2.2.1 a b = (true, true)))
            (some (.v (.bool true)))
            (none)))
          (cond (x4.2.2.2.2.2.2.2.2 != 0)
           (cond ((x4.1 == 0) && ((x4.2.1 == 0) && ((x4.2.2.1 == 0) && ((x4.2.2.2.1 == 0) && true))))
            (cond ((x4.2.2.2.2.1 == 0) && ((x4.2.2.2.2.2.1 == 0) && ((x4.2.2.2.2.2.2.1 == 0) && ((x4.2.2.2.2.2.2.2.1 == 0) && true))))
             (cond (x4.2.2.2.2.2.2.2.2 == 21)
              (some (.v (.bool true)))
              (some (.v (.bool (x4.2.2.2.2.2.2.2.2 == 24)))))
             (some (.v (.bool false))))
            (some (.v (.bool false))))
           (cond (decide (hasM x4.1 x4.2.1 x4.2.2.1 x4.2.2.2.1 x4.2.2.2.2.1 x4.2.2.2.2.2.1 x4.2.2.2.2.2.2.1 x4.2.2.2.2.2.2.2.1 a b = (true, true)))
            (some (.v (.bool true)))
            (none)))))
        (none))))))) := by kernel_rfl
theorem c36e1_any (a b c d e f u v w : Int) (hw : 0 ≤ w ∧ w ≤ 65535) (H : vpntM a b = true → vpntM c d = true → vpntM e f = true → ∃ p q p' q' : Int, thrM a b c d w = (c, c, d, d, p, q, true) ∧ thrM a b e f w = (e, e, f, f, p', q', true) ∧ HoldX c d p q e f p' q' a b ∧ HoldX e f p' q' c d p q a b ∧ xnerM c c d d p q e e f f p' q' u v = (0, 0, 0, 0, 1) ∧ vpntM u v = false) : Gives Tryz.prog 9 [.agg ⟨[.int .i64 a, .int .i64 b]⟩, .agg ⟨[.int .i64 c, .int .i64 d]⟩, .agg ⟨[.int .i64 e, .int .i64 f]⟩, .agg ⟨[.int .i64 u, .int .i64 v]⟩, .int .u16 w] (.bool true) := by
  refine evF_gives (E := Es) mixed Es_ok Cs_ok (book_c36e1_any_ok) (lim := 20) (d := 6) (nm := []) ?_
  rw [c36e1_any_tree thrM xcrsM xnerM hasM vpntM]
  simp only [lt, Bool.not_true, cond_false]
  cases hq : vpntM a b with
  | false => rfl
  | true =>
  cases hc : vpntM c d with
  | false => rfl
  | true =>
  cases hd : vpntM e f with
  | false => rfl
  | true =>
  rw [Bool.not_true, cond_false, cond_false, cond_false, i64w (x := w) (by omega)]
  obtain ⟨p, q, p', q', t1, t2, X3, X4, e5, hv⟩ := H hq hc hd
  rw [t1, t2]
  dsimp only
  rw [decide_eq_true e5]
  rcases X3 with ⟨k, hk, ex⟩ | ⟨A, B, L, R, A', B', L', R', ex, ht⟩
  · rw [ex]
    dsimp only
    rcases X4 with ⟨k', hk', ey⟩ | ⟨P, Q, S, T, P', Q', S', T', ey, hs⟩
    · rw [ey]
      rcases hk with rfl | rfl <;> rcases hk' with rfl | rfl <;> rfl
    · rw [ey]
      dsimp only
      rw [decide_eq_true hs]
      rcases hk with rfl | rfl <;> rfl
  · rw [ex]
    dsimp only
    rw [decide_eq_true ht, hv]
    rcases X4 with ⟨k', hk', ey⟩ | ⟨P, Q, S, T, P', Q', S', T', ey, hs⟩
    · rw [ey]
      rcases hk' with rfl | rfl <;> rfl
    · rw [ey]
      dsimp only
      rw [decide_eq_true hs]
      rfl
noncomputable def book_c36e21_any (thrM : Int → Int → Int → Int → Int → Int × Int × Int × Int × Int × Int × Bool) (xcrsM : Int → Int → Int → Int → Int → Int → Int → Int → Int → Int → Int → Int → Int × Int × Int × Int × Int × Int × Int × Int × Int) (xnerM : Int → Int → Int → Int → Int → Int → Int → Int → Int → Int → Int → Int → Int → Int → Int × Int × Int × Int × Int) (hasM : Int → Int → Int → Int → Int → Int → Int → Int → Int → Int → Bool × Bool) (vpntM : Int → Int → Bool) : Book := [(30, e0 (.bool (true))), (31, eP (fun a b => .bool (vpntM a b))), (32, ePPI (fun a b c d e => thrV (thrM a b c d e))), (33, eTT (fun a b c d e f u v w x y z => crsV (xcrsM a b c d e f u v w x y z))), (34, eTTPif (fun a b c d e f u v w x y z i j => decide (xnerM a b c d e f u v w x y z i j = (0, 0, 0, 0, 21))) (fun _ _ _ _ _ _ _ _ _ _ _ _ _ _ => .tuple ⟨[.agg ⟨[.int .i64 0, .int .i64 0, .int .i64 0, .int .i64 0]⟩, .int .i64 21]⟩)), (35, eSSPif (fun a b c d e f u v w x => decide (hasM a b c d e f u v w x = (true, true))) (fun _ _ _ _ _ _ _ _ _ _ => .tuple ⟨[.bool true, .bool true]⟩))]
theorem book_c36e21_any_ok : BookOk Tryz.prog (book_c36e21_any thrM xcrsM xnerM hasM vpntM) := (bookOk_cons (e0_ok awake36_gives) (bookOk_cons (eP_ok vpntM_gives) (bookOk_cons (ePPI_ok thrM_gives) (bookOk_cons (eTT_ok xcrsM_gives) (bookOk_cons (eTTPif_ok (fun a b c d e f u v w x y z i j hp => by
    have hg := xnerM_gives a b c d e f u v w x y z i j
    rw [of_decide_eq_true hp] at hg
    exact hg)) (bookOk_cons (eSSPif_ok (fun a b c d e f u v w x hp => by
    have hg := hasM_gives a b c d e f u v w x
    rw [of_decide_eq_true hp] at hg
    exact hg)) bookOk_nil))))))
theorem c36e21_any_tree (thrM : Int → Int → Int → Int → Int → Int × Int × Int × Int × Int × Int × Bool) (xcrsM : Int → Int → Int → Int → Int → Int → Int → Int → Int → Int → Int → Int → Int × Int × Int × Int × Int × Int × Int × Int × Int) (xnerM : Int → Int → Int → Int → Int → Int → Int → Int → Int → Int → Int → Int → Int → Int → Int × Int × Int × Int × Int) (hasM : Int → Int → Int → Int → Int → Int → Int → Int → Int → Int → Bool × Bool) (vpntM : Int → Int → Bool) (a b c d e f u v w : Int) : evF Tryz.prog Es Cs (book_c36e21_any thrM xcrsM xnerM hasM vpntM) 20 6 9 ([.agg ⟨[.int .i64 a, .int .i64 b]⟩, .agg ⟨[.int .i64 c, .int .i64 d]⟩, .agg ⟨[.int .i64 e, .int .i64 f]⟩, .agg ⟨[.int .i64 u, .int .i64 v]⟩, .int .u16 w].map AV.v) [] [] last =
  cond (!(true))
  (some (.v (.bool false)))
  (cond (!(vpntM a b))
   (some (.v (.bool true)))
   (cond (!(vpntM c d))
    (some (.v (.bool true)))
    (cond (!(vpntM e f))
     (some (.v (.bool true)))
     (lt (thrM a b c d (IntKind.i64.wrap (w))) fun x1 =>
      lt (thrM a b e f (IntKind.i64.wrap (w))) fun x2 =>
      cond (!x1.2.2.2.2.2.2)
      (some (.v (.bool false)))
      (cond (!x2.2.2.2.2.2.2)
       (some (.v (.bool false)))
       (lt (xcrsM x1.1 x1.2.1 x1.2.2.1 x1.2.2.2.1 x1.2.2.2.2.1 x1.2.2.2.2.2.1 x2.1 x2.2.1 x2.2.2.1 x2.2.2.2.1 x2.2.2.2.2.1 x2.2.2.2.2.2.1) fun x3 =>
        lt (xcrsM x2.1 x2.2.1 x2.2.2.1 x2.2.2.2.1 x2.2.2.2.2.1 x2.2.2.2.2.2.1 x1.1 x1.2.1 x1.2.2.1 x1.2.2.2.1 x1.2.2.2.2.1 x1.2.2.2.2.2.1) fun x4 =>
        cond (decide (xnerM x1.1 x1.2.1 x1.2.2.1 x1.2.2.2.1 x1.2.2.2.2.1 x1.2.2.2.2.2.1 x2.1 x2.2.1 x2.2.2.1 x2.2.2.2.1 x2.2.2.2.2.1 x2.2.2.2.2.2.1 u v = (0, 0, 0, 0, 21)))
        (cond (x3.2.2.2.2.2.2.2.2 == 0)
         (cond (decide (hasM x3.1 x3.2.1 x3.2.2.1 x3.2.2.2.1 x3.2.2.2.2.1 x3.2.2.2.2.2.1 x3.2.2.2.2.2.2.1 x3.2.2.2.2.2.2.2.1 a b = (true, true)))
          (some (.v (.bool false)))
          (none))
         (cond (21 != x3.2.2.2.2.2.2.2.2)
          (some (.v (.bool false)))
          (cond (x4.2.2.2.2.2.2.2.2 != 0)
           (cond ((x4.1 == 0) && ((x4.2.1 == 0) && ((x4.2.2.1 == 0) && ((x4.2.2.2.1 == 0) && true))))
            (cond ((x4.2.2.2.2.1 == 0) && ((x4.2.2.2.2.2.1 == 0) && ((x4.2.2.2.2.2.2.1 == 0) && ((x4.2.2.2.2.2.2.2.1 == 0) && true))))
             (cond (x4.2.2.2.2.2.2.2.2 == 21)
              (some (.v (.bool true)))
              (some (.v (.bool (x4.2.2.2.2.2.2.2.2 == 24)))))
             (some (.v (.bool false))))
            (some (.v (.bool false))))
           (cond (decide (hasM x4.1 x4.2.1 x4.2.2.1 x4.2.2.2.1 x4.2.2.2.2.1 x4.2.2.2.2.2.1 x4.2.2.2.2.2.2.1 x4.2.2.2.2.2.2.2.1 a b = (true, true)))
            (some (.v (.bool true)))
            (none)))))
        (none))))))) := by kernel_rfl
theorem c36e21_any (a b c d e f u v w : Int) (hw : 0 ≤ w ∧ w ≤ 65535) (H : vpntM a b = true → vpntM c d = true → vpntM e f = true → ∃ p q p' q' : Int, thrM a b c d w = (c, c, d, d, p, q, true) ∧ thrM a b e f w = (e, e, f, f, p', q', true) ∧ HoldX c d p q e f p' q' a b ∧ HoldX e f p' q' c d p q a b ∧ xnerM c c d d p q e e f f p' q' u v = (0, 0, 0, 0, 21) ∧ (xcrsM c c d d p q e e f f p' q' = (0, 0, 0, 0, 0, 0, 0, 0, 21) ∨ False)) : Gives Tryz.prog 9 [.agg ⟨[.int .i64 a, .int .i64 b]⟩, .agg ⟨[.int .i64 c, .int .i64 d]⟩, .agg ⟨[.int .i64 e, .int .i64 f]⟩, .agg ⟨[.int .i64 u, .int .i64 v]⟩, .int .u16 w] (.bool true) := by
  refine evF_gives (E := Es) mixed Es_ok Cs_ok (book_c36e21_any_ok) (lim := 20) (d := 6) (nm := []) ?_
  rw [c36e21_any_tree thrM xcrsM xnerM hasM vpntM]
  simp only [lt, Bool.not_true, cond_false]
  cases hq : vpntM a b with
  | false => rfl
  | true =>
  cases hc : vpntM c d with
  | false => rfl
  | true =>
  cases hd : vpntM e f with
  | false => rfl
  | true =>
  rw [Bool.not_true, cond_false, cond_false, cond_false, i64w (x := w) (by omega)]
  obtain ⟨p, q, p', q', t1, t2, X3, X4, e5, X6⟩ := H hq hc hd
  rw [t1, t2]
  dsimp only
  rw [decide_eq_true e5]
  rcases X6 with ex | X6
  · rw [ex]
    dsimp only
    rcases X4 with ⟨k', hk', ey⟩ | ⟨P, Q, S, T, P', Q', S', T', ey, hs⟩
    · rw [ey]
      rcases hk' with rfl | rfl <;> rfl
    · rw [ey]
      dsimp only
      rw [decide_eq_true hs]
      rfl
  · exact absurd X6 id
noncomputable def book_c36e24_any (thrM : Int → Int → Int → Int → Int → Int × Int × Int × Int × Int × Int × Bool) (xcrsM : Int → Int → Int → Int → Int → Int → Int → Int → Int → Int → Int → Int → Int × Int × Int × Int × Int × Int × Int × Int × Int) (xnerM : Int → Int → Int → Int → Int → Int → Int → Int → Int → Int → Int → Int → Int → Int → Int × Int × Int × Int × Int) (hasM : Int → Int → Int → Int → Int → Int → Int → Int → Int → Int → Bool × Bool) (vpntM : Int → Int → Bool) : Book := [(30, e0 (.bool (true))), (31, eP (fun a b => .bool (vpntM a b))), (32, ePPI (fun a b c d e => thrV (thrM a b c d e))), (33, eTT (fun a b c d e f u v w x y z => crsV (xcrsM a b c d e f u v w x y z))), (34, eTTPif (fun a b c d e f u v w x y z i j => decide (xnerM a b c d e f u v w x y z i j = (0, 0, 0, 0, 24))) (fun _ _ _ _ _ _ _ _ _ _ _ _ _ _ => .tuple ⟨[.agg ⟨[.int .i64 0, .int .i64 0, .int .i64 0, .int .i64 0]⟩, .int .i64 24]⟩)), (35, eSSPif (fun a b c d e f u v w x => decide (hasM a b c d e f u v w x = (true, true))) (fun _ _ _ _ _ _ _ _ _ _ => .tuple ⟨[.bool true, .bool true]⟩))]
theorem book_c36e24_any_ok : BookOk Tryz.prog (book_c36e24_any thrM xcrsM xnerM hasM vpntM) := (bookOk_cons (e0_ok awake36_gives) (bookOk_cons (eP_ok vpntM_gives) (bookOk_cons (ePPI_ok thrM_gives) (bookOk_cons (eTT_ok xcrsM_gives) (bookOk_cons (eTTPif_ok (fun a b c d e f u v w x y z i j hp => by
    have hg := xnerM_gives a b c d e f u v w x y z i j
    rw [of_decide_eq_true hp] at hg
    exact hg)) (bookOk_cons (eSSPif_ok (fun a b c d e f u v w x hp => by
    have hg := hasM_gives a b c d e f u v w x
    rw [of_decide_eq_true hp] at hg
    exact hg)) bookOk_nil))))))
theorem c36e24_any_tree (thrM : Int → Int → Int → Int → Int → Int × Int × Int × Int × Int × Int × Bool) (xcrsM : Int → Int → Int → Int → Int → Int → Int → Int → Int → Int → Int → Int → Int × Int × Int × Int × Int × Int × Int × Int × Int) (xnerM : Int → Int → Int → Int → Int → Int → Int → Int → Int → Int → Int → Int → Int → Int → Int × Int × Int × Int × Int) (hasM : Int → Int → Int → Int → Int → Int → Int → Int → Int → Int → Bool × Bool) (vpntM : Int → Int → Bool) (a b c d e f u v w : Int) : evF Tryz.prog Es Cs (book_c36e24_any thrM xcrsM xnerM hasM vpntM) 20 6 9 ([.agg ⟨[.int .i64 a, .int .i64 b]⟩, .agg ⟨[.int .i64 c, .int .i64 d]⟩, .agg ⟨[.int .i64 e, .int .i64 f]⟩, .agg ⟨[.int .i64 u, .int .i64 v]⟩, .int .u16 w].map AV.v) [] [] last =
  cond (!(true))
  (some (.v (.bool false)))
  (cond (!(vpntM a b))
   (some (.v (.bool true)))
   (cond (!(vpntM c d))
    (some (.v (.bool true)))
    (cond (!(vpntM e f))
     (some (.v (.bool true)))
     (lt (thrM a b c d (IntKind.i64.wrap (w))) fun x1 =>
      lt (thrM a b e f (IntKind.i64.wrap (w))) fun x2 =>
      cond (!x1.2.2.2.2.2.2)
      (some (.v (.bool false)))
      (cond (!x2.2.2.2.2.2.2)
       (some (.v (.bool false)))
       (lt (xcrsM x1.1 x1.2.1 x1.2.2.1 x1.2.2.2.1 x1.2.2.2.2.1 x1.2.2.2.2.2.1 x2.1 x2.2.1 x2.2.2.1 x2.2.2.2.1 x2.2.2.2.2.1 x2.2.2.2.2.2.1) fun x3 =>
        lt (xcrsM x2.1 x2.2.1 x2.2.2.1 x2.2.2.2.1 x2.2.2.2.2.1 x2.2.2.2.2.2.1 x1.1 x1.2.1 x1.2.2.1 x1.2.2.2.1 x1.2.2.2.2.1 x1.2.2.2.2.2.1) fun x4 =>
        cond (decide (xnerM x1.1 x1.2.1 x1.2.2.1 x1.2.2.2.1 x1.2.2.2.2.1 x1.2.2.2.2.2.1 x2.1 x2.2.1 x2.2.2.1 x2.2.2.2.1 x2.2.2.2.2.1 x2.2.2.2.2.2.1 u v = (0, 0, 0, 0, 24)))
        (cond (x3.2.2.2.2.2.2.2.2 == 0)
         (cond (decide (hasM x3.1 x3.2.1 x3.2.2.1 x3.2.2.2.1 x3.2.2.2.2.1 x3.2.2.2.2.2.1 x3.2.2.2.2.2.2.1 x3.2.2.2.2.2.2.2.1 a b = (true, true)))
          (cond (x4.2.2.2.2.2.2.2.2 != 0)
           (cond ((x4.1 == 0) && ((x4.2.1 == 0) && ((x4.2.2.1 == 0) && ((x4.2.2.2.1 == 0) && true))))
            (cond ((x4.2.2.2.2.1 == 0) && ((x4.2.2.2.2.2.1 == 0) && ((x4.2.2.2.2.2.2.1 == 0) && ((x4.2.2.2.2.2.2.2.1 == 0) && true))))
             (cond (x4.2.2.2.2.2.2.2.2 == 21)
              (some (.v (.bool true)))
              (some (.v (.bool (x4.2.2.2.2.2.2.2.2 == 24)))))
             (some (.v (.bool false))))
            (some (.v (.bool false))))
           (cond (decide (hasM x4.1 x4.2.1 x4.2.2.1 x4.2.2.2.1 x4.2.2.2.2.1 x4.2.2.2.2.2.1 x4.2.2.2.2.2.2.1 x4.2.2.2.2.2.2.2.1 a b = (true, true)))
            (some (.v (.bool true)))
            (none)))
          (none))
         (cond (24 != x3.2.2.2.2.2.2.2.2)
          (some (.v (.bool false)))
          (cond (x4.2.2.2.2.2.2.2.2 != 0)
           (cond ((x4.1 == 0) && ((x4.2.1 == 0) && ((x4.2.2.1 == 0) && ((x4.2.2.2.1 == 0) && true))))
            (cond ((x4.2.2.2.2.1 == 0) && ((x4.2.2.2.2.2.1 == 0) && ((x4.2.2.2.2.2.2.1 == 0) && ((x4.2.2.2.2.2.2.2.1 == 0) && true))))
             (cond (x4.2.2.2.2.2.2.2.2 == 21)
              (some (.v (.bool true)))
              (some (.v (.bool (x4.2.2.2.2.2.2.2.2 == 24)))))
             (some (.v (.bool false))))
            (some (.v (.bool false))))
           (cond (decide (hasM x4.1 x4.2.1 x4.2.2.1 x4.2.2.2.1 x4.2.2.2.2.1 x4.2.2.2.2.2.1 x4.2.2.2.2.2.2.1 x4.2.2.2.2.2.2.2.1 a b = (true, true)))
            (some (.v (.bool true)))
            (none)))))
        (none))))))) := by kernel_rfl
theorem c36e24_any (a b c d e f u v w : Int) (hw : 0 ≤ w ∧ w ≤ 65535) (H : vpntM a b = true → vpntM c d = true → vpntM e f = true → ∃ p q p' q' : Int, thrM a b c d w = (c, c, d, d, p, q, true) ∧ thrM a b e f w = (e, e, f, f, p', q', true) ∧ HoldX c d p q e f p' q' a b ∧ HoldX e f p' q' c d p q a b ∧ xnerM c c d d p q e e f f p' q' u v = (0, 0, 0, 0, 24) ∧ (xcrsM c c d d p q e e f f p' q' = (0, 0, 0, 0, 0, 0, 0, 0, 24) ∨ ∃ A B L R A' B' L' R' : Int, xcrsM c c d d p q e e f f p' q' = (A, B, L, R, A', B', L', R', 0) ∧ hasM A B L R A' B' L' R' a b = (true, true))) : Gives Tryz.prog 9 [.agg ⟨[.int .i64 a, .int .i64 b]⟩, .agg ⟨[.int .i64 c, .int .i64 d]⟩, .agg ⟨[.int .i64 e, .int .i64 f]⟩, .agg ⟨[.int .i64 u, .int .i64 v]⟩, .int .u16 w] (.bool true) := by
  refine evF_gives (E := Es) mixed Es_ok Cs_ok (book_c36e24_any_ok) (lim := 20) (d := 6) (nm := []) ?_
  rw [c36e24_any_tree thrM xcrsM xnerM hasM vpntM]
  simp only [lt, Bool.not_true, cond_false]
  cases hq : vpntM a b with
  | false => rfl
  | true =>
  cases hc : vpntM c d with
  | false => rfl
  | true =>
  cases hd : vpntM e f with
  | false => rfl
  | true =>
  rw [Bool.not_true, cond_false, cond_false, cond_false, i64w (x := w) (by omega)]
  obtain ⟨p, q, p', q', t1, t2, X3, X4, e5, X6⟩ := H hq hc hd
  rw [t1, t2]
  dsimp only
  rw [decide_eq_true e5]
  rcases X6 with ex | X6
  · rw [ex]
    dsimp only
    rcases X4 with ⟨k', hk', ey⟩ | ⟨P, Q, S, T, P', Q', S', T', ey, hs⟩
    · rw [ey]
      rcases hk' with rfl | rfl <;> rfl
    · rw [ey]
      dsimp only
      rw [decide_eq_true hs]
      rfl
  · obtain ⟨A, B, L, R, A', B', L', R', ex, ht⟩ := X6
    rw [ex]
    dsimp only
    rw [decide_eq_true ht]
    rcases X4 with ⟨k', hk', ey⟩ | ⟨P, Q, S, T, P', Q', S', T', ey, hs⟩
    · rw [ey]
      rcases hk' with rfl | rfl <;> rfl
    · rw [ey]
      dsimp only
      rw [decide_eq_true hs]
      rfl
noncomputable def book_c36e0_any (thrM : Int → Int → Int → Int → Int → Int × Int × Int × Int × Int × Int × Bool) (xcrsM : Int → Int → Int → Int → Int → Int → Int → Int → Int → Int → Int → Int → Int × Int × Int × Int × Int × Int × Int × Int × Int) (xnerM : Int → Int → Int → Int → Int → Int → Int → Int → Int → Int → Int → Int → Int → Int → Int × Int × Int × Int × Int) (hasM : Int → Int → Int → Int → Int → Int → Int → Int → Int → Int → Bool × Bool) (vpntM : Int → Int → Bool) (n1 n2 n3 n4 : Int) : Book := [(30, e0 (.bool (true))), (31, eP (fun a b => .bool (vpntM a b))), (32, ePPI (fun a b c d e => thrV (thrM a b c d e))), (33, eTT (fun a b c d e f u v w x y z => crsV (xcrsM a b c d e f u v w x y z))), (34, eTTPif (fun a b c d e f u v w x y z i j => decide (xnerM a b c d e f u v w x y z i j = (n1, n2, n3, n4, 0))) (fun _ _ _ _ _ _ _ _ _ _ _ _ _ _ => .tuple ⟨[.agg ⟨[.int .i64 n1, .int .i64 n2, .int .i64 n3, .int .i64 n4]⟩, .int .i64 0]⟩)), (35, eSSPif (fun a b c d e f u v w x => decide (hasM a b c d e f u v w x = (true, true))) (fun _ _ _ _ _ _ _ _ _ _ => .tuple ⟨[.bool true, .bool true]⟩))]
theorem book_c36e0_any_ok (n1 n2 n3 n4 : Int) : BookOk Tryz.prog (book_c36e0_any thrM xcrsM xnerM hasM vpntM n1 n2 n3 n4) := (bookOk_cons (e0_ok awake36_gives) (bookOk_cons (eP_ok vpntM_gives) (bookOk_cons (ePPI_ok thrM_gives) (bookOk_cons (eTT_ok xcrsM_gives) (bookOk_cons (eTTPif_ok (fun a b c d e f u v w x y z i j hp => by
    have hg := xnerM_gives a b c d e f u v w x y z i j
    rw [of_decide_eq_true hp] at hg
    exact hg)) (bookOk_cons (eSSPif_ok (fun a b c d e f u v w x hp => by
    have hg := hasM_gives a b c d e f u v w x
    rw [of_decide_eq_true hp] at hg
    exact hg)) bookOk_nil))))))
theorem c36e0_any_tree (thrM : Int → Int → Int → Int → Int → Int × Int × Int × Int × Int × Int × Bool) (xcrsM : Int → Int → Int → Int → Int → Int → Int → Int → Int → Int → Int → Int → Int × Int × Int × Int × Int × Int × Int × Int × Int) (xnerM : Int → Int → Int → Int → Int → Int → Int → Int → Int → Int → Int → Int → Int → Int → Int × Int × Int × Int × Int) (hasM : Int → Int → Int → Int → Int → Int → Int → Int → Int → Int → Bool × Bool) (vpntM : Int → Int → Bool) (n1 n2 n3 n4 : Int) (a b c d e f u v w : Int) : evF Tryz.prog Es Cs (book_c36e0_any thrM xcrsM xnerM hasM vpntM n1 n2 n3 n4) 20 6 9 ([.agg ⟨[.int .i64 a, .int .i64 b]⟩, .agg ⟨[.int .i64 c, .int .i64 d]⟩, .agg ⟨[.int .i64 e, .int .i64 f]⟩, .agg ⟨[.int .i64 u, .int .i64 v]⟩, .int .u16 w].map AV.v) [] [] last =
  cond (!(true))
  (some (.v (.bool false)))
  (cond (!(vpntM a b))
   (some (.v (.bool true)))
   (cond (!(vpntM c d))
    (some (.v (.bool true)))
    (cond (!(vpntM e f))
     (some (.v (.bool true)))
     (lt (thrM a b c d (IntKind.i64.wrap (w))) fun x1 =>
      lt (thrM a b e f (IntKind.i64.wrap (w))) fun x2 =>
      cond (!x1.2.2.2.2.2.2)
      (some (.v (.bool false)))
      (cond (!x2.2.2.2.2.2.2)
       (some (.v (.bool false)))
       (lt (xcrsM x1.1 x1.2.1 x1.2.2.1 x1.2.2.2.1 x1.2.2.2.2.1 x1.2.2.2.2.2.1 x2.1 x2.2.1 x2.2.2.1 x2.2.2.2.1 x2.2.2.2.2.1 x2.2.2.2.2.2.1) fun x3 =>
        lt (xcrsM x2.1 x2.2.1 x2.2.2.1 x2.2.2.2.1 x2.2.2.2.2.1 x2.2.2.2.2.2.1 x1.1 x1.2.1 x1.2.2.1 x1.2.2.2.1 x1.2.2.2.2.1 x1.2.2.2.2.2.1) fun x4 =>
        cond (decide (xnerM x1.1 x1.2.1 x1.2.2.1 x1.2.2.2.1 x1.2.2.2.2.1 x1.2.2.2.2.2.1 x2.1 x2.2.1 x2.2.2.1 x2.2.2.2.1 x2.2.2.2.2.1 x2.2.2.2.2.2.1 u v = (n1, n2, n3, n4, 0)))
        (cond (x3.2.2.2.2.2.2.2.2 == 0)
         (cond (decide (hasM x3.1 x3.2.1 x3.2.2.1 x3.2.2.2.1 x3.2.2.2.2.1 x3.2.2.2.2.2.1 x3.2.2.2.2.2.2.1 x3.2.2.2.2.2.2.2.1 a b = (true, true)))
          (cond (!((n1 == x3.1) && ((n2 == x3.2.1) && ((n3 == x3.2.2.1) && ((n4 == x3.2.2.2.1) && true)))))
           (cond (!((n1 == x3.2.2.2.2.1) && ((n2 == x3.2.2.2.2.2.1) && ((n3 == x3.2.2.2.2.2.2.1) && ((n4 == x3.2.2.2.2.2.2.2.1) && true)))))
            (some (.v (.bool false)))
            (cond (x4.2.2.2.2.2.2.2.2 != 0)
             (cond ((x4.1 == 0) && ((x4.2.1 == 0) && ((x4.2.2.1 == 0) && ((x4.2.2.2.1 == 0) && true))))
              (cond ((x4.2.2.2.2.1 == 0) && ((x4.2.2.2.2.2.1 == 0) && ((x4.2.2.2.2.2.2.1 == 0) && ((x4.2.2.2.2.2.2.2.1 == 0) && true))))
               (cond (x4.2.2.2.2.2.2.2.2 == 21)
                (some (.v (.bool true)))
                (some (.v (.bool (x4.2.2.2.2.2.2.2.2 == 24)))))
               (some (.v (.bool false))))
              (some (.v (.bool false))))
             (cond (decide (hasM x4.1 x4.2.1 x4.2.2.1 x4.2.2.2.1 x4.2.2.2.2.1 x4.2.2.2.2.2.1 x4.2.2.2.2.2.2.1 x4.2.2.2.2.2.2.2.1 a b = (true, true)))
              (some (.v (.bool true)))
              (none))))
           (cond (x4.2.2.2.2.2.2.2.2 != 0)
            (cond ((x4.1 == 0) && ((x4.2.1 == 0) && ((x4.2.2.1 == 0) && ((x4.2.2.2.1 == 0) && true))))
             (cond ((x4.2.2.2.2.1 == 0) && ((x4.2.2.2.2.2.1 == 0) && ((x4.2.2.2.2.2.2.1 == 0) && ((x4.2.2.2.2.2.2.2.1 == 0) && true))))
              (cond (x4.2.2.2.2.2.2.2.2 == 21)
               (some (.v (.bool true)))
               (some (.v (.bool (x4.2.2.2.2.2.2.2.2 == 24)))))
              (some (.v (.bool false))))
             (some (.v (.bool false))))
            (cond (decide (hasM x4.1 x4.2.1 x4.2.2.1 x4.2.2.2.1 x4.2.2.2.2.1 x4.2.2.2.2.2.1 x4.2.2.2.2.2.2.1 x4.2.2.2.2.2.2.2.1 a b = (true, true)))
             (some (.v (.bool true)))
             (none))))
          (none))
         (cond (!((n1 == 0) && ((n2 == 0) && ((n3 == 0) && ((n4 == 0) && true)))))
          (some (.v (.bool false)))
          (cond (0 != x3.2.2.2.2.2.2.2.2)
           (some (.v (.bool false)))
           (cond (x4.2.2.2.2.2.2.2.2 != 0)
            (cond ((x4.1 == 0) && ((x4.2.1 == 0) && ((x4.2.2.1 == 0) && ((x4.2.2.2.1 == 0) && true))))
             (cond ((x4.2.2.2.2.1 == 0) && ((x4.2.2.2.2.2.1 == 0) && ((x4.2.2.2.2.2.2.1 == 0) && ((x4.2.2.2.2.2.2.2.1 == 0) && true))))
              (cond (x4.2.2.2.2.2.2.2.2 == 21)
               (some (.v (.bool true)))
               (some (.v (.bool (x4.2.2.2.2.2.2.2.2 == 24)))))
              (some (.v (.bool false))))
             (some (.v (.bool false))))
            (cond (decide (hasM x4.1 x4.2.1 x4.2.2.1 x4.2.2.2.1 x4.2.2.2.2.1 x4.2.2.2.2.2.1 x4.2.2.2.2.2.2.1 x4.2.2.2.2.2.2.2.1 a b = (true, true)))
             (some (.v (.bool true)))
             (none))))))
        (none))))))) := by kernel_rfl
theorem c36e0_any (n1 n2 n3 n4 : Int) (a b c d e f u v w : Int) (hw : 0 ≤ w ∧ w ≤ 65535) (H : vpntM a b = true → vpntM c d = true → vpntM e f = true → ∃ p q p' q' : Int, thrM a b c d w = (c, c, d, d, p, q, true) ∧ thrM a b e f w = (e, e, f, f, p', q', true) ∧ HoldX c d p q e f p' q' a b ∧ HoldX e f p' q' c d p q a b ∧ xnerM c c d d p q e e f f p' q' u v = (n1, n2, n3, n4, 0) ∧ ∃ A B L R A' B' L' R' : Int, xcrsM c c d d p q e e f f p' q' = (A, B, L, R, A', B', L', R', 0) ∧ hasM A B L R A' B' L' R' a b = (true, true) ∧ ((A = n1 ∧ B = n2 ∧ L = n3 ∧ R = n4) ∨ (A' = n1 ∧ B' = n2 ∧ L' = n3 ∧ R' = n4))) : Gives Tryz.prog 9 [.agg ⟨[.int .i64 a, .int .i64 b]⟩, .agg ⟨[.int .i64 c, .int .i64 d]⟩, .agg ⟨[.int .i64 e, .int .i64 f]⟩, .agg ⟨[.int .i64 u, .int .i64 v]⟩, .int .u16 w] (.bool true) := by
  refine evF_gives (E := Es) mixed Es_ok Cs_ok (book_c36e0_any_ok n1 n2 n3 n4) (lim := 20) (d := 6) (nm := []) ?_
  rw [c36e0_any_tree thrM xcrsM xnerM hasM vpntM n1 n2 n3 n4]
  simp only [lt, Bool.not_true, cond_false]
  cases hq : vpntM a b with
  | false => rfl
  | true =>
  cases hc : vpntM c d with
  | false => rfl
  | true =>
  cases hd : vpntM e f with
  | false => rfl
  | true =>
  rw [Bool.not_true, cond_false, cond_false, cond_false, i64w (x := w) (by omega)]
  obtain ⟨p, q, p', q', t1, t2, X3, X4, e5, X6⟩ := H hq hc hd
  rw [t1, t2]
  dsimp only
  rw [decide_eq_true e5]
  obtain ⟨A, B, L, R, A', B', L', R', ex, ht, hn⟩ := X6
  rw [ex]
  dsimp only
  rw [decide_eq_true ht]
  rcases hn with ⟨rfl, rfl, rfl, rfl⟩ | ⟨rfl, rfl, rfl, rfl⟩
  · rw [same4 A B L R]
    rcases X4 with ⟨k', hk', ey⟩ | ⟨P, Q, S, T, P', Q', S', T', ey, hs⟩
    · rw [ey]
      rcases hk' with rfl | rfl <;> rfl
    · rw [ey]
      dsimp only
      rw [decide_eq_true hs]
      rfl
  · rw [same4 A' B' L' R']
    generalize ((A' == A) && ((B' == B) && ((L' == L) && ((R' == R) && true)))) = X
    rcases X4 with ⟨k', hk', ey⟩ | ⟨P, Q, S, T, P', Q', S', T', ey, hs⟩
    · rw [ey]
      rcases hk' with rfl | rfl <;> cases X <;> rfl
    · rw [ey]
      dsimp only
      rw [decide_eq_true hs]
      cases X <;> rfl
theorem c36ex_any (a b c d e f u v w : Int) (hw : 0 ≤ w ∧ w ≤ 65535) : Gives Tryz.prog 9 [.agg ⟨[.int .i64 a, .int .i64 b]⟩, .agg ⟨[.int .i64 c, .int .i64 d]⟩, .agg ⟨[.int .i64 e, .int .i64 f]⟩, .agg ⟨[.int .i64 u, .int .i64 v]⟩, .int .u16 w] (.bool true) := by
  by_cases hh : vpntM a b = true ∧ vpntM c d = true ∧ vpntM e f = true
  · obtain ⟨hq, hc, hd⟩ := hh
    obtain ⟨p, q, t1, v1, p1, p2, p3, p4, p5⟩ := thr_ok hq hc hw.1 hw.2
    obtain ⟨p', q', t2, v2, k1, k2, k3, k4, k5⟩ := thr_ok hq hd hw.1 hw.2
    have C3 := crs_hold hq hc hd v1 v2 ⟨p1, p2, p3⟩ ⟨k1, k2, k3⟩ p4 p5 k4 k5
    have C4 := crs_hold hq hd hc v2 v1 ⟨k1, k2, k3⟩ ⟨p1, p2, p3⟩ k4 k5 p4 p5
    have X3 : HoldX c d p q e f p' q' a b := by
      rcases C3 with h | ⟨A, B, L, R, A', B', L', R', ex, _, _, _, _, x1, x2, x3⟩
      · exact .inl h
      · exact .inr ⟨A, B, L, R, A', B', L', R', ex, has_tt x1 x2 x3⟩
    have X4 : HoldX e f p' q' c d p q a b := by
      rcases C4 with h | ⟨A, B, L, R, A', B', L', R', ex, _, _, _, _, x1, x2, x3⟩
      · exact .inl h
      · exact .inr ⟨A, B, L, R, A', B', L', R', ex, has_tt x1 x2 x3⟩
    rcases ner_or (a := c) (b := c) (c := d) (d := d) (e := p) (f := q) (u := e) (v := e) (w := f) (x := f) (y := p') (z := q') (i := u) (j := v) with ⟨hv, e5⟩ | ⟨_, N1, N2⟩
    · exact c36e1_any a b c d e f u v w hw fun _ _ _ => ⟨p, q, p', q', t1, t2, X3, X4, e5, hv⟩
    · rcases C3 with ⟨k, hk, ex⟩ | ⟨A, B, L, R, A', B', L', R', ex, m1, m2, m3, m4, x1, x2, x3⟩
      · have e5 := N1 k (by omega) ex
        rcases hk with rfl | rfl
        · exact c36e21_any a b c d e f u v w hw fun _ _ _ => ⟨p, q, p', q', t1, t2, X3, X4, e5, .inl ex⟩
        · exact c36e24_any a b c d e f u v w hw fun _ _ _ => ⟨p, q, p', q', t1, t2, X3, X4, e5, .inl ex⟩
      · have ht := has_tt x1 x2 x3
        rcases N2 A B L R A' B' L' R' m1 m2 m3 m4 ex with e5 | e5 | e5
        · exact c36e0_any A B L R a b c d e f u v w hw fun _ _ _ => ⟨p, q, p', q', t1, t2, X3, X4, e5, A, B, L, R, A', B', L', R', ex, ht, .inl ⟨rfl, rfl, rfl, rfl⟩⟩
        · exact c36e0_any A' B' L' R' a b c d e f u v w hw fun _ _ _ => ⟨p, q, p', q', t1, t2, X3, X4, e5, A, B, L, R, A', B', L', R', ex, ht, .inr ⟨rfl, rfl, rfl, rfl⟩⟩
        · exact c36e24_any a b c d e f u v w hw fun _ _ _ => ⟨p, q, p', q', t1, t2, X3, X4, e5, .inr ⟨A, B, L, R, A', B', L', R', ex, ht⟩⟩
  · exact c36e1_any a b c d e f u v w hw fun h1 h2 h3 => absurd ⟨h1, h2, h3⟩ hh
end Go.Proofs.YtkjnheahaimpoaaGreat

/-
  CrossingHolds answers true.
-/
import Derived.Test.YtkjnheahaimpoaaGreatL36o
import Derived.Test.YtkjnheahaimpoaaGreatCg
namespace Go.Proofs.YtkjnheahaimpoaaGreat
open Ev

open SM TB TA
open Ev (lt keepE)
def thrV (r : Int × Int × Int × Int × Int × Int × Bool) : Value := .tuple ⟨[.agg ⟨[.int .i64 r.1, .int .i64 r.2.1, .int .i64 r.2.2.1, .int .i64 r.2.2.2.1, .int .i64 r.2.2.2.2.1, .int .i64 r.2.2.2.2.2.1]⟩, .bool r.2.2.2.2.2.2]⟩
def twoB (r : Bool × Bool) : Value := .tuple ⟨[.bool r.1, .bool r.2]⟩
def ePPI (F : Int → Int → Int → Int → Int → Value) : Ent
  | [.v (.agg ⟨[.int .i64 a, .int .i64 b]⟩), .v (.agg ⟨[.int .i64 c, .int .i64 d]⟩), .v (.int .i64 e)], [] => some (true, .v (F a b c d e), [])
  | _, _ => none
theorem ePPI_ok {P : Program} {g : FuncId} {F : Int → Int → Int → Int → Int → Value} (h : ∀ a b c d e, Gives P g [.agg ⟨[.int .i64 a, .int .i64 b]⟩, .agg ⟨[.int .i64 c, .int .i64 d]⟩, .int .i64 e] (F a b c d e)) (args : List AV) (L : Ev.Loc) (z : Bool) (r : AV) (L' : Ev.Loc) (q : ePPI F args L = some (z, r, L')) (_ : z = true) : Runs P g args L r L' := by
  unfold ePPI at q
  split at q
  · cases q
    exact gives_runs (h _ _ _ _ _)
  · cases q
def eSSP (F : Int → Int → Int → Int → Int → Int → Int → Int → Int → Int → Value) : Ent
  | [.v (.agg ⟨[.int .i64 a, .int .i64 b, .int .i64 c, .int .i64 d]⟩), .v (.agg ⟨[.int .i64 e, .int .i64 f, .int .i64 u, .int .i64 v]⟩), .v (.agg ⟨[.int .i64 w, .int .i64 x]⟩)], [] => some (true, .v (F a b c d e f u v w x), [])
  | _, _ => none
theorem eSSP_ok {P : Program} {g : FuncId} {F : Int → Int → Int → Int → Int → Int → Int → Int → Int → Int → Value} (h : ∀ a b c d e f u v w x, Gives P g [.agg ⟨[.int .i64 a, .int .i64 b, .int .i64 c, .int .i64 d]⟩, .agg ⟨[.int .i64 e, .int .i64 f, .int .i64 u, .int .i64 v]⟩, .agg ⟨[.int .i64 w, .int .i64 x]⟩] (F a b c d e f u v w x)) (args : List AV) (L : Ev.Loc) (z : Bool) (r : AV) (L' : Ev.Loc) (q : eSSP F args L = some (z, r, L')) (_ : z = true) : Runs P g args L r L' := by
  unfold eSSP at q
  split at q
  · cases q
    exact gives_runs (h _ _ _ _ _ _ _ _ _ _)
  · cases q
noncomputable def thrM (a b c d e : Int) : Int × Int × Int × Int × Int × Int × Bool :=
  lt (pofM a b) fun x1 =>
  lt (ctanM c c d d 0 0 a b) fun x2 =>
  cond (x1.2.2.2.2 != 0)
  ((0, 0, 0, 0, 0, 0, false))
  (cond (x2.2.2.2.2.2.2 != 0)
   ((0, 0, 0, 0, 0, 0, false))
   (cond (x1.1 != a)
    ((0, 0, 0, 0, 0, 0, false))
    ((c, c, d, d, (mx 0 (IntKind.i64.wrap (x2.2.2.2.2.1 - e))), (mn 10800000 (IntKind.i64.wrap (x2.2.2.2.2.2.1 + e))), (cvalM c c d d (mx 0 (IntKind.i64.wrap (x2.2.2.2.2.1 - e))) (mn 10800000 (IntKind.i64.wrap (x2.2.2.2.2.2.1 + e))))))))
noncomputable def book_thrM_gives : Book := [(18, eT (fun a b c d e f => .bool (cvalM a b c d e f))), (20, eTP (fun a b c d e f u v => cirV (ctanM a b c d e f u v))), (49, eP (fun a b => solV (pofM a b)))]
theorem book_thrM_gives_ok : BookOk Tryz.prog book_thrM_gives := (bookOk_cons (eT_ok cvalM_gives) (bookOk_cons (eTP_ok ctanM_gives) (bookOk_cons (eP_ok pofM_gives) bookOk_nil)))
theorem thrM_gives_tree (a b c d e : Int) : evF Tryz.prog Es Cs book_thrM_gives 20 6 32 ([.agg ⟨[.int .i64 a, .int .i64 b]⟩, .agg ⟨[.int .i64 c, .int .i64 d]⟩, .int .i64 e].map AV.v) [] [] last =
  lt (pofM a b) fun x1 =>
  lt (ctanM c c d d 0 0 a b) fun x2 =>
  cond (x1.2.2.2.2 != 0)
  (some (.v (.tuple ⟨[.agg ⟨[.int .i64 0, .int .i64 0, .int .i64 0, .int .i64 0, .int .i64 0, .int .i64 0]⟩, .bool false]⟩)))
  (cond (x2.2.2.2.2.2.2 != 0)
   (some (.v (.tuple ⟨[.agg ⟨[.int .i64 0, .int .i64 0, .int .i64 0, .int .i64 0, .int .i64 0, .int .i64 0]⟩, .bool false]⟩)))
   (cond (x1.1 != a)
    (some (.v (.tuple ⟨[.agg ⟨[.int .i64 0, .int .i64 0, .int .i64 0, .int .i64 0, .int .i64 0, .int .i64 0]⟩, .bool false]⟩)))
    (some (.v (.tuple ⟨[.agg ⟨[.int .i64 c, .int .i64 c, .int .i64 d, .int .i64 d, .int .i64 (mx 0 (IntKind.i64.wrap (x2.2.2.2.2.1 - e))), .int .i64 (mn 10800000 (IntKind.i64.wrap (x2.2.2.2.2.2.1 + e)))]⟩, .bool (cvalM c c d d (mx 0 (IntKind.i64.wrap (x2.2.2.2.2.1 - e))) (mn 10800000 (IntKind.i64.wrap (x2.2.2.2.2.2.1 + e))))]⟩))))) := by kernel_rfl
theorem thrM_gives (a b c d e : Int) : Gives Tryz.prog 32 [.agg ⟨[.int .i64 a, .int .i64 b]⟩, .agg ⟨[.int .i64 c, .int .i64 d]⟩, .int .i64 e] (thrV (thrM a b c d e)) := by
  refine evF_gives (E := Es) mixed Es_ok Cs_ok book_thrM_gives_ok (lim := 20) (d := 6) (nm := []) ?_
  rw [thrM_gives_tree a b c d e]
  unfold thrM
  refine case_lt (fun (r : Int × Int × Int × Int × Int × Int × Bool) => AV.v (thrV (r))) fun _ => ?_
  refine case_lt (fun (r : Int × Int × Int × Int × Int × Int × Bool) => AV.v (thrV (r))) fun _ => ?_
  refine case_cond (fun (r : Int × Int × Int × Int × Int × Int × Bool) => AV.v (thrV (r))) ?_ ?_
  · rfl
  · refine case_cond (fun (r : Int × Int × Int × Int × Int × Int × Bool) => AV.v (thrV (r))) ?_ ?_
    · rfl
    · refine case_cond (fun (r : Int × Int × Int × Int × Int × Int × Bool) => AV.v (thrV (r))) ?_ ?_
      · rfl
      · rfl
noncomputable def hasM (a b c d e f u v w x : Int) : Bool × Bool :=
  lt (pconM a b c d w x) fun x1 =>
  lt (pconM e f u v w x) fun x2 =>
  cond x1.1
  (cond (x1.2 == 0)
   ((true, (x2.2 == 0)))
   ((true, false)))
  (cond (x1.2 == 0)
   ((x2.1, (x2.2 == 0)))
   ((x2.1, false)))
noncomputable def book_hasM_gives : Book := [(25, eSP (fun a b c d e f => boolV (pconM a b c d e f)))]
theorem book_hasM_gives_ok : BookOk Tryz.prog book_hasM_gives := (bookOk_cons (eSP_ok pconM_gives) bookOk_nil)
theorem hasM_gives_tree (a b c d e f u v w x : Int) : evF Tryz.prog Es Cs book_hasM_gives 20 6 35 ([.agg ⟨[.int .i64 a, .int .i64 b, .int .i64 c, .int .i64 d]⟩, .agg ⟨[.int .i64 e, .int .i64 f, .int .i64 u, .int .i64 v]⟩, .agg ⟨[.int .i64 w, .int .i64 x]⟩].map AV.v) [] [] last =
  lt (pconM a b c d w x) fun x1 =>
  lt (pconM e f u v w x) fun x2 =>
  cond x1.1
  (cond (x1.2 == 0)
   (some (.v (.tuple ⟨[.bool true, .bool (x2.2 == 0)]⟩)))
   (some (.v (.tuple ⟨[.bool true, .bool false]⟩))))
  (cond (x1.2 == 0)
   (some (.v (.tuple ⟨[.bool x2.1, .bool (x2.2 == 0)]⟩)))
   (some (.v (.tuple ⟨[.bool x2.1, .bool false]⟩)))) := by kernel_rfl
theorem hasM_gives (a b c d e f u v w x : Int) : Gives Tryz.prog 35 [.agg ⟨[.int .i64 a, .int .i64 b, .int .i64 c, .int .i64 d]⟩, .agg ⟨[.int .i64 e, .int .i64 f, .int .i64 u, .int .i64 v]⟩, .agg ⟨[.int .i64 w, .int .i64 x]⟩] (twoB (hasM a b c d e f u v w x)) := by
  refine evF_gives (E := Es) mixed Es_ok Cs_ok book_hasM_gives_ok (lim := 20) (d := 6) (nm := []) ?_
  rw [hasM_gives_tree a b c d e f u v w x]
  unfold hasM
  refine case_lt (fun (r : Bool × Bool) => AV.v (twoB (r))) fun _ => ?_
  refine case_lt (fun (r : Bool × Bool) => AV.v (twoB (r))) fun _ => ?_
  refine case_cond (fun (r : Bool × Bool) => AV.v (twoB (r))) ?_ ?_
  · refine case_cond (fun (r : Bool × Bool) => AV.v (twoB (r))) ?_ ?_
    · rfl
    · rfl
  · refine case_cond (fun (r : Bool × Bool) => AV.v (twoB (r))) ?_ ?_
    · rfl
    · rfl
theorem con_ok {A B L R x y : Int} (la : latB A B = true) (kl : LonP L R) (x0 : A ≤ x) (x1 : x ≤ B) (y0 : -10800000 ≤ y) (y1 : y < 10800000) (h : (L = -10800000 ∧ R = 10800000) ∨ (y - L) % 21600000 ≤ R - L) : pconM A B L R x y = (true, 0) := by
  have lb := lat_bd la
  have bl := lonP_bd kl
  have vp : vpntM x y = true := by
    unfold vpntM
    rw [decide_eq_true (show x ≥ -5400000 by omega), decide_eq_true (show x ≤ 5400000 by omega), decide_eq_true (show y ≥ -10800000 from y0), decide_eq_true y1]; rfl
  have hh : phasM L R y = true := by
    unfold phasM beyM wrapN
    rw [pall_eq, i64w (x := y - L) (by omega), i64w (x := R - L) (by omega)]
    rcases h with h | h
    · rw [decide_eq_true h]; rfl
    · rw [decide_eq_true h]; simp
  unfold pconM
  rw [pval_mk la kl, vp, Bool.not_true, cond_false, cond_false, decide_eq_false (show ¬ x < A by omega), decide_eq_false (show ¬ x > B by omega), cond_false, cond_false, hh]
  cases (x == 5400000) <;> cases (x == (-5400000)) <;> rfl
theorem side_mk {a b : Int} (h0 : 0 ≤ a) (h1 : a ≤ b) (h2 : b ≤ 10800000) : sideM a b = true := by
  unfold sideM
  rw [avalid_mk (by omega) h1 (by omega), decide_eq_true (show a ≥ 0 from h0), decide_eq_true h2]
  rfl
theorem vpnt_bd {a b : Int} (h : vpntM a b = true) : -5400000 ≤ a ∧ a ≤ 5400000 ∧ -10800000 ≤ b ∧ b < 10800000 := by
  unfold vpntM at h
  by_cases g1 : a ≥ -5400000
  · by_cases g2 : a ≤ 5400000
    · by_cases g3 : b ≥ -10800000
      · rw [decide_eq_true g1, decide_eq_true g2, decide_eq_true g3] at h
        exact ⟨g1, g2, g3, of_decide_eq_true h⟩
      · rw [decide_eq_true g1, decide_eq_true g2, decide_eq_false g3] at h; cases h
    · rw [decide_eq_true g1, decide_eq_false g2] at h; cases h
  · rw [decide_eq_false g1] at h; cases h
/-- A circle through a point. -/
theorem thr_ok {y o c cl w : Int} (hq : vpntM y o = true) (hc : vpntM c cl = true) (w0 : 0 ≤ w) (w1 : w ≤ 65535) :
    ∃ p q : Int, thrM y o c cl w = (c, c, cl, cl, p, q, true) ∧ cvalM c c cl cl p q = true ∧ 0 ≤ p ∧ p ≤ q ∧ q ≤ 10800000 ∧ p ≤ 5400000 - (cwH y c (o - cl)).2.1 ∧ 5400000 - (cwH y c (o - cl)).1 ≤ q := by
  obtain ⟨y0, y1, o0, o1⟩ := vpnt_bd hq
  obtain ⟨c0, c1, l0, l1⟩ := vpnt_bd hc
  have lc : latB c c = true := lat_mk c0 (Int.le_refl c) c1
  have kl : LonP cl cl := .inr (by omega)
  obtain ⟨Z, eZ, dZ, dA, et⟩ := ctan_ok (u := y) (v := o) lc kl (Int.le_refl 0) (Int.le_refl 0) (by omega) y0 y1 o0 o1
  have eH : asinR (cupE y y c c (o - cl) (o - cl)).1 (cupE y y c c (o - cl) (o - cl)).2.1 = cwH y c (o - cl) := rfl
  rw [eH] at dA et
  generalize cwH y c (o - cl) = H at *
  obtain ⟨g1, g2, g3, _⟩ := dA
  have ep : pofM y o = (y, y, o, o, 0) := by
    unfold pofM
    rw [hq]
    rfl
  have cv : cvalM c c cl cl (max 0 (5400000 - H.2.1 - 0 - w)) (min 10800000 (5400000 - H.1 - 0 + w)) = true := cval_mk lc kl (by omega) (by omega) (by omega)
  refine ⟨_, _, ?_, cv, by omega, by omega, by omega, by omega, by omega⟩
  unfold thrM
  simp only [lt]
  rw [ep, et]
  dsimp only
  rw [z0', cond_false, cond_false, bne_self_eq_false, cond_false, i64w (x := 5400000 - H.2.1 - 0 - w) (by omega), i64w (x := 5400000 - H.1 - 0 + w) (by omega), mx_max, mn_min, cv]
/-- The crossings hold the point. -/
theorem crs_hold {y o c cl d dl p q p' q' : Int} (hy : vpntM y o = true) (hc : vpntM c cl = true) (hd : vpntM d dl = true) (ca : cvalM c c cl cl p q = true) (cb : cvalM d d dl dl p' q' = true)
    (hp : 0 ≤ p ∧ p ≤ q ∧ q ≤ 10800000) (hp' : 0 ≤ p' ∧ p' ≤ q' ∧ q' ≤ 10800000) (r1 : p ≤ 5400000 - (cwH y c (o - cl)).2.1) (r2 : 5400000 - (cwH y c (o - cl)).1 ≤ q) (r3 : p' ≤ 5400000 - (cwH y d (o - dl)).2.1) (r4 : 5400000 - (cwH y d (o - dl)).1 ≤ q') :
    (∃ k : Int, (k = 21 ∨ k = 24) ∧ xcrsM c c cl cl p q d d dl dl p' q' = (0, 0, 0, 0, 0, 0, 0, 0, k)) ∨
    ∃ A B L R A' B' L' R' : Int, xcrsM c c cl cl p q d d dl dl p' q' = (A, B, L, R, A', B', L', R', 0) ∧ latB A B = true ∧ LonP L R ∧ latB A' B' = true ∧ LonP L' R' ∧ (pconM A B L R y o).2 = 0 ∧ (pconM A' B' L' R' y o).2 = 0 ∧ ((pconM A B L R y o).1 = true ∨ (pconM A' B' L' R' y o).1 = true) := by
  obtain ⟨y0, y1, o0, o1⟩ := vpnt_bd hy
  obtain ⟨c0, c1, l0, l1⟩ := vpnt_bd hc
  obtain ⟨d0, d1, m0, m1⟩ := vpnt_bd hd
  have lc : latB c c = true := lat_mk c0 (Int.le_refl c) c1
  have ld : latB d d = true := lat_mk d0 (Int.le_refl d) d1
  have ly : latB y y = true := lat_mk y0 (Int.le_refl y) y1
  have kl : LonP cl cl := .inr (by omega)
  have V := cross_hold (c := c) (d := d) (y := y) (t1 := cl - dl) (t2 := o - cl) (t3 := o - dl) lc ld ly (by omega) (by omega) (by omega) hp hp' r1 r2 r3 r4
  have vt : avalidB (cl - dl) (cl - dl) = true := avalid_mk (by omega) (Int.le_refl _) (by omega)
  obtain ⟨q1, q2, q3, q4, q5⟩ := csol_eq (tri_mk lc ld vt)
  have eH : asinR (cupE c c d d (cl - dl) (cl - dl)).1 (cupE c c d d (cl - dl) (cl - dl)).2.1 = cwH c d (cl - dl) := rfl
  have eZ : bearR (ceaE d d (cl - dl) (cl - dl)).1 (ceaE d d (cl - dl) (cl - dl)).2.1 (cnoE c c d d (cl - dl) (cl - dl)).1 (cnoE c c d d (cl - dl) (cl - dl)).2.1 = cwZ c d (cl - dl) := rfl
  rw [eH] at q1 q2
  rw [eZ] at q1 q3
  have eO : angZ (angT p' q' p q (5400000 - (cwH c d (cl - dl)).2.1) (5400000 - (cwH c d (cl - dl)).1)) (angL p q (5400000 - (cwH c d (cl - dl)).2.1) (5400000 - (cwH c d (cl - dl)).1)) = cwO c d (cl - dl) p q p' q' := rfl
  obtain ⟨g1, g2, g3, g4⟩ := q2
  obtain ⟨z1, z2, z3, z4, z5⟩ := q3
  have aw := angl_ok (side_mk hp'.1 hp'.2.1 hp'.2.2) (side_mk hp.1 hp.2.1 hp.2.2) (side_mk (a := 5400000 - (cwH c d (cl - dl)).2.1) (b := 5400000 - (cwH c d (cl - dl)).1) (by omega) (by omega) (by omega))
  rw [eO] at aw
  have et : xtriM c c cl cl d d dl dl p' q' = (c, c, d, d, cl - dl, cl - dl, 0) := by
    unfold xtriM
    rw [asub_ok (a := cl) (b := cl) (c := dl) (d := dl) (by omega) (Int.le_refl _) (by omega) (by omega) (Int.le_refl _) (by omega)]
    rfl
  unfold xcrsM
  rw [ca, cb, et, Bool.not_true, cond_false, cond_false]
  simp only [lt]
  rw [z0', cond_false, q1]
  dsimp only
  rw [z0', cond_false, asub_ok (a := 5400000) (b := 5400000) (c := (cwH c d (cl - dl)).1) (d := (cwH c d (cl - dl)).2.1) (by omega) (by omega) (by omega) (by omega) (by omega) (by omega)]
  dsimp only
  rw [z0', cond_false, aw]
  generalize cwO c d (cl - dl) p q p' q' = W at *
  generalize cwZ c d (cl - dl) = Z at *
  rcases V with V | V | ⟨v1, v2, v3, v4, V⟩
  · left
    rw [V]
    exact ⟨21, .inl rfl, rfl⟩
  · left
    rw [V]
    exact ⟨24, .inr rfl, rfl⟩
  right
  have vS : avalidB (Z.1 - W.2.1) (Z.2.1 - W.1) = true := avalid_mk (by omega) (by omega) (by omega)
  have vA : avalidB (Z.1 + W.1) (Z.2.1 + W.2.1) = true := avalid_mk (by omega) (by omega) (by omega)
  rw [v1, show ((0 : Int) == 0) = true from rfl, cond_true, asub_ok (a := Z.1) (b := Z.2.1) (c := W.1) (d := W.2.1) (by omega) z2 (by omega) (by omega) v3 (by omega), aadd_ok (a := Z.1) (b := Z.2.1) (c := W.1) (d := W.2.1) (by omega) z2 (by omega) (by omega) v3 (by omega)]
  dsimp only
  rw [z0', cond_false, cond_false, cat_ok lc kl hp.1 hp.2.1 hp.2.2 vS, cat_ok lc kl hp.1 hp.2.1 hp.2.2 vA]
  dsimp only
  rw [z0', cond_false, cond_false]
  have vp : avalidB p q = true := avalid_mk (by omega) hp.2.1 (by omega)
  obtain ⟨A1, B1⟩ := at_one lc vp vS
  obtain ⟨A2, B2⟩ := at_one lc vp vA
  have fin : ∀ u v : Int, LatR (atA c c p q u v) → DirR (atB c c p q u v) → Inn c p q u v y (o - cl) → (pconM (atA c c p q u v).1 (atA c c p q u v).2.1 (lonL (cl + (atB c c p q u v).1) (cl + (atB c c p q u v).2.1)) (lonH (cl + (atB c c p q u v).1) (cl + (atB c c p q u v).2.1)) y o).1 = true := fun u v la db hi => by
    obtain ⟨i1, i2, k, i3, i4⟩ := hi
    have eA : asinR (atU c c p q u v).1 (atU c c p q u v).2.1 = atA c c p q u v := rfl
    have eB : bearR (atE p q u v).1 (atE p q u v).2.1 (atN c c p q u v).1 (atN c c p q u v).2.1 = atB c c p q u v := rfl
    rw [eA] at i1 i2
    rw [eB] at i3 i4
    generalize atA c c p q u v = A at *
    generalize atB c c p q u v = B at *
    obtain ⟨a1, a2, a3, _⟩ := la
    obtain ⟨b1, b2, b3, b4, _⟩ := db
    have h := con_ok (x := y) (y := o) (lat_mk a1 a2 a3) (lon_P (show cl + B.1 ≤ cl + B.2.1 by omega)) i1 i2 o0 o1 (by
      by_cases g : cl + B.2.1 - (cl + B.1) < 21600000
      · obtain ⟨j, j1, j2⟩ := lon_rep g
        right
        rw [j1, j2]
        omega
      · left
        unfold lonL lonH
        rw [if_pos (by omega), if_pos (by omega)]
        exact ⟨rfl, rfl⟩)
    rw [h]
  have m1 := lat_mk A1.1 A1.2.1 A1.2.2.1
  have m2 := lat_mk A2.1 A2.2.1 A2.2.2.1
  have n1 : LonP (lonL (cl + (atB c c p q (Z.1 - W.2.1) (Z.2.1 - W.1)).1) (cl + (atB c c p q (Z.1 - W.2.1) (Z.2.1 - W.1)).2.1)) (lonH (cl + (atB c c p q (Z.1 - W.2.1) (Z.2.1 - W.1)).1) (cl + (atB c c p q (Z.1 - W.2.1) (Z.2.1 - W.1)).2.1)) := lon_P (by have := B1.2.1; omega)
  have n2 : LonP (lonL (cl + (atB c c p q (Z.1 + W.1) (Z.2.1 + W.2.1)).1) (cl + (atB c c p q (Z.1 + W.1) (Z.2.1 + W.2.1)).2.1)) (lonH (cl + (atB c c p q (Z.1 + W.1) (Z.2.1 + W.2.1)).1) (cl + (atB c c p q (Z.1 + W.1) (Z.2.1 + W.2.1)).2.1)) := lon_P (by have := B2.2.1; omega)
  refine ⟨_, _, _, _, _, _, _, _, rfl, m1, n1, m2, n2, (con_any m1 n1 hy).1, (con_any m2 n2 hy).1, ?_⟩
  rcases V with V | V
  · exact .inl (fin _ _ A1 B1 V)
  · exact .inr (fin _ _ A2 B2 V)
noncomputable def book_c36ho_any : Book := [(25, eSP (fun a b c d e f => boolV (pconM a b c d e f))), (30, e0 (.bool (true))), (31, eP (fun a b => .bool (vpntM a b))), (32, ePPI (fun a b c d e => thrV (thrM a b c d e))), (33, eTT (fun a b c d e f u v w x y z => crsV (xcrsM a b c d e f u v w x y z)))]
theorem book_c36ho_any_ok : BookOk Tryz.prog book_c36ho_any := (bookOk_cons (eSP_ok pconM_gives) (bookOk_cons (e0_ok awake36_gives) (bookOk_cons (eP_ok vpntM_gives) (bookOk_cons (ePPI_ok thrM_gives) (bookOk_cons (eTT_ok xcrsM_gives) bookOk_nil)))))
theorem c36ho_any_tree (a b c d e f u : Int) : evF Tryz.prog Es Cs book_c36ho_any 20 6 7 ([.agg ⟨[.int .i64 a, .int .i64 b]⟩, .agg ⟨[.int .i64 c, .int .i64 d]⟩, .agg ⟨[.int .i64 e, .int .i64 f]⟩, .int .u16 u].map AV.v) [] [] last =
  cond (!(true))
  (some (.v (.bool false)))
  (cond (!(vpntM a b))
   (some (.v (.bool true)))
   (cond (!(vpntM c d))
    (some (.v (.bool true)))
    (cond (!(vpntM e f))
     (some (.v (.bool true)))
     (lt (thrM a b c d (IntKind.i64.wrap (u))) fun x1 =>
      lt (thrM a b e f (IntKind.i64.wrap (u))) fun x2 =>
      cond (!x1.2.2.2.2.2.2)
      (some (.v (.bool false)))
      (cond (!x2.2.2.2.2.2.2)
       (some (.v (.bool false)))
       (lt (xcrsM x1.1 x1.2.1 x1.2.2.1 x1.2.2.2.1 x1.2.2.2.2.1 x1.2.2.2.2.2.1 x2.1 x2.2.1 x2.2.2.1 x2.2.2.2.1 x2.2.2.2.2.1 x2.2.2.2.2.2.1) fun x3 =>
        cond (x3.2.2.2.2.2.2.2.2 != 0)
        (cond ((x3.1 == 0) && ((x3.2.1 == 0) && ((x3.2.2.1 == 0) && ((x3.2.2.2.1 == 0) && true))))
         (cond ((x3.2.2.2.2.1 == 0) && ((x3.2.2.2.2.2.1 == 0) && ((x3.2.2.2.2.2.2.1 == 0) && ((x3.2.2.2.2.2.2.2.1 == 0) && true))))
          (cond (x3.2.2.2.2.2.2.2.2 == 21)
           (some (.v (.bool true)))
           (some (.v (.bool (x3.2.2.2.2.2.2.2.2 == 24)))))
          (some (.v (.bool false))))
         (some (.v (.bool false))))
        (lt (pconM x3.1 x3.2.1 x3.2.2.1 x3.2.2.2.1 a b) fun x4 =>
         lt (pconM x3.2.2.2.2.1 x3.2.2.2.2.2.1 x3.2.2.2.2.2.2.1 x3.2.2.2.2.2.2.2.1 a b) fun x5 =>
         cond (x4.2 == 0)
         (cond (x5.2 == 0)
          (cond x4.1
           (some (.v (.bool true)))
           (some (.v (.bool x5.1))))
          (some (.v (.bool false))))
         (some (.v (.bool false)))))))))) := by kernel_rfl
theorem c36ho_any (a b c d e f u : Int) (hu : 0 ≤ u ∧ u ≤ 65535) : Gives Tryz.prog 7 [.agg ⟨[.int .i64 a, .int .i64 b]⟩, .agg ⟨[.int .i64 c, .int .i64 d]⟩, .agg ⟨[.int .i64 e, .int .i64 f]⟩, .int .u16 u] (.bool true) := by
  refine evF_gives (E := Es) mixed Es_ok Cs_ok book_c36ho_any_ok (lim := 20) (d := 6) (nm := []) ?_
  rw [c36ho_any_tree]
  simp only [lt, Bool.not_true, cond_false]
  cases hq : vpntM a b with
  | false => rfl
  | true =>
  cases hc : vpntM c d with
  | false => rfl
  | true =>
  cases hd : vpntM e f with
  | false => rfl
  | true =>
  rw [Bool.not_true, cond_false, cond_false, cond_false, i64w (x := u) (by omega)]
  obtain ⟨p, q, t1, v1, p1, p2, p3, p4, p5⟩ := thr_ok hq hc hu.1 hu.2
  obtain ⟨p', q', t2, v2, k1, k2, k3, k4, k5⟩ := thr_ok hq hd hu.1 hu.2
  rw [t1, t2]
  dsimp only
  rw [Bool.not_true, cond_false, cond_false]
  rcases crs_hold hq hc hd v1 v2 ⟨p1, p2, p3⟩ ⟨k1, k2, k3⟩ p4 p5 k4 k5 with ⟨k, hk, ex⟩ | ⟨A, B, L, R, A', B', L', R', ex, _, _, _, _, x1, x2, x3⟩
  · rw [ex]
    rcases hk with rfl | rfl <;> rfl
  · rw [ex]
    dsimp only
    rw [x1, x2, z0', cond_false]
    rcases x3 with x3 | x3
    · rw [x3]
      rfl
    · rw [x3]
      cases (pconM A B L R a b).1 <;> rfl
end Go.Proofs.YtkjnheahaimpoaaGreat

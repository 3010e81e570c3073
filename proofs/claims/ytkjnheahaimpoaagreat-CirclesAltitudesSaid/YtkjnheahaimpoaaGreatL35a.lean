/-
  CirclesAltitudes answers true.
-/
import Derived.Test.YtkjnheahaimpoaaGreatL35
namespace Go.Proofs.YtkjnheahaimpoaaGreat
open Ev

open SM TB TA
open Ev (lt keepE)
noncomputable def cofM (a b c d e f _u _v _w _x : Int) : Int × Int × Int × Int × Int × Int × Int :=
  cond (!(avalidB a b))
  ((0, 0, 0, 0, 0, 0, 1))
  (cond (!(avalidB c d))
   ((0, 0, 0, 0, 0, 0, 1))
   (cond (!(clatM e f))
    ((0, 0, 0, 0, 0, 0, 1))
    (cond (decide (a < (-5400000)))
     ((0, 0, 0, 0, 0, 0, 2))
     (cond (decide (b > 5400000))
      ((0, 0, 0, 0, 0, 0, 2))
      (lt (clonM (IntKind.i64.wrap (0 - d)) (IntKind.i64.wrap (0 - c))) fun x1 =>
       (e, f, x1.1, x1.2, IntKind.i64.wrap (5400000 - b), IntKind.i64.wrap (5400000 - a), 0))))))
noncomputable def book_cofM_gives : Book := [(46, eP (fun a b => .bool (avalidB a b))), (47, eP (fun a b => .bool (clatM a b))), (48, eP (fun a b => pairV (clonM a b).1 (clonM a b).2))]
theorem book_cofM_gives_ok : BookOk Tryz.prog book_cofM_gives := (bookOk_cons (eP_ok gvalid_any) (bookOk_cons (eP_ok clatM_gives) (bookOk_cons (eP_ok clonM_gives) bookOk_nil)))
theorem cofM_gives_tree (a b c d e f u v w x : Int) : evF Tryz.prog Es Cs book_cofM_gives 20 6 16 ([.agg ⟨[.int .i64 a, .int .i64 b]⟩, .agg ⟨[.int .i64 c, .int .i64 d, .int .i64 e, .int .i64 f, .int .i64 u, .int .i64 v, .int .i64 w, .int .i64 x]⟩].map AV.v) [] [] last =
  cond (!(avalidB a b))
  (some (.v (.tuple ⟨[.agg ⟨[.int .i64 0, .int .i64 0, .int .i64 0, .int .i64 0, .int .i64 0, .int .i64 0]⟩, .int .i64 1]⟩)))
  (cond (!(avalidB c d))
   (some (.v (.tuple ⟨[.agg ⟨[.int .i64 0, .int .i64 0, .int .i64 0, .int .i64 0, .int .i64 0, .int .i64 0]⟩, .int .i64 1]⟩)))
   (cond (!(clatM e f))
    (some (.v (.tuple ⟨[.agg ⟨[.int .i64 0, .int .i64 0, .int .i64 0, .int .i64 0, .int .i64 0, .int .i64 0]⟩, .int .i64 1]⟩)))
    (cond (decide (a < (-5400000)))
     (some (.v (.tuple ⟨[.agg ⟨[.int .i64 0, .int .i64 0, .int .i64 0, .int .i64 0, .int .i64 0, .int .i64 0]⟩, .int .i64 2]⟩)))
     (cond (decide (b > 5400000))
      (some (.v (.tuple ⟨[.agg ⟨[.int .i64 0, .int .i64 0, .int .i64 0, .int .i64 0, .int .i64 0, .int .i64 0]⟩, .int .i64 2]⟩)))
      (lt (clonM (IntKind.i64.wrap (0 - d)) (IntKind.i64.wrap (0 - c))) fun x1 =>
       some (.v (.tuple ⟨[.agg ⟨[.int .i64 e, .int .i64 f, .int .i64 x1.1, .int .i64 x1.2, .int .i64 (IntKind.i64.wrap (5400000 - b)), .int .i64 (IntKind.i64.wrap (5400000 - a))]⟩, .int .i64 0]⟩))))))) := by kernel_rfl
theorem cofM_gives (a b c d e f u v w x : Int) : Gives Tryz.prog 16 [.agg ⟨[.int .i64 a, .int .i64 b]⟩, .agg ⟨[.int .i64 c, .int .i64 d, .int .i64 e, .int .i64 f, .int .i64 u, .int .i64 v, .int .i64 w, .int .i64 x]⟩] (cirV (cofM a b c d e f u v w x)) := by
  refine evF_gives (E := Es) mixed Es_ok Cs_ok book_cofM_gives_ok (lim := 20) (d := 6) (nm := []) ?_
  rw [cofM_gives_tree a b c d e f u v w x]
  unfold cofM
  refine case_cond (fun (r : Int × Int × Int × Int × Int × Int × Int) => AV.v (cirV (r))) ?_ ?_
  · rfl
  · refine case_cond (fun (r : Int × Int × Int × Int × Int × Int × Int) => AV.v (cirV (r))) ?_ ?_
    · rfl
    · refine case_cond (fun (r : Int × Int × Int × Int × Int × Int × Int) => AV.v (cirV (r))) ?_ ?_
      · rfl
      · refine case_cond (fun (r : Int × Int × Int × Int × Int × Int × Int) => AV.v (cirV (r))) ?_ ?_
        · rfl
        · refine case_cond (fun (r : Int × Int × Int × Int × Int × Int × Int) => AV.v (cirV (r))) ?_ ?_
          · rfl
          · refine case_lt (fun (r : Int × Int × Int × Int × Int × Int × Int) => AV.v (cirV (r))) fun _ => ?_
            rfl
def ePG8 (F : Int → Int → Int → Int → Int → Int → Int → Int → Int → Int → Value) : Ent
  | [.v (.agg ⟨[.int .i64 a, .int .i64 b]⟩), .v (.agg ⟨[.int .i64 c, .int .i64 d, .int .i64 e, .int .i64 f, .int .i64 u, .int .i64 v, .int .i64 w, .int .i64 x]⟩)], [] => some (true, .v (F a b c d e f u v w x), [])
  | _, _ => none
theorem ePG8_ok {P : Program} {g : FuncId} {F : Int → Int → Int → Int → Int → Int → Int → Int → Int → Int → Value} (h : ∀ a b c d e f u v w x, Gives P g [.agg ⟨[.int .i64 a, .int .i64 b]⟩, .agg ⟨[.int .i64 c, .int .i64 d, .int .i64 e, .int .i64 f, .int .i64 u, .int .i64 v, .int .i64 w, .int .i64 x]⟩] (F a b c d e f u v w x)) (args : List AV) (L : Ev.Loc) (z : Bool) (r : AV) (L' : Ev.Loc) (q : ePG8 F args L = some (z, r, L')) (_ : z = true) : Runs P g args L r L' := by
  unfold ePG8 at q
  split at q
  · cases q
    exact gives_runs (h _ _ _ _ _ _ _ _ _ _)
  · cases q
theorem cof_or (a b c d e f u v w x : Int) : (cofM a b c d e f u v w x).2.2.2.2.2.2 ≠ 0 ∨ (avalidB a b = true ∧ avalidB c d = true ∧ latB e f = true ∧ -5400000 ≤ a ∧ b ≤ 5400000 ∧ cofM a b c d e f u v w x = (e, f, lonL (-d) (-c), lonH (-d) (-c), 5400000 - b, 5400000 - a, 0)) := by
  unfold cofM
  cases h1 : avalidB a b with
  | false => left; simp
  | true =>
  cases h2 : avalidB c d with
  | false => left; simp
  | true =>
  cases h3 : clatM e f with
  | false => left; simp
  | true =>
  by_cases g1 : a < -5400000
  · left; rw [decide_eq_true g1]; simp
  by_cases g2 : b > 5400000
  · left; rw [decide_eq_true g2]; simp
  right
  have va := aval_bd h1
  have vg := aval_bd h2
  refine ⟨rfl, rfl, (pval_lat (c := 0) (d := 0) h3).1, by omega, by omega, ?_⟩
  rw [decide_eq_false g1, decide_eq_false g2]
  simp only [lt, Bool.not_true, cond_false]
  rw [show 0 - d = -d by omega, show 0 - c = -c by omega, i64w (x := -d) (by omega), i64w (x := -c) (by omega), clon_ok (by omega) (by omega) (by omega), i64w (x := 5400000 - b) (by omega), i64w (x := 5400000 - a) (by omega)]
theorem add_or {c d z : Int} (h : avalidB c d = true) (h' : avalidB z z = true) : (aaddR c d z z).2.2 ≠ 0 ∨ (aaddR c d z z = (c + z, d + z, 0) ∧ avalidB (c + z) (d + z) = true) := by
  have v := aval_bd h
  unfold aaddR
  rw [if_pos ⟨h, h'⟩]
  unfold resR
  split
  · rename_i g
    unfold fitsB at g
    have g1 := of_decide_eq_true g.1
    have g2 := of_decide_eq_true g.2
    exact .inr ⟨rfl, avalid_mk (by omega) (by omega) (by omega)⟩
  · left; simp
/-- The hour angle's cosine, told by the longitudes. -/
theorem lha_same {c d z : Int} (h : avalidB c d = true) (vs : avalidB (c + z) (d + z) = true) (z0 : -10800000 ≤ z) (z1 : z < 10800000) : cosR (z - lonH (-d) (-c)) (z - lonL (-d) (-c)) = cosR (c + z) (d + z) := by
  have v := aval_bd h
  have b := lonP_bd (lon_P (show -d ≤ -c by omega))
  have vt : avalidB (z - lonH (-d) (-c)) (z - lonL (-d) (-c)) = true := avalid_mk (by omega) (by omega) (by omega)
  by_cases g : -c - -d < 21600000
  · obtain ⟨k, e1, e2⟩ := lon_rep g
    exact cos_per (-k) vs vt (by rw [e2]; omega) (by rw [e1]; omega)
  · rw [cos_full vs (by omega), cos_full vt]
    unfold lonL lonH
    rw [if_pos (by omega), if_pos (by omega)]
    omega
def all12a (_a _b _c _d _e _f _u _v _w _x _y _z : Int) : Bool := true
noncomputable def book_c35al_any : Book := [(10, e0 (.bool (true))), (14, eTS (fun a b c d e f u v w x => twoI (csidM a b c d e f u v w x))), (16, ePG8 (fun a b c d e f u v w x => cirV (cofM a b c d e f u v w x))), (17, eP (fun a b => .bool (rvpM a b))), (18, eT (fun a b c d e f => .bool (cvalM a b c d e f))), (19, eP (fun a b => solP (rplM a b))), (20, eTP (fun a b c d e f u v => cirV (ctanM a b c d e f u v))), (21, ePP (fun a b c d => arcV (aaddR a b c d))), (23, eT (fun a b c d e f => arcV (cAltM a b c d e f)))]
theorem book_c35al_any_ok : BookOk Tryz.prog book_c35al_any := (bookOk_cons (e0_ok awake35_gives) (bookOk_cons (eTS_ok csidM_gives) (bookOk_cons (ePG8_ok cofM_gives) (bookOk_cons (eP_ok rvpM_gives) (bookOk_cons (eT_ok cvalM_gives) (bookOk_cons (eP_ok rplM_gives) (bookOk_cons (eTP_ok ctanM_gives) (bookOk_cons (ePP_ok aaddR_gives) (bookOk_cons (eT_ok cAltM_gives) bookOk_nil)))))))))
theorem c35al_any_tree (a b c d e f u v w x y z : Int) : evF Tryz.prog Es Cs book_c35al_any 20 6 4 ([.agg ⟨[.int .i64 a, .int .i64 b]⟩, .agg ⟨[.int .i64 c, .int .i64 d, .int .i64 e, .int .i64 f, .int .i64 u, .int .i64 v, .int .i64 w, .int .i64 x]⟩, .agg ⟨[.int .i64 y, .int .i64 z]⟩].map AV.v) [] [] last =
  cond (!(true))
  (some (.v (.bool false)))
  (lt (cofM a b c d e f u v w x) fun x1 =>
   cond (x1.2.2.2.2.2.2 != 0)
   (cond (x1.2.2.2.2.2.2 != 0)
    (some (.v (.bool true)))
    (some (.v (.bool (cvalM x1.1 x1.2.1 x1.2.2.1 x1.2.2.2.1 x1.2.2.2.2.1 x1.2.2.2.2.2.1)))))
   (cond (!(rvpM y z))
    (cond (x1.2.2.2.2.2.2 != 0)
     (some (.v (.bool true)))
     (some (.v (.bool (cvalM x1.1 x1.2.1 x1.2.2.1 x1.2.2.2.1 x1.2.2.2.2.1 x1.2.2.2.2.2.1)))))
    (lt (rplM y z) fun x2 =>
     lt (csidM x1.1 x1.2.1 x1.2.2.1 x1.2.2.2.1 x1.2.2.2.2.1 x1.2.2.2.2.2.1 x2.1 x2.2.1 x2.2.2.1 x2.2.2.2) fun x3 =>
     lt (ctanM x1.1 x1.2.1 x1.2.2.1 x1.2.2.2.1 x1.2.2.2.2.1 x1.2.2.2.2.2.1 y z) fun x4 =>
     lt (aaddR c d z z) fun x5 =>
     cond (x5.2.2 != 0)
     (some (.v (.bool true)))
     (lt (cAltM y y e f x5.1 x5.2.1) fun x6 =>
      cond (x3.2 != 0)
      (some (.v (.bool false)))
      (cond (x4.2.2.2.2.2.2 != 0)
       (some (.v (.bool false)))
       (cond (x6.2.2 != 0)
        (some (.v (.bool false)))
        (cond (x3.1 == 1)
         (cond (decide (x6.2.1 > b))
          (some (.v (.bool (decide (x4.2.2.2.2.1 < 0)))))
          (some (.v (.bool false))))
         (cond (x3.1 == (-1))
          (cond (decide (x6.1 < a))
           (some (.v (.bool (decide (x4.2.2.2.2.2.1 > 0)))))
           (some (.v (.bool false))))
          (some (.v (.bool (x3.1 == 0)))))))))))) := by kernel_rfl
theorem c35al_any (a b c d e f u v w x y z : Int) : Gives Tryz.prog 4 [.agg ⟨[.int .i64 a, .int .i64 b]⟩, .agg ⟨[.int .i64 c, .int .i64 d, .int .i64 e, .int .i64 f, .int .i64 u, .int .i64 v, .int .i64 w, .int .i64 x]⟩, .agg ⟨[.int .i64 y, .int .i64 z]⟩] (.bool (all12a a b c d e f u v w x y z)) := by
  refine evF_gives (E := Es) mixed Es_ok Cs_ok book_c35al_any_ok (lim := 20) (d := 6) (nm := []) ?_
  rw [c35al_any_tree a b c d e f u v w x y z]
  simp only [lt, Bool.not_true, cond_false]
  unfold all12a
  rcases cof_or a b c d e f u v w x with g | ⟨va, vg, la, a0, b1, ec⟩
  · rw [bne_iff_ne.2 g]
    rfl
  · have v1 := aval_bd va
    have v2 := aval_bd vg
    have kl : LonP (lonL (-d) (-c)) (lonH (-d) (-c)) := lon_P (by omega)
    rw [ec]
    dsimp only
    rw [z0', cond_false, cond_false, cval_mk la kl (by omega) (by omega) (by omega)]
    cases hp : rvpM y z with
    | false => rfl
    | true =>
    obtain ⟨y0, y1, z0, z1⟩ := rvp_bd hp
    have lu : latB y y = true := lat_mk y0 (Int.le_refl y) y1
    have kv : LonP z z := .inr (by omega)
    have er : rplM y z = (y, y, z, z) := rfl
    obtain ⟨Z, eZ, dZ, dA, et⟩ := ctan_ok (u := y) (v := z) la kl (show 0 ≤ 5400000 - b by omega) (show 5400000 - b ≤ 5400000 - a by omega) (by omega) y0 y1 z0 z1
    rw [er]
    dsimp only
    rw [csid_ok la kl (by omega) (by omega) (by omega) lu kv, et, Bool.not_true, cond_false]
    dsimp only
    rcases add_or (z := z) vg (avalid_mk (by omega) (by omega) (by omega)) with g | ⟨ea, vs⟩
    · rw [bne_iff_ne.2 g]
      rfl
    · obtain ⟨_, q2, _, q4, q5⟩ := csol_eq (tri_mk lu la vs)
      have eu : cupE y y e f (z - lonH (-d) (-c)) (z - lonL (-d) (-c)) = cupE y y e f (c + z) (d + z) := by
        unfold cupE
        rw [lha_same vg vs z0 z1]
      rw [eu] at dA ⊢
      rw [ea]
      dsimp only
      rw [q4, z0', cond_false, cond_false, cond_false, q2.2.2.2, z0', cond_false]
      have U := fun h => alt_up q5 q2.2.2.2 a0 v1.2.1 b1 h
      have N := fun h => alt_dn q5 q2.2.2.2 a0 v1.2.1 b1 h
      generalize cupE y y e f (c + z) (d + z) = s at *
      generalize asinR s.1 s.2.1 = A at *
      unfold sidS
      by_cases g1 : (cosR (5400000 - b) (5400000 - a)).2.1 < s.1
      · have k := U g1
        rw [if_pos g1, decide_eq_true (show A.2.1 > b from k), decide_eq_true (show 5400000 - A.2.1 - (5400000 - a) < 0 by omega)]
        rfl
      · rw [if_neg g1]
        by_cases g2 : s.2.1 < (cosR (5400000 - b) (5400000 - a)).1
        · have k := N g2
          rw [if_pos g2, decide_eq_true (show A.1 < a from k), decide_eq_true (show 5400000 - A.1 - (5400000 - b) > 0 by omega)]
          rfl
        · rw [if_neg g2]
          rfl
end Go.Proofs.YtkjnheahaimpoaaGreat

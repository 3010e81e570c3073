/-
  CirclesBounds answers true.
-/
import Derived.Test.YtkjnheahaimpoaaGreatL35
namespace Go.Proofs.YtkjnheahaimpoaaGreat
open Ev

open SM TB TA
open Ev (lt keepE)
def all8c (_a _b _c _d _e _f _u _v : Int) : Bool := true
theorem con_ok {A B L R x y : Int} (la : latB A B = true) (kl : LonP L R) (x0 : A ≤ x) (x1 : x ≤ B) (y0 : -10800000 ≤ y) (y1 : y < 10800000) (h : (L = -10800000 ∧ R = 10800000) ∨ (y - L) % 21600000 ≤ R - L) : pconM A B L R x y = (true, 0) := by
  have lb := lat_bd la
  have bl := lonP_bd kl
  have vp : vpntM x y = true := by
    unfold vpntM
    rw [decide_eq_true (show x ≥ -5400000 by omega), decide_eq_true (show x ≤ 5400000 by omega), decide_eq_true (show y ≥ -10800000 from y0), decide_eq_true y1]; rfl
  have hh : phasM L R y = true := by
    unfold phasM beyM wrapN
    rw [pall_eq, i64w (x := y - L) (by omega), i64w (x := R - L) (by omega)]
    rcases h with h | h
    · rw [decide_eq_true h]; rfl
    · rw [decide_eq_true h]; simp
  unfold pconM
  rw [pval_mk la kl, vp, Bool.not_true, cond_false, cond_false, decide_eq_false (show ¬ x < A by omega), decide_eq_false (show ¬ x > B by omega), cond_false, cond_false, hh]
  cases (x == 5400000) <;> cases (x == (-5400000)) <;> rfl
theorem bounds_fin {a b c d e f u v : Int} (la : latB a b = true) (kc : LonP c d) (e0 : 0 ≤ e) (ef : e ≤ f) (f1 : f ≤ 10800000) (u0' : -5400000 ≤ u) (u1 : u ≤ 5400000) (v0 : -10800000 ≤ v) (v1 : v < 10800000) (hs : sidS (cupE u u a b (v - d) (v - c)) (cosR e f) = 1) :
    pconM (cextM a b c d e f).1 (cextM a b c d e f).2.1 (cextM a b c d e f).2.2.1 (cextM a b c d e f).2.2.2.1 u v = (true, 0) := by
  have lb := lat_bd la
  have bc := lonP_bd kc
  obtain ⟨L, R, ex, kl, hk⟩ := cext_ok la kc e0 ef f1
  have hs' : (cosR e f).2.1 < (cupE u u a b (v - d) (v - c)).1 := by
    unfold sidS at hs
    by_cases g : (cosR e f).2.1 < (cupE u u a b (v - d) (v - c)).1
    · exact g
    · rw [if_neg g] at hs
      split at hs <;> cases hs
  obtain ⟨i1, i2, i3⟩ := in_bounds (m := c) (n := d) (x := u) (y := v) la bc.2.1 (by omega) (by omega) e0 ef f1 u0' u1 (by omega) (by omega) hs'
  rw [ex]
  dsimp only
  refine con_ok (lat_mk (by omega) (by omega) (by omega)) kl (by omega) (by omega) v0 v1 ?_
  rcases hk with ⟨_, h⟩ | ⟨nw, h1, h2⟩
  · exact .inl h
  · unfold wideB at nw
    obtain ⟨lw, k, j1, j2⟩ := i3 (by omega) (by omega) (by omega)
    obtain ⟨w1, w2, w3, w4⟩ := lw
    have bl := lonP_bd kl
    by_cases g : d + (exW a b f).2.1 - (c - (exW a b f).2.1) < 21600000
    · obtain ⟨k', g1, g2⟩ := lon_rep g
      right
      rw [h1, h2, g1, g2]
      omega
    · left
      rw [h1, h2]
      unfold lonL lonH
      rw [if_pos (by omega), if_pos (by omega)]
      exact ⟨rfl, rfl⟩
noncomputable def book_c35bo_any : Book := [(10, e0 (.bool (true))), (11, eT (fun a b c d e f => .bool (rcvM a b c d e f))), (14, eTS (fun a b c d e f u v w x => twoI (csidM a b c d e f u v w x))), (17, eP (fun a b => .bool (rvpM a b))), (19, eP (fun a b => solP (rplM a b))), (24, eT (fun a b c d e f => solV (cextM a b c d e f))), (25, eSP (fun a b c d e f => boolV (pconM a b c d e f)))]
theorem book_c35bo_any_ok : BookOk Tryz.prog book_c35bo_any := (bookOk_cons (e0_ok awake35_gives) (bookOk_cons (eT_ok rcvM_gives) (bookOk_cons (eTS_ok csidM_gives) (bookOk_cons (eP_ok rvpM_gives) (bookOk_cons (eP_ok rplM_gives) (bookOk_cons (eT_ok cextM_gives) (bookOk_cons (eSP_ok pconM_gives) bookOk_nil)))))))
theorem c35bo_any_tree (a b c d e f u v : Int) : evF Tryz.prog Es Cs book_c35bo_any 20 6 5 ([.agg ⟨[.int .i64 a, .int .i64 b, .int .i64 c, .int .i64 d, .int .i64 e, .int .i64 f]⟩, .agg ⟨[.int .i64 u, .int .i64 v]⟩].map AV.v) [] [] last =
  cond (!(true))
  (some (.v (.bool false)))
  (cond (!(rcvM a b c d e f))
   (some (.v (.bool true)))
   (cond (!(rvpM u v))
    (some (.v (.bool true)))
    (lt (rplM u v) fun x1 =>
     lt (csidM a b c d e f x1.1 x1.2.1 x1.2.2.1 x1.2.2.2) fun x2 =>
     lt (cextM a b c d e f) fun x3 =>
     cond (x2.2 != 0)
     (some (.v (.bool false)))
     (cond (x3.2.2.2.2 != 0)
      (some (.v (.bool false)))
      (cond (x2.1 != 1)
       (some (.v (.bool true)))
       (lt (pconM x3.1 x3.2.1 x3.2.2.1 x3.2.2.2.1 u v) fun x4 =>
        cond (x4.2 == 0)
        (some (.v (.bool x4.1)))
        (some (.v (.bool false))))))))) := by kernel_rfl
theorem c35bo_any (a b c d e f u v : Int) : Gives Tryz.prog 5 [.agg ⟨[.int .i64 a, .int .i64 b, .int .i64 c, .int .i64 d, .int .i64 e, .int .i64 f]⟩, .agg ⟨[.int .i64 u, .int .i64 v]⟩] (.bool (all8c a b c d e f u v)) := by
  refine evF_gives (E := Es) mixed Es_ok Cs_ok book_c35bo_any_ok (lim := 20) (d := 6) (nm := []) ?_
  rw [c35bo_any_tree a b c d e f u v]
  simp only [lt, Bool.not_true, cond_false]
  unfold all8c
  cases hc : rcvM a b c d e f with
  | false => rfl
  | true =>
  cases hp : rvpM u v with
  | false => rfl
  | true =>
  obtain ⟨la, kc, e0, ef, f1⟩ := rcv_bd hc
  obtain ⟨u0', u1, v0, v1⟩ := rvp_bd hp
  have lu : latB u u = true := lat_mk u0' (Int.le_refl u) u1
  have kv : LonP v v := .inr (by omega)
  obtain ⟨L, R, ex, kl, hk⟩ := cext_ok la kc e0 ef f1
  have er : rplM u v = (u, u, v, v) := rfl
  have B := fun h => bounds_fin la kc e0 ef f1 u0' u1 v0 v1 h
  rw [er]
  dsimp only
  rw [csid_ok la kc e0 ef f1 lu kv]
  rw [ex] at B ⊢
  dsimp only at B ⊢
  rw [Bool.not_true, cond_false, cond_false, z0', cond_false, cond_false]
  by_cases g : sidS (cupE u u a b (v - d) (v - c)) (cosR e f) = 1
  · rw [B g, g]
    rfl
  · rw [bne_iff_ne.2 g]
    rfl
end Go.Proofs.YtkjnheahaimpoaaGreat

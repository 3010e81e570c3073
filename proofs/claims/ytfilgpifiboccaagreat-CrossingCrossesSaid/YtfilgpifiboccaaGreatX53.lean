/-
  Crossings: the closed form, the program's and the reference's; CrossingCrosses.
-/
import Derived.Test.YtfilgpifiboccaaGreatS36
namespace Go.Proofs.YtfilgpifiboccaaGreat
open Ev

open SM TB TA
open Ev (lt keepE)
theorem side_mk {a b : Int} (h0 : 0 ≤ a) (h1 : a ≤ b) (h2 : b ≤ 10800000) : sideM a b = true := by
  unfold sideM
  rw [avalid_mk (by omega) h1 (by omega), decide_eq_true (show a ≥ 0 from h0), decide_eq_true h2]
  rfl
theorem ang_open {a b c d e f : Int} (s1 : sideM a b = true) (s2 : sideM c d = true) (s3 : sideM e f = true) (h : (anglM a b c d e f).2.2 = 0) : 0 ≤ (anglM a b c d e f).1 ∧ (anglM a b c d e f).1 ≤ (anglM a b c d e f).2.1 ∧ (anglM a b c d e f).2.1 ≤ 10800000 := by
  rw [angl_ok s1 s2 s3] at h ⊢
  generalize angT a b c d e f = T at *
  generalize angL c d e f = L at *
  unfold angZ at h ⊢
  by_cases z : L.1 ≤ 0 ∧ 0 ≤ L.2.1
  · rw [if_pos z] at h; cases h
  · rw [if_neg z] at h ⊢
    by_cases g : (divR T.1 T.2.1 L.1 L.2.1).2.2 = 0
    · rw [if_neg (by rw [g]; simp)] at h ⊢
      by_cases k : (ahavR (divR T.1 T.2.1 L.1 L.2.1).1 (divR T.1 T.2.1 L.1 L.2.1).2.1).2.2 = 0
      · rw [if_neg (by rw [k]; simp)] at h ⊢
        exact ahav_bd k
      · rw [if_pos k] at h; cases h
    · rw [if_pos g] at h; cases h
noncomputable section
def wayH (a b c d u v w x : Int) : Int × Int × Int := asinR (cupE a b u v (c - x) (d - w)).1 (cupE a b u v (c - x) (d - w)).2.1
def wayZ (a b c d u v w x : Int) : Int × Int × Int := bearR (ceaE u v (c - x) (d - w)).1 (ceaE u v (c - x) (d - w)).2.1 (cnoE a b u v (c - x) (d - w)).1 (cnoE a b u v (c - x) (d - w)).2.1
def opA (a b c d e f u v w x y z : Int) : Int × Int × Int := anglM y z e f (5400000 - (wayH a b c d u v w x).2.1) (5400000 - (wayH a b c d u v w x).1)
def crsW (a b c d e f : Int) (Z W : Int × Int × Int) : Int × Int × Int × Int × Int × Int × Int × Int × Int :=
  if W.2.2 = 0 then ((catM a b c d e f (Z.1 - W.2.1) (Z.2.1 - W.1)).1, (catM a b c d e f (Z.1 - W.2.1) (Z.2.1 - W.1)).2.1, (catM a b c d e f (Z.1 - W.2.1) (Z.2.1 - W.1)).2.2.1, (catM a b c d e f (Z.1 - W.2.1) (Z.2.1 - W.1)).2.2.2.1, (catM a b c d e f (Z.1 + W.1) (Z.2.1 + W.2.1)).1, (catM a b c d e f (Z.1 + W.1) (Z.2.1 + W.2.1)).2.1, (catM a b c d e f (Z.1 + W.1) (Z.2.1 + W.2.1)).2.2.1, (catM a b c d e f (Z.1 + W.1) (Z.2.1 + W.2.1)).2.2.2.1, 0)
  else (0, 0, 0, 0, 0, 0, 0, 0, if W.2.2 = 12 then 23 else W.2.2)
def crsF (a b c d e f u v w x y z : Int) : Int × Int × Int × Int × Int × Int × Int × Int × Int := crsW a b c d e f (wayZ a b c d u v w x) (opA a b c d e f u v w x y z)
end
/-- What is known of the way between two valid centres, and of the opening. -/
theorem way_ok {a b c d e f u v w x y z : Int} (la : latB a b = true) (kc : LonP c d) (e0 : 0 ≤ e) (ef : e ≤ f) (f1 : f ≤ 10800000) (lu : latB u v = true) (kw : LonP w x) (y0 : 0 ≤ y) (yz : y ≤ z) (z1 : z ≤ 10800000) :
    triB a b u v (c - x) (d - w) = true ∧ LatR (wayH a b c d u v w x) ∧ DirR (wayZ a b c d u v w x) ∧ threeB y z e f (5400000 - (wayH a b c d u v w x).2.1) (5400000 - (wayH a b c d u v w x).1) = true ∧ ((opA a b c d e f u v w x y z).2.2 = 0 → 0 ≤ (opA a b c d e f u v w x y z).1 ∧ (opA a b c d e f u v w x y z).1 ≤ (opA a b c d e f u v w x y z).2.1 ∧ (opA a b c d e f u v w x y z).2.1 ≤ 10800000) := by
  have bc := lonP_bd kc
  have bw := lonP_bd kw
  have ht := tri_mk la lu (avalid_mk (a := c - x) (b := d - w) (by omega) (by omega) (by omega))
  obtain ⟨_, q2, q3, _⟩ := csol_eq ht
  have q2' : LatR (wayH a b c d u v w x) := q2
  have q3' : DirR (wayZ a b c d u v w x) := q3
  have l1 := q2'.1
  have l2 := q2'.2.1
  have l3 := q2'.2.2.1
  have s1 := side_mk y0 yz z1
  have s2 := side_mk e0 ef f1
  have s3 : sideM (5400000 - (wayH a b c d u v w x).2.1) (5400000 - (wayH a b c d u v w x).1) = true := side_mk (by omega) (by omega) (by omega)
  refine ⟨ht, q2', q3', by unfold threeB; rw [s1, s2, s3]; rfl, fun h => ?_⟩
  exact ang_open s1 s2 s3 h
theorem xcrs_eq {a b c d e f u v w x y z : Int} (la : latB a b = true) (kc : LonP c d) (e0 : 0 ≤ e) (ef : e ≤ f) (f1 : f ≤ 10800000) (lu : latB u v = true) (kw : LonP w x) (y0 : 0 ≤ y) (yz : y ≤ z) (z1 : z ≤ 10800000) :
    xcrsM a b c d e f u v w x y z = crsF a b c d e f u v w x y z := by
  obtain ⟨ht, LH, DZ, _, ao⟩ := way_ok (a := a) (b := b) la kc e0 ef f1 lu kw y0 yz z1
  have bc := lonP_bd kc
  have bw := lonP_bd kw
  have q1 := (csol_eq ht).1
  have eH : asinR (cupE a b u v (c - x) (d - w)).1 (cupE a b u v (c - x) (d - w)).2.1 = wayH a b c d u v w x := rfl
  have eZ : bearR (ceaE u v (c - x) (d - w)).1 (ceaE u v (c - x) (d - w)).2.1 (cnoE a b u v (c - x) (d - w)).1 (cnoE a b u v (c - x) (d - w)).2.1 = wayZ a b c d u v w x := rfl
  rw [eH, eZ] at q1
  have et : xtriM a b c d u v w x y z = (a, b, u, v, c - x, d - w, 0) := by
    unfold xtriM
    rw [asub_ok (a := c) (b := d) (c := w) (d := x) (by omega) (by omega) (by omega) (by omega) (by omega) (by omega)]
    rfl
  unfold xcrsM xcrsMK
  rw [cval_mk la kc e0 ef f1, cval_mk lu kw y0 yz z1, Bool.not_true, cond_false, cond_false, et]
  simp only [lt]
  rw [z0', cond_false, q1]
  dsimp only
  rw [z0', cond_false]
  unfold crsF crsW
  have eO : anglM y z e f (5400000 - (wayH a b c d u v w x).2.1) (5400000 - (wayH a b c d u v w x).1) = opA a b c d e f u v w x y z := rfl
  obtain ⟨l1, l2, l3, _⟩ := LH
  obtain ⟨d1, d2, d3, _⟩ := DZ
  rw [asub_ok (a := 5400000) (b := 5400000) (c := (wayH a b c d u v w x).1) (d := (wayH a b c d u v w x).2.1) (by omega) (by omega) (by omega) (by omega) (by omega) (by omega)]
  dsimp only
  rw [z0', cond_false, eO]
  generalize opA a b c d e f u v w x y z = W at *
  generalize wayZ a b c d u v w x = Z at *
  by_cases g : W.2.2 = 0
  · obtain ⟨w1, w2, w3⟩ := ao g
    rw [g, show ((0 : Int) == 0) = true from rfl, cond_true, if_pos rfl, asub_ok (a := Z.1) (b := Z.2.1) (c := W.1) (d := W.2.1) (by omega) (by omega) (by omega) (by omega) (by omega) (by omega)]
    dsimp only
    rw [z0', cond_false, cat_ok la kc e0 ef f1 (avalid_mk (a := Z.1 - W.2.1) (b := Z.2.1 - W.1) (by omega) (by omega) (by omega))]
    dsimp only
    rw [z0', cond_false, aadd_ok (a := Z.1) (b := Z.2.1) (c := W.1) (d := W.2.1) (by omega) (by omega) (by omega) (by omega) (by omega) (by omega)]
    dsimp only
    rw [z0', cond_false, cat_ok la kc e0 ef f1 (avalid_mk (a := Z.1 + W.1) (b := Z.2.1 + W.2.1) (by omega) (by omega) (by omega))]
    rfl
  · rw [beq_eq_false_iff_ne.2 g, cond_false, if_neg g]
    by_cases k : W.2.2 = 12
    · rw [k, if_pos rfl]; rfl
    · rw [beq_eq_false_iff_ne.2 k, if_neg k]; rfl
theorem crsF_val {a b c d e f u v w x y z : Int} (la : latB a b = true) (kc : LonP c d) (e0 : 0 ≤ e) (ef : e ≤ f) (f1 : f ≤ 10800000) (lu : latB u v = true) (kw : LonP w x) (y0 : 0 ≤ y) (yz : y ≤ z) (z1 : z ≤ 10800000) :
    (∃ k : Int, k ≠ 0 ∧ crsF a b c d e f u v w x y z = (0, 0, 0, 0, 0, 0, 0, 0, k)) ∨ ∃ A B L R A' B' L' R' : Int, crsF a b c d e f u v w x y z = (A, B, L, R, A', B', L', R', 0) ∧ latB A B = true ∧ LonP L R ∧ latB A' B' = true ∧ LonP L' R' := by
  obtain ⟨ht, LH, DZ, _, ao⟩ := way_ok (a := a) (b := b) la kc e0 ef f1 lu kw y0 yz z1
  obtain ⟨d1, d2, d3, _⟩ := DZ
  have bc := lonP_bd kc
  have vr : avalidB e f = true := avalid_mk (by omega) ef (by omega)
  unfold crsF crsW
  generalize opA a b c d e f u v w x y z = W at *
  generalize wayZ a b c d u v w x = Z at *
  by_cases g : W.2.2 = 0
  · obtain ⟨w1, w2, w3⟩ := ao g
    right
    rw [if_pos g]
    have v1 : avalidB (Z.1 - W.2.1) (Z.2.1 - W.1) = true := avalid_mk (by omega) (by omega) (by omega)
    have v2 : avalidB (Z.1 + W.1) (Z.2.1 + W.2.1) = true := avalid_mk (by omega) (by omega) (by omega)
    obtain ⟨A1, B1⟩ := at_one la vr v1
    obtain ⟨A2, B2⟩ := at_one la vr v2
    rw [cat_ok la kc e0 ef f1 v1, cat_ok la kc e0 ef f1 v2]
    exact ⟨_, _, _, _, _, _, _, _, rfl, lat_mk A1.1 A1.2.1 A1.2.2.1, lon_P (by have := B1.2.1; omega), lat_mk A2.1 A2.2.1 A2.2.2.1, lon_P (by have := B2.2.1; omega)⟩
  · left
    rw [if_neg g]
    exact ⟨_, by split <;> omega, rfl⟩
theorem rat_eq {a b c d e f u v : Int} (la : latB a b = true) (kc : LonP c d) (e0 : 0 ≤ e) (ef : e ≤ f) (f1 : f ≤ 10800000) (vu : avalidB u v = true) : ratM a b c d e f u v = ((catM a b c d e f u v).1, (catM a b c d e f u v).2.1, (catM a b c d e f u v).2.2.1, (catM a b c d e f u v).2.2.2.1) := by
  have b1 := lonP_bd kc
  have vr : avalidB e f = true := avalid_mk (by omega) ef (by omega)
  obtain ⟨A, B⟩ := at_one la vr vu
  rw [cat_ok la kc e0 ef f1 vu]
  dsimp only
  have s1 := sin_one (lat_bd la).1
  have c1 := cos_one (lat_bd la).1
  have s2 := sin_one vr
  have c2 := cos_one vr
  have s3 := sin_one vu
  have c3 := cos_one vu
  have m1 := mul_ones s1 c2
  have m2 := mul_ones c1 s2
  have m3 := mul_ones s2 s3
  have m4 := mul_ones c2 c1
  have m5 := mul_ones s2 s1
  have n2 := mul_ones m2 c3
  have n5 := mul_ones m5 c3
  unfold ratM
  simp only [lt]
  rw [rsin_eq (lat_bd la).1, rcos_eq (lat_bd la).1, rsin_eq vr, rcos_eq vr, rsin_eq vu, rcos_eq vu]
  dsimp only
  rw [times_eq s1.val c2.val, times_eq c1.val s2.val, times_eq s2.val s3.val, times_eq c2.val c1.val, times_eq s2.val s1.val]
  dsimp only
  rw [times_eq m2.val c3.val, times_eq m5.val c3.val]
  dsimp only
  rw [plus_eq m1.val n2.val, minus_eq m4.val n5.val]
  dsimp only
  have eA : atA a b e f u v = asinR (addR (mulR (sinR a b).1 (sinR a b).2.1 (cosR e f).1 (cosR e f).2.1).1 (mulR (sinR a b).1 (sinR a b).2.1 (cosR e f).1 (cosR e f).2.1).2.1 (mulR (mulR (cosR a b).1 (cosR a b).2.1 (sinR e f).1 (sinR e f).2.1).1 (mulR (cosR a b).1 (cosR a b).2.1 (sinR e f).1 (sinR e f).2.1).2.1 (cosR u v).1 (cosR u v).2.1).1 (mulR (mulR (cosR a b).1 (cosR a b).2.1 (sinR e f).1 (sinR e f).2.1).1 (mulR (cosR a b).1 (cosR a b).2.1 (sinR e f).1 (sinR e f).2.1).2.1 (cosR u v).1 (cosR u v).2.1).2.1).1 (addR (mulR (sinR a b).1 (sinR a b).2.1 (cosR e f).1 (cosR e f).2.1).1 (mulR (sinR a b).1 (sinR a b).2.1 (cosR e f).1 (cosR e f).2.1).2.1 (mulR (mulR (cosR a b).1 (cosR a b).2.1 (sinR e f).1 (sinR e f).2.1).1 (mulR (cosR a b).1 (cosR a b).2.1 (sinR e f).1 (sinR e f).2.1).2.1 (cosR u v).1 (cosR u v).2.1).1 (mulR (mulR (cosR a b).1 (cosR a b).2.1 (sinR e f).1 (sinR e f).2.1).1 (mulR (cosR a b).1 (cosR a b).2.1 (sinR e f).1 (sinR e f).2.1).2.1 (cosR u v).1 (cosR u v).2.1).2.1).2.1 := rfl
  have eB : atB a b e f u v = bearR (mulR (sinR e f).1 (sinR e f).2.1 (sinR u v).1 (sinR u v).2.1).1 (mulR (sinR e f).1 (sinR e f).2.1 (sinR u v).1 (sinR u v).2.1).2.1 (subR (mulR (cosR e f).1 (cosR e f).2.1 (cosR a b).1 (cosR a b).2.1).1 (mulR (cosR e f).1 (cosR e f).2.1 (cosR a b).1 (cosR a b).2.1).2.1 (mulR (mulR (sinR e f).1 (sinR e f).2.1 (sinR a b).1 (sinR a b).2.1).1 (mulR (sinR e f).1 (sinR e f).2.1 (sinR a b).1 (sinR a b).2.1).2.1 (cosR u v).1 (cosR u v).2.1).1 (mulR (mulR (sinR e f).1 (sinR e f).2.1 (sinR a b).1 (sinR a b).2.1).1 (mulR (sinR e f).1 (sinR e f).2.1 (sinR a b).1 (sinR a b).2.1).2.1 (cosR u v).1 (cosR u v).2.1).2.1).1 (subR (mulR (cosR e f).1 (cosR e f).2.1 (cosR a b).1 (cosR a b).2.1).1 (mulR (cosR e f).1 (cosR e f).2.1 (cosR a b).1 (cosR a b).2.1).2.1 (mulR (mulR (sinR e f).1 (sinR e f).2.1 (sinR a b).1 (sinR a b).2.1).1 (mulR (sinR e f).1 (sinR e f).2.1 (sinR a b).1 (sinR a b).2.1).2.1 (cosR u v).1 (cosR u v).2.1).1 (mulR (mulR (sinR e f).1 (sinR e f).2.1 (sinR a b).1 (sinR a b).2.1).1 (mulR (sinR e f).1 (sinR e f).2.1 (sinR a b).1 (sinR a b).2.1).2.1 (cosR u v).1 (cosR u v).2.1).2.1).2.1 := rfl
  rw [← eA, ← eB]
  obtain ⟨p1, p2, p3, _⟩ := B
  rw [raad_eq (a := c) (b := d) (c := (atB a b e f u v).1) (d := (atB a b e f u v).2.1) (by omega) (by omega) (by omega) (by omega) (by omega) (by omega)]
  dsimp only
  rw [rlon_ok (by omega) (by omega) (by omega)]
theorem rway_eq {a b c d e f u v w x y z : Int} (la : latB a b = true) (kc : LonP c d) (lu : latB u v = true) (kw : LonP w x) : rwayM a b c d e f u v w x y z = (5400000 - (wayH a b c d u v w x).2.1, 5400000 - (wayH a b c d u v w x).1, (wayZ a b c d u v w x).1, (wayZ a b c d u v w x).2.1) := by
  have bc := lonP_bd kc
  have bw := lonP_bd kw
  have ht := tri_mk la lu (avalid_mk (a := c - x) (b := d - w) (by omega) (by omega) (by omega))
  have q2 : LatR (wayH a b c d u v w x) := (csol_eq ht).2.1
  obtain ⟨l1, l2, l3, _⟩ := q2
  have et : rtrM u v w x y z a b c d = (a, b, u, v, c - x, d - w) := by
    unfold rtrM
    simp only [lt]
    rw [rasub_eq (a := c) (b := d) (c := w) (d := x) (by omega) (by omega) (by omega) (by omega) (by omega) (by omega)]
  unfold rwayM
  simp only [lt]
  rw [et]
  dsimp only
  rw [ralt_eq ht, razi_eq ht]
  dsimp only
  have eH : asinR (cupE a b u v (c - x) (d - w)).1 (cupE a b u v (c - x) (d - w)).2.1 = wayH a b c d u v w x := rfl
  rw [eH, rasub_eq (a := 5400000) (b := 5400000) (c := (wayH a b c d u v w x).1) (d := (wayH a b c d u v w x).2.1) (by omega) (by omega) (by omega) (by omega) (by omega) (by omega)]
  rfl
noncomputable def twoC (a b c d e f u v w x y z : Int) : Bool := rcvM a b c d e f && rcvM u v w x y z
theorem twoC_inv {a b c d e f u v w x y z : Int} (h : twoC a b c d e f u v w x y z = true) : rcvM a b c d e f = true ∧ rcvM u v w x y z = true := by
  unfold twoC at h
  simpa [Bool.and_eq_true] using h
noncomputable def kX530 : Book := (6, eT (fun a b c d e f => .bool (rcvM a b c d e f))) :: (13, e0 (.bool (true))) :: (14, eTT (fun a b c d e f u v w x y z => crsV (xcrsM a b c d e f u v w x y z))) :: (15, eTTP (fun a b c d e f u v w x y z i j => solV (xnerM a b c d e f u v w x y z i j))) :: (17, eP (fun a b => .bool (rvpM a b))) :: (51, eTT (fun a b c d e f u v w x y z => pairsV (rwayM a b c d e f u v w x y z))) :: (52, ePPPif threeB (fun a b c d e f => arcV (anglM a b c d e f))) :: (53, eTP (fun a b c d e f u v => solP (ratM a b c d e f u v))) :: (54, ePP (fun a b c d => pairV (rasubM a b c d).1 (rasubM a b c d).2)) :: (55, ePP (fun a b c d => pairV (raadM a b c d).1 (raadM a b c d).2)) :: (56, eSP (fun a b c d e f => pairV (rnearM a b c d e f).1 (rnearM a b c d e f).2)) :: []
theorem kX530_ok : BookOk Tryz.prog kX530 := (bookOk_cons (eT_ok rcvM_gives) (bookOk_cons (e0_ok awake36_gives) (bookOk_cons (eTT_ok xcrsM_gives) (bookOk_cons (eTTP_ok xnerM_gives) (bookOk_cons (eP_ok rvpM_gives) (bookOk_cons (eTT_ok rwayM_gives) (bookOk_cons (ePPPif_ok rang28_gives) (bookOk_cons (eTP_ok ratM_gives) (bookOk_cons (ePP_ok rasubM_gives) (bookOk_cons (ePP_ok raadM_gives) (bookOk_cons (eSP_ok rnearM_gives) bookOk_nil)))))))))))
theorem rcrs_gives (a b c d e f u v w x y z : Int) (hp : twoC a b c d e f u v w x y z = true) : Gives Tryz.prog 16 [.agg ⟨[.int .i64 a, .int .i64 b, .int .i64 c, .int .i64 d, .int .i64 e, .int .i64 f]⟩, .agg ⟨[.int .i64 u, .int .i64 v, .int .i64 w, .int .i64 x, .int .i64 y, .int .i64 z]⟩] (crsV (crsF a b c d e f u v w x y z)) := by
  refine ev6_gives Es_ok kX530_ok (t := lt (rwayM a b c d e f u v w x y z) fun x1 => lt (anglM y z e f x1.1 x1.2.1) fun x2 => cond (threeB y z e f x1.1 x1.2.1) (cond (x2.2.2 == 12) (some (.v (.tuple ⟨[.agg ⟨[.int .i64 0, .int .i64 0, .int .i64 0, .int .i64 0]⟩, .agg ⟨[.int .i64 0, .int .i64 0, .int .i64 0, .int .i64 0]⟩, .int .i64 23]⟩))) (cond (x2.2.2 != 0) (some (.v (.tuple ⟨[.agg ⟨[.int .i64 0, .int .i64 0, .int .i64 0, .int .i64 0]⟩, .agg ⟨[.int .i64 0, .int .i64 0, .int .i64 0, .int .i64 0]⟩, .int .i64 x2.2.2]⟩))) (lt (rasubM x1.2.2.1 x1.2.2.2 x2.1 x2.2.1) fun x3 => lt (ratM a b c d e f x3.1 x3.2) fun x4 => lt (raadM x1.2.2.1 x1.2.2.2 x2.1 x2.2.1) fun x5 => lt (ratM a b c d e f x5.1 x5.2) fun x6 => some (.v (.tuple ⟨[.agg ⟨[.int .i64 x4.1, .int .i64 x4.2.1, .int .i64 x4.2.2.1, .int .i64 x4.2.2.2]⟩, .agg ⟨[.int .i64 x6.1, .int .i64 x6.2.1, .int .i64 x6.2.2.1, .int .i64 x6.2.2.2]⟩, .int .i64 0]⟩))))) (none)) (by kernel_rfl) ?_
  obtain ⟨hc, hd⟩ := twoC_inv hp
  obtain ⟨la, kc, e0, ef, f1⟩ := rcv_bd hc
  obtain ⟨lu, kw, y0, yz, z1⟩ := rcv_bd hd
  obtain ⟨ht, LH, DZ, s3, ao⟩ := way_ok (a := a) (b := b) la kc e0 ef f1 lu kw y0 yz z1
  simp only [lt]
  rw [rway_eq la kc lu kw]
  dsimp only
  rw [s3, cond_true]
  have eO : anglM y z e f (5400000 - (wayH a b c d u v w x).2.1) (5400000 - (wayH a b c d u v w x).1) = opA a b c d e f u v w x y z := rfl
  rw [eO]
  unfold crsF crsW
  obtain ⟨d1, d2, d3, _⟩ := DZ
  generalize opA a b c d e f u v w x y z = W at *
  generalize wayZ a b c d u v w x = Z at *
  by_cases g : W.2.2 = 0
  · obtain ⟨w1, w2, w3⟩ := ao g
    rw [g, if_pos rfl, show ((0 : Int) == 12) = false from rfl, cond_false, z0', cond_false, rasub_eq (a := Z.1) (b := Z.2.1) (c := W.1) (d := W.2.1) (by omega) (by omega) (by omega) (by omega) (by omega) (by omega), raad_eq (a := Z.1) (b := Z.2.1) (c := W.1) (d := W.2.1) (by omega) (by omega) (by omega) (by omega) (by omega) (by omega)]
    dsimp only
    rw [rat_eq la kc e0 ef f1 (avalid_mk (a := Z.1 - W.2.1) (b := Z.2.1 - W.1) (by omega) (by omega) (by omega)), rat_eq la kc e0 ef f1 (avalid_mk (a := Z.1 + W.1) (b := Z.2.1 + W.2.1) (by omega) (by omega) (by omega))]
    rfl
  · rw [if_neg g]
    by_cases k : W.2.2 = 12
    · rw [k, if_pos rfl]; rfl
    · rw [beq_eq_false_iff_ne.2 k, cond_false, bne_iff_ne.2 g, if_neg k]; rfl
noncomputable section
def nrH (A B L R i j : Int) : Int × Int × Int := asinR (cupE A B i i (L - j) (R - j)).1 (cupE A B i i (L - j) (R - j)).2.1
def nerW (C : Int × Int × Int × Int × Int × Int × Int × Int × Int) (i j : Int) : Int × Int × Int × Int × Int :=
  if C.2.2.2.2.2.2.2.2 ≠ 0 then (0, 0, 0, 0, C.2.2.2.2.2.2.2.2) else if (nrH C.1 C.2.1 C.2.2.1 C.2.2.2.1 i j).1 > (nrH C.2.2.2.2.1 C.2.2.2.2.2.1 C.2.2.2.2.2.2.1 C.2.2.2.2.2.2.2.1 i j).2.1 then (C.1, C.2.1, C.2.2.1, C.2.2.2.1, 0)
  else if (nrH C.2.2.2.2.1 C.2.2.2.2.2.1 C.2.2.2.2.2.2.1 C.2.2.2.2.2.2.2.1 i j).1 > (nrH C.1 C.2.1 C.2.2.1 C.2.2.2.1 i j).2.1 then (C.2.2.2.2.1, C.2.2.2.2.2.1, C.2.2.2.2.2.2.1, C.2.2.2.2.2.2.2.1, 0) else (0, 0, 0, 0, 24)
def nerF (a b c d e f u v w x y z i j : Int) : Int × Int × Int × Int × Int := nerW (crsF a b c d e f u v w x y z) i j
end
theorem xner_eq {a b c d e f u v w x y z i j : Int} (hv : vpntM i j = true) (i0 : -5400000 ≤ i) (i1 : i ≤ 5400000) (j0 : -10800000 ≤ j) (j1 : j < 10800000) (ec : xcrsM a b c d e f u v w x y z = crsF a b c d e f u v w x y z)
    (hC : (∃ k : Int, k ≠ 0 ∧ crsF a b c d e f u v w x y z = (0, 0, 0, 0, 0, 0, 0, 0, k)) ∨ ∃ A B L R A' B' L' R' : Int, crsF a b c d e f u v w x y z = (A, B, L, R, A', B', L', R', 0) ∧ latB A B = true ∧ LonP L R ∧ latB A' B' = true ∧ LonP L' R') :
    xnerM a b c d e f u v w x y z i j = nerF a b c d e f u v w x y z i j := by
  have li : latB i i = true := lat_mk i0 (Int.le_refl i) i1
  unfold xnerM xnerMK
  rw [hv, ec]
  unfold nerF nerW
  rcases hC with ⟨k, hk, ex⟩ | ⟨A, B, L, R, A', B', L', R', ex, l1, k1, l2, k2⟩
  · rw [ex]
    simp only [lt, Bool.not_true, cond_false]
    rw [bne_iff_ne.2 hk, if_pos hk]
    rfl
  · have tr : ∀ P Q S T : Int, LonP S T → xtriM P Q S T i i j j 0 0 = (P, Q, i, i, S - j, T - j, 0) := fun P Q S T h => by
      have b := lonP_bd h
      unfold xtriM
      rw [asub_ok (a := S) (b := T) (c := j) (d := j) (by omega) (by omega) (by omega) (by omega) (Int.le_refl _) (by omega)]
      rfl
    have b1 := lonP_bd k1
    have b2 := lonP_bd k2
    obtain ⟨_, p2, _, p4, _⟩ := csol_eq (tri_mk l1 li (avalid_mk (a := L - j) (b := R - j) (by omega) (by omega) (by omega)))
    obtain ⟨_, q2, _, q4, _⟩ := csol_eq (tri_mk l2 li (avalid_mk (a := L' - j) (b := R' - j) (by omega) (by omega) (by omega)))
    rw [ex]
    simp only [lt, Bool.not_true, cond_false]
    rw [z0', cond_false, tr A B L R k1, tr A' B' L' R' k2]
    dsimp only
    rw [z0', cond_false, cond_false, p4, q4, p2.2.2.2, q2.2.2.2, z0', cond_false, cond_false, if_neg (by simp)]
    have e1' : nrH A B L R i j = asinR (cupE A B i i (L - j) (R - j)).1 (cupE A B i i (L - j) (R - j)).2.1 := rfl
    have e2' : nrH A' B' L' R' i j = asinR (cupE A' B' i i (L' - j) (R' - j)).1 (cupE A' B' i i (L' - j) (R' - j)).2.1 := rfl
    rw [← e1', ← e2']
    generalize nrH A B L R i j = H1
    generalize nrH A' B' L' R' i j = H2
    by_cases g1 : H1.1 > H2.2.1
    · rw [decide_eq_true g1, if_pos g1]; rfl
    · rw [decide_eq_false g1, cond_false, if_neg g1]
      by_cases g2 : H2.1 > H1.2.1
      · rw [decide_eq_true g2, if_pos g2]; rfl
      · rw [decide_eq_false g2, if_neg g2]; rfl
theorem rnear_eq {A B L R i j : Int} (la : latB A B = true) (kl : LonP L R) (i0 : -5400000 ≤ i) (i1 : i ≤ 5400000) (j0 : -10800000 ≤ j) (j1 : j < 10800000) : rnearM A B L R i j = ((nrH A B L R i j).1, (nrH A B L R i j).2.1) := by
  have b := lonP_bd kl
  have ht := tri_mk la (lat_mk i0 (Int.le_refl i) i1) (avalid_mk (a := L - j) (b := R - j) (by omega) (by omega) (by omega))
  have et : rtrM i i j j 0 0 A B L R = (A, B, i, i, L - j, R - j) := by
    unfold rtrM
    simp only [lt]
    rw [rasub_eq (a := L) (b := R) (c := j) (d := j) (by omega) (by omega) (by omega) (by omega) (Int.le_refl _) (by omega)]
  unfold rnearM
  simp only [lt]
  rw [et]
  dsimp only
  rw [ralt_eq ht]
  rfl
noncomputable def twoN (a b c d e f u v w x y z i j : Int) : Bool := twoC a b c d e f u v w x y z && rvpM i j
def eTTPif (p : Int → Int → Int → Int → Int → Int → Int → Int → Int → Int → Int → Int → Int → Int → Bool) (F : Int → Int → Int → Int → Int → Int → Int → Int → Int → Int → Int → Int → Int → Int → Value) : Ent
  | [.v (.agg ⟨[.int .i64 a, .int .i64 b, .int .i64 c, .int .i64 d, .int .i64 e, .int .i64 f]⟩), .v (.agg ⟨[.int .i64 u, .int .i64 v, .int .i64 w, .int .i64 x, .int .i64 y, .int .i64 z]⟩), .v (.agg ⟨[.int .i64 i, .int .i64 j]⟩)], [] => some (p a b c d e f u v w x y z i j, .v (F a b c d e f u v w x y z i j), [])
  | _, _ => none
theorem eTTPif_ok {P : Program} {g : FuncId} {p : Int → Int → Int → Int → Int → Int → Int → Int → Int → Int → Int → Int → Int → Int → Bool} {F : Int → Int → Int → Int → Int → Int → Int → Int → Int → Int → Int → Int → Int → Int → Value} (h : ∀ a b c d e f u v w x y z i j, p a b c d e f u v w x y z i j = true → Gives P g [.agg ⟨[.int .i64 a, .int .i64 b, .int .i64 c, .int .i64 d, .int .i64 e, .int .i64 f]⟩, .agg ⟨[.int .i64 u, .int .i64 v, .int .i64 w, .int .i64 x, .int .i64 y, .int .i64 z]⟩, .agg ⟨[.int .i64 i, .int .i64 j]⟩] (F a b c d e f u v w x y z i j)) (args : List AV) (L : Ev.Loc) (z : Bool) (r : AV) (L' : Ev.Loc) (q : eTTPif p F args L = some (z, r, L')) (hz : z = true) : Runs P g args L r L' := by
  unfold eTTPif at q
  split at q
  · cases q
    exact gives_runs (h _ _ _ _ _ _ _ _ _ _ _ _ _ _ hz)
  · cases q
def eTTif (p : Int → Int → Int → Int → Int → Int → Int → Int → Int → Int → Int → Int → Bool) (F : Int → Int → Int → Int → Int → Int → Int → Int → Int → Int → Int → Int → Value) : Ent
  | [.v (.agg ⟨[.int .i64 a, .int .i64 b, .int .i64 c, .int .i64 d, .int .i64 e, .int .i64 f]⟩), .v (.agg ⟨[.int .i64 u, .int .i64 v, .int .i64 w, .int .i64 x, .int .i64 y, .int .i64 z]⟩)], [] => some (p a b c d e f u v w x y z, .v (F a b c d e f u v w x y z), [])
  | _, _ => none
theorem eTTif_ok {P : Program} {g : FuncId} {p : Int → Int → Int → Int → Int → Int → Int → Int → Int → Int → Int → Int → Bool} {F : Int → Int → Int → Int → Int → Int → Int → Int → Int → Int → Int → Int → Value} (h : ∀ a b c d e f u v w x y z, p a b c d e f u v w x y z = true → Gives P g [.agg ⟨[.int .i64 a, .int .i64 b, .int .i64 c, .int .i64 d, .int .i64 e, .int .i64 f]⟩, .agg ⟨[.int .i64 u, .int .i64 v, .int .i64 w, .int .i64 x, .int .i64 y, .int .i64 z]⟩] (F a b c d e f u v w x y z)) (args : List AV) (L : Ev.Loc) (z : Bool) (r : AV) (L' : Ev.Loc) (q : eTTif p F args L = some (z, r, L')) (hz : z = true) : Runs P g args L r L' := by
  unfold eTTif at q
  split at q
  · cases q
    exact gives_runs (h _ _ _ _ _ _ _ _ _ _ _ _ hz)
  · cases q
noncomputable def kX531 : Book := (16, eTTif twoC (fun a b c d e f u v w x y z => crsV (crsF a b c d e f u v w x y z))) :: kX530
theorem kX531_ok : BookOk Tryz.prog kX531 := (bookOk_cons (eTTif_ok rcrs_gives) kX530_ok)
theorem rner_gives (a b c d e f u v w x y z i j : Int) (hp : twoN a b c d e f u v w x y z i j = true) : Gives Tryz.prog 18 [.agg ⟨[.int .i64 a, .int .i64 b, .int .i64 c, .int .i64 d, .int .i64 e, .int .i64 f]⟩, .agg ⟨[.int .i64 u, .int .i64 v, .int .i64 w, .int .i64 x, .int .i64 y, .int .i64 z]⟩, .agg ⟨[.int .i64 i, .int .i64 j]⟩] (solV (nerF a b c d e f u v w x y z i j)) := by
  refine ev6_gives Es_ok kX531_ok (t := lt (crsF a b c d e f u v w x y z) fun x1 => cond (twoC a b c d e f u v w x y z) (cond (x1.2.2.2.2.2.2.2.2 != 0) (some (.v (.tuple ⟨[.agg ⟨[.int .i64 0, .int .i64 0, .int .i64 0, .int .i64 0]⟩, .int .i64 x1.2.2.2.2.2.2.2.2]⟩))) (lt (rnearM x1.1 x1.2.1 x1.2.2.1 x1.2.2.2.1 i j) fun x2 => lt (rnearM x1.2.2.2.2.1 x1.2.2.2.2.2.1 x1.2.2.2.2.2.2.1 x1.2.2.2.2.2.2.2.1 i j) fun x3 => cond (decide (x2.1 > x3.2)) (some (.v (.tuple ⟨[.agg ⟨[.int .i64 x1.1, .int .i64 x1.2.1, .int .i64 x1.2.2.1, .int .i64 x1.2.2.2.1]⟩, .int .i64 0]⟩))) (cond (decide (x3.1 > x2.2)) (some (.v (.tuple ⟨[.agg ⟨[.int .i64 x1.2.2.2.2.1, .int .i64 x1.2.2.2.2.2.1, .int .i64 x1.2.2.2.2.2.2.1, .int .i64 x1.2.2.2.2.2.2.2.1]⟩, .int .i64 0]⟩))) (some (.v (.tuple ⟨[.agg ⟨[.int .i64 0, .int .i64 0, .int .i64 0, .int .i64 0]⟩, .int .i64 24]⟩)))))) (none)) (by kernel_rfl) ?_
  have hp' := hp
  unfold twoN at hp'
  rw [Bool.and_eq_true] at hp'
  obtain ⟨h2, hv⟩ := hp'
  obtain ⟨hc, hd⟩ := twoC_inv h2
  obtain ⟨la, kc, e0, ef, f1⟩ := rcv_bd hc
  obtain ⟨lu, kw, y0, yz, z1⟩ := rcv_bd hd
  obtain ⟨i0, i1, j0, j1⟩ := rvp_bd hv
  simp only [lt]
  rw [h2, cond_true]
  unfold nerF nerW
  rcases crsF_val la kc e0 ef f1 lu kw y0 yz z1 with ⟨k, hk, ex⟩ | ⟨A, B, L, R, A', B', L', R', ex, l1, k1, l2, k2⟩
  · rw [ex]
    dsimp only
    rw [bne_iff_ne.2 hk, if_pos hk]
    rfl
  · rw [ex]
    dsimp only
    rw [z0', cond_false, rnear_eq l1 k1 i0 i1 j0 j1, rnear_eq l2 k2 i0 i1 j0 j1, if_neg (by simp)]
    dsimp only
    generalize nrH A B L R i j = H1
    generalize nrH A' B' L' R' i j = H2
    by_cases g1 : H1.1 > H2.2.1
    · rw [decide_eq_true g1, if_pos g1]; rfl
    · rw [decide_eq_false g1, cond_false, if_neg g1]
      by_cases g2 : H2.1 > H1.2.1
      · rw [decide_eq_true g2, if_pos g2]; rfl
      · rw [decide_eq_false g2, if_neg g2]; rfl
theorem rcv_mk {a b c d e f : Int} (h1 : latB a b = true) (h2 : LonP c d) (h3 : 0 ≤ e) (h4 : e ≤ f) (h5 : f ≤ 10800000) : rcvM a b c d e f = true := by
  have l := lat_bd h1
  unfold rcvM
  rw [decide_eq_true (show a ≥ -5400000 from l.2.1), decide_eq_true l.2.2.1, decide_eq_true l.2.2.2, decide_eq_true (show e ≥ 0 from h3), decide_eq_true h4, decide_eq_true h5]
  rcases h2 with ⟨rfl, rfl⟩ | ⟨k1, k2, k3, k4⟩
  · rfl
  · cases ((c == (-10800000)) && ((d == 10800000) && true)) with
    | true => rfl
    | false =>
      rw [decide_eq_true (show c ≥ -10800000 from k1), decide_eq_true k2, decide_eq_true k3, i64w (x := c + 21600000) (by omega), decide_eq_true (show d < c + 21600000 by omega)]
      rfl
theorem vpnt_eq (u v : Int) : vpntM u v = rvpM u v := rfl
theorem lon_far {a b c d e f : Int} (hc : cvalM a b c d e f = true) (hr : rcvM a b c d e f = false) : avalidB c d = false := by
  obtain ⟨vp, e0, ef, f1⟩ := cval_bd hc
  cases hv : avalidB c d with
  | false => rfl
  | true =>
    have kc := pval_lon vp hv
    have la := (pval_lat vp).1
    rw [rcv_mk la kc e0 ef f1] at hr
    cases hr
theorem crs_bad {a b c d e f u v w x y z : Int} (h : rcvM a b c d e f = false ∨ rcvM u v w x y z = false) : xcrsM a b c d e f u v w x y z = (0, 0, 0, 0, 0, 0, 0, 0, 1) := by
  unfold xcrsM xcrsMK
  cases hc : cvalM a b c d e f with
  | false => rfl
  | true =>
    cases hd : cvalM u v w x y z with
    | false => rfl
    | true =>
      have hs : asubR c d w x = (0, 0, 1) := by
        unfold asubR
        rcases h with h | h
        · rw [lon_far hc h, if_neg (by simp)]
        · rw [lon_far hd h, if_neg (by simp)]
      have et : xtriM a b c d u v w x y z = (a, b, u, v, 0, 0, 1) := by
        unfold xtriM
        rw [hs]
        rfl
      rw [et]
      rfl
theorem ner_bad {a b c d e f u v w x y z i j : Int} (h : xcrsM a b c d e f u v w x y z = (0, 0, 0, 0, 0, 0, 0, 0, 1)) : xnerM a b c d e f u v w x y z i j = (0, 0, 0, 0, 1) := by
  unfold xnerM xnerMK
  rw [h]
  cases vpntM i j <;> rfl
theorem ner_no {a b c d e f u v w x y z i j : Int} (h : rvpM i j = false) : xnerM a b c d e f u v w x y z i j = (0, 0, 0, 0, 1) := by
  unfold xnerM xnerMK
  rw [vpnt_eq, h]
  rfl
def all14 (_a _b _c _d _e _f _u _v _w _x _y _z _i _j : Int) : Bool := true
noncomputable def kX532 : Book := (18, eTTPif twoN (fun a b c d e f u v w x y z i j => solV (nerF a b c d e f u v w x y z i j))) :: kX531
theorem kX532_ok : BookOk Tryz.prog kX532 := (bookOk_cons (eTTPif_ok rner_gives) kX531_ok)
theorem c36cr_any (a b c d e f u v w x y z i j : Int) : Gives Tryz.prog 4 [.agg ⟨[.int .i64 a, .int .i64 b, .int .i64 c, .int .i64 d, .int .i64 e, .int .i64 f]⟩, .agg ⟨[.int .i64 u, .int .i64 v, .int .i64 w, .int .i64 x, .int .i64 y, .int .i64 z]⟩, .agg ⟨[.int .i64 i, .int .i64 j]⟩] (.bool (all14 a b c d e f u v w x y z i j)) := by
  refine ev6_gives Es_ok kX532_ok (t := cond (!(true)) (some (.v (.bool false))) (lt (xcrsM a b c d e f u v w x y z) fun x1 => lt (xnerM a b c d e f u v w x y z i j) fun x2 => cond (!(rcvM a b c d e f)) (cond ((x1.1 == 0) && ((x1.2.1 == 0) && ((x1.2.2.1 == 0) && ((x1.2.2.2.1 == 0) && true)))) (cond ((x1.2.2.2.2.1 == 0) && ((x1.2.2.2.2.2.1 == 0) && ((x1.2.2.2.2.2.2.1 == 0) && ((x1.2.2.2.2.2.2.2.1 == 0) && true)))) (cond (x1.2.2.2.2.2.2.2.2 == 1) (cond ((x2.1 == 0) && ((x2.2.1 == 0) && ((x2.2.2.1 == 0) && ((x2.2.2.2.1 == 0) && true)))) (some (.v (.bool (x2.2.2.2.2 == 1)))) (some (.v (.bool false)))) (some (.v (.bool false)))) (some (.v (.bool false)))) (some (.v (.bool false)))) (cond (!(rcvM u v w x y z)) (cond ((x1.1 == 0) && ((x1.2.1 == 0) && ((x1.2.2.1 == 0) && ((x1.2.2.2.1 == 0) && true)))) (cond ((x1.2.2.2.2.1 == 0) && ((x1.2.2.2.2.2.1 == 0) && ((x1.2.2.2.2.2.2.1 == 0) && ((x1.2.2.2.2.2.2.2.1 == 0) && true)))) (cond (x1.2.2.2.2.2.2.2.2 == 1) (cond ((x2.1 == 0) && ((x2.2.1 == 0) && ((x2.2.2.1 == 0) && ((x2.2.2.2.1 == 0) && true)))) (some (.v (.bool (x2.2.2.2.2 == 1)))) (some (.v (.bool false)))) (some (.v (.bool false)))) (some (.v (.bool false)))) (some (.v (.bool false)))) (lt (crsF a b c d e f u v w x y z) fun x3 => cond (twoC a b c d e f u v w x y z) (cond (!((x1.1 == x3.1) && ((x1.2.1 == x3.2.1) && ((x1.2.2.1 == x3.2.2.1) && ((x1.2.2.2.1 == x3.2.2.2.1) && true))))) (some (.v (.bool false))) (cond (!((x1.2.2.2.2.1 == x3.2.2.2.2.1) && ((x1.2.2.2.2.2.1 == x3.2.2.2.2.2.1) && ((x1.2.2.2.2.2.2.1 == x3.2.2.2.2.2.2.1) && ((x1.2.2.2.2.2.2.2.1 == x3.2.2.2.2.2.2.2.1) && true))))) (some (.v (.bool false))) (cond (x1.2.2.2.2.2.2.2.2 != x3.2.2.2.2.2.2.2.2) (some (.v (.bool false))) (cond (!(rvpM i j)) (cond ((x2.1 == 0) && ((x2.2.1 == 0) && ((x2.2.2.1 == 0) && ((x2.2.2.2.1 == 0) && true)))) (some (.v (.bool (x2.2.2.2.2 == 1)))) (some (.v (.bool false)))) (lt (nerF a b c d e f u v w x y z i j) fun x4 => cond (twoN a b c d e f u v w x y z i j) (cond ((x2.1 == x4.1) && ((x2.2.1 == x4.2.1) && ((x2.2.2.1 == x4.2.2.1) && ((x2.2.2.2.1 == x4.2.2.2.1) && true)))) (some (.v (.bool (x2.2.2.2.2 == x4.2.2.2.2)))) (some (.v (.bool false)))) (none)))))) (none))))) (by kernel_rfl) ?_
  simp only [lt, Bool.not_true, cond_false]
  unfold all14
  cases hc : rcvM a b c d e f with
  | false =>
    rw [crs_bad (.inl hc), ner_bad (crs_bad (.inl hc))]
    rfl
  | true =>
    cases hd : rcvM u v w x y z with
    | false =>
      rw [crs_bad (.inr hd), ner_bad (crs_bad (.inr hd))]
      rfl
    | true =>
      obtain ⟨la, kc, e0, ef, f1⟩ := rcv_bd hc
      obtain ⟨lu, kw, y0, yz, z1⟩ := rcv_bd hd
      have ec := xcrs_eq la kc e0 ef f1 lu kw y0 yz z1
      have h2 : twoC a b c d e f u v w x y z = true := by
        unfold twoC
        rw [hc, hd]
        rfl
      rw [h2]
      cases hp : rvpM i j with
      | false =>
        rw [ner_no hp, ec]
        generalize crsF a b c d e f u v w x y z = r
        simp
      | true =>
        have hN : twoN a b c d e f u v w x y z i j = true := by
          unfold twoN
          rw [h2, hp]
          rfl
        obtain ⟨i0, i1, j0, j1⟩ := rvp_bd hp
        rw [xner_eq (by rw [vpnt_eq]; exact hp) i0 i1 j0 j1 ec (crsF_val la kc e0 ef f1 lu kw y0 yz z1), ec, hN]
        generalize crsF a b c d e f u v w x y z = r
        generalize nerF a b c d e f u v w x y z i j = s
        simp
end Go.Proofs.YtfilgpifiboccaaGreat

/-
  HaversineZeniths and HaversineSolves answer true.
-/
import Derived.Test.YtcjkfchjcealbaaGreatR4
import Derived.Test.YtcjkfchjcealbaaGreatTa
namespace Go.Proofs.YtcjkfchjcealbaaGreat
open Ev

open SM TA
def solP (r : Int × Int × Int × Int) : Value := .agg ⟨[.int .i64 r.1, .int .i64 r.2.1, .int .i64 r.2.2.1, .int .i64 r.2.2.2]⟩
theorem rzen_eq {a b c d e f : Int} (h : triB a b c d e f = true) : rzenM a b c d e f = ((zenM a b c d e f).1, (zenM a b c d e f).2.1) := by
  obtain ⟨h1, h2, h3⟩ := tri_bd h
  have l1 := lat_bd h1
  have l2 := lat_bd h2
  have k := bet_ok (a := a) (b := b) (c := c) (d := d) (by omega) (by omega) (by omega) (by omega) (by omega) (by omega)
  have q := cosV_ok l1.1 l2.1
  have o := (one_bd h3).2.2
  have o1 := (one_bd l1.1).2.1
  have o2 := (one_bd l2.1).2.1
  have z := zsum_ok h
  have m := mul_one q.2.2.1 q.2.2.2.1 q.2.2.2.2 (by omega) o.2.1 o.2.2.1
  have em : (mulR (cosV a b c d).1 (cosV a b c d).2 (havR e f).1 (havR e f).2.1) = zprod a b c d e f := rfl
  rw [em] at m
  unfold rzenM
  simp only [lt]
  rw [rasub_eq (by omega) (by omega) (by omega) (by omega) (by omega) (by omega)]
  dsimp only
  rw [rhav_eq (avalid_mk (by omega) (by omega) (by omega)), rcos_eq l1.1, rcos_eq l2.1, rhav_eq h3]
  have et : timesM (cosR a b).1 (cosR a b).2.1 (cosR c d).1 (cosR c d).2.1 = cosV a b c d := by
    unfold timesM
    simp only [lt]
    rw [rmul_eq (val_mk (by omega) o1.2.1 (by omega)) (val_mk (by omega) o2.2.1 (by omega)), q.1]
  have e1 : (havR (a - d) (b - c)).1 = (betV a b c d).1 ∧ (havR (a - d) (b - c)).2.1 = (betV a b c d).2 := by rw [k.1]; exact ⟨rfl, rfl⟩
  dsimp only
  rw [et, e1.1, e1.2]
  have eu : timesM (cosV a b c d).1 (cosV a b c d).2 (havR e f).1 (havR e f).2.1 = ((zprod a b c d e f).1, (zprod a b c d e f).2.1) := by
    unfold timesM
    simp only [lt]
    rw [rmul_eq (val_mk (by omega) q.2.2.2.1 (by omega)) (val_mk (by omega) o.2.1 (by omega))]
    rfl
  rw [eu]
  have ep : plusM (betV a b c d).1 (betV a b c d).2 (zprod a b c d e f).1 (zprod a b c d e f).2.1 = ((zsum a b c d e f).1, (zsum a b c d e f).2.1) := by
    unfold plusM
    simp only [lt]
    rw [radd_eq (val_mk (by omega) k.2.2.2.1 (by omega)) (val_mk (by omega) m.2.2.1 (by omega))]
    rfl
  dsimp only
  rw [ep, zen_ok h]
  dsimp only
  rw [zen_ah h]
theorem self_eq (x y : Int) : ((x == x) && ((y == y) && true)) = true := by simp
def allT (_a _b _c _d _e _f : Int) : Bool := true
theorem tri_no {a b c d e f : Int} (h : triB a b c d e f = false) : zenM a b c d e f = (0, 0, 1) ∧ solM a b c d e f = (0, 0, 0, 0, 1) := by
  have z : zenM a b c d e f = (0, 0, 1) := by unfold zenM; rw [h]; rfl
  refine ⟨z, ?_⟩
  unfold solM
  simp only [lt]
  rw [z]
  rfl
noncomputable def book_hzs_any : Book := [(6, e0 (.bool (true))), (7, eT (fun a b c d e f => arcV (zenM a b c d e f))), (8, eT (fun a b c d e f => .bool (rtriM a b c d e f))), (9, eT (fun a b c d e f => pairV (rzenM a b c d e f).1 (rzenM a b c d e f).2))]
theorem book_hzs_any_ok : BookOk Tryz.prog book_hzs_any := (bookOk_cons (e0_ok awake_gives) (bookOk_cons (eT_ok zenM_gives) (bookOk_cons (eT_ok rtriM_gives) (bookOk_cons (eT_ok rzenM_gives) bookOk_nil))))
theorem hzs_any_tree (a b c d e f : Int) : evF Tryz.prog Es Cs book_hzs_any 20 6 3 ([.agg ⟨[.int .i64 a, .int .i64 b, .int .i64 c, .int .i64 d, .int .i64 e, .int .i64 f]⟩].map AV.v) [] [] last =
  cond (!(true))
  (some (.v (.bool false)))
  (lt (zenM a b c d e f) fun x1 =>
   cond (!(rtriM a b c d e f))
   (cond ((x1.1 == 0) && ((x1.2.1 == 0) && true))
    (some (.v (.bool (x1.2.2 == 1))))
    (some (.v (.bool false))))
   (lt (rzenM a b c d e f) fun x2 =>
    cond ((x1.1 == x2.1) && ((x1.2.1 == x2.2) && true))
    (some (.v (.bool (x1.2.2 == 0))))
    (some (.v (.bool false))))) := by kernel_rfl
theorem hzs_any (a b c d e f : Int) : Gives Tryz.prog 3 [.agg ⟨[.int .i64 a, .int .i64 b, .int .i64 c, .int .i64 d, .int .i64 e, .int .i64 f]⟩] (.bool (allT a b c d e f)) := by
  refine evF_gives (E := Es) mixed Es_ok Cs_ok book_hzs_any_ok (lim := 20) (d := 6) (nm := []) ?_
  rw [hzs_any_tree a b c d e f]
  simp only [lt, Bool.not_true, cond_false]
  rw [rtri_eq]
  unfold allT
  cases ht : triB a b c d e f with
  | false =>
    rw [(tri_no ht).1]
    rfl
  | true =>
    have ez : (zenM a b c d e f).2.2 = 0 := by rw [zen_ok ht]
    rw [rzen_eq ht, ez]
    dsimp only
    rw [self_eq]
    rfl
theorem azi_two {a b c d e f : Int} (h : triB a b c d e f = true) : (aziM a b c d e f (zenM a b c d e f).1 (zenM a b c d e f).2.1).2.2 = 0 ∨ (aziM a b c d e f (zenM a b c d e f).1 (zenM a b c d e f).2.1).2.2 = 21 := by
  obtain ⟨h1, h2, h3⟩ := tri_bd h
  have l1 := lat_bd h1
  have l2 := lat_bd h2
  have l3 := aval_bd h3
  obtain ⟨z0, zz, z1, _⟩ := zen_ends (x := a) (y := c) (t := e) h (by omega) (by omega) (by omega)
  have t := top_ok h
  rw [azi_eq h z0 zz z1]
  rcases t with t | t
  · left
    have b := top_bd h1 h2 z0 zz z1 t
    rw [if_neg (by omega)]
    exact (trnd_eq h3 b.1 b.2.1 b.2.2 _ rfl).2
  · right
    rw [if_pos (by omega)]
    exact t
theorem sol_ok {a b c d e f : Int} (h : triB a b c d e f = true) : solM a b c d e f =
    if (aziM a b c d e f (zenM a b c d e f).1 (zenM a b c d e f).2.1).2.2 = 0 then (5400000 - (zenM a b c d e f).2.1, 5400000 - (zenM a b c d e f).1, (aziM a b c d e f (zenM a b c d e f).1 (zenM a b c d e f).2.1).1, (aziM a b c d e f (zenM a b c d e f).1 (zenM a b c d e f).2.1).2.1, 0)
    else (5400000 - (zenM a b c d e f).2.1, 5400000 - (zenM a b c d e f).1, 0, 21600000, 0) := by
  obtain ⟨h1, h2, h3⟩ := tri_bd h
  have l1 := lat_bd h1
  have l2 := lat_bd h2
  have l3 := aval_bd h3
  obtain ⟨z0, zz, z1, _⟩ := zen_ends (x := a) (y := c) (t := e) h (by omega) (by omega) (by omega)
  have ez : (zenM a b c d e f).2.2 = 0 := by rw [zen_ok h]
  have t := azi_two h
  unfold solM
  simp only [lt]
  rw [ez, less_ok (by omega) (by omega)]
  rcases t with t | t
  · rw [if_pos t, t]; rfl
  · rw [if_neg (by omega), t]; rfl
noncomputable def rsolM (a b c d e f : Int) : Int × Int × Int × Int := ((solM a b c d e f).1, (solM a b c d e f).2.1, (solM a b c d e f).2.2.1, (solM a b c d e f).2.2.2.1)
noncomputable def book_rsol_gives : Book := [(9, eT (fun a b c d e f => pairV (rzenM a b c d e f).1 (rzenM a b c d e f).2)), (12, eTPif angP (fun a b c d e f u v => arcV (aziM a b c d e f u v))), (38, eP (fun a b => pairV (qtrM a b).1 (qtrM a b).2))]
theorem book_rsol_gives_ok : BookOk Tryz.prog book_rsol_gives := (bookOk_cons (eT_ok rzenM_gives) (bookOk_cons (eTPif_ok razi_gives) (bookOk_cons (eP_ok qtrM_gives) bookOk_nil)))
theorem rsol_gives_tree (a b c d e f : Int) : evF Tryz.prog Es Cs book_rsol_gives 20 6 14 ([.agg ⟨[.int .i64 a, .int .i64 b, .int .i64 c, .int .i64 d, .int .i64 e, .int .i64 f]⟩].map AV.v) [] [] last =
  lt (rzenM a b c d e f) fun x1 =>
  lt (aziM a b c d e f x1.1 x1.2) fun x2 =>
  cond (angP a b c d e f x1.1 x1.2)
  (cond (x2.2.2 != 0)
   (lt (qtrM x1.1 x1.2) fun x3 =>
    some (.v (.agg ⟨[.int .i64 x3.1, .int .i64 x3.2, .int .i64 0, .int .i64 21600000]⟩)))
   (lt (qtrM x1.1 x1.2) fun x4 =>
    some (.v (.agg ⟨[.int .i64 x4.1, .int .i64 x4.2, .int .i64 x2.1, .int .i64 x2.2.1]⟩))))
  (none) := by kernel_rfl
theorem rsol_gives (a b c d e f : Int) (hp : triB a b c d e f = true) : Gives Tryz.prog 14 [.agg ⟨[.int .i64 a, .int .i64 b, .int .i64 c, .int .i64 d, .int .i64 e, .int .i64 f]⟩] (solP (rsolM a b c d e f)) := by
  refine evF_gives (E := Es) mixed Es_ok Cs_ok book_rsol_gives_ok (lim := 20) (d := 6) (nm := []) ?_
  rw [rsol_gives_tree a b c d e f]
  obtain ⟨h1, h2, h3⟩ := tri_bd hp
  have l1 := lat_bd h1
  have l2 := lat_bd h2
  have l3 := aval_bd h3
  obtain ⟨z0, zz, z1, _⟩ := zen_ends (x := a) (y := c) (t := e) hp (by omega) (by omega) (by omega)
  have ha : angP a b c d e f (zenM a b c d e f).1 (zenM a b c d e f).2.1 = true := by
    unfold angP
    rw [hp, (dist_eq _ _).2 ⟨z0, zz, z1⟩]
    rfl
  simp only [lt]
  rw [rzen_eq hp]
  dsimp only
  rw [ha, cond_true, qtr_eq (by omega) zz (by omega)]
  unfold rsolM
  rw [sol_ok hp]
  rcases azi_two hp with q | q
  · rw [if_pos q, q]; rfl
  · rw [if_neg (by omega), q]; rfl
noncomputable def book_hso_any : Book := [(6, e0 (.bool (true))), (8, eT (fun a b c d e f => .bool (rtriM a b c d e f))), (13, eT (fun a b c d e f => solV (solM a b c d e f))), (14, eTif triB (fun a b c d e f => solP (rsolM a b c d e f)))]
theorem book_hso_any_ok : BookOk Tryz.prog book_hso_any := (bookOk_cons (e0_ok awake_gives) (bookOk_cons (eT_ok rtriM_gives) (bookOk_cons (eT_ok solM_gives) (bookOk_cons (eTif_ok rsol_gives) bookOk_nil))))
theorem hso_any_tree (a b c d e f : Int) : evF Tryz.prog Es Cs book_hso_any 20 6 5 ([.agg ⟨[.int .i64 a, .int .i64 b, .int .i64 c, .int .i64 d, .int .i64 e, .int .i64 f]⟩].map AV.v) [] [] last =
  cond (!(true))
  (some (.v (.bool false)))
  (lt (solM a b c d e f) fun x1 =>
   cond (!(rtriM a b c d e f))
   (cond ((x1.1 == 0) && ((x1.2.1 == 0) && ((x1.2.2.1 == 0) && ((x1.2.2.2.1 == 0) && true))))
    (some (.v (.bool (x1.2.2.2.2 == 1))))
    (some (.v (.bool false))))
   (lt (rsolM a b c d e f) fun x2 =>
    cond (triB a b c d e f)
    (cond ((x1.1 == x2.1) && ((x1.2.1 == x2.2.1) && ((x1.2.2.1 == x2.2.2.1) && ((x1.2.2.2.1 == x2.2.2.2) && true))))
     (some (.v (.bool (x1.2.2.2.2 == 0))))
     (some (.v (.bool false))))
    (none))) := by kernel_rfl
theorem hso_any (a b c d e f : Int) : Gives Tryz.prog 5 [.agg ⟨[.int .i64 a, .int .i64 b, .int .i64 c, .int .i64 d, .int .i64 e, .int .i64 f]⟩] (.bool (allT a b c d e f)) := by
  refine evF_gives (E := Es) mixed Es_ok Cs_ok book_hso_any_ok (lim := 20) (d := 6) (nm := []) ?_
  rw [hso_any_tree a b c d e f]
  simp only [lt, Bool.not_true, cond_false]
  rw [rtri_eq]
  unfold allT
  cases ht : triB a b c d e f with
  | false =>
    rw [(tri_no ht).2]
    rfl
  | true =>
    have ez : (solM a b c d e f).2.2.2.2 = 0 := by rw [sol_ok ht]; split <;> rfl
    unfold rsolM
    rw [ez]
    simp
end Go.Proofs.YtcjkfchjcealbaaGreat

/-
  HaversineMirrors answers true.
-/
import Derived.Test.YtcjkfchjcealbaaM2
namespace Go.Proofs.Ytcjkfchjcealbaa
open Ev

open SM TA
theorem azi_two {a b c d e f : Int} (h : triB a b c d e f = true) : (topM a b c d e f (zenM a b c d e f).1 (zenM a b c d e f).2.1).2.2 = 0 ∧ (0 ≤ (topM a b c d e f (zenM a b c d e f).1 (zenM a b c d e f).2.1).1 ∧ (topM a b c d e f (zenM a b c d e f).1 (zenM a b c d e f).2.1).1 ≤ (topM a b c d e f (zenM a b c d e f).1 (zenM a b c d e f).2.1).2.1 ∧ (topM a b c d e f (zenM a b c d e f).1 (zenM a b c d e f).2.1).2.1 ≤ 10800000) ∨ (topM a b c d e f (zenM a b c d e f).1 (zenM a b c d e f).2.1).2.2 = 21 := by
  obtain ⟨h1, h2, h3⟩ := tri_bd h
  have l1 := lat_bd h1
  have l2 := lat_bd h2
  have l3 := aval_bd h3
  obtain ⟨z0, zz, z1, _⟩ := zen_ends (x := a) (y := c) (t := e) h (by omega) (by omega) (by omega)
  rcases top_ok h with t | t
  · left
    refine ⟨t, ?_⟩
    have hz := latz z0 zz z1
    have q := cosV_ok l1.1 (lat_bd hz).1
    have n0 := num_ok h1 h2 z0 zz z1
    have nb := val_bd n0.2
    rw [top_eq h1 h2 z0 zz z1] at t ⊢
    exact (top_grow n0.2 (val_mk (by omega) q.2.2.2.1 (by omega)) t (Int.le_refl _) nb.2.1 (Int.le_refl _) (Int.le_refl _) q.2.2.2.1 (Int.le_refl _)).1
  · right; exact t
def aziX (p q e f : Int) : Int × Int × Int := if turnL e f ≥ 10800000 ∧ turnH e f ≤ 21600000 then (p, q, 0) else if turnH e f ≤ 10800000 then turnR (21600000 - q) (21600000 - p) else if p + q > 10800000 then (p, 21600000 - p, 0) else turnR (0 - q) q
theorem azi_X {a b c d e f : Int} (h : triB a b c d e f = true) (ht : (topM a b c d e f (zenM a b c d e f).1 (zenM a b c d e f).2.1).2.2 = 0) (hb : 0 ≤ (topM a b c d e f (zenM a b c d e f).1 (zenM a b c d e f).2.1).1 ∧ (topM a b c d e f (zenM a b c d e f).1 (zenM a b c d e f).2.1).1 ≤ (topM a b c d e f (zenM a b c d e f).1 (zenM a b c d e f).2.1).2.1 ∧ (topM a b c d e f (zenM a b c d e f).1 (zenM a b c d e f).2.1).2.1 ≤ 10800000) :
    aziM a b c d e f (zenM a b c d e f).1 (zenM a b c d e f).2.1 = aziX (topM a b c d e f (zenM a b c d e f).1 (zenM a b c d e f).2.1).1 (topM a b c d e f (zenM a b c d e f).1 (zenM a b c d e f).2.1).2.1 e f := by
  obtain ⟨h1, h2, h3⟩ := tri_bd h
  have l1 := lat_bd h1
  have l2 := lat_bd h2
  have l3 := aval_bd h3
  obtain ⟨z0, zz, z1, _⟩ := zen_ends (x := a) (y := c) (t := e) h (by omega) (by omega) (by omega)
  rw [azi_eq h z0 zz z1, if_neg (by omega)]
  generalize (topM a b c d e f (zenM a b c d e f).1 (zenM a b c d e f).2.1) = r at *
  rw [i64w (x := 21600000 - r.2.1) (by omega), i64w (x := 21600000 - r.1) (by omega), i64w (x := r.1 + r.2.1) (by omega), i64w (x := 0 - r.2.1) (by omega)]
  rfl
theorem aziX_ok {p q e f : Int} (h1 : 0 ≤ p) (h2 : p ≤ q) (h3 : q ≤ 10800000) : (aziX p q e f).2.2 = 0 := by
  unfold aziX turnR
  rw [if_pos (avalid_mk (by omega) (by omega) (by omega)), if_pos (avalid_mk (by omega) (by omega) (by omega))]
  repeat' split
  all_goals rfl
theorem agree_mk {a b c d : Int} (h1 : -100000000 ≤ a) (h2 : a ≤ b) (h3 : b ≤ 100000000) (h4 : -100000000 ≤ c) (h5 : c ≤ d) (h6 : d ≤ 100000000) (h : (c - a) % 21600000 ≤ b - a ∨ (a - c) % 21600000 ≤ d - c) : agreeR a b c d = (true, 0) := by
  unfold agreeR
  rw [if_pos ⟨avalid_mk (by omega) h2 (by omega), avalid_mk (by omega) h5 (by omega)⟩, decT h]
/-- The mirrored azimuth agrees. -/
theorem mirror_agree {p q e f : Int} (h1 : 0 ≤ p) (h2 : p ≤ q) (h3 : q ≤ 10800000) (hef : e ≤ f) (hm : (e = f ∧ (e % 21600000 = 0 ∨ e % 21600000 = 10800000)) → p = 0 ∨ q = 10800000) :
    agreeR (0 - (aziX p q e f).2.1) (0 - (aziX p q e f).1) (aziX p q (-f) (-e)).1 (aziX p q (-f) (-e)).2.1 = (true, 0) := by
  have tb : avalidB (21600000 - q) (21600000 - p) = true := avalid_mk (by omega) (by omega) (by omega)
  have td : avalidB (0 - q) q = true := avalid_mk (by omega) (by omega) (by omega)
  have e1 : turnR (21600000 - q) (21600000 - p) = ((21600000 - q) % 21600000, (21600000 - q) % 21600000 + (q - p), 0) := by
    unfold turnR turnL turnH
    rw [if_pos tb, if_neg (by omega), if_neg (by omega), show 21600000 - p - (21600000 - q) = q - p by omega]
  have cases4 : ((turnL e f ≥ 10800000 ∧ turnH e f ≤ 21600000) ∧ (turnL (-f) (-e) ≥ 10800000 ∧ turnH (-f) (-e) ≤ 21600000) ∧ (e = f ∧ (e % 21600000 = 0 ∨ e % 21600000 = 10800000))) ∨
      ((turnL e f ≥ 10800000 ∧ turnH e f ≤ 21600000) ∧ ¬ (turnL (-f) (-e) ≥ 10800000 ∧ turnH (-f) (-e) ≤ 21600000) ∧ turnH (-f) (-e) ≤ 10800000) ∨
      (¬ (turnL e f ≥ 10800000 ∧ turnH e f ≤ 21600000) ∧ turnH e f ≤ 10800000 ∧ (turnL (-f) (-e) ≥ 10800000 ∧ turnH (-f) (-e) ≤ 21600000)) ∨
      (¬ (turnL e f ≥ 10800000 ∧ turnH e f ≤ 21600000) ∧ turnH e f ≤ 10800000 ∧ ¬ (turnL (-f) (-e) ≥ 10800000 ∧ turnH (-f) (-e) ≤ 21600000) ∧ turnH (-f) (-e) ≤ 10800000 ∧ (e = f ∧ (e % 21600000 = 0 ∨ e % 21600000 = 10800000))) ∨
      (¬ (turnL e f ≥ 10800000 ∧ turnH e f ≤ 21600000) ∧ ¬ turnH e f ≤ 10800000 ∧ ¬ (turnL (-f) (-e) ≥ 10800000 ∧ turnH (-f) (-e) ≤ 21600000) ∧ ¬ turnH (-f) (-e) ≤ 10800000) := by
    unfold turnL turnH
    by_cases w : f - e ≥ 21600000
    · rw [if_pos w, if_pos w, if_pos (by omega), if_pos (by omega)]
      omega
    · rw [if_neg w, if_neg w, if_neg (by omega), if_neg (by omega)]
      omega
  unfold aziX
  rcases cases4 with ⟨c1, c2, c3⟩ | ⟨c1, c2, c3⟩ | ⟨c1, c2, c3⟩ | ⟨c1, c2, c3, c4, c5⟩ | ⟨c1, c2, c3, c4⟩
  · rw [if_pos c1, if_pos c2]
    have := hm c3
    dsimp only
    exact agree_mk (by omega) (by omega) (by omega) (by omega) (by omega) (by omega) (by omega)
  · rw [if_pos c1, if_neg c2, if_pos c3, e1]
    dsimp only
    exact agree_mk (by omega) (by omega) (by omega) (by omega) (by omega) (by omega) (by omega)
  · rw [if_neg c1, if_pos c2, if_pos c3, e1]
    dsimp only
    exact agree_mk (by omega) (by omega) (by omega) (by omega) (by omega) (by omega) (by omega)
  · rw [if_neg c1, if_pos c2, if_neg c3, if_pos c4, e1]
    have := hm c5
    dsimp only
    exact agree_mk (by omega) (by omega) (by omega) (by omega) (by omega) (by omega) (by omega)
  · rw [if_neg c1, if_neg c2, if_neg c3, if_neg c4]
    by_cases k : p + q > 10800000
    · rw [if_pos k]
      dsimp only
      exact agree_mk (by omega) (by omega) (by omega) (by omega) (by omega) (by omega) (by omega)
    · rw [if_neg k]
      by_cases w : q - (0 - q) ≥ 21600000
      · have e2 : turnR (0 - q) q = (0, 21600000, 0) := by
          unfold turnR turnL turnH
          rw [if_pos td, if_pos w, if_pos w]
        rw [e2]
        dsimp only
        exact agree_mk (by omega) (by omega) (by omega) (by omega) (by omega) (by omega) (by omega)
      · have e2 : turnR (0 - q) q = ((0 - q) % 21600000, (0 - q) % 21600000 + (q - (0 - q)), 0) := by
          unfold turnR turnL turnH
          rw [if_pos td, if_neg w, if_neg w]
        rw [e2]
        dsimp only
        exact agree_mk (by omega) (by omega) (by omega) (by omega) (by omega) (by omega) (by omega)
theorem top_lha (a b c d e f e' f' u v : Int) : topM a b c d e f u v = topM a b c d e' f' u v := rfl
theorem sol_ok {a b c d e f : Int} (h : triB a b c d e f = true) : solM a b c d e f =
    if (topM a b c d e f (zenM a b c d e f).1 (zenM a b c d e f).2.1).2.2 = 0 then (5400000 - (zenM a b c d e f).2.1, 5400000 - (zenM a b c d e f).1, (aziX (topM a b c d e f (zenM a b c d e f).1 (zenM a b c d e f).2.1).1 (topM a b c d e f (zenM a b c d e f).1 (zenM a b c d e f).2.1).2.1 e f).1, (aziX (topM a b c d e f (zenM a b c d e f).1 (zenM a b c d e f).2.1).1 (topM a b c d e f (zenM a b c d e f).1 (zenM a b c d e f).2.1).2.1 e f).2.1, 0)
    else (5400000 - (zenM a b c d e f).2.1, 5400000 - (zenM a b c d e f).1, 0, 21600000, 0) := by
  obtain ⟨h1, h2, h3⟩ := tri_bd h
  have l1 := lat_bd h1
  have l2 := lat_bd h2
  have l3 := aval_bd h3
  obtain ⟨z0, zz, z1, _⟩ := zen_ends (x := a) (y := c) (t := e) h (by omega) (by omega) (by omega)
  have ez : (zenM a b c d e f).2.2 = 0 := by rw [zen_ok h]
  unfold solM
  simp only [lt]
  rw [ez, less_ok (by omega) (by omega)]
  rcases azi_two h with ⟨t, b⟩ | t
  · rw [if_pos t, azi_X h t b, aziX_ok b.1 b.2.1 b.2.2]; rfl
  · have : (aziM a b c d e f (zenM a b c d e f).1 (zenM a b c d e f).2.1).2.2 = 21 := by
      rw [azi_eq h z0 zz z1, if_pos (by omega)]
      exact t
    rw [if_neg (by omega), this]; rfl
def allT (_a _b _c _d _e _f : Int) : Bool := true
noncomputable def book_hmi_any : Book := [(8, e0 (.bool (true))), (9, eT (fun a b c d e f => arcV (zenM a b c d e f))), (16, eT (fun a b c d e f => solV (solM a b c d e f))), (18, ePP (fun a b c d => boolV (agreeR a b c d)))]
theorem book_hmi_any_ok : BookOk Try.prog book_hmi_any := (bookOk_cons (e0_ok awake_gives) (bookOk_cons (eT_ok zenM_gives) (bookOk_cons (eT_ok solM_gives) (bookOk_cons (ePP_ok agreeR_gives) bookOk_nil))))
theorem hmi_any_tree (a b c d e f : Int) : evF Try.prog Es Cs book_hmi_any 20 6 5 ([.agg ⟨[.int .i64 a, .int .i64 b, .int .i64 c, .int .i64 d, .int .i64 e, .int .i64 f]⟩].map AV.v) [] [] last =
  cond (!(true))
  (some (.v (.bool false)))
  (lt (solM a b c d e f) fun x1 =>
   cond (x1.2.2.2.2 != 0)
   (some (.v (.bool ((x1.1 == 0) && ((x1.2.1 == 0) && ((x1.2.2.1 == 0) && ((x1.2.2.2.1 == 0) && true)))))))
   (lt (solM a b c d (IntKind.i64.wrap (0 - f)) (IntKind.i64.wrap (0 - e))) fun x2 =>
    lt (agreeR (IntKind.i64.wrap (0 - x1.2.2.2.1)) (IntKind.i64.wrap (0 - x1.2.2.1)) x2.2.2.1 x2.2.2.2.1) fun x3 =>
    lt (zenM a b c d e f) fun x4 =>
    lt (zenM c d a b e f) fun x5 =>
    lt (zenM (IntKind.i64.wrap (0 - b)) (IntKind.i64.wrap (0 - a)) (IntKind.i64.wrap (0 - d)) (IntKind.i64.wrap (0 - c)) e f) fun x6 =>
    cond (x2.2.2.2.2 == 0)
    (cond ((x2.1 == x1.1) && ((x2.2.1 == x1.2.1) && true))
     (cond (x3.2 == 0)
      (cond x3.1
       (cond (x4.2.2 == 0)
        (cond (x5.2.2 == 0)
         (cond (x6.2.2 == 0)
          (cond ((x5.1 == x4.1) && ((x5.2.1 == x4.2.1) && true))
           (some (.v (.bool ((x6.1 == x4.1) && ((x6.2.1 == x4.2.1) && true)))))
           (some (.v (.bool false))))
          (some (.v (.bool false))))
         (some (.v (.bool false))))
        (some (.v (.bool false))))
       (some (.v (.bool false))))
      (some (.v (.bool false))))
     (some (.v (.bool false))))
    (some (.v (.bool false))))) := by kernel_rfl
theorem hmi_any (a b c d e f : Int) : Gives Try.prog 5 [.agg ⟨[.int .i64 a, .int .i64 b, .int .i64 c, .int .i64 d, .int .i64 e, .int .i64 f]⟩] (.bool (allT a b c d e f)) := by
  refine evF_gives (E := Es) mixed Es_ok Cs_ok book_hmi_any_ok (lim := 20) (d := 6) (nm := []) ?_
  rw [hmi_any_tree a b c d e f]
  simp only [lt, Bool.not_true, cond_false]
  unfold allT
  cases ht : triB a b c d e f with
  | false =>
    have z : zenM a b c d e f = (0, 0, 1) := by unfold zenM; rw [ht]; rfl
    have : solM a b c d e f = (0, 0, 0, 0, 1) := by
      unfold solM
      simp only [lt]
      rw [z]
      rfl
    rw [this]
    rfl
  | true =>
    obtain ⟨h1, h2, h3⟩ := tri_bd ht
    have l1 := lat_bd h1
    have l2 := lat_bd h2
    have l3 := aval_bd h3
    obtain ⟨s1, s2, s3⟩ := zen_sym ht
    rw [i64w (x := 0 - f) (by omega), i64w (x := 0 - e) (by omega), i64w (x := 0 - a) (by omega), i64w (x := 0 - b) (by omega), i64w (x := 0 - c) (by omega), i64w (x := 0 - d) (by omega)]
    simp only [Int.zero_sub]
    rw [s1, s2]
    have h' : triB a b c d (-f) (-e) = true := tri_of h1 h2 (by rw [aval_neg]; exact h3)
    have ez : (zenM a b c d e f).2.2 = 0 := by rw [zen_ok ht]
    have es := sol_ok ht
    have es' := sol_ok h'
    rw [s3, top_lha a b c d (-f) (-e) e f] at es'
    rcases azi_two ht with ⟨t, bd⟩ | t
    · rw [if_pos t] at es es'
      rw [es, es', ez]
      have tm := fun hm => top_mer ht hm t
      generalize (topM a b c d e f (zenM a b c d e f).1 (zenM a b c d e f).2.1) = r at *
      have xb : ∀ e f : Int, -100000000 ≤ (aziX r.1 r.2.1 e f).1 ∧ (aziX r.1 r.2.1 e f).1 ≤ 100000000 ∧ -100000000 ≤ (aziX r.1 r.2.1 e f).2.1 ∧ (aziX r.1 r.2.1 e f).2.1 ≤ 100000000 := fun e f => by
        unfold aziX turnR turnL turnH
        rw [if_pos (avalid_mk (by omega) (by omega) (by omega)), if_pos (avalid_mk (by omega) (by omega) (by omega))]
        repeat' split
        all_goals dsimp only; omega
      have x1 := xb e f
      have ag := mirror_agree (p := r.1) (q := r.2.1) (e := e) (f := f) bd.1 bd.2.1 bd.2.2 l3.2.1 (fun ⟨_, k2⟩ => by
        rcases k2 with k2 | k2
        · refine tm (.inl ?_)
          rw [H_cong (n := 0) (by omega)]
          have := H_zero
          grind
        · refine tm (.inr ?_)
          rw [H_cong (n := 10800000) (by omega)]
          have := H_half
          grind)
      simp only [Int.zero_sub] at ag
      dsimp only
      rw [i64w (x := -(aziX r.1 r.2.1 e f).2.1) (by omega), i64w (x := -(aziX r.1 r.2.1 e f).1) (by omega), ag]
      simp
    · rw [if_neg (by omega)] at es es'
      rw [es, es', ez]
      have ag : agreeR (IntKind.i64.wrap (-21600000)) (IntKind.i64.wrap (-0)) 0 21600000 = (true, 0) := by decide +kernel
      dsimp only
      rw [ag]
      simp
end Go.Proofs.Ytcjkfchjcealbaa

/-
  The reference's quotients, and its angle at the zenith: the program's.
-/
import Derived.Test.YtcjkfchjcealbaaGreatR2
namespace Go.Proofs.YtcjkfchjcealbaaGreat
open Ev

open SM
theorem azi_eq {a b c d e f u v : Int} (ht : triB a b c d e f = true) (hu : 0 ≤ u) (huv : u ≤ v) (hv : v ≤ 10800000) :
    aziM a b c d e f u v = if (topM a b c d e f u v).2.2 ≠ 0 then (0, 0, (topM a b c d e f u v).2.2) else
      (if turnL e f ≥ 10800000 ∧ turnH e f ≤ 21600000 then ((topM a b c d e f u v).1, (topM a b c d e f u v).2.1, 0) else if turnH e f ≤ 10800000 then turnR (IntKind.i64.wrap (21600000 - (topM a b c d e f u v).2.1)) (IntKind.i64.wrap (21600000 - (topM a b c d e f u v).1)) else if IntKind.i64.wrap ((topM a b c d e f u v).1 + (topM a b c d e f u v).2.1) > 10800000 then ((topM a b c d e f u v).1, IntKind.i64.wrap (21600000 - (topM a b c d e f u v).1), 0) else turnR (IntKind.i64.wrap (0 - (topM a b c d e f u v).2.1)) (topM a b c d e f u v).2.1) := by
  obtain ⟨_, _, he⟩ := tri_bd ht
  unfold aziM
  simp only [lt]
  have et : turnR e f = (turnL e f, turnH e f, 0) := by unfold turnR; rw [if_pos he]
  rw [ht, et]
  generalize topM a b c d e f u v = r
  have d1 : decide (u < 0) = false := decide_eq_false (by omega)
  have d2 : decide (u > v) = false := decide_eq_false (by omega)
  have d3 : decide (v > 10800000) = false := decide_eq_false (by omega)
  rw [d1, d2, d3]
  simp only [Bool.not_true, cond_false]
  by_cases c0 : r.2.2 = 0
  · have : (r.2.2 != 0) = false := bne_eq_false_iff_eq.2 c0
    rw [this, if_neg (by simpa using c0)]
    have z : ((0 : Int) != 0) = false := rfl
    simp only [cond_false, z]
    by_cases c1 : turnL e f ≥ 10800000
    · have : decide (turnL e f ≥ 10800000) = true := decide_eq_true c1
      rw [this]
      by_cases c2 : turnH e f ≤ 21600000
      · have : decide (turnH e f ≤ 21600000) = true := decide_eq_true c2
        rw [this, if_pos ⟨c1, c2⟩]; rfl
      · have : decide (turnH e f ≤ 21600000) = false := decide_eq_false c2
        rw [this, if_neg (by omega)]
        simp only [cond_true, cond_false]
        by_cases c3 : turnH e f ≤ 10800000
        · rw [decide_eq_true c3, if_pos c3]; rfl
        · rw [decide_eq_false c3, if_neg c3]
          simp only [cond_false]
          by_cases c4 : IntKind.i64.wrap (r.1 + r.2.1) > 10800000
          · rw [decide_eq_true c4, if_pos c4]; rfl
          · rw [decide_eq_false c4, if_neg c4]; rfl
    · have : decide (turnL e f ≥ 10800000) = false := decide_eq_false c1
      rw [this, if_neg (by omega)]
      simp only [cond_false]
      by_cases c3 : turnH e f ≤ 10800000
      · rw [decide_eq_true c3, if_pos c3]; rfl
      · rw [decide_eq_false c3, if_neg c3]
        simp only [cond_false]
        by_cases c4 : IntKind.i64.wrap (r.1 + r.2.1) > 10800000
        · rw [decide_eq_true c4, if_pos c4]; rfl
        · rw [decide_eq_false c4, if_neg c4]; rfl
  · have : (r.2.2 != 0) = true := bne_iff_ne.2 c0
    rw [this, if_pos c0]; rfl
theorem azi_arg {a b c d e f u v : Int} (h : (aziM a b c d e f u v).2.2 ≠ 1) : triB a b c d e f = true ∧ 0 ≤ u ∧ u ≤ v ∧ v ≤ 10800000 := by
  unfold aziM at h
  simp only [lt] at h
  cases ht : triB a b c d e f with
  | false => rw [ht] at h; exact absurd rfl h
  | true =>
    rw [ht] at h
    simp only [Bool.not_true, cond_false] at h
    by_cases d1 : u < 0
    · rw [decide_eq_true d1] at h; exact absurd rfl h
    rw [decide_eq_false d1] at h
    by_cases d2 : u > v
    · rw [decide_eq_true d2] at h; exact absurd rfl h
    rw [decide_eq_false d2] at h
    by_cases d3 : v > 10800000
    · rw [decide_eq_true d3] at h; exact absurd rfl h
    exact ⟨rfl, by omega, by omega, by omega⟩
theorem azi_err {a b c d e f u v : Int} (h : (aziM a b c d e f u v).2.2 ≠ 0) : (aziM a b c d e f u v).1 = 0 ∧ (aziM a b c d e f u v).2.1 = 0 := by
  by_cases h1 : (aziM a b c d e f u v).2.2 = 1
  · unfold aziM at h h1 ⊢
    simp only [lt] at h h1 ⊢
    revert h h1
    have tr : ∀ x y : Int, (turnR x y).2.2 ≠ 0 → (turnR x y).1 = 0 ∧ (turnR x y).2.1 = 0 := fun x y q => by
      unfold turnR at q ⊢
      split at q
      · exact absurd rfl q
      · rename_i z; rw [if_neg z]; exact ⟨rfl, rfl⟩
    generalize topM a b c d e f u v = r
    generalize turnR e f = t
    cases (!triB a b c d e f) <;> cases decide (u < 0) <;> cases decide (u > v) <;> cases decide (v > 10800000) <;> cases (r.2.2 != 0) <;> cases (t.2.2 != 0) <;> simp only [cond_true, cond_false] <;> first | exact fun _ _ => ⟨rfl, rfl⟩ | exact fun _ _ => ⟨trivial, trivial⟩ | skip
    cases decide (t.1 ≥ 10800000) <;> cases decide (t.2.1 ≤ 21600000) <;> cases decide (t.2.1 ≤ 10800000) <;> cases decide (IntKind.i64.wrap (r.1 + r.2.1) > 10800000) <;> simp only [cond_true, cond_false] <;> intro h h1 <;> first | exact tr _ _ h | exact absurd rfl h
  · obtain ⟨ht, hu, huv, hv⟩ := azi_arg h1
    rw [azi_eq ht hu huv hv] at h ⊢
    split at h
    · rename_i z; rw [if_pos z]; exact ⟨rfl, rfl⟩
    · rename_i z
      rw [if_neg z]
      have tr : ∀ x y : Int, (turnR x y).2.2 ≠ 0 → (turnR x y).1 = 0 ∧ (turnR x y).2.1 = 0 := fun x y q => by
        unfold turnR at q ⊢
        split at q
        · exact absurd rfl q
        · rename_i z; rw [if_neg z]; exact ⟨rfl, rfl⟩
      revert h
      split
      · intro h; exact absurd rfl h
      · split
        · exact tr _ _
        · split
          · intro h; exact absurd rfl h
          · exact tr _ _

theorem fl_neg2 (x y : Int) (hy : y ≠ 0) : flD (-x) (-y) = flD x y := by
  unfold flD
  by_cases h : 0 < y
  · rw [if_pos h, if_neg (by omega), Int.neg_neg, Int.neg_neg]
  · rw [if_neg h, if_pos (by omega)]
theorem ce_neg2 (x y : Int) (hy : y ≠ 0) : ceD (-x) (-y) = ceD x y := by
  unfold ceD
  rw [fl_neg2 _ _ hy]
theorem div_neg2 {a b c d : Int} (hc : c ≠ 0) (hd : d ≠ 0) : divL (-b) (-a) (-d) (-c) = divL a b c d ∧ divH (-b) (-a) (-d) (-c) = divH a b c d := by
  have n : ∀ x : Int, -x * 1073741824 = -(x * 1073741824) := fun x => by omega
  unfold divL divH
  rw [n, n, fl_neg2 _ _ hd, fl_neg2 _ _ hc, fl_neg2 _ _ hd, fl_neg2 _ _ hc, ce_neg2 _ _ hd, ce_neg2 _ _ hc, ce_neg2 _ _ hd, ce_neg2 _ _ hc]
  generalize flD (a * 1073741824) c = p
  generalize flD (a * 1073741824) d = q
  generalize flD (b * 1073741824) c = r
  generalize flD (b * 1073741824) d = s
  generalize ceD (a * 1073741824) c = p'
  generalize ceD (a * 1073741824) d = q'
  generalize ceD (b * 1073741824) c = r'
  generalize ceD (b * 1073741824) d = s'
  constructor
  · have h1 := mn5 s s r q p rfl
    have h2 := mn5 p p q r s rfl
    omega
  · have h1 := mx5 s' s' r' q' p' rfl
    have h2 := mx5 p' p' q' r' s' rfl
    omega
theorem div_pos {a b c d : Int} (hc : 0 < c) (hd : 0 < d) (ab : a ≤ b) : divL a b c d = min (flD (a * 1073741824) c) (flD (a * 1073741824) d) ∧ divH a b c d = max (ceD (b * 1073741824) c) (ceD (b * 1073741824) d) := by
  have m : a * 1073741824 ≤ b * 1073741824 := by omega
  have f : ∀ y : Int, 0 < y → flD (a * 1073741824) y ≤ flD (b * 1073741824) y ∧ ceD (a * 1073741824) y ≤ ceD (b * 1073741824) y := fun y hy => by
    have p := Int.ediv_le_ediv hy m
    have q := Int.ediv_le_ediv hy (show -(b * 1073741824) ≤ -(a * 1073741824) by omega)
    unfold ceD flD
    rw [if_pos hy, if_pos hy]
    exact ⟨p, by rw [if_pos hy, if_pos hy]; omega⟩
  have f1 := f c hc
  have f2 := f d hd
  unfold divL divH
  have h2 := mn5 (flD (a * 1073741824) c) (flD (a * 1073741824) c) (flD (a * 1073741824) d) (flD (b * 1073741824) c) (flD (b * 1073741824) d) rfl
  have h3 := mx5 (ceD (a * 1073741824) c) (ceD (a * 1073741824) c) (ceD (a * 1073741824) d) (ceD (b * 1073741824) c) (ceD (b * 1073741824) d) rfl
  omega
theorem div_order {a b c d : Int} (hz : 0 < c ∨ d < 0) (ab : a ≤ b) (cd : c ≤ d) : divL a b c d ≤ divH a b c d := by
  have h := div_has (x := a) (y := c) hz (Int.le_refl _) ab (Int.le_refl _) cd
  have := fl_ce (a * 1073741824) c (by omega)
  omega
def rflP (a b : Int) : Bool := decide (0 < b ∧ -4611686018427387904 ≤ a ∧ a ≤ 4611686018427387904)
def rflD (a b : Int) : Int := a / b
noncomputable def book_rflD_gives : Book := []
theorem book_rflD_gives_ok : BookOk Tryz.prog book_rflD_gives := bookOk_nil
theorem rflD_gives_tree (a b : Int) : evF Tryz.prog Es Cs book_rflD_gives 20 6 76 ([.int .i64 a, .int .i64 b].map AV.v) [] [] last =
  cond (b == 0)
  (none)
  (cond (b == 0)
   (none)
   (cond (decide ((Int.tmod a b) < 0))
    (some (.v (.int .i64 (IntKind.i64.wrap ((IntKind.i64.wrap (Int.tdiv a b)) - 1)))))
    (some (.v (.int .i64 (IntKind.i64.wrap (Int.tdiv a b))))))) := by kernel_rfl
theorem rflD_gives (a b : Int) (hp : rflP a b = true) : Gives Tryz.prog 76 [.int .i64 a, .int .i64 b] (.int .i64 (rflD a b)) := by
  refine evF_gives (E := Es) mixed Es_ok Cs_ok book_rflD_gives_ok (lim := 20) (d := 6) (nm := []) ?_
  rw [rflD_gives_tree a b]
  obtain ⟨hb, ha1, ha2⟩ := of_decide_eq_true hp
  have t := tdiv_bd a b 4611686018427387904 ha1 ha2
  have s := tm_sign a b
  have f := fl_pos a b hb
  have e0 : (b == 0) = false := beq_eq_false_iff_ne.2 (by omega)
  unfold rflD
  rw [e0, i64w (x := Int.tdiv a b) (by omega), i64w (x := Int.tdiv a b - 1) (by omega)]
  simp only [cond_false]
  by_cases c : a.tmod b < 0
  · rw [if_pos (by omega)] at f
    rw [decT c, f]; rfl
  · rw [if_neg (by omega)] at f
    rw [decF c, f]; rfl
def rceD (a b : Int) : Int := -(-a / b)
noncomputable def book_rceD_gives : Book := [(76, eIIif rflP (fun a b => .int .i64 (rflD a b)))]
theorem book_rceD_gives_ok : BookOk Tryz.prog book_rceD_gives := (bookOk_cons (eIIif_ok rflD_gives) bookOk_nil)
theorem rceD_gives_tree (a b : Int) : evF Tryz.prog Es Cs book_rceD_gives 20 6 77 ([.int .i64 a, .int .i64 b].map AV.v) [] [] last =
  cond (rflP (IntKind.i64.wrap (0 - a)) b)
  (some (.v (.int .i64 (IntKind.i64.wrap (0 - (rflD (IntKind.i64.wrap (0 - a)) b))))))
  (none) := by kernel_rfl
theorem rceD_gives (a b : Int) (hp : rflP a b = true) : Gives Tryz.prog 77 [.int .i64 a, .int .i64 b] (.int .i64 (rceD a b)) := by
  refine evF_gives (E := Es) mixed Es_ok Cs_ok book_rceD_gives_ok (lim := 20) (d := 6) (nm := []) ?_
  rw [rceD_gives_tree a b]
  obtain ⟨hb, ha1, ha2⟩ := of_decide_eq_true hp
  have e2 : rflP (-a) b = true := decide_eq_true ⟨hb, by omega, by omega⟩
  have e1 : IntKind.i64.wrap (0 - a) = -a := by rw [i64w (by omega)]; omega
  have f := flD_bd (-a) b (by omega) 4611686018427387904 (by omega) (by omega)
  unfold flD at f
  rw [if_pos hb] at f
  simp only [e1, e2, cond_true, rflD]
  rw [i64w (by omega)]
  unfold rceD
  rw [Int.zero_sub]
theorem rdiv_pos {a b c d : Int} (ha : -2147483648 ≤ a) (ab : a ≤ b) (hb : b ≤ 2147483648) (hc : 0 < c) (hd : 0 < d) (hL : divL a b c d ≤ divH a b c d) (X : Int × Int × Int → Option AV) :
    (cond (rflP (IntKind.i64.wrap (a * 1073741824)) c) (cond (rflP (IntKind.i64.wrap (a * 1073741824)) d) (cond (rflP (IntKind.i64.wrap (b * 1073741824)) c) (cond (rflP (IntKind.i64.wrap (b * 1073741824)) d)
      (X (rfitM (rlstM (rflD (IntKind.i64.wrap (a * 1073741824)) c) (rflD (IntKind.i64.wrap (a * 1073741824)) d)) (rmstM (rceD (IntKind.i64.wrap (b * 1073741824)) c) (rceD (IntKind.i64.wrap (b * 1073741824)) d)))) none) none) none) none) = X (fitR (divL a b c d) (divH a b c d)) := by
  rw [i64w (x := a * 1073741824) (by omega), i64w (x := b * 1073741824) (by omega)]
  have f1 : rflP (a * 1073741824) c = true := decide_eq_true ⟨hc, by omega, by omega⟩
  have f2 : rflP (a * 1073741824) d = true := decide_eq_true ⟨hd, by omega, by omega⟩
  have f3 : rflP (b * 1073741824) c = true := decide_eq_true ⟨hc, by omega, by omega⟩
  have f4 : rflP (b * 1073741824) d = true := decide_eq_true ⟨hd, by omega, by omega⟩
  rw [f1, f2, f3, f4]
  simp only [cond_true]
  have g : ∀ x y : Int, 0 < y → rflD x y = flD x y ∧ rceD x y = ceD x y := fun x y hy => by
    unfold rflD rceD ceD flD
    rw [if_pos hy, if_pos hy]; exact ⟨rfl, rfl⟩
  rw [(g _ _ hc).1, (g _ _ hd).1, (g _ _ hc).2, (g _ _ hd).2, rlst_eq, rmst_eq]
  obtain ⟨e1, e2⟩ := div_pos (a := a) (b := b) hc hd ab
  rw [e1, e2] at hL ⊢
  rw [rfit_eq hL]
noncomputable def book_rdiv_gives : Book := [(73, eII (fun a b => .int .i64 (rlstM a b))), (74, eII (fun a b => .int .i64 (rmstM a b))), (75, eII (fun a b => arcV (rfitM a b))), (76, eIIif rflP (fun a b => .int .i64 (rflD a b))), (77, eIIif rflP (fun a b => .int .i64 (rceD a b))), (82, eP (fun a b => .bool (rzeroM a b))), (83, ePP (fun a b c d => pairsV (rtrnM a b c d)))]
theorem book_rdiv_gives_ok : BookOk Tryz.prog book_rdiv_gives := (bookOk_cons (eII_ok rlstM_gives) (bookOk_cons (eII_ok rmstM_gives) (bookOk_cons (eII_ok rfitM_gives) (bookOk_cons (eIIif_ok rflD_gives) (bookOk_cons (eIIif_ok rceD_gives) (bookOk_cons (eP_ok rzeroM_gives) (bookOk_cons (ePP_ok rtrnM_gives) bookOk_nil)))))))
theorem rdiv_gives_tree (a b c d : Int) : evF Tryz.prog Es Cs book_rdiv_gives 20 6 64 ([.agg ⟨[.int .i64 a, .int .i64 b]⟩, .agg ⟨[.int .i64 c, .int .i64 d]⟩].map AV.v) [] [] last =
  cond (rzeroM c d)
  (some (.v (.tuple ⟨[.agg ⟨[.int .i64 0, .int .i64 0]⟩, .int .i64 16]⟩)))
  (lt (rtrnM a b c d) fun x1 =>
   cond (rflP (IntKind.i64.wrap (x1.1 * 1073741824)) x1.2.2.1)
   (cond (rflP (IntKind.i64.wrap (x1.1 * 1073741824)) x1.2.2.2)
    (cond (rflP (IntKind.i64.wrap (x1.2.1 * 1073741824)) x1.2.2.1)
     (cond (rflP (IntKind.i64.wrap (x1.2.1 * 1073741824)) x1.2.2.2)
      (lt (rfitM (rlstM (rflD (IntKind.i64.wrap (x1.1 * 1073741824)) x1.2.2.1) (rflD (IntKind.i64.wrap (x1.1 * 1073741824)) x1.2.2.2)) (rmstM (rceD (IntKind.i64.wrap (x1.2.1 * 1073741824)) x1.2.2.1) (rceD (IntKind.i64.wrap (x1.2.1 * 1073741824)) x1.2.2.2))) fun x2 =>
       some (.v (.tuple ⟨[.agg ⟨[.int .i64 x2.1, .int .i64 x2.2.1]⟩, .int .i64 x2.2.2]⟩)))
      (none))
     (none))
    (none))
   (none)) := by kernel_rfl
theorem rdiv_gives (a b c d : Int) (hp : bothB a b c d = true) : Gives Tryz.prog 64 [.agg ⟨[.int .i64 a, .int .i64 b]⟩, .agg ⟨[.int .i64 c, .int .i64 d]⟩] (arcV (divR a b c d)) := by
  refine evF_gives (E := Es) mixed Es_ok Cs_ok book_rdiv_gives_ok (lim := 20) (d := 6) (nm := []) ?_
  rw [rdiv_gives_tree a b c d]
  obtain ⟨a1, a2, a3, c1, c2, c3⟩ := both_bd hp
  have zz : rzeroM c d = zeroB c d := by
    unfold rzeroM zeroB
    by_cases h1 : c ≤ 0
    · rw [decT h1, cond_true]; exact decide_eq_decide.2 (by omega)
    · rw [decF h1, cond_false, decF (by omega)]
  unfold divR
  simp only [lt]
  rw [if_pos hp, zz]
  cases hz : zeroB c d
  · have hz' := of_decide_eq_false hz
    rw [cond_false, if_neg (by simp)]
    have hL := div_order (a := a) (b := b) (c := c) (d := d) (by omega) a2 c2
    by_cases s : c < 0
    · have e : rtrnM a b c d = (-b, -a, -d, -c) := by
        unfold rtrnM rnegM
        simp only [lt]
        rw [decT s, i64w (x := 0 - b) (by omega), i64w (x := 0 - a) (by omega), i64w (x := 0 - d) (by omega), i64w (x := 0 - c) (by omega)]
        simp
      rw [e]
      dsimp only
      obtain ⟨n1, n2⟩ := div_neg2 (a := a) (b := b) (c := c) (d := d) (by omega) (by omega)
      refine (rdiv_pos (a := -b) (b := -a) (c := -d) (d := -c) (by omega) (by omega) (by omega) (by omega) (by omega) (by omega) (fun x => some (.v (.tuple ⟨[.agg ⟨[.int .i64 x.1, .int .i64 x.2.1]⟩, .int .i64 x.2.2]⟩)))).trans ?_
      rw [n1, n2]
      rfl
    · have e : rtrnM a b c d = (a, b, c, d) := by
        unfold rtrnM
        rw [decF s]; rfl
      rw [e]
      dsimp only
      exact rdiv_pos (a := a) (b := b) (c := c) (d := d) (by omega) (by omega) (by omega) (by omega) (by omega) hL (fun x => some (.v (.tuple ⟨[.agg ⟨[.int .i64 x.1, .int .i64 x.2.1]⟩, .int .i64 x.2.2]⟩)))
  · rfl
end Go.Proofs.YtcjkfchjcealbaaGreat

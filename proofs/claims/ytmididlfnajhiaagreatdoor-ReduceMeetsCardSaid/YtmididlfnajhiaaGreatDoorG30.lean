/-
  Chapter 30: the truth is in what solutions have in common, if it is in each of them. No program here.
-/
import Derived.Test.YtmididlfnajhiaaGreatDoorA30
import Derived.Test.YtmididlfnajhiaaGreatDoorHc
import Derived.Test.YtmididlfnajhiaaGreatDoorHm
import Derived.Test.YtmididlfnajhiaaGreatDoorHa
import Derived.Test.YtmididlfnajhiaaGreatDoorFp
namespace Go.Proofs.YtmididlfnajhiaaGreatDoor
open SM TB TA
structure Gd (h z : Rat) (s : Sol) : Prop where
  val : svalB s = true
  up : Hs dS s.1 s.2.1 h
  az : Dr dS s.2.2.1 s.2.2.2 z
theorem dS2 : dS + dS < 1 := by decide +kernel
theorem gd_of {a b c d e f : Int} {H Z : Int × Int × Int} {x y t h z : Rat} (k : Hold a b c d e f H Z) (hx : Hs 0 a b x) (hy : Hs 0 c d y) (ht : Hs 0 e f t) (s : Sees x y t h z) : Gd h z (H.1, H.2.1, Z.1, Z.2.1) := by
  refine ⟨?_, k.up x y t hx hy ht h z s, k.az x y t hx hy ht h z s⟩
  have l := k.lat
  have d := k.dir
  have f := k.form
  obtain ⟨d1, d2, d3, d4, _⟩ := d
  unfold svalB
  rw [l.val, k.dir.val]
  simp only [Bool.true_and, Bool.or_eq_true, Bool.and_eq_true, beq_iff_eq, decide_eq_true_eq]
  omega
theorem form_of {s : Sol} (h : svalB s = true) : (s.2.2.1 = 0 ∧ s.2.2.2 = 21600000) ∨ (0 ≤ s.2.2.1 ∧ s.2.2.1 < 21600000 ∧ s.2.2.1 ≤ s.2.2.2 ∧ s.2.2.2 - s.2.2.1 < 21600000) := by
  have b := sval_bd h
  have v := aval_bd b.2.1
  unfold svalB at h
  simp only [Bool.and_eq_true, Bool.or_eq_true, beq_iff_eq, decide_eq_true_eq] at h
  omega
theorem Dr_shift {d : Rat} {a b : Int} {z : Rat} (m k : Int) (h : Hs d a b (z + 21600000 * (m : Rat))) : Hs d (a + 21600000 * k) (b + 21600000 * k) (z + 21600000 * ((m + k : Int) : Rat)) := by
  unfold Hs at *
  rw [Rat.intCast_add, Rat.intCast_add, Rat.intCast_mul, Rat.intCast_add, show ((21600000 : Int) : Rat) = 21600000 by rfl]
  constructor <;> grind
theorem dirs_good {a b c d : Int} {z : Rat} (fa : (a = 0 ∧ b = 21600000) ∨ (0 ≤ a ∧ a < 21600000 ∧ a ≤ b ∧ b - a < 21600000)) (fc : (c = 0 ∧ d = 21600000) ∨ (0 ≤ c ∧ c < 21600000 ∧ c ≤ d ∧ d - c < 21600000)) (ha : Dr dS a b z) (hc : Dr dS c d z) :
    (dirsR a b c d).2.2 = 0 ∧ Dr dS (dirsR a b c d).1 (dirsR a b c d).2.1 z ∧ (((dirsR a b c d).1 = 0 ∧ (dirsR a b c d).2.1 = 21600000) ∨ (0 ≤ (dirsR a b c d).1 ∧ (dirsR a b c d).1 < 21600000 ∧ (dirsR a b c d).1 ≤ (dirsR a b c d).2.1 ∧ (dirsR a b c d).2.1 - (dirsR a b c d).1 < 21600000)) := by
  unfold dirsR
  by_cases h1 : a = 0 ∧ b = 21600000
  · rw [if_pos h1]; exact ⟨rfl, hc, fc⟩
  rw [if_neg h1]
  by_cases h2 : c = 0 ∧ d = 21600000
  · rw [if_pos h2]; exact ⟨rfl, ha, fa⟩
  rw [if_neg h2]
  have fa' := fa.resolve_left h1
  have fc' := fc.resolve_left h2
  obtain ⟨m, hm⟩ := ha
  obtain ⟨n, hn⟩ := hc
  have hs := Dr_shift n (m - n) hn
  rw [show n + (m - n) = m by omega] at hs
  have mt := hm.meet hs dS2
  generalize hk : m - n = k at *
  have hk3 : k = -1 ∨ k = 0 ∨ k = 1 := by omega
  have hin : (mx a (c + 21600000 * k), mn b (d + 21600000 * k)) ∈ dirL a b c d 3 := by
    unfold dirL
    rw [List.mem_filterMap]
    refine ⟨21600000 * k, ?_, ?_⟩
    · rcases hk3 with rfl | rfl | rfl <;> simp [turns]
    · unfold dirP
      rw [if_neg]
      unfold mx mn
      split <;> split <;> omega
  have hp : Hs dS (mx a (c + 21600000 * k)) (mn b (d + 21600000 * k)) (z + 21600000 * (m : Rat)) := by
    unfold Hs at *
    unfold mx mn
    constructor
    · split
      · exact hs.1
      · exact hm.1
    · split
      · exact hs.2
      · exact hm.2
  have hle : mx a (c + 21600000 * k) ≤ mn b (d + 21600000 * k) := by
    unfold mx mn
    split <;> split <;> omega
  have hbd : 0 ≤ mx a (c + 21600000 * k) ∧ mx a (c + 21600000 * k) < 100000000 ∧ mn b (d + 21600000 * k) ≤ 100000000 := by
    unfold mx mn
    refine ⟨?_, ?_, ?_⟩
    · split <;> omega
    · split <;> omega
    · split <;> omega
  generalize mx a (c + 21600000 * k) = X at *
  generalize mn b (d + 21600000 * k) = Y at *
  cases hL : dirL a b c d 3 with
  | nil => rw [hL] at hin; cases hin
  | cons p L =>
    cases L with
    | nil =>
      rw [hL] at hin
      have e : (X, Y) = p := by simpa using hin
      subst e
      simp only [dirF]
      rw [turnR_ok (by omega) hle (by omega)]
      have td := turn_dir hle
      obtain ⟨⟨t1, t2, t3, t4, _⟩, t5⟩ := td
      refine ⟨rfl, turn_hold hle ⟨m, hp⟩ (by decide +kernel), ?_⟩
      dsimp only at *
      omega
    | cons q L =>
      simp only [dirF]
      split
      · exact ⟨rfl, ⟨n, hn⟩, .inr fc'⟩
      · exact ⟨rfl, ⟨m, hm⟩, .inr fa'⟩
theorem meetO_good {h z : Rat} {o s : Sol} (go : Gd h z o) (gs : Gd h z s) : ∃ x, meetO o s = some x ∧ Gd h z x ∧ o.1 ≤ x.1 ∧ s.1 ≤ x.1 ∧ x.2.1 ≤ o.2.1 ∧ x.2.1 ≤ s.2.1 := by
  have bo := sval_bd go.val
  have bs := sval_bd gs.val
  have vo := aval_bd bo.1
  have vs := aval_bd bs.1
  have mt := go.up.meet gs.up dS2
  have hd := dirs_good (form_of go.val) (form_of gs.val) go.az gs.az
  have hmx : o.1 ≤ mx o.1 s.1 ∧ s.1 ≤ mx o.1 s.1 ∧ mx o.1 s.1 ≤ mn o.2.1 s.2.1 ∧ mn o.2.1 s.2.1 ≤ o.2.1 ∧ mn o.2.1 s.2.1 ≤ s.2.1 := by
    unfold mx mn
    refine ⟨?_, ?_, ?_, ?_, ?_⟩ <;> (try split) <;> (try split) <;> omega
  have ha : ameetR o.1 o.2.1 s.1 s.2.1 = (mx o.1 s.1, mn o.2.1 s.2.1, 0) := by
    unfold ameetR
    rw [if_pos ⟨bo.1, bs.1⟩, if_neg (by omega)]
  have hup : Hs dS (mx o.1 s.1) (mn o.2.1 s.2.1) h := by
    have u1 := go.up
    have u2 := gs.up
    unfold Hs at *
    unfold mx mn
    constructor
    · split
      · exact u2.1
      · exact u1.1
    · split
      · exact u2.2
      · exact u1.2
  refine ⟨(mx o.1 s.1, mn o.2.1 s.2.1, (dirsR o.2.2.1 o.2.2.2 s.2.2.1 s.2.2.2).1, (dirsR o.2.2.1 o.2.2.2 s.2.2.1 s.2.2.2).2.1), ?_, ⟨?_, hup, hd.2.1⟩, hmx.1, hmx.2.1, hmx.2.2.2.1, hmx.2.2.2.2⟩
  · unfold meetO
    rw [ha, if_pos ⟨rfl, hd.1⟩]
  · unfold svalB
    dsimp only
    have f := hd.2.2
    rw [avm (by omega) hmx.2.2.1 (by omega), avm (by omega) (by omega) (by omega)]
    simp only [Bool.true_and, Bool.or_eq_true, Bool.and_eq_true, beq_iff_eq, decide_eq_true_eq]
    omega
theorem meetF_good {h z : Rat} : ∀ (l : List Sol) (o : Sol), Gd h z o → (∀ s ∈ l, Gd h z s) → ∃ x, meetF o l = some x ∧ Gd h z x ∧ o.1 ≤ x.1 ∧ x.2.1 ≤ o.2.1 ∧ ∀ s ∈ l, s.1 ≤ x.1 ∧ x.2.1 ≤ s.2.1
  | [], o, go, _ => ⟨o, rfl, go, by omega, by omega, fun s hs => by cases hs⟩
  | s :: l, o, go, gl => by
    obtain ⟨x, hx, gx, h1, h2, h3, h4⟩ := meetO_good go (gl s (by simp))
    obtain ⟨y, hy, gy, k1, k2, k3⟩ := meetF_good l x gx (fun s hs => gl s (by simp [hs]))
    refine ⟨y, ?_, gy, by omega, by omega, fun t ht => ?_⟩
    · simp only [meetF]; rw [hx]; exact hy
    · rcases List.mem_cons.1 ht with rfl | ht
      · omega
      · exact k3 t ht
theorem meetR_good {h z : Rat} {l : List Sol} (hl : l ≠ []) (hn : l.length ≤ 1000) (gl : ∀ s ∈ l, Gd h z s) : ∃ x : Sol, meetR l = (x.1, x.2.1, x.2.2.1, x.2.2.2, 0) ∧ Gd h z x ∧ ∀ s ∈ l, s.1 ≤ x.1 ∧ x.2.1 ≤ s.2.1 := by
  cases l with
  | nil => exact absurd rfl hl
  | cons s r =>
    obtain ⟨x, hx, gx, h1, h2, h3⟩ := meetF_good r s (gl s (by simp)) (fun t ht => gl t (by simp [ht]))
    have hb : (s :: r).any (fun s => !svalB s) = false := by
      rw [List.any_eq_false]
      intro t ht
      rw [(gl t ht).val]; simp
    refine ⟨x, ?_, gx, fun t ht => ?_⟩
    · rw [meetR_ok (by omega) hb, hx]
    · rcases List.mem_cons.1 ht with rfl | ht
      · exact ⟨h1, h2⟩
      · exact h3 t ht
theorem by_good {a b c d e f : Int} {x y t h z : Rat} (hv : triB a b c d e f = true) (hx : Hs 0 a b x) (hy : Hs 0 c d y) (ht : Hs 0 e f t) (s : Sees x y t h z) (m : Int) (h1 : 1 ≤ m) (h5 : m ≤ 5) :
    (m ≠ 4 → ∃ q : Sol, byM m a b c d e f = (q.1, q.2.1, q.2.2.1, q.2.2.2, 0)) ∧ (∀ q, okS (byM m a b c d e f) = some q → Gd h z q) ∧ ((byM m a b c d e f).2.2.2.2 = 0 ∨ (byM m a b c d e f).2.2.2.2 = 24) := by
  have key : ∀ (r : Int × Int × Int × Int × Int) (H Z : Int × Int × Int), r = (H.1, H.2.1, Z.1, Z.2.1, 0) → Hold a b c d e f H Z → (∃ q : Sol, byE r = (q.1, q.2.1, q.2.2.1, q.2.2.2, 0)) ∧ (∀ q, okS (byE r) = some q → Gd h z q) ∧ ((byE r).2.2.2.2 = 0 ∨ (byE r).2.2.2.2 = 24) := by
    intro r H Z e k
    subst e
    refine ⟨⟨(H.1, H.2.1, Z.1, Z.2.1), rfl⟩, fun q hq => ?_, .inl rfl⟩
    have : q = (H.1, H.2.1, Z.1, Z.2.1) := (Option.some.inj hq).symm
    rw [this]
    exact gd_of k hx hy ht s
  have : m = 1 ∨ m = 2 ∨ m = 3 ∨ m = 4 ∨ m = 5 := by omega
  rcases this with rfl | rfl | rfl | rfl | rfl
  · obtain ⟨H, Z, e1, _, k⟩ := cosine_hold hv
    have := key _ H Z e1 k
    exact ⟨fun _ => this.1, this.2⟩
  · obtain ⟨e1, k, _⟩ := haversine_ok hv
    have := key _ _ _ e1 k
    exact ⟨fun _ => this.1, this.2⟩
  · have e1 := sol_ok hv
    have := key _ _ _ e1 (ageton_hold hv)
    exact ⟨fun _ => this.1, this.2⟩
  · refine ⟨fun h => absurd rfl h, ?_⟩
    show (∀ q, okS (byE (hslM a b c d e f)) = some q → Gd h z q) ∧ ((byE (hslM a b c d e f)).2.2.2.2 = 0 ∨ (byE (hslM a b c d e f)).2.2.2.2 = 24)
    rw [hsl_ok hv]
    split
    · exact ⟨fun q hq => (by cases hq), .inr rfl⟩
    · rename_i ho
      exact (key _ _ _ rfl (half_hold hv (by simpa using ho))).2
  · obtain ⟨e1, k⟩ := matrix_ok hv
    have := key _ _ _ e1 k
    exact ⟨fun _ => this.1, this.2⟩
theorem all_good {a b c d e f : Int} {x y t h z : Rat} (hv : triB a b c d e f = true) (hx : Hs 0 a b x) (hy : Hs 0 c d y) (ht : Hs 0 e f t) (s : Sees x y t h z) :
    4 ≤ (allL a b c d e f).length ∧ ∀ q ∈ allL a b c d e f, Gd h z q := by
  have B := fun m h1 h5 => by_good hv hx hy ht s m h1 h5
  constructor
  · have o : ∀ m : Int, 1 ≤ m → m ≤ 5 → m ≠ 4 → ((okS (byM m a b c d e f)).toList).length = 1 := by
      intro m h1 h5 h4
      obtain ⟨q, hq⟩ := (B m h1 h5).1 h4
      rw [hq]; rfl
    unfold allL
    rw [allI_succ, allI_succ, allI_succ, allI_succ, allI_succ]
    simp only [List.length_append]
    have o1 := o 1 (by omega) (by omega) (by omega)
    have o2 := o 2 (by omega) (by omega) (by omega)
    have o3 := o 3 (by omega) (by omega) (by omega)
    have o5 := o 5 (by omega) (by omega) (by omega)
    have c0 : (((0 : Nat) : Int) + 1) = 1 := rfl
    have c1 : (((1 : Nat) : Int) + 1) = 2 := rfl
    have c2 : (((2 : Nat) : Int) + 1) = 3 := rfl
    have c4 : (((4 : Nat) : Int) + 1) = 5 := rfl
    rw [c0, c1, c2, c4]
    omega
  · intro q hq
    unfold allL allI at hq
    rw [List.mem_filterMap] at hq
    obtain ⟨j, hj, hq⟩ := hq
    have := List.mem_range.1 hj
    exact (B ((j : Int) + 1) (by omega) (by omega)).2.1 q hq
theorem by_mem {a b c d e f : Int} (m : Int) (h1 : 1 ≤ m) (h5 : m ≤ 5) {q : Sol} (hq : okS (byM m a b c d e f) = some q) : q ∈ allL a b c d e f := by
  unfold allL allI
  rw [List.mem_filterMap]
  refine ⟨(m - 1).toNat, List.mem_range.2 (by omega), ?_⟩
  rw [show (((m - 1).toNat : Nat) : Int) + 1 = m by omega]
  exact hq
theorem best_good {a b c d e f : Int} {x y t h z : Rat} (hv : triB a b c d e f = true) (hx : Hs 0 a b x) (hy : Hs 0 c d y) (ht : Hs 0 e f t) (s : Sees x y t h z) :
    ∃ q : Sol, bestR a b c d e f = (q.1, q.2.1, q.2.2.1, q.2.2.2, 0) ∧ Gd h z q ∧ ∀ s ∈ allL a b c d e f, s.1 ≤ q.1 ∧ q.2.1 ≤ s.2.1 := by
  obtain ⟨h4, hg⟩ := all_good hv hx hy ht s
  have h5 := allL_len a b c d e f
  unfold bestR
  rw [if_pos hv]
  exact meetR_good (by intro h; rw [h] at h4; simp at h4) (by omega) hg
theorem gd_agree {h z : Rat} {o s : Sol} (go : Gd h z o) (gs : Gd h z s) : agreeR o.2.2.1 o.2.2.2 s.2.2.1 s.2.2.2 = (true, 0) ∧ (ameetR o.1 o.2.1 s.1 s.2.1).2.2 = 0 := by
  have bo := sval_bd go.val
  have bs := sval_bd gs.val
  have vo := aval_bd bo.2.1
  have vs := aval_bd bs.2.1
  have n := go.az.agree gs.az dS2 vo.2.1 vs.2.1
  have m := go.up.meet gs.up dS2
  have v1 := aval_bd bo.1
  have v2 := aval_bd bs.1
  constructor
  · unfold agreeR
    rw [if_pos ⟨bo.2.1, bs.2.1⟩, decide_eq_true n]
  · unfold ameetR
    have : ¬ mx o.1 s.1 > mn o.2.1 s.2.1 := by
      unfold mx mn
      split <;> split <;> omega
    rw [if_pos ⟨bo.1, bs.1⟩, if_neg this]
end Go.Proofs.YtmididlfnajhiaaGreatDoor

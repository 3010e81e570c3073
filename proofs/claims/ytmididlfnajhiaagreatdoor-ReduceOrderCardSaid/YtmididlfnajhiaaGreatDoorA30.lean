/-
  Chapter 30: what Meet, All, and Best give; the examples.
-/
import Derived.Test.YtmididlfnajhiaaGreatDoorW30
import Derived.Test.YtmididlfnajhiaaGreatDoorHh
namespace Go.Proofs.YtmididlfnajhiaaGreatDoor
open Ev

open Ev (lt Glob Gives nmEq nmEq_iff)
open Go.RowKit
theorem avm {a b : Int} (h1 : -1099511627776 ≤ a) (h2 : a ≤ b) (h3 : b ≤ 1099511627776) : avalidB a b = true := by
  unfold avalidB; simp; omega
theorem svalM_eq (a b c d : Int) : svalM a b c d = svalB (a, b, c, d) := by
  unfold svalM svalB everM lt
  dsimp only
  cases h1 : avalidB a b with
  | false => rfl
  | true =>
    cases h2 : avalidB c d with
    | false => rfl
    | true =>
      have bd := aval_bd h2
      by_cases h3 : c = 0 ∧ d = 21600000
      · obtain ⟨rfl, rfl⟩ := h3; rfl
      · have e : ((c == 0) && (d == 21600000)) = false := by
          rw [Bool.and_eq_false_iff, beq_eq_false_iff_ne, beq_eq_false_iff_ne]; omega
        rw [Bool.and_true, e]
        rw [i64w (x := d - c) (by omega)]
        by_cases h4 : c ≥ 0
        · rw [decide_eq_true h4]
          by_cases h5 : c < 21600000
          · rw [decide_eq_true h5]; simp
          · rw [decide_eq_false h5]; simp
        · rw [decide_eq_false h4]; simp
theorem nval_gives (a b c d : Int) : Gives Tryz.prog 50 [.agg ⟨[.int .i64 a, .int .i64 b, .int .i64 c, .int .i64 d]⟩] (.bool (!svalB (a, b, c, d))) := by
  have := rnvM_gives a b c d
  unfold rnvM at this
  rwa [svalM_eq] at this
theorem turn_ok' (a b : Int) (h : avalidB a b = true) (_h0 : (turnR a b).2.2 = 0) : avalidB (turnR a b).1 (turnR a b).2.1 = true := by
  have m0 := Int.emod_nonneg a (show (21600000 : Int) ≠ 0 by omega)
  have m1 := Int.emod_lt_of_pos a (show (0 : Int) < 21600000 by omega)
  have v := aval_bd h
  unfold turnR
  rw [if_pos h]
  dsimp only
  unfold turnL turnH
  by_cases hw : 21600000 ≤ b - a
  · rw [if_pos hw, if_pos hw]; rfl
  · rw [if_neg hw, if_neg hw]; exact avm (by omega) (by omega) (by omega)
theorem dirs_gives (a b c d : Int) (h : avalidB a b = true) (h' : avalidB c d = true) (hb : -500000000000 ≤ c ∧ d ≤ 500000000000) : Gives Tryz.prog 52 [pairV a b, pairV c d] (arcV (dirsR a b c d)) :=
  fun w hg => directions_any ameetR_gives turnR_gives everM_gives (fun a b c d w => eqArcAt 9998 a b c d w) a b c d h h' hb w hg
theorem meet_gives (A : Option Addr) (n c : Nat) (l : List Sol) (w : World) (hg : Glob w) (h : Sols w A n l) (hc : n ≤ c) (hc' : c ≤ 9223372036854775807) : Calls Tryz.prog 19 #[.slice A n c] w (GP (solV (meetR l)) w) :=
  meet_any ameetR_gives nval_gives dirs_gives turn_ok' A n c l w hg h hc hc'
/-- By's answers. -/
noncomputable def byM (m a b c d e f : Int) : Int × Int × Int × Int × Int := if m = 1 then by1 a b c d e f else if m = 2 then by2 a b c d e f else if m = 3 then by3 a b c d e f else if m = 4 then by4 a b c d e f else by5 a b c d e f
theorem byM_gives (m a b c d e f : Int) (h1 : 1 ≤ m) (h5 : m ≤ 5) : Gives Tryz.prog 11 [.int .i64 m, triP a b c d e f] (solV (byM m a b c d e f)) := by
  have : m = 1 ∨ m = 2 ∨ m = 3 ∨ m = 4 ∨ m = 5 := by omega
  rcases this with rfl | rfl | rfl | rfl | rfl
  · exact by1_gives a b c d e f
  · exact by2_gives a b c d e f
  · exact by3_gives a b c d e f
  · exact by4_gives a b c d e f
  · exact by5_gives a b c d e f
/-- All's answers. -/
noncomputable def allL (a b c d e f : Int) : List Sol := allI (fun m => byM m a b c d e f) 5
theorem allL_len (a b c d e f : Int) : (allL a b c d e f).length ≤ 5 := allI_len _ _
theorem all_gives {a b c d e f : Int} (h : triB a b c d e f = true) (w : World) (hg : Glob w) : Calls Tryz.prog 13 #[triP a b c d e f] w (AllPost (allL a b c d e f) w) := by
  have ht := triB_gives a b c d e f
  rw [h] at ht
  exact all_yes ht (fun m h1 h5 => byM_gives m a b c d e f h1 h5) w hg
theorem all_none {a b c d e f : Int} (h : triB a b c d e f = false) (w : World) (hg : Glob w) : Calls Tryz.prog 13 #[triP a b c d e f] w (NoAllPost w) := by
  have ht := triB_gives a b c d e f
  rw [h] at ht
  exact all_no ht w hg
noncomputable def bestR (a b c d e f : Int) : Int × Int × Int × Int × Int := if triB a b c d e f = true then meetR (allL a b c d e f) else (0, 0, 0, 0, 1)
theorem best_gives (a b c d e f : Int) : Gives Tryz.prog 14 [triP a b c d e f] (solV (bestR a b c d e f)) := fun w hg => by
  unfold bestR
  cases h : triB a b c d e f with
  | true => exact best_yes (by have := allL_len a b c d e f; omega) (all_gives h) (fun A n c w hg hs h1 h2 => meet_gives A n c _ w hg hs h1 h2) w hg
  | false => exact best_no (all_none h) w hg
/-- Meet of two solutions in a slice of the caller's. -/
def meet2 (a b c d e f u v : Int) : Int × Int × Int × Int × Int := meetR [(a, b, c, d), (e, f, u, v)]
def eMeet : Ev.Ent
  | [.s n 0 2 2], [(m, ⟨[.v (.int .i64 a), .v (.int .i64 b), .v (.int .i64 c), .v (.int .i64 d), .v (.int .i64 e), .v (.int .i64 f), .v (.int .i64 u), .v (.int .i64 v)], t⟩)] =>
    cond (nmEq n m) (some (true, .v (solV (meet2 a b c d e f u v)), [(m, ⟨[.v (.int .i64 a), .v (.int .i64 b), .v (.int .i64 c), .v (.int .i64 d), .v (.int .i64 e), .v (.int .i64 f), .v (.int .i64 u), .v (.int .i64 v)], t⟩)])) none
  | _, _ => none
theorem eMeet_ok (args : List AV) (L : Ev.Loc) (z : Bool) (r : AV) (L' : Ev.Loc) (q : eMeet args L = some (z, r, L')) (_ : z = true) : Ev.Runs Tryz.prog 19 args L r L' := by
  unfold eMeet at q
  split at q
  · rename_i n m a b c d e f u v t
    cases hn : nmEq n m with
    | false => rw [hn] at q; cases q
    | true =>
      rw [hn] at q
      cases q
      have hnm := nmEq_iff.1 hn
      subst hnm
      intro ρ w us hu hL
      have hd := hL.dom n
      have hget : Ev.get [(n, (⟨[.v (.int .i64 a), .v (.int .i64 b), .v (.int .i64 c), .v (.int .i64 d), .v (.int .i64 e), .v (.int .i64 f), .v (.int .i64 u), .v (.int .i64 v)], t⟩ : Ev.Blk))] n = some ⟨[.v (.int .i64 a), .v (.int .i64 b), .v (.int .i64 c), .v (.int .i64 d), .v (.int .i64 e), .v (.int .i64 f), .v (.int .i64 u), .v (.int .i64 v)], t⟩ := by
        unfold Ev.get; rw [hn]; rfl
      rw [hget] at hd
      obtain ⟨g, hg⟩ := Option.isSome_iff_exists.1 (hd.trans rfl)
      obtain ⟨vs, hvs, hblk⟩ := hL.blk n g _ hg hget
      have e1 : us = [.slice (some ⟨g, 0, none⟩) 2 2] := by
        have : Ev.asAt ρ [.s n 0 2 2] = some [.slice (some ⟨g, 0, none⟩) 2 2] := by
          have ha : Ev.aAt ρ (.s n 0 2 2) = some (.slice (some ⟨g, 0, none⟩) 2 2) := by simp only [Ev.aAt, hg, Option.map_some]
          unfold Ev.asAt; rw [ha]; rfl
        rw [this] at hu
        exact (Option.some.inj hu).symm
      have e2 : vs = [.int .i64 a, .int .i64 b, .int .i64 c, .int .i64 d, .int .i64 e, .int .i64 f, .int .i64 u, .int .i64 v] := by
        have : Ev.csAt ρ ([.v (.int .i64 a), .v (.int .i64 b), .v (.int .i64 c), .v (.int .i64 d), .v (.int .i64 e), .v (.int .i64 f), .v (.int .i64 u), .v (.int .i64 v)] : List Ev.CV) = some [.int .i64 a, .int .i64 b, .int .i64 c, .int .i64 d, .int .i64 e, .int .i64 f, .int .i64 u, .int .i64 v] := rfl
        exact (Option.some.inj (this.symm.trans hvs)).symm
      subst e1 e2
      have hs : Sols w (some ⟨g, 0, none⟩) 2 [(a, b, c, d), (e, f, u, v)] := ⟨rfl, by omega, fun _ => ⟨g, 0, rfl, (Array.getElem?_eq_some_iff.1 hblk).1, fun i hi => by
        have : i = 0 ∨ i = 1 := by omega
        rcases this with rfl | rfl <;> (refine ⟨?_, ?_, ?_, ?_⟩ <;> (rw [cell_of_row w g _ _ _ _ hblk]; rfl))⟩⟩
      refine (meet_gives _ 2 2 _ w hL.glb hs (by omega) (by omega)).mono ?_
      rintro e w' ⟨rfl, hb⟩
      exact ⟨_, ρ, rfl, ⟨Ext.refl ρ, hb.os, hb.tape, hb.output, hb.size, fun k hk _ => hb.block k hk, fun n b q q' => by rw [q'] at q; cases q⟩, rfl,
        ⟨hL.dom, fun n' b' k' q1 q2 => by
          obtain ⟨vs', h1, h2⟩ := hL.blk n' b' k' q1 q2
          exact ⟨vs', h1, (hb.block b' (hL.lt q1)).trans h2⟩, hL.inj, hL.glb.of fun g hg _ => hb.block g hg, hL.far⟩⟩
  · cases q
open SM TB TA
theorem ahav_at {x y p q : Int} (h1 : 0 ≤ x) (h2 : x ≤ y) (h3 : y ≤ 1073741824) (hp : IsAsin (2 * x - 1073741824) p) (hq : IsAsin (1073741824 - 2 * y) q) : ahavR x y = (5400000 + p, 5400000 - q, 0) := by
  have e1 : asn (1073741824 - 2 * y) = q := asn_eq (by omega) hq
  have e2 : asn (2 * x - 1073741824) = p := asn_eq (by omega) hp
  unfold ahavR acosR asinR
  rw [val_mk (a := x) (b := y) (by omega) h2 (by omega)]
  simp only [Bool.true_eq_false, if_false]
  have m1 : max x 0 = x := by omega
  have m2 : min y 1073741824 = y := by omega
  rw [m1, m2, if_pos h2, val_mk (a := 1073741824 - 2 * y) (b := 1073741824 - 2 * x) (by omega) (by omega) (by omega)]
  simp only [Bool.true_eq_false, if_false]
  have m3 : max (1073741824 - 2 * y) (-1073741824) = 1073741824 - 2 * y := by omega
  have m4 : min (1073741824 - 2 * x) 1073741824 = 1073741824 - 2 * x := by omega
  rw [m3, m4, if_pos (show 1073741824 - 2 * y ≤ 1073741824 - 2 * x by omega), e1, show -(1073741824 - 2 * x) = 2 * x - 1073741824 by omega, e2]
  simp
theorem zen_a : zenM 0 0 0 0 3600000 3600000 = (3600000, 3600000, 0) := by
  have h : ahavR 268435456 268435456 = (3600000, 3600000, 0) := by
    rw [ahav_at (p := -1800000) (q := 1800000) (by omega) (by omega) (by omega) ⟨by omega, by omega, by decide +kernel, .inr (by decide +kernel)⟩ ⟨by omega, by omega, by decide +kernel, .inr (by decide +kernel)⟩]
    rfl
  have e1 : cosV 0 0 0 0 = (1073741824, 1073741824) := by decide +kernel
  have e2 : cosC 0 0 0 0 0 = 0 := by decide +kernel
  have e3 : havR 3600000 3600000 = (268435456, 268435456, 0) := by decide +kernel
  have e4 : betV 0 0 0 0 = (0, 0) := by decide +kernel
  have e5 : betC 0 0 0 0 0 = 0 := by decide +kernel
  have e6 : mulR 1073741824 1073741824 268435456 268435456 = (268435456, 268435456, 0) := by decide +kernel
  have e7 : addR 0 0 268435456 268435456 = (268435456, 268435456, 0) := by decide +kernel
  have e8 : triB 0 0 0 0 3600000 3600000 = true := by decide +kernel
  unfold zenM
  simp only [lt, hnumV, hnumC, harcW, harcC, e1, e2, e3, e4, e5, e6, e7, e8, h, keep0]
  rfl
theorem top_a : topM 0 0 0 0 3600000 3600000 3600000 3600000 = (5399999, 5400001, 0) := by
  rw [top_eq (by decide +kernel) (by decide +kernel) (by omega) (by omega) (by omega)]
  have e1 : numN 0 0 0 0 3600000 3600000 = (464943848, 464943849, 0) := by decide +kernel
  have e2 : cosV 0 0 (5400000 - 3600000) (5400000 - 3600000) = (929887696, 929887697) := by decide +kernel
  have e3 : divR 464943848 464943849 929887696 929887697 = (536870911, 536870914, 0) := by decide +kernel
  rw [e1, e2]
  unfold topS
  simp only [e3]
  rw [ahav_at (x := 536870911) (y := 536870914) (p := -1) (q := -1) (by omega) (by omega) (by omega) ⟨by omega, by omega, by decide +kernel, .inr (by decide +kernel)⟩ ⟨by omega, by omega, by decide +kernel, .inr (by decide +kernel)⟩]
  rfl
theorem sol_a : hsolM 0 0 0 0 3600000 3600000 = (1800000, 1800000, 16199999, 16200001, 0) := by
  have e1 : aziM 0 0 0 0 3600000 3600000 3600000 3600000 = (16199999, 16200001, 0) := by
    rw [azi_eq (by decide +kernel) (by omega) (by omega) (by omega), top_a]
    decide +kernel
  have e2 : lessV 3600000 3600000 = (1800000, 1800000) := by decide +kernel
  unfold hsolM
  simp only [lt, zen_a, e1, e2]
  rfl
theorem asin_at {x y p q : Int} (h1 : -1073741824 ≤ x) (h2 : x ≤ y) (h3 : y ≤ 1073741824) (hp : IsAsin x p) (hq : IsAsin (-y) q) : asinR x y = (p, -q, 0) := by
  have e1 : asn x = p := asn_eq (by omega) hp
  have e2 : asn (-y) = q := asn_eq (by omega) hq
  unfold asinR
  rw [val_mk (a := x) (b := y) (by omega) h2 (by omega)]
  simp only [Bool.true_eq_false, if_false]
  have m1 : max x (-1073741824) = x := by omega
  have m2 : min y 1073741824 = y := by omega
  rw [m1, m2, if_pos h2, e1, e2]
/-- The arcsine at three intervals. -/
noncomputable def asinX (x y : Int) : Int × Int × Int := if x = 536870912 ∧ y = 536870912 then (1800000, 1800000, 0) else if x = 929887696 ∧ y = 929887697 then (3599999, 3600001, 0) else if x = 536870641 ∧ y = 536871183 then (1799998, 1800002, 0) else asinR x y
theorem asin_x : asinR = asinX := by
  funext x y
  unfold asinX
  by_cases h1 : x = 536870912 ∧ y = 536870912
  · rw [if_pos h1, h1.1, h1.2, asin_at (p := 1800000) (q := -1800000) (by omega) (by omega) (by omega) ⟨by omega, by omega, by decide +kernel, .inr (by decide +kernel)⟩ ⟨by omega, by omega, by decide +kernel, .inr (by decide +kernel)⟩]
    rfl
  rw [if_neg h1]
  by_cases h2 : x = 929887696 ∧ y = 929887697
  · rw [if_pos h2, h2.1, h2.2, asin_at (p := 3599999) (q := -3600001) (by omega) (by omega) (by omega) ⟨by omega, by omega, by decide +kernel, .inr (by decide +kernel)⟩ ⟨by omega, by omega, by decide +kernel, .inr (by decide +kernel)⟩]
    rfl
  rw [if_neg h2]
  by_cases h3 : x = 536870641 ∧ y = 536871183
  · rw [if_pos h3, h3.1, h3.2, asin_at (p := 1799998) (q := -1800002) (by omega) (by omega) (by omega) ⟨by omega, by omega, by decide +kernel, .inr (by decide +kernel)⟩ ⟨by omega, by omega, by decide +kernel, .inr (by decide +kernel)⟩]
    rfl
  rw [if_neg h3]
theorem cos_x : csolM 0 0 0 0 3600000 3600000 = (1800000, 1800000, 16200000, 16200000, 0) := by
  unfold csolM cAltM caltM
  rw [asin_x]
  decide +kernel
theorem age_x : solM 0 0 0 0 3600000 3600000 = (1799998, 1800002, 16200000, 16200000, 0) := by
  unfold solM gasinV gasinC
  rw [asin_x]
  decide +kernel

theorem mat_x : msolM 0 0 0 0 3600000 3600000 = (1800000, 1800000, 16200000, 16200000, 0) := by
  unfold msolM altM
  rw [asin_x]
  decide +kernel
theorem allI_congr {p q : Int → Int × Int × Int × Int × Int} (h : ∀ m, 1 ≤ m → m ≤ 5 → p m = q m) : allI p 5 = allI q 5 := by
  have e : ∀ i, i ≤ 5 → allI p i = allI q i := by
    intro i
    induction i with
    | zero => intro _; rfl
    | succ i ih => intro hi; rw [allI_succ, allI_succ, ih (by omega), h _ (by omega) (by omega)]
  exact e 5 (by omega)
/-- The answers at the example's triangle. -/
noncomputable def exM (m : Int) : Int × Int × Int × Int × Int := if m = 1 then (1800000, 1800000, 16200000, 16200000, 0) else if m = 2 then (1800000, 1800000, 16199999, 16200001, 0) else if m = 3 then (1799998, 1800002, 16200000, 16200000, 0) else if m = 4 then byE (hslM 0 0 0 0 3600000 3600000) else (1800000, 1800000, 16200000, 16200000, 0)
theorem best_x : bestR 0 0 0 0 3600000 3600000 = (1800000, 1800000, 16200000, 16200000, 0) := by
  unfold bestR
  rw [if_pos (by decide +kernel)]
  unfold allL
  rw [allI_congr (q := exM) (fun m h1 h5 => by
    have : m = 1 ∨ m = 2 ∨ m = 3 ∨ m = 4 ∨ m = 5 := by omega
    rcases this with rfl | rfl | rfl | rfl | rfl
    · show byE (csolM 0 0 0 0 3600000 3600000) = _
      rw [cos_x]; rfl
    · show byE (hsolM 0 0 0 0 3600000 3600000) = _
      rw [sol_a]; rfl
    · show byE (solM 0 0 0 0 3600000 3600000) = _
      rw [age_x]; rfl
    · rfl
    · show byE (msolM 0 0 0 0 3600000 3600000) = _
      rw [mat_x]; rfl)]
  decide +kernel
theorem meet_x : meet2 0 0 21599990 21600010 0 0 5 6 = (0, 0, 5, 6, 0) := by decide +kernel

noncomputable def book_awake30_gives : Book := [(14, eT (fun a b c d e f => solV (bestR a b c d e f))), (19, eMeet), (25, eI (fun a => pairV (atM a).1 (atM a).2))]
theorem book_awake30_gives_ok : BookOk Tryz.prog book_awake30_gives := (bookOk_cons (eT_ok best_gives) (bookOk_cons eMeet_ok (bookOk_cons (eI_ok atM_gives) bookOk_nil)))
theorem awake30_gives_tree  : evF Tryz.prog Es Cs book_awake30_gives 20 6 10 ([].map AV.v) [] [] last =
  lt (atM 3600000) fun x1 =>
  lt (bestR 0 0 0 0 x1.1 x1.2) fun x2 =>
  lt (meet2 0 0 21599990 21600010 0 0 5 6) fun x3 =>
  cond (x2.2.2.2.2 == 0)
  (lt (atM 1800000) fun x4 =>
   lt (atM 16200000) fun x5 =>
   cond ((x2.1 == x4.1) && ((x2.2.1 == x4.2) && ((x2.2.2.1 == x5.1) && ((x2.2.2.2.1 == x5.2) && true))))
   (cond (x3.2.2.2.2 == 0)
    (cond ((x3.2.2.1 == 5) && ((x3.2.2.2.1 == 6) && true))
     (some (.v (.bool true)))
     (some (.v (.bool false))))
    (some (.v (.bool false))))
   (some (.v (.bool false))))
  (some (.v (.bool false))) := by kernel_rfl
theorem awake30_gives  : Gives Tryz.prog 10 [] (.bool (true)) := by
  refine evF_gives (E := Es) mixed Es_ok Cs_ok book_awake30_gives_ok (lim := 20) (d := 6) (nm := []) ?_
  rw [awake30_gives_tree]
  simp only [lt]
  have e1 : atM 3600000 = (3600000, 3600000) := rfl
  rw [e1, best_x, meet_x]
  rfl
end Go.Proofs.YtmididlfnajhiaaGreatDoor

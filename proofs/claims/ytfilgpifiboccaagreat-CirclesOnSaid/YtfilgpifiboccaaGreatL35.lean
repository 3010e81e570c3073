/-
  The reference's forms of circles; awake.
-/
import Derived.Test.YtfilgpifiboccaaGreatR2
import Derived.Test.YtfilgpifiboccaaGreatCl
namespace Go.Proofs.YtfilgpifiboccaaGreat
open Ev

open SM TB TA
open Ev (lt keepE)
theorem asin_at {x y p q : Int} (h1 : -1073741824 ≤ x) (h2 : x ≤ y) (h3 : y ≤ 1073741824) (hp : IsAsin x p) (hq : IsAsin (-y) q) : asinR x y = (p, -q, 0) := by
  have e1 : asn x = p := asn_eq h1 hp
  have e2 : asn (-y) = q := asn_eq (by omega) hq
  unfold asinR
  rw [val_mk (a := x) (b := y) (by omega) h2 (by omega)]
  simp only [Bool.true_eq_false, if_false]
  have m1 : max x (-1073741824) = x := by omega
  have m2 : min y 1073741824 = y := by omega
  rw [m1, m2, if_pos h2, e1, e2]
theorem rlonv {c d : Int} {x y : Bool} (h : cond ((c == (-10800000)) && ((d == 10800000) && true)) x (cond (decide (c ≥ (-10800000))) (cond (decide (c < 10800000)) (cond (decide (c ≤ d)) (cond (decide (d < IntKind.i64.wrap (c + 21600000))) x false) false) false) false) = true) (_hy : y = y) : LonP c d ∧ x = true := by
  cases g : ((c == (-10800000)) && ((d == 10800000) && true)) with
  | true =>
    rw [g, cond_true] at h
    simp only [Bool.and_true, Bool.and_eq_true, beq_iff_eq] at g
    exact ⟨.inl g, h⟩
  | false =>
    rw [g, cond_false] at h
    by_cases g1 : c ≥ -10800000
    · by_cases g2 : c < 10800000
      · by_cases g3 : c ≤ d
        · rw [decide_eq_true g1, decide_eq_true g2, decide_eq_true g3, cond_true, cond_true, cond_true, i64w (x := c + 21600000) (by omega)] at h
          by_cases g4 : d < c + 21600000
          · rw [decide_eq_true g4, cond_true] at h
            exact ⟨.inr ⟨g1, g2, g3, by omega⟩, h⟩
          · rw [decide_eq_false g4] at h; cases h
        · rw [decide_eq_true g1, decide_eq_true g2, decide_eq_false g3] at h; cases h
      · rw [decide_eq_true g1, decide_eq_false g2] at h; cases h
    · rw [decide_eq_false g1] at h; cases h
theorem rcv_bd {a b c d e f : Int} (h : rcvM a b c d e f = true) : latB a b = true ∧ LonP c d ∧ 0 ≤ e ∧ e ≤ f ∧ f ≤ 10800000 := by
  unfold rcvM at h
  by_cases g1 : a ≥ -5400000
  · by_cases g2 : a ≤ b
    · by_cases g3 : b ≤ 5400000
      · rw [decide_eq_true g1, decide_eq_true g2, decide_eq_true g3, cond_true, cond_true, cond_true] at h
        have k : cond ((c == (-10800000)) && ((d == 10800000) && true)) (decide (0 ≤ e ∧ e ≤ f ∧ f ≤ 10800000)) (cond (decide (c ≥ (-10800000))) (cond (decide (c < 10800000)) (cond (decide (c ≤ d)) (cond (decide (d < IntKind.i64.wrap (c + 21600000))) (decide (0 ≤ e ∧ e ≤ f ∧ f ≤ 10800000)) false) false) false) false) = true := by
          have q : cond (decide (e ≥ 0)) (cond (decide (e ≤ f)) (decide (f ≤ 10800000)) false) false = decide (0 ≤ e ∧ e ≤ f ∧ f ≤ 10800000) := by
            by_cases k1 : e ≥ 0
            · by_cases k2 : e ≤ f
              · by_cases k3 : f ≤ 10800000
                · rw [decide_eq_true k1, decide_eq_true k2, decide_eq_true k3, decide_eq_true (show 0 ≤ e ∧ e ≤ f ∧ f ≤ 10800000 by omega)]; rfl
                · rw [decide_eq_true k1, decide_eq_true k2, decide_eq_false k3, decide_eq_false (show ¬ (0 ≤ e ∧ e ≤ f ∧ f ≤ 10800000) by omega)]; rfl
              · rw [decide_eq_true k1, decide_eq_false k2, decide_eq_false (show ¬ (0 ≤ e ∧ e ≤ f ∧ f ≤ 10800000) by omega)]; rfl
            · rw [decide_eq_false k1, decide_eq_false (show ¬ (0 ≤ e ∧ e ≤ f ∧ f ≤ 10800000) by omega)]; rfl
          rw [← q]
          exact h
        obtain ⟨p, q⟩ := rlonv k (y := true) rfl
        have q' := of_decide_eq_true q
        exact ⟨lat_mk g1 g2 g3, p, q'⟩
      · rw [decide_eq_true g1, decide_eq_true g2, decide_eq_false g3] at h; cases h
    · rw [decide_eq_true g1, decide_eq_false g2] at h; cases h
  · rw [decide_eq_false g1] at h; cases h
theorem zeroLon : LonP 0 0 := .inr (by omega)
theorem sixty : asinR 929887696 929887697 = (3599999, 3600001, 0) := Eq.trans (asin_at (x := 929887696) (y := 929887697) (p := 3599999) (q := -3600001) (by omega) (by omega) (by omega) ⟨by omega, by omega, by decide +kernel, .inr (by decide +kernel)⟩ ⟨by omega, by omega, by decide +kernel, .inr (by decide +kernel)⟩) (by decide +kernel)
theorem cat_x : catM 0 0 0 0 3600000 3600000 0 0 = (3599999, 3600001, (catM 0 0 0 0 3600000 3600000 0 0).2.2.1, (catM 0 0 0 0 3600000 3600000 0 0).2.2.2.1, 0) ∧ (catM 0 0 0 0 3600000 3600000 0 0).2.2.1 ≤ 0 ∧ 0 ≤ (catM 0 0 0 0 3600000 3600000 0 0).2.2.2.1 ∧ (catM 0 0 0 0 3600000 3600000 0 0).2.2.2.1 - (catM 0 0 0 0 3600000 3600000 0 0).2.2.1 ≤ 4 := by
  have e := cat_ok (a := 0) (b := 0) (c := 0) (d := 0) (e := 3600000) (f := 3600000) (u := 0) (v := 0) (by decide +kernel) zeroLon (by omega) (by omega) (by omega) (by decide +kernel)
  have ea : atA 0 0 3600000 3600000 0 0 = (3599999, 3600001, 0) := by
    have u : atU 0 0 3600000 3600000 0 0 = (929887696, 929887697, 0) := by decide +kernel
    unfold atA
    rw [u]
    exact sixty
  have eb : lonL (0 + (atB 0 0 3600000 3600000 0 0).1) (0 + (atB 0 0 3600000 3600000 0 0).2.1) ≤ 0 ∧ 0 ≤ lonH (0 + (atB 0 0 3600000 3600000 0 0).1) (0 + (atB 0 0 3600000 3600000 0 0).2.1) ∧ lonH (0 + (atB 0 0 3600000 3600000 0 0).1) (0 + (atB 0 0 3600000 3600000 0 0).2.1) - lonL (0 + (atB 0 0 3600000 3600000 0 0).1) (0 + (atB 0 0 3600000 3600000 0 0).2.1) ≤ 4 := by decide +kernel
  rw [e, ea]
  exact ⟨rfl, eb⟩
theorem ext_x : cextM 0 0 0 0 3600000 3600000 = (-3600000, 3600000, -3600001, 3600001, 0) := by
  obtain ⟨L, R, e, _, k⟩ := cext_ok (a := 0) (b := 0) (c := 0) (d := 0) (e := 3600000) (f := 3600000) (by decide +kernel) zeroLon (by omega) (by omega) (by omega)
  have eq : exQ 0 0 3600000 = (929887696, 929887697, 0) := by decide +kernel
  have ew : exW 0 0 3600000 = (3599999, 3600001, 0) := by
    unfold exW
    rw [eq]
    exact sixty
  have nw : ¬ wideB 0 0 3600000 := by
    unfold wideB
    rw [eq, ew]
    simp
  rcases k with ⟨k, _⟩ | ⟨_, k1, k2⟩
  · exact absurd k nw
  · rw [e, k1, k2, ew]
    decide +kernel
theorem sid_x : csidM 0 0 0 0 3600000 3600000 0 0 0 0 = (1, 0) ∧ csidM 0 0 0 0 3600000 3600000 0 0 5400000 5400000 = (-1, 0) := by
  rw [csid_ok (by decide +kernel) zeroLon (by omega) (by omega) (by omega) (by decide +kernel) zeroLon, csid_ok (by decide +kernel) zeroLon (by omega) (by omega) (by omega) (by decide +kernel) (w := 5400000) (x := 5400000) (.inr (by omega))]
  decide +kernel
theorem tan_x : ∃ z0 z1 : Int, ctanM 0 0 0 0 3600000 3600000 0 3000000 = (0, 3000000, z0, z1, -600001, -599999, 0) ∧ z0 ≤ 16200000 ∧ 16200000 ≤ z1 ∧ z1 - z0 ≤ 4 ∧ 0 ≤ z0 ∧ z1 ≤ 100000000 := by
  have u : cupE 0 0 0 0 3000000 3000000 = (690187940, 690187941, 0) := by decide +kernel
  have ez : (bearR (ceaE 0 0 3000000 3000000).1 (ceaE 0 0 3000000 3000000).2.1 (cnoE 0 0 0 0 3000000 3000000).1 (cnoE 0 0 0 0 3000000 3000000).2.1).1 ≤ 16200000 ∧ 16200000 ≤ (bearR (ceaE 0 0 3000000 3000000).1 (ceaE 0 0 3000000 3000000).2.1 (cnoE 0 0 0 0 3000000 3000000).1 (cnoE 0 0 0 0 3000000 3000000).2.1).2.1 ∧ (bearR (ceaE 0 0 3000000 3000000).1 (ceaE 0 0 3000000 3000000).2.1 (cnoE 0 0 0 0 3000000 3000000).1 (cnoE 0 0 0 0 3000000 3000000).2.1).2.1 - (bearR (ceaE 0 0 3000000 3000000).1 (ceaE 0 0 3000000 3000000).2.1 (cnoE 0 0 0 0 3000000 3000000).1 (cnoE 0 0 0 0 3000000 3000000).2.1).1 ≤ 4 := by decide +kernel
  obtain ⟨Z, eZ, dZ, _, e⟩ := ctan_ok (a := 0) (b := 0) (c := 0) (d := 0) (e := 3600000) (f := 3600000) (u := 0) (v := 3000000) (by decide +kernel) zeroLon (by omega) (by omega) (by omega) (by omega) (by omega) (by omega) (by omega)
  rw [show (3000000 : Int) - 0 = 3000000 by rfl] at e eZ
  rw [← eZ] at ez
  have q : asinR 690187940 690187941 = (2399999, 2400001, 0) := Eq.trans (asin_at (x := 690187940) (y := 690187941) (p := 2399999) (q := -2400001) (by omega) (by omega) (by omega) ⟨by omega, by omega, by decide +kernel, .inr (by decide +kernel)⟩ ⟨by omega, by omega, by decide +kernel, .inr (by decide +kernel)⟩) (by decide +kernel)
  rw [u] at e
  dsimp only at e
  rw [q] at e
  obtain ⟨d1, d2, d3, d4, _⟩ := dZ
  exact ⟨Z.1, Z.2.1, e, ez.1, ez.2.1, ez.2.2, d1, by omega⟩
noncomputable def kL350 : Book := (8, eTP (fun a b c d e f u v => solV (catM a b c d e f u v))) :: (10, eTS (fun a b c d e f u v w x => twoI (csidM a b c d e f u v w x))) :: (11, eT (fun a b c d e f => solV (cextM a b c d e f))) :: (20, eTP (fun a b c d e f u v => cirV (ctanM a b c d e f u v))) :: []
theorem kL350_ok : BookOk Tryz.prog kL350 := (bookOk_cons (eTP_ok catM_gives) (bookOk_cons (eTS_ok csidM_gives) (bookOk_cons (eT_ok cextM_gives) (bookOk_cons (eTP_ok ctanM_gives) bookOk_nil))))
theorem awake35_gives  : Gives Tryz.prog 5 [] (.bool (true)) := by
  refine ev6_gives Es_ok kL350_ok (t := lt (catM 0 0 0 0 3600000 3600000 0 0) fun x1 => lt (cextM 0 0 0 0 3600000 3600000) fun x2 => lt (csidM 0 0 0 0 3600000 3600000 0 0 0 0) fun x3 => lt (csidM 0 0 0 0 3600000 3600000 0 0 5400000 5400000) fun x4 => lt (ctanM 0 0 0 0 3600000 3600000 0 3000000) fun x5 => cond (x1.2.2.2.2 == 0) (cond (decide (x1.1 ≤ 3600000)) (cond (decide (3600000 ≤ x1.2.1)) (cond (decide (IntKind.i64.wrap (x1.2.1 - x1.1) ≤ 4)) (cond (decide (x1.2.2.1 ≤ 0)) (cond (decide (0 ≤ x1.2.2.2.1)) (cond (decide (IntKind.i64.wrap (x1.2.2.2.1 - x1.2.2.1) ≤ 4)) (cond (x2.2.2.2.2 == 0) (cond ((x2.1 == (-3600000)) && ((x2.2.1 == 3600000) && true)) (cond (decide (x2.2.2.1 ≤ 3600000)) (cond (decide (3600000 ≤ x2.2.2.2.1)) (cond (decide (IntKind.i64.wrap (x2.2.2.2.1 - x2.2.2.1) ≤ 7200010)) (cond (x3.2 == 0) (cond (x3.1 == 1) (cond (x4.2 == 0) (cond (x4.1 == (-1)) (cond (x5.2.2.2.2.2.2 == 0) (cond (decide (x5.2.2.1 ≤ 16200000)) (cond (decide (16200000 ≤ x5.2.2.2.1)) (cond (decide (IntKind.i64.wrap (x5.2.2.2.1 - x5.2.2.1) ≤ 4)) (cond (decide (x5.2.2.2.2.1 ≤ (-600000))) (cond (decide ((-600000) ≤ x5.2.2.2.2.2.1)) (some (.v (.bool (decide (IntKind.i64.wrap (x5.2.2.2.2.2.1 - x5.2.2.2.2.1) ≤ 8))))) (some (.v (.bool false)))) (some (.v (.bool false)))) (some (.v (.bool false)))) (some (.v (.bool false)))) (some (.v (.bool false)))) (some (.v (.bool false)))) (some (.v (.bool false)))) (some (.v (.bool false)))) (some (.v (.bool false)))) (some (.v (.bool false)))) (some (.v (.bool false)))) (some (.v (.bool false)))) (some (.v (.bool false)))) (some (.v (.bool false)))) (some (.v (.bool false)))) (some (.v (.bool false)))) (some (.v (.bool false)))) (some (.v (.bool false)))) (some (.v (.bool false)))) (some (.v (.bool false)))) (some (.v (.bool false)))) (some (.v (.bool false)))) (by kernel_rfl) ?_
  obtain ⟨c1, c2, c3, c4⟩ := cat_x
  obtain ⟨z0, z1, t1, t2, t3, t4, t5, t6⟩ := tan_x
  have cb : -10800000 ≤ (catM 0 0 0 0 3600000 3600000 0 0).2.2.1 ∧ (catM 0 0 0 0 3600000 3600000 0 0).2.2.2.1 ≤ 100000000 := by
    have e := cat_ok (a := 0) (b := 0) (c := 0) (d := 0) (e := 3600000) (f := 3600000) (u := 0) (v := 0) (by decide +kernel) zeroLon (by omega) (by omega) (by omega) (by decide +kernel)
    have B := (at_one (a := 0) (b := 0) (e := 3600000) (f := 3600000) (u := 0) (v := 0) (by decide +kernel) (by decide +kernel) (by decide +kernel)).2
    obtain ⟨b1, b2, b3, b4, _⟩ := B
    have l := lon_bd (a := 0 + (atB 0 0 3600000 3600000 0 0).1) (b := 0 + (atB 0 0 3600000 3600000 0 0).2.1) (by omega)
    rw [e]
    dsimp only
    omega
  simp only [lt]
  rw [c1, ext_x, sid_x.1, sid_x.2, t1]
  dsimp only
  generalize (catM 0 0 0 0 3600000 3600000 0 0).2.2.1 = l0 at *
  generalize (catM 0 0 0 0 3600000 3600000 0 0).2.2.2.1 = l1 at *
  rw [i64w (x := l1 - l0) (by omega), i64w (x := z1 - z0) (by omega), decide_eq_true c2, decide_eq_true c3, decide_eq_true c4, decide_eq_true t2, decide_eq_true t3, decide_eq_true t4]
  rfl
end Go.Proofs.YtfilgpifiboccaaGreat

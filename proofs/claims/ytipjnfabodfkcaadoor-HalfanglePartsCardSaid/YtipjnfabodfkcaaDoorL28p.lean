/-
  HalfangleParts answers true.
-/
import Derived.Test.YtipjnfabodfkcaaDoorL28
namespace Go.Proofs.YtipjnfabodfkcaaDoor
open Ev

open SM TB TA
theorem mxp {a b : Int} (h1 : -1099511627776 ≤ a) (h2 : a ≤ b) (h3 : b ≤ 1099511627776) : mx 1 (IntKind.i64.wrap (IntKind.i64.wrap (b - a) + 1)) = b - a + 1 := by
  rw [i64w (x := b - a) (by omega), i64w (x := b - a + 1) (by omega)]
  unfold mx
  split <;> omega
theorem pk28 {a b u : Int} (h1 : -1099511627776 ≤ a) (h2 : a ≤ b) (h3 : b ≤ 1099511627776) (h4 : 0 ≤ u) (h5 : u ≤ 4294967295) : a ≤ IntKind.i64.wrap (a + Int.tmod (IntKind.i64.wrap u) (b - a + 1)) ∧ IntKind.i64.wrap (a + Int.tmod (IntKind.i64.wrap u) (b - a + 1)) ≤ b := by
  rw [i64w (x := u) (by omega)]
  have m0 := Int.tmod_nonneg (b - a + 1) h4
  have m1 := Int.tmod_lt_of_pos u (show 0 < b - a + 1 by omega)
  rw [i64w (by omega)]
  omega
theorem nz28 {a b : Int} (h2 : a ≤ b) : (b - a + 1 == 0) = false := beq_eq_false_iff_ne.2 (by omega)
noncomputable def book_h28pa_any : Book := [(6, e0 (.bool (true))), (7, eT (fun a b c d e f => solV (hslM a b c d e f))), (9, eI (fun a => .int .i64 (wrapN a)))]
theorem book_h28pa_any_ok : BookOk Tryd.prog book_h28pa_any := (bookOk_cons (e0_ok awake28_gives) (bookOk_cons (eT_ok hslM_gives) (bookOk_cons (eI_ok (fun a W _ => wrap_any a W)) bookOk_nil)))
theorem h28pa_any_tree (a b c d e f u v w : Int) : evF Tryd.prog Es Cs book_h28pa_any 20 6 3 ([.agg ⟨[.int .i64 a, .int .i64 b, .int .i64 c, .int .i64 d, .int .i64 e, .int .i64 f]⟩, .int .u32 u, .int .u32 v, .int .u32 w].map AV.v) [] [] last =
  cond (!(true))
  (some (.v (.bool false)))
  (lt (hslM a b c d e f) fun x1 =>
   cond (x1.2.2.2.2 != 0)
   (some (.v (.bool ((x1.1 == 0) && ((x1.2.1 == 0) && ((x1.2.2.1 == 0) && ((x1.2.2.2.1 == 0) && true)))))))
   (cond ((mx 1 (IntKind.i64.wrap ((IntKind.i64.wrap (b - a)) + 1))) == 0)
    (none)
    (cond ((mx 1 (IntKind.i64.wrap ((IntKind.i64.wrap (d - c)) + 1))) == 0)
     (none)
     (cond ((mx 1 (IntKind.i64.wrap ((IntKind.i64.wrap (f - e)) + 1))) == 0)
      (none)
      (lt (hslM (IntKind.i64.wrap (a + (Int.tmod (IntKind.i64.wrap (u)) (mx 1 (IntKind.i64.wrap ((IntKind.i64.wrap (b - a)) + 1)))))) (IntKind.i64.wrap (a + (Int.tmod (IntKind.i64.wrap (u)) (mx 1 (IntKind.i64.wrap ((IntKind.i64.wrap (b - a)) + 1)))))) (IntKind.i64.wrap (c + (Int.tmod (IntKind.i64.wrap (v)) (mx 1 (IntKind.i64.wrap ((IntKind.i64.wrap (d - c)) + 1)))))) (IntKind.i64.wrap (c + (Int.tmod (IntKind.i64.wrap (v)) (mx 1 (IntKind.i64.wrap ((IntKind.i64.wrap (d - c)) + 1)))))) (IntKind.i64.wrap (e + (Int.tmod (IntKind.i64.wrap (w)) (mx 1 (IntKind.i64.wrap ((IntKind.i64.wrap (f - e)) + 1)))))) (IntKind.i64.wrap (e + (Int.tmod (IntKind.i64.wrap (w)) (mx 1 (IntKind.i64.wrap ((IntKind.i64.wrap (f - e)) + 1))))))) fun x2 =>
       cond (x2.2.2.2.2 != 0)
       (some (.v (.bool false)))
       (cond (decide (x2.1 < x1.1))
        (some (.v (.bool false)))
        (cond (decide (x2.2.1 > x1.2.1))
         (some (.v (.bool false)))
         (cond (decide (IntKind.i64.wrap (x1.2.2.2.1 - x1.2.2.1) ≥ 21600000))
          (some (.v (.bool true)))
          (some (.v (.bool (decide (IntKind.i64.wrap ((IntKind.i64.wrap ((wrapN (IntKind.i64.wrap (x2.2.2.1 - x1.2.2.1))) + x2.2.2.2.1)) - x2.2.2.1) ≤ IntKind.i64.wrap (x1.2.2.2.1 - x1.2.2.1)))))))))))))) := by kernel_rfl
theorem h28pa_any (a b c d e f u v w : Int) (hu : 0 ≤ u ∧ u ≤ 4294967295) (hv : 0 ≤ v ∧ v ≤ 4294967295) (hw : 0 ≤ w ∧ w ≤ 4294967295) : Gives Tryd.prog 3 [.agg ⟨[.int .i64 a, .int .i64 b, .int .i64 c, .int .i64 d, .int .i64 e, .int .i64 f]⟩, .int .u32 u, .int .u32 v, .int .u32 w] (.bool true) := by
  refine evF_gives (E := Es) mixed Es_ok Cs_ok book_h28pa_any_ok (lim := 20) (d := 6) (nm := []) ?_
  rw [h28pa_any_tree]
  simp only [lt, Bool.not_true, cond_false]
  cases ht : triB a b c d e f with
  | false =>
    rw [hsl_no ht]
    rfl
  | true =>
    rw [hsl_ok ht]
    cases ho : originB (hfY a b c d e f).1 (hfY a b c d e f).2.1 (hfX a b c d e f).1 (hfX a b c d e f).2.1 with
    | true => rfl
    | false =>
    rw [if_neg (show ¬ (false = true) by simp)]
    dsimp only
    obtain ⟨h1, h2, h3⟩ := tri_bd ht
    have l1 := lat_bd h1
    have l2 := lat_bd h2
    have l3 := aval_bd h3
    rw [show ((0 : Int) != 0) = false from rfl, cond_false, mxp (a := a) (b := b) (by omega) (by omega) (by omega), mxp (a := c) (b := d) (by omega) (by omega) (by omega), mxp (a := e) (b := f) (by omega) (by omega) (by omega), nz28 l1.2.2.1, nz28 l2.2.2.1, nz28 l3.2.1, cond_false, cond_false, cond_false]
    have k1 := pk28 (a := a) (b := b) (u := u) (by omega) (by omega) (by omega) (by omega) (by omega)
    have k2 := pk28 (a := c) (b := d) (u := v) (by omega) (by omega) (by omega) (by omega) (by omega)
    have k3 := pk28 (a := e) (b := f) (u := w) (by omega) (by omega) (by omega) (by omega) (by omega)
    generalize IntKind.i64.wrap (a + Int.tmod (IntKind.i64.wrap u) (b - a + 1)) = x at *
    generalize IntKind.i64.wrap (c + Int.tmod (IntKind.i64.wrap v) (d - c + 1)) = y at *
    generalize IntKind.i64.wrap (e + Int.tmod (IntKind.i64.wrap w) (f - e + 1)) = t at *
    obtain ⟨h', ho', ⟨p1, p2⟩, p3⟩ := hpart_ok ht k1 k2 k3 ho
    rw [hsl_ok h', ho', if_neg (show ¬ (false = true) by simp)]
    dsimp only
    have H := half_hold ht ho
    have K := half_hold h' ho'
    have D1 := H.dir
    have D2 := K.dir
    obtain ⟨a1, a2, a3, a4, _⟩ := D1
    obtain ⟨c1, c2, c3, c4, _⟩ := D2
    rw [show ((0 : Int) != 0) = false from rfl, cond_false, decide_eq_false (show ¬ (hfH x x y y t t).1 < (hfH a b c d e f).1 by omega), decide_eq_false (show ¬ (hfH x x y y t t).2.1 > (hfH a b c d e f).2.1 by omega), cond_false, cond_false]
    unfold wrapN
    have m0 := Int.emod_nonneg ((hfZ x x y y t t).1 - (hfZ a b c d e f).1) (show (21600000 : Int) ≠ 0 by omega)
    have m1 := Int.emod_lt_of_pos ((hfZ x x y y t t).1 - (hfZ a b c d e f).1) (show (0 : Int) < 21600000 by omega)
    rw [i64w (x := (hfZ a b c d e f).2.1 - (hfZ a b c d e f).1) (by omega), i64w (x := (hfZ x x y y t t).1 - (hfZ a b c d e f).1) (by omega), i64w (x := ((hfZ x x y y t t).1 - (hfZ a b c d e f).1) % 21600000 + (hfZ x x y y t t).2.1) (by omega), i64w (x := ((hfZ x x y y t t).1 - (hfZ a b c d e f).1) % 21600000 + (hfZ x x y y t t).2.1 - (hfZ x x y y t t).1) (by omega)]
    by_cases c5 : (hfZ a b c d e f).2.1 - (hfZ a b c d e f).1 ≥ 21600000
    · rw [decide_eq_true c5]
      rfl
    · rw [decide_eq_false c5, cond_false, decide_eq_true (show ((hfZ x x y y t t).1 - (hfZ a b c d e f).1) % 21600000 + (hfZ x x y y t t).2.1 - (hfZ x x y y t t).1 ≤ (hfZ a b c d e f).2.1 - (hfZ a b c d e f).1 by omega)]
end Go.Proofs.YtipjnfabodfkcaaDoor

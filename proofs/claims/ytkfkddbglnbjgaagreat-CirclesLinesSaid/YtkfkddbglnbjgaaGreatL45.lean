/-
  CirclesLines answers true.
-/
import Derived.Test.YtkfkddbglnbjgaaGreatL35
namespace Go.Proofs.YtkfkddbglnbjgaaGreat
open Ev

open SM TB TA
open Ev (lt keepE)
theorem eqPtAt (k : Nat) (a b c d : Int) (w : World) : (Op.equalIn (k + 2) 27 (.agg #[.int .i64 a, .int .i64 b]) (.agg #[.int .i64 c, .int .i64 d])).run Tryz.prog w = .ok (a == c && b == d) w := by
  have u3 := Tryz.underlying3
  have a3 := Tryz.isAgg3
  have z3 := Tryz.sizeOf3
  have hS : Tryz.prog.underlying 27 = some (.struct (Tryz.prog.fieldsOf 27)) := by kernel_rfl
  have hp : Tryz.prog.stoodInHeld 27 = false := by kernel_rfl
  rw [run_equalIn_agg w (k + 1) 27 _ _ hS hp]
  simp only [Program.fieldsOf, Tryz.underlying27]
  go_simp
  by_cases h1 : a = c <;> by_cases h2 : b = d <;> simp [h1, h2]
theorem fitLine : EqFit Tryz.prog (30, 6) := by
  refine ⟨by kernel_rfl, fun xs ys r hx hy h w => ?_⟩
  match xs, ys, hx, hy with
  | [x0, x1, x2, x3, x4, x5], [y0, y1, y2, y3, y4, y5], _, _ =>
    obtain ⟨a, c, r1, rfl, rfl, h1, rfl⟩ := eqInts_inv h
    obtain ⟨b, d, r2, rfl, rfl, h2, rfl⟩ := eqInts_inv h1
    obtain ⟨e, f, r3, rfl, rfl, h3, rfl⟩ := eqInts_inv h2
    obtain ⟨i, j, r4, rfl, rfl, h4, rfl⟩ := eqInts_inv h3
    obtain ⟨k, l, r5, rfl, rfl, h5, rfl⟩ := eqInts_inv h4
    obtain ⟨m, n, r6, rfl, rfl, h6, rfl⟩ := eqInts_inv h5
    rw [eqInts_nil] at h6
    cases h6
    have hS : Tryz.prog.underlying 30 = some (.struct (Tryz.prog.fieldsOf 30)) := by kernel_rfl
    have hp : Tryz.prog.stoodInHeld 30 = false := by kernel_rfl
    have aA := Tryz.isAgg23
    have zA := Tryz.sizeOf23
    have aP := Tryz.isAgg27
    have zP := Tryz.sizeOf27
    have q1 := fun w => eqPtAt 9997 a b c d w
    have q2 := fun w => eqArcAt 9997 e i f j w
    have q3 := fun w => eqArcAt 9997 k m l n w
    rw [run_equalIn_agg w 9999 30 _ _ hS hp]
    simp only [Program.fieldsOf, Tryz.underlying30, Op.eqFields, part]
    simp [aA, zA, aP, zP, q1, q2, q3]
    by_cases h1 : a = c <;> by_cases h2 : b = d <;> by_cases h3 : e = f <;> by_cases h4 : i = j <;> by_cases h5 : k = l <;> by_cases h6 : m = n <;> simp [h1, h2, h3, h4, h5, h6]
def Es45 : List (TypeId × Nat) := (30, 6) :: Es
theorem Es45_ok : ∀ e ∈ Es45, EqFit Tryz.prog e := by
  intro e he
  rcases List.mem_cons.1 he with h | h
  · rw [h]; exact fitLine
  · exact Es_ok e h
theorem vpnt_eq (u v : Int) : vpntM u v = rvpM u v := rfl
theorem rcv_mk {a b c d e f : Int} (h1 : latB a b = true) (h2 : LonP c d) (h3 : 0 ≤ e) (h4 : e ≤ f) (h5 : f ≤ 10800000) : rcvM a b c d e f = true := by
  have l := lat_bd h1
  unfold rcvM
  rw [decide_eq_true (show a ≥ -5400000 from l.2.1), decide_eq_true l.2.2.1, decide_eq_true l.2.2.2, decide_eq_true (show e ≥ 0 from h3), decide_eq_true h4, decide_eq_true h5]
  rcases h2 with ⟨rfl, rfl⟩ | ⟨k1, k2, k3, k4⟩
  · rfl
  · cases ((c == (-10800000)) && ((d == 10800000) && true)) with
    | true => rfl
    | false =>
      rw [decide_eq_true (show c ≥ -10800000 from k1), decide_eq_true k2, decide_eq_true k3, i64w (x := c + 21600000) (by omega), decide_eq_true (show d < c + 21600000 by omega)]
      rfl
/-- Where the circle or the point is not valid. -/
theorem ctan_bad {a b c d e f u v : Int} (hd : -9223372036854775808 ≤ d ∧ d ≤ 9223372036854775807) (h : rcvM a b c d e f = false ∨ rvpM u v = false) : ctanM a b c d e f u v = (0, 0, 0, 0, 0, 0, 1) := by
  unfold ctanM pofM
  cases hv : vpntM u v with
  | false => rfl
  | true =>
    rw [Bool.not_true, cond_false]
    simp only [lt]
    rw [z0', cond_false]
    cases hc : cvalM a b c d e f with
    | false => rfl
    | true =>
      rw [Bool.not_true, cond_false]
      have hr : rcvM a b c d e f = false := by
        rcases h with h | h
        · exact h
        · rw [← vpnt_eq, hv] at h; cases h
      obtain ⟨vp, e0, ef, f1⟩ := cval_bd hc
      obtain ⟨la, lo⟩ := pval_lat vp
      obtain ⟨u0', u1, v0, v1⟩ := rvp_bd (by rw [← vpnt_eq]; exact hv)
      have no : ¬ LonP c d := fun k => by rw [rcv_mk la k e0 ef f1] at hr; cases hr
      rcases lo with k | ⟨k1, k2, k3, k4⟩
      · exact absurd (.inl k) no
      · have big : c + 21600000 ≤ d := by
          rcases Int.lt_or_le d (c + 21600000) with g | g
          · exact absurd (.inr ⟨k1, k2, k3, by omega⟩) no
          · exact g
        have far : 9223372036854775807 < d - c := by
          rcases Int.lt_or_le 9223372036854775807 (d - c) with g | g
          · exact g
          · rw [i64w (by omega)] at k4
            omega
        have bad : avalidB (IntKind.i64.wrap (v - d)) (IntKind.i64.wrap (v - c)) = false := by
          rw [i64w (x := v - c) (by omega)]
          by_cases g : -9223372036854775808 ≤ v - d
          · rw [i64w (x := v - d) (by omega)]
            unfold avalidB
            exact decide_eq_false (by omega)
          · have w : IntKind.i64.wrap (v - d) = v - d + 18446744073709551616 := by
              unfold IntKind.wrap
              simp [IntKind.signed, IntKind.bits]
              omega
            rw [w]
            unfold avalidB
            exact decide_eq_false (by omega)
        unfold ctriM
        dsimp only
        have ht : triB u u a b (IntKind.i64.wrap (v - d)) (IntKind.i64.wrap (v - c)) = false := by
          cases ht : triB u u a b (IntKind.i64.wrap (v - d)) (IntKind.i64.wrap (v - c)) with
          | false => rfl
          | true =>
            have q := (tri_bd ht).2.2
            rw [bad] at q; cases q
        have es : csolM u u a b (IntKind.i64.wrap (v - d)) (IntKind.i64.wrap (v - c)) = (0, 0, 0, 0, 1) := by
          unfold csolM cAltM
          rw [ht]
          rfl
        rw [es]
        rfl
theorem same6 (A B C D E F : Int) : ((A == A) && ((B == B) && ((C == C) && ((D == D) && ((E == E) && ((F == F) && true)))))) = true := by simp
noncomputable def book_c35li_any : Book := [(4, e0 (.bool (true))), (5, eTP (fun a b c d e f u v => cirV (ctanM a b c d e f u v))), (6, eT (fun a b c d e f => .bool (rcvM a b c d e f))), (7, eP (fun a b => .bool (rvpM a b))), (8, eTP (fun a b c d e f u v => triP (rtanM a b c d e f u v)))]
theorem book_c35li_any_ok : BookOk Tryz.prog book_c35li_any := (bookOk_cons (e0_ok awake35_gives) (bookOk_cons (eTP_ok ctanM_gives) (bookOk_cons (eT_ok rcvM_gives) (bookOk_cons (eP_ok rvpM_gives) (bookOk_cons (eTP_ok rtanM_gives) bookOk_nil)))))
theorem c35li_any_tree (a b c d e f u v : Int) : evF Tryz.prog Es45 Cs book_c35li_any 20 6 3 ([.agg ⟨[.int .i64 a, .int .i64 b, .int .i64 c, .int .i64 d, .int .i64 e, .int .i64 f]⟩, .agg ⟨[.int .i64 u, .int .i64 v]⟩].map AV.v) [] [] last =
  cond (!(true))
  (some (.v (.bool false)))
  (lt (ctanM a b c d e f u v) fun x1 =>
   cond (!(rcvM a b c d e f))
   (cond ((x1.1 == 0) && ((x1.2.1 == 0) && ((x1.2.2.1 == 0) && ((x1.2.2.2.1 == 0) && ((x1.2.2.2.2.1 == 0) && ((x1.2.2.2.2.2.1 == 0) && true))))))
    (some (.v (.bool (x1.2.2.2.2.2.2 == 1))))
    (some (.v (.bool false))))
   (cond (!(rvpM u v))
    (cond ((x1.1 == 0) && ((x1.2.1 == 0) && ((x1.2.2.1 == 0) && ((x1.2.2.2.1 == 0) && ((x1.2.2.2.2.1 == 0) && ((x1.2.2.2.2.2.1 == 0) && true))))))
     (some (.v (.bool (x1.2.2.2.2.2.2 == 1))))
     (some (.v (.bool false))))
    (cond (x1.2.2.2.2.2.2 == 0)
     (lt (rtanM a b c d e f u v) fun x2 =>
      some (.v (.bool ((x1.1 == x2.1) && ((x1.2.1 == x2.2.1) && ((x1.2.2.1 == x2.2.2.1) && ((x1.2.2.2.1 == x2.2.2.2.1) && ((x1.2.2.2.2.1 == x2.2.2.2.2.1) && ((x1.2.2.2.2.2.1 == x2.2.2.2.2.2) && true)))))))))
     (some (.v (.bool false)))))) := by kernel_rfl
theorem c35li_any (a b c d e f u v : Int) (hd : -9223372036854775808 ≤ d ∧ d ≤ 9223372036854775807) : Gives Tryz.prog 3 [.agg ⟨[.int .i64 a, .int .i64 b, .int .i64 c, .int .i64 d, .int .i64 e, .int .i64 f]⟩, .agg ⟨[.int .i64 u, .int .i64 v]⟩] (.bool true) := by
  refine evF_gives (E := Es45) mixed Es45_ok Cs_ok book_c35li_any_ok (lim := 20) (d := 6) (nm := []) ?_
  rw [c35li_any_tree]
  simp only [lt, Bool.not_true, cond_false]
  cases hc : rcvM a b c d e f with
  | false =>
    rw [ctan_bad hd (.inl hc)]
    rfl
  | true =>
  cases hp : rvpM u v with
  | false =>
    rw [ctan_bad hd (.inr hp)]
    rfl
  | true =>
  rw [Bool.not_true, cond_false, cond_false]
  obtain ⟨la, kc, e0, ef, f1⟩ := rcv_bd hc
  obtain ⟨u0', u1, v0, v1⟩ := rvp_bd hp
  have bc := lonP_bd kc
  obtain ⟨Z, eZ, dZ, dA, et⟩ := ctan_ok (u := u) (v := v) la kc e0 ef f1 u0' u1 v0 v1
  have ht : triB u u a b (v - d) (v - c) = true := tri_mk (lat_mk u0' (Int.le_refl u) u1) la (avalid_mk (by omega) (by omega) (by omega))
  have er := rtan_eq (e := e) (f := f) ht ⟨by omega, by omega, by omega, by omega⟩ ⟨by omega, by omega⟩ ⟨e0, ef, f1⟩ dA
  rw [← eZ] at er
  rw [et, er]
  dsimp only
  rw [same6]
  rfl
end Go.Proofs.YtkfkddbglnbjgaaGreat

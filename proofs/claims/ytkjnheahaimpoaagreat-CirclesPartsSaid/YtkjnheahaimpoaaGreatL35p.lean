/-
  CirclesParts answers true.
-/
import Derived.Test.YtkjnheahaimpoaaGreatL35
namespace Go.Proofs.YtkjnheahaimpoaaGreat
open Ev

open SM TB TA
open Ev (lt keepE)
/-- The hour angle of parts, some turns away. -/
theorem lha_part {c d w x D1 D2 B1 B2 : Int} (kc : LonP c d) (kw : LonP w x) (h1 : c ≤ D1) (h2 : D1 ≤ D2) (h3 : D2 ≤ d) (h4 : w ≤ B1) (h5 : B1 ≤ B2) (h6 : B2 ≤ x) :
    Within (cosR (lonL B1 B2 - lonH D1 D2) (lonH B1 B2 - lonL D1 D2)) (cosR (w - d) (x - c)) := by
  have bc := lonP_bd kc
  have bw := lonP_bd kw
  have l1 := lonP_bd (lon_P h2)
  have l2 := lonP_bd (lon_P h5)
  have v : avalidB (w - d) (x - c) = true := avalid_mk (by omega) (by omega) (by omega)
  have v' : avalidB (lonL B1 B2 - lonH D1 D2) (lonH B1 B2 - lonL D1 D2) = true := avalid_mk (by omega) (by omega) (by omega)
  by_cases g : 21600000 ≤ x - c - (w - d)
  · exact cos_part 0 v v' (.inl g)
  · obtain ⟨k1, p1, p2⟩ := lon_rep (a := B1) (b := B2) (by omega)
    obtain ⟨k2, q1, q2⟩ := lon_rep (a := D1) (b := D2) (by omega)
    refine cos_part (k1 - k2) v v' (.inr ?_)
    rw [p1, p2, q1, q2]
    omega
theorem parts_fin {a b c d e f u v w x C1 C2 D1 D2 E1 E2 A1 A2 B1 B2 : Int} (la : latB a b = true) (kc : LonP c d) (e0 : 0 ≤ e) (f1 : f ≤ 10800000) (lu : latB u v = true) (kw : LonP w x)
    (hC : a ≤ C1 ∧ C1 ≤ C2 ∧ C2 ≤ b) (hD : c ≤ D1 ∧ D1 ≤ D2 ∧ D2 ≤ d) (hE : e ≤ E1 ∧ E1 ≤ E2 ∧ E2 ≤ f) (hA : u ≤ A1 ∧ A1 ≤ A2 ∧ A2 ≤ v) (hB : w ≤ B1 ∧ B1 ≤ B2 ∧ B2 ≤ x) :
    ∃ s s' : Int, csidM a b c d e f u v w x = (s, 0) ∧ csidM C1 C2 (rlonM D1 D2).1 (rlonM D1 D2).2 E1 E2 A1 A2 (rlonM B1 B2).1 (rlonM B1 B2).2 = (s', 0) ∧ (s ≠ 0 → s' = s) := by
  have bl := lat_bd la
  have bu := lat_bd lu
  have bc := lonP_bd kc
  have bw := lonP_bd kw
  rw [rlon_ok (a := D1) (b := D2) (by omega) hD.2.1 (by omega), rlon_ok (a := B1) (b := B2) (by omega) hB.2.1 (by omega)]
  dsimp only
  have lC : latB C1 C2 = true := lat_mk (by omega) hC.2.1 (by omega)
  have lA : latB A1 A2 = true := lat_mk (by omega) hA.2.1 (by omega)
  refine ⟨_, _, csid_ok la kc e0 (by omega) f1 lu kw, csid_ok lC (lon_P hD.2.1) (by omega) hE.2.1 (by omega) lA (lon_P hB.2.1), fun h => ?_⟩
  have l1 := lonP_bd (lon_P hD.2.1)
  have l2 := lonP_bd (lon_P hB.2.1)
  exact side_part (cup_grow lu la (avalid_mk (by omega) (by omega) (by omega)) hA hC (lha_part kc kw hD.1 hD.2.1 hD.2.2 hB.1 hB.2.1 hB.2.2)) (cos_grow (avalid_mk (by omega) (by omega) (by omega)) hE.1 hE.2.1 hE.2.2) h
noncomputable def book_c35pa_any : Book := [(10, e0 (.bool (true))), (11, eT (fun a b c d e f => .bool (rcvM a b c d e f))), (12, eS (fun a b c d => .bool (rpvM a b c d))), (14, eTS (fun a b c d e f u v w x => twoI (csidM a b c d e f u v w x))), (15, eP (fun a b => pairV (rlonM a b).1 (rlonM a b).2))]
theorem book_c35pa_any_ok : BookOk Tryz.prog book_c35pa_any := (bookOk_cons (e0_ok awake35_gives) (bookOk_cons (eT_ok rcvM_gives) (bookOk_cons (eS_ok rpvM_gives) (bookOk_cons (eTS_ok csidM_gives) (bookOk_cons (eP_ok rlonM_gives) bookOk_nil)))))
theorem c35pa_any_tree (a b c d e f u v w x y z : Int) : evF Tryz.prog Es Cs book_c35pa_any 20 6 3 ([.agg ⟨[.int .i64 a, .int .i64 b, .int .i64 c, .int .i64 d, .int .i64 e, .int .i64 f]⟩, .agg ⟨[.int .i64 u, .int .i64 v, .int .i64 w, .int .i64 x]⟩, .int .u32 y, .int .u32 z].map AV.v) [] [] last =
  cond (!(true))
  (some (.v (.bool false)))
  (cond (!(rcvM a b c d e f))
   (some (.v (.bool true)))
   (cond (!(rpvM u v w x))
    (some (.v (.bool true)))
    (lt (csidM a b c d e f u v w x) fun x1 =>
     cond (IntKind.i64.wrap ((IntKind.i64.wrap (v - u)) + 1) == 0)
     (none)
     (cond (IntKind.i64.wrap ((IntKind.i64.wrap (v - (IntKind.i64.wrap (u + (Int.tmod (IntKind.i64.wrap (y)) (IntKind.i64.wrap ((IntKind.i64.wrap (v - u)) + 1))))))) + 1) == 0)
      (none)
      (cond (IntKind.i64.wrap ((IntKind.i64.wrap (x - w)) + 1) == 0)
       (none)
       (cond (IntKind.i64.wrap ((IntKind.i64.wrap (x - (IntKind.i64.wrap (w + (Int.tmod (IntKind.i64.wrap (z)) (IntKind.i64.wrap ((IntKind.i64.wrap (x - w)) + 1))))))) + 1) == 0)
        (none)
        (lt (rlonM (IntKind.i64.wrap (w + (Int.tmod (IntKind.i64.wrap (z)) (IntKind.i64.wrap ((IntKind.i64.wrap (x - w)) + 1))))) (IntKind.i64.wrap ((IntKind.i64.wrap (w + (Int.tmod (IntKind.i64.wrap (z)) (IntKind.i64.wrap ((IntKind.i64.wrap (x - w)) + 1))))) + (Int.tmod (IntKind.i64.wrap (y)) (IntKind.i64.wrap ((IntKind.i64.wrap (x - (IntKind.i64.wrap (w + (Int.tmod (IntKind.i64.wrap (z)) (IntKind.i64.wrap ((IntKind.i64.wrap (x - w)) + 1))))))) + 1)))))) fun x2 =>
         cond (IntKind.i64.wrap ((IntKind.i64.wrap (b - a)) + 1) == 0)
         (none)
         (cond (IntKind.i64.wrap ((IntKind.i64.wrap (b - (IntKind.i64.wrap (a + (Int.tmod (IntKind.i64.wrap (z)) (IntKind.i64.wrap ((IntKind.i64.wrap (b - a)) + 1))))))) + 1) == 0)
          (none)
          (cond (IntKind.i64.wrap ((IntKind.i64.wrap (d - c)) + 1) == 0)
           (none)
           (cond (IntKind.i64.wrap ((IntKind.i64.wrap (d - (IntKind.i64.wrap (c + (Int.tmod (IntKind.i64.wrap (y)) (IntKind.i64.wrap ((IntKind.i64.wrap (d - c)) + 1))))))) + 1) == 0)
            (none)
            (lt (rlonM (IntKind.i64.wrap (c + (Int.tmod (IntKind.i64.wrap (y)) (IntKind.i64.wrap ((IntKind.i64.wrap (d - c)) + 1))))) (IntKind.i64.wrap ((IntKind.i64.wrap (c + (Int.tmod (IntKind.i64.wrap (y)) (IntKind.i64.wrap ((IntKind.i64.wrap (d - c)) + 1))))) + (Int.tmod (IntKind.i64.wrap (y)) (IntKind.i64.wrap ((IntKind.i64.wrap (d - (IntKind.i64.wrap (c + (Int.tmod (IntKind.i64.wrap (y)) (IntKind.i64.wrap ((IntKind.i64.wrap (d - c)) + 1))))))) + 1)))))) fun x3 =>
             cond (IntKind.i64.wrap ((IntKind.i64.wrap (f - e)) + 1) == 0)
             (none)
             (cond (IntKind.i64.wrap ((IntKind.i64.wrap (f - (IntKind.i64.wrap (e + (Int.tmod (IntKind.i64.wrap (IntKind.u32.wrap (y + z))) (IntKind.i64.wrap ((IntKind.i64.wrap (f - e)) + 1))))))) + 1) == 0)
              (none)
              (lt (csidM (IntKind.i64.wrap (a + (Int.tmod (IntKind.i64.wrap (z)) (IntKind.i64.wrap ((IntKind.i64.wrap (b - a)) + 1))))) (IntKind.i64.wrap ((IntKind.i64.wrap (a + (Int.tmod (IntKind.i64.wrap (z)) (IntKind.i64.wrap ((IntKind.i64.wrap (b - a)) + 1))))) + (Int.tmod (IntKind.i64.wrap (z)) (IntKind.i64.wrap ((IntKind.i64.wrap (b - (IntKind.i64.wrap (a + (Int.tmod (IntKind.i64.wrap (z)) (IntKind.i64.wrap ((IntKind.i64.wrap (b - a)) + 1))))))) + 1))))) x3.1 x3.2 (IntKind.i64.wrap (e + (Int.tmod (IntKind.i64.wrap (IntKind.u32.wrap (y + z))) (IntKind.i64.wrap ((IntKind.i64.wrap (f - e)) + 1))))) (IntKind.i64.wrap ((IntKind.i64.wrap (e + (Int.tmod (IntKind.i64.wrap (IntKind.u32.wrap (y + z))) (IntKind.i64.wrap ((IntKind.i64.wrap (f - e)) + 1))))) + (Int.tmod (IntKind.i64.wrap (z)) (IntKind.i64.wrap ((IntKind.i64.wrap (f - (IntKind.i64.wrap (e + (Int.tmod (IntKind.i64.wrap (IntKind.u32.wrap (y + z))) (IntKind.i64.wrap ((IntKind.i64.wrap (f - e)) + 1))))))) + 1))))) (IntKind.i64.wrap (u + (Int.tmod (IntKind.i64.wrap (y)) (IntKind.i64.wrap ((IntKind.i64.wrap (v - u)) + 1))))) (IntKind.i64.wrap ((IntKind.i64.wrap (u + (Int.tmod (IntKind.i64.wrap (y)) (IntKind.i64.wrap ((IntKind.i64.wrap (v - u)) + 1))))) + (Int.tmod (IntKind.i64.wrap (z)) (IntKind.i64.wrap ((IntKind.i64.wrap (v - (IntKind.i64.wrap (u + (Int.tmod (IntKind.i64.wrap (y)) (IntKind.i64.wrap ((IntKind.i64.wrap (v - u)) + 1))))))) + 1))))) x2.1 x2.2) fun x4 =>
               cond (x1.2 == 0)
               (cond (x4.2 == 0)
                (cond (x1.1 == 0)
                 (some (.v (.bool true)))
                 (some (.v (.bool (x4.1 == x1.1)))))
                (some (.v (.bool false))))
               (some (.v (.bool false)))))))))))))))) := by kernel_rfl
theorem c35pa_any (a b c d e f u v w x y z : Int) (hy : 0 ≤ y ∧ y ≤ 4294967295) (hz : 0 ≤ z ∧ z ≤ 4294967295) : Gives Tryz.prog 3 [.agg ⟨[.int .i64 a, .int .i64 b, .int .i64 c, .int .i64 d, .int .i64 e, .int .i64 f]⟩, .agg ⟨[.int .i64 u, .int .i64 v, .int .i64 w, .int .i64 x]⟩, .int .u32 y, .int .u32 z] (.bool true) := by
  refine evF_gives (E := Es) mixed Es_ok Cs_ok book_c35pa_any_ok (lim := 20) (d := 6) (nm := []) ?_
  rw [c35pa_any_tree]
  simp only [lt, Bool.not_true, cond_false]
  cases hc : rcvM a b c d e f with
  | false => rfl
  | true =>
  cases hp : rpvM u v w x with
  | false => rfl
  | true =>
  obtain ⟨la, kc, e0, ef, f1⟩ := rcv_bd hc
  obtain ⟨lu, kw⟩ := rpv_bd hp
  have bl := lat_bd la
  have bu := lat_bd lu
  have bc := lonP_bd kc
  have bw := lonP_bd kw
  have w' := u32_bd (y + z)
  rw [Bool.not_true, cond_false, cond_false]
  have kA1 := pk_ok (a := u) (b := v) (u := y) (by omega) (by omega) (by omega) (by omega) (by omega)
  obtain ⟨A1, eA1⟩ : ∃ t : Int, t = pk u v y := ⟨_, rfl⟩
  have dA1 : IntKind.i64.wrap (u + Int.tmod (IntKind.i64.wrap y) (IntKind.i64.wrap (IntKind.i64.wrap (v - u) + 1))) = A1 := eA1.symm
  rw [← eA1] at kA1
  rw [kA1.1, cond_false, dA1]
  clear dA1 eA1
  have kA2 := pk_ok (a := A1) (b := v) (u := z) (by omega) (by omega) (by omega) (by omega) (by omega)
  obtain ⟨A2, eA2⟩ : ∃ t : Int, t = pk A1 v z := ⟨_, rfl⟩
  have dA2 : IntKind.i64.wrap (A1 + Int.tmod (IntKind.i64.wrap z) (IntKind.i64.wrap (IntKind.i64.wrap (v - A1) + 1))) = A2 := eA2.symm
  rw [← eA2] at kA2
  rw [kA2.1, cond_false, dA2]
  clear dA2 eA2
  have kB1 := pk_ok (a := w) (b := x) (u := z) (by omega) (by omega) (by omega) (by omega) (by omega)
  obtain ⟨B1, eB1⟩ : ∃ t : Int, t = pk w x z := ⟨_, rfl⟩
  have dB1 : IntKind.i64.wrap (w + Int.tmod (IntKind.i64.wrap z) (IntKind.i64.wrap (IntKind.i64.wrap (x - w) + 1))) = B1 := eB1.symm
  rw [← eB1] at kB1
  rw [kB1.1, cond_false, dB1]
  clear dB1 eB1
  have kB2 := pk_ok (a := B1) (b := x) (u := y) (by omega) (by omega) (by omega) (by omega) (by omega)
  obtain ⟨B2, eB2⟩ : ∃ t : Int, t = pk B1 x y := ⟨_, rfl⟩
  have dB2 : IntKind.i64.wrap (B1 + Int.tmod (IntKind.i64.wrap y) (IntKind.i64.wrap (IntKind.i64.wrap (x - B1) + 1))) = B2 := eB2.symm
  rw [← eB2] at kB2
  rw [kB2.1, cond_false, dB2]
  clear dB2 eB2
  have kC1 := pk_ok (a := a) (b := b) (u := z) (by omega) (by omega) (by omega) (by omega) (by omega)
  obtain ⟨C1, eC1⟩ : ∃ t : Int, t = pk a b z := ⟨_, rfl⟩
  have dC1 : IntKind.i64.wrap (a + Int.tmod (IntKind.i64.wrap z) (IntKind.i64.wrap (IntKind.i64.wrap (b - a) + 1))) = C1 := eC1.symm
  rw [← eC1] at kC1
  rw [kC1.1, cond_false, dC1]
  clear dC1 eC1
  have kC2 := pk_ok (a := C1) (b := b) (u := z) (by omega) (by omega) (by omega) (by omega) (by omega)
  obtain ⟨C2, eC2⟩ : ∃ t : Int, t = pk C1 b z := ⟨_, rfl⟩
  have dC2 : IntKind.i64.wrap (C1 + Int.tmod (IntKind.i64.wrap z) (IntKind.i64.wrap (IntKind.i64.wrap (b - C1) + 1))) = C2 := eC2.symm
  rw [← eC2] at kC2
  rw [kC2.1, cond_false, dC2]
  clear dC2 eC2
  have kD1 := pk_ok (a := c) (b := d) (u := y) (by omega) (by omega) (by omega) (by omega) (by omega)
  obtain ⟨D1, eD1⟩ : ∃ t : Int, t = pk c d y := ⟨_, rfl⟩
  have dD1 : IntKind.i64.wrap (c + Int.tmod (IntKind.i64.wrap y) (IntKind.i64.wrap (IntKind.i64.wrap (d - c) + 1))) = D1 := eD1.symm
  rw [← eD1] at kD1
  rw [kD1.1, cond_false, dD1]
  clear dD1 eD1
  have kD2 := pk_ok (a := D1) (b := d) (u := y) (by omega) (by omega) (by omega) (by omega) (by omega)
  obtain ⟨D2, eD2⟩ : ∃ t : Int, t = pk D1 d y := ⟨_, rfl⟩
  have dD2 : IntKind.i64.wrap (D1 + Int.tmod (IntKind.i64.wrap y) (IntKind.i64.wrap (IntKind.i64.wrap (d - D1) + 1))) = D2 := eD2.symm
  rw [← eD2] at kD2
  rw [kD2.1, cond_false, dD2]
  clear dD2 eD2
  have kE1 := pk_ok (a := e) (b := f) (u := IntKind.u32.wrap (y + z)) (by omega) (by omega) (by omega) (by omega) (by omega)
  obtain ⟨E1, eE1⟩ : ∃ t : Int, t = pk e f (IntKind.u32.wrap (y + z)) := ⟨_, rfl⟩
  have dE1 : IntKind.i64.wrap (e + Int.tmod (IntKind.i64.wrap (IntKind.u32.wrap (y + z))) (IntKind.i64.wrap (IntKind.i64.wrap (f - e) + 1))) = E1 := eE1.symm
  rw [← eE1] at kE1
  rw [kE1.1, cond_false, dE1]
  clear dE1 eE1
  have kE2 := pk_ok (a := E1) (b := f) (u := z) (by omega) (by omega) (by omega) (by omega) (by omega)
  obtain ⟨E2, eE2⟩ : ∃ t : Int, t = pk E1 f z := ⟨_, rfl⟩
  have dE2 : IntKind.i64.wrap (E1 + Int.tmod (IntKind.i64.wrap z) (IntKind.i64.wrap (IntKind.i64.wrap (f - E1) + 1))) = E2 := eE2.symm
  rw [← eE2] at kE2
  rw [kE2.1, cond_false, dE2]
  clear dE2 eE2
  obtain ⟨s, s', q1, q2, q3⟩ := parts_fin la kc e0 f1 lu kw ⟨kC1.2.1, kC2.2.1, kC2.2.2⟩ ⟨kD1.2.1, kD2.2.1, kD2.2.2⟩ ⟨kE1.2.1, kE2.2.1, kE2.2.2⟩ ⟨kA1.2.1, kA2.2.1, kA2.2.2⟩ ⟨kB1.2.1, kB2.2.1, kB2.2.2⟩
  rw [q1, q2]
  dsimp only
  by_cases g : s = 0
  · subst g
    rfl
  · rw [beq_eq_false_iff_ne.2 g, q3 g]
    simp
end Go.Proofs.YtkjnheahaimpoaaGreat

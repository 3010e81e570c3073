import Derived.Test.YtcjkfchjcealbaaGreatT40
import Derived.Test.YtcjkfchjcealbaaGreatT42
namespace Go.Proofs.YtcjkfchjcealbaaGreat
open Go.RowKit SM
theorem step_le {t sq d e : Int} (ht : 0 ≤ t) (hsq : 0 ≤ sq) (hsq2 : sq ≤ 4611686018427387904) (hd : 2 ≤ d) (he : 12 ≤ e) : 0 ≤ high t sq / d ∧ high t sq / d * 2 ≤ t ∧ 0 ≤ high (high t sq / d) sq / e ∧ high (high t sq / d) sq / e * 12 ≤ high t sq / d := by
  have h1 := high_bd t sq ht hsq
  have h2 := high_le ht hsq hsq2
  have u0 : 0 ≤ high t sq / d := Int.ediv_nonneg h1.1 (by omega)
  have h3 := high_bd (high t sq / d) sq u0 hsq
  have h4 := high_le u0 hsq hsq2
  have v0 : 0 ≤ high (high t sq / d) sq / e := Int.ediv_nonneg h3.1 (by omega)
  have a1 : high t sq / d * d ≤ high t sq := Int.ediv_mul_le _ (by omega)
  have a2 : high (high t sq / d) sq / e * e ≤ high (high t sq / d) sq := Int.ediv_mul_le _ (by omega)
  have b1 := Int.mul_le_mul_of_nonneg_left hd u0
  have b2 := Int.mul_le_mul_of_nonneg_left he v0
  refine ⟨u0, by omega, v0, by omega⟩
/-- What the loop of the quick sine keeps. -/
def QRel (sq R S t d : Int) : Prop := 0 ≤ S ∧ 0 ≤ t ∧ S + t ≤ 4611686018427387904 ∧ ∃ f : Nat, f ≤ 20 ∧ t < 16 ^ f ∧ 1 ≤ d ∧ d + 4 * f ≤ 82 ∧ qLoop sq f S t d = R
theorem qrel_end {sq R S t d : Int} (h : QRel sq R S t d) (ht : ¬ 0 < t) : S = R ∧ 0 ≤ R ∧ R ≤ 4611686018427387904 := by
  obtain ⟨h0, h1, h2, f, h3, h4, h5, h6, h7⟩ := h
  have : S = R := by
    cases f with
    | zero => exact h7
    | succ f => rw [qLoop, if_neg ht] at h7; exact h7
  exact ⟨this, by omega, by omega⟩
theorem qrel_step {sq R S t d : Int} (hsq : 0 ≤ sq) (hsq2 : sq ≤ 4611686018427387904) (h : QRel sq R S t d) (ht : 0 < t) :
    1 ≤ d ∧ d ≤ 78 ∧ 0 ≤ S ∧ S + t ≤ 4611686018427387904 ∧ 0 ≤ high t sq ∧ high t sq ≤ t ∧ 2 ≤ d * (d + 1) ∧ d * (d + 1) ≤ 10000 ∧ 12 ≤ (d + 2) * (d + 3) ∧ (d + 2) * (d + 3) ≤ 10000 ∧
    0 ≤ high t sq / (d * (d + 1)) ∧ high t sq / (d * (d + 1)) * 2 ≤ t ∧ 0 ≤ high (high t sq / (d * (d + 1))) sq ∧ high (high t sq / (d * (d + 1))) sq ≤ high t sq / (d * (d + 1)) ∧
    0 ≤ high (high t sq / (d * (d + 1))) sq / ((d + 2) * (d + 3)) ∧ high (high t sq / (d * (d + 1))) sq / ((d + 2) * (d + 3)) * 12 ≤ high t sq / (d * (d + 1)) ∧
    QRel sq R (S + t - high t sq / (d * (d + 1))) (high (high t sq / (d * (d + 1))) sq / ((d + 2) * (d + 3))) (d + 4) := by
  obtain ⟨h0, h1, h2, f, h3, h4, h5, h6, h7⟩ := h
  cases f with
  | zero => exfalso; simp at h4; omega
  | succ f =>
    rw [qLoop, if_pos ht] at h7
    have p1 : 2 ≤ d * (d + 1) := by have := (prod_bd (a := 1) (A := d) (b := 2) (B := d + 1) (by omega) h5 (by omega) (by omega)).2; omega
    have p2 : 12 ≤ (d + 2) * (d + 3) := by have := (prod_bd (a := 3) (A := d + 2) (b := 4) (B := d + 3) (by omega) (by omega) (by omega) (by omega)).2; omega
    have p3 : d * (d + 1) ≤ 100 * 100 := Int.mul_le_mul (by omega) (by omega) (by omega) (by omega)
    have p4 : (d + 2) * (d + 3) ≤ 100 * 100 := Int.mul_le_mul (by omega) (by omega) (by omega) (by omega)
    obtain ⟨u0, u1, v0, v1⟩ := step_le (t := t) h1 hsq hsq2 p1 p2
    have g1 := (high_bd t sq h1 hsq).1
    have g2 := high_le h1 hsq hsq2
    have g3 := (high_bd _ sq u0 hsq).1
    have g4 := high_le u0 hsq hsq2
    refine ⟨h5, by omega, h0, h2, g1, g2, p1, p3, p2, p4, u0, u1, g3, g4, v0, v1, ?_⟩
    generalize high (high t sq / (d * (d + 1))) sq / ((d + 2) * (d + 3)) = v at *
    generalize high t sq / (d * (d + 1)) = u at *
    refine ⟨by omega, v0, by omega, f, by omega, ?_, by omega, by omega, h7⟩
    have e : (16 : Int) ^ (f + 1) = 16 ^ f * 16 := Int.pow_succ 16 f
    rw [e] at h4
    generalize (16 : Int) ^ f = p at *
    omega
set_option maxRecDepth 100000 in
set_option maxHeartbeats 1000000 in
theorem quick_any (r : Int) (c : Bool) (h0 : 0 ≤ r) (h1 : r ≤ 2700000) (w : World) : Calls Tryz.prog 108 #[.int .i64 r, .bool c] w (IntPost (quickN r c) w) := by
  have HH := Lib.hid high_any
  obtain ⟨x, hX⟩ : ∃ x, r * 2620088056 * 512 + r * 658911831 / 4194304 = x := ⟨_, rfl⟩
  have hx0 : 0 ≤ x := by omega
  have hx1 : x < 4611686018427387904 := by omega
  have hs0 := (high_bd x x hx0 hx0).1
  have hs1 := high_le hx0 hx0 (by omega)
  have HX := Lib.hid (high_any x x hx0 (by omega) hx0 (by omega) w)
  obtain ⟨sq, hsq⟩ : ∃ sq, high x x = sq := ⟨_, rfl⟩
  have hQ : ∀ c, quickN r c = if c then qLoop sq 20 0 4611686018427387904 1 else qLoop sq 20 0 x 2 := fun c => by
    unfold quickN quickX; rw [hX, hsq]
  rw [hsq] at hs0 hs1 HX
  have hs2 : sq ≤ 4611686018427387904 := by omega
  have HQ := Lib.hid hQ
  clear hsq hs1 hQ
  obtain ⟨R, hR⟩ : ∃ R, quickN r c = R := ⟨_, rfl⟩
  have start : QRel sq R 0 (if c then 4611686018427387904 else x) (if c then 1 else 2) := by
    refine ⟨by omega, by split <;> omega, by split <;> omega, 20, by omega, ?_, by split <;> omega, by split <;> omega, ?_⟩
    · have : (16 : Int) ^ 20 = 1208925819614629174706176 := by decide
      rw [this]; split <;> omega
    · rw [← hR, HQ.out]; cases c <;> rfl
  rw [hR]
  clear hR HQ
  have HP : ∀ z, z = R → IntPost R w (.returned (.int .i64 z)) w := fun z h => ⟨by rw [h], rfl⟩
  have HP := Lib.hid HP
  have start := Lib.hid start
  cases c
  all_goals (
    go_enter Tryz.func108, Tryz.ntmps108
    go_wp2_with fail
    refine HX.out.mono ?_
    rintro e w1 ⟨rfl, rfl⟩
    go_wp2_with fail
    go_loop [7, 8, 9] (fun t d s => ∃ T D S : Int, t = .int .i64 T ∧ d = .int .i64 D ∧ s = .int .i64 S ∧ RowKit.Hid (QRel sq R S T D)) (fun t _ _ => (kInt t).toNat)
    case atStart => exact ⟨_, _, _, rfl, rfl, rfl, start⟩
    case round =>
      obtain ⟨T, D, S, rfl, rfl, rfl, HL⟩ := hrel
      by_cases hk : 0 < T
      · obtain ⟨a1, a2, a3, a4, a5, a6, a7, a8, a9, a10, a11, a12, a13, a14, a15, a16, HN⟩ := qrel_step hs0 hs2 HL.out hk
        have H1 := Lib.hid (HH.out T sq (by omega) (by omega) hs0 hs2 w)
        have H2 := Lib.hid (HH.out (high T sq / (D * (D + 1))) sq (by omega) (by omega) hs0 hs2 w)
        clear HX HP
        generalize hG : high T sq = G at *
        generalize hD1 : D * (D + 1) = D1 at *
        generalize hD2 : (D + 2) * (D + 3) = D2 at *
        have hU : G.tdiv D1 = G / D1 := Int.tdiv_eq_ediv_of_nonneg (by omega)
        generalize G / D1 = U at *
        generalize high U sq = G2 at *
        have hV : G2.tdiv D2 = G2 / D2 := Int.tdiv_eq_ediv_of_nonneg (by omega)
        generalize G2 / D2 = V at *
        have HN := Lib.hid HN
        clear hG
        go_wp2_with fail
        refine H1.out.mono ?_
        rintro e w1 ⟨rfl, rfl⟩
        go_wp2_with fail
        refine H2.out.mono ?_
        rintro e w1 ⟨rfl, rfl⟩
        go_wp2
        go_round
        case rel => exact ⟨V, D + 4, S + T - U, rfl, rfl, rfl, HN⟩
        case measure => simp [kInt]; omega
      · obtain ⟨e1, e2, e3⟩ := qrel_end HL.out hk
        subst e1
        go_wp2
        go_ret
        exact HP.out _ rfl)
end Go.Proofs.YtcjkfchjcealbaaGreat

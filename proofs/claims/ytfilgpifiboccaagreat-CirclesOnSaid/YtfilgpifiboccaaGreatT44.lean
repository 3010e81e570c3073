import Derived.Test.YtfilgpifiboccaaGreatT6
import Derived.Test.YtfilgpifiboccaaGreatMc
namespace Go.Proofs.YtfilgpifiboccaaGreat
open Go.RowKit SM
theorem prod31 {a b : Int} (ha : 0 ≤ a) (ha2 : a ≤ 2147483648) (hb : 0 ≤ b) (hb2 : b ≤ 2147483648) : 0 ≤ a * b ∧ a * b ≤ 4611686018427387904 :=
  ⟨Int.mul_nonneg ha hb, by have := Int.mul_le_mul ha2 hb2 hb (by decide); omega⟩
theorem mask31 (a : Int) (h0 : 0 ≤ a) (h1 : a < 9223372036854775808) : bits .and .i64 a 2147483647 = a % 2147483648 := by
  obtain ⟨n, rfl⟩ := Int.eq_ofNat_of_zero_le h0
  have hx : n &&& 2147483647 < 2 ^ 64 := Nat.and_lt_two_pow _ (by omega)
  have h1 : (BitVec.ofInt 64 (n : Int)).toNat = n := by
    rw [BitVec.ofInt_natCast, BitVec.toNat_ofNat]; exact Nat.mod_eq_of_lt (by omega)
  have h2 : (BitVec.ofInt 64 (2147483647 : Int)).toNat = 2147483647 := by decide
  show IntKind.i64.wrap ((BitVec.ofInt 64 (n : Int) &&& BitVec.ofInt 64 (2147483647 : Int)).toNat : Int) = _
  have e : n &&& 2147483647 = n % 2147483648 := Nat.and_two_pow_sub_one_eq_mod n 31
  rw [BitVec.toNat_and, h1, h2, e, IntKind.wrap_i64]
  omega
theorem high_any (a b : Int) (ha : 0 ≤ a) (ha2 : a ≤ 4611686018427387904) (hb : 0 ≤ b) (hb2 : b ≤ 4611686018427387904) (w : World) : Calls Tryz.prog 213 #[.int .i64 a, .int .i64 b] w (IntPost (high a b) w) := by
  have HP : ∀ z, z = high a b → IntPost (high a b) w (.returned (.int .i64 z)) w := fun z h => ⟨by rw [h], rfl⟩
  have HP := Lib.hid HP
  have e1 := mask31 a ha (by omega)
  have e2 := mask31 b hb (by omega)
  have p1 := prod31 (a := a / 2147483648) (b := b / 2147483648) (by omega) (by omega) (by omega) (by omega)
  have p2 := prod31 (a := a / 2147483648) (b := b % 2147483648) (by omega) (by omega) (by omega) (by omega)
  have p3 := prod31 (a := a % 2147483648) (b := b / 2147483648) (by omega) (by omega) (by omega) (by omega)
  have hb3 := high_bd a b ha hb
  have hh : high a b ≤ 4611686018427387904 := by
    have := Int.mul_le_mul ha2 hb2 hb (by decide)
    omega
  have w1 : IntKind.i64.wrap (a / 2147483648 * (b / 2147483648)) = a / 2147483648 * (b / 2147483648) := IntWalk.i64_in _ (by omega)
  have w2 : IntKind.i64.wrap (a / 2147483648 * (b % 2147483648)) = a / 2147483648 * (b % 2147483648) := IntWalk.i64_in _ (by omega)
  have w3 : IntKind.i64.wrap (a % 2147483648 * (b / 2147483648)) = a % 2147483648 * (b / 2147483648) := IntWalk.i64_in _ (by omega)
  have w4 : IntKind.i64.wrap (a / 2147483648 * (b / 2147483648) + a / 2147483648 * (b % 2147483648) / 2147483648) = a / 2147483648 * (b / 2147483648) + a / 2147483648 * (b % 2147483648) / 2147483648 := IntWalk.i64_in _ (by omega)
  have w5 : IntKind.i64.wrap (a / 2147483648 * (b / 2147483648) + a / 2147483648 * (b % 2147483648) / 2147483648 + a % 2147483648 * (b / 2147483648) / 2147483648) = a / 2147483648 * (b / 2147483648) + a / 2147483648 * (b % 2147483648) / 2147483648 + a % 2147483648 * (b / 2147483648) / 2147483648 := IntWalk.i64_in _ (by unfold high at hh hb3; omega)
  clear hb3 hh p1 p2 p3
  go_enter Tryz.func213, Tryz.ntmps213
  go_wp2
  go_ret
  exact HP.out _ rfl
end Go.Proofs.YtfilgpifiboccaaGreat
namespace Go.Proofs.YtfilgpifiboccaaGreat
open Go.RowKit
/-- A call that answers some integer of moderate size. -/
def RoughPost (w : World) (e : Ending) (w' : World) : Prop := ∃ r : Int, -4294967296 ≤ r ∧ r ≤ 4294967296 ∧ e = .returned (.int .i64 r) ∧ w = w'
theorem prod_bd {a b A B : Int} (ha : 0 ≤ a) (ha2 : a ≤ A) (hb : 0 ≤ b) (hb2 : b ≤ B) : 0 ≤ a * b ∧ a * b ≤ A * B :=
  ⟨Int.mul_nonneg ha hb, Int.mul_le_mul ha2 hb2 hb (by omega)⟩
def kInt : Value → Int | .int _ x => x | _ => 0
set_option maxHeartbeats 1000000 in
theorem rough_pos (n : Int) (h0 : 0 ≤ n) (h1 : n ≤ 5400000) (w : World) : Calls Tryz.prog 178 #[.int .i64 n] w (RoughPost w) := by
  obtain ⟨x, hx, x0, x1⟩ : ∃ x, n * 3373259426 / 10800000 = x ∧ 0 ≤ x ∧ x ≤ 1686629713 := ⟨_, rfl, by omega, by omega⟩
  obtain ⟨p, hp, p0, p1⟩ : ∃ p, x * x = p ∧ 0 ≤ p ∧ p ≤ 2844719788774462369 := ⟨_, rfl, (prod_bd x0 x1 x0 x1).1, by have := (prod_bd x0 x1 x0 x1).2; omega⟩
  have HP : ∀ r : Int, -4294967296 ≤ r → r ≤ 4294967296 → RoughPost w (.returned (.int .i64 r)) w := fun r a b => ⟨r, a, b, rfl, rfl⟩
  have HP := Lib.hid HP
  go_enter Tryz.func178, Tryz.ntmps178
  go_wp2_with fail
  clear hp
  generalize hy : p / 1073741824 = y
  have y0 : 0 ≤ y := by omega
  have y1 : y ≤ 2649351757 := by omega
  clear hy p0 p1
  go_loop [5, 6] (fun t k => ∃ T K : Int, t = .int .i64 T ∧ k = .int .i64 K ∧ 0 ≤ T ∧ T ≤ 1073741824 ∧ 1 ≤ K ∧ K ≤ 13 ∧ K % 2 = 1) (fun _ k => (kInt k).toNat)
  case atStart => exact ⟨_, _, rfl, rfl, by omega, by omega, by omega, by omega, by omega⟩
  case round =>
    obtain ⟨T, K, rfl, rfl, t0, t1, k0, k1, k2⟩ := hrel
    by_cases hk : 1 < K
    · obtain ⟨q, hq, q0, q1⟩ : ∃ q, y * T = q ∧ 0 ≤ q ∧ q ≤ 2844719787978784768 := ⟨_, rfl, (prod_bd y0 y1 t0 t1).1, by have := (prod_bd y0 y1 t0 t1).2; omega⟩
      obtain ⟨d, hd, d0, d1⟩ : ∃ d, K * (K - 1) = d ∧ 6 ≤ d ∧ d ≤ 156 := ⟨_, rfl, by have := (prod_bd (a := 3) (A := K) (b := 2) (B := K - 1) (by omega) (by omega) (by omega) (by omega)).2; omega, by have := (prod_bd (a := K) (A := 13) (b := K - 1) (B := 12) (by omega) (by omega) (by omega) (by omega)).2; omega⟩
      obtain ⟨u, hu, u0, u1⟩ : ∃ u, (q / 1073741824).tdiv d = u ∧ 0 ≤ u ∧ u ≤ 1073741824 := by
        refine ⟨_, rfl, ?_, ?_⟩
        · rw [Int.tdiv_eq_ediv_of_nonneg (by omega)]; exact Int.ediv_nonneg (by omega) (by omega)
        · rw [Int.tdiv_eq_ediv_of_nonneg (by omega)]
          have a := Int.ediv_mul_le (q / 1073741824) (show d ≠ 0 by omega)
          have b := Int.ediv_nonneg (a := q / 1073741824) (b := d) (by omega) (by omega)
          have c := Int.mul_le_mul_of_nonneg_left d0 b
          generalize q / 1073741824 / d = e at *
          omega
      go_wp2
      go_round
      case rel => exact ⟨1073741824 - u, K - 2, rfl, rfl, by omega, by omega, by omega, by omega, by omega⟩
      case measure => simp [kInt]; omega
    · obtain ⟨z, hz, z0, z1⟩ : ∃ z, x * T = z ∧ 0 ≤ z ∧ z ≤ 1811004954867040256 := ⟨_, rfl, (prod_bd x0 x1 t0 t1).1, by have := (prod_bd x0 x1 t0 t1).2; omega⟩
      go_wp2
      go_ret
      exact HP.out _ (by omega) (by omega)
theorem rough_any (n : Int) (h0 : -5400000 ≤ n) (h1 : n ≤ 5400000) (w : World) : Calls Tryz.prog 178 #[.int .i64 n] w (RoughPost w) := by
  by_cases h : 0 ≤ n
  · exact rough_pos n h h1 w
  · have H := Lib.hid (rough_pos (-n) (by omega) (by omega) w)
    have HP : ∀ r : Int, -4294967296 ≤ r → r ≤ 4294967296 → RoughPost w (.returned (.int .i64 r)) w := fun r a b => ⟨r, a, b, rfl, rfl⟩
    have HP := Lib.hid HP
    go_enter Tryz.func178, Tryz.ntmps178
    go_wp2_with fail
    first
      | rw [show (0 - n) = -n by omega]
      | skip
    refine H.out.mono ?_
    rintro e w1 ⟨r, r0, r1, rfl, rfl⟩
    go_wp2
    go_ret
    exact HP.out _ (by omega) (by omega)
end Go.Proofs.YtfilgpifiboccaaGreat
namespace Go.Proofs.YtfilgpifiboccaaGreat
open Go.RowKit
def GuessPost (w : World) (e : Ending) (w' : World) : Prop := ∃ r : Int, -5400000 ≤ r ∧ r ≤ 5400000 ∧ e = .returned (.int .i64 r) ∧ w = w'
set_option maxHeartbeats 1000000 in
theorem guess_any (v : Int) (w : World) : Calls Tryz.prog 164 #[.int .i64 v] w (GuessPost w) := by
  have HP : ∀ r : Int, -5400000 ≤ r → r ≤ 5400000 → GuessPost w (.returned (.int .i64 r)) w := fun r a b => ⟨r, a, b, rfl, rfl⟩
  have HP := Lib.hid HP
  have HR := Lib.hid rough_any
  go_enter Tryz.func164, Tryz.ntmps164
  go_wp2_with fail
  go_loop [3, 4] (fun l h => ∃ L H : Int, l = .int .i64 L ∧ h = .int .i64 H ∧ -5400000 ≤ L ∧ L ≤ H ∧ H ≤ 5400000) (fun l h => (kInt h - kInt l).toNat)
  case atStart => exact ⟨_, _, rfl, rfl, by omega, by omega, by omega⟩
  case round =>
    obtain ⟨L, H, rfl, rfl, t0, t1, k0⟩ := hrel
    by_cases hk : L < H
    · obtain ⟨m, hm, m0, m1⟩ : ∃ m, L + (H - L + 1) / 2 = m ∧ L < m ∧ m ≤ H := ⟨_, rfl, by omega, by omega⟩
      have HR := Lib.hid (HR.out m (by omega) (by omega) w)
      go_wp2_with fail
      refine HR.out.mono ?_
      rintro e w1 ⟨r, r0, r1, rfl, rfl⟩
      clear HR
      by_cases hc : r ≤ v
      · go_wp2
        go_round
        case rel => exact ⟨m, H, rfl, rfl, by omega, by omega, by omega⟩
        case measure => simp [kInt]; omega
      · go_wp2
        go_round
        case rel => exact ⟨L, m - 1, rfl, rfl, by omega, by omega, by omega⟩
        case measure => simp [kInt]; omega
    · go_wp2
      go_ret
      exact HP.out _ (by omega) (by omega)
end Go.Proofs.YtfilgpifiboccaaGreat
namespace Go.Proofs.YtfilgpifiboccaaGreat
open Go.RowKit SM
theorem step_le {t sq d e : Int} (ht : 0 ≤ t) (hsq : 0 ≤ sq) (hsq2 : sq ≤ 4611686018427387904) (hd : 2 ≤ d) (he : 12 ≤ e) : 0 ≤ high t sq / d ∧ high t sq / d * 2 ≤ t ∧ 0 ≤ high (high t sq / d) sq / e ∧ high (high t sq / d) sq / e * 12 ≤ high t sq / d := by
  have h1 := high_bd t sq ht hsq
  have h2 := high_le ht hsq hsq2
  have u0 : 0 ≤ high t sq / d := Int.ediv_nonneg h1.1 (by omega)
  have h3 := high_bd (high t sq / d) sq u0 hsq
  have h4 := high_le u0 hsq hsq2
  have v0 : 0 ≤ high (high t sq / d) sq / e := Int.ediv_nonneg h3.1 (by omega)
  have a1 : high t sq / d * d ≤ high t sq := Int.ediv_mul_le _ (by omega)
  have a2 : high (high t sq / d) sq / e * e ≤ high (high t sq / d) sq := Int.ediv_mul_le _ (by omega)
  have b1 := Int.mul_le_mul_of_nonneg_left hd u0
  have b2 := Int.mul_le_mul_of_nonneg_left he v0
  refine ⟨u0, by omega, v0, by omega⟩
/-- What the loop of the quick sine keeps. -/
def QRel (sq R S t d : Int) : Prop := 0 ≤ S ∧ 0 ≤ t ∧ S + t ≤ 4611686018427387904 ∧ ∃ f : Nat, f ≤ 20 ∧ t < 16 ^ f ∧ 1 ≤ d ∧ d + 4 * f ≤ 82 ∧ qLoop sq f S t d = R
theorem qrel_end {sq R S t d : Int} (h : QRel sq R S t d) (ht : ¬ 0 < t) : S = R ∧ 0 ≤ R ∧ R ≤ 4611686018427387904 := by
  obtain ⟨h0, h1, h2, f, h3, h4, h5, h6, h7⟩ := h
  have : S = R := by
    cases f with
    | zero => exact h7
    | succ f => rw [qLoop, if_neg ht] at h7; exact h7
  exact ⟨this, by omega, by omega⟩
theorem qrel_step {sq R S t d : Int} (hsq : 0 ≤ sq) (hsq2 : sq ≤ 4611686018427387904) (h : QRel sq R S t d) (ht : 0 < t) :
    1 ≤ d ∧ d ≤ 78 ∧ 0 ≤ S ∧ S + t ≤ 4611686018427387904 ∧ 0 ≤ high t sq ∧ high t sq ≤ t ∧ 2 ≤ d * (d + 1) ∧ d * (d + 1) ≤ 10000 ∧ 12 ≤ (d + 2) * (d + 3) ∧ (d + 2) * (d + 3) ≤ 10000 ∧
    0 ≤ high t sq / (d * (d + 1)) ∧ high t sq / (d * (d + 1)) * 2 ≤ t ∧ 0 ≤ high (high t sq / (d * (d + 1))) sq ∧ high (high t sq / (d * (d + 1))) sq ≤ high t sq / (d * (d + 1)) ∧
    0 ≤ high (high t sq / (d * (d + 1))) sq / ((d + 2) * (d + 3)) ∧ high (high t sq / (d * (d + 1))) sq / ((d + 2) * (d + 3)) * 12 ≤ high t sq / (d * (d + 1)) ∧
    QRel sq R (S + t - high t sq / (d * (d + 1))) (high (high t sq / (d * (d + 1))) sq / ((d + 2) * (d + 3))) (d + 4) := by
  obtain ⟨h0, h1, h2, f, h3, h4, h5, h6, h7⟩ := h
  cases f with
  | zero => exfalso; simp at h4; omega
  | succ f =>
    rw [qLoop, if_pos ht] at h7
    have p1 : 2 ≤ d * (d + 1) := by have := (prod_bd (a := 1) (A := d) (b := 2) (B := d + 1) (by omega) h5 (by omega) (by omega)).2; omega
    have p2 : 12 ≤ (d + 2) * (d + 3) := by have := (prod_bd (a := 3) (A := d + 2) (b := 4) (B := d + 3) (by omega) (by omega) (by omega) (by omega)).2; omega
    have p3 : d * (d + 1) ≤ 100 * 100 := Int.mul_le_mul (by omega) (by omega) (by omega) (by omega)
    have p4 : (d + 2) * (d + 3) ≤ 100 * 100 := Int.mul_le_mul (by omega) (by omega) (by omega) (by omega)
    obtain ⟨u0, u1, v0, v1⟩ := step_le (t := t) h1 hsq hsq2 p1 p2
    have g1 := (high_bd t sq h1 hsq).1
    have g2 := high_le h1 hsq hsq2
    have g3 := (high_bd _ sq u0 hsq).1
    have g4 := high_le u0 hsq hsq2
    refine ⟨h5, by omega, h0, h2, g1, g2, p1, p3, p2, p4, u0, u1, g3, g4, v0, v1, ?_⟩
    generalize high (high t sq / (d * (d + 1))) sq / ((d + 2) * (d + 3)) = v at *
    generalize high t sq / (d * (d + 1)) = u at *
    refine ⟨by omega, v0, by omega, f, by omega, ?_, by omega, by omega, h7⟩
    have e : (16 : Int) ^ (f + 1) = 16 ^ f * 16 := Int.pow_succ 16 f
    rw [e] at h4
    generalize (16 : Int) ^ f = p at *
    omega
set_option maxRecDepth 100000 in
set_option maxHeartbeats 1000000 in
theorem quick_any (r : Int) (c : Bool) (h0 : 0 ≤ r) (h1 : r ≤ 2700000) (w : World) : Calls Tryz.prog 205 #[.int .i64 r, .bool c] w (IntPost (quickN r c) w) := by
  have HH := Lib.hid high_any
  obtain ⟨x, hX⟩ : ∃ x, r * 2620088056 * 512 + r * 658911831 / 4194304 = x := ⟨_, rfl⟩
  have hx0 : 0 ≤ x := by omega
  have hx1 : x < 4611686018427387904 := by omega
  have hs0 := (high_bd x x hx0 hx0).1
  have hs1 := high_le hx0 hx0 (by omega)
  have HX := Lib.hid (high_any x x hx0 (by omega) hx0 (by omega) w)
  obtain ⟨sq, hsq⟩ : ∃ sq, high x x = sq := ⟨_, rfl⟩
  have hQ : ∀ c, quickN r c = if c then qLoop sq 20 0 4611686018427387904 1 else qLoop sq 20 0 x 2 := fun c => by
    unfold quickN quickX; rw [hX, hsq]
  rw [hsq] at hs0 hs1 HX
  have hs2 : sq ≤ 4611686018427387904 := by omega
  have HQ := Lib.hid hQ
  clear hsq hs1 hQ
  obtain ⟨R, hR⟩ : ∃ R, quickN r c = R := ⟨_, rfl⟩
  have start : QRel sq R 0 (if c then 4611686018427387904 else x) (if c then 1 else 2) := by
    refine ⟨by omega, by split <;> omega, by split <;> omega, 20, by omega, ?_, by split <;> omega, by split <;> omega, ?_⟩
    · have : (16 : Int) ^ 20 = 1208925819614629174706176 := by decide
      rw [this]; split <;> omega
    · rw [← hR, HQ.out]; cases c <;> rfl
  rw [hR]
  clear hR HQ
  have HP : ∀ z, z = R → IntPost R w (.returned (.int .i64 z)) w := fun z h => ⟨by rw [h], rfl⟩
  have HP := Lib.hid HP
  have start := Lib.hid start
  cases c
  all_goals (
    go_enter Tryz.func205, Tryz.ntmps205
    go_wp2_with fail
    refine HX.out.mono ?_
    rintro e w1 ⟨rfl, rfl⟩
    go_wp2_with fail
    go_loop [7, 8, 9] (fun t d s => ∃ T D S : Int, t = .int .i64 T ∧ d = .int .i64 D ∧ s = .int .i64 S ∧ RowKit.Hid (QRel sq R S T D)) (fun t _ _ => (kInt t).toNat)
    case atStart => exact ⟨_, _, _, rfl, rfl, rfl, start⟩
    case round =>
      obtain ⟨T, D, S, rfl, rfl, rfl, HL⟩ := hrel
      by_cases hk : 0 < T
      · obtain ⟨a1, a2, a3, a4, a5, a6, a7, a8, a9, a10, a11, a12, a13, a14, a15, a16, HN⟩ := qrel_step hs0 hs2 HL.out hk
        have H1 := Lib.hid (HH.out T sq (by omega) (by omega) hs0 hs2 w)
        have H2 := Lib.hid (HH.out (high T sq / (D * (D + 1))) sq (by omega) (by omega) hs0 hs2 w)
        clear HX HP
        generalize hG : high T sq = G at *
        generalize hD1 : D * (D + 1) = D1 at *
        generalize hD2 : (D + 2) * (D + 3) = D2 at *
        have hU : G.tdiv D1 = G / D1 := Int.tdiv_eq_ediv_of_nonneg (by omega)
        generalize G / D1 = U at *
        generalize high U sq = G2 at *
        have hV : G2.tdiv D2 = G2 / D2 := Int.tdiv_eq_ediv_of_nonneg (by omega)
        generalize G2 / D2 = V at *
        have HN := Lib.hid HN
        clear hG
        go_wp2_with fail
        refine H1.out.mono ?_
        rintro e w1 ⟨rfl, rfl⟩
        go_wp2_with fail
        refine H2.out.mono ?_
        rintro e w1 ⟨rfl, rfl⟩
        go_wp2
        go_round
        case rel => exact ⟨V, D + 4, S + T - U, rfl, rfl, rfl, HN⟩
        case measure => simp [kInt]; omega
      · obtain ⟨e1, e2, e3⟩ := qrel_end HL.out hk
        subst e1
        go_wp2
        go_ret
        exact HP.out _ rfl)
end Go.Proofs.YtfilgpifiboccaaGreat
namespace Go.Proofs.YtfilgpifiboccaaGreat
open Go.RowKit SM
/-- The reference's quick sine of any angle. -/
def quickM (m : Int) : Int :=
  if m < 5400000 then (if 2700000 < m then quickN (5400000 - m) true else quickN m false)
  else if m < 10800000 then (if 2700000 < m - 5400000 then quickN (10800000 - m) false else quickN (m - 5400000) true)
  else if m < 16200000 then (if 2700000 < m - 10800000 then - quickN (16200000 - m) true else - quickN (m - 10800000) false)
  else (if 2700000 < m - 16200000 then - quickN (21600000 - m) false else - quickN (m - 16200000) true)
def quickV (n : Int) : Int := quickM (n % 21600000)
theorem qLoop_bd {sq : Int} (hsq : 0 ≤ sq) (hsq2 : sq ≤ 4611686018427387904) {S t d : Int} (h0 : 0 ≤ S) (h1 : 0 ≤ t) (h2 : S + t ≤ 4611686018427387904) (hd : 1 ≤ d) : ∀ f, 0 ≤ qLoop sq f S t d ∧ qLoop sq f S t d ≤ 4611686018427387904 := by
  intro f
  induction f generalizing S t d with
  | zero => exact ⟨h0, by unfold qLoop; omega⟩
  | succ f ih =>
    rw [qLoop]
    split
    · have p1 : 2 ≤ d * (d + 1) := by have := (prod_bd (a := 1) (A := d) (b := 2) (B := d + 1) (by omega) hd (by omega) (by omega)).2; omega
      have p2 : 12 ≤ (d + 2) * (d + 3) := by have := (prod_bd (a := 3) (A := d + 2) (b := 4) (B := d + 3) (by omega) (by omega) (by omega) (by omega)).2; omega
      obtain ⟨u0, u1, v0, v1⟩ := step_le (t := t) h1 hsq hsq2 p1 p2
      exact ih (by omega) v0 (by omega) (by omega)
    · exact ⟨h0, by omega⟩
theorem quickN_bd (r : Int) (c : Bool) (h0 : 0 ≤ r) (h1 : r ≤ 2700000) : 0 ≤ quickN r c ∧ quickN r c ≤ 4611686018427387904 := by
  unfold quickN
  have hx : 0 ≤ quickX r ∧ quickX r ≤ 4611686018427387904 := by unfold quickX; omega
  have hs0 := (high_bd _ _ hx.1 hx.1).1
  have hs1 := high_le hx.1 hx.1 hx.2
  split
  · exact qLoop_bd hs0 (by omega) (by omega) (by omega) (by omega) (by omega) 20
  · exact qLoop_bd hs0 (by omega) (by omega) hx.1 (by omega) (by omega) 20
theorem qN_eq {a b : Int} {c d : Bool} (h : a = b) (h2 : c = d) : quickN a c = quickN b d := by rw [h, h2]
def QkPost (r : Int) (c : Bool) (w : World) (e : Ending) (w' : World) : Prop := ∃ v, quickN r c = v ∧ 0 ≤ v ∧ v ≤ 4611686018427387904 ∧ e = .returned (.int .i64 v) ∧ w = w'
theorem quick_call (r : Int) (c : Bool) (h0 : 0 ≤ r) (h1 : r ≤ 2700000) (w : World) : Calls Tryz.prog 205 #[.int .i64 r, .bool c] w (QkPost r c w) :=
  (quick_any r c h0 h1 w).mono fun _ _ h => ⟨_, rfl, (quickN_bd r c h0 h1).1, (quickN_bd r c h0 h1).2, h.1, h.2⟩
set_option maxHeartbeats 4000000 in
theorem quickM_call (n m : Int) (hm : n.tmod 21600000 = m ∨ n.tmod 21600000 + 21600000 = m ∧ n.tmod 21600000 < 0) (m0 : 0 ≤ m) (m1 : m < 21600000) (w : World) : Calls Tryz.prog 189 #[.int .i64 n] w (IntPost (quickM m) w) := by
  have HP : ∀ z, z = quickM m → IntPost (quickM m) w (.returned (.int .i64 z)) w := fun z h => ⟨by rw [h], rfl⟩
  have HQ := Lib.hid quick_call
  obtain ⟨z, hz⟩ : ∃ z, quickM m = z := ⟨_, rfl⟩
  rw [hz] at HP ⊢
  rw [quickM] at hz
  have HP := Lib.hid HP
  have HE := Lib.hid hz
  rcases (show m ≤ 2700000 ∨ (2700000 < m ∧ m < 5400000) ∨ (5400000 ≤ m ∧ m ≤ 8100000) ∨ (8100000 < m ∧ m < 10800000) ∨ (10800000 ≤ m ∧ m ≤ 13500000) ∨ (13500000 < m ∧ m < 16200000) ∨ (16200000 ≤ m ∧ m ≤ 18900000) ∨ 18900000 < m by omega) with h | h | h | h | h | h | h | h
  all_goals (
    rcases hm with hs | ⟨hs, hs2⟩
    · go_enter Tryz.func189, Tryz.ntmps189
      go_wp2_with fail
      refine (HQ.out _ _ (by omega) (by omega) _).mono ?_
      rintro e w1 ⟨v, hv, v0, v1, rfl, rfl⟩
      have hv := Lib.hid hv
      go_wp2
      go_ret
      refine HP.out _ ?_
      have hz := HE.out
      have hv := hv.out
      clear HE HP HQ
      subst hv
      (repeat' split at hz) <;> first
        | omega
        | (rw [← hz]; first
            | exact qN_eq (by omega) (by simp only [beq_iff_eq, beq_eq_false_iff_ne, ne_eq, Bool.not_eq_true', Bool.not_eq_false']; omega)
            | exact congrArg (fun x => - x) (qN_eq (by omega) (by simp only [beq_iff_eq, beq_eq_false_iff_ne, ne_eq, Bool.not_eq_true', Bool.not_eq_false']; omega)))
    · go_enter Tryz.func189, Tryz.ntmps189
      go_wp2_with fail
      refine (HQ.out _ _ (by omega) (by omega) _).mono ?_
      rintro e w1 ⟨v, hv, v0, v1, rfl, rfl⟩
      have hv := Lib.hid hv
      go_wp2
      go_ret
      refine HP.out _ ?_
      have hz := HE.out
      have hv := hv.out
      clear HE HP HQ
      subst hv
      (repeat' split at hz) <;> first
        | omega
        | (rw [← hz]; first
            | exact qN_eq (by omega) (by simp only [beq_iff_eq, beq_eq_false_iff_ne, ne_eq, Bool.not_eq_true', Bool.not_eq_false']; omega)
            | exact congrArg (fun x => - x) (qN_eq (by omega) (by simp only [beq_iff_eq, beq_eq_false_iff_ne, ne_eq, Bool.not_eq_true', Bool.not_eq_false']; omega)))
)
theorem turned_hm (n : Int) : n.tmod 21600000 = n % 21600000 ∨ n.tmod 21600000 + 21600000 = n % 21600000 ∧ n.tmod 21600000 < 0 := by
  obtain ⟨k1, k2, k3, k4⟩ := tmod_turn n
  by_cases h : 0 ≤ n.tmod 21600000
  · exact .inl (k1 h)
  · exact .inr ⟨k2 (by omega), by omega⟩
theorem quickV_any (n : Int) (w : World) : Calls Tryz.prog 189 #[.int .i64 n] w (IntPost (quickV n) w) :=
  quickM_call n (n % 21600000) (turned_hm n) (Int.emod_nonneg n (by decide)) (Int.emod_lt_of_pos n (by decide)) w
end Go.Proofs.YtfilgpifiboccaaGreat

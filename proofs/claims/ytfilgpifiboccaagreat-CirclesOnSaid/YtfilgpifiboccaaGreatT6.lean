import Derived.Test.YtfilgpifiboccaaGreatChecked
import Derived.Test.YtfilgpifiboccaaGreatMa
import Derived.WalkKit
import Derived.Lib.Hide
import Derived.Below
import Derived.IntWalk
import Derived.Outline
import Derived.Shelf.Spec.BitsCarry
import Derived.Deep.RegionWith
import Derived.RegionTactic
import Derived.Shelf.Bits.Mul64
import Derived.LoopN
import Derived.WalkSpells
import Derived.StillTactics
import Derived.Shelf.Small.Bits
import Derived.Lib.ItoaNum
namespace Go.Proofs.YtfilgpifiboccaaGreat
open Go.RowKit

def IntPost (x : Int) (w : World) (e : Ending) (w' : World) : Prop := e = .returned (.int .i64 x) ∧ w = w'
theorem tmod_turn (n : Int) : (0 ≤ n.tmod 21600000 → n.tmod 21600000 = n % 21600000) ∧ (n.tmod 21600000 < 0 → n.tmod 21600000 + 21600000 = n % 21600000) ∧ -21600000 < n.tmod 21600000 ∧ n.tmod 21600000 < 21600000 := by
  have h1 := Int.tmod_lt_of_pos n (show (0 : Int) < 21600000 by omega)
  have h2 := Int.lt_tmod_of_pos n (show (0 : Int) < 21600000 by omega)
  have h3 := Int.mul_tdiv_add_tmod n 21600000
  refine ⟨fun h => ?_, fun h => ?_, h2, h1⟩
  · omega
  · omega

set_option maxHeartbeats 400000 in
theorem turned_any (n : Int) (w : World) : Calls Tryz.prog 168 #[.int .i64 n] w (IntPost (n % 21600000) w) := by
  obtain ⟨k1, k2, k3, k4⟩ := tmod_turn n
  generalize hm : n.tmod 21600000 = m at *
  by_cases hneg : m < 0
  · have HF := Lib.hid (show IntPost (n % 21600000) w (.returned (.int .i64 (m + 21600000))) w from ⟨by rw [k2 hneg], rfl⟩)
    clear k1 k2
    go_enter Tryz.func168, Tryz.ntmps168
    go_wp2
    go_ret
    exact HF.out
  · have HF := Lib.hid (show IntPost (n % 21600000) w (.returned (.int .i64 m)) w from ⟨by rw [k1 (by omega)], rfl⟩)
    clear k1 k2
    go_enter Tryz.func168, Tryz.ntmps168
    go_wp2
    go_ret
    exact HF.out
end Go.Proofs.YtfilgpifiboccaaGreat
namespace Go.Proofs.YtfilgpifiboccaaGreat
open Go.RowKit

def subV (x y b : Int) : Int := (x + 18446744073709551616 - y - b) % 18446744073709551616
def subB (x y b : Int) : Int := if x < y + b then 1 else 0
theorem sub64_run (x y b : Int) (hx : 0 ≤ x) (hy : 0 ≤ y ∧ y ≤ 18446744073709551616) (hb : 0 ≤ b ∧ b ≤ 1) (hyb : y + b ≤ x + 18446744073709551616) (w : World) :
    (callFunc 203 #[.int .u64 x, .int .u64 y, .int .u64 b]).run Tryz.prog w = .ok (.value (.tuple #[.int .u64 (subV x y b), .int .u64 (subB x y b)])) w := by
  obtain ⟨X, rfl⟩ := Int.eq_ofNat_of_zero_le hx
  obtain ⟨Y, rfl⟩ := Int.eq_ofNat_of_zero_le hy.1
  obtain ⟨B, rfl⟩ := Int.eq_ofNat_of_zero_le hb.1
  rw [run_callFunc_extern Tryz.func203 (by kernel_rfl) (by kernel_rfl) (by kernel_rfl) (e := sub64Entry) (by kernel_rfl), run_sub64 X Y B (by omega)]
  simp only [Result.andThen, subV, subB]
  have e1 : (((X + 18446744073709551616 - Y - B) % 18446744073709551616 : Nat) : Int) = ((X : Int) + 18446744073709551616 - (Y : Int) - (B : Int)) % 18446744073709551616 := by omega
  have e2 : ((if X < Y + B then 1 else 0 : Nat) : Int) = if (X : Int) < (Y : Int) + (B : Int) then 1 else 0 := by
    by_cases h : X < Y + B
    · rw [if_pos h, if_pos (by omega)]; rfl
    · rw [if_neg h, if_neg (by omega)]; rfl
  rw [e1, e2]
theorem add64_run (x y c : Int) (hx : 0 ≤ x) (hy : 0 ≤ y) (hc : 0 ≤ c ∧ c ≤ 1) (w : World) :
    (callFunc 175 #[.int .u64 x, .int .u64 y, .int .u64 c]).run Tryz.prog w = .ok (.value (.tuple #[.int .u64 ((x + y + c) % 18446744073709551616), .int .u64 ((x + y + c) / 18446744073709551616)])) w := by
  rw [run_callFunc_extern Tryz.func175 (by kernel_rfl) (by kernel_rfl) (by kernel_rfl) (e := add64Entry) (by kernel_rfl), run_add64 x y c hx hy hc.1 hc.2]
  rfl
end Go.Proofs.YtfilgpifiboccaaGreat
namespace Go.Proofs
open Go.Shelf
def Tryz.lays264_ren : Ren where
  f := fun x => match x with
    | 264 => 174
    | n => n
  t := fun x => match x with
    | 53 => 159
    | 46 => 136
    | n => n
  g := fun n => n
theorem Tryz.lays264 : Lays.n264 Tryz.prog Tryz.lays264_ren where
  mixed := Eq.refl true
  f264 := Eq.trans Tryz.func174 (congrArg some (Eq.refl (Body.n264 Tryz.lays264_ren)))
  t46 := Tryz.underlying136
  a46 := Tryz.isAgg136
  z46 := Tryz.sizeOf136
  v46 := Tryz.zeroValue136
  t53 := Tryz.underlying159
  a53 := Tryz.isAgg159
  z53 := Tryz.sizeOf159
  v53 := Tryz.zeroValue159
end Go.Proofs
namespace Go.Proofs.YtfilgpifiboccaaGreat
open Go.RowKit
def MulPost (x y : Int) (w : World) (e : Ending) (w' : World) : Prop := e = .returned (.tuple #[.int .u64 (x * y / 18446744073709551616), .int .u64 (x * y % 18446744073709551616)]) ∧ w = w'
theorem mul64_any (x y : Int) (hx : 0 ≤ x ∧ x < 18446744073709551616) (hy : 0 ≤ y ∧ y < 18446744073709551616) (w : World) :
    Calls Tryz.prog 174 #[.int .u64 x, .int .u64 y] w (MulPost x y w) := by
  obtain ⟨X, rfl⟩ := Int.eq_ofNat_of_zero_le hx.1
  obtain ⟨Y, rfl⟩ := Int.eq_ofNat_of_zero_le hy.1
  have h := Any.bits_Mul64 Tryz.lays264 X Y (by omega) (by omega) w
  refine Calls.mono h ?_
  rintro e w' ⟨he, hw⟩
  refine ⟨?_, hw.symm⟩
  rw [he]
  simp
end Go.Proofs.YtfilgpifiboccaaGreat
namespace Go.Proofs.YtfilgpifiboccaaGreat
open Go.RowKit
/-- A number's value. -/
def numD (a0 a1 a2 a3 : Int) : Value := .agg #[.int .u64 a0, .int .u64 a1, .int .u64 a2, .int .u64 a3]
def Word (x : Int) : Prop := 0 ≤ x ∧ x < 18446744073709551616
theorem sub64_ex (x y b : Int) (hx : Word x) (hy : Word y) (hb : 0 ≤ b ∧ b ≤ 1) : ∃ s c : Int, Word s ∧ (0 ≤ c ∧ c ≤ 1) ∧ s = x - y - b + 18446744073709551616 * c ∧ ∀ w, (callFunc 203 #[.int .u64 x, .int .u64 y, .int .u64 b]).run Tryz.prog w = .ok (.value (.tuple #[.int .u64 s, .int .u64 c])) w := by
  obtain ⟨x1, x2⟩ := hx
  obtain ⟨y1, y2⟩ := hy
  refine ⟨subV x y b, subB x y b, ?_, ?_, ?_, fun w => sub64_run x y b x1 ⟨y1, by omega⟩ hb (by omega) w⟩
  · unfold subV Word; omega
  · unfold subB; split <;> omega
  · unfold subV subB; split <;> omega
def NumPost (w : World) (v : Value) (e : Ending) (w' : World) : Prop := e = .returned v ∧ Below w.heap.size w w'
set_option maxHeartbeats 400000 in
theorem sub_ex (a0 a1 a2 a3 b0 b1 b2 b3 : Int) (ha0 : Word a0) (ha1 : Word a1) (ha2 : Word a2) (ha3 : Word a3) (hb0 : Word b0) (hb1 : Word b1) (hb2 : Word b2) (hb3 : Word b3) :
    ∃ s0 s1 s2 s3 c : Int, (Word s0 ∧ Word s1 ∧ Word s2 ∧ Word s3) ∧ (0 ≤ c ∧ c ≤ 1) ∧
      s0 * 6277101735386680763835789423207666416102355444464034512896 + s1 * 340282366920938463463374607431768211456 + s2 * 18446744073709551616 + s3 = a0 * 6277101735386680763835789423207666416102355444464034512896 + a1 * 340282366920938463463374607431768211456 + a2 * 18446744073709551616 + a3 - (b0 * 6277101735386680763835789423207666416102355444464034512896 + b1 * 340282366920938463463374607431768211456 + b2 * 18446744073709551616 + b3) + 115792089237316195423570985008687907853269984665640564039457584007913129639936 * c ∧
      ∀ w, Calls Tryz.prog 182 #[numD a0 a1 a2 a3, numD b0 b1 b2 b3] w (NumPost w (numD s0 s1 s2 s3)) := by
  obtain ⟨s3, c3, g3, d3, e3, E3⟩ := sub64_ex a3 b3 0 ha3 hb3 (by omega)
  obtain ⟨s2, c2, g2, d2, e2, E2⟩ := sub64_ex a2 b2 c3 ha2 hb2 d3
  obtain ⟨s1, c1, g1, d1, e1, E1⟩ := sub64_ex a1 b1 c2 ha1 hb1 d2
  obtain ⟨s0, c0, g0, d0, e0, E0⟩ := sub64_ex a0 b0 c1 ha0 hb0 d1
  refine ⟨s0, s1, s2, s3, c0, ⟨g0, g1, g2, g3⟩, d0, by omega, fun w => ?_⟩
  clear g0 g1 g2 g3 d0 d1 d2 d3 e0 e1 e2 e3 ha0 ha1 ha2 ha3 hb0 hb1 hb2 hb3
  have HP := Lib.hid (show ∀ c1 c2 : Array Value, NumPost w (numD s0 s1 s2 s3) (.returned (numD s0 s1 s2 s3)) (((w.alloc (.cells c1 176)).alloc (.cells c2 176)).alloc (.cells #[.int .u64 s0, .int .u64 s1, .int .u64 s2, .int .u64 s3] 176)).drew.drew.drew.drew from fun c1 c2 => ⟨rfl, ((((((Below.refl _ _).alloc (Nat.le_refl _) _).alloc (by simp) _).alloc (by simp; omega) _).drew).drew).drew.drew⟩)
  unfold numD at HP ⊢
  go_enter Tryz.func182, Tryz.ntmps182
  go_wp2
  refine wp_loop_rounds 5 ?_
  rw [rounds_succ]
  go_wp2
  go_region
  go_wp2
  rw [rounds_succ]
  go_wp2
  go_region
  go_wp2
  rw [rounds_succ]
  go_wp2
  go_region
  go_wp2
  rw [rounds_succ]
  go_wp2
  go_region
  go_wp2
  rw [rounds_succ]
  go_wp2
  simp [bodyPost, results, Tryz.results182, go_sem]
  exact HP.out _ _
end Go.Proofs.YtfilgpifiboccaaGreat
namespace Go.Proofs
open Go.Shelf
def Tryz.lays134_ren : Ren where
  f := fun x => match x with
    | 134 => 204
    | 129 => 212
    | n => n
  t := fun x => match x with
    | 53 => 159
    | 3 => 3
    | 4 => 4
    | 46 => 136
    | 5 => 5
    | 9 => 9
    | n => n
  g := fun n => n
theorem Tryz.lays134 : Lays.n134 Tryz.prog Tryz.lays134_ren where
  mixed := Eq.refl true
  f129 := Eq.trans Tryz.func212 (congrArg some (Eq.refl (Body.n129 Tryz.lays134_ren)))
  f134 := Eq.trans Tryz.func204 (congrArg some (Eq.refl (Body.n134 Tryz.lays134_ren)))
  t3 := Tryz.underlying3
  a3 := Tryz.isAgg3
  z3 := Tryz.sizeOf3
  v3 := Tryz.zeroValue3
  t4 := Tryz.underlying4
  a4 := Tryz.isAgg4
  z4 := Tryz.sizeOf4
  v4 := Tryz.zeroValue4
  t5 := Tryz.underlying5
  a5 := Tryz.isAgg5
  z5 := Tryz.sizeOf5
  v5 := Tryz.zeroValue5
  t9 := Tryz.underlying9
  a9 := Tryz.isAgg9
  z9 := Tryz.sizeOf9
  v9 := Tryz.zeroValue9
  t46 := Tryz.underlying136
  a46 := Tryz.isAgg136
  z46 := Tryz.sizeOf136
  v46 := Tryz.zeroValue136
  t53 := Tryz.underlying159
  a53 := Tryz.isAgg159
  z53 := Tryz.sizeOf159
  v53 := Tryz.zeroValue159
end Go.Proofs
namespace Go.Proofs.YtfilgpifiboccaaGreat
open Go.RowKit
/-- Long division of two words by a small number: the numbers on its way. -/
theorem div_plain (hi lo y : Int) (hy : 0 < y) (hh : 0 < hi) (hhy : hi < y) (hl : 0 ≤ lo) (hl2 : lo < 18446744073709551616)
    (T K : Int) (hT : 0 < T) (hTK : T * K = 4294967296) (hyK : y < K) (hKy : K ≤ 2 * y) :
    ∃ Y v A B U W u1 q1 r1 N2 q0 r0 R : Int,
      Y = y * (T * 4294967296) ∧ 0 ≤ Y ∧ Y < 18446744073709551616 ∧ Y = v * 4294967296 ∧ 0 < v ∧ v < 4294967296 ∧
      A = hi * (T * 4294967296) ∧ 0 ≤ A ∧ A < 18446744073709551616 ∧ B = lo / K ∧ 0 ≤ B ∧ B < T * 4294967296 ∧ U = A + B ∧ 0 ≤ U ∧ U < 18446744073709551616 ∧
      W = (lo * (T * 4294967296)) % 18446744073709551616 ∧ W = u1 * 4294967296 ∧ 0 ≤ u1 ∧ u1 < 4294967296 ∧
      q1 = U / v ∧ 0 ≤ q1 ∧ q1 < 4294967296 ∧ r1 = U - q1 * v ∧ 0 ≤ r1 ∧ r1 < v ∧ N2 = r1 * 4294967296 + u1 ∧ N2 < 18446744073709551616 ∧ U * 4294967296 + u1 = q1 * Y + N2 ∧
      q0 = N2 / v ∧ 0 ≤ q0 ∧ q0 < 4294967296 ∧ r0 = N2 - q0 * v ∧ 0 ≤ r0 ∧ r0 < v ∧ N2 * 4294967296 = q0 * Y + r0 * 4294967296 ∧
      r0 = R * T ∧ 0 ≤ R ∧ R < y ∧ hi * 18446744073709551616 + lo = (q1 * 4294967296 + q0) * y + R := by
  have hK : 0 < K := by omega
  have hyT : y * T < 4294967296 := by
    have := Int.mul_lt_mul_of_pos_left hyK hT
    rw [hTK, Int.mul_comm] at this; exact this
  have hyT0 : 0 < y * T := Int.mul_pos hy hT
  have hhT : (hi + 1) * T ≤ y * T := Int.mul_le_mul_of_nonneg_right (by omega) (by omega)
  have hhT0 : 0 < hi * T := Int.mul_pos hh hT
  have hB0 : 0 ≤ lo / K := Int.ediv_nonneg hl (by omega)
  have hB : lo / K < T * 4294967296 := Int.ediv_lt_of_lt_mul hK (by
    have : T * 4294967296 * K = 18446744073709551616 := by rw [Int.mul_right_comm, hTK]; rfl
    omega)
  have hm := Int.mul_ediv_add_emod lo K
  have hm0 := Int.emod_nonneg lo (show K ≠ 0 by omega)
  have hm1 := Int.emod_lt_of_pos lo hK
  generalize hb : lo / K = b at *
  generalize hmm : lo % K = m at *
  have hu : m * T < 4294967296 := by
    have := Int.mul_lt_mul_of_pos_left hm1 hT
    rw [hTK, Int.mul_comm] at this; exact this
  have hu0 : 0 ≤ m * T := Int.mul_nonneg hm0 (by omega)
  have hloT : lo * T = b * 4294967296 + m * T := by
    rw [← hm, ← hTK]; grind
  have hhT' : hi * T + T ≤ y * T := by rw [Int.add_mul] at hhT; omega
  -- the first digit
  have hU : hi * (T * 4294967296) + b = hi * T * 4294967296 + b := by rw [Int.mul_assoc]
  have hU2 : hi * T * 4294967296 + b < y * T * 4294967296 := by
    omega
  have hq := Int.mul_ediv_add_emod (hi * T * 4294967296 + b) (y * T)
  have hr0 := Int.emod_nonneg (hi * T * 4294967296 + b) (show y * T ≠ 0 by omega)
  have hr1 := Int.emod_lt_of_pos (hi * T * 4294967296 + b) hyT0
  have hq0 : 0 ≤ (hi * T * 4294967296 + b) / (y * T) := Int.ediv_nonneg (by omega) (by omega)
  have hq1 : (hi * T * 4294967296 + b) / (y * T) < 4294967296 := Int.ediv_lt_of_lt_mul hyT0 (by omega)
  generalize hqq : (hi * T * 4294967296 + b) / (y * T) = q1 at *
  generalize hrr : (hi * T * 4294967296 + b) % (y * T) = r1 at *
  have hN : r1 * 4294967296 + m * T < y * T * 4294967296 := by omega
  have hs := Int.mul_ediv_add_emod (r1 * 4294967296 + m * T) (y * T)
  have hs0 := Int.emod_nonneg (r1 * 4294967296 + m * T) (show y * T ≠ 0 by omega)
  have hs1 := Int.emod_lt_of_pos (r1 * 4294967296 + m * T) hyT0
  have ht0 : 0 ≤ (r1 * 4294967296 + m * T) / (y * T) := Int.ediv_nonneg (by omega) (by omega)
  have ht1 : (r1 * 4294967296 + m * T) / (y * T) < 4294967296 := Int.ediv_lt_of_lt_mul hyT0 (by omega)
  generalize htt : (r1 * 4294967296 + m * T) / (y * T) = q0 at *
  generalize hss : (r1 * 4294967296 + m * T) % (y * T) = r0 at *
  have hR : r0 = (hi * 18446744073709551616 + lo - (q1 * 4294967296 + q0) * y) * T := by grind
  have hR0 : 0 ≤ hi * 18446744073709551616 + lo - (q1 * 4294967296 + q0) * y := by
    rcases Int.lt_or_le (hi * 18446744073709551616 + lo - (q1 * 4294967296 + q0) * y) 0 with h | h
    · have := Int.mul_neg_of_neg_of_pos h hT; omega
    · exact h
  have hR1 : hi * 18446744073709551616 + lo - (q1 * 4294967296 + q0) * y < y := by
    have : (hi * 18446744073709551616 + lo - (q1 * 4294967296 + q0) * y) * T < y * T := by rw [← hR]; exact hs1
    exact Int.lt_of_mul_lt_mul_right this (by omega)
  refine ⟨y * (T * 4294967296), y * T, hi * (T * 4294967296), b, hi * T * 4294967296 + b, m * T * 4294967296, m * T, q1, r1, r1 * 4294967296 + m * T, q0, r0, hi * 18446744073709551616 + lo - (q1 * 4294967296 + q0) * y, rfl, ?_, ?_, ?_, hyT0, hyT, rfl, ?_, ?_, rfl, hB0, hB, ?_, by omega, by omega, ?_, rfl, hu0, hu, hqq.symm, hq0, hq1, ?_, hr0, hr1, rfl, by omega, ?_, htt.symm, ht0, ht1, ?_, hs0, hs1, ?_, hR, hR0, hR1, by omega⟩
  · rw [← Int.mul_assoc]; omega
  · rw [← Int.mul_assoc]; omega
  · rw [← Int.mul_assoc]
  · rw [← Int.mul_assoc]; omega
  · rw [← Int.mul_assoc]; omega
  · rw [← Int.mul_assoc]
  · rw [← Int.mul_assoc, hloT]; omega
  · grind
  · grind
  · grind
  · grind
def IntPost' (x : Int) (w : World) (e : Ending) (w' : World) : Prop := e = .returned (.int .i64 x) ∧ w = w'
theorem zeros_any (x : Int) (h0 : 0 ≤ x) (h1 : x ≤ 18446744073709551615) (w : World) : Calls Tryz.prog 204 #[.int .u64 x] w (IntPost' (64 - (Lib.bitLen x.toNat : Int)) w) :=
  Calls.mono (Any.bits_LeadingZeros64 Tryz.lays134 x w h0 h1) fun _ _ h => ⟨h.1, h.2.symm⟩
def DivPost (q r : Int) (w : World) (e : Ending) (w' : World) : Prop := e = .returned (.tuple #[.int .u64 q, .int .u64 r]) ∧ (w' = w ∨ w' = w.drew)
set_option maxHeartbeats 400000 in
theorem div64_walk (hi lo y S Y v A B U W u1 q1 r1 N2 q0 r0 Q R : Int) (hS : S = 64 - (Lib.bitLen y.toNat : Int)) (hS1 : 32 ≤ S) (hS2 : S ≤ 63) (hy : 0 < y) (hy2 : y < 4294967296) (hh : 0 < hi) (hhy : hi < y)
    (hv : 0 < v) (hq1 : q1 < 4294967296) (hq0 : q0 < 4294967296)
    (e1 : IntKind.u64.wrap (y * 2 ^ S.toNat) = Y) (e2 : Y / 4294967296 = v) (e3 : bits .and .u64 Y 4294967295 = 0)
    (e4 : IntKind.u64.wrap (hi * 2 ^ S.toNat) = A) (e5 : lo / 2 ^ (64 - S).toNat = B) (e6 : bits .or .u64 A B = U)
    (e7 : IntKind.u64.wrap (lo * 2 ^ S.toNat) = W) (e8 : W / 4294967296 = u1) (e9 : bits .and .u64 W 4294967295 = 0)
    (e10 : IntKind.u64.wrap (U.tdiv v) = q1) (e11 : IntKind.u64.wrap (U - IntKind.u64.wrap (q1 * v)) = r1)
    (g1 : 0 ≤ IntKind.u64.wrap (IntKind.u64.wrap (4294967296 * r1) + u1))
    (e12 : IntKind.u64.wrap (IntKind.u64.wrap (IntKind.u64.wrap (U * 4294967296) + u1) - IntKind.u64.wrap (q1 * Y)) = N2)
    (e13 : IntKind.u64.wrap (N2.tdiv v) = q0) (e14 : IntKind.u64.wrap (N2 - IntKind.u64.wrap (q0 * v)) = r0)
    (g2 : 0 ≤ IntKind.u64.wrap (IntKind.u64.wrap (4294967296 * r0)))
    (e15 : IntKind.u64.wrap (IntKind.u64.wrap (q1 * 4294967296) + q0) = Q)
    (e16 : IntKind.u64.wrap (IntKind.u64.wrap (IntKind.u64.wrap (N2 * 4294967296)) - IntKind.u64.wrap (q0 * Y)) / 2 ^ S.toNat = R) (w : World) : Calls Tryz.prog 185 #[.int .u64 hi, .int .u64 lo, .int .u64 y] w (DivPost Q R w) := by
  have HS := Lib.hid hS
  have HP := Lib.hid (show DivPost Q R w (.returned (.tuple #[.int .u64 Q, .int .u64 R])) w from ⟨rfl, .inl rfl⟩)
  clear hS
  go_enter Tryz.func185, Tryz.ntmps185
  go_wp2_with fail
  refine (zeros_any y (by omega) (by omega) w).mono ?_
  rw [← HS.out]
  rintro e w' ⟨rfl, rfl⟩
  go_wp2
  refine wp_loop_rounds 1 ?_
  rw [rounds_succ]
  go_wp2
  refine wp_loop_rounds 1 ?_
  rw [rounds_succ]
  go_wp2
  go_ret2
  exact HP.out

theorem mask_int (a : Int) (h0 : 0 ≤ a) (h1 : a < 18446744073709551616) : bits .and .u64 a 4294967295 = a % 4294967296 := by
  obtain ⟨n, rfl⟩ := Int.eq_ofNat_of_zero_le h0
  rw [Mul64.maskN n (by omega)]
  omega
theorem or_int (a b : Int) (k : Nat) (ha0 : 0 ≤ a) (ha1 : a * 2 ^ k < 18446744073709551616) (hb0 : 0 ≤ b) (hb1 : b < 2 ^ k) (hb2 : b < 18446744073709551616) : bits .or .u64 (a * 2 ^ k) b = a * 2 ^ k + b := by
  obtain ⟨m, rfl⟩ := Int.eq_ofNat_of_zero_le ha0
  obtain ⟨n, rfl⟩ := Int.eq_ofNat_of_zero_le hb0
  have hp : ((2 ^ k : Nat) : Int) = 2 ^ k := by simp
  have hn : n < 2 ^ k := by rw [← hp] at hb1; omega
  have hm : m * 2 ^ k < 18446744073709551616 := by rw [← hp, ← Int.natCast_mul] at ha1; omega
  have hn2 : n < 18446744073709551616 := by omega
  have h := bits_or_u64_nat (m * 2 ^ k) n hm hn2
  have e : m * 2 ^ k ||| n = m * 2 ^ k + n := by
    have := Nat.shiftLeft_add_eq_or_of_lt hn m
    rw [Nat.shiftLeft_eq] at this; exact this.symm
  rw [e] at h
  have c : (((m * 2 ^ k : Nat)) : Int) = (m : Int) * 2 ^ k := by rw [Int.natCast_mul, hp]
  have c2 : (((m * 2 ^ k + n : Nat)) : Int) = (m : Int) * 2 ^ k + (n : Int) := by rw [Int.natCast_add, Int.natCast_mul, hp]
  rw [c, c2] at h
  exact h
theorem wrap_id (a : Int) (h0 : 0 ≤ a) (h1 : a < 18446744073709551616) : IntKind.u64.wrap a = a := by rw [IntKind.wrap_u64]; omega
theorem powers (y : Int) (hy : 0 < y) (hy2 : y < 4294967296) : ∃ (S T K : Int) (t : Nat), S = 64 - (Lib.bitLen y.toNat : Int) ∧ 32 ≤ S ∧ S ≤ 63 ∧ (2 : Int) ^ S.toNat = T * 4294967296 ∧ (2 : Int) ^ (64 - S).toNat = K ∧ 0 < T ∧ T * K = 4294967296 ∧ y < K ∧ K ≤ 2 * y ∧ T * 4294967296 = 2 ^ t := by
  obtain ⟨n, rfl⟩ := Int.eq_ofNat_of_zero_le (show 0 ≤ y by omega)
  have hn : n ≠ 0 := by omega
  obtain ⟨hp, h2, h1⟩ := Lib.bitLenAux_bounds 64 n (by omega) hn
  change 1 ≤ Lib.bitLen n at hp
  change 2 ^ (Lib.bitLen n - 1) ≤ n at h2
  change n < 2 ^ Lib.bitLen n at h1
  have hl : Lib.bitLen n ≤ 32 := Lib.bitLen_le n 32 (by omega) (by omega)
  rw [Int.toNat_natCast]
  generalize Lib.bitLen n = L at *
  obtain ⟨l, rfl⟩ : ∃ l, L = l + 1 := ⟨L - 1, by omega⟩
  rw [Nat.add_sub_cancel] at h2
  have e1 : (64 - ((l + 1 : Nat) : Int)).toNat = (31 - l) + 32 := by omega
  have e2 : (64 - (64 - ((l + 1 : Nat) : Int))).toNat = l + 1 := by omega
  have hK : ((2 ^ (l + 1) : Nat) : Int) = 2 ^ (l + 1) := by simp
  have hK2 : ((2 ^ l : Nat) : Int) = 2 ^ l := by simp
  refine ⟨64 - ((l + 1 : Nat) : Int), 2 ^ (31 - l), 2 ^ (l + 1), (31 - l) + 32, rfl, by omega, by omega, ?_, by rw [e2], Int.pow_pos (by decide), ?_, ?_, ?_, ?_⟩
  · rw [e1, Int.pow_add]; rfl
  · rw [← Int.pow_add, show 31 - l + (l + 1) = 32 by omega]; rfl
  · rw [← hK]; omega
  · rw [Int.pow_succ, ← hK2]; omega
  · rw [Int.pow_add]; rfl
set_option maxHeartbeats 400000 in
theorem div64_any (hi lo y : Int) (hy : 0 < y) (hy2 : y < 4294967296) (hh : 0 ≤ hi) (hhy : hi < y) (hl : 0 ≤ lo) (hl2 : lo < 18446744073709551616) :
    ∃ q r : Int, 0 ≤ q ∧ q < 18446744073709551616 ∧ 0 ≤ r ∧ r < y ∧ hi * 18446744073709551616 + lo = q * y + r ∧ ∀ w, Calls Tryz.prog 185 #[.int .u64 hi, .int .u64 lo, .int .u64 y] w (DivPost q r w) := by
  rcases Int.lt_or_eq_of_le hh with hh | rfl
  · obtain ⟨S, T, K, t, hS, hS1, hS2, p1, p2, hT, hTK, hyK, hKy, ht⟩ := powers y hy hy2
    obtain ⟨Y, v, A, B, U, W, u1, q1, r1, N2, q0, r0, R, a1, a2, a3, a4, a5, a6, b1, b2, b3, b4, b5, b6, b7, b8, b9, c1, c2, c3, c4, d1, d2, d3, d4, d5, d6, d7, d8, d9, f1, f2, f3, f4, f5, f6, f7, f8, g1, g2, g3⟩ := div_plain hi lo y hy hh hhy hl hl2 T K hT hTK hyK hKy
    refine ⟨q1 * 4294967296 + q0, R, by omega, by omega, g1, g2, g3, fun w => ?_⟩
    have hNv : 0 ≤ N2 := by omega
    have hpv : 0 ≤ q1 * v := Int.mul_nonneg d2 (by omega)
    have hpv0 : 0 ≤ q0 * v := Int.mul_nonneg f2 (by omega)
    refine div64_walk hi lo y S Y v A B U W u1 q1 r1 N2 q0 r0 _ R hS hS1 hS2 hy hy2 hh hhy a5 d3 f3 ?_ ?_ ?_ ?_ ?_ ?_ ?_ ?_ ?_ ?_ ?_ ?_ ?_ ?_ ?_ ?_ ?_ ?_ w
    · rw [p1, ← a1, wrap_id _ a2 a3]
    · omega
    · rw [mask_int _ a2 a3]; omega
    · rw [p1, ← b1, wrap_id _ b2 b3]
    · rw [p2, b4]
    · rw [b7, b1, ht]
      rw [ht] at b1 b6
      exact or_int hi B t (by omega) (by omega) b5 b6 (by omega)
    · rw [p1, IntKind.wrap_u64, ← c1]
    · omega
    · rw [mask_int _ (by omega) (by omega)]; omega
    · rw [Int.tdiv_eq_ediv_of_nonneg b8, ← d1, wrap_id _ d2 (by omega)]
    · rw [wrap_id (q1 * v) hpv (by omega), ← d4, wrap_id _ d5 (by omega)]
    · rw [IntKind.wrap_u64]; omega
    · generalize q1 * Y = P at *
      simp only [IntKind.wrap_u64]; omega
    · rw [Int.tdiv_eq_ediv_of_nonneg hNv, ← f1, wrap_id _ f2 (by omega)]
    · rw [wrap_id (q0 * v) hpv0 (by omega), ← f4, wrap_id _ f5 (by omega)]
    · rw [IntKind.wrap_u64]; omega
    · simp only [IntKind.wrap_u64]; omega
    · have e : IntKind.u64.wrap (IntKind.u64.wrap (IntKind.u64.wrap (N2 * 4294967296)) - IntKind.u64.wrap (q0 * Y)) = r0 * 4294967296 := by
        generalize q0 * Y = P at *
        simp only [IntKind.wrap_u64]; omega
      rw [e, p1, f8, Int.mul_assoc]
      exact Int.mul_ediv_cancel _ (by omega)
  · have hq0 := Int.ediv_nonneg hl (show 0 ≤ y by omega)
    have hq1 : lo / y < 18446744073709551616 := Int.ediv_lt_of_lt_mul hy (by
      have := Int.mul_le_mul_of_nonneg_left (show (1 : Int) ≤ y by omega) (show (0 : Int) ≤ 18446744073709551616 by omega)
      omega)
    have hr0 := Int.emod_nonneg lo (show y ≠ 0 by omega)
    have hr1 := Int.emod_lt_of_pos lo hy
    have hm := Int.mul_ediv_add_emod lo y
    refine ⟨lo / y, lo % y, hq0, hq1, hr0, hr1, by rw [Int.mul_comm (lo / y)]; omega, fun w => ?_⟩
    have k1 : IntKind.u64.wrap (lo.tdiv y) = lo / y := by rw [Int.tdiv_eq_ediv_of_nonneg hl, wrap_id _ hq0 hq1]
    have k2 : IntKind.u64.wrap (lo.tmod y) = lo % y := by rw [Int.tmod_eq_emod_of_nonneg hl, wrap_id _ hr0 (by omega)]
    have k3 : lo.tmod y = lo % y := Int.tmod_eq_emod_of_nonneg hl
    have HP := Lib.hid (show DivPost (lo / y) (lo % y) w (.returned (.tuple #[.int .u64 (lo / y), .int .u64 (lo % y)])) w.drew from ⟨rfl, .inr rfl⟩)
    clear hm hq0 hq1 hr0 hr1
    go_enter Tryz.func185, Tryz.ntmps185
    go_wp2
    go_region
    go_wp2
    go_ret2
    exact HP.out
end Go.Proofs.YtfilgpifiboccaaGreat
namespace Go.Proofs.YtfilgpifiboccaaGreat
open Go.RowKit
/-- Behind a call that may have drawn, under two blocks: the draw lies beneath them. -/
theorem rejoin (w w' : World) (A R : Obj) (h : w' = (w.alloc A).alloc R ∨ w' = ((w.alloc A).alloc R).drew) : ∃ w1 : World, w' = (w1.alloc A).alloc R ∧ w1.heap.size = w.heap.size ∧ Below w.heap.size w w1 := by
  rcases h with rfl | rfl
  · exact ⟨w, rfl, rfl, Below.refl _ _⟩
  · exact ⟨w.drew, rfl, rfl, (Below.refl _ _).drew⟩
set_option maxHeartbeats 400000 in
theorem ndiv_ex (a0 a1 a2 a3 t d : Int) (ha0 : Word a0) (ha1 : Word a1) (ha2 : Word a2) (ha3 : Word a3) (hd : 0 < d) (hd2 : d < 4294967296) (ht0 : 0 ≤ t) (ht : t < d) :
    ∃ s0 s1 s2 s3 r : Int, (Word s0 ∧ Word s1 ∧ Word s2 ∧ Word s3) ∧ 0 ≤ r ∧ r < d ∧
      t * 115792089237316195423570985008687907853269984665640564039457584007913129639936 + (a0 * 6277101735386680763835789423207666416102355444464034512896 + a1 * 340282366920938463463374607431768211456 + a2 * 18446744073709551616 + a3) = (s0 * 6277101735386680763835789423207666416102355444464034512896 + s1 * 340282366920938463463374607431768211456 + s2 * 18446744073709551616 + s3) * d + r ∧
      ∀ w, Calls Tryz.prog 202 #[numD a0 a1 a2 a3, .int .u64 t, .int .u64 d] w (NumPost w (numD s0 s1 s2 s3)) := by
  obtain ⟨s0, r0, g0, g0', d0, d0', e0, E0⟩ := div64_any t a0 d hd hd2 ht0 ht ha0.1 ha0.2
  obtain ⟨s1, r1, g1, g1', d1, d1', e1, E1⟩ := div64_any r0 a1 d hd hd2 d0 d0' ha1.1 ha1.2
  obtain ⟨s2, r2, g2, g2', d2, d2', e2, E2⟩ := div64_any r1 a2 d hd hd2 d1 d1' ha2.1 ha2.2
  obtain ⟨s3, r3, g3, g3', d3, d3', e3, E3⟩ := div64_any r2 a3 d hd hd2 d2 d2' ha3.1 ha3.2
  refine ⟨s0, s1, s2, s3, r3, ⟨⟨g0, g0'⟩, ⟨g1, g1'⟩, ⟨g2, g2'⟩, ⟨g3, g3'⟩⟩, d3, d3', by grind, fun w => ?_⟩
  clear g0 g0' g1 g1' g2 g2' g3 g3' d0 d0' d1 d1' d2 d2' d3 d3' e0 e1 e2 e3 ha0 ha1 ha2 ha3 ht ht0 hd hd2
  have E0 := Lib.hid E0
  have E1 := Lib.hid E1
  have E2 := Lib.hid E2
  have E3 := Lib.hid E3
  unfold numD
  go_enter Tryz.func202, Tryz.ntmps202
  go_wp2
  refine wp_loop_rounds 5 ?_
  rw [rounds_succ]
  go_wp2_with fail
  refine (E0.out _).mono ?_
  rintro e w' ⟨rfl, hw⟩
  obtain ⟨w1, rfl, hs1, hb1⟩ := rejoin _ _ _ _ hw
  clear hw
  go_wp2_with fail
  rw [rounds_succ]
  go_wp2_with fail
  refine (E1.out _).mono ?_
  rintro e w' ⟨rfl, hw⟩
  obtain ⟨w2, rfl, hs2, hb2⟩ := rejoin _ _ _ _ hw
  clear hw
  rw [hs1] at hb2 hs2
  go_wp2_with fail
  rw [rounds_succ]
  go_wp2_with fail
  refine (E2.out _).mono ?_
  rintro e w' ⟨rfl, hw⟩
  obtain ⟨w3, rfl, hs3, hb3⟩ := rejoin _ _ _ _ hw
  clear hw
  rw [hs2] at hb3 hs3
  go_wp2_with fail
  rw [rounds_succ]
  go_wp2_with fail
  refine (E3.out _).mono ?_
  rintro e w' ⟨rfl, hw⟩
  obtain ⟨w4, rfl, hs4, hb4⟩ := rejoin _ _ _ _ hw
  clear hw
  rw [hs3] at hb4 hs4
  go_wp2_with fail
  rw [rounds_succ]
  go_wp2_with fail
  have hB := (((hb1.trans hb2).trans hb3).trans hb4)
  simp [bodyPost, results, Tryz.results202, go_sem, hs4]
  exact ⟨rfl, (hB.alloc (by rw [hs4]; exact Nat.le_refl _) _).alloc (by simp [hs4]) _⟩
end Go.Proofs.YtfilgpifiboccaaGreat

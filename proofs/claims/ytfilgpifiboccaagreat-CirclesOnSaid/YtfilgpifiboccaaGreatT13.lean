import Derived.Test.YtfilgpifiboccaaGreatT7
namespace Go.Proofs.YtfilgpifiboccaaGreat
open Go.RowKit
theorem keep4 {w w1 : World} {x y z u : Value} {t : TypeId} {B b : Nat} (hb : Below B w w1) (hB : b < B) (h : w.heap[b]? = some (.cells #[x, y, z, u] t (0, 0))) :
    (w1.cell? ⟨b, 0, none⟩ = some x ∧ w1.cell? ⟨b, 1, none⟩ = some y ∧ w1.cell? ⟨b, 2, none⟩ = some z ∧ w1.cell? ⟨b, 3, none⟩ = some u) ∧
    w1.frozen? ⟨b, 0, none⟩ = false ∧ w1.frozen? ⟨b, 1, none⟩ = false ∧ w1.frozen? ⟨b, 2, none⟩ = false ∧ w1.frozen? ⟨b, 3, none⟩ = false := by
  have h1 : w1.heap[b]? = some (.cells #[x, y, z, u] t (0, 0)) := (hb.block b hB).trans h
  refine ⟨⟨?_, ?_, ?_, ?_⟩, ?_, ?_, ?_, ?_⟩
  · simp [World.cell?, h1]
  · simp [World.cell?, h1]
  · simp [World.cell?, h1]
  · simp [World.cell?, h1]
  · simp [World.frozen?, h1]
  · simp [World.frozen?, h1]
  · simp [World.frozen?, h1]
  · simp [World.frozen?, h1]
theorem blk_first (w : World) (o o' : Obj) : ((w.alloc o).alloc o').heap[w.heap.size]? = some o := by
  rw [Below.heap_alloc _ _ _ (by simp), heap_alloc_new]
/-- One place of a product by a word. -/
theorem one_ex (a b c N : Int) (ha : Word a) (hb0 : 0 ≤ b) (hb1 : b ≤ N) (hN : N < 9223372036854775808) (hc0 : 0 ≤ c) (hc1 : c ≤ N) : ∃ hi lo s k t : Int, Word s ∧ (0 ≤ t ∧ t ≤ N) ∧ a * b + c = s + 18446744073709551616 * t ∧
    (∀ w, Calls Tryz.prog 174 #[.int .u64 a, .int .u64 b] w (fun e w' => e = .returned (.tuple #[.int .u64 hi, .int .u64 lo]) ∧ w' = w)) ∧
    (∀ w, (callFunc 175 #[.int .u64 lo, .int .u64 c, .int .u64 0]).run Tryz.prog w = .ok (.value (.tuple #[.int .u64 s, .int .u64 k])) w) ∧ IntKind.u64.wrap (hi + k) = t := by
  obtain ⟨a0, a1⟩ := ha
  have hp0 : 0 ≤ a * b := Int.mul_nonneg a0 hb0
  have hp1 : a * b ≤ 18446744073709551615 * N := Int.mul_le_mul (by omega) hb1 hb0 (by decide)
  have hM : ∀ w, Calls Tryz.prog 174 #[.int .u64 a, .int .u64 b] w fun e w' => e = .returned (.tuple #[.int .u64 (a * b / 18446744073709551616), .int .u64 (a * b % 18446744073709551616)]) ∧ w' = w :=
    fun w => (mul64_any a b ⟨a0, a1⟩ ⟨hb0, by omega⟩ w).mono fun _ _ h => ⟨h.1, h.2.symm⟩
  generalize hP : a * b = P at *
  refine ⟨P / 18446744073709551616, P % 18446744073709551616, (P % 18446744073709551616 + c) % 18446744073709551616, (P % 18446744073709551616 + c) / 18446744073709551616, P / 18446744073709551616 + (P % 18446744073709551616 + c) / 18446744073709551616, ⟨by omega, by omega⟩, ⟨by omega, by omega⟩, by omega, hM, fun w => ?_, ?_⟩
  · have := add64_run (P % 18446744073709551616) c 0 (by omega) hc0 (by omega) w
    simpa using this
  · exact wrap_id _ (by omega) (by omega)
set_option maxRecDepth 100000 in
set_option maxHeartbeats 1000000 in
theorem radians_ex (n : Int) (h0 : 0 ≤ n) (h1 : n ≤ 2700000) :
    ∃ s0 s1 s2 s3 r : Int, (Word s0 ∧ Word s1 ∧ Word s2 ∧ Word s3) ∧ 0 ≤ r ∧ r < 10800000 ∧ (s0 * 6277101735386680763835789423207666416102355444464034512896 + s1 * 340282366920938463463374607431768211456 + s2 * 18446744073709551616 + s3) * 10800000 + r = 363771576891766324280234942777729862653393377328392429958772151117938894466185 * n ∧ ∀ w, Calls Tryz.prog 181 #[.int .i64 n] w (NumPost w (numD s0 s1 s2 s3)) := by
  obtain ⟨x3, y3, s3, k3, t3, g3, d3, e3, M3, A3, z3⟩ := one_ex 589684135938649225 n 0 2700000 ⟨by omega, by omega⟩ h0 h1 (by omega) (by omega) (by omega)
  obtain ⟨x2, y2, s2, k2, t2, g2, d2, e2, M2, A2, z2⟩ := one_ex 11820040416388919760 n t3 2700000 ⟨by omega, by omega⟩ h0 h1 (by omega) d3.1 d3.2
  obtain ⟨x1, y1, s1, k1, t1, g1, d1, e1, M1, A1, z1⟩ := one_ex 1376283091369227076 n t2 2700000 ⟨by omega, by omega⟩ h0 h1 (by omega) d2.1 d2.2
  obtain ⟨x0, y0, s0, k0, t0, g0, d0, e0, M0, A0, z0⟩ := one_ex 2611923443488327891 n t1 2700000 ⟨by omega, by omega⟩ h0 h1 (by omega) d1.1 d1.2
  obtain ⟨q0, q1, q2, q3, r, hq, hr0, hr1, hq', HD⟩ := ndiv_ex s0 s1 s2 s3 ((t0 + 3 * n) % 10800000) 10800000 g0 g1 g2 g3 (by omega) (by omega) (by omega) (by omega)
  have ht : t0 + 3 * n < 10800000 := by
    obtain ⟨_, _⟩ := g0
    obtain ⟨_, _⟩ := g1
    obtain ⟨_, _⟩ := g2
    obtain ⟨_, _⟩ := g3
    clear hq' HD M0 M1 M2 M3 A0 A1 A2 A3
    omega
  have htm : (t0 + 3 * n) % 10800000 = t0 + 3 * n := Int.emod_eq_of_lt (by omega) ht
  refine ⟨q0, q1, q2, q3, r, hq, hr0, hr1, ?_, fun w => ?_⟩
  · rw [htm] at hq'
    clear HD M0 M1 M2 M3 A0 A1 A2 A3
    omega
  have w1 : IntKind.u64.wrap n = n := wrap_id _ (by omega) (by omega)
  have w2 : IntKind.u64.wrap (3 * n) = 3 * n := wrap_id _ (by omega) (by omega)
  have w3 : IntKind.u64.wrap (t0 + 3 * n) = t0 + 3 * n := wrap_id _ (by omega) (by omega)
  have w4 : (t0 + 3 * n).tmod 10800000 = (t0 + 3 * n) % 10800000 := Int.tmod_eq_emod_of_nonneg (by omega)
  have w5 : IntKind.u64.wrap ((t0 + 3 * n) % 10800000) = (t0 + 3 * n) % 10800000 := wrap_id _ (by omega) (by omega)
  clear htm ht hq hq' hr0 hr1 e0 e1 e2 e3 d0 d1 d2 d3 g0 g1 g2 g3
  generalize (t0 + 3 * n) % 10800000 = m at *
  have M0 := Lib.hid M0
  have M1 := Lib.hid M1
  have M2 := Lib.hid M2
  have M3 := Lib.hid M3
  have HD := Lib.hid HD
  unfold numD at HD
  go_enter Tryz.func181, Tryz.ntmps181
  go_wp2
  refine wp_loop_rounds 5 ?_
  rw [rounds_succ]
  go_wp2_with (first | (go_at_call 174; refine (M3.out _).mono ?_; rintro e w' ⟨rfl, rfl⟩))
  rw [rounds_succ]
  go_wp2_with (first | (go_at_call 174; refine (M2.out _).mono ?_; rintro e w' ⟨rfl, rfl⟩))
  rw [rounds_succ]
  go_wp2_with (first | (go_at_call 174; refine (M1.out _).mono ?_; rintro e w' ⟨rfl, rfl⟩))
  rw [rounds_succ]
  go_wp2_with (first | (go_at_call 174; refine (M0.out _).mono ?_; rintro e w' ⟨rfl, rfl⟩))
  rw [rounds_succ]
  go_wp2_with fail
  refine (HD.out _).mono ?_
  rintro e w' ⟨rfl, hb⟩
  obtain ⟨⟨c0, c1, c2, c3⟩, f0, f1, f2, f3⟩ := keep4 hb (by simp; omega) (blk_first w _ _)
  have HB := Lib.hid hb
  have hsz := hb.size
  clear hb
  go_wp2_with fail
  have HF := Lib.hid (show Below w.heap.size w ((((w'.setCell ⟨w.heap.size, 0, none⟩ (.int .u64 q0)).setCell ⟨w.heap.size, 1, none⟩ (.int .u64 q1)).setCell ⟨w.heap.size, 2, none⟩ (.int .u64 q2)).setCell ⟨w.heap.size, 3, none⟩ (.int .u64 q3)) from
    (((((((Below.refl _ _).alloc (Nat.le_refl _) _).alloc (by simp) _).trans (HB.out.mono (by simp; omega))).setCell (Nat.le_refl _) _).setCell (Nat.le_refl _) _).setCell (Nat.le_refl _) _).setCell (Nat.le_refl _) _)
  simp [bodyPost, results, Tryz.results181, go_sem, c0, c1, c2, c3]
  exact ⟨rfl, HF.out⟩
end Go.Proofs.YtfilgpifiboccaaGreat
namespace Go.Proofs.YtfilgpifiboccaaGreat
open Go.RowKit
/-- A number's whole value. -/
def num (a0 a1 a2 a3 : Int) : Int := (a0 * 6277101735386680763835789423207666416102355444464034512896 + a1 * 340282366920938463463374607431768211456 + a2 * 18446744073709551616 + a3)
theorem num_bd (a0 a1 a2 a3 : Int) (h : (Word a0 ∧ Word a1 ∧ Word a2 ∧ Word a3)) : 0 ≤ num a0 a1 a2 a3 ∧ num a0 a1 a2 a3 < 115792089237316195423570985008687907853269984665640564039457584007913129639936 := by
  obtain ⟨⟨_, _⟩, ⟨_, _⟩, ⟨_, _⟩, ⟨_, _⟩⟩ := h
  unfold num
  omega
/-- A variable that holds a number. -/
def Num (w : World) (b : Nat) (a0 a1 a2 a3 : Int) : Prop := w.heap[b]? = some (.cells #[.int .u64 a0, .int .u64 a1, .int .u64 a2, .int .u64 a3] 176 (0, 0))
theorem Num.lt {w : World} {b : Nat} {a0 a1 a2 a3 : Int} (h : Num w b a0 a1 a2 a3) : b < w.heap.size := by
  unfold Num at h
  exact (Array.getElem?_eq_some_iff.1 h).1
theorem Num.below {w w' : World} {b : Nat} {a0 a1 a2 a3 : Int} (h : Num w b a0 a1 a2 a3) (hb : Below w.heap.size w w') : Num w' b a0 a1 a2 a3 := (hb.block b h.lt).trans h
/-- What one round of the series computes. -/
structure Step (y0 y1 y2 y3 u0 u1 u2 u3 d v0 v1 v2 v3 : Int) : Prop where
  out : ∃ q0 q1 q2 q3 m0 m1 m2 m3 r : Int, (Word q0 ∧ Word q1 ∧ Word q2 ∧ Word q3) ∧ (Word m0 ∧ Word m1 ∧ Word m2 ∧ Word m3) ∧ 0 ≤ r ∧ r < d ∧ num y0 y1 y2 y3 = num q0 q1 q2 q3 * d + r ∧ num m0 m1 m2 m3 * 115792089237316195423570985008687907853269984665640564039457584007913129639936 ≤ num q0 q1 q2 q3 * num u0 u1 u2 u3 ∧ num q0 q1 q2 q3 * num u0 u1 u2 u3 < (num m0 m1 m2 m3 + 2) * 115792089237316195423570985008687907853269984665640564039457584007913129639936 ∧ num v0 v1 v2 v3 = num q0 q1 q2 q3 - num m0 m1 m2 m3 ∧
    (∀ w, Calls Tryz.prog 202 #[numD y0 y1 y2 y3, .int .u64 0, .int .u64 d] w (NumPost w (numD q0 q1 q2 q3))) ∧
    (∀ w, Calls Tryz.prog 183 #[numD q0 q1 q2 q3, numD u0 u1 u2 u3] w (NumPost w (numD m0 m1 m2 m3))) ∧
    (∀ w, Calls Tryz.prog 182 #[numD q0 q1 q2 q3, numD m0 m1 m2 m3] w (NumPost w (numD v0 v1 v2 v3)))
theorem step_ex (y0 y1 y2 y3 u0 u1 u2 u3 d : Int) (hy : (Word y0 ∧ Word y1 ∧ Word y2 ∧ Word y3)) (hu : (Word u0 ∧ Word u1 ∧ Word u2 ∧ Word u3)) (hd : 0 < d) (hd2 : d < 4294967296) :
    ∃ v0 v1 v2 v3 : Int, (Word v0 ∧ Word v1 ∧ Word v2 ∧ Word v3) ∧ Step y0 y1 y2 y3 u0 u1 u2 u3 d v0 v1 v2 v3 := by
  obtain ⟨q0, q1, q2, q3, r, hq, hr0, hr1, e1, H1⟩ := ndiv_ex y0 y1 y2 y3 0 d hy.1 hy.2.1 hy.2.2.1 hy.2.2.2 hd hd2 (by omega) hd
  obtain ⟨m0, m1, m2, m3, hm, e2, e3, H2⟩ := nmul_ex q0 q1 q2 q3 u0 u1 u2 u3 hq.1 hq.2.1 hq.2.2.1 hq.2.2.2 hu.1 hu.2.1 hu.2.2.1 hu.2.2.2
  obtain ⟨v0, v1, v2, v3, k, hv, hk, e4, H3⟩ := sub_ex q0 q1 q2 q3 m0 m1 m2 m3 hq.1 hq.2.1 hq.2.2.1 hq.2.2.2 hm.1 hm.2.1 hm.2.2.1 hm.2.2.2
  have bq := num_bd q0 q1 q2 q3 hq
  have bu := num_bd u0 u1 u2 u3 hu
  have bm := num_bd m0 m1 m2 m3 hm
  have bv := num_bd v0 v1 v2 v3 hv
  have hqu : num q0 q1 q2 q3 * num u0 u1 u2 u3 ≤ num q0 q1 q2 q3 * 115792089237316195423570985008687907853269984665640564039457584007913129639936 := Int.mul_le_mul_of_nonneg_left (by omega) bq.1
  change num m0 m1 m2 m3 * _ ≤ num q0 q1 q2 q3 * num u0 u1 u2 u3 at e2
  change num q0 q1 q2 q3 * num u0 u1 u2 u3 < (num m0 m1 m2 m3 + 2) * _ at e3
  change num v0 v1 v2 v3 = num q0 q1 q2 q3 - num m0 m1 m2 m3 + _ at e4
  change _ + num y0 y1 y2 y3 = num q0 q1 q2 q3 * d + r at e1
  refine ⟨v0, v1, v2, v3, hv, ⟨q0, q1, q2, q3, m0, m1, m2, m3, r, hq, hm, hr0, hr1, by omega, e2, e3, ?_, H1, H2, H3⟩⟩
  generalize num q0 q1 q2 q3 * num u0 u1 u2 u3 = P at *
  omega
/-- The series from its last term on: k terms are left. -/
inductive Chain (y0 y1 y2 y3 o : Int) : Nat → Int → Int → Int → Int → Prop
  | start : Chain y0 y1 y2 y3 o 34 0 0 0 0
  | next (k : Nat) (u0 u1 u2 u3 v0 v1 v2 v3 : Int) (h : Chain y0 y1 y2 y3 o (k + 1) u0 u1 u2 u3) (hs : Step y0 y1 y2 y3 u0 u1 u2 u3 ((2 * ((k : Int) + 1) - 1 + o) * (2 * ((k : Int) + 1) + o)) v0 v1 v2 v3) : Chain y0 y1 y2 y3 o k v0 v1 v2 v3
end Go.Proofs.YtfilgpifiboccaaGreat
namespace Go.Proofs.YtfilgpifiboccaaGreat
open Go.RowKit
def Words (v : Int × Int × Int × Int) : Prop := Word v.1 ∧ Word v.2.1 ∧ Word v.2.2.1 ∧ Word v.2.2.2
theorem zeros : Words (0, 0, 0, 0) := ⟨⟨by decide, by decide⟩, ⟨by decide, by decide⟩, ⟨by decide, by decide⟩, ⟨by decide, by decide⟩⟩
def divisor (k : Nat) (o : Int) : Int := (2 * ((k : Int) + 1) - 1 + o) * (2 * ((k : Int) + 1) + o)
theorem divisor_bd (k : Nat) (o : Int) (hk : k < 34) (h0 : 0 ≤ o) (h1 : o ≤ 1) : 0 < divisor k o ∧ divisor k o < 4294967296 := by
  unfold divisor
  have hK : ∃ K : Int, K = (k : Int) ∧ 0 ≤ K ∧ K < 34 := ⟨k, rfl, by omega, by omega⟩
  obtain ⟨K, e, k0, k1⟩ := hK
  rw [← e]
  have p := Int.mul_pos (show 0 < 2 * (K + 1) - 1 + o by omega) (show 0 < 2 * (K + 1) + o by omega)
  have q := Int.mul_le_mul (show 2 * (K + 1) - 1 + o ≤ 70 by omega) (show 2 * (K + 1) + o ≤ 70 by omega) (by omega) (by omega)
  omega
/-- The series' numbers, from the last term (34) to the sum (0). -/
def Series (y : Int × Int × Int × Int) (o : Int) (f : Nat → Int × Int × Int × Int) : Prop :=
  (∀ k, k ≤ 34 → Words (f k)) ∧ f 34 = (0, 0, 0, 0) ∧ ∀ k, k < 34 → Step y.1 y.2.1 y.2.2.1 y.2.2.2 (f (k + 1)).1 (f (k + 1)).2.1 (f (k + 1)).2.2.1 (f (k + 1)).2.2.2 (divisor k o) (f k).1 (f k).2.1 (f k).2.2.1 (f k).2.2.2
theorem series_ex (y : Int × Int × Int × Int) (o : Int) (hy : Words y) (h0 : 0 ≤ o) (h1 : o ≤ 1) : ∃ f, Series y o f := by
  have key : ∀ n, n ≤ 34 → ∃ f : Nat → Int × Int × Int × Int, (∀ k, 34 - n ≤ k → k ≤ 34 → Words (f k)) ∧ f 34 = (0, 0, 0, 0) ∧ ∀ k, 34 - n ≤ k → k < 34 → Step y.1 y.2.1 y.2.2.1 y.2.2.2 (f (k + 1)).1 (f (k + 1)).2.1 (f (k + 1)).2.2.1 (f (k + 1)).2.2.2 (divisor k o) (f k).1 (f k).2.1 (f k).2.2.1 (f k).2.2.2 := by
    intro n
    induction n with
    | zero => intro _; exact ⟨fun _ => (0, 0, 0, 0), fun _ _ _ => zeros, rfl, fun k hk hk' => by omega⟩
    | succ n ih =>
      intro hn
      obtain ⟨f, g1, g2, g3⟩ := ih (by omega)
      have hd := divisor_bd (33 - n) o (by omega) h0 h1
      obtain ⟨v0, v1, v2, v3, hv, hs⟩ := step_ex y.1 y.2.1 y.2.2.1 y.2.2.2 (f (34 - n)).1 (f (34 - n)).2.1 (f (34 - n)).2.2.1 (f (34 - n)).2.2.2 (divisor (33 - n) o) hy (g1 _ (by omega) (by omega)) hd.1 hd.2
      refine ⟨fun k => if k = 33 - n then (v0, v1, v2, v3) else f k, fun k h2 h3 => ?_, ?_, fun k h2 h3 => ?_⟩
      · by_cases h : k = 33 - n
        · simp only [h, if_true]; exact hv
        · simp only [h, if_false]; exact g1 k (by omega) h3
      · simp only [show ¬ 34 = 33 - n by omega, if_false]; exact g2
      · by_cases h : k = 33 - n
        · subst h
          simp only [if_true, if_false, show 33 - n + 1 = 34 - n by omega, show ¬ 34 - n = 33 - n by omega]
          exact hs
        · simp only [h, if_false, show ¬ k + 1 = 33 - n by omega]
          exact g3 k (by omega) h3
  obtain ⟨f, g1, g2, g3⟩ := key 34 (by omega)
  exact ⟨f, fun k hk => g1 k (by omega) hk, g2, fun k hk => g3 k (by omega) hk⟩
end Go.Proofs.YtfilgpifiboccaaGreat
namespace Go.Proofs.YtfilgpifiboccaaGreat
open Go.RowKit
/-- A round's state: k terms are left. -/
def LRel (w : World) (b5 b6 : Nat) (y : Int × Int × Int × Int) (f : Nat → Int × Int × Int × Int) (K : Value) (wr : World) (k : Nat) : Prop :=
  k ≤ 34 ∧ K = .int .u64 (k : Int) ∧ Num wr (w.heap.size + 1) 0 0 0 0 ∧ Num wr b5 y.1 y.2.1 y.2.2.1 y.2.2.2 ∧ Num wr b6 (f k).1 (f k).2.1 (f k).2.2.1 (f k).2.2.2 ∧ Below w.heap.size w wr
theorem blk_second (w : World) (o o' : Obj) : ((w.alloc o).alloc o').heap[w.heap.size + 1]? = some o' := by
  have := heap_alloc_new (w.alloc o) o'
  simpa using this
theorem Num.alloc {w : World} {b : Nat} {a0 a1 a2 a3 : Int} (h : Num w b a0 a1 a2 a3) (o : Obj) : Num (w.alloc o) b a0 a1 a2 a3 := h.below ((Below.refl _ _).alloc (Nat.le_refl _) _)
theorem num_below {w w' : World} {b : Nat} {a0 a1 a2 a3 : Int} (hb : Below w.heap.size w w') (h : Num w b a0 a1 a2 a3) : Num w' b a0 a1 a2 a3 := h.below hb
theorem Num.write {w : World} {b : Nat} {a0 a1 a2 a3 : Int} (h : Num w b a0 a1 a2 a3) (v0 v1 v2 v3 : Int) :
    Num ((((w.setCell ⟨b, 0, none⟩ (.int .u64 v0)).setCell ⟨b, 1, none⟩ (.int .u64 v1)).setCell ⟨b, 2, none⟩ (.int .u64 v2)).setCell ⟨b, 3, none⟩ (.int .u64 v3)) b v0 v1 v2 v3 := by
  unfold Num at *
  simp [World.setCell, h, Array.getElem?_modify]
theorem Num.other {w : World} {b b' : Nat} {a0 a1 a2 a3 : Int} (h : Num w b a0 a1 a2 a3) (hb : b < b') (v0 v1 v2 v3 : Value) :
    Num ((((w.setCell ⟨b', 0, none⟩ v0).setCell ⟨b', 1, none⟩ v1).setCell ⟨b', 2, none⟩ v2).setCell ⟨b', 3, none⟩ v3) b a0 a1 a2 a3 :=
  ((((Below.refl b' w).setCell (Nat.le_refl _) _).setCell (Nat.le_refl _) _).setCell (Nat.le_refl _) _ |>.setCell (Nat.le_refl _) _).block b hb |>.trans h
def uOf : Value → Nat | .int _ x => x.toNat | _ => 0
set_option maxRecDepth 100000 in
set_option maxHeartbeats 1000000 in
theorem less_walk (x0 x1 x2 x3 o : Int) (y : Int × Int × Int × Int) (f : Nat → Int × Int × Int × Int) (h0 : 0 ≤ o) (h1 : o ≤ 1) (hf : Series y o f)
    (H : ∀ w, Calls Tryz.prog 183 #[numD x0 x1 x2 x3, numD x0 x1 x2 x3] w (NumPost w (numD y.1 y.2.1 y.2.2.1 y.2.2.2))) (w : World) : Calls Tryz.prog 184 #[numD x0 x1 x2 x3, .int .u64 o] w (NumPost w (numD (f 0).1 (f 0).2.1 (f 0).2.2.1 (f 0).2.2.2)) := by
  have HF := Lib.hid hf
  have H := Lib.hid H
  obtain ⟨y0, y1, y2, y3⟩ := y
  clear hf
  unfold numD at H
  unfold numD
  go_enter Tryz.func184, Tryz.ntmps184
  go_wp2_with fail
  refine (H.out _).mono ?_
  rintro e w' ⟨rfl, hb⟩
  have HB := Lib.hid hb
  have hsz := hb.size
  clear hb
  go_wp2_with fail
  have HS := Lib.hid (show LRel w w'.heap.size (w'.heap.size + 1) (y0, y1, y2, y3) f (.int .u64 34) ((w'.alloc (.cells #[.int .u64 y0, .int .u64 y1, .int .u64 y2, .int .u64 y3] 176)).alloc (.cells #[.int .u64 0, .int .u64 0, .int .u64 0, .int .u64 0] 176)) 34 from
    ⟨Nat.le_refl _, rfl, (((Num.below (show Num _ (w.heap.size + 1) 0 0 0 0 from blk_second w _ _) HB.out).alloc _).alloc _), blk_first w' _ _, by rw [HF.out.2.1]; exact blk_second w' _ _,
      ((((Below.refl _ _).alloc (Nat.le_refl _) _).alloc (by simp) _).trans (HB.out.mono (by simp; omega))).alloc (by simp at hsz; omega) _ |>.alloc (by simp at hsz ⊢; omega) _⟩)
  clear HB
  go_loopw [7] (fun K wr => ∃ k, LRel w w'.heap.size (w'.heap.size + 1) (y0, y1, y2, y3) f K wr k) (fun K _ => uOf K)
  case atStart => exact ⟨_, HS.out⟩
  case round =>
    clear HS
    obtain ⟨k, hk, rfl, n1, n2, n3, hb⟩ := hrel
    have HB := Lib.hid hb
    have N1 := Lib.hid n1
    have N2 := Lib.hid n2
    have N3 := Lib.hid n3
    have l1 := n1.lt
    have l2 := n2.lt
    have l3 := n3.lt
    obtain ⟨⟨a0, a1, a2, a3⟩, a4, a5, a6, a7⟩ := keep4 (Below.refl (wr.heap.size) wr) l1 n1
    obtain ⟨⟨b0, b1, b2, b3⟩, b4, b5, b6, b7⟩ := keep4 (Below.refl (wr.heap.size) wr) l2 n2
    obtain ⟨⟨c0, c1, c2, c3⟩, c4, c5, c6, c7⟩ := keep4 (Below.refl (wr.heap.size) wr) l3 n3
    clear n1 n2 n3 hb
    rcases Nat.eq_zero_or_pos k with rfl | hkp
    · have HG := Lib.hid (show Below w.heap.size w ((((wr.setCell ⟨w.heap.size + 1, 0, none⟩ (.int .u64 (f 0).1)).setCell ⟨w.heap.size + 1, 1, none⟩ (.int .u64 (f 0).2.1)).setCell ⟨w.heap.size + 1, 2, none⟩ (.int .u64 (f 0).2.2.1)).setCell ⟨w.heap.size + 1, 3, none⟩ (.int .u64 (f 0).2.2.2)) from
        (((HB.out.setCell (Nat.le_succ _) _).setCell (Nat.le_succ _) _).setCell (Nat.le_succ _) _).setCell (Nat.le_succ _) _)
      go_wp2_with fail
      simp [bodyPost, results, Tryz.results184, go_sem, a0, a1, a2, a3]
      exact ⟨rfl, HG.out⟩
    · obtain ⟨j, rfl⟩ : ∃ j, k = j + 1 := ⟨k - 1, by omega⟩
      obtain ⟨hd0, hd1⟩ := divisor_bd j o (by omega) h0 h1
      obtain ⟨q0, q1, q2, q3, m0, m1, m2, m3, r, hq, hm, hr0, hr1, hqy, hm1, hm2, hv, H1, H2, H3⟩ := (HF.out.2.2 j (by omega)).out
      clear hq hm hr0 hr1 hqy hm1 hm2 hv
      have H1 := Lib.hid H1
      have H2 := Lib.hid H2
      have H3 := Lib.hid H3
      have e1 : IntKind.u64.wrap (2 * ((j : Int) + 1)) = 2 * ((j : Int) + 1) := wrap_id _ (by omega) (by omega)
      have e2 : IntKind.u64.wrap (2 * ((j : Int) + 1) - 1) = 2 * ((j : Int) + 1) - 1 := wrap_id _ (by omega) (by omega)
      have e3 : IntKind.u64.wrap (2 * ((j : Int) + 1) - 1 + o) = 2 * ((j : Int) + 1) - 1 + o := wrap_id _ (by omega) (by omega)
      have e4 : IntKind.u64.wrap (2 * ((j : Int) + 1) + o) = 2 * ((j : Int) + 1) + o := wrap_id _ (by omega) (by omega)
      have e5 : IntKind.u64.wrap ((2 * ((j : Int) + 1) - 1 + o) * (2 * ((j : Int) + 1) + o)) = divisor j o := wrap_id (divisor j o) (by omega) (by omega)
      clear hd0 hd1
      generalize f (j + 1) = u at *
      obtain ⟨u0, u1, u2, u3⟩ := u
      generalize hDv : divisor j o = D at *
      clear hDv
      unfold numD at H1
      go_wp2_with fail
      refine (H1.out _).mono ?_
      rintro e w2 ⟨rfl, hb2⟩
      have l4 := hb2.size
      have M1 := Lib.hid (N1.out.below hb2)
      have M2 := Lib.hid (N2.out.below hb2)
      have M3 := Lib.hid (N3.out.below hb2)
      have HB2 := Lib.hid (HB.out.trans (hb2.mono (by omega)))
      clear hb2 a0 a1 a2 a3 a4 a5 a6 a7 b0 b1 b2 b3 b4 b5 b6 b7 c0 c1 c2 c3 c4 c5 c6 c7
      obtain ⟨⟨c0, c1, c2, c3⟩, c4, c5, c6, c7⟩ := keep4 (Below.refl (w2.heap.size) w2) (by omega) M3.out
      go_wp2_with fail
      have NQ := Lib.hid (show Num (w2.alloc (.cells #[.int .u64 q0, .int .u64 q1, .int .u64 q2, .int .u64 q3] 176)) w2.heap.size q0 q1 q2 q3 from heap_alloc_new w2 _)
      have M4 := Lib.hid (M3.out.alloc (.cells #[.int .u64 q0, .int .u64 q1, .int .u64 q2, .int .u64 q3] 176))
      unfold numD at H2 H3
      have l7 : w'.heap.size + 1 < w2.heap.size := M3.out.lt
      go_region_with (first
        | (go_at_call 183; refine (H2.out _).mono ?_; rintro e w3 ⟨rfl, hb3⟩; have n4 := num_below hb3 (by exact M4.out); have n5 := num_below hb3 (by exact NQ.out); have l5 := n4.lt; obtain ⟨⟨p0, p1, p2, p3⟩, p4, p5, p6, p7⟩ := keep4 (Below.refl w3.heap.size w3) n5.lt n5; obtain ⟨⟨r0, r1, r2, r3⟩, r4, r5, r6, r7⟩ := keep4 (Below.refl w3.heap.size w3) n4.lt n4; have n4 := Lib.hid n4; have hb3 := Lib.hid hb3; clear n5)
        | (go_at_call 182; refine (H3.out _).mono ?_; rintro e w4 ⟨rfl, hb4⟩; have n6 := num_below hb4 (by exact n4.out); obtain ⟨⟨s0, s1, s2, s3⟩, s4, s5, s6, s7⟩ := keep4 (Below.refl w4.heap.size w4) n6.lt n6; have l6 := n6.lt; have n6 := Lib.hid n6; have hb4 := Lib.hid hb4))
      all_goals (
        have hz : w.heap.size + 2 ≤ w'.heap.size := by simp at hsz; omega
        have hq2 := HB2.out.alloc (by have := HB2.out.size; omega) (.cells #[.int .u64 q0, .int .u64 q1, .int .u64 q2, .int .u64 q3] 176)
        have hb5 : Below w.heap.size w w3 := by first
          | exact hq2.trans (hb3.out.mono (by have := hq2.size; simp at this ⊢; omega))
          | exact hq2.drew.trans (hb3.out.mono (by have := hq2.size; simp at this ⊢; omega))
        have hb6 : Below w.heap.size w w4 := by first
          | exact hb5.trans (hb4.out.mono hb5.size)
          | exact hb5.drew.trans (hb4.out.mono hb5.size)
        have A1 := num_below hb4.out (by exact num_below hb3.out (by exact (M1.out.alloc (.cells #[.int .u64 q0, .int .u64 q1, .int .u64 q2, .int .u64 q3] 176))))
        have A2 := num_below hb4.out (by exact num_below hb3.out (by exact (M2.out.alloc (.cells #[.int .u64 q0, .int .u64 q1, .int .u64 q2, .int .u64 q3] 176))))
        have HR := Lib.hid (show LRel w w'.heap.size (w'.heap.size + 1) (y0, y1, y2, y3) f (.int .u64 (j : Int)) ((((w4.setCell ⟨w'.heap.size + 1, 0, none⟩ (.int .u64 (f j).1)).setCell ⟨w'.heap.size + 1, 1, none⟩ (.int .u64 (f j).2.1)).setCell ⟨w'.heap.size + 1, 2, none⟩ (.int .u64 (f j).2.2.1)).setCell ⟨w'.heap.size + 1, 3, none⟩ (.int .u64 (f j).2.2.2)) j from
          ⟨by omega, rfl, A1.other (by omega) _ _ _ _, A2.other (by omega) _ _ _ _, n6.out.write _ _ _ _, (((hb6.setCell (by simp; omega) _).setCell (by simp; omega) _).setCell (by simp; omega) _).setCell (by simp; omega) _⟩)
        have e6 : IntKind.u64.wrap (j : Int) = (j : Int) := wrap_id _ (by omega) (by omega)
        clear A1 A2 hb5 hb6 hq2
        go_wp2_with fail
        go_roundw
        case rel => exact ⟨_, HR.out⟩
        case measure => simp [uOf])
end Go.Proofs.YtfilgpifiboccaaGreat
namespace Go.Proofs.YtfilgpifiboccaaGreat
open Go.RowKit
theorem less_ex (x0 x1 x2 x3 o : Int) (hx : Word x0 ∧ Word x1 ∧ Word x2 ∧ Word x3) (h0 : 0 ≤ o) (h1 : o ≤ 1) :
    ∃ (y : Int × Int × Int × Int) (f : Nat → Int × Int × Int × Int), Words y ∧ num y.1 y.2.1 y.2.2.1 y.2.2.2 * 115792089237316195423570985008687907853269984665640564039457584007913129639936 ≤ num x0 x1 x2 x3 * num x0 x1 x2 x3 ∧ num x0 x1 x2 x3 * num x0 x1 x2 x3 < (num y.1 y.2.1 y.2.2.1 y.2.2.2 + 2) * 115792089237316195423570985008687907853269984665640564039457584007913129639936 ∧ Series y o f ∧
      ∀ w, Calls Tryz.prog 184 #[numD x0 x1 x2 x3, .int .u64 o] w (NumPost w (numD (f 0).1 (f 0).2.1 (f 0).2.2.1 (f 0).2.2.2)) := by
  obtain ⟨y0, y1, y2, y3, hy, e1, e2, H⟩ := nmul_ex x0 x1 x2 x3 x0 x1 x2 x3 hx.1 hx.2.1 hx.2.2.1 hx.2.2.2 hx.1 hx.2.1 hx.2.2.1 hx.2.2.2
  obtain ⟨f, hf⟩ := series_ex (y0, y1, y2, y3) o hy h0 h1
  exact ⟨(y0, y1, y2, y3), f, hy, e1, e2, hf, fun w => less_walk x0 x1 x2 x3 o (y0, y1, y2, y3) f h0 h1 hf H w⟩
end Go.Proofs.YtfilgpifiboccaaGreat
namespace Go.Proofs.YtfilgpifiboccaaGreat
open Go.RowKit
def SinePost (v : Int) (b : Bool) (w : World) (e : Ending) (w' : World) : Prop := e = .returned (.tuple #[.int .i64 v, .bool b]) ∧ Below w.heap.size w w'
theorem sine_0 (w : World) : Calls Tryz.prog 169 #[.int .i64 0] w (SinePost 0 true w) := by
  have HP := Lib.hid (show SinePost 0 true w (.returned (.tuple #[.int .i64 0, .bool true])) w from ⟨rfl, Below.refl _ _⟩)
  go_enter Tryz.func169, Tryz.ntmps169
  go_wp2
  go_ret2
  exact HP.out
theorem sine_30 (w : World) : Calls Tryz.prog 169 #[.int .i64 1800000] w (SinePost 536870912 true w) := by
  have HP := Lib.hid (show SinePost 536870912 true w (.returned (.tuple #[.int .i64 536870912, .bool true])) w from ⟨rfl, Below.refl _ _⟩)
  go_enter Tryz.func169, Tryz.ntmps169
  go_wp2
  go_ret2
  exact HP.out
theorem sine_90 (w : World) : Calls Tryz.prog 169 #[.int .i64 5400000] w (SinePost 1073741824 true w) := by
  have HP := Lib.hid (show SinePost 1073741824 true w (.returned (.tuple #[.int .i64 1073741824, .bool true])) w from ⟨rfl, Below.refl _ _⟩)
  go_enter Tryz.func169, Tryz.ntmps169
  go_wp2
  go_ret2
  exact HP.out
set_option maxHeartbeats 1000000 in
theorem sine_cos (n x0 x1 x2 x3 u0 u1 u2 u3 s0 s1 s2 s3 : Int) (h1 : 2700000 < n) (h2 : n < 5400000) (hs : Word s0)
    (H1 : ∀ w, Calls Tryz.prog 181 #[.int .i64 (5400000 - n)] w (NumPost w (numD x0 x1 x2 x3)))
    (H2 : ∀ w, Calls Tryz.prog 184 #[numD x0 x1 x2 x3, .int .u64 0] w (NumPost w (numD u0 u1 u2 u3)))
    (H3 : ∀ w, Calls Tryz.prog 182 #[numD 0 0 0 0, numD u0 u1 u2 u3] w (NumPost w (numD s0 s1 s2 s3))) (w : World) : Calls Tryz.prog 169 #[.int .i64 n] w (SinePost (s0 / 17179869184) false w) := by
  have H1 := Lib.hid H1
  have H2 := Lib.hid H2
  have H3 := Lib.hid H3
  unfold numD at H1 H2 H3
  obtain ⟨g0, g1⟩ := hs
  have g2 : n ≠ 0 := by omega
  have g3 : n ≠ 1800000 := by omega
  have g4 : n ≠ 5400000 := by omega
  go_enter Tryz.func169, Tryz.ntmps169
  go_wp2_with fail
  refine (H1.out _).mono ?_
  rintro e w1 ⟨rfl, hb1⟩
  have HB1 := Lib.hid hb1
  clear hb1
  go_wp2_with fail
  refine (H2.out _).mono ?_
  rintro e w2 ⟨rfl, hb2⟩
  have HB2 := Lib.hid hb2
  clear hb2
  go_wp2_with fail
  refine (H3.out _).mono ?_
  rintro e w3 ⟨rfl, hb3⟩
  have HB3 := Lib.hid hb3
  clear hb3
  have hb := ((Below.refl w.heap.size w).alloc (Nat.le_refl _) (.cells #[.int .u64 0, .int .u64 0, .int .u64 0, .int .u64 0] 176)).trans ((HB1.out.trans (HB2.out.mono HB1.out.size)).trans (HB3.out.mono (Nat.le_trans HB1.out.size HB2.out.size)) |>.mono (by simp))
  have n1 : Num w1 w.heap.size 0 0 0 0 := num_below HB1.out (heap_alloc_new w _)
  have n3 : Num w3 w.heap.size 0 0 0 0 := num_below HB3.out (num_below HB2.out n1)
  have l3 := n3.lt
  obtain ⟨⟨c0, c1, c2, c3⟩, c4, c5, c6, c7⟩ := keep4 (Below.refl w3.heap.size w3) l3 n3
  have n4 := n3.write s0 s1 s2 s3
  have l4 := n4.lt
  obtain ⟨⟨d0, d1, d2, d3⟩, d4, d5, d6, d7⟩ := keep4 (Below.refl _ _) l4 n4
  have HP := Lib.hid (show SinePost (s0 / 17179869184) false w (.returned (.tuple #[.int .i64 (s0 / 17179869184), .bool false])) ((((w3.setCell ⟨w.heap.size, 0, none⟩ (.int .u64 s0)).setCell ⟨w.heap.size, 1, none⟩ (.int .u64 s1)).setCell ⟨w.heap.size, 2, none⟩ (.int .u64 s2)).setCell ⟨w.heap.size, 3, none⟩ (.int .u64 s3)) from
    ⟨rfl, (((hb.setCell (Nat.le_refl _) _).setCell (Nat.le_refl _) _).setCell (Nat.le_refl _) _).setCell (Nat.le_refl _) _⟩)
  clear hb n1 n3 n4
  go_wp2
  go_ret2
  exact HP.out
end Go.Proofs.YtfilgpifiboccaaGreat

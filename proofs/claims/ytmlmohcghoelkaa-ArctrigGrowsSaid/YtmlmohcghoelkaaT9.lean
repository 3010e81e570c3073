import Derived.Test.YtmlmohcghoelkaaT8
namespace Go.Proofs.Ytmlmohcghoelkaa
open Go.RowKit
/-- A number's whole value. -/
def num (a0 a1 a2 a3 : Int) : Int := (a0 * 6277101735386680763835789423207666416102355444464034512896 + a1 * 340282366920938463463374607431768211456 + a2 * 18446744073709551616 + a3)
theorem num_bd (a0 a1 a2 a3 : Int) (h : (Word a0 ∧ Word a1 ∧ Word a2 ∧ Word a3)) : 0 ≤ num a0 a1 a2 a3 ∧ num a0 a1 a2 a3 < 115792089237316195423570985008687907853269984665640564039457584007913129639936 := by
  obtain ⟨⟨_, _⟩, ⟨_, _⟩, ⟨_, _⟩, ⟨_, _⟩⟩ := h
  unfold num
  omega
/-- A variable that holds a number. -/
def Num (w : World) (b : Nat) (a0 a1 a2 a3 : Int) : Prop := w.heap[b]? = some (.cells #[.int .u64 a0, .int .u64 a1, .int .u64 a2, .int .u64 a3] 80 (0, 0))
theorem Num.lt {w : World} {b : Nat} {a0 a1 a2 a3 : Int} (h : Num w b a0 a1 a2 a3) : b < w.heap.size := by
  unfold Num at h
  exact (Array.getElem?_eq_some_iff.1 h).1
theorem Num.below {w w' : World} {b : Nat} {a0 a1 a2 a3 : Int} (h : Num w b a0 a1 a2 a3) (hb : Below w.heap.size w w') : Num w' b a0 a1 a2 a3 := (hb.block b h.lt).trans h
/-- What one round of the series computes. -/
structure Step (y0 y1 y2 y3 u0 u1 u2 u3 d v0 v1 v2 v3 : Int) : Prop where
  out : ∃ q0 q1 q2 q3 m0 m1 m2 m3 r : Int, (Word q0 ∧ Word q1 ∧ Word q2 ∧ Word q3) ∧ (Word m0 ∧ Word m1 ∧ Word m2 ∧ Word m3) ∧ 0 ≤ r ∧ r < d ∧ num y0 y1 y2 y3 = num q0 q1 q2 q3 * d + r ∧ num m0 m1 m2 m3 * 115792089237316195423570985008687907853269984665640564039457584007913129639936 ≤ num q0 q1 q2 q3 * num u0 u1 u2 u3 ∧ num q0 q1 q2 q3 * num u0 u1 u2 u3 < (num m0 m1 m2 m3 + 2) * 115792089237316195423570985008687907853269984665640564039457584007913129639936 ∧ num v0 v1 v2 v3 = num q0 q1 q2 q3 - num m0 m1 m2 m3 ∧
    (∀ w, Calls Try.prog 88 #[numD y0 y1 y2 y3, .int .u64 0, .int .u64 d] w (NumPost w (numD q0 q1 q2 q3))) ∧
    (∀ w, Calls Try.prog 66 #[numD q0 q1 q2 q3, numD u0 u1 u2 u3] w (NumPost w (numD m0 m1 m2 m3))) ∧
    (∀ w, Calls Try.prog 65 #[numD q0 q1 q2 q3, numD m0 m1 m2 m3] w (NumPost w (numD v0 v1 v2 v3)))
theorem step_ex (y0 y1 y2 y3 u0 u1 u2 u3 d : Int) (hy : (Word y0 ∧ Word y1 ∧ Word y2 ∧ Word y3)) (hu : (Word u0 ∧ Word u1 ∧ Word u2 ∧ Word u3)) (hd : 0 < d) (hd2 : d < 4294967296) :
    ∃ v0 v1 v2 v3 : Int, (Word v0 ∧ Word v1 ∧ Word v2 ∧ Word v3) ∧ Step y0 y1 y2 y3 u0 u1 u2 u3 d v0 v1 v2 v3 := by
  obtain ⟨q0, q1, q2, q3, r, hq, hr0, hr1, e1, H1⟩ := ndiv_ex y0 y1 y2 y3 0 d hy.1 hy.2.1 hy.2.2.1 hy.2.2.2 hd hd2 (by omega) hd
  obtain ⟨m0, m1, m2, m3, hm, e2, e3, H2⟩ := nmul_ex q0 q1 q2 q3 u0 u1 u2 u3 hq.1 hq.2.1 hq.2.2.1 hq.2.2.2 hu.1 hu.2.1 hu.2.2.1 hu.2.2.2
  obtain ⟨v0, v1, v2, v3, k, hv, hk, e4, H3⟩ := sub_ex q0 q1 q2 q3 m0 m1 m2 m3 hq.1 hq.2.1 hq.2.2.1 hq.2.2.2 hm.1 hm.2.1 hm.2.2.1 hm.2.2.2
  have bq := num_bd q0 q1 q2 q3 hq
  have bu := num_bd u0 u1 u2 u3 hu
  have bm := num_bd m0 m1 m2 m3 hm
  have bv := num_bd v0 v1 v2 v3 hv
  have hqu : num q0 q1 q2 q3 * num u0 u1 u2 u3 ≤ num q0 q1 q2 q3 * 115792089237316195423570985008687907853269984665640564039457584007913129639936 := Int.mul_le_mul_of_nonneg_left (by omega) bq.1
  change num m0 m1 m2 m3 * _ ≤ num q0 q1 q2 q3 * num u0 u1 u2 u3 at e2
  change num q0 q1 q2 q3 * num u0 u1 u2 u3 < (num m0 m1 m2 m3 + 2) * _ at e3
  change num v0 v1 v2 v3 = num q0 q1 q2 q3 - num m0 m1 m2 m3 + _ at e4
  change _ + num y0 y1 y2 y3 = num q0 q1 q2 q3 * d + r at e1
  refine ⟨v0, v1, v2, v3, hv, ⟨q0, q1, q2, q3, m0, m1, m2, m3, r, hq, hm, hr0, hr1, by omega, e2, e3, ?_, H1, H2, H3⟩⟩
  generalize num q0 q1 q2 q3 * num u0 u1 u2 u3 = P at *
  omega
/-- The series from its last term on: k terms are left. -/
inductive Chain (y0 y1 y2 y3 o : Int) : Nat → Int → Int → Int → Int → Prop
  | start : Chain y0 y1 y2 y3 o 34 0 0 0 0
  | next (k : Nat) (u0 u1 u2 u3 v0 v1 v2 v3 : Int) (h : Chain y0 y1 y2 y3 o (k + 1) u0 u1 u2 u3) (hs : Step y0 y1 y2 y3 u0 u1 u2 u3 ((2 * ((k : Int) + 1) - 1 + o) * (2 * ((k : Int) + 1) + o)) v0 v1 v2 v3) : Chain y0 y1 y2 y3 o k v0 v1 v2 v3
end Go.Proofs.Ytmlmohcghoelkaa

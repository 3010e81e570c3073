import Derived.Test.YtmlmohcghoelkaaT8
namespace Go.Proofs.Ytmlmohcghoelkaa
open Go.RowKit
/-- A number's whole value. -/
def num (a0 a1 a2 a3 : Int) : Int := (a0 * 6277101735386680763835789423207666416102355444464034512896 + a1 * 340282366920938463463374607431768211456 + a2 * 18446744073709551616 + a3)
theorem num_bd (a0 a1 a2 a3 : Int) (h : (Word a0 ∧ Word a1 ∧ Word a2 ∧ Word a3)) : 0 ≤ num a0 a1 a2 a3 ∧ num a0 a1 a2 a3 < 115792089237316195423570985008687907853269984665640564039457584007913129639936 := by
  obtain ⟨⟨_, _⟩, ⟨_, _⟩, ⟨_, _⟩, ⟨_, _⟩⟩ := h
  unfold num
  omega
/-- A variable that holds a number. -/
def Num (w : World) (b : Nat) (a0 a1 a2 a3 : Int) : Prop := w.heap[b]? = some (.cells #[.int .u64 a0, .int .u64 a1, .int .u64 a2, .int .u64 a3] 80 (0, 0))
theorem Num.lt {w : World} {b : Nat} {a0 a1 a2 a3 : Int} (h : Num w b a0 a1 a2 a3) : b < w.heap.size := by
  unfold Num at h
  exact (Array.getElem?_eq_some_iff.1 h).1
theorem Num.below {w w' : World} {b : Nat} {a0 a1 a2 a3 : Int} (h : Num w b a0 a1 a2 a3) (hb : Below w.heap.size w w') : Num w' b a0 a1 a2 a3 := (hb.block b h.lt).trans h
/-- What one round of the series computes. -/
structure Step (y0 y1 y2 y3 u0 u1 u2 u3 d v0 v1 v2 v3 : Int) : Prop where
  out : ∃ q0 q1 q2 q3 m0 m1 m2 m3 r : Int, (Word q0 ∧ Word q1 ∧ Word q2 ∧ Word q3) ∧ (Word m0 ∧ Word m1 ∧ Word m2 ∧ Word m3) ∧ 0 ≤ r ∧ r < d ∧ num y0 y1 y2 y3 = num q0 q1 q2 q3 * d + r ∧ num m0 m1 m2 m3 * 115792089237316195423570985008687907853269984665640564039457584007913129639936 ≤ num q0 q1 q2 q3 * num u0 u1 u2 u3 ∧ num q0 q1 q2 q3 * num u0 u1 u2 u3 < (num m0 m1 m2 m3 + 2) * 115792089237316195423570985008687907853269984665640564039457584007913129639936 ∧ num v0 v1 v2 v3 = num q0 q1 q2 q3 - num m0 m1 m2 m3 ∧
    (∀ w, Calls Try.prog 88 #[numD y0 y1 y2 y3, .int .u64 0, .int .u64 d] w (NumPost w (numD q0 q1 q2 q3))) ∧
    (∀ w, Calls Try.prog 66 #[numD q0 q1 q2 q3, numD u0 u1 u2 u3] w (NumPost w (numD m0 m1 m2 m3))) ∧
    (∀ w, Calls Try.prog 65 #[numD q0 q1 q2 q3, numD m0 m1 m2 m3] w (NumPost w (numD v0 v1 v2 v3)))
theorem step_ex (y0 y1 y2 y3 u0 u1 u2 u3 d : Int) (hy : (Word y0 ∧ Word y1 ∧ Word y2 ∧ Word y3)) (hu : (Word u0 ∧ Word u1 ∧ Word u2 ∧ Word u3)) (hd : 0 < d) (hd2 : d < 4294967296) :
    ∃ v0 v1 v2 v3 : Int, (Word v0 ∧ Word v1 ∧ Word v2 ∧ Word v3) ∧ Step y0 y1 y2 y3 u0 u1 u2 u3 d v0 v1 v2 v3 := by
  obtain ⟨q0, q1, q2, q3, r, hq, hr0, hr1, e1, H1⟩ := ndiv_ex y0 y1 y2 y3 0 d hy.1 hy.2.1 hy.2.2.1 hy.2.2.2 hd hd2 (by omega) hd
  obtain ⟨m0, m1, m2, m3, hm, e2, e3, H2⟩ := nmul_ex q0 q1 q2 q3 u0 u1 u2 u3 hq.1 hq.2.1 hq.2.2.1 hq.2.2.2 hu.1 hu.2.1 hu.2.2.1 hu.2.2.2
  obtain ⟨v0, v1, v2, v3, k, hv, hk, e4, H3⟩ := sub_ex q0 q1 q2 q3 m0 m1 m2 m3 hq.1 hq.2.1 hq.2.2.1 hq.2.2.2 hm.1 hm.2.1 hm.2.2.1 hm.2.2.2
  have bq := num_bd q0 q1 q2 q3 hq
  have bu := num_bd u0 u1 u2 u3 hu
  have bm := num_bd m0 m1 m2 m3 hm
  have bv := num_bd v0 v1 v2 v3 hv
  have hqu : num q0 q1 q2 q3 * num u0 u1 u2 u3 ≤ num q0 q1 q2 q3 * 115792089237316195423570985008687907853269984665640564039457584007913129639936 := Int.mul_le_mul_of_nonneg_left (by omega) bq.1
  change num m0 m1 m2 m3 * _ ≤ num q0 q1 q2 q3 * num u0 u1 u2 u3 at e2
  change num q0 q1 q2 q3 * num u0 u1 u2 u3 < (num m0 m1 m2 m3 + 2) * _ at e3
  change num v0 v1 v2 v3 = num q0 q1 q2 q3 - num m0 m1 m2 m3 + _ at e4
  change _ + num y0 y1 y2 y3 = num q0 q1 q2 q3 * d + r at e1
  refine ⟨v0, v1, v2, v3, hv, ⟨q0, q1, q2, q3, m0, m1, m2, m3, r, hq, hm, hr0, hr1, by omega, e2, e3, ?_, H1, H2, H3⟩⟩
  generalize num q0 q1 q2 q3 * num u0 u1 u2 u3 = P at *
  omega
/-- The series from its last term on: k terms are left. -/
inductive Chain (y0 y1 y2 y3 o : Int) : Nat → Int → Int → Int → Int → Prop
  | start : Chain y0 y1 y2 y3 o 34 0 0 0 0
  | next (k : Nat) (u0 u1 u2 u3 v0 v1 v2 v3 : Int) (h : Chain y0 y1 y2 y3 o (k + 1) u0 u1 u2 u3) (hs : Step y0 y1 y2 y3 u0 u1 u2 u3 ((2 * ((k : Int) + 1) - 1 + o) * (2 * ((k : Int) + 1) + o)) v0 v1 v2 v3) : Chain y0 y1 y2 y3 o k v0 v1 v2 v3
end Go.Proofs.Ytmlmohcghoelkaa
namespace Go.Proofs.Ytmlmohcghoelkaa
open Go.RowKit
def Words (v : Int × Int × Int × Int) : Prop := Word v.1 ∧ Word v.2.1 ∧ Word v.2.2.1 ∧ Word v.2.2.2
theorem zeros : Words (0, 0, 0, 0) := ⟨⟨by decide, by decide⟩, ⟨by decide, by decide⟩, ⟨by decide, by decide⟩, ⟨by decide, by decide⟩⟩
def divisor (k : Nat) (o : Int) : Int := (2 * ((k : Int) + 1) - 1 + o) * (2 * ((k : Int) + 1) + o)
theorem divisor_bd (k : Nat) (o : Int) (hk : k < 34) (h0 : 0 ≤ o) (h1 : o ≤ 1) : 0 < divisor k o ∧ divisor k o < 4294967296 := by
  unfold divisor
  have hK : ∃ K : Int, K = (k : Int) ∧ 0 ≤ K ∧ K < 34 := ⟨k, rfl, by omega, by omega⟩
  obtain ⟨K, e, k0, k1⟩ := hK
  rw [← e]
  have p := Int.mul_pos (show 0 < 2 * (K + 1) - 1 + o by omega) (show 0 < 2 * (K + 1) + o by omega)
  have q := Int.mul_le_mul (show 2 * (K + 1) - 1 + o ≤ 70 by omega) (show 2 * (K + 1) + o ≤ 70 by omega) (by omega) (by omega)
  omega
/-- The series' numbers, from the last term (34) to the sum (0). -/
def Series (y : Int × Int × Int × Int) (o : Int) (f : Nat → Int × Int × Int × Int) : Prop :=
  (∀ k, k ≤ 34 → Words (f k)) ∧ f 34 = (0, 0, 0, 0) ∧ ∀ k, k < 34 → Step y.1 y.2.1 y.2.2.1 y.2.2.2 (f (k + 1)).1 (f (k + 1)).2.1 (f (k + 1)).2.2.1 (f (k + 1)).2.2.2 (divisor k o) (f k).1 (f k).2.1 (f k).2.2.1 (f k).2.2.2
theorem series_ex (y : Int × Int × Int × Int) (o : Int) (hy : Words y) (h0 : 0 ≤ o) (h1 : o ≤ 1) : ∃ f, Series y o f := by
  have key : ∀ n, n ≤ 34 → ∃ f : Nat → Int × Int × Int × Int, (∀ k, 34 - n ≤ k → k ≤ 34 → Words (f k)) ∧ f 34 = (0, 0, 0, 0) ∧ ∀ k, 34 - n ≤ k → k < 34 → Step y.1 y.2.1 y.2.2.1 y.2.2.2 (f (k + 1)).1 (f (k + 1)).2.1 (f (k + 1)).2.2.1 (f (k + 1)).2.2.2 (divisor k o) (f k).1 (f k).2.1 (f k).2.2.1 (f k).2.2.2 := by
    intro n
    induction n with
    | zero => intro _; exact ⟨fun _ => (0, 0, 0, 0), fun _ _ _ => zeros, rfl, fun k hk hk' => by omega⟩
    | succ n ih =>
      intro hn
      obtain ⟨f, g1, g2, g3⟩ := ih (by omega)
      have hd := divisor_bd (33 - n) o (by omega) h0 h1
      obtain ⟨v0, v1, v2, v3, hv, hs⟩ := step_ex y.1 y.2.1 y.2.2.1 y.2.2.2 (f (34 - n)).1 (f (34 - n)).2.1 (f (34 - n)).2.2.1 (f (34 - n)).2.2.2 (divisor (33 - n) o) hy (g1 _ (by omega) (by omega)) hd.1 hd.2
      refine ⟨fun k => if k = 33 - n then (v0, v1, v2, v3) else f k, fun k h2 h3 => ?_, ?_, fun k h2 h3 => ?_⟩
      · by_cases h : k = 33 - n
        · simp only [h, if_true]; exact hv
        · simp only [h, if_false]; exact g1 k (by omega) h3
      · simp only [show ¬ 34 = 33 - n by omega, if_false]; exact g2
      · by_cases h : k = 33 - n
        · subst h
          simp only [if_true, if_false, show 33 - n + 1 = 34 - n by omega, show ¬ 34 - n = 33 - n by omega]
          exact hs
        · simp only [h, if_false, show ¬ k + 1 = 33 - n by omega]
          exact g3 k (by omega) h3
  obtain ⟨f, g1, g2, g3⟩ := key 34 (by omega)
  exact ⟨f, fun k hk => g1 k (by omega) hk, g2, fun k hk => g3 k (by omega) hk⟩
end Go.Proofs.Ytmlmohcghoelkaa

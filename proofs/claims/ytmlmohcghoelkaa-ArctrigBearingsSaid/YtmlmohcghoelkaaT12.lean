import Derived.Test.YtmlmohcghoelkaaT11
namespace Go.Proofs.Ytmlmohcghoelkaa
open Go.RowKit
theorem less_ex (x0 x1 x2 x3 o : Int) (hx : Word x0 ∧ Word x1 ∧ Word x2 ∧ Word x3) (h0 : 0 ≤ o) (h1 : o ≤ 1) :
    ∃ (y : Int × Int × Int × Int) (f : Nat → Int × Int × Int × Int), Words y ∧ num y.1 y.2.1 y.2.2.1 y.2.2.2 * 115792089237316195423570985008687907853269984665640564039457584007913129639936 ≤ num x0 x1 x2 x3 * num x0 x1 x2 x3 ∧ num x0 x1 x2 x3 * num x0 x1 x2 x3 < (num y.1 y.2.1 y.2.2.1 y.2.2.2 + 2) * 115792089237316195423570985008687907853269984665640564039457584007913129639936 ∧ Series y o f ∧
      ∀ w, Calls Try.prog 67 #[numD x0 x1 x2 x3, .int .u64 o] w (NumPost w (numD (f 0).1 (f 0).2.1 (f 0).2.2.1 (f 0).2.2.2)) := by
  obtain ⟨y0, y1, y2, y3, hy, e1, e2, H⟩ := nmul_ex x0 x1 x2 x3 x0 x1 x2 x3 hx.1 hx.2.1 hx.2.2.1 hx.2.2.2 hx.1 hx.2.1 hx.2.2.1 hx.2.2.2
  obtain ⟨f, hf⟩ := series_ex (y0, y1, y2, y3) o hy h0 h1
  exact ⟨(y0, y1, y2, y3), f, hy, e1, e2, hf, fun w => less_walk x0 x1 x2 x3 o (y0, y1, y2, y3) f h0 h1 hf H w⟩
end Go.Proofs.Ytmlmohcghoelkaa

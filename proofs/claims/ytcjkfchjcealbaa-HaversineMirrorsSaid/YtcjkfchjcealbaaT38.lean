import Derived.Test.YtcjkfchjcealbaaT37
namespace Go.Proofs.Ytcjkfchjcealbaa
open Go.RowKit
theorem asinR_in (lo hi : Int) (h1 : lo ≤ hi) (h2 : -1073741824 ≤ lo) (h3 : hi ≤ 1073741824) : asinR lo hi = (asn lo, - asn (-hi), 0) := by
  unfold asinR
  have e1 : max lo (-1073741824) = lo := by omega
  have e2 : min hi 1073741824 = hi := by omega
  rw [if_neg (by simp [validB]; omega), e1, e2, if_pos h1]
theorem acosR_in (lo hi : Int) (h1 : lo ≤ hi) (h2 : -1073741824 ≤ lo) (h3 : hi ≤ 1073741824) : acosR lo hi = (5400000 + asn (-hi), 5400000 - asn lo, 0) := by
  unfold acosR
  rw [asinR_in lo hi h1 h2 h3, if_pos rfl]
  show (5400000 - - asn (-hi), 5400000 - asn lo, (0 : Int)) = _
  rw [show 5400000 - - asn (-hi) = 5400000 + asn (-hi) by omega]
theorem ahavR_in (lo hi : Int) (h1 : lo ≤ hi) (h2 : 0 ≤ lo) (h3 : hi ≤ 1073741824) : ahavR lo hi = acosR (1073741824 - 2 * hi) (1073741824 - 2 * lo) := by
  unfold ahavR
  have e1 : max lo 0 = lo := by omega
  have e2 : min hi 1073741824 = hi := by omega
  rw [if_neg (by simp [validB]; omega), e1, e2, if_pos h1]
end Go.Proofs.Ytcjkfchjcealbaa

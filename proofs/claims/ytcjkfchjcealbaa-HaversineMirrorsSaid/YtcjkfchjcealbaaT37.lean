import Derived.Test.YtcjkfchjcealbaaT36
namespace Go.Proofs.Ytcjkfchjcealbaa
open Go.RowKit
theorem bear_any (yl yh xl xh : Int) (w : World) : Calls Try.prog 68 #[pairV yl yh, pairV xl xh] w (GPost (arcV (bearR yl yh xl xh)) w) := by
  unfold bearR
  by_cases h : (validB xl xh && validB yl yh) = false
  · rw [if_pos h]; exact bear_bad yl yh xl xh h w
  · have h2 : validB xl xh = true ∧ validB yl yh = true := by
      cases hx : validB xl xh <;> cases hy : validB yl yh <;> simp [hx, hy] at h ⊢
    rw [if_neg h]
    by_cases ho : originB yl yh xl xh = true
    · rw [if_pos ho]; exact bear_origin yl yh xl xh h2.1 h2.2 ho w
    · rw [if_neg ho]; exact bear_main yl yh xl xh h2.1 h2.2 (by simpa using ho) w
theorem asn_half : asn 536870912 = 1800000 := asn_eq (by omega) ⟨by omega, by omega, by decide +kernel, .inr (by decide +kernel)⟩
theorem asn_nhalf : asn (-536870912) = -1800000 := asn_eq (by omega) ⟨by omega, by omega, by decide +kernel, .inr (by decide +kernel)⟩
theorem asin_half : asinR 536870912 536870912 = (1800000, 1800000, 0) := by
  unfold asinR
  rw [if_neg (by decide), if_pos (by decide)]
  rw [show max (536870912 : Int) (-1073741824) = 536870912 by decide, show - min (536870912 : Int) 1073741824 = -536870912 by decide, asn_half, asn_nhalf]
  rfl
theorem acos_half : acosR 536870912 536870912 = (3600000, 3600000, 0) := by
  unfold acosR
  rw [asin_half]
  rfl
theorem ahav_quarter : ahavR 268435456 268435456 = (3600000, 3600000, 0) := by
  unfold ahavR
  rw [if_neg (by decide), if_pos (by decide)]
  exact acos_half
theorem bear_ex1 : bearR 1073741824 1073741824 2147483648 2147483648 = (1593903, 1593904, 0) := by decide +kernel
theorem bear_ex2 : bearR (-1) 1 1073741824 1073741824 = (21599999, 21600001, 0) := by decide +kernel
end Go.Proofs.Ytcjkfchjcealbaa

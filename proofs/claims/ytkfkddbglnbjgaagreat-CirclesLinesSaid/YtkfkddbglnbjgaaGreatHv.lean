/-
  Haversines and quotients: what they hold; the signs of sines. No program here.
-/
import Derived.Test.YtkfkddbglnbjgaaGreatHd
namespace Go.Proofs.YtkfkddbglnbjgaaGreat
open SM TB TA
open Ev (lt keepE)
theorem div_val {a b c d : Int} (h : (divR a b c d).2.2 = 0) : validB (divR a b c d).1 (divR a b c d).2.1 = true := by
  unfold divR at h ⊢
  obtain ⟨hb, hf⟩ := both_ok h
  rw [if_pos hb]
  split at hf
  · cases hf
  · rename_i hz
    rw [if_neg hz]
    obtain ⟨hv, e⟩ := fit_ok hf
    rw [e]; exact hv
theorem div_v {n d : Int × Int × Int} {e δ X : Rat} (hn : Vl n e (δ * X)) (hd : Vl d e δ) (d0 : 1 ≤ d.1) (hX0 : -1 ≤ X) (hX : X ≤ 2) (he : 0 ≤ e) (ok : (divR n.1 n.2.1 d.1 d.2.1).2.2 = 0) : Vl (divR n.1 n.2.1 d.1 d.2.1) (8589934592 * e) X := by
  have vd := div_val ok
  refine ⟨ok, vd, ?_⟩
  have nb := val_bd hn.2.1
  have db := val_bd hd.2.1
  have ev : divR n.1 n.2.1 d.1 d.2.1 = (divL n.1 n.2.1 d.1 d.2.1, divH n.1 n.2.1 d.1 d.2.1, 0) := by
    have q := ok
    unfold divR at q ⊢
    obtain ⟨hb, hf⟩ := both_ok q
    rw [if_pos hb]
    split at hf
    · cases hf
    · rename_i hz
      rw [if_neg hz]
      exact (fit_ok hf).2
  rw [ev]
  obtain ⟨n', n1, n2, n3, n4⟩ := hn.2.2.clamp he nb.2.1
  obtain ⟨t', t1, t2, t3, t4⟩ := hd.2.2.clamp he db.2.1
  have D0 := le_c d0
  rw [show ((1 : Int) : Rat) = 1 by rfl] at D0
  -- the corners
  have l1 := (div_has (a := n.1) (b := n.2.1) (c := d.1) (d := d.2.1) (x := n.1) (y := d.1) (.inl (by omega)) (Int.le_refl _) nb.2.1 (Int.le_refl _) db.2.1).1
  have l2 := (div_has (a := n.1) (b := n.2.1) (c := d.1) (d := d.2.1) (x := n.1) (y := d.2.1) (.inl (by omega)) (Int.le_refl _) nb.2.1 db.2.1 (Int.le_refl _)).1
  have u1 := (div_has (a := n.1) (b := n.2.1) (c := d.1) (d := d.2.1) (x := n.2.1) (y := d.1) (.inl (by omega)) nb.2.1 (Int.le_refl _) (Int.le_refl _) db.2.1).2
  have u2 := (div_has (a := n.1) (b := n.2.1) (c := d.1) (d := d.2.1) (x := n.2.1) (y := d.2.1) (.inl (by omega)) nb.2.1 (Int.le_refl _) db.2.1 (Int.le_refl _)).2
  have fl : ∀ x y : Int, 1 ≤ y → flD x y * y ≤ x := fun x y hy => by
    unfold flD
    rw [if_pos (by omega)]
    have := Int.ediv_mul_le x (show y ≠ 0 by omega)
    exact this
  have ce' : ∀ x y : Int, 1 ≤ y → x ≤ ceD x y * y := fun x y hy => by
    have := fl (-x) y hy
    unfold ceD
    have e : -flD (-x) y * y = -(flD (-x) y * y) := Int.neg_mul _ _
    omega
  have L1 : divL n.1 n.2.1 d.1 d.2.1 * d.1 ≤ n.1 * 1073741824 := Int.le_trans (Int.mul_le_mul_of_nonneg_right l1 (by omega)) (fl _ _ d0)
  have L2 : divL n.1 n.2.1 d.1 d.2.1 * d.2.1 ≤ n.1 * 1073741824 := Int.le_trans (Int.mul_le_mul_of_nonneg_right l2 (by omega)) (fl _ _ (by omega))
  have U1 : n.2.1 * 1073741824 ≤ divH n.1 n.2.1 d.1 d.2.1 * d.1 := Int.le_trans (ce' _ _ d0) (Int.mul_le_mul_of_nonneg_right u1 (by omega))
  have U2 : n.2.1 * 1073741824 ≤ divH n.1 n.2.1 d.1 d.2.1 * d.2.1 := Int.le_trans (ce' _ _ (by omega)) (Int.mul_le_mul_of_nonneg_right u2 (by omega))
  have L1 := le_c L1
  have L2 := le_c L2
  have U1 := le_c U1
  have U2 := le_c U2
  rw [Rat.intCast_mul, Rat.intCast_mul, show ((1073741824 : Int) : Rat) = 1073741824 by rfl] at L1 L2 U1 U2
  clear l1 l2 u1 u2 fl ce' ev vd ok
  unfold Hs
  dsimp only
  generalize (divL n.1 n.2.1 d.1 d.2.1 : Rat) = L at *
  generalize (divH n.1 n.2.1 d.1 d.2.1 : Rat) = U at *
  generalize (n.1 : Rat) = a at *
  generalize (n.2.1 : Rat) = b at *
  generalize (d.1 : Rat) = c at *
  generalize (d.2.1 : Rat) = f at *
  have lL := lin_q L t1 t2
  have lU := lin_q U t1 t2
  rw [Rat.mul_comm c, Rat.mul_comm t', Rat.mul_comm f] at lL lU
  have A : L * t' ≤ 1073741824 * n' := by rcases lL with k | k <;> grind
  have B : 1073741824 * n' ≤ U * t' := by rcases lU with k | k <;> grind
  have q1 := mul_abs (a := 1073741824 * δ - t') (b := 1073741824 * X) (A := e) (B := 2147483648) t3 t4 (by grind) (by grind)
  have ex : 1073741824 * (1073741824 * (δ * X)) = (1073741824 * δ - t') * (1073741824 * X) + t' * (1073741824 * X) := by grind
  have t0 : 1 ≤ t' := by grind
  generalize (1073741824 * δ - t') * (1073741824 * X) = w at *
  generalize 1073741824 * (δ * X) = z at *
  generalize 1073741824 * X = P at *
  constructor
  · rcases (Rat.le_total : L - 8589934592 * e ≤ P ∨ P ≤ L - 8589934592 * e) with k | k
    · exact k
    · have m := Rat.mul_nonneg (show 0 ≤ t' - 1 by grind) (show 0 ≤ L - P by grind)
      grind
  · rcases (Rat.le_total : P ≤ U + 8589934592 * e ∨ U + 8589934592 * e ≤ P) with k | k
    · exact k
    · have m := Rat.mul_nonneg (show 0 ≤ t' - 1 by grind) (show 0 ≤ P - U by grind)
      grind
end Go.Proofs.YtkfkddbglnbjgaaGreat

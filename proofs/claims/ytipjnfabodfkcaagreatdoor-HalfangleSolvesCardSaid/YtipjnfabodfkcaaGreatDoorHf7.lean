/-
  Gauss's formulas, for the truth: the half zenith distance and the azimuth's two directions. No program here. Half-angles: the altitude's and the azimuth's arcs hold the truth. No program here. Half-angles: the azimuth. No program here. Half-angles: what is computed holds the truth. No program here. Half-angles: half a turn more changes nothing; a part has its solution inside. No program here. Half-angles: a part has its solution inside. No program here. Half-angles of single numbers: always solved; mirrored; on the meridian. No program here.
-/
import Derived.Test.YtipjnfabodfkcaaGreatDoorSq
namespace Go.Proofs.YtipjnfabodfkcaaGreatDoor
open SM TB TA
theorem ee0 : e0 = 1048576 * u0 := rfl
end Go.Proofs.YtipjnfabodfkcaaGreatDoor
namespace Go.Proofs.YtipjnfabodfkcaaGreatDoor
open SM TB TA
def fU (a b c d : Int) : Int × Int := ((10800000 - b - d) / 2, -(-(10800000 - a - c) / 2))
def fV (a b c d : Int) : Int × Int := ((a - d) / 2, -(-(b - c) / 2))
def fW (e f : Int) : Int × Int := (turnL e f / 2, -(-turnH e f / 2))
def mulT (r s : Int × Int × Int) : Int × Int × Int := mulR r.1 r.2.1 s.1 s.2.1
def hfP (a b c d e f : Int) : Int × Int × Int := mulT (cosR (fU a b c d).1 (fU a b c d).2) (sinR (fW e f).1 (fW e f).2)
def hfQ (a b c d e f : Int) : Int × Int × Int := mulT (cosR (fV a b c d).1 (fV a b c d).2) (cosR (fW e f).1 (fW e f).2)
def hfR (a b c d e f : Int) : Int × Int × Int := mulT (sinR (fU a b c d).1 (fU a b c d).2) (sinR (fW e f).1 (fW e f).2)
def hfS (a b c d e f : Int) : Int × Int × Int := mulT (sinR (fV a b c d).1 (fV a b c d).2) (cosR (fW e f).1 (fW e f).2)
def sumT (r s : Int × Int × Int) : Int × Int × Int := addR (sqrR r.1 r.2.1).1 (sqrR r.1 r.2.1).2.1 (sqrR s.1 s.2.1).1 (sqrR s.1 s.2.1).2.1
def lenT (r s : Int × Int × Int) : Int × Int × Int := sqtR (sumT r s).1 (sumT r s).2.1
def hfY (a b c d e f : Int) : Int × Int × Int := lenT (hfR a b c d e f) (hfS a b c d e f)
def hfX (a b c d e f : Int) : Int × Int × Int := lenT (hfP a b c d e f) (hfQ a b c d e f)
def beaT (r s : Int × Int × Int) : Int × Int × Int := bearR r.1 r.2.1 s.1 s.2.1
def fullB (r : Int × Int × Int) : Bool := decide (21600000 ≤ r.2.1 - r.1)
def hfB (a b c d e f : Int) : Int × Int × Int := beaT (hfY a b c d e f) (hfX a b c d e f)
def hfH (a b c d e f : Int) : Int × Int × Int := (5400000 - 2 * (hfB a b c d e f).2.1, 5400000 - 2 * (hfB a b c d e f).1, 0)
def hfA (a b c d e f : Int) : Int × Int × Int := beaT (hfQ a b c d e f) (hfP a b c d e f)
def hfC (a b c d e f : Int) : Int × Int × Int := beaT (hfS a b c d e f) (hfR a b c d e f)
def oppS (r s : Int × Int × Int) : Int × Int × Int := if fullB r || fullB s then (0, 21600000, 0) else (turnL (-(r.2.1 + s.2.1)) (-(r.1 + s.1)), turnH (-(r.2.1 + s.2.1)) (-(r.1 + s.1)), 0)
def hfZ (a b c d e f : Int) : Int × Int × Int := oppS (hfA a b c d e f) (hfC a b c d e f)
theorem ang_bd {a b c d e f : Int} (h : triB a b c d e f = true) : avalidB (fU a b c d).1 (fU a b c d).2 = true ∧ avalidB (fV a b c d).1 (fV a b c d).2 = true ∧ avalidB (fW e f).1 (fW e f).2 = true := by
  obtain ⟨h1, h2, h3⟩ := tri_bd h
  have l1 := lat_bd h1
  have l2 := lat_bd h2
  have l3 := aval_bd h3
  have m0 := Int.emod_nonneg e (show (21600000 : Int) ≠ 0 by omega)
  have m1 := Int.emod_lt_of_pos e (show (0 : Int) < 21600000 by omega)
  refine ⟨?_, ?_, ?_⟩
  · unfold fU
    exact avalid_mk (by dsimp only; omega) (by dsimp only; omega) (by dsimp only; omega)
  · unfold fV
    exact avalid_mk (by dsimp only; omega) (by dsimp only; omega) (by dsimp only; omega)
  · unfold fW turnL turnH
    split
    · exact avalid_mk (by dsimp only; omega) (by dsimp only; omega) (by dsimp only; omega)
    · exact avalid_mk (by dsimp only; omega) (by dsimp only; omega) (by dsimp only; omega)
theorem one4 {a b c d e f : Int} (h : triB a b c d e f = true) : OneR (hfP a b c d e f) ∧ OneR (hfQ a b c d e f) ∧ OneR (hfR a b c d e f) ∧ OneR (hfS a b c d e f) := by
  obtain ⟨u, v, w⟩ := ang_bd h
  exact ⟨mul_ones (cos_one u) (sin_one w), mul_ones (cos_one v) (cos_one w), mul_ones (sin_one u) (sin_one w), mul_ones (sin_one v) (cos_one w)⟩
theorem len_ok {r s : Int × Int × Int} (h : OneR r) (k : OneR s) : sumT r s = ((sqrR r.1 r.2.1).1 + (sqrR s.1 s.2.1).1, (sqrR r.1 r.2.1).2.1 + (sqrR s.1 s.2.1).2.1, 0) ∧ 0 ≤ (sumT r s).1 ∧ validB (sumT r s).1 (sumT r s).2.1 = true ∧ (lenT r s).2.2 = 0 ∧ 0 ≤ (lenT r s).1 ∧ validB (lenT r s).1 (lenT r s).2.1 = true := by
  obtain ⟨_, p2, p3⟩ := sqr_ones h
  obtain ⟨_, q2, q3⟩ := sqr_ones k
  have a := add_ones p2 q2
  have e : sumT r s = ((sqrR r.1 r.2.1).1 + (sqrR s.1 s.2.1).1, (sqrR r.1 r.2.1).2.1 + (sqrR s.1 s.2.1).2.1, 0) := a.1
  have v : validB (sumT r s).1 (sumT r s).2.1 = true := by
    rw [e]
    exact a.2
  have z : 0 ≤ (sumT r s).1 := by
    rw [e]
    dsimp only
    omega
  have b := val_bd v
  have q := sqt_ok z b.2.1 b.2.2
  have e2 : lenT r s = (irt ((sumT r s).1 * 1073741824), iru ((sumT r s).2.1 * 1073741824), 0) := q.1
  refine ⟨e, z, v, ?_, ?_, ?_⟩
  · rw [e2]
  · rw [e2]
    exact q.2.1
  · rw [e2]
    exact val_mk (by dsimp only; omega) q.2.2.1 q.2.2.2
theorem val4 {a b c d e f : Int} (h : triB a b c d e f = true) : validB (hfY a b c d e f).1 (hfY a b c d e f).2.1 = true ∧ validB (hfX a b c d e f).1 (hfX a b c d e f).2.1 = true ∧ 0 ≤ (hfY a b c d e f).1 ∧ 0 ≤ (hfX a b c d e f).1 := by
  obtain ⟨p, q, r, s⟩ := one4 h
  have a := len_ok r s
  have b := len_ok p q
  exact ⟨a.2.2.2.2.2, b.2.2.2.2.2, a.2.2.2.2.1, b.2.2.2.2.1⟩
end Go.Proofs.YtipjnfabodfkcaaGreatDoor
namespace Go.Proofs.YtipjnfabodfkcaaGreatDoor
open SM TB TA
end Go.Proofs.YtipjnfabodfkcaaGreatDoor
namespace Go.Proofs.YtipjnfabodfkcaaGreatDoor
open SM TB TA
end Go.Proofs.YtipjnfabodfkcaaGreatDoor
namespace Go.Proofs.YtipjnfabodfkcaaGreatDoor
open SM TB TA
end Go.Proofs.YtipjnfabodfkcaaGreatDoor
namespace Go.Proofs.YtipjnfabodfkcaaGreatDoor
open SM TB TA
end Go.Proofs.YtipjnfabodfkcaaGreatDoor
namespace Go.Proofs.YtipjnfabodfkcaaGreatDoor
open SM TB TA
end Go.Proofs.YtipjnfabodfkcaaGreatDoor

/-
  Bounds, lines of position, and crossings: what the program's functions answer, as closed forms. No program here.
-/
import Derived.Test.YtfilgpifiboccaaGreatCk
import Derived.Test.YtfilgpifiboccaaGreatFx
namespace Go.Proofs.YtfilgpifiboccaaGreat
open SM TB TA
open Ev (lt keepE)
/-- The solution by the cosine formula. -/
theorem csol_eq {a b c d e f : Int} (h : triB a b c d e f = true) : csolM a b c d e f = ((asinR (cupE a b c d e f).1 (cupE a b c d e f).2.1).1, (asinR (cupE a b c d e f).1 (cupE a b c d e f).2.1).2.1, (bearR (ceaE c d e f).1 (ceaE c d e f).2.1 (cnoE a b c d e f).1 (cnoE a b c d e f).2.1).1, (bearR (ceaE c d e f).1 (ceaE c d e f).2.1 (cnoE a b c d e f).1 (cnoE a b c d e f).2.1).2.1, 0) ∧ LatR (asinR (cupE a b c d e f).1 (cupE a b c d e f).2.1) ∧ DirR (bearR (ceaE c d e f).1 (ceaE c d e f).2.1 (cnoE a b c d e f).1 (cnoE a b c d e f).2.1) ∧ cAltM a b c d e f = asinR (cupE a b c d e f).1 (cupE a b c d e f).2.1 ∧ validB (cupE a b c d e f).1 (cupE a b c d e f).2.1 = true := by
  obtain ⟨h1, h2, h3⟩ := tri_bd h
  have l1 := lat_bd h1
  have l2 := lat_bd h2
  have l3 := aval_bd h3
  obtain ⟨e1, e2⟩ := cosine_ok h
  have v0 := cup_v h (Hs.at (Int.le_refl a) (by omega)) (Hs.at (Int.le_refl c) (by omega)) (Hs.at (Int.le_refl e) (by omega))
  obtain ⟨h', z', s'⟩ := sees (a : Rat) (c : Rat) (e : Rat)
  have L := (up_v v0.1 s').1
  have D := (az_v v0.2.2 v0.2.1 s').1
  have a1 : cAltM a b c d e f = caltM a b c d e f := by
    unfold cAltM cAltMK
    rw [h]
    rfl
  have a2 : cAziM a b c d e f = caziM a b c d e f := by
    unfold cAziM cAziMK
    rw [h]
    rfl
  refine ⟨?_, L, D, by rw [a1, e1], v0.1.2.1⟩
  unfold csolM csolMK
  rw [a1, a2, e1, e2]
  simp only [lt]
  rw [L.2.2.2, D.2.2.2.2, z0']
  rfl
end Go.Proofs.YtfilgpifiboccaaGreat

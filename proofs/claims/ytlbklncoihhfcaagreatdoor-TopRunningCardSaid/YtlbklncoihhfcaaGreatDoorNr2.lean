/-
  No ties: the runs of Euclid's algorithm, angles of the second half. A run of the kernel, of some minutes.
-/
import Derived.Test.YtlbklncoihhfcaaGreatDoorU19
set_option maxRecDepth 100000
set_option maxHeartbeats 4000000
namespace Go.Proofs.YtlbklncoihhfcaaGreatDoor
namespace NT
end NT
end Go.Proofs.YtlbklncoihhfcaaGreatDoor

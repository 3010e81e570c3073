/-
  The closed facts of the row of TopRunning.
-/
import Derived.Test.YtlbklncoihhfcaaGreatDoorTie
import Derived.Test.YtlbklncoihhfcaaGreatDoorCards
import Derived.ProofKit
import Derived.LaidMore
import Derived.OpenShut
import Derived.Stop.Joined
import Derived.SevenTiedAt
set_option maxRecDepth 100000
set_option maxHeartbeats 4000000
namespace Go.Proofs.YtlbklncoihhfcaaGreatDoor
theorem J5:Tryz.pinned.checked.prog.funcNamed Rows.topRunningRow.func=some 3:=by kernel_rfl
theorem Rp:joinedFacts Tryz.pinned.checked.prog 3 Tryz.f3 Rows.topRunningSpec Rows.topRunningRow=true:=by kernel_rfl
end Go.Proofs.YtlbklncoihhfcaaGreatDoor

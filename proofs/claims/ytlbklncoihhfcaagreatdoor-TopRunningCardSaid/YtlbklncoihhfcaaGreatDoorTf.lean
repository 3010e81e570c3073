/-
  The closed facts of the card of TopRunning.
-/
import Derived.Test.YtlbklncoihhfcaaGreatDoorTie
import Derived.Test.YtlbklncoihhfcaaGreatDoorCards
import Derived.ProofKit
import Derived.LaidMore
import Derived.OpenShut
import Derived.Stop.Joined
import Derived.SevenTiedAt
set_option maxRecDepth 100000
namespace Go.Proofs.YtlbklncoihhfcaaGreatDoor
theorem cd_wf : Rows.topRunningRow.wfByText (OpenSpec.ofChange Rows.topRunningSpec) = true := by kernel_rfl
theorem cd_main : Tryz.pinned.checked.prog.mainIs = some (true, "5442f93b15594f5a111abc80afe5709e36e753656a1284318e198eec6efb8e67".toList) := by kernel_rfl
theorem cd_looks : false = Tryz.pinned.checked.prog.looks [] := by kernel_rfl
theorem cd_goes : false = Rows.topRunningRow.goesBy Tryz.pinned.checked.prog := by kernel_rfl
end Go.Proofs.YtlbklncoihhfcaaGreatDoor

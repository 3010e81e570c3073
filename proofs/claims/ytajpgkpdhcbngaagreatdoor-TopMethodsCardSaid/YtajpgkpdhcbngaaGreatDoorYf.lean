/-
  The run of region.Around at the example.
-/
import Derived.Test.YtajpgkpdhcbngaaGreatDoorYm
set_option maxRecDepth 100000
set_option maxHeartbeats 4000000
namespace Go.Proofs.YtajpgkpdhcbngaaGreatDoor
open Ev
theorem aro30:fI Tryz.prog 142 [plaA 0 3000000 0 5400000,intA 4] [] (.t [.o [6,4,4,1,5,4,2,1,2,5,4,1,5,4,2,1,2,5,4,1,5,12,2,1,2,5,4,1,5,16,2,1,2,5,3,11] 3 0 30,.v (.int .i64 0)]) [([6,4,4,1,5,4,2,1,2,5,4,1,5,4,2,1,2,5,4,1,5,12,2,1,2,5,4,1,5,16,2,1,2,5,3,11],⟨gR mN,197⟩)]:=nC (d:=30) (lim:=100) yC bkM_ok (by kernel_rfl)
end Go.Proofs.YtajpgkpdhcbngaaGreatDoor

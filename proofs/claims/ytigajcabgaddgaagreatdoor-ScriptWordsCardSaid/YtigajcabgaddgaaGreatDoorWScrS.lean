/-
 shown() of the scripts, reckoned by the kernel.
-/
import Derived.Test.YtigajcabgaddgaaGreatDoorWCels
import Derived.Test.YtigajcabgaddgaaGreatDoorWEvF
set_option maxRecDepth 100000
set_option maxHeartbeats 8000000
namespace Go.Proofs.YtigajcabgaddgaaGreatDoor
open Go.RowKit
theorem shown22_runs : okTrue ((evC Tryz.prog G1 I1 80).fn 4 [] es0) = true := by kernel_rfl
end Go.Proofs.YtigajcabgaddgaaGreatDoor

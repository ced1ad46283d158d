/- BuildOrder, run: turn 1. -/
import Derived.Test.YtmdjibkgnmjhbaaGreatDoorMBuildOrder5
import Derived.Test.YtmdjibkgnmjhbaaGreatDoorMBuildOrder4
import Derived.Test.YtmdjibkgnmjhbaaGreatDoorMBuildOrder3
import Derived.Test.YtmdjibkgnmjhbaaGreatDoorMBuildOrder2
import Derived.Test.YtmdjibkgnmjhbaaGreatDoorMBuildOrder1
import Derived.Test.YtmdjibkgnmjhbaaGreatDoorMBuildOrder0
import Derived.Test.YtmdjibkgnmjhbaaGreatDoorMBuildOrder6
import Derived.KernelRfl
namespace Go.Proofs.YtmdjibkgnmjhbaaGreatDoor
open Go Go.RowKit Go.Proofs.YtmdjibkgnmjhbaaGreatDoor.Abs
set_option maxRecDepth 1000000 in
theorem bo_run1a (e1 e2 e3 e4 e5 e6 : Nat) : runBo e1 e2 e3 e4 e5 e6 1 0 = true := by kernel_rfl
set_option maxRecDepth 1000000 in
theorem bo_run1b (e1 e2 e3 e4 e5 e6 : Nat) : runBo e1 e2 e3 e4 e5 e6 1 1 = true := by kernel_rfl
end Go.Proofs.YtmdjibkgnmjhbaaGreatDoor

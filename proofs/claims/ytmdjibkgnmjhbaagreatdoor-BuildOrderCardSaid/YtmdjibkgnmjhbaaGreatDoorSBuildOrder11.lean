/- The closed facts of the row of BuildOrder. -/
import Derived.Test.YtmdjibkgnmjhbaaGreatDoorRows
import Derived.JoinedOf
import Derived.KernelRfl
import Derived.Test.YtmdjibkgnmjhbaaGreatDoorSBuildOrder7
import Derived.Test.YtmdjibkgnmjhbaaGreatDoorSBuildOrder8
import Derived.Test.YtmdjibkgnmjhbaaGreatDoorSBuildOrder9
import Derived.Test.YtmdjibkgnmjhbaaGreatDoorSBuildOrder10
namespace Go.Proofs.YtmdjibkgnmjhbaaGreatDoor.buildOrder
open Go Go.Proofs.YtmdjibkgnmjhbaaGreatDoor
theorem closed : joinedFacts Tryz.pinned.checked.prog 6 Tryz.f6 Rows.buildOrderSpec Rows.buildOrderRow = true := by
  unfold joinedFacts
  rw [factA, factB, factC, factD]
  kernel_rfl
end Go.Proofs.YtmdjibkgnmjhbaaGreatDoor.buildOrder

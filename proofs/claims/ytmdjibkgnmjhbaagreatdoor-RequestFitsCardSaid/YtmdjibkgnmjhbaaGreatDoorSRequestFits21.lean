/- The closed facts of the row of RequestFits. -/
import Derived.Test.YtmdjibkgnmjhbaaGreatDoorRows
import Derived.JoinedOf
import Derived.KernelRfl
import Derived.Test.YtmdjibkgnmjhbaaGreatDoorSRequestFits17
import Derived.Test.YtmdjibkgnmjhbaaGreatDoorSRequestFits18
import Derived.Test.YtmdjibkgnmjhbaaGreatDoorSRequestFits19
import Derived.Test.YtmdjibkgnmjhbaaGreatDoorSRequestFits20
namespace Go.Proofs.YtmdjibkgnmjhbaaGreatDoor.requestFits
open Go Go.Proofs.YtmdjibkgnmjhbaaGreatDoor
theorem closed : joinedFacts Tryz.pinned.checked.prog 4 Tryz.f4 Rows.requestFitsSpec Rows.requestFitsRow = true := by
  unfold joinedFacts
  rw [factA, factB, factC, factD]
  kernel_rfl
end Go.Proofs.YtmdjibkgnmjhbaaGreatDoor.requestFits

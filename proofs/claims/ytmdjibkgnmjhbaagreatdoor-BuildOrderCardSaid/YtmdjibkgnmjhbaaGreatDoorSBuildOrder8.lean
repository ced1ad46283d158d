/- One of the closed facts of the row of BuildOrder. -/
import Derived.Test.YtmdjibkgnmjhbaaGreatDoorRows
import Derived.JoinedOf
import Derived.KernelRfl
namespace Go.Proofs.YtmdjibkgnmjhbaaGreatDoor.buildOrder
open Go Go.Proofs.YtmdjibkgnmjhbaaGreatDoor
theorem factB : (Rows.buildOrderRow.unfollowed == Tryz.pinned.checked.prog.unfollowed 6) = true := by kernel_rfl
end Go.Proofs.YtmdjibkgnmjhbaaGreatDoor.buildOrder

/- One of the closed facts of the row of RequestFits. -/
import Derived.Test.YtmdjibkgnmjhbaaGreatDoorRows
import Derived.JoinedOf
import Derived.KernelRfl
namespace Go.Proofs.YtmdjibkgnmjhbaaGreatDoor.requestFits
open Go Go.Proofs.YtmdjibkgnmjhbaaGreatDoor
theorem factA : (Rows.requestFitsRow.inPlace == Tryz.pinned.checked.prog.inPlace 4) = true := by kernel_rfl
end Go.Proofs.YtmdjibkgnmjhbaaGreatDoor.requestFits

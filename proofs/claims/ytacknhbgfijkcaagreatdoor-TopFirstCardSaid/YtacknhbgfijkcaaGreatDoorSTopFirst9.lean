/- One of the closed facts of the row of TopFirst. -/
import Derived.Test.YtacknhbgfijkcaaGreatDoorRows
import Derived.JoinedOf
import Derived.KernelRfl
set_option linter.unusedSimpArgs false
set_option linter.unusedVariables false
namespace Go.Proofs.YtacknhbgfijkcaaGreatDoor.topFirst
open Go Go.Proofs.YtacknhbgfijkcaaGreatDoor
theorem factB : (Rows.topFirstRow.unfollowed == Tryz.pinned.checked.prog.unfollowed 3) = true:=by kernel_rfl
end Go.Proofs.YtacknhbgfijkcaaGreatDoor.topFirst

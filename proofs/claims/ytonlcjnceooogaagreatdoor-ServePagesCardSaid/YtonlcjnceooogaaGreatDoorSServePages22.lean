/- One of the closed facts of the row of ServePages. -/
import Derived.Test.YtonlcjnceooogaaGreatDoorRows
import Derived.JoinedOf
import Derived.KernelRfl
namespace Go.Proofs.YtonlcjnceooogaaGreatDoor.servePages
open Go Go.Proofs.YtonlcjnceooogaaGreatDoor
theorem factB : (Rows.servePagesRow.unfollowed == Tryz.pinned.checked.prog.unfollowed 5) = true := by kernel_rfl
end Go.Proofs.YtonlcjnceooogaaGreatDoor.servePages

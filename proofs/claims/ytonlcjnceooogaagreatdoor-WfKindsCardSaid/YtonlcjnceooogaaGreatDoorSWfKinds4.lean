/- WfKinds, run: the name 4 at each of the eleven places. -/
import Derived.Test.YtonlcjnceooogaaGreatDoorMWfKinds4
import Derived.Test.YtonlcjnceooogaaGreatDoorMWfKinds3
import Derived.Test.YtonlcjnceooogaaGreatDoorMWfKinds2
import Derived.Test.YtonlcjnceooogaaGreatDoorMWfKinds1
import Derived.Test.YtonlcjnceooogaaGreatDoorMWfKinds0
import Derived.Test.YtonlcjnceooogaaGreatDoorMWfKinds5
import Derived.KernelRfl
namespace Go.Proofs.YtonlcjnceooogaaGreatDoor
open Go Go.RowKit Go.Proofs.YtonlcjnceooogaaGreatDoor.Abs
set_option maxRecDepth 1000000 in
theorem wk_run4 (e1 e2 e3 e4 : Nat) : runWk e1 e2 e3 e4 4 = true := by kernel_rfl
end Go.Proofs.YtonlcjnceooogaaGreatDoor

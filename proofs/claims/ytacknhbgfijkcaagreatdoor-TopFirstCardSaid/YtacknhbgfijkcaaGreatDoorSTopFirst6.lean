/- TopFirst, run: order 5. -/
import Derived.Test.YtacknhbgfijkcaaGreatDoorMTopFirst6
import Derived.Test.YtacknhbgfijkcaaGreatDoorMTopFirst5
import Derived.Test.YtacknhbgfijkcaaGreatDoorMTopFirst4
import Derived.Test.YtacknhbgfijkcaaGreatDoorMTopFirst3
import Derived.Test.YtacknhbgfijkcaaGreatDoorMTopFirst2
import Derived.Test.YtacknhbgfijkcaaGreatDoorMTopFirst1
import Derived.Test.YtacknhbgfijkcaaGreatDoorMTopFirst0
import Derived.Test.YtacknhbgfijkcaaGreatDoorMTopFirst7
import Derived.KernelRfl
set_option linter.unusedSimpArgs false
set_option linter.unusedVariables false
namespace Go.Proofs.YtacknhbgfijkcaaGreatDoor
open Go Go.RowKit Go.Proofs.YtacknhbgfijkcaaGreatDoor.Abs
set_option maxHeartbeats 100000000 in
set_option maxRecDepth 1000000 in
theorem tf_run5 (e1 e2 e3 e4 e5 e6 e7 : Nat) : runTf e1 e2 e3 e4 e5 e6 e7 5 = true:=by kernel_rfl
end Go.Proofs.YtacknhbgfijkcaaGreatDoor

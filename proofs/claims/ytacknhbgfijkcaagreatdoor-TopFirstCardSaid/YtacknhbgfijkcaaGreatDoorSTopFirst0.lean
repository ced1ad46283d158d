/- The Tops: awake is run. -/
import Derived.Test.YtacknhbgfijkcaaGreatDoorMTopFirst6
import Derived.Test.YtacknhbgfijkcaaGreatDoorMTopFirst5
import Derived.Test.YtacknhbgfijkcaaGreatDoorMTopFirst4
import Derived.Test.YtacknhbgfijkcaaGreatDoorMTopFirst3
import Derived.Test.YtacknhbgfijkcaaGreatDoorMTopFirst2
import Derived.Test.YtacknhbgfijkcaaGreatDoorMTopFirst1
import Derived.Test.YtacknhbgfijkcaaGreatDoorMTopFirst0
import Derived.Test.YtacknhbgfijkcaaGreatDoorMTopFirst7
set_option linter.unusedSimpArgs false
set_option linter.unusedVariables false
namespace Go.Proofs.YtacknhbgfijkcaaGreatDoor
open Go Go.RowKit Go.Proofs.YtacknhbgfijkcaaGreatDoor.Abs
set_option maxHeartbeats 100000000 in
set_option maxRecDepth 1000000 in
theorem awakeT_run (e1 e2 e3 e4 e5 e6 e7 : Nat) : app noF 0 (knot tabTA 60 12 0) [] (hT e1 e2 e3 e4 e5 e6 e7) kTrue = true:=by kernel_rfl
end Go.Proofs.YtacknhbgfijkcaaGreatDoor

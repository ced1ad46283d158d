/- The closed facts of the row of TopFirst. -/
import Derived.Test.YtacknhbgfijkcaaGreatDoorRows
import Derived.JoinedOf
import Derived.KernelRfl
import Derived.Test.YtacknhbgfijkcaaGreatDoorSTopFirst8
import Derived.Test.YtacknhbgfijkcaaGreatDoorSTopFirst9
import Derived.Test.YtacknhbgfijkcaaGreatDoorSTopFirst10
import Derived.Test.YtacknhbgfijkcaaGreatDoorSTopFirst11
set_option linter.unusedSimpArgs false
set_option linter.unusedVariables false
namespace Go.Proofs.YtacknhbgfijkcaaGreatDoor.topFirst
open Go Go.Proofs.YtacknhbgfijkcaaGreatDoor
theorem closed : joinedFacts Tryz.pinned.checked.prog 3 Tryz.f3 Rows.topFirstSpec Rows.topFirstRow = true:=by
 unfold joinedFacts
 rw [factA, factB, factC, factD]
 kernel_rfl
end Go.Proofs.YtacknhbgfijkcaaGreatDoor.topFirst

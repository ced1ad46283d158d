/- A closed fact of the card of TopFirst. -/
import Derived.Test.YtacknhbgfijkcaaGreatDoorCards
import Derived.Test.YtacknhbgfijkcaaGreatDoorTie
import Derived.KernelRfl
import Derived.SevenTiedAt
set_option linter.unusedSimpArgs false
set_option linter.unusedVariables false
namespace Go.Proofs.YtacknhbgfijkcaaGreatDoor
open Go
set_option maxRecDepth 100000 in
theorem topFirstCfD : false = Rows.topFirstRow.goesBy Tryz.pinned.checked.prog:=by kernel_rfl
end Go.Proofs.YtacknhbgfijkcaaGreatDoor

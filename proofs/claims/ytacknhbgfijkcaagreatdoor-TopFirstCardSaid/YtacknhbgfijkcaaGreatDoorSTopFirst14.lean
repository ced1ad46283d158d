/- A closed fact of the card of TopFirst. -/
import Derived.Test.YtacknhbgfijkcaaGreatDoorCards
import Derived.Test.YtacknhbgfijkcaaGreatDoorTie
import Derived.KernelRfl
import Derived.SevenTiedAt
set_option linter.unusedSimpArgs false
set_option linter.unusedVariables false
namespace Go.Proofs.YtacknhbgfijkcaaGreatDoor
open Go
set_option maxRecDepth 100000 in
theorem topFirstCfA : Rows.topFirstRow.wfByText (OpenSpec.ofChange Rows.topFirstSpec) = true:=by kernel_rfl
end Go.Proofs.YtacknhbgfijkcaaGreatDoor

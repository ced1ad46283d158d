/- A closed fact of the card of TopFirst. -/
import Derived.Test.YtacknhbgfijkcaaGreatDoorCards
import Derived.Test.YtacknhbgfijkcaaGreatDoorTie
import Derived.KernelRfl
import Derived.SevenTiedAt
set_option linter.unusedSimpArgs false
set_option linter.unusedVariables false
namespace Go.Proofs.YtacknhbgfijkcaaGreatDoor
open Go
set_option maxRecDepth 100000 in
theorem topFirstCfB : Tryz.pinned.checked.prog.mainIs = some (true, "de4c3ed68d77f15170bc3bd756072c4b69b61f911334d32ba3edcef6732c67ba".toList) := by kernel_rfl
end Go.Proofs.YtacknhbgfijkcaaGreatDoor

/- The row of TopFirst. -/
import Derived.Test.YtacknhbgfijkcaaGreatDoorMTopFirst7
import Derived.Test.YtacknhbgfijkcaaGreatDoorMTopFirst6
import Derived.Test.YtacknhbgfijkcaaGreatDoorMTopFirst5
import Derived.Test.YtacknhbgfijkcaaGreatDoorMTopFirst4
import Derived.Test.YtacknhbgfijkcaaGreatDoorMTopFirst2
import Derived.Test.YtacknhbgfijkcaaGreatDoorMTopFirst1
import Derived.Test.YtacknhbgfijkcaaGreatDoorMTopFirst0
import Derived.Test.YtacknhbgfijkcaaGreatDoorCards
import Derived.Test.YtacknhbgfijkcaaGreatDoorTie
import Derived.Test.YtacknhbgfijkcaaGreatDoorMTopFirst8
import Derived.Test.YtacknhbgfijkcaaGreatDoorMTopFirst8
import Derived.WalkKit
import Derived.ProofKit
import Derived.OpenShut
import Derived.ShutString
import Derived.ChangeOld
import Derived.Below
import Derived.SizedLaws
import Derived.Test.YtacknhbgfijkcaaGreatDoorMTopFirst3
import Derived.Test.YtacknhbgfijkcaaGreatDoorMTopFirst8
import Derived.Test.YtacknhbgfijkcaaGreatDoorMTopFirst8
import Derived.LaidMore
import Derived.Lay
import Derived.LaidOnce
import Derived.Test.YtacknhbgfijkcaaGreatDoorSTopFirst7
import Derived.Test.YtacknhbgfijkcaaGreatDoorSTopFirst12
import Derived.JoinedOf
import Derived.KernelRfl
import Derived.SevenTiedAt
set_option linter.unusedSimpArgs false
set_option linter.unusedVariables false
namespace Go.Proofs.YtacknhbgfijkcaaGreatDoor.topFirst
open Go.ChangeShapes Go.WideShapes Go.ChangeAt Go.RowKit Go.Proofs.YtacknhbgfijkcaaGreatDoor Go.Proofs.YtacknhbgfijkcaaGreatDoorW.PrintWords
open Go.ChangeMaps (open_string shut_string)
theorem over : Rows.topFirstRow.holds Tryz.pinned (OpenSpec.ofChange Rows.topFirstSpec) :=
 OpenClaim.holds_of_wide 3 Tryz.f3 rfl rfl rfl rfl rfl rfl rfl ⟨rfl, rfl, rfl, rfl, rfl⟩ rfl rfl rfl rfl rfl (by kernel_rfl) Tryz.func3 closed
   (of_decide_eq_true (by kernel_rfl)) (by unfold Func.isWrapper; first | (rw [if_pos (by decide +kernel)]; kernel_rfl) | (rw [if_neg (by decide +kernel)]; exact ⟨rfl, rfl⟩))
   (fun os started H enc _ => lifted os started H enc)
end Go.Proofs.YtacknhbgfijkcaaGreatDoor.topFirst

/- The row of BuildOrder. -/
import Derived.Test.YtmdjibkgnmjhbaaGreatDoorMBuildOrder6
import Derived.Test.YtmdjibkgnmjhbaaGreatDoorMBuildOrder5
import Derived.Test.YtmdjibkgnmjhbaaGreatDoorMBuildOrder4
import Derived.Test.YtmdjibkgnmjhbaaGreatDoorMBuildOrder2
import Derived.Test.YtmdjibkgnmjhbaaGreatDoorMBuildOrder1
import Derived.Test.YtmdjibkgnmjhbaaGreatDoorMBuildOrder0
import Derived.Test.YtmdjibkgnmjhbaaGreatDoorCards
import Derived.Test.YtmdjibkgnmjhbaaGreatDoorTie
import Derived.Test.YtmdjibkgnmjhbaaGreatDoorMBuildOrder7
import Derived.Test.YtmdjibkgnmjhbaaGreatDoorMBuildOrder7
import Derived.WalkKit
import Derived.ProofKit
import Derived.OpenShut
import Derived.ShutString
import Derived.ChangeOld
import Derived.Below
import Derived.SizedLaws
import Derived.Test.YtmdjibkgnmjhbaaGreatDoorMBuildOrder3
import Derived.Test.YtmdjibkgnmjhbaaGreatDoorMBuildOrder7
import Derived.Test.YtmdjibkgnmjhbaaGreatDoorMBuildOrder7
import Derived.LaidMore
import Derived.Lay
import Derived.LaidOnce
import Derived.Test.YtmdjibkgnmjhbaaGreatDoorSBuildOrder6
import Derived.Test.YtmdjibkgnmjhbaaGreatDoorSBuildOrder11
import Derived.JoinedOf
import Derived.KernelRfl
import Derived.SevenTiedAt
namespace Go.Proofs.YtmdjibkgnmjhbaaGreatDoor.buildOrder
open Go.ChangeShapes Go.WideShapes Go.ChangeAt Go.RowKit Go.Proofs.YtmdjibkgnmjhbaaGreatDoor Go.Proofs.YtmdjibkgnmjhbaaGreatDoorW.PrintWords
open Go.ChangeMaps (open_string shut_string)
set_option linter.unusedVariables false

theorem over : Rows.buildOrderRow.holds Tryz.pinned (OpenSpec.ofChange Rows.buildOrderSpec) :=
  OpenClaim.holds_of_wide 6 Tryz.f6 rfl rfl rfl rfl rfl rfl rfl ⟨rfl, rfl, rfl, rfl, rfl⟩ rfl rfl rfl rfl rfl (by kernel_rfl) Tryz.func6 closed
    (of_decide_eq_true (by kernel_rfl)) (by unfold Func.isWrapper; first | (rw [if_pos (by decide +kernel)]; kernel_rfl) | (rw [if_neg (by decide +kernel)]; exact ⟨rfl, rfl⟩))
    (fun os started H enc _ => lifted os started H enc)
end Go.Proofs.YtmdjibkgnmjhbaaGreatDoor.buildOrder

/- The row of RequestFits. -/
import Derived.Test.YtmdjibkgnmjhbaaGreatDoorMRequestFits7
import Derived.Test.YtmdjibkgnmjhbaaGreatDoorMRequestFits6
import Derived.Test.YtmdjibkgnmjhbaaGreatDoorMRequestFits5
import Derived.Test.YtmdjibkgnmjhbaaGreatDoorMRequestFits4
import Derived.Test.YtmdjibkgnmjhbaaGreatDoorMRequestFits2
import Derived.Test.YtmdjibkgnmjhbaaGreatDoorMRequestFits1
import Derived.Test.YtmdjibkgnmjhbaaGreatDoorMRequestFits0
import Derived.Test.YtmdjibkgnmjhbaaGreatDoorCards
import Derived.Test.YtmdjibkgnmjhbaaGreatDoorTie
import Derived.Test.YtmdjibkgnmjhbaaGreatDoorMRequestFits8
import Derived.Test.YtmdjibkgnmjhbaaGreatDoorMRequestFits8
import Derived.WalkKit
import Derived.ProofKit
import Derived.OpenShut
import Derived.ShutString
import Derived.ChangeOld
import Derived.Below
import Derived.SizedLaws
import Derived.Test.YtmdjibkgnmjhbaaGreatDoorMRequestFits3
import Derived.Test.YtmdjibkgnmjhbaaGreatDoorMRequestFits8
import Derived.Test.YtmdjibkgnmjhbaaGreatDoorMRequestFits8
import Derived.LaidMore
import Derived.Lay
import Derived.LaidOnce
import Derived.Test.YtmdjibkgnmjhbaaGreatDoorSRequestFits16
import Derived.Test.YtmdjibkgnmjhbaaGreatDoorSRequestFits21
import Derived.JoinedOf
import Derived.KernelRfl
import Derived.SevenTiedAt
namespace Go.Proofs.YtmdjibkgnmjhbaaGreatDoor.requestFits
open Go.ChangeShapes Go.WideShapes Go.ChangeAt Go.RowKit Go.Proofs.YtmdjibkgnmjhbaaGreatDoor Go.Proofs.YtmdjibkgnmjhbaaGreatDoorW.PrintWords
open Go.ChangeMaps (open_string shut_string)
set_option linter.unusedVariables false

theorem over : Rows.requestFitsRow.holds Tryz.pinned (OpenSpec.ofChange Rows.requestFitsSpec) :=
  OpenClaim.holds_of_wide 4 Tryz.f4 rfl rfl rfl rfl rfl rfl rfl ⟨rfl, rfl, rfl, rfl, rfl⟩ rfl rfl rfl rfl rfl (by kernel_rfl) Tryz.func4 closed
    (of_decide_eq_true (by kernel_rfl)) (by unfold Func.isWrapper; first | (rw [if_pos (by decide +kernel)]; kernel_rfl) | (rw [if_neg (by decide +kernel)]; exact ⟨rfl, rfl⟩))
    (fun os started H enc _ => lifted os started H enc)
end Go.Proofs.YtmdjibkgnmjhbaaGreatDoor.requestFits

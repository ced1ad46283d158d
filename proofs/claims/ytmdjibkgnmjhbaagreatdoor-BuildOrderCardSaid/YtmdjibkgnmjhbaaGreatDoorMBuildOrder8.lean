/- BuildOrder: part 8 of its proof: CardBuildOrder. -/
import Derived.Test.YtmdjibkgnmjhbaaGreatDoorCards
import Derived.Test.YtmdjibkgnmjhbaaGreatDoorTie
import Derived.Test.YtmdjibkgnmjhbaaGreatDoorMBuildOrder7
import Derived.WalkKit
import Derived.ProofKit
import Derived.OpenShut
import Derived.ShutString
import Derived.ChangeOld
import Derived.Below
import Derived.SizedLaws
import Derived.Test.YtmdjibkgnmjhbaaGreatDoorMBuildOrder3
import Derived.LaidMore
import Derived.Lay
import Derived.LaidOnce
import Derived.Test.YtmdjibkgnmjhbaaGreatDoorSBuildOrder6
import Derived.Test.YtmdjibkgnmjhbaaGreatDoorSBuildOrder7
import Derived.Test.YtmdjibkgnmjhbaaGreatDoorSBuildOrder8
import Derived.Test.YtmdjibkgnmjhbaaGreatDoorSBuildOrder9
import Derived.Test.YtmdjibkgnmjhbaaGreatDoorSBuildOrder10
import Derived.Test.YtmdjibkgnmjhbaaGreatDoorSBuildOrder11
import Derived.Test.YtmdjibkgnmjhbaaGreatDoorSBuildOrder12
import Derived.JoinedOf
import Derived.KernelRfl
import Derived.SevenTiedAt
import Derived.Test.YtmdjibkgnmjhbaaGreatDoorMBuildOrder0
import Derived.Test.YtmdjibkgnmjhbaaGreatDoorMBuildOrder1
import Derived.Test.YtmdjibkgnmjhbaaGreatDoorMBuildOrder2
import Derived.Test.YtmdjibkgnmjhbaaGreatDoorMBuildOrder4
import Derived.Test.YtmdjibkgnmjhbaaGreatDoorMBuildOrder5
import Derived.Test.YtmdjibkgnmjhbaaGreatDoorMBuildOrder6
section
/- BuildOrder: the tied card of BuildOrder: for every input the law answers true, and its arguments read as before; the listed variables hold what the program's text lays. Proved from the walk and the pure statement. -/
namespace Go.Proofs.YtmdjibkgnmjhbaaGreatDoor.buildOrder
open Go.ChangeShapes Go.WideShapes Go.ChangeAt Go.RowKit Go.Proofs.YtmdjibkgnmjhbaaGreatDoor Go.Proofs.YtmdjibkgnmjhbaaGreatDoorW.PrintWords
open Go.ChangeMaps (open_string shut_string)
set_option linter.unusedVariables false

theorem proved : Rows.BuildOrderSaid := over
end Go.Proofs.YtmdjibkgnmjhbaaGreatDoor.buildOrder
namespace Go.Proofs.YtmdjibkgnmjhbaaGreatDoor
open Go
theorem buildOrder_holds : Rows.BuildOrderSaid := buildOrder.proved
theorem buildOrder_card : Rows.BuildOrderCardSaid :=
  Claim7.holds_tied_plain_at .later [] [.data, .data, .data, .data, .sentinel, .sentinel, .mapped, .data, .mapped, .mapped, .mapped, .mapped, .pinned] true (true, "972de7c3d67d68dbc822e9e0825e49027f747b5748a4fe978ef5979aef72cf66") true
    buildOrder_holds (fun _ h => by cases h) (by kernel_rfl) (fun _ h => by cases h) buildOrder_row_tie rfl ⟨rfl, rfl⟩ (by kernel_rfl) rfl
    (fun f fn hf hfn => by
      obtain rfl : f = 6 := Option.some.inj ((show Tryz.prog.funcNamed "moat/moatlaw13.BuildOrder" = some 6 by kernel_rfl).symm.trans hf) |>.symm
      obtain rfl : fn = Tryz.f6 := (Option.some.inj (Tryz.func6.symm.trans hfn)).symm
      exact ⟨by kernel_rfl, fun j t ht => by
        rw [Tryz.params6] at ht
        have hm : t ∈ [3] := by
          have hin := Array.mem_def.1 (Array.mem_of_getElem? ht)
          exact (show ∀ u ∈ ([3, 3] : List TypeId), u ∈ ([3] : List TypeId) by decide) t hin
        have hall : ([3].all fun u => !Tryz.prog.wantsStandIn u) = true := by kernel_rfl
        exact (show Tryz.prog.wantsStandIn t = false by simpa using List.all_eq_true.1 hall t hm)⟩)
    (by kernel_rfl)
end Go.Proofs.YtmdjibkgnmjhbaaGreatDoor
end
#print axioms Go.Proofs.YtmdjibkgnmjhbaaGreatDoor.buildOrder_card

/- RequestFits: part 9 of its proof: CardRequestFits. -/
import Derived.Test.YtmdjibkgnmjhbaaGreatDoorCards
import Derived.Test.YtmdjibkgnmjhbaaGreatDoorTie
import Derived.Test.YtmdjibkgnmjhbaaGreatDoorMRequestFits8
import Derived.WalkKit
import Derived.ProofKit
import Derived.OpenShut
import Derived.ShutString
import Derived.ChangeOld
import Derived.Below
import Derived.SizedLaws
import Derived.Test.YtmdjibkgnmjhbaaGreatDoorMRequestFits3
import Derived.LaidMore
import Derived.Lay
import Derived.LaidOnce
import Derived.Test.YtmdjibkgnmjhbaaGreatDoorSRequestFits16
import Derived.Test.YtmdjibkgnmjhbaaGreatDoorSRequestFits17
import Derived.Test.YtmdjibkgnmjhbaaGreatDoorSRequestFits18
import Derived.Test.YtmdjibkgnmjhbaaGreatDoorSRequestFits19
import Derived.Test.YtmdjibkgnmjhbaaGreatDoorSRequestFits20
import Derived.Test.YtmdjibkgnmjhbaaGreatDoorSRequestFits21
import Derived.Test.YtmdjibkgnmjhbaaGreatDoorSRequestFits22
import Derived.JoinedOf
import Derived.KernelRfl
import Derived.SevenTiedAt
import Derived.Test.YtmdjibkgnmjhbaaGreatDoorMRequestFits0
import Derived.Test.YtmdjibkgnmjhbaaGreatDoorMRequestFits1
import Derived.Test.YtmdjibkgnmjhbaaGreatDoorMRequestFits2
import Derived.Test.YtmdjibkgnmjhbaaGreatDoorMRequestFits4
import Derived.Test.YtmdjibkgnmjhbaaGreatDoorMRequestFits5
import Derived.Test.YtmdjibkgnmjhbaaGreatDoorMRequestFits6
import Derived.Test.YtmdjibkgnmjhbaaGreatDoorMRequestFits7
section
/- RequestFits: the tied card of RequestFits: for every input the law answers true, and its arguments read as before; the listed variables hold what the program's text lays. Proved from the walk and the pure statement. -/
namespace Go.Proofs.YtmdjibkgnmjhbaaGreatDoor.requestFits
open Go.ChangeShapes Go.WideShapes Go.ChangeAt Go.RowKit Go.Proofs.YtmdjibkgnmjhbaaGreatDoor Go.Proofs.YtmdjibkgnmjhbaaGreatDoorW.PrintWords
open Go.ChangeMaps (open_string shut_string)
set_option linter.unusedVariables false

theorem proved : Rows.RequestFitsSaid := over
end Go.Proofs.YtmdjibkgnmjhbaaGreatDoor.requestFits
namespace Go.Proofs.YtmdjibkgnmjhbaaGreatDoor
open Go
theorem requestFits_holds : Rows.RequestFitsSaid := requestFits.proved
theorem requestFits_card : Rows.RequestFitsCardSaid :=
  Claim7.holds_tied_plain_at .later [] [.data, .data, .data, .data, .sentinel, .sentinel, .mapped, .data, .mapped, .mapped, .mapped, .mapped, .pinned] true (true, "972de7c3d67d68dbc822e9e0825e49027f747b5748a4fe978ef5979aef72cf66") true
    requestFits_holds (fun _ h => by cases h) (by kernel_rfl) (fun _ h => by cases h) requestFits_row_tie rfl ⟨rfl, rfl⟩ (by kernel_rfl) rfl
    (fun f fn hf hfn => by
      obtain rfl : f = 4 := Option.some.inj ((show Tryz.prog.funcNamed "moat/moatlaw17.RequestFits" = some 4 by kernel_rfl).symm.trans hf) |>.symm
      obtain rfl : fn = Tryz.f4 := (Option.some.inj (Tryz.func4.symm.trans hfn)).symm
      exact ⟨by kernel_rfl, fun j t ht => by
        rw [Tryz.params4] at ht
        have hm : t ∈ [3, 4] := by
          have hin := Array.mem_def.1 (Array.mem_of_getElem? ht)
          exact (show ∀ u ∈ ([3, 3, 3, 4, 3, 3] : List TypeId), u ∈ ([3, 4] : List TypeId) by decide) t hin
        have hall : ([3, 4].all fun u => !Tryz.prog.wantsStandIn u) = true := by kernel_rfl
        exact (show Tryz.prog.wantsStandIn t = false by simpa using List.all_eq_true.1 hall t hm)⟩)
    (by kernel_rfl)
end Go.Proofs.YtmdjibkgnmjhbaaGreatDoor
end
#print axioms Go.Proofs.YtmdjibkgnmjhbaaGreatDoor.requestFits_card

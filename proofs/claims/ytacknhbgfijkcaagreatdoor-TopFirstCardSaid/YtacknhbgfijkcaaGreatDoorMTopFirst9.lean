/- TopFirst: part 9 of its proof: CardTopFirst. -/
import Derived.Test.YtacknhbgfijkcaaGreatDoorCards
import Derived.Test.YtacknhbgfijkcaaGreatDoorTie
import Derived.Test.YtacknhbgfijkcaaGreatDoorMTopFirst8
import Derived.WalkKit
import Derived.ProofKit
import Derived.OpenShut
import Derived.ShutString
import Derived.ChangeOld
import Derived.Below
import Derived.SizedLaws
import Derived.Test.YtacknhbgfijkcaaGreatDoorMTopFirst3
import Derived.LaidMore
import Derived.Lay
import Derived.LaidOnce
import Derived.Test.YtacknhbgfijkcaaGreatDoorSTopFirst7
import Derived.Test.YtacknhbgfijkcaaGreatDoorSTopFirst8
import Derived.Test.YtacknhbgfijkcaaGreatDoorSTopFirst9
import Derived.Test.YtacknhbgfijkcaaGreatDoorSTopFirst10
import Derived.Test.YtacknhbgfijkcaaGreatDoorSTopFirst11
import Derived.Test.YtacknhbgfijkcaaGreatDoorSTopFirst12
import Derived.Test.YtacknhbgfijkcaaGreatDoorSTopFirst13
import Derived.Test.YtacknhbgfijkcaaGreatDoorSTopFirst14
import Derived.Test.YtacknhbgfijkcaaGreatDoorSTopFirst15
import Derived.Test.YtacknhbgfijkcaaGreatDoorSTopFirst16
import Derived.Test.YtacknhbgfijkcaaGreatDoorSTopFirst17
import Derived.JoinedOf
import Derived.KernelRfl
import Derived.SevenTiedAt
import Derived.Test.YtacknhbgfijkcaaGreatDoorMTopFirst0
import Derived.Test.YtacknhbgfijkcaaGreatDoorMTopFirst1
import Derived.Test.YtacknhbgfijkcaaGreatDoorMTopFirst2
import Derived.Test.YtacknhbgfijkcaaGreatDoorMTopFirst4
import Derived.Test.YtacknhbgfijkcaaGreatDoorMTopFirst5
import Derived.Test.YtacknhbgfijkcaaGreatDoorMTopFirst6
import Derived.Test.YtacknhbgfijkcaaGreatDoorMTopFirst7
set_option linter.unusedSimpArgs false
set_option linter.unusedVariables false
set_option linter.unusedSectionVars false
section
/- TopFirst: the tied card of TopFirst: for every input the law answers true, and its arguments read as before; the listed variables hold what the program's text lays. Proved from the walk and the pure statement. -/
namespace Go.Proofs.YtacknhbgfijkcaaGreatDoor.topFirst
open Go.ChangeShapes Go.WideShapes Go.ChangeAt Go.RowKit Go.Proofs.YtacknhbgfijkcaaGreatDoor Go.Proofs.YtacknhbgfijkcaaGreatDoorW.PrintWords
open Go.ChangeMaps (open_string shut_string)
theorem proved : Rows.TopFirstSaid:=over
end Go.Proofs.YtacknhbgfijkcaaGreatDoor.topFirst
namespace Go.Proofs.YtacknhbgfijkcaaGreatDoor
open Go
theorem topFirst_holds : Rows.TopFirstSaid:=topFirst.proved
theorem topFirst_card : Rows.TopFirstCardSaid :=
 Claim7.holds_tied_plain_at .later [] [.data, .data, .data, .data, .sentinel, .sentinel, .mapped, .data, .mapped, .mapped, .mapped, .mapped, .mapped, .data, .pinned] true (true, "de4c3ed68d77f15170bc3bd756072c4b69b61f911334d32ba3edcef6732c67ba") true
   topFirst_holds (fun _ h => by cases h) topFirstCfA (fun _ h => by cases h) topFirst_row_tie rfl ⟨rfl, rfl⟩ topFirstCfB rfl
   (fun f fn hf hfn => by
     obtain rfl : f = 3 := Option.some.inj ((show Tryz.prog.funcNamed "moat/moattop.TopFirst" = some 3 by kernel_rfl).symm.trans hf) |>.symm
     obtain rfl : fn = Tryz.f3:=(Option.some.inj (Tryz.func3.symm.trans hfn)).symm
     exact ⟨topFirstCfC, fun j t ht => by
       rw [Tryz.params3] at ht
       have hm : t ∈ [3]:=by
         have hin:=Array.mem_def.1 (Array.mem_of_getElem? ht)
         exact (show ∀ u ∈ ([3] : List TypeId), u ∈ ([3] : List TypeId) by decide) t hin
       have hall : ([3].all fun u => !Tryz.prog.wantsStandIn u) = true:=by kernel_rfl
       exact (show Tryz.prog.wantsStandIn t = false by simpa using List.all_eq_true.1 hall t hm)⟩)
   topFirstCfD
end Go.Proofs.YtacknhbgfijkcaaGreatDoor
end
#print axioms Go.Proofs.YtacknhbgfijkcaaGreatDoor.topFirst_card

/- ServePages: part 8 of its proof: CardServePages. -/
import Derived.JoinedOf
import Derived.KernelRfl
import Derived.Test.YtonlcjnceooogaaGreatDoorCards
import Derived.Test.YtonlcjnceooogaaGreatDoorTie
import Derived.Test.YtonlcjnceooogaaGreatDoorMServePages7
import Derived.WalkKit
import Derived.ProofKit
import Derived.OpenShut
import Derived.ShutString
import Derived.ChangeOld
import Derived.Below
import Derived.SizedLaws
import Derived.Test.YtonlcjnceooogaaGreatDoorMServePages3
import Derived.LaidMore
import Derived.Lay
import Derived.LaidOnce
import Derived.Test.YtonlcjnceooogaaGreatDoorSServePages20
import Derived.Test.YtonlcjnceooogaaGreatDoorSServePages21
import Derived.Test.YtonlcjnceooogaaGreatDoorSServePages22
import Derived.Test.YtonlcjnceooogaaGreatDoorSServePages23
import Derived.Test.YtonlcjnceooogaaGreatDoorSServePages24
import Derived.SevenTiedAt
import Derived.Test.YtonlcjnceooogaaGreatDoorMServePages0
import Derived.Test.YtonlcjnceooogaaGreatDoorMServePages1
import Derived.Test.YtonlcjnceooogaaGreatDoorMServePages2
import Derived.Test.YtonlcjnceooogaaGreatDoorMServePages4
import Derived.Test.YtonlcjnceooogaaGreatDoorMServePages5
import Derived.Test.YtonlcjnceooogaaGreatDoorMServePages6
section
/- ServePages: the tied card of ServePages: for every input the law answers true, and its arguments read as before; the listed variables hold what the program's text lays. Proved from the walk and the pure statement. -/
namespace Go.Proofs.YtonlcjnceooogaaGreatDoor.servePages
open Go.ChangeShapes Go.WideShapes Go.ChangeAt Go.RowKit Go.Proofs.YtonlcjnceooogaaGreatDoor Go.Proofs.YtonlcjnceooogaaGreatDoorW.PrintWords
open Go.ChangeMaps (open_string shut_string)
set_option linter.unusedVariables false

theorem closed : joinedFacts Tryz.pinned.checked.prog 5 Tryz.f5 Rows.servePagesSpec Rows.servePagesRow = true := by
  unfold joinedFacts
  rw [factA, factB, factC, factD]
  kernel_rfl
theorem over : Rows.servePagesRow.holds Tryz.pinned (OpenSpec.ofChange Rows.servePagesSpec) :=
  OpenClaim.holds_of_wide 5 Tryz.f5 rfl rfl rfl rfl rfl rfl rfl ⟨rfl, rfl, rfl, rfl, rfl⟩ rfl rfl rfl rfl rfl (by kernel_rfl) Tryz.func5 closed
    (of_decide_eq_true (by kernel_rfl)) (by unfold Func.isWrapper; first | (rw [if_pos (by decide +kernel)]; kernel_rfl) | (rw [if_neg (by decide +kernel)]; exact ⟨rfl, rfl⟩))
    (fun os started H enc _ => lifted os started H enc)
theorem proved : Rows.ServePagesSaid := over
end Go.Proofs.YtonlcjnceooogaaGreatDoor.servePages
namespace Go.Proofs.YtonlcjnceooogaaGreatDoor
open Go
theorem servePages_holds : Rows.ServePagesSaid := servePages.proved
theorem servePages_card : Rows.ServePagesCardSaid :=
  Claim7.holds_tied_plain_at .later [] [.data, .data, .data, .data, .sentinel, .sentinel, .mapped, .data, .mapped, .mapped, .mapped, .mapped, .mapped, .pinned] true (true, "8f85169a7016ed73bb26e0e076bdf6883ced0f8aa95261ef50f1c71195213e7c") true
    servePages_holds (fun _ h => by cases h) (by kernel_rfl) (fun _ h => by cases h) servePages_row_tie rfl ⟨rfl, rfl⟩ (by kernel_rfl) rfl
    (fun f fn hf hfn => by
      obtain rfl : f = 5 := Option.some.inj ((show Tryz.prog.funcNamed "moat/moatlaw18.ServePages" = some 5 by kernel_rfl).symm.trans hf) |>.symm
      obtain rfl : fn = Tryz.f5 := (Option.some.inj (Tryz.func5.symm.trans hfn)).symm
      exact ⟨by kernel_rfl, fun j t ht => by
        rw [Tryz.params5] at ht
        have hm : t ∈ [3, 4] := by
          have hin := Array.mem_def.1 (Array.mem_of_getElem? ht)
          exact (show ∀ u ∈ ([3, 3, 4, 4, 4, 4] : List TypeId), u ∈ ([3, 4] : List TypeId) by decide) t hin
        have hall : ([3, 4].all fun u => !Tryz.prog.wantsStandIn u) = true := by kernel_rfl
        exact (show Tryz.prog.wantsStandIn t = false by simpa using List.all_eq_true.1 hall t hm)⟩)
    (by kernel_rfl)
end Go.Proofs.YtonlcjnceooogaaGreatDoor
end
#print axioms Go.Proofs.YtonlcjnceooogaaGreatDoor.servePages_card

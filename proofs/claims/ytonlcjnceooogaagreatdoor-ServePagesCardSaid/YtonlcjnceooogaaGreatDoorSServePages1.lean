/- ServePages, run: script 0, policy 1. -/
import Derived.Test.YtonlcjnceooogaaGreatDoorMServePages5
import Derived.Test.YtonlcjnceooogaaGreatDoorMServePages4
import Derived.Test.YtonlcjnceooogaaGreatDoorMServePages3
import Derived.Test.YtonlcjnceooogaaGreatDoorMServePages2
import Derived.Test.YtonlcjnceooogaaGreatDoorMServePages1
import Derived.Test.YtonlcjnceooogaaGreatDoorMServePages0
import Derived.Test.YtonlcjnceooogaaGreatDoorMServePages6
import Derived.KernelRfl
namespace Go.Proofs.YtonlcjnceooogaaGreatDoor
open Go Go.RowKit Go.Proofs.YtonlcjnceooogaaGreatDoor.Abs
set_option maxRecDepth 1000000 in
theorem sp_run1 (e1 e2 e3 e4 : Nat) : runSp e1 e2 e3 e4 0 1 = true := by kernel_rfl
end Go.Proofs.YtonlcjnceooogaaGreatDoor

/- RequestFits, run: to 2, own 1. -/
import Derived.Test.YtmdjibkgnmjhbaaGreatDoorMRequestFits6
import Derived.Test.YtmdjibkgnmjhbaaGreatDoorMRequestFits5
import Derived.Test.YtmdjibkgnmjhbaaGreatDoorMRequestFits4
import Derived.Test.YtmdjibkgnmjhbaaGreatDoorMRequestFits3
import Derived.Test.YtmdjibkgnmjhbaaGreatDoorMRequestFits2
import Derived.Test.YtmdjibkgnmjhbaaGreatDoorMRequestFits1
import Derived.Test.YtmdjibkgnmjhbaaGreatDoorMRequestFits0
import Derived.Test.YtmdjibkgnmjhbaaGreatDoorMRequestFits7
import Derived.KernelRfl
namespace Go.Proofs.YtmdjibkgnmjhbaaGreatDoor
open Go Go.RowKit Go.Proofs.YtmdjibkgnmjhbaaGreatDoor.Abs
set_option maxRecDepth 1000000 in
theorem rq_run9f0 (e1 e2 e3 e4 : Nat) : runRq e1 e2 e3 e4 2 0 1 false = true := by kernel_rfl
set_option maxRecDepth 1000000 in
theorem rq_run9f1 (e1 e2 e3 e4 : Nat) : runRq e1 e2 e3 e4 2 1 1 false = true := by kernel_rfl
set_option maxRecDepth 1000000 in
theorem rq_run9f2 (e1 e2 e3 e4 : Nat) : runRq e1 e2 e3 e4 2 2 1 false = true := by kernel_rfl
set_option maxRecDepth 1000000 in
theorem rq_run9f3 (e1 e2 e3 e4 : Nat) : runRq e1 e2 e3 e4 2 3 1 false = true := by kernel_rfl
set_option maxRecDepth 1000000 in
theorem rq_run9t0 (e1 e2 e3 e4 : Nat) : runRq e1 e2 e3 e4 2 0 1 true = true := by kernel_rfl
set_option maxRecDepth 1000000 in
theorem rq_run9t1 (e1 e2 e3 e4 : Nat) : runRq e1 e2 e3 e4 2 1 1 true = true := by kernel_rfl
set_option maxRecDepth 1000000 in
theorem rq_run9t2 (e1 e2 e3 e4 : Nat) : runRq e1 e2 e3 e4 2 2 1 true = true := by kernel_rfl
set_option maxRecDepth 1000000 in
theorem rq_run9t3 (e1 e2 e3 e4 : Nat) : runRq e1 e2 e3 e4 2 3 1 true = true := by kernel_rfl
end Go.Proofs.YtmdjibkgnmjhbaaGreatDoor

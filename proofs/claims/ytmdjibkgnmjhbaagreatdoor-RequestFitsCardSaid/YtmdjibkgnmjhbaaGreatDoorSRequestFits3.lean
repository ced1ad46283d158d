/- RequestFits, run: to 0, own 3. -/
import Derived.Test.YtmdjibkgnmjhbaaGreatDoorMRequestFits6
import Derived.Test.YtmdjibkgnmjhbaaGreatDoorMRequestFits5
import Derived.Test.YtmdjibkgnmjhbaaGreatDoorMRequestFits4
import Derived.Test.YtmdjibkgnmjhbaaGreatDoorMRequestFits3
import Derived.Test.YtmdjibkgnmjhbaaGreatDoorMRequestFits2
import Derived.Test.YtmdjibkgnmjhbaaGreatDoorMRequestFits1
import Derived.Test.YtmdjibkgnmjhbaaGreatDoorMRequestFits0
import Derived.Test.YtmdjibkgnmjhbaaGreatDoorMRequestFits7
import Derived.KernelRfl
namespace Go.Proofs.YtmdjibkgnmjhbaaGreatDoor
open Go Go.RowKit Go.Proofs.YtmdjibkgnmjhbaaGreatDoor.Abs
set_option maxRecDepth 1000000 in
theorem rq_run3f0 (e1 e2 e3 e4 : Nat) : runRq e1 e2 e3 e4 0 0 3 false = true := by kernel_rfl
set_option maxRecDepth 1000000 in
theorem rq_run3f1 (e1 e2 e3 e4 : Nat) : runRq e1 e2 e3 e4 0 1 3 false = true := by kernel_rfl
set_option maxRecDepth 1000000 in
theorem rq_run3f2 (e1 e2 e3 e4 : Nat) : runRq e1 e2 e3 e4 0 2 3 false = true := by kernel_rfl
set_option maxRecDepth 1000000 in
theorem rq_run3f3 (e1 e2 e3 e4 : Nat) : runRq e1 e2 e3 e4 0 3 3 false = true := by kernel_rfl
set_option maxRecDepth 1000000 in
theorem rq_run3t0 (e1 e2 e3 e4 : Nat) : runRq e1 e2 e3 e4 0 0 3 true = true := by kernel_rfl
set_option maxRecDepth 1000000 in
theorem rq_run3t1 (e1 e2 e3 e4 : Nat) : runRq e1 e2 e3 e4 0 1 3 true = true := by kernel_rfl
set_option maxRecDepth 1000000 in
theorem rq_run3t2 (e1 e2 e3 e4 : Nat) : runRq e1 e2 e3 e4 0 2 3 true = true := by kernel_rfl
set_option maxRecDepth 1000000 in
theorem rq_run3t3 (e1 e2 e3 e4 : Nat) : runRq e1 e2 e3 e4 0 3 3 true = true := by kernel_rfl
end Go.Proofs.YtmdjibkgnmjhbaaGreatDoor

/- RequestFits, run: to 0, own 2. -/
import Derived.Test.YtmdjibkgnmjhbaaGreatDoorMRequestFits6
import Derived.Test.YtmdjibkgnmjhbaaGreatDoorMRequestFits5
import Derived.Test.YtmdjibkgnmjhbaaGreatDoorMRequestFits4
import Derived.Test.YtmdjibkgnmjhbaaGreatDoorMRequestFits3
import Derived.Test.YtmdjibkgnmjhbaaGreatDoorMRequestFits2
import Derived.Test.YtmdjibkgnmjhbaaGreatDoorMRequestFits1
import Derived.Test.YtmdjibkgnmjhbaaGreatDoorMRequestFits0
import Derived.Test.YtmdjibkgnmjhbaaGreatDoorMRequestFits7
import Derived.KernelRfl
namespace Go.Proofs.YtmdjibkgnmjhbaaGreatDoor
open Go Go.RowKit Go.Proofs.YtmdjibkgnmjhbaaGreatDoor.Abs
set_option maxRecDepth 1000000 in
theorem rq_run2f0 (e1 e2 e3 e4 : Nat) : runRq e1 e2 e3 e4 0 0 2 false = true := by kernel_rfl
set_option maxRecDepth 1000000 in
theorem rq_run2f1 (e1 e2 e3 e4 : Nat) : runRq e1 e2 e3 e4 0 1 2 false = true := by kernel_rfl
set_option maxRecDepth 1000000 in
theorem rq_run2f2 (e1 e2 e3 e4 : Nat) : runRq e1 e2 e3 e4 0 2 2 false = true := by kernel_rfl
set_option maxRecDepth 1000000 in
theorem rq_run2f3 (e1 e2 e3 e4 : Nat) : runRq e1 e2 e3 e4 0 3 2 false = true := by kernel_rfl
set_option maxRecDepth 1000000 in
theorem rq_run2t0 (e1 e2 e3 e4 : Nat) : runRq e1 e2 e3 e4 0 0 2 true = true := by kernel_rfl
set_option maxRecDepth 1000000 in
theorem rq_run2t1 (e1 e2 e3 e4 : Nat) : runRq e1 e2 e3 e4 0 1 2 true = true := by kernel_rfl
set_option maxRecDepth 1000000 in
theorem rq_run2t2 (e1 e2 e3 e4 : Nat) : runRq e1 e2 e3 e4 0 2 2 true = true := by kernel_rfl
set_option maxRecDepth 1000000 in
theorem rq_run2t3 (e1 e2 e3 e4 : Nat) : runRq e1 e2 e3 e4 0 3 2 true = true := by kernel_rfl
end Go.Proofs.YtmdjibkgnmjhbaaGreatDoor

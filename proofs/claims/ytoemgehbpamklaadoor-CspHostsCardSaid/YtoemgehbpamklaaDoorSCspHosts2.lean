/- CspHosts, run: wild is false, the scheme's number 2. -/
import Derived.Test.YtoemgehbpamklaaDoorMCspHosts3
import Derived.Test.YtoemgehbpamklaaDoorMCspHosts2
import Derived.Test.YtoemgehbpamklaaDoorMCspHosts1
import Derived.Test.YtoemgehbpamklaaDoorMCspHosts0
import Derived.Test.YtoemgehbpamklaaDoorMCspHosts4
import Derived.KernelRfl
namespace Go.Proofs.YtoemgehbpamklaaDoor
open Go Go.RowKit Go.Proofs.YtoemgehbpamklaaDoor.Abs
set_option maxRecDepth 1000000 in
theorem ch_run2 (e1 : Nat) : runCh e1 false 2 = true := by kernel_rfl
end Go.Proofs.YtoemgehbpamklaaDoor

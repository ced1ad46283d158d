-- Printed for this claim by the kit's print.py over given contracts (wip/myprint.py). Not trusted: Lean checks it.
import Derived.Test.YtmelefiodhnlpaaDoorBBx0
import Derived.Test.YtmelefiodhnlpaaDoorBBx1
import Derived.Test.YtmelefiodhnlpaaDoorBBx2
import Derived.Test.YtmelefiodhnlpaaDoorBBx3
import Derived.Test.YtmelefiodhnlpaaDoorBBx4
namespace Go.Proofs.YtmelefiodhnlpaaDoor.BB
open Go.RowKit Go.Proofs.YtmelefiodhnlpaaDoorW.PrintWords Go.Proofs.YtmelefiodhnlpaaDoorW.PrintLast Go.Proofs.YtmelefiodhnlpaaDoorW.PrintMore
attribute [local go_sem] max2_int min2_int max_two min_two max_three min_three max_four min_four   -- for this text's walks alone
set_option linter.unusedVariables false
set_option linter.unusedSimpArgs false

end Go.Proofs.YtmelefiodhnlpaaDoor.BB

-- Printed for this claim by the kit's print.py over given contracts (wip/myprint.py). Not trusted: Lean checks it.
import Derived.Test.YtmelefiodhnlpaaDoorProg
import Derived.Below
import Derived.Deep.Draws
import Derived.Deep.AppendLies
import Derived.Maps.AppendAt
import Derived.OwnWalk
import Derived.Laws.BytesArg
import Derived.Laws.MakeOwn
import Derived.Laws.OwnMore
import Derived.Deep.OwnRows
import Derived.Tactics
import Derived.Lib.ConvBytes
import Derived.Laws.Slices
import Derived.WalkKit
import Derived.KernelRfl
import Derived.RowKit3
import Derived.Deep.LoopGhost
import Derived.Deep.QuietTactic
import Derived.BigQuiet
import Derived.WideLaws
import Derived.Deep.DeepCutAuto
import Derived.Deep.CutBlock
import Derived.Deep.RegionHeld3
import Derived.Laws.Rows
import Derived.Lib.AppendStr
import Derived.ArgAppend
import Derived.Laws.IdiomCopy
import Derived.OrdersHeld
import Derived.Laws.BitsLemmas
import Derived.RowKit
import Derived.Test.YtmelefiodhnlpaaDoorWord
import Derived.Test.YtmelefiodhnlpaaDoorWWords
import Derived.Test.YtmelefiodhnlpaaDoorWLast
import Derived.Test.YtmelefiodhnlpaaDoorWTab
import Derived.Test.YtmelefiodhnlpaaDoorWFour
import Derived.Test.YtmelefiodhnlpaaDoorWQPut
import Derived.Test.YtmelefiodhnlpaaDoorWApart
import Derived.Test.YtmelefiodhnlpaaDoorWArr
import Derived.Test.YtmelefiodhnlpaaDoorWZeros
import Derived.Test.YtmelefiodhnlpaaDoorWFoot
import Derived.Test.YtmelefiodhnlpaaDoorWKept
import Derived.Test.YtmelefiodhnlpaaDoorWShare
import Derived.Test.YtmelefiodhnlpaaDoorWN
import Derived.Test.YtmelefiodhnlpaaDoorWFootNe
import Derived.Test.YtmelefiodhnlpaaDoorWAt
import Derived.Test.YtmelefiodhnlpaaDoorWEqStruct
import Derived.Test.YtmelefiodhnlpaaDoorWRepsOne
import Derived.Test.YtmelefiodhnlpaaDoorWInv
import Derived.Test.YtmelefiodhnlpaaDoorWInvWords
import Derived.Test.YtmelefiodhnlpaaDoorWGuard
import Derived.Test.YtmelefiodhnlpaaDoorWNEv
import Derived.Test.YtmelefiodhnlpaaDoorWMore
namespace Go.Proofs.YtmelefiodhnlpaaDoor.BA
open Go.RowKit Go.Proofs.YtmelefiodhnlpaaDoorW.PrintWords Go.Proofs.YtmelefiodhnlpaaDoorW.PrintLast Go.Proofs.YtmelefiodhnlpaaDoorW.PrintMore
attribute [local go_sem] max2_int min2_int max_two min_two max_three min_three max_four min_four   -- for this text's walks alone
set_option linter.unusedVariables false
set_option linter.unusedSimpArgs false



def errW : Option Int → Value
  | none => .nilIface
  | some c => .iface 0 (.int .i64 c)
theorem errW_none : errW none = .nilIface := rfl
theorem errW_some (c : Int) : errW (some c) = .iface 0 (.int .i64 c) := rfl

-- the values' own types

end Go.Proofs.YtmelefiodhnlpaaDoor.BA

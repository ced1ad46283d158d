-- Printed for this claim by the kit's print.py over given contracts (wip/myprint.py). Not trusted: Lean checks it.
import Derived.Test.YtfmppmabnpkooaaDoorProg
import Derived.Below
import Derived.Deep.Draws
import Derived.Deep.AppendLies
import Derived.Maps.AppendAt
import Derived.OwnWalk
import Derived.Laws.BytesArg
import Derived.Laws.MakeOwn
import Derived.Laws.OwnMore
import Derived.Deep.OwnRows
import Derived.Tactics
import Derived.Lib.ConvBytes
import Derived.Laws.Slices
import Derived.WalkKit
import Derived.KernelRfl
import Derived.RowKit3
import Derived.Deep.LoopGhost
import Derived.Deep.QuietTactic
import Derived.BigQuiet
import Derived.WideLaws
import Derived.Deep.DeepCutAuto
import Derived.Deep.CutBlock
import Derived.Deep.RegionHeld3
import Derived.Laws.Rows
import Derived.Lib.AppendStr
import Derived.ArgAppend
import Derived.Laws.IdiomCopy
import Derived.OrdersHeld
import Derived.Laws.BitsLemmas
import Derived.RowKit
import Derived.Test.YtfmppmabnpkooaaDoorWord
import Derived.Test.YtfmppmabnpkooaaDoorUrlAwake
import Derived.Test.YtfmppmabnpkooaaDoorBUx4
import Derived.Test.YtfmppmabnpkooaaDoorWWords
import Derived.Test.YtfmppmabnpkooaaDoorWLast
import Derived.Test.YtfmppmabnpkooaaDoorWTab
import Derived.Test.YtfmppmabnpkooaaDoorWFour
import Derived.Test.YtfmppmabnpkooaaDoorWQPut
import Derived.Test.YtfmppmabnpkooaaDoorWApart
import Derived.Test.YtfmppmabnpkooaaDoorWArr
import Derived.Test.YtfmppmabnpkooaaDoorWZeros
import Derived.Test.YtfmppmabnpkooaaDoorWFoot
import Derived.Test.YtfmppmabnpkooaaDoorWKept
import Derived.Test.YtfmppmabnpkooaaDoorWShare
import Derived.Test.YtfmppmabnpkooaaDoorWN
import Derived.Test.YtfmppmabnpkooaaDoorWFootNe
import Derived.Test.YtfmppmabnpkooaaDoorWAt
import Derived.Test.YtfmppmabnpkooaaDoorWEqStruct
import Derived.Test.YtfmppmabnpkooaaDoorWRepsOne
import Derived.Test.YtfmppmabnpkooaaDoorWInv
import Derived.Test.YtfmppmabnpkooaaDoorWInvWords
import Derived.Test.YtfmppmabnpkooaaDoorWGuard
import Derived.Test.YtfmppmabnpkooaaDoorWNEv
import Derived.Test.YtfmppmabnpkooaaDoorWMore
namespace Go.Proofs.YtfmppmabnpkooaaDoor.BV
open Go.RowKit Go.Proofs.YtfmppmabnpkooaaDoorW.PrintWords Go.Proofs.YtfmppmabnpkooaaDoorW.PrintLast Go.Proofs.YtfmppmabnpkooaaDoorW.PrintMore Go.Proofs.YtfmppmabnpkooaaDoor.BU
attribute [local go_sem] max2_int min2_int max_two min_two max_three min_three max_four min_four   -- for this text's walks alone
set_option linter.unusedVariables false
set_option linter.unusedSimpArgs false



theorem info5 : (Tryd.prog.info? 5).map (fun i => (i.zero, i.size, i.bytes)) = some (some (.int .u8 0), 1, 1) := by kernel_rfl
theorem info9 : (Tryd.prog.info? 9).map (fun i => (i.zero, i.size, i.bytes)) = some (some (.string ⟨#[]⟩), 1, 16) := by kernel_rfl
-- the values' own types

end Go.Proofs.YtfmppmabnpkooaaDoor.BV

/- Chapter 7: CookieRounds, the cases of one host. -/
import Derived.Test.YtfmppmabnpkooaaDoorMCookieRounds3
import Derived.Test.YtfmppmabnpkooaaDoorMCookieRounds2
import Derived.Test.YtfmppmabnpkooaaDoorMCookieRounds1
import Derived.Test.YtfmppmabnpkooaaDoorMCookieRounds0
import Derived.Test.YtfmppmabnpkooaaDoorMCookieRounds4
set_option autoImplicit false
set_option linter.unusedSimpArgs false
set_option linter.unusedVariables false
namespace Go.Proofs.YtfmppmabnpkooaaDoor
open Go Go.RowKit Go.Proofs.YtfmppmabnpkooaaDoor.Abs
set_option maxRecDepth 1000000 in
theorem cookieRounds_run1 (e : Nat) : dom8 e 1 = true := by kernel_rfl
end Go.Proofs.YtfmppmabnpkooaaDoor

/- Chapter 1: its awake, in the print's form. -/
import Derived.Test.YtfmppmabnpkooaaDoorUrl
import Derived.Test.YtfmppmabnpkooaaDoorUrlPath
set_option autoImplicit false
namespace Go.Proofs.YtfmppmabnpkooaaDoor
open Go Go.RowKit Go.Proofs.YtfmppmabnpkooaaDoor.Abs
def moatlaw1_awake.f : Option Bool := some true
theorem moatlaw1_awake.calls_at {w0 : World} (hu : UrlWorld w0) {w : World} (hb : Below w0.heap.size w0 w) (r : Bool) (h : moatlaw1_awake.f = some r) :
    Calls Tryd.prog 36 #[] w fun e w' => e = .returned (.bool r) ∧ Below w.heap.size w w' := by
  obtain rfl := Option.some.inj h
  exact awake1_calls (hu.below hb)
end Go.Proofs.YtfmppmabnpkooaaDoor

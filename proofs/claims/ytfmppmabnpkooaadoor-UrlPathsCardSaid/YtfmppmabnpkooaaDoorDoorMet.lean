/- A start that meets the rows' condition where a listed variable is a map and another is pinned: what the door's own run leaves, and the pinned table laid behind it. -/
import Derived.Test.YtfmppmabnpkooaaDoorCards
import Derived.Test.YtfmppmabnpkooaaDoorProg
import Derived.LaidMore
import Derived.LaidOnce
import Derived.Lay
import Derived.MakeChecks
import Derived.KernelRfl
namespace Go.Proofs.YtfmppmabnpkooaaDoor
open Go
noncomputable def pinnedOf (l : List (String × DataW Unit)) : List (String × DataW Unit) := l.filter fun x => ["unicode/utf8.first"].contains x.1
noncomputable def startW (os : Os) (l : List (String × DataW Unit)) : World := (World.doorLaid Tryd.prog 3000 os).layVars Tryd.prog (pinnedOf l)
noncomputable def startB (os : Os) : List Nat := (List.range (World.doorLaid Tryd.prog 3000 os).heap.size).filter fun b => !(b == 6)
theorem startW_os (os : Os) (l : List (String × DataW Unit)) : (startW os l).os = os := World.layVars_os _ _ _
theorem start_met (os : Os) (l : List (String × DataW Unit)) (hl : (l.all fun x => x.2.handleName?.isNone) = true)
    (hf : (World.doorLaid Tryd.prog 3000 os).layFits Tryd.prog (pinnedOf l) (startB os) = true) (hi : (World.doorLaid Tryd.prog 3000 os).layIfaces Tryd.prog (pinnedOf l) (startW os l) = true)
    (h1 : (DataW.laidRun Tryd.prog (startW os l) 8 ((l.filter fun x => !["unicode/utf8.first"].contains x.1).map (·.1))).map (·.1) = some (l.filter fun x => !["unicode/utf8.first"].contains x.1))
    (h2 : (DataW.laidRun Tryd.prog (startW os l) 8 ((l.filter fun x => !["unicode/utf8.first"].contains x.1).map (·.1))).map (fun x => nodupB (x.2.map MemPlace.codeOf)) = some true)
    (h3 : (DataW.laidRun Tryd.prog (startW os l) 8 ((l.filter fun x => !["unicode/utf8.first"].contains x.1).map (·.1))).map (fun x => laidRowsB Tryd.prog (startW os l) x.2) = some true)
    (h4 : (DataW.laidRun Tryd.prog (startW os l) 8 ((l.filter fun x => !["unicode/utf8.first"].contains x.1).map (·.1))).map (fun x => x.2.all fun p => (startB os).contains p.block) = some true)
    (args : Array Value) : laidMetH Tryd.prog l ((startW os l).forCall (fun _ _ => 0) ⟨#[], args, []⟩).memory := by
  rw [MakeChecks.laidMetH_plain _ _ _ hl]
  have h : laidMet Tryd.prog l (startW os l) := laidMet_layVars (w0 := World.doorLaid Tryd.prog 3000 os) ["unicode/utf8.first"] (startB os) rfl hf hi (LaidIn.of_run (startB os) 8 h1 h2 h3 h4)
  exact h.of_heap (by simp [World.memory, World.forCall, Input.heap])
set_option maxRecDepth 100000 in
theorem urlPaths_met (os : Os) (args : Array Value) : laidMetH Tryd.prog Rows.urlPathsRow.laid ((startW os Rows.urlPathsRow.laid).forCall (fun _ _ => 0) ⟨#[], args, []⟩).memory :=
  start_met os _ (by kernel_rfl) (by kernel_rfl) (by kernel_rfl) (by kernel_rfl) (by kernel_rfl) (by kernel_rfl) (by kernel_rfl) args
end Go.Proofs.YtfmppmabnpkooaaDoor

/- What a row of chapter 1 gives the walk: the world that Url speaks of. -/
import Derived.Test.YtfmppmabnpkooaaDoorUrl
import Derived.Test.YtfmppmabnpkooaaDoorDoorMet
namespace Go.Proofs.YtfmppmabnpkooaaDoor
open Go
set_option maxRecDepth 100000 in
theorem urlWorld_of {W : World} {l : List (String × DataW Unit)} (hl : (l.all fun x => x.2.handleName?.isNone) = true) (hm : ("moat/url.schemes", DataW.map schemesL) ∈ l) (h : laidMetH Tryd.prog l W) (hs : W.ShapedOpen Tryd.prog) : UrlWorld W := by
  rw [MakeChecks.laidMetH_plain _ _ _ hl] at h
  refine ⟨Abs.laid_map h (n := "moat/url.schemes") (L := schemesL) hm (g := 1) (t := 79) (k := 9) (e := 3) (by kernel_rfl) (by kernel_rfl) Tryd.underlying79 Tryd.underlying3, ?_⟩
  exact Go.Proofs.cell_of_shapedOpen_int (zero := #[.int .i64 0]) (t := 3) hs (of_decide_eq_true (by kernel_rfl)) (by kernel_rfl) rfl (by kernel_rfl) (by kernel_rfl) Tryd.underlying3
theorem urlPaths_world {W : World} (h : laidMetH Tryd.prog Rows.urlPathsRow.laid W) (hs : W.ShapedOpen Tryd.prog) : UrlWorld W :=
  urlWorld_of (by kernel_rfl) (List.mem_of_getElem? (i := 6) rfl) h hs
end Go.Proofs.YtfmppmabnpkooaaDoor

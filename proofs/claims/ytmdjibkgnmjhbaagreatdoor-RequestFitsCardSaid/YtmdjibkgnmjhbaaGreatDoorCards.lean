/-
  DERIVED. GIVEN WITH THE SEED: THE CARDS: each row of YtmdjibkgnmjhbaaGreatDoorRows.lean that lists a variable, with what it lists TIED to the program's text (the seventh form; the later family's looks); each row that meets fmt, with fmt's text TOLD by the authors' own Lean function (tested against real Go, not proved from fmt's source: count such statements apart). THE CARD IS WHAT COUNTS. Prove the row's statement (the work); the ties are given (YtmdjibkgnmjhbaaGreatDoorTie.lean); close each card by the builder's one call (the guide's Derived/Test/ToyasCard.lean, 'card_holds'). Laid BY PROGRAM, IN A SANDBOX (cutbox-door.mjs). By AI agents, Wed Nov 11 2026. No macro, syntax, notation, axiom, sorry.
-/
import Derived.Test.YtmdjibkgnmjhbaaGreatDoorRows
import GoSem.ClaimSeven
namespace Go.Proofs.YtmdjibkgnmjhbaaGreatDoor
namespace Rows

/-- THE TIED CARD OF 'moatlaw12.WfKinds'. -/
def wfKindsCard : Claim7 := { stood := { row := wfKindsRow, standIns := [], harness := (true, "972de7c3d67d68dbc822e9e0825e49027f747b5748a4fe978ef5979aef72cf66"), looks := true }, kinds := [], alts := [], laidByText := true, laidKinds := [.data, .data, .data, .data, .sentinel, .sentinel, .mapped, .data, .mapped, .mapped, .pinned], laidTests := true, laidLooks := .later }
def WfKindsCardSaid : Prop := Claim7.holds Tryz.pinned (.plain (OpenSpec.ofChange wfKindsSpec)) wfKindsCard

/-- THE TIED CARD OF 'moatlaw17.RequestFits'. -/
def requestFitsCard : Claim7 := { stood := { row := requestFitsRow, standIns := [], harness := (true, "972de7c3d67d68dbc822e9e0825e49027f747b5748a4fe978ef5979aef72cf66"), looks := true }, kinds := [], alts := [], laidByText := true, laidKinds := [.data, .data, .data, .data, .sentinel, .sentinel, .mapped, .data, .mapped, .mapped, .mapped, .mapped, .pinned], laidTests := true, laidLooks := .later }
def RequestFitsCardSaid : Prop := Claim7.holds Tryz.pinned (.plain (OpenSpec.ofChange requestFitsSpec)) requestFitsCard

/-- THE TIED CARD OF 'moatlaw18.ServePages'. -/
def servePagesCard : Claim7 := { stood := { row := servePagesRow, standIns := [], harness := (true, "972de7c3d67d68dbc822e9e0825e49027f747b5748a4fe978ef5979aef72cf66"), looks := true }, kinds := [], alts := [], laidByText := true, laidKinds := [.data, .data, .data, .data, .sentinel, .sentinel, .mapped, .data, .mapped, .mapped, .mapped, .mapped, .mapped, .pinned], laidTests := true, laidLooks := .later }
def ServePagesCardSaid : Prop := Claim7.holds Tryz.pinned (.plain (OpenSpec.ofChange servePagesSpec)) servePagesCard

/-- THE TIED CARD OF 'moatlaw13.BuildOrder'. -/
def buildOrderCard : Claim7 := { stood := { row := buildOrderRow, standIns := [], harness := (true, "972de7c3d67d68dbc822e9e0825e49027f747b5748a4fe978ef5979aef72cf66"), looks := true }, kinds := [], alts := [], laidByText := true, laidKinds := [.data, .data, .data, .data, .sentinel, .sentinel, .mapped, .data, .mapped, .mapped, .mapped, .mapped, .pinned], laidTests := true, laidLooks := .later }
def BuildOrderCardSaid : Prop := Claim7.holds Tryz.pinned (.plain (OpenSpec.ofChange buildOrderSpec)) buildOrderCard

/-- THE SECOND FORM's CARD OF 'moatlaw12.WfKinds'. -/
def wfKindsUptoCard : Claim7 := { stood := { row := wfKindsUptoRow, standIns := [], harness := (true, "972de7c3d67d68dbc822e9e0825e49027f747b5748a4fe978ef5979aef72cf66"), looks := true }, kinds := [], alts := [], laidByText := true, laidKinds := [.data, .data, .data, .data, .sentinel, .sentinel, .mapped, .data, .mapped, .mapped, .pinned], laidTests := true, laidLooks := .later }
def WfKindsUptoCardSaid : Prop := Claim7.holds Tryz.pinned (.plain (OpenSpec.upto wfKindsSpec)) wfKindsUptoCard

/-- THE SECOND FORM's CARD OF 'moatlaw17.RequestFits'. -/
def requestFitsUptoCard : Claim7 := { stood := { row := requestFitsUptoRow, standIns := [], harness := (true, "972de7c3d67d68dbc822e9e0825e49027f747b5748a4fe978ef5979aef72cf66"), looks := true }, kinds := [], alts := [], laidByText := true, laidKinds := [.data, .data, .data, .data, .sentinel, .sentinel, .mapped, .data, .mapped, .mapped, .mapped, .mapped, .pinned], laidTests := true, laidLooks := .later }
def RequestFitsUptoCardSaid : Prop := Claim7.holds Tryz.pinned (.plain (OpenSpec.upto requestFitsSpec)) requestFitsUptoCard

/-- THE SECOND FORM's CARD OF 'moatlaw18.ServePages'. -/
def servePagesUptoCard : Claim7 := { stood := { row := servePagesUptoRow, standIns := [], harness := (true, "972de7c3d67d68dbc822e9e0825e49027f747b5748a4fe978ef5979aef72cf66"), looks := true }, kinds := [], alts := [], laidByText := true, laidKinds := [.data, .data, .data, .data, .sentinel, .sentinel, .mapped, .data, .mapped, .mapped, .mapped, .mapped, .mapped, .pinned], laidTests := true, laidLooks := .later }
def ServePagesUptoCardSaid : Prop := Claim7.holds Tryz.pinned (.plain (OpenSpec.upto servePagesSpec)) servePagesUptoCard

/-- THE SECOND FORM's CARD OF 'moatlaw13.BuildOrder'. -/
def buildOrderUptoCard : Claim7 := { stood := { row := buildOrderUptoRow, standIns := [], harness := (true, "972de7c3d67d68dbc822e9e0825e49027f747b5748a4fe978ef5979aef72cf66"), looks := true }, kinds := [], alts := [], laidByText := true, laidKinds := [.data, .data, .data, .data, .sentinel, .sentinel, .mapped, .data, .mapped, .mapped, .mapped, .mapped, .pinned], laidTests := true, laidLooks := .later }
def BuildOrderUptoCardSaid : Prop := Claim7.holds Tryz.pinned (.plain (OpenSpec.upto buildOrderSpec)) buildOrderUptoCard
end Rows
end Go.Proofs.YtmdjibkgnmjhbaaGreatDoor

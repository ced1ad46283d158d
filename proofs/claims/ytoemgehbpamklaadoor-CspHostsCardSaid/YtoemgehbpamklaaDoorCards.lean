/-
  DERIVED. GIVEN WITH THE SEED: THE CARDS: each row of YtoemgehbpamklaaDoorRows.lean that lists a variable, with what it lists TIED to the program's text (the seventh form; the later family's looks); each row that meets fmt, with fmt's text TOLD by the authors' own Lean function (tested against real Go, not proved from fmt's source: count such statements apart). THE CARD IS WHAT COUNTS. Prove the row's statement (the work); the ties are given (YtoemgehbpamklaaDoorTie.lean); close each card by the builder's one call (the guide's Derived/Test/ToyasCard.lean, 'card_holds'). Laid BY PROGRAM, IN A SANDBOX (cutbox-door.mjs). By AI agents, Wed Nov 11 2026. No macro, syntax, notation, axiom, sorry.
-/
import Derived.Test.YtoemgehbpamklaaDoorRows
import GoSem.ClaimSeven
namespace Go.Proofs.YtoemgehbpamklaaDoor
namespace Rows

/-- THE TIED CARD OF 'moatlaw6.CspHosts'. -/
def cspHostsCard : Claim7 := { stood := { row := cspHostsRow, standIns := [], harness := (true, "4b9af426c021ecac7498a58f1e7ed8ae9709b8f605a57cc715118d539e313a12"), looks := true }, kinds := [], alts := [], laidByText := true, laidKinds := [.data, .data, .data, .data, .sentinel, .sentinel, .mapped, .pinned], laidTests := true, laidLooks := .later }
def CspHostsCardSaid : Prop := Claim7.holds Tryd.pinned (.plain (OpenSpec.ofChange cspHostsSpec)) cspHostsCard

/-- THE SECOND FORM's CARD OF 'moatlaw6.CspHosts'. -/
def cspHostsUptoCard : Claim7 := { stood := { row := cspHostsUptoRow, standIns := [], harness := (true, "4b9af426c021ecac7498a58f1e7ed8ae9709b8f605a57cc715118d539e313a12"), looks := true }, kinds := [], alts := [], laidByText := true, laidKinds := [.data, .data, .data, .data, .sentinel, .sentinel, .mapped, .pinned], laidTests := true, laidLooks := .later }
def CspHostsUptoCardSaid : Prop := Claim7.holds Tryd.pinned (.plain (OpenSpec.upto cspHostsSpec)) cspHostsUptoCard
end Rows
end Go.Proofs.YtoemgehbpamklaaDoor

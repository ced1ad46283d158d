/-
  DERIVED. GIVEN WITH THE SEED: THE CARDS: each row of YtacknhbgfijkcaaGreatDoorRows.lean that lists a variable, with what it lists TIED to the program's text (the seventh form; the later family's looks); each row that meets fmt, with fmt's text TOLD by the authors' own Lean function (tested against real Go, not proved from fmt's source: count such statements apart). THE CARD IS WHAT COUNTS. Prove the row's statement (the work); the ties are given (YtacknhbgfijkcaaGreatDoorTie.lean); close each card by the builder's one call (the guide's Derived/Test/ToyasCard.lean, 'card_holds'). Laid BY PROGRAM, IN A SANDBOX (cutbox-door.mjs). By AI agents, Wed Nov 11 2026. No macro, syntax, notation, axiom, sorry.
-/
import Derived.Test.YtacknhbgfijkcaaGreatDoorRows
import GoSem.ClaimSeven
namespace Go.Proofs.YtacknhbgfijkcaaGreatDoor
namespace Rows

/-- THE TIED CARD OF 'moattop.TopFirst'. -/
def topFirstCard : Claim7 := { stood := { row := topFirstRow, standIns := [], harness := (true, "de4c3ed68d77f15170bc3bd756072c4b69b61f911334d32ba3edcef6732c67ba"), looks := true }, kinds := [], alts := [], laidByText := true, laidKinds := [.data, .data, .data, .data, .sentinel, .sentinel, .mapped, .data, .mapped, .mapped, .mapped, .mapped, .mapped, .data, .pinned], laidTests := true, laidLooks := .later }
def TopFirstCardSaid : Prop := Claim7.holds Tryz.pinned (.plain (OpenSpec.ofChange topFirstSpec)) topFirstCard

/-- THE TIED CARD OF 'moattop.TopUses'. -/
def topUsesCard : Claim7 := { stood := { row := topUsesRow, standIns := [], harness := (true, "de4c3ed68d77f15170bc3bd756072c4b69b61f911334d32ba3edcef6732c67ba"), looks := true }, kinds := [], alts := [], laidByText := true, laidKinds := [.data, .data, .data, .data, .sentinel, .sentinel, .mapped, .data, .mapped, .mapped, .mapped, .mapped, .mapped, .data, .pinned], laidTests := true, laidLooks := .later }
def TopUsesCardSaid : Prop := Claim7.holds Tryz.pinned (.plain (OpenSpec.ofChange topUsesSpec)) topUsesCard

/-- THE TIED CARD OF 'moattop.TopSwaps'. -/
def topSwapsCard : Claim7 := { stood := { row := topSwapsRow, standIns := [], harness := (true, "de4c3ed68d77f15170bc3bd756072c4b69b61f911334d32ba3edcef6732c67ba"), looks := true }, kinds := [], alts := [], laidByText := true, laidKinds := [.data, .data, .data, .data, .sentinel, .sentinel, .mapped, .data, .mapped, .mapped, .mapped, .mapped, .mapped, .data, .pinned], laidTests := true, laidLooks := .later }
def TopSwapsCardSaid : Prop := Claim7.holds Tryz.pinned (.plain (OpenSpec.ofChange topSwapsSpec)) topSwapsCard

/-- THE TIED CARD OF 'moattop.TopEdges'. -/
def topEdgesCard : Claim7 := { stood := { row := topEdgesRow, standIns := [], harness := (true, "de4c3ed68d77f15170bc3bd756072c4b69b61f911334d32ba3edcef6732c67ba"), looks := true }, kinds := [], alts := [], laidByText := true, laidKinds := [.data, .data, .data, .data, .sentinel, .sentinel, .mapped, .data, .mapped, .mapped, .mapped, .mapped, .mapped, .data, .pinned], laidTests := true, laidLooks := .later }
def TopEdgesCardSaid : Prop := Claim7.holds Tryz.pinned (.plain (OpenSpec.ofChange topEdgesSpec)) topEdgesCard

/-- THE TIED CARD OF 'moattop.TopDirects'. -/
def topDirectsCard : Claim7 := { stood := { row := topDirectsRow, standIns := [], harness := (true, "de4c3ed68d77f15170bc3bd756072c4b69b61f911334d32ba3edcef6732c67ba"), looks := true }, kinds := [], alts := [], laidByText := true, laidKinds := [.data, .data, .data, .data, .sentinel, .sentinel, .mapped, .data, .mapped, .mapped, .mapped, .mapped, .mapped, .data, .pinned], laidTests := true, laidLooks := .later }
def TopDirectsCardSaid : Prop := Claim7.holds Tryz.pinned (.plain (OpenSpec.ofChange topDirectsSpec)) topDirectsCard

/-- THE TIED CARD OF 'moattop.TopTampers'. -/
def topTampersCard : Claim7 := { stood := { row := topTampersRow, standIns := [], harness := (true, "de4c3ed68d77f15170bc3bd756072c4b69b61f911334d32ba3edcef6732c67ba"), looks := true }, kinds := [], alts := [], laidByText := true, laidKinds := [.data, .data, .data, .data, .sentinel, .sentinel, .mapped, .data, .mapped, .mapped, .mapped, .mapped, .mapped, .data, .pinned], laidTests := true, laidLooks := .later }
def TopTampersCardSaid : Prop := Claim7.holds Tryz.pinned (.plain (OpenSpec.ofChange topTampersSpec)) topTampersCard

/-- THE SECOND FORM's CARD OF 'moattop.TopFirst'. -/
def topFirstUptoCard : Claim7 := { stood := { row := topFirstUptoRow, standIns := [], harness := (true, "de4c3ed68d77f15170bc3bd756072c4b69b61f911334d32ba3edcef6732c67ba"), looks := true }, kinds := [], alts := [], laidByText := true, laidKinds := [.data, .data, .data, .data, .sentinel, .sentinel, .mapped, .data, .mapped, .mapped, .mapped, .mapped, .mapped, .data, .pinned], laidTests := true, laidLooks := .later }
def TopFirstUptoCardSaid : Prop := Claim7.holds Tryz.pinned (.plain (OpenSpec.upto topFirstSpec)) topFirstUptoCard

/-- THE SECOND FORM's CARD OF 'moattop.TopUses'. -/
def topUsesUptoCard : Claim7 := { stood := { row := topUsesUptoRow, standIns := [], harness := (true, "de4c3ed68d77f15170bc3bd756072c4b69b61f911334d32ba3edcef6732c67ba"), looks := true }, kinds := [], alts := [], laidByText := true, laidKinds := [.data, .data, .data, .data, .sentinel, .sentinel, .mapped, .data, .mapped, .mapped, .mapped, .mapped, .mapped, .data, .pinned], laidTests := true, laidLooks := .later }
def TopUsesUptoCardSaid : Prop := Claim7.holds Tryz.pinned (.plain (OpenSpec.upto topUsesSpec)) topUsesUptoCard

/-- THE SECOND FORM's CARD OF 'moattop.TopSwaps'. -/
def topSwapsUptoCard : Claim7 := { stood := { row := topSwapsUptoRow, standIns := [], harness := (true, "de4c3ed68d77f15170bc3bd756072c4b69b61f911334d32ba3edcef6732c67ba"), looks := true }, kinds := [], alts := [], laidByText := true, laidKinds := [.data, .data, .data, .data, .sentinel, .sentinel, .mapped, .data, .mapped, .mapped, .mapped, .mapped, .mapped, .data, .pinned], laidTests := true, laidLooks := .later }
def TopSwapsUptoCardSaid : Prop := Claim7.holds Tryz.pinned (.plain (OpenSpec.upto topSwapsSpec)) topSwapsUptoCard

/-- THE SECOND FORM's CARD OF 'moattop.TopEdges'. -/
def topEdgesUptoCard : Claim7 := { stood := { row := topEdgesUptoRow, standIns := [], harness := (true, "de4c3ed68d77f15170bc3bd756072c4b69b61f911334d32ba3edcef6732c67ba"), looks := true }, kinds := [], alts := [], laidByText := true, laidKinds := [.data, .data, .data, .data, .sentinel, .sentinel, .mapped, .data, .mapped, .mapped, .mapped, .mapped, .mapped, .data, .pinned], laidTests := true, laidLooks := .later }
def TopEdgesUptoCardSaid : Prop := Claim7.holds Tryz.pinned (.plain (OpenSpec.upto topEdgesSpec)) topEdgesUptoCard

/-- THE SECOND FORM's CARD OF 'moattop.TopDirects'. -/
def topDirectsUptoCard : Claim7 := { stood := { row := topDirectsUptoRow, standIns := [], harness := (true, "de4c3ed68d77f15170bc3bd756072c4b69b61f911334d32ba3edcef6732c67ba"), looks := true }, kinds := [], alts := [], laidByText := true, laidKinds := [.data, .data, .data, .data, .sentinel, .sentinel, .mapped, .data, .mapped, .mapped, .mapped, .mapped, .mapped, .data, .pinned], laidTests := true, laidLooks := .later }
def TopDirectsUptoCardSaid : Prop := Claim7.holds Tryz.pinned (.plain (OpenSpec.upto topDirectsSpec)) topDirectsUptoCard

/-- THE SECOND FORM's CARD OF 'moattop.TopTampers'. -/
def topTampersUptoCard : Claim7 := { stood := { row := topTampersUptoRow, standIns := [], harness := (true, "de4c3ed68d77f15170bc3bd756072c4b69b61f911334d32ba3edcef6732c67ba"), looks := true }, kinds := [], alts := [], laidByText := true, laidKinds := [.data, .data, .data, .data, .sentinel, .sentinel, .mapped, .data, .mapped, .mapped, .mapped, .mapped, .mapped, .data, .pinned], laidTests := true, laidLooks := .later }
def TopTampersUptoCardSaid : Prop := Claim7.holds Tryz.pinned (.plain (OpenSpec.upto topTampersSpec)) topTampersUptoCard
end Rows
end Go.Proofs.YtacknhbgfijkcaaGreatDoor

/-
  DERIVED. GIVEN WITH THE SEED: THE CARDS: each row of YtfmppmabnpkooaaDoorRows.lean that lists a variable, with what it lists TIED to the program's text (the seventh form; the later family's looks); each row that meets fmt, with fmt's text TOLD by the authors' own Lean function (tested against real Go, not proved from fmt's source: count such statements apart). THE CARD IS WHAT COUNTS. Prove the row's statement (the work); the ties are given (YtfmppmabnpkooaaDoorTie.lean); close each card by the builder's one call (the guide's Derived/Test/ToyasCard.lean, 'card_holds'). Laid BY PROGRAM, IN A SANDBOX (cutbox-door.mjs). By AI agents, Wed Nov 11 2026. No macro, syntax, notation, axiom, sorry.
-/
import Derived.Test.YtfmppmabnpkooaaDoorRows
import GoSem.ClaimSeven
namespace Go.Proofs.YtfmppmabnpkooaaDoor
namespace Rows

/-- THE TIED CARD OF 'moatlaw3.FieldTells'. -/
def fieldTellsCard : Claim7 := { stood := { row := fieldTellsRow, standIns := [], harness := (true, "bbff303a77905f31ba50631edf97baa54c765626db4729932a0b7e8a5b75d3fc"), looks := true }, kinds := [], alts := [], laidByText := true, laidKinds := [.data, .pinned], laidTests := true, laidLooks := .later }
def FieldTellsCardSaid : Prop := Claim7.holds Tryd.pinned (.plain (OpenSpec.ofChange fieldTellsSpec)) fieldTellsCard

/-- THE TIED CARD OF 'moatlaw3.FieldLists'. -/
def fieldListsCard : Claim7 := { stood := { row := fieldListsRow, standIns := [], harness := (true, "bbff303a77905f31ba50631edf97baa54c765626db4729932a0b7e8a5b75d3fc"), looks := true }, kinds := [], alts := [], laidByText := true, laidKinds := [.data, .pinned], laidTests := true, laidLooks := .later }
def FieldListsCardSaid : Prop := Claim7.holds Tryd.pinned (.plain (OpenSpec.ofChange fieldListsSpec)) fieldListsCard

/-- THE TIED CARD OF 'moatlaw3.FieldPairs'. -/
def fieldPairsCard : Claim7 := { stood := { row := fieldPairsRow, standIns := [], harness := (true, "bbff303a77905f31ba50631edf97baa54c765626db4729932a0b7e8a5b75d3fc"), looks := true }, kinds := [], alts := [], laidByText := true, laidKinds := [.data, .pinned], laidTests := true, laidLooks := .later }
def FieldPairsCardSaid : Prop := Claim7.holds Tryd.pinned (.plain (OpenSpec.ofChange fieldPairsSpec)) fieldPairsCard

/-- THE TIED CARD OF 'moatlaw3.FieldTrims'. -/
def fieldTrimsCard : Claim7 := { stood := { row := fieldTrimsRow, standIns := [], harness := (true, "bbff303a77905f31ba50631edf97baa54c765626db4729932a0b7e8a5b75d3fc"), looks := true }, kinds := [], alts := [], laidByText := true, laidKinds := [.data, .pinned], laidTests := true, laidLooks := .later }
def FieldTrimsCardSaid : Prop := Claim7.holds Tryd.pinned (.plain (OpenSpec.ofChange fieldTrimsSpec)) fieldTrimsCard

/-- THE TIED CARD OF 'moatlaw7.CookieTells'. -/
def cookieTellsCard : Claim7 := { stood := { row := cookieTellsRow, standIns := [], harness := (true, "bbff303a77905f31ba50631edf97baa54c765626db4729932a0b7e8a5b75d3fc"), looks := true }, kinds := [], alts := [], laidByText := true, laidKinds := [.data, .data, .pinned], laidTests := true, laidLooks := .later }
def CookieTellsCardSaid : Prop := Claim7.holds Tryd.pinned (.plain (OpenSpec.ofChange cookieTellsSpec)) cookieTellsCard

/-- THE TIED CARD OF 'moatlaw7.CookieRounds'. -/
def cookieRoundsCard : Claim7 := { stood := { row := cookieRoundsRow, standIns := [], harness := (true, "bbff303a77905f31ba50631edf97baa54c765626db4729932a0b7e8a5b75d3fc"), looks := true }, kinds := [], alts := [], laidByText := true, laidKinds := [.data, .data, .pinned], laidTests := true, laidLooks := .later }
def CookieRoundsCardSaid : Prop := Claim7.holds Tryd.pinned (.plain (OpenSpec.ofChange cookieRoundsSpec)) cookieRoundsCard

/-- THE TIED CARD OF 'moatlaw7.CookieBad'. -/
def cookieBadCard : Claim7 := { stood := { row := cookieBadRow, standIns := [], harness := (true, "bbff303a77905f31ba50631edf97baa54c765626db4729932a0b7e8a5b75d3fc"), looks := true }, kinds := [], alts := [], laidByText := true, laidKinds := [.data, .data, .pinned], laidTests := true, laidLooks := .later }
def CookieBadCardSaid : Prop := Claim7.holds Tryd.pinned (.plain (OpenSpec.ofChange cookieBadSpec)) cookieBadCard

/-- THE TIED CARD OF 'moatlaw1.UrlTells'. -/
def urlTellsCard : Claim7 := { stood := { row := urlTellsRow, standIns := [], harness := (true, "bbff303a77905f31ba50631edf97baa54c765626db4729932a0b7e8a5b75d3fc"), looks := true }, kinds := [], alts := [], laidByText := true, laidKinds := [.data, .data, .data, .data, .sentinel, .sentinel, .mapped, .pinned], laidTests := true, laidLooks := .later }
def UrlTellsCardSaid : Prop := Claim7.holds Tryd.pinned (.plain (OpenSpec.ofChange urlTellsSpec)) urlTellsCard

/-- THE TIED CARD OF 'moatlaw1.UrlTexts'. -/
def urlTextsCard : Claim7 := { stood := { row := urlTextsRow, standIns := [], harness := (true, "bbff303a77905f31ba50631edf97baa54c765626db4729932a0b7e8a5b75d3fc"), looks := true }, kinds := [], alts := [], laidByText := true, laidKinds := [.data, .data, .data, .data, .sentinel, .sentinel, .mapped, .pinned], laidTests := true, laidLooks := .later }
def UrlTextsCardSaid : Prop := Claim7.holds Tryd.pinned (.plain (OpenSpec.ofChange urlTextsSpec)) urlTextsCard

/-- THE TIED CARD OF 'moatlaw1.UrlPorts'. -/
def urlPortsCard : Claim7 := { stood := { row := urlPortsRow, standIns := [], harness := (true, "bbff303a77905f31ba50631edf97baa54c765626db4729932a0b7e8a5b75d3fc"), looks := true }, kinds := [], alts := [], laidByText := true, laidKinds := [.data, .data, .data, .data, .sentinel, .sentinel, .mapped, .pinned], laidTests := true, laidLooks := .later }
def UrlPortsCardSaid : Prop := Claim7.holds Tryd.pinned (.plain (OpenSpec.ofChange urlPortsSpec)) urlPortsCard

/-- THE TIED CARD OF 'moatlaw1.UrlHosts'. -/
def urlHostsCard : Claim7 := { stood := { row := urlHostsRow, standIns := [], harness := (true, "bbff303a77905f31ba50631edf97baa54c765626db4729932a0b7e8a5b75d3fc"), looks := true }, kinds := [], alts := [], laidByText := true, laidKinds := [.data, .data, .data, .data, .sentinel, .sentinel, .mapped, .pinned], laidTests := true, laidLooks := .later }
def UrlHostsCardSaid : Prop := Claim7.holds Tryd.pinned (.plain (OpenSpec.ofChange urlHostsSpec)) urlHostsCard

/-- THE TIED CARD OF 'moatlaw1.UrlPaths'. -/
def urlPathsCard : Claim7 := { stood := { row := urlPathsRow, standIns := [], harness := (true, "bbff303a77905f31ba50631edf97baa54c765626db4729932a0b7e8a5b75d3fc"), looks := true }, kinds := [], alts := [], laidByText := true, laidKinds := [.data, .data, .data, .data, .sentinel, .sentinel, .mapped, .pinned], laidTests := true, laidLooks := .later }
def UrlPathsCardSaid : Prop := Claim7.holds Tryd.pinned (.plain (OpenSpec.ofChange urlPathsSpec)) urlPathsCard

/-- THE TIED CARD OF 'moatlaw6.CspSources'. -/
def cspSourcesCard : Claim7 := { stood := { row := cspSourcesRow, standIns := [], harness := (true, "bbff303a77905f31ba50631edf97baa54c765626db4729932a0b7e8a5b75d3fc"), looks := true }, kinds := [], alts := [], laidByText := true, laidKinds := [.data, .data, .data, .data, .sentinel, .sentinel, .mapped, .pinned], laidTests := true, laidLooks := .later }
def CspSourcesCardSaid : Prop := Claim7.holds Tryd.pinned (.plain (OpenSpec.ofChange cspSourcesSpec)) cspSourcesCard

/-- THE TIED CARD OF 'moatlaw6.CspHosts'. -/
def cspHostsCard : Claim7 := { stood := { row := cspHostsRow, standIns := [], harness := (true, "bbff303a77905f31ba50631edf97baa54c765626db4729932a0b7e8a5b75d3fc"), looks := true }, kinds := [], alts := [], laidByText := true, laidKinds := [.data, .data, .data, .data, .sentinel, .sentinel, .mapped, .pinned], laidTests := true, laidLooks := .later }
def CspHostsCardSaid : Prop := Claim7.holds Tryd.pinned (.plain (OpenSpec.ofChange cspHostsSpec)) cspHostsCard

/-- THE SECOND FORM's CARD OF 'moatlaw3.FieldTells'. -/
def fieldTellsUptoCard : Claim7 := { stood := { row := fieldTellsUptoRow, standIns := [], harness := (true, "bbff303a77905f31ba50631edf97baa54c765626db4729932a0b7e8a5b75d3fc"), looks := true }, kinds := [], alts := [], laidByText := true, laidKinds := [.data, .pinned], laidTests := true, laidLooks := .later }
def FieldTellsUptoCardSaid : Prop := Claim7.holds Tryd.pinned (.plain (OpenSpec.upto fieldTellsSpec)) fieldTellsUptoCard

/-- THE SECOND FORM's CARD OF 'moatlaw3.FieldLists'. -/
def fieldListsUptoCard : Claim7 := { stood := { row := fieldListsUptoRow, standIns := [], harness := (true, "bbff303a77905f31ba50631edf97baa54c765626db4729932a0b7e8a5b75d3fc"), looks := true }, kinds := [], alts := [], laidByText := true, laidKinds := [.data, .pinned], laidTests := true, laidLooks := .later }
def FieldListsUptoCardSaid : Prop := Claim7.holds Tryd.pinned (.plain (OpenSpec.upto fieldListsSpec)) fieldListsUptoCard

/-- THE SECOND FORM's CARD OF 'moatlaw3.FieldPairs'. -/
def fieldPairsUptoCard : Claim7 := { stood := { row := fieldPairsUptoRow, standIns := [], harness := (true, "bbff303a77905f31ba50631edf97baa54c765626db4729932a0b7e8a5b75d3fc"), looks := true }, kinds := [], alts := [], laidByText := true, laidKinds := [.data, .pinned], laidTests := true, laidLooks := .later }
def FieldPairsUptoCardSaid : Prop := Claim7.holds Tryd.pinned (.plain (OpenSpec.upto fieldPairsSpec)) fieldPairsUptoCard

/-- THE SECOND FORM's CARD OF 'moatlaw3.FieldTrims'. -/
def fieldTrimsUptoCard : Claim7 := { stood := { row := fieldTrimsUptoRow, standIns := [], harness := (true, "bbff303a77905f31ba50631edf97baa54c765626db4729932a0b7e8a5b75d3fc"), looks := true }, kinds := [], alts := [], laidByText := true, laidKinds := [.data, .pinned], laidTests := true, laidLooks := .later }
def FieldTrimsUptoCardSaid : Prop := Claim7.holds Tryd.pinned (.plain (OpenSpec.upto fieldTrimsSpec)) fieldTrimsUptoCard

/-- THE SECOND FORM's CARD OF 'moatlaw7.CookieTells'. -/
def cookieTellsUptoCard : Claim7 := { stood := { row := cookieTellsUptoRow, standIns := [], harness := (true, "bbff303a77905f31ba50631edf97baa54c765626db4729932a0b7e8a5b75d3fc"), looks := true }, kinds := [], alts := [], laidByText := true, laidKinds := [.data, .data, .pinned], laidTests := true, laidLooks := .later }
def CookieTellsUptoCardSaid : Prop := Claim7.holds Tryd.pinned (.plain (OpenSpec.upto cookieTellsSpec)) cookieTellsUptoCard

/-- THE SECOND FORM's CARD OF 'moatlaw7.CookieRounds'. -/
def cookieRoundsUptoCard : Claim7 := { stood := { row := cookieRoundsUptoRow, standIns := [], harness := (true, "bbff303a77905f31ba50631edf97baa54c765626db4729932a0b7e8a5b75d3fc"), looks := true }, kinds := [], alts := [], laidByText := true, laidKinds := [.data, .data, .pinned], laidTests := true, laidLooks := .later }
def CookieRoundsUptoCardSaid : Prop := Claim7.holds Tryd.pinned (.plain (OpenSpec.upto cookieRoundsSpec)) cookieRoundsUptoCard

/-- THE SECOND FORM's CARD OF 'moatlaw7.CookieBad'. -/
def cookieBadUptoCard : Claim7 := { stood := { row := cookieBadUptoRow, standIns := [], harness := (true, "bbff303a77905f31ba50631edf97baa54c765626db4729932a0b7e8a5b75d3fc"), looks := true }, kinds := [], alts := [], laidByText := true, laidKinds := [.data, .data, .pinned], laidTests := true, laidLooks := .later }
def CookieBadUptoCardSaid : Prop := Claim7.holds Tryd.pinned (.plain (OpenSpec.upto cookieBadSpec)) cookieBadUptoCard

/-- THE SECOND FORM's CARD OF 'moatlaw1.UrlTells'. -/
def urlTellsUptoCard : Claim7 := { stood := { row := urlTellsUptoRow, standIns := [], harness := (true, "bbff303a77905f31ba50631edf97baa54c765626db4729932a0b7e8a5b75d3fc"), looks := true }, kinds := [], alts := [], laidByText := true, laidKinds := [.data, .data, .data, .data, .sentinel, .sentinel, .mapped, .pinned], laidTests := true, laidLooks := .later }
def UrlTellsUptoCardSaid : Prop := Claim7.holds Tryd.pinned (.plain (OpenSpec.upto urlTellsSpec)) urlTellsUptoCard

/-- THE SECOND FORM's CARD OF 'moatlaw1.UrlTexts'. -/
def urlTextsUptoCard : Claim7 := { stood := { row := urlTextsUptoRow, standIns := [], harness := (true, "bbff303a77905f31ba50631edf97baa54c765626db4729932a0b7e8a5b75d3fc"), looks := true }, kinds := [], alts := [], laidByText := true, laidKinds := [.data, .data, .data, .data, .sentinel, .sentinel, .mapped, .pinned], laidTests := true, laidLooks := .later }
def UrlTextsUptoCardSaid : Prop := Claim7.holds Tryd.pinned (.plain (OpenSpec.upto urlTextsSpec)) urlTextsUptoCard

/-- THE SECOND FORM's CARD OF 'moatlaw1.UrlPorts'. -/
def urlPortsUptoCard : Claim7 := { stood := { row := urlPortsUptoRow, standIns := [], harness := (true, "bbff303a77905f31ba50631edf97baa54c765626db4729932a0b7e8a5b75d3fc"), looks := true }, kinds := [], alts := [], laidByText := true, laidKinds := [.data, .data, .data, .data, .sentinel, .sentinel, .mapped, .pinned], laidTests := true, laidLooks := .later }
def UrlPortsUptoCardSaid : Prop := Claim7.holds Tryd.pinned (.plain (OpenSpec.upto urlPortsSpec)) urlPortsUptoCard

/-- THE SECOND FORM's CARD OF 'moatlaw1.UrlHosts'. -/
def urlHostsUptoCard : Claim7 := { stood := { row := urlHostsUptoRow, standIns := [], harness := (true, "bbff303a77905f31ba50631edf97baa54c765626db4729932a0b7e8a5b75d3fc"), looks := true }, kinds := [], alts := [], laidByText := true, laidKinds := [.data, .data, .data, .data, .sentinel, .sentinel, .mapped, .pinned], laidTests := true, laidLooks := .later }
def UrlHostsUptoCardSaid : Prop := Claim7.holds Tryd.pinned (.plain (OpenSpec.upto urlHostsSpec)) urlHostsUptoCard

/-- THE SECOND FORM's CARD OF 'moatlaw1.UrlPaths'. -/
def urlPathsUptoCard : Claim7 := { stood := { row := urlPathsUptoRow, standIns := [], harness := (true, "bbff303a77905f31ba50631edf97baa54c765626db4729932a0b7e8a5b75d3fc"), looks := true }, kinds := [], alts := [], laidByText := true, laidKinds := [.data, .data, .data, .data, .sentinel, .sentinel, .mapped, .pinned], laidTests := true, laidLooks := .later }
def UrlPathsUptoCardSaid : Prop := Claim7.holds Tryd.pinned (.plain (OpenSpec.upto urlPathsSpec)) urlPathsUptoCard

/-- THE SECOND FORM's CARD OF 'moatlaw6.CspSources'. -/
def cspSourcesUptoCard : Claim7 := { stood := { row := cspSourcesUptoRow, standIns := [], harness := (true, "bbff303a77905f31ba50631edf97baa54c765626db4729932a0b7e8a5b75d3fc"), looks := true }, kinds := [], alts := [], laidByText := true, laidKinds := [.data, .data, .data, .data, .sentinel, .sentinel, .mapped, .pinned], laidTests := true, laidLooks := .later }
def CspSourcesUptoCardSaid : Prop := Claim7.holds Tryd.pinned (.plain (OpenSpec.upto cspSourcesSpec)) cspSourcesUptoCard

/-- THE SECOND FORM's CARD OF 'moatlaw6.CspHosts'. -/
def cspHostsUptoCard : Claim7 := { stood := { row := cspHostsUptoRow, standIns := [], harness := (true, "bbff303a77905f31ba50631edf97baa54c765626db4729932a0b7e8a5b75d3fc"), looks := true }, kinds := [], alts := [], laidByText := true, laidKinds := [.data, .data, .data, .data, .sentinel, .sentinel, .mapped, .pinned], laidTests := true, laidLooks := .later }
def CspHostsUptoCardSaid : Prop := Claim7.holds Tryd.pinned (.plain (OpenSpec.upto cspHostsSpec)) cspHostsUptoCard
end Rows
end Go.Proofs.YtfmppmabnpkooaaDoor

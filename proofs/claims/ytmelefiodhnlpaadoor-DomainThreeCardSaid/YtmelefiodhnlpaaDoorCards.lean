/-
  DERIVED. GIVEN WITH THE SEED: THE CARDS: each row of YtmelefiodhnlpaaDoorRows.lean that lists a variable, with what it lists TIED to the program's text (the seventh form; the later family's looks); each row that meets fmt, with fmt's text TOLD by the authors' own Lean function (tested against real Go, not proved from fmt's source: count such statements apart). THE CARD IS WHAT COUNTS. Prove the row's statement (the work); the ties are given (YtmelefiodhnlpaaDoorTie.lean); close each card by the builder's one call (the guide's Derived/Test/ToyasCard.lean, 'card_holds'). Laid BY PROGRAM, IN A SANDBOX (cutbox-door.mjs). By AI agents, Wed Nov 11 2026. No macro, syntax, notation, axiom, sorry.
-/
import Derived.Test.YtmelefiodhnlpaaDoorRows
import GoSem.ClaimSeven
namespace Go.Proofs.YtmelefiodhnlpaaDoor
namespace Rows

/-- THE TIED CARD OF 'moatlaw2.DomainRows'. -/
def domainRowsCard : Claim7 := { stood := { row := domainRowsRow, standIns := [], harness := (true, "ee44e49daa498463e9532779fc6bbd7ec534c87bcefd57d64964bb6e308b2589"), looks := false }, kinds := [], alts := [], laidByText := true, laidKinds := [.data, .pinned], laidTests := true, laidLooks := .later }
def DomainRowsCardSaid : Prop := Claim7.holds Tryd.pinned (.plain (OpenSpec.ofChange domainRowsSpec)) domainRowsCard

/-- THE TIED CARD OF 'moatlaw2.DomainThree'. -/
def domainThreeCard : Claim7 := { stood := { row := domainThreeRow, standIns := [], harness := (true, "ee44e49daa498463e9532779fc6bbd7ec534c87bcefd57d64964bb6e308b2589"), looks := false }, kinds := [], alts := [], laidByText := true, laidKinds := [.data, .pinned], laidTests := true, laidLooks := .later }
def DomainThreeCardSaid : Prop := Claim7.holds Tryd.pinned (.plain (OpenSpec.ofChange domainThreeSpec)) domainThreeCard

/-- THE TIED CARD OF 'moatlaw2.DomainPairs'. -/
def domainPairsCard : Claim7 := { stood := { row := domainPairsRow, standIns := [], harness := (true, "ee44e49daa498463e9532779fc6bbd7ec534c87bcefd57d64964bb6e308b2589"), looks := false }, kinds := [], alts := [], laidByText := true, laidKinds := [.data, .pinned], laidTests := true, laidLooks := .later }
def DomainPairsCardSaid : Prop := Claim7.holds Tryd.pinned (.plain (OpenSpec.ofChange domainPairsSpec)) domainPairsCard

/-- THE TIED CARD OF 'moatlaw8.JarTells'. -/
def jarTellsCard : Claim7 := { stood := { row := jarTellsRow, standIns := [], harness := (true, "ee44e49daa498463e9532779fc6bbd7ec534c87bcefd57d64964bb6e308b2589"), looks := false }, kinds := [], alts := [], laidByText := true, laidKinds := [.data, .pinned], laidTests := true, laidLooks := .later }
def JarTellsCardSaid : Prop := Claim7.holds Tryd.pinned (.plain (OpenSpec.ofChange jarTellsSpec)) jarTellsCard

/-- THE TIED CARD OF 'moatlaw8.JarStricter'. -/
def jarStricterCard : Claim7 := { stood := { row := jarStricterRow, standIns := [], harness := (true, "ee44e49daa498463e9532779fc6bbd7ec534c87bcefd57d64964bb6e308b2589"), looks := false }, kinds := [], alts := [], laidByText := true, laidKinds := [.data, .pinned], laidTests := true, laidLooks := .later }
def JarStricterCardSaid : Prop := Claim7.holds Tryd.pinned (.plain (OpenSpec.ofChange jarStricterSpec)) jarStricterCard

/-- THE TIED CARD OF 'moatlaw8.JarPaths'. -/
def jarPathsCard : Claim7 := { stood := { row := jarPathsRow, standIns := [], harness := (true, "ee44e49daa498463e9532779fc6bbd7ec534c87bcefd57d64964bb6e308b2589"), looks := false }, kinds := [], alts := [], laidByText := true, laidKinds := [.data, .pinned], laidTests := true, laidLooks := .later }
def JarPathsCardSaid : Prop := Claim7.holds Tryd.pinned (.plain (OpenSpec.ofChange jarPathsSpec)) jarPathsCard

/-- THE TIED CARD OF 'moatlaw8.JarHosts'. -/
def jarHostsCard : Claim7 := { stood := { row := jarHostsRow, standIns := [], harness := (true, "ee44e49daa498463e9532779fc6bbd7ec534c87bcefd57d64964bb6e308b2589"), looks := false }, kinds := [], alts := [], laidByText := true, laidKinds := [.data, .pinned], laidTests := true, laidLooks := .later }
def JarHostsCardSaid : Prop := Claim7.holds Tryd.pinned (.plain (OpenSpec.ofChange jarHostsSpec)) jarHostsCard

/-- THE TIED CARD OF 'moatlaw8.JarNears'. -/
def jarNearsCard : Claim7 := { stood := { row := jarNearsRow, standIns := [], harness := (true, "ee44e49daa498463e9532779fc6bbd7ec534c87bcefd57d64964bb6e308b2589"), looks := false }, kinds := [], alts := [], laidByText := true, laidKinds := [.data, .pinned], laidTests := true, laidLooks := .later }
def JarNearsCardSaid : Prop := Claim7.holds Tryd.pinned (.plain (OpenSpec.ofChange jarNearsSpec)) jarNearsCard

/-- THE SECOND FORM's CARD OF 'moatlaw2.DomainRows'. -/
def domainRowsUptoCard : Claim7 := { stood := { row := domainRowsUptoRow, standIns := [], harness := (true, "ee44e49daa498463e9532779fc6bbd7ec534c87bcefd57d64964bb6e308b2589"), looks := false }, kinds := [], alts := [], laidByText := true, laidKinds := [.data, .pinned], laidTests := true, laidLooks := .later }
def DomainRowsUptoCardSaid : Prop := Claim7.holds Tryd.pinned (.plain (OpenSpec.upto domainRowsSpec)) domainRowsUptoCard

/-- THE SECOND FORM's CARD OF 'moatlaw2.DomainThree'. -/
def domainThreeUptoCard : Claim7 := { stood := { row := domainThreeUptoRow, standIns := [], harness := (true, "ee44e49daa498463e9532779fc6bbd7ec534c87bcefd57d64964bb6e308b2589"), looks := false }, kinds := [], alts := [], laidByText := true, laidKinds := [.data, .pinned], laidTests := true, laidLooks := .later }
def DomainThreeUptoCardSaid : Prop := Claim7.holds Tryd.pinned (.plain (OpenSpec.upto domainThreeSpec)) domainThreeUptoCard

/-- THE SECOND FORM's CARD OF 'moatlaw2.DomainPairs'. -/
def domainPairsUptoCard : Claim7 := { stood := { row := domainPairsUptoRow, standIns := [], harness := (true, "ee44e49daa498463e9532779fc6bbd7ec534c87bcefd57d64964bb6e308b2589"), looks := false }, kinds := [], alts := [], laidByText := true, laidKinds := [.data, .pinned], laidTests := true, laidLooks := .later }
def DomainPairsUptoCardSaid : Prop := Claim7.holds Tryd.pinned (.plain (OpenSpec.upto domainPairsSpec)) domainPairsUptoCard

/-- THE SECOND FORM's CARD OF 'moatlaw8.JarTells'. -/
def jarTellsUptoCard : Claim7 := { stood := { row := jarTellsUptoRow, standIns := [], harness := (true, "ee44e49daa498463e9532779fc6bbd7ec534c87bcefd57d64964bb6e308b2589"), looks := false }, kinds := [], alts := [], laidByText := true, laidKinds := [.data, .pinned], laidTests := true, laidLooks := .later }
def JarTellsUptoCardSaid : Prop := Claim7.holds Tryd.pinned (.plain (OpenSpec.upto jarTellsSpec)) jarTellsUptoCard

/-- THE SECOND FORM's CARD OF 'moatlaw8.JarStricter'. -/
def jarStricterUptoCard : Claim7 := { stood := { row := jarStricterUptoRow, standIns := [], harness := (true, "ee44e49daa498463e9532779fc6bbd7ec534c87bcefd57d64964bb6e308b2589"), looks := false }, kinds := [], alts := [], laidByText := true, laidKinds := [.data, .pinned], laidTests := true, laidLooks := .later }
def JarStricterUptoCardSaid : Prop := Claim7.holds Tryd.pinned (.plain (OpenSpec.upto jarStricterSpec)) jarStricterUptoCard

/-- THE SECOND FORM's CARD OF 'moatlaw8.JarPaths'. -/
def jarPathsUptoCard : Claim7 := { stood := { row := jarPathsUptoRow, standIns := [], harness := (true, "ee44e49daa498463e9532779fc6bbd7ec534c87bcefd57d64964bb6e308b2589"), looks := false }, kinds := [], alts := [], laidByText := true, laidKinds := [.data, .pinned], laidTests := true, laidLooks := .later }
def JarPathsUptoCardSaid : Prop := Claim7.holds Tryd.pinned (.plain (OpenSpec.upto jarPathsSpec)) jarPathsUptoCard

/-- THE SECOND FORM's CARD OF 'moatlaw8.JarHosts'. -/
def jarHostsUptoCard : Claim7 := { stood := { row := jarHostsUptoRow, standIns := [], harness := (true, "ee44e49daa498463e9532779fc6bbd7ec534c87bcefd57d64964bb6e308b2589"), looks := false }, kinds := [], alts := [], laidByText := true, laidKinds := [.data, .pinned], laidTests := true, laidLooks := .later }
def JarHostsUptoCardSaid : Prop := Claim7.holds Tryd.pinned (.plain (OpenSpec.upto jarHostsSpec)) jarHostsUptoCard

/-- THE SECOND FORM's CARD OF 'moatlaw8.JarNears'. -/
def jarNearsUptoCard : Claim7 := { stood := { row := jarNearsUptoRow, standIns := [], harness := (true, "ee44e49daa498463e9532779fc6bbd7ec534c87bcefd57d64964bb6e308b2589"), looks := false }, kinds := [], alts := [], laidByText := true, laidKinds := [.data, .pinned], laidTests := true, laidLooks := .later }
def JarNearsUptoCardSaid : Prop := Claim7.holds Tryd.pinned (.plain (OpenSpec.upto jarNearsSpec)) jarNearsUptoCard
end Rows
end Go.Proofs.YtmelefiodhnlpaaDoor

/-
  DERIVED. GIVEN WITH THE SEED: THE CARDS: each row of YtamiaalfjmppaaaDoorRows.lean that lists a variable, with what it lists TIED to the program's text (the seventh form; the later family's looks); each row that meets fmt, with fmt's text TOLD by the authors' own Lean function (tested against real Go, not proved from fmt's source: count such statements apart). THE CARD IS WHAT COUNTS. Prove the row's statement (the work); the ties are given (YtamiaalfjmppaaaDoorTie.lean); close each card by the builder's one call (the guide's Derived/Test/ToyasCard.lean, 'card_holds'). Laid BY PROGRAM, IN A SANDBOX (cutbox-door.mjs). By AI agents, Wed Nov 11 2026. No macro, syntax, notation, axiom, sorry.
-/
import Derived.Test.YtamiaalfjmppaaaDoorRows
import GoSem.ClaimSeven
namespace Go.Proofs.YtamiaalfjmppaaaDoor
namespace Rows

/-- THE TIED CARD OF 'estoppeltop.TopShown'. -/
def topShownCard : Claim7 := { stood := { row := topShownRow, standIns := [], harness := (true, "30ae887250857a945bcf3ab499356b5664f822a2b6743eff10b50caaa25c64e8"), looks := false }, kinds := [], alts := [], laidByText := true, laidKinds := [.data, .data, .data, .data], laidTests := true, laidLooks := .later }
def TopShownCardSaid : Prop := Claim7.holds Tryd.pinned (.plain (OpenSpec.ofChange topShownSpec)) topShownCard

/-- THE TIED CARD OF 'estoppellaw34.DiscloseMatchesReference'. -/
def discloseMatchesReferenceCard : Claim7 := { stood := { row := discloseMatchesReferenceRow, standIns := [], harness := (true, "30ae887250857a945bcf3ab499356b5664f822a2b6743eff10b50caaa25c64e8"), looks := false }, kinds := [], alts := [], laidByText := true, laidKinds := [.data, .data, .data, .data], laidTests := true, laidLooks := .later }
def DiscloseMatchesReferenceCardSaid : Prop := Claim7.holds Tryd.pinned (.plain (OpenSpec.ofChange discloseMatchesReferenceSpec)) discloseMatchesReferenceCard

/-- THE TIED CARD OF 'estoppellaw34.DiscloseProves'. -/
def discloseProvesCard : Claim7 := { stood := { row := discloseProvesRow, standIns := [], harness := (true, "30ae887250857a945bcf3ab499356b5664f822a2b6743eff10b50caaa25c64e8"), looks := false }, kinds := [], alts := [], laidByText := true, laidKinds := [.data, .data, .data, .data], laidTests := true, laidLooks := .later }
def DiscloseProvesCardSaid : Prop := Claim7.holds Tryd.pinned (.plain (OpenSpec.ofChange discloseProvesSpec)) discloseProvesCard

/-- THE TIED CARD OF 'estoppellaw34.DiscloseNothingElse'. -/
def discloseNothingElseCard : Claim7 := { stood := { row := discloseNothingElseRow, standIns := [], harness := (true, "30ae887250857a945bcf3ab499356b5664f822a2b6743eff10b50caaa25c64e8"), looks := false }, kinds := [], alts := [], laidByText := true, laidKinds := [.data, .data, .data, .data], laidTests := true, laidLooks := .later }
def DiscloseNothingElseCardSaid : Prop := Claim7.holds Tryd.pinned (.plain (OpenSpec.ofChange discloseNothingElseSpec)) discloseNothingElseCard

/-- THE TIED CARD OF 'estoppellaw34.DiscloseLeaves'. -/
def discloseLeavesCard : Claim7 := { stood := { row := discloseLeavesRow, standIns := [], harness := (true, "30ae887250857a945bcf3ab499356b5664f822a2b6743eff10b50caaa25c64e8"), looks := false }, kinds := [], alts := [], laidByText := true, laidKinds := [.data, .data, .data, .data], laidTests := true, laidLooks := .later }
def DiscloseLeavesCardSaid : Prop := Claim7.holds Tryd.pinned (.plain (OpenSpec.ofChange discloseLeavesSpec)) discloseLeavesCard

/-- THE TIED CARD OF 'estoppellaw34.DiscloseHalves'. -/
def discloseHalvesCard : Claim7 := { stood := { row := discloseHalvesRow, standIns := [], harness := (true, "30ae887250857a945bcf3ab499356b5664f822a2b6743eff10b50caaa25c64e8"), looks := false }, kinds := [], alts := [], laidByText := true, laidKinds := [.data, .data, .data, .data], laidTests := true, laidLooks := .later }
def DiscloseHalvesCardSaid : Prop := Claim7.holds Tryd.pinned (.plain (OpenSpec.ofChange discloseHalvesSpec)) discloseHalvesCard

/-- THE TIED CARD OF 'estoppellaw34.DiscloseLengths'. -/
def discloseLengthsCard : Claim7 := { stood := { row := discloseLengthsRow, standIns := [], harness := (true, "30ae887250857a945bcf3ab499356b5664f822a2b6743eff10b50caaa25c64e8"), looks := false }, kinds := [], alts := [], laidByText := true, laidKinds := [.data, .data, .data, .data], laidTests := true, laidLooks := .later }
def DiscloseLengthsCardSaid : Prop := Claim7.holds Tryd.pinned (.plain (OpenSpec.ofChange discloseLengthsSpec)) discloseLengthsCard

/-- THE TIED CARD OF 'estoppellaw34.DiscloseFiles'. -/
def discloseFilesCard : Claim7 := { stood := { row := discloseFilesRow, standIns := [], harness := (true, "30ae887250857a945bcf3ab499356b5664f822a2b6743eff10b50caaa25c64e8"), looks := false }, kinds := [], alts := [], laidByText := true, laidKinds := [.data, .data, .data, .data], laidTests := true, laidLooks := .later }
def DiscloseFilesCardSaid : Prop := Claim7.holds Tryd.pinned (.plain (OpenSpec.ofChange discloseFilesSpec)) discloseFilesCard

/-- THE SECOND FORM's CARD OF 'estoppeltop.TopShown'. -/
def topShownUptoCard : Claim7 := { stood := { row := topShownUptoRow, standIns := [], harness := (true, "30ae887250857a945bcf3ab499356b5664f822a2b6743eff10b50caaa25c64e8"), looks := false }, kinds := [], alts := [], laidByText := true, laidKinds := [.data, .data, .data, .data], laidTests := true, laidLooks := .later }
def TopShownUptoCardSaid : Prop := Claim7.holds Tryd.pinned (.plain (OpenSpec.upto topShownSpec)) topShownUptoCard

/-- THE SECOND FORM's CARD OF 'estoppellaw34.DiscloseMatchesReference'. -/
def discloseMatchesReferenceUptoCard : Claim7 := { stood := { row := discloseMatchesReferenceUptoRow, standIns := [], harness := (true, "30ae887250857a945bcf3ab499356b5664f822a2b6743eff10b50caaa25c64e8"), looks := false }, kinds := [], alts := [], laidByText := true, laidKinds := [.data, .data, .data, .data], laidTests := true, laidLooks := .later }
def DiscloseMatchesReferenceUptoCardSaid : Prop := Claim7.holds Tryd.pinned (.plain (OpenSpec.upto discloseMatchesReferenceSpec)) discloseMatchesReferenceUptoCard

/-- THE SECOND FORM's CARD OF 'estoppellaw34.DiscloseProves'. -/
def discloseProvesUptoCard : Claim7 := { stood := { row := discloseProvesUptoRow, standIns := [], harness := (true, "30ae887250857a945bcf3ab499356b5664f822a2b6743eff10b50caaa25c64e8"), looks := false }, kinds := [], alts := [], laidByText := true, laidKinds := [.data, .data, .data, .data], laidTests := true, laidLooks := .later }
def DiscloseProvesUptoCardSaid : Prop := Claim7.holds Tryd.pinned (.plain (OpenSpec.upto discloseProvesSpec)) discloseProvesUptoCard

/-- THE SECOND FORM's CARD OF 'estoppellaw34.DiscloseNothingElse'. -/
def discloseNothingElseUptoCard : Claim7 := { stood := { row := discloseNothingElseUptoRow, standIns := [], harness := (true, "30ae887250857a945bcf3ab499356b5664f822a2b6743eff10b50caaa25c64e8"), looks := false }, kinds := [], alts := [], laidByText := true, laidKinds := [.data, .data, .data, .data], laidTests := true, laidLooks := .later }
def DiscloseNothingElseUptoCardSaid : Prop := Claim7.holds Tryd.pinned (.plain (OpenSpec.upto discloseNothingElseSpec)) discloseNothingElseUptoCard

/-- THE SECOND FORM's CARD OF 'estoppellaw34.DiscloseLeaves'. -/
def discloseLeavesUptoCard : Claim7 := { stood := { row := discloseLeavesUptoRow, standIns := [], harness := (true, "30ae887250857a945bcf3ab499356b5664f822a2b6743eff10b50caaa25c64e8"), looks := false }, kinds := [], alts := [], laidByText := true, laidKinds := [.data, .data, .data, .data], laidTests := true, laidLooks := .later }
def DiscloseLeavesUptoCardSaid : Prop := Claim7.holds Tryd.pinned (.plain (OpenSpec.upto discloseLeavesSpec)) discloseLeavesUptoCard

/-- THE SECOND FORM's CARD OF 'estoppellaw34.DiscloseHalves'. -/
def discloseHalvesUptoCard : Claim7 := { stood := { row := discloseHalvesUptoRow, standIns := [], harness := (true, "30ae887250857a945bcf3ab499356b5664f822a2b6743eff10b50caaa25c64e8"), looks := false }, kinds := [], alts := [], laidByText := true, laidKinds := [.data, .data, .data, .data], laidTests := true, laidLooks := .later }
def DiscloseHalvesUptoCardSaid : Prop := Claim7.holds Tryd.pinned (.plain (OpenSpec.upto discloseHalvesSpec)) discloseHalvesUptoCard

/-- THE SECOND FORM's CARD OF 'estoppellaw34.DiscloseLengths'. -/
def discloseLengthsUptoCard : Claim7 := { stood := { row := discloseLengthsUptoRow, standIns := [], harness := (true, "30ae887250857a945bcf3ab499356b5664f822a2b6743eff10b50caaa25c64e8"), looks := false }, kinds := [], alts := [], laidByText := true, laidKinds := [.data, .data, .data, .data], laidTests := true, laidLooks := .later }
def DiscloseLengthsUptoCardSaid : Prop := Claim7.holds Tryd.pinned (.plain (OpenSpec.upto discloseLengthsSpec)) discloseLengthsUptoCard

/-- THE SECOND FORM's CARD OF 'estoppellaw34.DiscloseFiles'. -/
def discloseFilesUptoCard : Claim7 := { stood := { row := discloseFilesUptoRow, standIns := [], harness := (true, "30ae887250857a945bcf3ab499356b5664f822a2b6743eff10b50caaa25c64e8"), looks := false }, kinds := [], alts := [], laidByText := true, laidKinds := [.data, .data, .data, .data], laidTests := true, laidLooks := .later }
def DiscloseFilesUptoCardSaid : Prop := Claim7.holds Tryd.pinned (.plain (OpenSpec.upto discloseFilesSpec)) discloseFilesUptoCard
end Rows
end Go.Proofs.YtamiaalfjmppaaaDoor

/-
  DERIVED. GIVEN WITH THE SEED: THE CARDS: each row of YtekfoaenomgjgaaGreatDoorRows.lean that lists a variable, with what it lists TIED to the program's text (the seventh form; the later family's looks); each row that meets fmt, with fmt's text TOLD by the authors' own Lean function (tested against real Go, not proved from fmt's source: count such statements apart). THE CARD IS WHAT COUNTS. Prove the row's statement (the work); the ties are given (YtekfoaenomgjgaaGreatDoorTie.lean); close each card by the builder's one call (the guide's Derived/Test/ToyasCard.lean, 'card_holds'). Laid BY PROGRAM, IN A SANDBOX (cutbox-door.mjs). By AI agents, Wed Nov 11 2026. No macro, syntax, notation, axiom, sorry.
-/
import Derived.Test.YtekfoaenomgjgaaGreatDoorRows
import GoSem.ClaimSeven
namespace Go.Proofs.YtekfoaenomgjgaaGreatDoor
namespace Rows

/-- THE TIED CARD OF 'estoppeltop.TopAgreedFinal'. -/
def topAgreedFinalCard : Claim7 := { stood := { row := topAgreedFinalRow, standIns := [], harness := (true, "e34c3de75ca56377b82f86045e866ba2a48ba799cc79ce3d50009cdd5b2a80e6"), looks := false }, kinds := [], alts := [], laidByText := true, laidKinds := [.data, .data, .data, .data], laidTests := true, laidLooks := .later }
def TopAgreedFinalCardSaid : Prop := Claim7.holds Tryz.pinned (.plain (OpenSpec.ofChange topAgreedFinalSpec)) topAgreedFinalCard

/-- THE TIED CARD OF 'estoppellaw30.ConsentDigests'. -/
def consentDigestsCard : Claim7 := { stood := { row := consentDigestsRow, standIns := [], harness := (true, "e34c3de75ca56377b82f86045e866ba2a48ba799cc79ce3d50009cdd5b2a80e6"), looks := false }, kinds := [], alts := [], laidByText := true, laidKinds := [.data, .data, .data, .data], laidTests := true, laidLooks := .later }
def ConsentDigestsCardSaid : Prop := Claim7.holds Tryz.pinned (.plain (OpenSpec.ofChange consentDigestsSpec)) consentDigestsCard

/-- THE TIED CARD OF 'estoppeltop.TopAgreedPatches'. -/
def topAgreedPatchesCard : Claim7 := { stood := { row := topAgreedPatchesRow, standIns := [], harness := (true, "e34c3de75ca56377b82f86045e866ba2a48ba799cc79ce3d50009cdd5b2a80e6"), looks := false }, kinds := [], alts := [], laidByText := true, laidKinds := [.data, .data, .data, .data], laidTests := true, laidLooks := .later }
def TopAgreedPatchesCardSaid : Prop := Claim7.holds Tryz.pinned (.plain (OpenSpec.ofChange topAgreedPatchesSpec)) topAgreedPatchesCard

/-- THE SECOND FORM's CARD OF 'estoppeltop.TopAgreedFinal'. -/
def topAgreedFinalUptoCard : Claim7 := { stood := { row := topAgreedFinalUptoRow, standIns := [], harness := (true, "e34c3de75ca56377b82f86045e866ba2a48ba799cc79ce3d50009cdd5b2a80e6"), looks := false }, kinds := [], alts := [], laidByText := true, laidKinds := [.data, .data, .data, .data], laidTests := true, laidLooks := .later }
def TopAgreedFinalUptoCardSaid : Prop := Claim7.holds Tryz.pinned (.plain (OpenSpec.upto topAgreedFinalSpec)) topAgreedFinalUptoCard

/-- THE SECOND FORM's CARD OF 'estoppellaw30.ConsentDigests'. -/
def consentDigestsUptoCard : Claim7 := { stood := { row := consentDigestsUptoRow, standIns := [], harness := (true, "e34c3de75ca56377b82f86045e866ba2a48ba799cc79ce3d50009cdd5b2a80e6"), looks := false }, kinds := [], alts := [], laidByText := true, laidKinds := [.data, .data, .data, .data], laidTests := true, laidLooks := .later }
def ConsentDigestsUptoCardSaid : Prop := Claim7.holds Tryz.pinned (.plain (OpenSpec.upto consentDigestsSpec)) consentDigestsUptoCard

/-- THE SECOND FORM's CARD OF 'estoppeltop.TopAgreedPatches'. -/
def topAgreedPatchesUptoCard : Claim7 := { stood := { row := topAgreedPatchesUptoRow, standIns := [], harness := (true, "e34c3de75ca56377b82f86045e866ba2a48ba799cc79ce3d50009cdd5b2a80e6"), looks := false }, kinds := [], alts := [], laidByText := true, laidKinds := [.data, .data, .data, .data], laidTests := true, laidLooks := .later }
def TopAgreedPatchesUptoCardSaid : Prop := Claim7.holds Tryz.pinned (.plain (OpenSpec.upto topAgreedPatchesSpec)) topAgreedPatchesUptoCard
end Rows
end Go.Proofs.YtekfoaenomgjgaaGreatDoor

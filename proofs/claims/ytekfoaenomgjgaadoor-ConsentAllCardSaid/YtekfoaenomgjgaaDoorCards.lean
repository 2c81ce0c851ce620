/-
  DERIVED. GIVEN WITH THE SEED: THE CARDS: each row of YtekfoaenomgjgaaDoorRows.lean that lists a variable, with what it lists TIED to the program's text (the seventh form; the later family's looks); each row that meets fmt, with fmt's text TOLD by the authors' own Lean function (tested against real Go, not proved from fmt's source: count such statements apart). THE CARD IS WHAT COUNTS. Prove the row's statement (the work); the ties are given (YtekfoaenomgjgaaDoorTie.lean); close each card by the builder's one call (the guide's Derived/Test/ToyasCard.lean, 'card_holds'). Laid BY PROGRAM, IN A SANDBOX (cutbox-door.mjs). By AI agents, Wed Nov 11 2026. No macro, syntax, notation, axiom, sorry.
-/
import Derived.Test.YtekfoaenomgjgaaDoorRows
import GoSem.ClaimSeven
namespace Go.Proofs.YtekfoaenomgjgaaDoor
namespace Rows

/-- THE TIED CARD OF 'estoppellaw30.ConsentSets'. -/
def consentSetsCard : Claim7 := { stood := { row := consentSetsRow, standIns := [], harness := (true, "625f804ee82aa2df7ed6bbb22822e3171fc39de8b81bbcc41eba7c8834e428db"), looks := false }, kinds := [], alts := [], laidByText := true, laidKinds := [.data, .data, .data, .data], laidTests := true, laidLooks := .later }
def ConsentSetsCardSaid : Prop := Claim7.holds Tryd.pinned (.plain (OpenSpec.ofChange consentSetsSpec)) consentSetsCard

/-- THE TIED CARD OF 'estoppellaw30.ConsentAll'. -/
def consentAllCard : Claim7 := { stood := { row := consentAllRow, standIns := [], harness := (true, "625f804ee82aa2df7ed6bbb22822e3171fc39de8b81bbcc41eba7c8834e428db"), looks := false }, kinds := [], alts := [], laidByText := true, laidKinds := [.data, .data, .data, .data], laidTests := true, laidLooks := .later }
def ConsentAllCardSaid : Prop := Claim7.holds Tryd.pinned (.plain (OpenSpec.ofChange consentAllSpec)) consentAllCard

/-- THE TIED CARD OF 'estoppellaw30.ConsentContradictions'. -/
def consentContradictionsCard : Claim7 := { stood := { row := consentContradictionsRow, standIns := [], harness := (true, "625f804ee82aa2df7ed6bbb22822e3171fc39de8b81bbcc41eba7c8834e428db"), looks := false }, kinds := [], alts := [], laidByText := true, laidKinds := [.data, .data, .data, .data], laidTests := true, laidLooks := .later }
def ConsentContradictionsCardSaid : Prop := Claim7.holds Tryd.pinned (.plain (OpenSpec.ofChange consentContradictionsSpec)) consentContradictionsCard

/-- THE SECOND FORM's CARD OF 'estoppellaw30.ConsentSets'. -/
def consentSetsUptoCard : Claim7 := { stood := { row := consentSetsUptoRow, standIns := [], harness := (true, "625f804ee82aa2df7ed6bbb22822e3171fc39de8b81bbcc41eba7c8834e428db"), looks := false }, kinds := [], alts := [], laidByText := true, laidKinds := [.data, .data, .data, .data], laidTests := true, laidLooks := .later }
def ConsentSetsUptoCardSaid : Prop := Claim7.holds Tryd.pinned (.plain (OpenSpec.upto consentSetsSpec)) consentSetsUptoCard

/-- THE SECOND FORM's CARD OF 'estoppellaw30.ConsentAll'. -/
def consentAllUptoCard : Claim7 := { stood := { row := consentAllUptoRow, standIns := [], harness := (true, "625f804ee82aa2df7ed6bbb22822e3171fc39de8b81bbcc41eba7c8834e428db"), looks := false }, kinds := [], alts := [], laidByText := true, laidKinds := [.data, .data, .data, .data], laidTests := true, laidLooks := .later }
def ConsentAllUptoCardSaid : Prop := Claim7.holds Tryd.pinned (.plain (OpenSpec.upto consentAllSpec)) consentAllUptoCard

/-- THE SECOND FORM's CARD OF 'estoppellaw30.ConsentContradictions'. -/
def consentContradictionsUptoCard : Claim7 := { stood := { row := consentContradictionsUptoRow, standIns := [], harness := (true, "625f804ee82aa2df7ed6bbb22822e3171fc39de8b81bbcc41eba7c8834e428db"), looks := false }, kinds := [], alts := [], laidByText := true, laidKinds := [.data, .data, .data, .data], laidTests := true, laidLooks := .later }
def ConsentContradictionsUptoCardSaid : Prop := Claim7.holds Tryd.pinned (.plain (OpenSpec.upto consentContradictionsSpec)) consentContradictionsUptoCard
end Rows
end Go.Proofs.YtekfoaenomgjgaaDoor

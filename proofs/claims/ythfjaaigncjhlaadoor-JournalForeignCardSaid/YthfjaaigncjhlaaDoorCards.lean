/-
  DERIVED. GIVEN WITH THE SEED: THE CARDS: each row of YthfjaaigncjhlaaDoorRows.lean that lists a variable, with what it lists TIED to the program's text (the seventh form; the later family's looks); each row that meets fmt, with fmt's text TOLD by the authors' own Lean function (tested against real Go, not proved from fmt's source: count such statements apart). THE CARD IS WHAT COUNTS. Prove the row's statement (the work); the ties are given (YthfjaaigncjhlaaDoorTie.lean); close each card by the builder's one call (the guide's Derived/Test/ToyasCard.lean, 'card_holds'). Laid BY PROGRAM, IN A SANDBOX (cutbox-door.mjs). By AI agents, Wed Nov 11 2026. No macro, syntax, notation, axiom, sorry.
-/
import Derived.Test.YthfjaaigncjhlaaDoorRows
import GoSem.ClaimSeven
namespace Go.Proofs.YthfjaaigncjhlaaDoor
namespace Rows

/-- THE TIED CARD OF 'estoppellaw45.JournalOpens'. -/
def journalOpensCard : Claim7 := { stood := { row := journalOpensRow, standIns := [], harness := (true, "a3cb70b3d09d1f4a1d44e8d6b41f8710703b1f1b5fd10625743f108e3f0be3d3"), looks := true }, kinds := [], alts := [], laidByText := true, laidKinds := [.data, .data, .data], laidTests := true, laidLooks := .later }
def JournalOpensCardSaid : Prop := Claim7.holds Tryd.pinned (.plain (OpenSpec.ofChange journalOpensSpec)) journalOpensCard

/-- THE TIED CARD OF 'estoppellaw45.JournalRoom'. -/
def journalRoomCard : Claim7 := { stood := { row := journalRoomRow, standIns := [], harness := (true, "a3cb70b3d09d1f4a1d44e8d6b41f8710703b1f1b5fd10625743f108e3f0be3d3"), looks := true }, kinds := [], alts := [], laidByText := true, laidKinds := [.data, .data, .data], laidTests := true, laidLooks := .later }
def JournalRoomCardSaid : Prop := Claim7.holds Tryd.pinned (.plain (OpenSpec.ofChange journalRoomSpec)) journalRoomCard

/-- THE TIED CARD OF 'estoppellaw45.JournalForeign'. -/
def journalForeignCard : Claim7 := { stood := { row := journalForeignRow, standIns := [], harness := (true, "a3cb70b3d09d1f4a1d44e8d6b41f8710703b1f1b5fd10625743f108e3f0be3d3"), looks := true }, kinds := [], alts := [], laidByText := true, laidKinds := [.data, .data, .data], laidTests := true, laidLooks := .later }
def JournalForeignCardSaid : Prop := Claim7.holds Tryd.pinned (.plain (OpenSpec.ofChange journalForeignSpec)) journalForeignCard

/-- THE TIED CARD OF 'estoppellaw45.JournalDurable'. -/
def journalDurableCard : Claim7 := { stood := { row := journalDurableRow, standIns := [], harness := (true, "a3cb70b3d09d1f4a1d44e8d6b41f8710703b1f1b5fd10625743f108e3f0be3d3"), looks := true }, kinds := [], alts := [], laidByText := true, laidKinds := [.data, .data, .data], laidTests := true, laidLooks := .later }
def JournalDurableCardSaid : Prop := Claim7.holds Tryd.pinned (.plain (OpenSpec.ofChange journalDurableSpec)) journalDurableCard

/-- THE TIED CARD OF 'estoppellaw45.JournalBroken'. -/
def journalBrokenCard : Claim7 := { stood := { row := journalBrokenRow, standIns := [], harness := (true, "a3cb70b3d09d1f4a1d44e8d6b41f8710703b1f1b5fd10625743f108e3f0be3d3"), looks := true }, kinds := [], alts := [], laidByText := true, laidKinds := [.data, .data, .data], laidTests := true, laidLooks := .later }
def JournalBrokenCardSaid : Prop := Claim7.holds Tryd.pinned (.plain (OpenSpec.ofChange journalBrokenSpec)) journalBrokenCard

/-- THE TIED CARD OF 'estoppellaw45.JournalAtomic'. -/
def journalAtomicCard : Claim7 := { stood := { row := journalAtomicRow, standIns := [], harness := (true, "a3cb70b3d09d1f4a1d44e8d6b41f8710703b1f1b5fd10625743f108e3f0be3d3"), looks := true }, kinds := [], alts := [], laidByText := true, laidKinds := [.data, .data, .data], laidTests := true, laidLooks := .later }
def JournalAtomicCardSaid : Prop := Claim7.holds Tryd.pinned (.plain (OpenSpec.ofChange journalAtomicSpec)) journalAtomicCard

/-- THE SECOND FORM's CARD OF 'estoppellaw45.JournalOpens'. -/
def journalOpensUptoCard : Claim7 := { stood := { row := journalOpensUptoRow, standIns := [], harness := (true, "a3cb70b3d09d1f4a1d44e8d6b41f8710703b1f1b5fd10625743f108e3f0be3d3"), looks := true }, kinds := [], alts := [], laidByText := true, laidKinds := [.data, .data, .data], laidTests := true, laidLooks := .later }
def JournalOpensUptoCardSaid : Prop := Claim7.holds Tryd.pinned (.plain (OpenSpec.upto journalOpensSpec)) journalOpensUptoCard

/-- THE SECOND FORM's CARD OF 'estoppellaw45.JournalRoom'. -/
def journalRoomUptoCard : Claim7 := { stood := { row := journalRoomUptoRow, standIns := [], harness := (true, "a3cb70b3d09d1f4a1d44e8d6b41f8710703b1f1b5fd10625743f108e3f0be3d3"), looks := true }, kinds := [], alts := [], laidByText := true, laidKinds := [.data, .data, .data], laidTests := true, laidLooks := .later }
def JournalRoomUptoCardSaid : Prop := Claim7.holds Tryd.pinned (.plain (OpenSpec.upto journalRoomSpec)) journalRoomUptoCard

/-- THE SECOND FORM's CARD OF 'estoppellaw45.JournalForeign'. -/
def journalForeignUptoCard : Claim7 := { stood := { row := journalForeignUptoRow, standIns := [], harness := (true, "a3cb70b3d09d1f4a1d44e8d6b41f8710703b1f1b5fd10625743f108e3f0be3d3"), looks := true }, kinds := [], alts := [], laidByText := true, laidKinds := [.data, .data, .data], laidTests := true, laidLooks := .later }
def JournalForeignUptoCardSaid : Prop := Claim7.holds Tryd.pinned (.plain (OpenSpec.upto journalForeignSpec)) journalForeignUptoCard

/-- THE SECOND FORM's CARD OF 'estoppellaw45.JournalDurable'. -/
def journalDurableUptoCard : Claim7 := { stood := { row := journalDurableUptoRow, standIns := [], harness := (true, "a3cb70b3d09d1f4a1d44e8d6b41f8710703b1f1b5fd10625743f108e3f0be3d3"), looks := true }, kinds := [], alts := [], laidByText := true, laidKinds := [.data, .data, .data], laidTests := true, laidLooks := .later }
def JournalDurableUptoCardSaid : Prop := Claim7.holds Tryd.pinned (.plain (OpenSpec.upto journalDurableSpec)) journalDurableUptoCard

/-- THE SECOND FORM's CARD OF 'estoppellaw45.JournalBroken'. -/
def journalBrokenUptoCard : Claim7 := { stood := { row := journalBrokenUptoRow, standIns := [], harness := (true, "a3cb70b3d09d1f4a1d44e8d6b41f8710703b1f1b5fd10625743f108e3f0be3d3"), looks := true }, kinds := [], alts := [], laidByText := true, laidKinds := [.data, .data, .data], laidTests := true, laidLooks := .later }
def JournalBrokenUptoCardSaid : Prop := Claim7.holds Tryd.pinned (.plain (OpenSpec.upto journalBrokenSpec)) journalBrokenUptoCard

/-- THE SECOND FORM's CARD OF 'estoppellaw45.JournalAtomic'. -/
def journalAtomicUptoCard : Claim7 := { stood := { row := journalAtomicUptoRow, standIns := [], harness := (true, "a3cb70b3d09d1f4a1d44e8d6b41f8710703b1f1b5fd10625743f108e3f0be3d3"), looks := true }, kinds := [], alts := [], laidByText := true, laidKinds := [.data, .data, .data], laidTests := true, laidLooks := .later }
def JournalAtomicUptoCardSaid : Prop := Claim7.holds Tryd.pinned (.plain (OpenSpec.upto journalAtomicSpec)) journalAtomicUptoCard
end Rows
end Go.Proofs.YthfjaaigncjhlaaDoor

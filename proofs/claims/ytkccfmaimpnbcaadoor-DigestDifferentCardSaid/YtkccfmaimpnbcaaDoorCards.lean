/-
  DERIVED. GIVEN WITH THE SEED: THE CARDS: each row of YtkccfmaimpnbcaaDoorRows.lean that lists a variable, with what it lists TIED to the program's text (the seventh form; the later family's looks); each row that meets fmt, with fmt's text TOLD by the authors' own Lean function (tested against real Go, not proved from fmt's source: count such statements apart). THE CARD IS WHAT COUNTS. Prove the row's statement (the work); the ties are given (YtkccfmaimpnbcaaDoorTie.lean); close each card by the builder's one call (the guide's Derived/Test/ToyasCard.lean, 'card_holds'). Laid BY PROGRAM, IN A SANDBOX (cutbox-door.mjs). By AI agents, Wed Nov 11 2026. No macro, syntax, notation, axiom, sorry.
-/
import Derived.Test.YtkccfmaimpnbcaaDoorRows
import GoSem.ClaimSeven
namespace Go.Proofs.YtkccfmaimpnbcaaDoor
namespace Rows

/-- THE TIED CARD OF 'estoppellaw28.DigestMatchesReference'. -/
def digestMatchesReferenceCard : Claim7 := { stood := { row := digestMatchesReferenceRow, standIns := [], harness := (true, "c87b39645f4eb266138d78de41054d3dfa98ce9f8469bcbb1d6cbee96b7d6516"), looks := false }, kinds := [], alts := [], laidByText := true, laidKinds := [.data], laidTests := true, laidLooks := .later }
def DigestMatchesReferenceCardSaid : Prop := Claim7.holds Tryd.pinned (.plain (OpenSpec.ofChange digestMatchesReferenceSpec)) digestMatchesReferenceCard

/-- THE TIED CARD OF 'estoppellaw28.DigestForm'. -/
def digestFormCard : Claim7 := { stood := { row := digestFormRow, standIns := [], harness := (true, "c87b39645f4eb266138d78de41054d3dfa98ce9f8469bcbb1d6cbee96b7d6516"), looks := false }, kinds := [], alts := [], laidByText := true, laidKinds := [.data], laidTests := true, laidLooks := .later }
def DigestFormCardSaid : Prop := Claim7.holds Tryd.pinned (.plain (OpenSpec.ofChange digestFormSpec)) digestFormCard

/-- THE TIED CARD OF 'estoppellaw28.DigestNumbers'. -/
def digestNumbersCard : Claim7 := { stood := { row := digestNumbersRow, standIns := [], harness := (true, "c87b39645f4eb266138d78de41054d3dfa98ce9f8469bcbb1d6cbee96b7d6516"), looks := false }, kinds := [], alts := [], laidByText := true, laidKinds := [.data], laidTests := true, laidLooks := .later }
def DigestNumbersCardSaid : Prop := Claim7.holds Tryd.pinned (.plain (OpenSpec.ofChange digestNumbersSpec)) digestNumbersCard

/-- THE TIED CARD OF 'estoppellaw28.DigestDigits'. -/
def digestDigitsCard : Claim7 := { stood := { row := digestDigitsRow, standIns := [], harness := (true, "c87b39645f4eb266138d78de41054d3dfa98ce9f8469bcbb1d6cbee96b7d6516"), looks := false }, kinds := [], alts := [], laidByText := true, laidKinds := [.data], laidTests := true, laidLooks := .later }
def DigestDigitsCardSaid : Prop := Claim7.holds Tryd.pinned (.plain (OpenSpec.ofChange digestDigitsSpec)) digestDigitsCard

/-- THE TIED CARD OF 'estoppellaw28.DigestDifferent'. -/
def digestDifferentCard : Claim7 := { stood := { row := digestDifferentRow, standIns := [], harness := (true, "c87b39645f4eb266138d78de41054d3dfa98ce9f8469bcbb1d6cbee96b7d6516"), looks := false }, kinds := [], alts := [], laidByText := true, laidKinds := [.data], laidTests := true, laidLooks := .later }
def DigestDifferentCardSaid : Prop := Claim7.holds Tryd.pinned (.plain (OpenSpec.ofChange digestDifferentSpec)) digestDifferentCard

/-- THE SECOND FORM's CARD OF 'estoppellaw28.DigestMatchesReference'. -/
def digestMatchesReferenceUptoCard : Claim7 := { stood := { row := digestMatchesReferenceUptoRow, standIns := [], harness := (true, "c87b39645f4eb266138d78de41054d3dfa98ce9f8469bcbb1d6cbee96b7d6516"), looks := false }, kinds := [], alts := [], laidByText := true, laidKinds := [.data], laidTests := true, laidLooks := .later }
def DigestMatchesReferenceUptoCardSaid : Prop := Claim7.holds Tryd.pinned (.plain (OpenSpec.upto digestMatchesReferenceSpec)) digestMatchesReferenceUptoCard

/-- THE SECOND FORM's CARD OF 'estoppellaw28.DigestForm'. -/
def digestFormUptoCard : Claim7 := { stood := { row := digestFormUptoRow, standIns := [], harness := (true, "c87b39645f4eb266138d78de41054d3dfa98ce9f8469bcbb1d6cbee96b7d6516"), looks := false }, kinds := [], alts := [], laidByText := true, laidKinds := [.data], laidTests := true, laidLooks := .later }
def DigestFormUptoCardSaid : Prop := Claim7.holds Tryd.pinned (.plain (OpenSpec.upto digestFormSpec)) digestFormUptoCard

/-- THE SECOND FORM's CARD OF 'estoppellaw28.DigestNumbers'. -/
def digestNumbersUptoCard : Claim7 := { stood := { row := digestNumbersUptoRow, standIns := [], harness := (true, "c87b39645f4eb266138d78de41054d3dfa98ce9f8469bcbb1d6cbee96b7d6516"), looks := false }, kinds := [], alts := [], laidByText := true, laidKinds := [.data], laidTests := true, laidLooks := .later }
def DigestNumbersUptoCardSaid : Prop := Claim7.holds Tryd.pinned (.plain (OpenSpec.upto digestNumbersSpec)) digestNumbersUptoCard

/-- THE SECOND FORM's CARD OF 'estoppellaw28.DigestDigits'. -/
def digestDigitsUptoCard : Claim7 := { stood := { row := digestDigitsUptoRow, standIns := [], harness := (true, "c87b39645f4eb266138d78de41054d3dfa98ce9f8469bcbb1d6cbee96b7d6516"), looks := false }, kinds := [], alts := [], laidByText := true, laidKinds := [.data], laidTests := true, laidLooks := .later }
def DigestDigitsUptoCardSaid : Prop := Claim7.holds Tryd.pinned (.plain (OpenSpec.upto digestDigitsSpec)) digestDigitsUptoCard

/-- THE SECOND FORM's CARD OF 'estoppellaw28.DigestDifferent'. -/
def digestDifferentUptoCard : Claim7 := { stood := { row := digestDifferentUptoRow, standIns := [], harness := (true, "c87b39645f4eb266138d78de41054d3dfa98ce9f8469bcbb1d6cbee96b7d6516"), looks := false }, kinds := [], alts := [], laidByText := true, laidKinds := [.data], laidTests := true, laidLooks := .later }
def DigestDifferentUptoCardSaid : Prop := Claim7.holds Tryd.pinned (.plain (OpenSpec.upto digestDifferentSpec)) digestDifferentUptoCard
end Rows
end Go.Proofs.YtkccfmaimpnbcaaDoor

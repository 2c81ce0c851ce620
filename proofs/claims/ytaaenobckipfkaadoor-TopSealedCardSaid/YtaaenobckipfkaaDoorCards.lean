/-
  DERIVED. GIVEN WITH THE SEED: THE CARDS: each row of YtaaenobckipfkaaDoorRows.lean that lists a variable, with what it lists TIED to the program's text (the seventh form; the later family's looks); each row that meets fmt, with fmt's text TOLD by the authors' own Lean function (tested against real Go, not proved from fmt's source: count such statements apart). THE CARD IS WHAT COUNTS. Prove the row's statement (the work); the ties are given (YtaaenobckipfkaaDoorTie.lean); close each card by the builder's one call (the guide's Derived/Test/ToyasCard.lean, 'card_holds'). Laid BY PROGRAM, IN A SANDBOX (cutbox-door.mjs). By AI agents, Wed Nov 11 2026. No macro, syntax, notation, axiom, sorry.
-/
import Derived.Test.YtaaenobckipfkaaDoorRows
import GoSem.ClaimSeven
namespace Go.Proofs.YtaaenobckipfkaaDoor
namespace Rows

/-- THE TIED CARD OF 'estoppeltop.TopSealed'. -/
def topSealedCard : Claim7 := { stood := { row := topSealedRow, standIns := [], harness := (true, "9553ca8f549703da80d02e59def20d29942e1a3e02426918b987faa8b6552e8b"), looks := true }, kinds := [], alts := [], laidByText := true, laidKinds := [.data, .data, .data, .sentinel, .sentinel, .data], laidTests := true, laidLooks := .later }
def TopSealedCardSaid : Prop := Claim7.holds Tryd.pinned (.plain (OpenSpec.ofChange topSealedSpec)) topSealedCard

/-- THE TIED CARD OF 'estoppellaw31.ChainMatchesReference'. -/
def chainMatchesReferenceCard : Claim7 := { stood := { row := chainMatchesReferenceRow, standIns := [], harness := (true, "9553ca8f549703da80d02e59def20d29942e1a3e02426918b987faa8b6552e8b"), looks := true }, kinds := [], alts := [], laidByText := true, laidKinds := [.data, .data, .data, .data], laidTests := true, laidLooks := .later }
def ChainMatchesReferenceCardSaid : Prop := Claim7.holds Tryd.pinned (.plain (OpenSpec.ofChange chainMatchesReferenceSpec)) chainMatchesReferenceCard

/-- THE TIED CARD OF 'estoppellaw31.ChainAppends'. -/
def chainAppendsCard : Claim7 := { stood := { row := chainAppendsRow, standIns := [], harness := (true, "9553ca8f549703da80d02e59def20d29942e1a3e02426918b987faa8b6552e8b"), looks := true }, kinds := [], alts := [], laidByText := true, laidKinds := [.data, .data, .data, .data], laidTests := true, laidLooks := .later }
def ChainAppendsCardSaid : Prop := Claim7.holds Tryd.pinned (.plain (OpenSpec.ofChange chainAppendsSpec)) chainAppendsCard

/-- THE TIED CARD OF 'estoppellaw31.ChainBeginnings'. -/
def chainBeginningsCard : Claim7 := { stood := { row := chainBeginningsRow, standIns := [], harness := (true, "9553ca8f549703da80d02e59def20d29942e1a3e02426918b987faa8b6552e8b"), looks := true }, kinds := [], alts := [], laidByText := true, laidKinds := [.data, .data, .data, .data], laidTests := true, laidLooks := .later }
def ChainBeginningsCardSaid : Prop := Claim7.holds Tryd.pinned (.plain (OpenSpec.ofChange chainBeginningsSpec)) chainBeginningsCard

/-- THE TIED CARD OF 'estoppellaw31.ChainSame'. -/
def chainSameCard : Claim7 := { stood := { row := chainSameRow, standIns := [], harness := (true, "9553ca8f549703da80d02e59def20d29942e1a3e02426918b987faa8b6552e8b"), looks := true }, kinds := [], alts := [], laidByText := true, laidKinds := [.data, .data, .data, .data], laidTests := true, laidLooks := .later }
def ChainSameCardSaid : Prop := Claim7.holds Tryd.pinned (.plain (OpenSpec.ofChange chainSameSpec)) chainSameCard

/-- THE TIED CARD OF 'estoppellaw31.ChainForks'. -/
def chainForksCard : Claim7 := { stood := { row := chainForksRow, standIns := [], harness := (true, "9553ca8f549703da80d02e59def20d29942e1a3e02426918b987faa8b6552e8b"), looks := true }, kinds := [], alts := [], laidByText := true, laidKinds := [.data, .data, .data, .data], laidTests := true, laidLooks := .later }
def ChainForksCardSaid : Prop := Claim7.holds Tryd.pinned (.plain (OpenSpec.ofChange chainForksSpec)) chainForksCard

/-- THE TIED CARD OF 'estoppellaw31.ChainNoFork'. -/
def chainNoForkCard : Claim7 := { stood := { row := chainNoForkRow, standIns := [], harness := (true, "9553ca8f549703da80d02e59def20d29942e1a3e02426918b987faa8b6552e8b"), looks := true }, kinds := [], alts := [], laidByText := true, laidKinds := [.data, .data, .data, .data], laidTests := true, laidLooks := .later }
def ChainNoForkCardSaid : Prop := Claim7.holds Tryd.pinned (.plain (OpenSpec.ofChange chainNoForkSpec)) chainNoForkCard

/-- THE TIED CARD OF 'estoppellaw31.ChainTexts'. -/
def chainTextsCard : Claim7 := { stood := { row := chainTextsRow, standIns := [], harness := (true, "9553ca8f549703da80d02e59def20d29942e1a3e02426918b987faa8b6552e8b"), looks := true }, kinds := [], alts := [], laidByText := true, laidKinds := [.data, .data, .data, .data], laidTests := true, laidLooks := .later }
def ChainTextsCardSaid : Prop := Claim7.holds Tryd.pinned (.plain (OpenSpec.ofChange chainTextsSpec)) chainTextsCard

/-- THE TIED CARD OF 'estoppellaw31.ChainKeys'. -/
def chainKeysCard : Claim7 := { stood := { row := chainKeysRow, standIns := [], harness := (true, "9553ca8f549703da80d02e59def20d29942e1a3e02426918b987faa8b6552e8b"), looks := true }, kinds := [], alts := [], laidByText := true, laidKinds := [.data, .data, .data, .data], laidTests := true, laidLooks := .later }
def ChainKeysCardSaid : Prop := Claim7.holds Tryd.pinned (.plain (OpenSpec.ofChange chainKeysSpec)) chainKeysCard

/-- THE SECOND FORM's CARD OF 'estoppeltop.TopSealed'. -/
def topSealedUptoCard : Claim7 := { stood := { row := topSealedUptoRow, standIns := [], harness := (true, "9553ca8f549703da80d02e59def20d29942e1a3e02426918b987faa8b6552e8b"), looks := true }, kinds := [], alts := [], laidByText := true, laidKinds := [.data, .data, .data, .sentinel, .sentinel, .data], laidTests := true, laidLooks := .later }
def TopSealedUptoCardSaid : Prop := Claim7.holds Tryd.pinned (.plain (OpenSpec.upto topSealedSpec)) topSealedUptoCard

/-- THE SECOND FORM's CARD OF 'estoppellaw31.ChainMatchesReference'. -/
def chainMatchesReferenceUptoCard : Claim7 := { stood := { row := chainMatchesReferenceUptoRow, standIns := [], harness := (true, "9553ca8f549703da80d02e59def20d29942e1a3e02426918b987faa8b6552e8b"), looks := true }, kinds := [], alts := [], laidByText := true, laidKinds := [.data, .data, .data, .data], laidTests := true, laidLooks := .later }
def ChainMatchesReferenceUptoCardSaid : Prop := Claim7.holds Tryd.pinned (.plain (OpenSpec.upto chainMatchesReferenceSpec)) chainMatchesReferenceUptoCard

/-- THE SECOND FORM's CARD OF 'estoppellaw31.ChainAppends'. -/
def chainAppendsUptoCard : Claim7 := { stood := { row := chainAppendsUptoRow, standIns := [], harness := (true, "9553ca8f549703da80d02e59def20d29942e1a3e02426918b987faa8b6552e8b"), looks := true }, kinds := [], alts := [], laidByText := true, laidKinds := [.data, .data, .data, .data], laidTests := true, laidLooks := .later }
def ChainAppendsUptoCardSaid : Prop := Claim7.holds Tryd.pinned (.plain (OpenSpec.upto chainAppendsSpec)) chainAppendsUptoCard

/-- THE SECOND FORM's CARD OF 'estoppellaw31.ChainBeginnings'. -/
def chainBeginningsUptoCard : Claim7 := { stood := { row := chainBeginningsUptoRow, standIns := [], harness := (true, "9553ca8f549703da80d02e59def20d29942e1a3e02426918b987faa8b6552e8b"), looks := true }, kinds := [], alts := [], laidByText := true, laidKinds := [.data, .data, .data, .data], laidTests := true, laidLooks := .later }
def ChainBeginningsUptoCardSaid : Prop := Claim7.holds Tryd.pinned (.plain (OpenSpec.upto chainBeginningsSpec)) chainBeginningsUptoCard

/-- THE SECOND FORM's CARD OF 'estoppellaw31.ChainSame'. -/
def chainSameUptoCard : Claim7 := { stood := { row := chainSameUptoRow, standIns := [], harness := (true, "9553ca8f549703da80d02e59def20d29942e1a3e02426918b987faa8b6552e8b"), looks := true }, kinds := [], alts := [], laidByText := true, laidKinds := [.data, .data, .data, .data], laidTests := true, laidLooks := .later }
def ChainSameUptoCardSaid : Prop := Claim7.holds Tryd.pinned (.plain (OpenSpec.upto chainSameSpec)) chainSameUptoCard

/-- THE SECOND FORM's CARD OF 'estoppellaw31.ChainForks'. -/
def chainForksUptoCard : Claim7 := { stood := { row := chainForksUptoRow, standIns := [], harness := (true, "9553ca8f549703da80d02e59def20d29942e1a3e02426918b987faa8b6552e8b"), looks := true }, kinds := [], alts := [], laidByText := true, laidKinds := [.data, .data, .data, .data], laidTests := true, laidLooks := .later }
def ChainForksUptoCardSaid : Prop := Claim7.holds Tryd.pinned (.plain (OpenSpec.upto chainForksSpec)) chainForksUptoCard

/-- THE SECOND FORM's CARD OF 'estoppellaw31.ChainNoFork'. -/
def chainNoForkUptoCard : Claim7 := { stood := { row := chainNoForkUptoRow, standIns := [], harness := (true, "9553ca8f549703da80d02e59def20d29942e1a3e02426918b987faa8b6552e8b"), looks := true }, kinds := [], alts := [], laidByText := true, laidKinds := [.data, .data, .data, .data], laidTests := true, laidLooks := .later }
def ChainNoForkUptoCardSaid : Prop := Claim7.holds Tryd.pinned (.plain (OpenSpec.upto chainNoForkSpec)) chainNoForkUptoCard

/-- THE SECOND FORM's CARD OF 'estoppellaw31.ChainTexts'. -/
def chainTextsUptoCard : Claim7 := { stood := { row := chainTextsUptoRow, standIns := [], harness := (true, "9553ca8f549703da80d02e59def20d29942e1a3e02426918b987faa8b6552e8b"), looks := true }, kinds := [], alts := [], laidByText := true, laidKinds := [.data, .data, .data, .data], laidTests := true, laidLooks := .later }
def ChainTextsUptoCardSaid : Prop := Claim7.holds Tryd.pinned (.plain (OpenSpec.upto chainTextsSpec)) chainTextsUptoCard

/-- THE SECOND FORM's CARD OF 'estoppellaw31.ChainKeys'. -/
def chainKeysUptoCard : Claim7 := { stood := { row := chainKeysUptoRow, standIns := [], harness := (true, "9553ca8f549703da80d02e59def20d29942e1a3e02426918b987faa8b6552e8b"), looks := true }, kinds := [], alts := [], laidByText := true, laidKinds := [.data, .data, .data, .data], laidTests := true, laidLooks := .later }
def ChainKeysUptoCardSaid : Prop := Claim7.holds Tryd.pinned (.plain (OpenSpec.upto chainKeysSpec)) chainKeysUptoCard
end Rows
end Go.Proofs.YtaaenobckipfkaaDoor

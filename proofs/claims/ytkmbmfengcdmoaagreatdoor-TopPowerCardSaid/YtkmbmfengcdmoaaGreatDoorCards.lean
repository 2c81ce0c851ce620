/-
  DERIVED. GIVEN WITH THE SEED: THE CARDS: each row of YtkmbmfengcdmoaaGreatDoorRows.lean that lists a variable, with what it lists TIED to the program's text (the seventh form; the later family's looks); each row that meets fmt, with fmt's text TOLD by the authors' own Lean function (tested against real Go, not proved from fmt's source: count such statements apart). THE CARD IS WHAT COUNTS. Prove the row's statement (the work); the ties are given (YtkmbmfengcdmoaaGreatDoorTie.lean); close each card by the builder's one call (the guide's Derived/Test/ToyasCard.lean, 'card_holds'). Laid BY PROGRAM, IN A SANDBOX (cutbox-door.mjs). By AI agents, Wed Nov 11 2026. No macro, syntax, notation, axiom, sorry.
-/
import Derived.Test.YtkmbmfengcdmoaaGreatDoorRows
import GoSem.ClaimSeven
namespace Go.Proofs.YtkmbmfengcdmoaaGreatDoor
namespace Rows

/-- THE TIED CARD OF 'estoppellaw47.HouseForged'. -/
def houseForgedCard : Claim7 := { stood := { row := houseForgedRow, standIns := [], harness := (true, "43d9f83371ef5de3d9259f692b340aab248e64684bf38a308010e77648310404"), looks := true }, kinds := [], alts := [], laidByText := true, laidKinds := [.data, .data, .data, .sentinel, .sentinel, .data], laidTests := true, laidLooks := .later }
def HouseForgedCardSaid : Prop := Claim7.holds Tryz.pinned (.plain (OpenSpec.ofChange houseForgedSpec)) houseForgedCard

/-- THE TIED CARD OF 'estoppellaw47.HouseSets'. -/
def houseSetsCard : Claim7 := { stood := { row := houseSetsRow, standIns := [], harness := (true, "43d9f83371ef5de3d9259f692b340aab248e64684bf38a308010e77648310404"), looks := true }, kinds := [], alts := [], laidByText := true, laidKinds := [.data, .data, .data, .sentinel, .sentinel, .data], laidTests := true, laidLooks := .later }
def HouseSetsCardSaid : Prop := Claim7.holds Tryz.pinned (.plain (OpenSpec.ofChange houseSetsSpec)) houseSetsCard

/-- THE TIED CARD OF 'estoppellaw47.HouseDurable'. -/
def houseDurableCard : Claim7 := { stood := { row := houseDurableRow, standIns := [], harness := (true, "43d9f83371ef5de3d9259f692b340aab248e64684bf38a308010e77648310404"), looks := true }, kinds := [], alts := [], laidByText := true, laidKinds := [.data, .data, .data, .sentinel, .sentinel, .data], laidTests := true, laidLooks := .later }
def HouseDurableCardSaid : Prop := Claim7.holds Tryz.pinned (.plain (OpenSpec.ofChange houseDurableSpec)) houseDurableCard

/-- THE TIED CARD OF 'estoppellaw47.HouseChains'. -/
def houseChainsCard : Claim7 := { stood := { row := houseChainsRow, standIns := [], harness := (true, "43d9f83371ef5de3d9259f692b340aab248e64684bf38a308010e77648310404"), looks := true }, kinds := [], alts := [], laidByText := true, laidKinds := [.data, .data, .data, .sentinel, .sentinel, .data], laidTests := true, laidLooks := .later }
def HouseChainsCardSaid : Prop := Claim7.holds Tryz.pinned (.plain (OpenSpec.ofChange houseChainsSpec)) houseChainsCard

/-- THE TIED CARD OF 'estoppeltop.TopPower'. -/
def topPowerCard : Claim7 := { stood := { row := topPowerRow, standIns := [], harness := (true, "43d9f83371ef5de3d9259f692b340aab248e64684bf38a308010e77648310404"), looks := true }, kinds := [], alts := [], laidByText := true, laidKinds := [.data, .data, .data, .sentinel, .sentinel, .data], laidTests := true, laidLooks := .later }
def TopPowerCardSaid : Prop := Claim7.holds Tryz.pinned (.plain (OpenSpec.ofChange topPowerSpec)) topPowerCard

/-- THE SECOND FORM's CARD OF 'estoppellaw47.HouseForged'. -/
def houseForgedUptoCard : Claim7 := { stood := { row := houseForgedUptoRow, standIns := [], harness := (true, "43d9f83371ef5de3d9259f692b340aab248e64684bf38a308010e77648310404"), looks := true }, kinds := [], alts := [], laidByText := true, laidKinds := [.data, .data, .data, .sentinel, .sentinel, .data], laidTests := true, laidLooks := .later }
def HouseForgedUptoCardSaid : Prop := Claim7.holds Tryz.pinned (.plain (OpenSpec.upto houseForgedSpec)) houseForgedUptoCard

/-- THE SECOND FORM's CARD OF 'estoppellaw47.HouseSets'. -/
def houseSetsUptoCard : Claim7 := { stood := { row := houseSetsUptoRow, standIns := [], harness := (true, "43d9f83371ef5de3d9259f692b340aab248e64684bf38a308010e77648310404"), looks := true }, kinds := [], alts := [], laidByText := true, laidKinds := [.data, .data, .data, .sentinel, .sentinel, .data], laidTests := true, laidLooks := .later }
def HouseSetsUptoCardSaid : Prop := Claim7.holds Tryz.pinned (.plain (OpenSpec.upto houseSetsSpec)) houseSetsUptoCard

/-- THE SECOND FORM's CARD OF 'estoppellaw47.HouseDurable'. -/
def houseDurableUptoCard : Claim7 := { stood := { row := houseDurableUptoRow, standIns := [], harness := (true, "43d9f83371ef5de3d9259f692b340aab248e64684bf38a308010e77648310404"), looks := true }, kinds := [], alts := [], laidByText := true, laidKinds := [.data, .data, .data, .sentinel, .sentinel, .data], laidTests := true, laidLooks := .later }
def HouseDurableUptoCardSaid : Prop := Claim7.holds Tryz.pinned (.plain (OpenSpec.upto houseDurableSpec)) houseDurableUptoCard

/-- THE SECOND FORM's CARD OF 'estoppellaw47.HouseChains'. -/
def houseChainsUptoCard : Claim7 := { stood := { row := houseChainsUptoRow, standIns := [], harness := (true, "43d9f83371ef5de3d9259f692b340aab248e64684bf38a308010e77648310404"), looks := true }, kinds := [], alts := [], laidByText := true, laidKinds := [.data, .data, .data, .sentinel, .sentinel, .data], laidTests := true, laidLooks := .later }
def HouseChainsUptoCardSaid : Prop := Claim7.holds Tryz.pinned (.plain (OpenSpec.upto houseChainsSpec)) houseChainsUptoCard

/-- THE SECOND FORM's CARD OF 'estoppeltop.TopPower'. -/
def topPowerUptoCard : Claim7 := { stood := { row := topPowerUptoRow, standIns := [], harness := (true, "43d9f83371ef5de3d9259f692b340aab248e64684bf38a308010e77648310404"), looks := true }, kinds := [], alts := [], laidByText := true, laidKinds := [.data, .data, .data, .sentinel, .sentinel, .data], laidTests := true, laidLooks := .later }
def TopPowerUptoCardSaid : Prop := Claim7.holds Tryz.pinned (.plain (OpenSpec.upto topPowerSpec)) topPowerUptoCard
end Rows
end Go.Proofs.YtkmbmfengcdmoaaGreatDoor

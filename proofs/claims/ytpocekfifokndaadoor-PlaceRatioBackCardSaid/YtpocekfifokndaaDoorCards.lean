/-
  DERIVED. GIVEN WITH THE SEED: THE CARDS: each row of YtpocekfifokndaaDoorRows.lean that lists a variable, with what it lists TIED to the program's text (the seventh form; the later family's looks); each row that meets fmt, with fmt's text TOLD by the authors' own Lean function (tested against real Go, not proved from fmt's source: count such statements apart). THE CARD IS WHAT COUNTS. Prove the row's statement (the work); the ties are given (YtpocekfifokndaaDoorTie.lean); close each card by the builder's one call (the guide's Derived/Test/ToyasCard.lean, 'card_holds'). Laid BY PROGRAM, IN A SANDBOX (cutbox-door.mjs). By AI agents, Wed Nov 11 2026. No macro, syntax, notation, axiom, sorry.
-/
import Derived.Test.YtpocekfifokndaaDoorRows
import GoSem.ClaimSeven
namespace Go.Proofs.YtpocekfifokndaaDoor
namespace Rows

/-- THE TIED CARD OF 'bullalaw03.PlaceMuls'. -/
def placeMulsCard : Claim7 := { stood := { row := placeMulsRow, standIns := [], harness := (true, "4e9fd2557f5e827f8f518a2f4662332e651e6cd2f415b1c5bccb2a04ab6ebd76"), looks := true }, kinds := [], alts := [], laidByText := true, laidKinds := [.data, .pinned], laidTests := true, laidLooks := .later }
def PlaceMulsCardSaid : Prop := Claim7.holds Tryd.pinned (.plain (OpenSpec.ofChange placeMulsSpec)) placeMulsCard

/-- THE TIED CARD OF 'bullalaw03.PlaceMulLaws'. -/
def placeMulLawsCard : Claim7 := { stood := { row := placeMulLawsRow, standIns := [], harness := (true, "4e9fd2557f5e827f8f518a2f4662332e651e6cd2f415b1c5bccb2a04ab6ebd76"), looks := true }, kinds := [], alts := [], laidByText := true, laidKinds := [.data, .pinned], laidTests := true, laidLooks := .later }
def PlaceMulLawsCardSaid : Prop := Claim7.holds Tryd.pinned (.plain (OpenSpec.ofChange placeMulLawsSpec)) placeMulLawsCard

/-- THE TIED CARD OF 'bullalaw03.PlaceRecipTwice'. -/
def placeRecipTwiceCard : Claim7 := { stood := { row := placeRecipTwiceRow, standIns := [], harness := (true, "4e9fd2557f5e827f8f518a2f4662332e651e6cd2f415b1c5bccb2a04ab6ebd76"), looks := true }, kinds := [], alts := [], laidByText := true, laidKinds := [.data, .pinned], laidTests := true, laidLooks := .later }
def PlaceRecipTwiceCardSaid : Prop := Claim7.holds Tryd.pinned (.plain (OpenSpec.ofChange placeRecipTwiceSpec)) placeRecipTwiceCard

/-- THE TIED CARD OF 'bullalaw03.PlaceRecipProduct'. -/
def placeRecipProductCard : Claim7 := { stood := { row := placeRecipProductRow, standIns := [], harness := (true, "4e9fd2557f5e827f8f518a2f4662332e651e6cd2f415b1c5bccb2a04ab6ebd76"), looks := true }, kinds := [], alts := [], laidByText := true, laidKinds := [.data, .pinned], laidTests := true, laidLooks := .later }
def PlaceRecipProductCardSaid : Prop := Claim7.holds Tryd.pinned (.plain (OpenSpec.ofChange placeRecipProductSpec)) placeRecipProductCard

/-- THE TIED CARD OF 'bullalaw03.PlaceParses'. -/
def placeParsesCard : Claim7 := { stood := { row := placeParsesRow, standIns := [], harness := (true, "4e9fd2557f5e827f8f518a2f4662332e651e6cd2f415b1c5bccb2a04ab6ebd76"), looks := true }, kinds := [], alts := [], laidByText := true, laidKinds := [.data, .pinned], laidTests := true, laidLooks := .later }
def PlaceParsesCardSaid : Prop := Claim7.holds Tryd.pinned (.plain (OpenSpec.ofChange placeParsesSpec)) placeParsesCard

/-- THE TIED CARD OF 'bullalaw03.PlaceRecips'. -/
def placeRecipsCard : Claim7 := { stood := { row := placeRecipsRow, standIns := [], harness := (true, "4e9fd2557f5e827f8f518a2f4662332e651e6cd2f415b1c5bccb2a04ab6ebd76"), looks := true }, kinds := [], alts := [], laidByText := true, laidKinds := [.data, .pinned], laidTests := true, laidLooks := .later }
def PlaceRecipsCardSaid : Prop := Claim7.holds Tryd.pinned (.plain (OpenSpec.ofChange placeRecipsSpec)) placeRecipsCard

/-- THE TIED CARD OF 'bullalaw03.PlaceWholeBack'. -/
def placeWholeBackCard : Claim7 := { stood := { row := placeWholeBackRow, standIns := [], harness := (true, "4e9fd2557f5e827f8f518a2f4662332e651e6cd2f415b1c5bccb2a04ab6ebd76"), looks := true }, kinds := [], alts := [], laidByText := true, laidKinds := [.data, .pinned], laidTests := true, laidLooks := .later }
def PlaceWholeBackCardSaid : Prop := Claim7.holds Tryd.pinned (.plain (OpenSpec.ofChange placeWholeBackSpec)) placeWholeBackCard

/-- THE TIED CARD OF 'bullalaw03.PlaceNears'. -/
def placeNearsCard : Claim7 := { stood := { row := placeNearsRow, standIns := [], harness := (true, "4e9fd2557f5e827f8f518a2f4662332e651e6cd2f415b1c5bccb2a04ab6ebd76"), looks := true }, kinds := [], alts := [], laidByText := true, laidKinds := [.data, .pinned], laidTests := true, laidLooks := .later }
def PlaceNearsCardSaid : Prop := Claim7.holds Tryd.pinned (.plain (OpenSpec.ofChange placeNearsSpec)) placeNearsCard

/-- THE TIED CARD OF 'bullalaw03.PlaceTables'. -/
def placeTablesCard : Claim7 := { stood := { row := placeTablesRow, standIns := [], harness := (true, "4e9fd2557f5e827f8f518a2f4662332e651e6cd2f415b1c5bccb2a04ab6ebd76"), looks := true }, kinds := [], alts := [], laidByText := true, laidKinds := [.data, .pinned], laidTests := true, laidLooks := .later }
def PlaceTablesCardSaid : Prop := Claim7.holds Tryd.pinned (.plain (OpenSpec.ofChange placeTablesSpec)) placeTablesCard

/-- THE TIED CARD OF 'bullalaw03.PlacePairs'. -/
def placePairsCard : Claim7 := { stood := { row := placePairsRow, standIns := [], harness := (true, "4e9fd2557f5e827f8f518a2f4662332e651e6cd2f415b1c5bccb2a04ab6ebd76"), looks := true }, kinds := [], alts := [], laidByText := true, laidKinds := [.data, .pinned], laidTests := true, laidLooks := .later }
def PlacePairsCardSaid : Prop := Claim7.holds Tryd.pinned (.plain (OpenSpec.ofChange placePairsSpec)) placePairsCard

/-- THE TIED CARD OF 'bullalaw03.PlaceStepsMake'. -/
def placeStepsMakeCard : Claim7 := { stood := { row := placeStepsMakeRow, standIns := [], harness := (true, "4e9fd2557f5e827f8f518a2f4662332e651e6cd2f415b1c5bccb2a04ab6ebd76"), looks := true }, kinds := [], alts := [], laidByText := true, laidKinds := [.data, .pinned], laidTests := true, laidLooks := .later }
def PlaceStepsMakeCardSaid : Prop := Claim7.holds Tryd.pinned (.plain (OpenSpec.ofChange placeStepsMakeSpec)) placeStepsMakeCard

/-- THE TIED CARD OF 'bullalaw03.PlaceSums'. -/
def placeSumsCard : Claim7 := { stood := { row := placeSumsRow, standIns := [], harness := (true, "4e9fd2557f5e827f8f518a2f4662332e651e6cd2f415b1c5bccb2a04ab6ebd76"), looks := true }, kinds := [], alts := [], laidByText := true, laidKinds := [.data, .pinned], laidTests := true, laidLooks := .later }
def PlaceSumsCardSaid : Prop := Claim7.holds Tryd.pinned (.plain (OpenSpec.ofChange placeSumsSpec)) placeSumsCard

/-- THE TIED CARD OF 'bullalaw03.PlaceRatios'. -/
def placeRatiosCard : Claim7 := { stood := { row := placeRatiosRow, standIns := [], harness := (true, "4e9fd2557f5e827f8f518a2f4662332e651e6cd2f415b1c5bccb2a04ab6ebd76"), looks := true }, kinds := [], alts := [], laidByText := true, laidKinds := [.data, .pinned], laidTests := true, laidLooks := .later }
def PlaceRatiosCardSaid : Prop := Claim7.holds Tryd.pinned (.plain (OpenSpec.ofChange placeRatiosSpec)) placeRatiosCard

/-- THE TIED CARD OF 'bullalaw03.PlaceTableParts'. -/
def placeTablePartsCard : Claim7 := { stood := { row := placeTablePartsRow, standIns := [], harness := (true, "4e9fd2557f5e827f8f518a2f4662332e651e6cd2f415b1c5bccb2a04ab6ebd76"), looks := true }, kinds := [], alts := [], laidByText := true, laidKinds := [.data, .pinned], laidTests := true, laidLooks := .later }
def PlaceTablePartsCardSaid : Prop := Claim7.holds Tryd.pinned (.plain (OpenSpec.ofChange placeTablePartsSpec)) placeTablePartsCard

/-- THE TIED CARD OF 'bullalaw03.PlaceNearBounds'. -/
def placeNearBoundsCard : Claim7 := { stood := { row := placeNearBoundsRow, standIns := [], harness := (true, "4e9fd2557f5e827f8f518a2f4662332e651e6cd2f415b1c5bccb2a04ab6ebd76"), looks := true }, kinds := [], alts := [], laidByText := true, laidKinds := [.data, .pinned], laidTests := true, laidLooks := .later }
def PlaceNearBoundsCardSaid : Prop := Claim7.holds Tryd.pinned (.plain (OpenSpec.ofChange placeNearBoundsSpec)) placeNearBoundsCard

/-- THE TIED CARD OF 'bullalaw03.PlaceRootBounds'. -/
def placeRootBoundsCard : Claim7 := { stood := { row := placeRootBoundsRow, standIns := [], harness := (true, "4e9fd2557f5e827f8f518a2f4662332e651e6cd2f415b1c5bccb2a04ab6ebd76"), looks := true }, kinds := [], alts := [], laidByText := true, laidKinds := [.data, .pinned], laidTests := true, laidLooks := .later }
def PlaceRootBoundsCardSaid : Prop := Claim7.holds Tryd.pinned (.plain (OpenSpec.ofChange placeRootBoundsSpec)) placeRootBoundsCard

/-- THE TIED CARD OF 'bullalaw03.PlaceRatioBack'. -/
def placeRatioBackCard : Claim7 := { stood := { row := placeRatioBackRow, standIns := [], harness := (true, "4e9fd2557f5e827f8f518a2f4662332e651e6cd2f415b1c5bccb2a04ab6ebd76"), looks := true }, kinds := [], alts := [], laidByText := true, laidKinds := [.data, .data, .pinned], laidTests := true, laidLooks := .later }
def PlaceRatioBackCardSaid : Prop := Claim7.holds Tryd.pinned (.plain (OpenSpec.ofChange placeRatioBackSpec)) placeRatioBackCard

/-- THE TIED CARD OF 'bullalaw03.PlaceDigitsBack'. -/
def placeDigitsBackCard : Claim7 := { stood := { row := placeDigitsBackRow, standIns := [], harness := (true, "4e9fd2557f5e827f8f518a2f4662332e651e6cd2f415b1c5bccb2a04ab6ebd76"), looks := true }, kinds := [], alts := [], laidByText := true, laidKinds := [.data, .data, .data, .data, .pinned], laidTests := true, laidLooks := .later }
def PlaceDigitsBackCardSaid : Prop := Claim7.holds Tryd.pinned (.plain (OpenSpec.ofChange placeDigitsBackSpec)) placeDigitsBackCard

/-- THE TIED CARD OF 'bullalaw03.PlaceChecks'. -/
def placeChecksCard : Claim7 := { stood := { row := placeChecksRow, standIns := [], harness := (true, "4e9fd2557f5e827f8f518a2f4662332e651e6cd2f415b1c5bccb2a04ab6ebd76"), looks := true }, kinds := [], alts := [], laidByText := true, laidKinds := [.data, .data, .data, .data, .pinned], laidTests := true, laidLooks := .later }
def PlaceChecksCardSaid : Prop := Claim7.holds Tryd.pinned (.plain (OpenSpec.ofChange placeChecksSpec)) placeChecksCard

/-- THE TIED CARD OF 'bullalaw03.PlaceKnown'. -/
def placeKnownCard : Claim7 := { stood := { row := placeKnownRow, standIns := [], harness := (true, "4e9fd2557f5e827f8f518a2f4662332e651e6cd2f415b1c5bccb2a04ab6ebd76"), looks := true }, kinds := [], alts := [], laidByText := true, laidKinds := [.data, .data, .data, .data, .pinned], laidTests := true, laidLooks := .later }
def PlaceKnownCardSaid : Prop := Claim7.holds Tryd.pinned (.plain (OpenSpec.ofChange placeKnownSpec)) placeKnownCard

/-- THE SECOND FORM's CARD OF 'bullalaw03.PlaceMuls'. -/
def placeMulsUptoCard : Claim7 := { stood := { row := placeMulsUptoRow, standIns := [], harness := (true, "4e9fd2557f5e827f8f518a2f4662332e651e6cd2f415b1c5bccb2a04ab6ebd76"), looks := true }, kinds := [], alts := [], laidByText := true, laidKinds := [.data, .pinned], laidTests := true, laidLooks := .later }
def PlaceMulsUptoCardSaid : Prop := Claim7.holds Tryd.pinned (.plain (OpenSpec.upto placeMulsSpec)) placeMulsUptoCard

/-- THE SECOND FORM's CARD OF 'bullalaw03.PlaceMulLaws'. -/
def placeMulLawsUptoCard : Claim7 := { stood := { row := placeMulLawsUptoRow, standIns := [], harness := (true, "4e9fd2557f5e827f8f518a2f4662332e651e6cd2f415b1c5bccb2a04ab6ebd76"), looks := true }, kinds := [], alts := [], laidByText := true, laidKinds := [.data, .pinned], laidTests := true, laidLooks := .later }
def PlaceMulLawsUptoCardSaid : Prop := Claim7.holds Tryd.pinned (.plain (OpenSpec.upto placeMulLawsSpec)) placeMulLawsUptoCard

/-- THE SECOND FORM's CARD OF 'bullalaw03.PlaceRecipTwice'. -/
def placeRecipTwiceUptoCard : Claim7 := { stood := { row := placeRecipTwiceUptoRow, standIns := [], harness := (true, "4e9fd2557f5e827f8f518a2f4662332e651e6cd2f415b1c5bccb2a04ab6ebd76"), looks := true }, kinds := [], alts := [], laidByText := true, laidKinds := [.data, .pinned], laidTests := true, laidLooks := .later }
def PlaceRecipTwiceUptoCardSaid : Prop := Claim7.holds Tryd.pinned (.plain (OpenSpec.upto placeRecipTwiceSpec)) placeRecipTwiceUptoCard

/-- THE SECOND FORM's CARD OF 'bullalaw03.PlaceRecipProduct'. -/
def placeRecipProductUptoCard : Claim7 := { stood := { row := placeRecipProductUptoRow, standIns := [], harness := (true, "4e9fd2557f5e827f8f518a2f4662332e651e6cd2f415b1c5bccb2a04ab6ebd76"), looks := true }, kinds := [], alts := [], laidByText := true, laidKinds := [.data, .pinned], laidTests := true, laidLooks := .later }
def PlaceRecipProductUptoCardSaid : Prop := Claim7.holds Tryd.pinned (.plain (OpenSpec.upto placeRecipProductSpec)) placeRecipProductUptoCard

/-- THE SECOND FORM's CARD OF 'bullalaw03.PlaceParses'. -/
def placeParsesUptoCard : Claim7 := { stood := { row := placeParsesUptoRow, standIns := [], harness := (true, "4e9fd2557f5e827f8f518a2f4662332e651e6cd2f415b1c5bccb2a04ab6ebd76"), looks := true }, kinds := [], alts := [], laidByText := true, laidKinds := [.data, .pinned], laidTests := true, laidLooks := .later }
def PlaceParsesUptoCardSaid : Prop := Claim7.holds Tryd.pinned (.plain (OpenSpec.upto placeParsesSpec)) placeParsesUptoCard

/-- THE SECOND FORM's CARD OF 'bullalaw03.PlaceRecips'. -/
def placeRecipsUptoCard : Claim7 := { stood := { row := placeRecipsUptoRow, standIns := [], harness := (true, "4e9fd2557f5e827f8f518a2f4662332e651e6cd2f415b1c5bccb2a04ab6ebd76"), looks := true }, kinds := [], alts := [], laidByText := true, laidKinds := [.data, .pinned], laidTests := true, laidLooks := .later }
def PlaceRecipsUptoCardSaid : Prop := Claim7.holds Tryd.pinned (.plain (OpenSpec.upto placeRecipsSpec)) placeRecipsUptoCard

/-- THE SECOND FORM's CARD OF 'bullalaw03.PlaceWholeBack'. -/
def placeWholeBackUptoCard : Claim7 := { stood := { row := placeWholeBackUptoRow, standIns := [], harness := (true, "4e9fd2557f5e827f8f518a2f4662332e651e6cd2f415b1c5bccb2a04ab6ebd76"), looks := true }, kinds := [], alts := [], laidByText := true, laidKinds := [.data, .pinned], laidTests := true, laidLooks := .later }
def PlaceWholeBackUptoCardSaid : Prop := Claim7.holds Tryd.pinned (.plain (OpenSpec.upto placeWholeBackSpec)) placeWholeBackUptoCard

/-- THE SECOND FORM's CARD OF 'bullalaw03.PlaceNears'. -/
def placeNearsUptoCard : Claim7 := { stood := { row := placeNearsUptoRow, standIns := [], harness := (true, "4e9fd2557f5e827f8f518a2f4662332e651e6cd2f415b1c5bccb2a04ab6ebd76"), looks := true }, kinds := [], alts := [], laidByText := true, laidKinds := [.data, .pinned], laidTests := true, laidLooks := .later }
def PlaceNearsUptoCardSaid : Prop := Claim7.holds Tryd.pinned (.plain (OpenSpec.upto placeNearsSpec)) placeNearsUptoCard

/-- THE SECOND FORM's CARD OF 'bullalaw03.PlaceTables'. -/
def placeTablesUptoCard : Claim7 := { stood := { row := placeTablesUptoRow, standIns := [], harness := (true, "4e9fd2557f5e827f8f518a2f4662332e651e6cd2f415b1c5bccb2a04ab6ebd76"), looks := true }, kinds := [], alts := [], laidByText := true, laidKinds := [.data, .pinned], laidTests := true, laidLooks := .later }
def PlaceTablesUptoCardSaid : Prop := Claim7.holds Tryd.pinned (.plain (OpenSpec.upto placeTablesSpec)) placeTablesUptoCard

/-- THE SECOND FORM's CARD OF 'bullalaw03.PlacePairs'. -/
def placePairsUptoCard : Claim7 := { stood := { row := placePairsUptoRow, standIns := [], harness := (true, "4e9fd2557f5e827f8f518a2f4662332e651e6cd2f415b1c5bccb2a04ab6ebd76"), looks := true }, kinds := [], alts := [], laidByText := true, laidKinds := [.data, .pinned], laidTests := true, laidLooks := .later }
def PlacePairsUptoCardSaid : Prop := Claim7.holds Tryd.pinned (.plain (OpenSpec.upto placePairsSpec)) placePairsUptoCard

/-- THE SECOND FORM's CARD OF 'bullalaw03.PlaceStepsMake'. -/
def placeStepsMakeUptoCard : Claim7 := { stood := { row := placeStepsMakeUptoRow, standIns := [], harness := (true, "4e9fd2557f5e827f8f518a2f4662332e651e6cd2f415b1c5bccb2a04ab6ebd76"), looks := true }, kinds := [], alts := [], laidByText := true, laidKinds := [.data, .pinned], laidTests := true, laidLooks := .later }
def PlaceStepsMakeUptoCardSaid : Prop := Claim7.holds Tryd.pinned (.plain (OpenSpec.upto placeStepsMakeSpec)) placeStepsMakeUptoCard

/-- THE SECOND FORM's CARD OF 'bullalaw03.PlaceSums'. -/
def placeSumsUptoCard : Claim7 := { stood := { row := placeSumsUptoRow, standIns := [], harness := (true, "4e9fd2557f5e827f8f518a2f4662332e651e6cd2f415b1c5bccb2a04ab6ebd76"), looks := true }, kinds := [], alts := [], laidByText := true, laidKinds := [.data, .pinned], laidTests := true, laidLooks := .later }
def PlaceSumsUptoCardSaid : Prop := Claim7.holds Tryd.pinned (.plain (OpenSpec.upto placeSumsSpec)) placeSumsUptoCard

/-- THE SECOND FORM's CARD OF 'bullalaw03.PlaceRatios'. -/
def placeRatiosUptoCard : Claim7 := { stood := { row := placeRatiosUptoRow, standIns := [], harness := (true, "4e9fd2557f5e827f8f518a2f4662332e651e6cd2f415b1c5bccb2a04ab6ebd76"), looks := true }, kinds := [], alts := [], laidByText := true, laidKinds := [.data, .pinned], laidTests := true, laidLooks := .later }
def PlaceRatiosUptoCardSaid : Prop := Claim7.holds Tryd.pinned (.plain (OpenSpec.upto placeRatiosSpec)) placeRatiosUptoCard

/-- THE SECOND FORM's CARD OF 'bullalaw03.PlaceTableParts'. -/
def placeTablePartsUptoCard : Claim7 := { stood := { row := placeTablePartsUptoRow, standIns := [], harness := (true, "4e9fd2557f5e827f8f518a2f4662332e651e6cd2f415b1c5bccb2a04ab6ebd76"), looks := true }, kinds := [], alts := [], laidByText := true, laidKinds := [.data, .pinned], laidTests := true, laidLooks := .later }
def PlaceTablePartsUptoCardSaid : Prop := Claim7.holds Tryd.pinned (.plain (OpenSpec.upto placeTablePartsSpec)) placeTablePartsUptoCard

/-- THE SECOND FORM's CARD OF 'bullalaw03.PlaceNearBounds'. -/
def placeNearBoundsUptoCard : Claim7 := { stood := { row := placeNearBoundsUptoRow, standIns := [], harness := (true, "4e9fd2557f5e827f8f518a2f4662332e651e6cd2f415b1c5bccb2a04ab6ebd76"), looks := true }, kinds := [], alts := [], laidByText := true, laidKinds := [.data, .pinned], laidTests := true, laidLooks := .later }
def PlaceNearBoundsUptoCardSaid : Prop := Claim7.holds Tryd.pinned (.plain (OpenSpec.upto placeNearBoundsSpec)) placeNearBoundsUptoCard

/-- THE SECOND FORM's CARD OF 'bullalaw03.PlaceRootBounds'. -/
def placeRootBoundsUptoCard : Claim7 := { stood := { row := placeRootBoundsUptoRow, standIns := [], harness := (true, "4e9fd2557f5e827f8f518a2f4662332e651e6cd2f415b1c5bccb2a04ab6ebd76"), looks := true }, kinds := [], alts := [], laidByText := true, laidKinds := [.data, .pinned], laidTests := true, laidLooks := .later }
def PlaceRootBoundsUptoCardSaid : Prop := Claim7.holds Tryd.pinned (.plain (OpenSpec.upto placeRootBoundsSpec)) placeRootBoundsUptoCard

/-- THE SECOND FORM's CARD OF 'bullalaw03.PlaceRatioBack'. -/
def placeRatioBackUptoCard : Claim7 := { stood := { row := placeRatioBackUptoRow, standIns := [], harness := (true, "4e9fd2557f5e827f8f518a2f4662332e651e6cd2f415b1c5bccb2a04ab6ebd76"), looks := true }, kinds := [], alts := [], laidByText := true, laidKinds := [.data, .data, .pinned], laidTests := true, laidLooks := .later }
def PlaceRatioBackUptoCardSaid : Prop := Claim7.holds Tryd.pinned (.plain (OpenSpec.upto placeRatioBackSpec)) placeRatioBackUptoCard

/-- THE SECOND FORM's CARD OF 'bullalaw03.PlaceDigitsBack'. -/
def placeDigitsBackUptoCard : Claim7 := { stood := { row := placeDigitsBackUptoRow, standIns := [], harness := (true, "4e9fd2557f5e827f8f518a2f4662332e651e6cd2f415b1c5bccb2a04ab6ebd76"), looks := true }, kinds := [], alts := [], laidByText := true, laidKinds := [.data, .data, .data, .data, .pinned], laidTests := true, laidLooks := .later }
def PlaceDigitsBackUptoCardSaid : Prop := Claim7.holds Tryd.pinned (.plain (OpenSpec.upto placeDigitsBackSpec)) placeDigitsBackUptoCard

/-- THE SECOND FORM's CARD OF 'bullalaw03.PlaceChecks'. -/
def placeChecksUptoCard : Claim7 := { stood := { row := placeChecksUptoRow, standIns := [], harness := (true, "4e9fd2557f5e827f8f518a2f4662332e651e6cd2f415b1c5bccb2a04ab6ebd76"), looks := true }, kinds := [], alts := [], laidByText := true, laidKinds := [.data, .data, .data, .data, .pinned], laidTests := true, laidLooks := .later }
def PlaceChecksUptoCardSaid : Prop := Claim7.holds Tryd.pinned (.plain (OpenSpec.upto placeChecksSpec)) placeChecksUptoCard

/-- THE SECOND FORM's CARD OF 'bullalaw03.PlaceKnown'. -/
def placeKnownUptoCard : Claim7 := { stood := { row := placeKnownUptoRow, standIns := [], harness := (true, "4e9fd2557f5e827f8f518a2f4662332e651e6cd2f415b1c5bccb2a04ab6ebd76"), looks := true }, kinds := [], alts := [], laidByText := true, laidKinds := [.data, .data, .data, .data, .pinned], laidTests := true, laidLooks := .later }
def PlaceKnownUptoCardSaid : Prop := Claim7.holds Tryd.pinned (.plain (OpenSpec.upto placeKnownSpec)) placeKnownUptoCard
end Rows
end Go.Proofs.YtpocekfifokndaaDoor

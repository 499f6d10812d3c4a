/-
  DERIVED. GIVEN WITH THE SEED: THE CARDS: each row of YtokgkggocgpcfaaGreatDoorRows.lean that lists a variable, with what it lists TIED to the program's text (the seventh form; the later family's looks); each row that meets fmt, with fmt's text TOLD by the authors' own Lean function (tested against real Go, not proved from fmt's source: count such statements apart). THE CARD IS WHAT COUNTS. Prove the row's statement (the work); the ties are given (YtokgkggocgpcfaaGreatDoorTie.lean); close each card by the builder's one call (the guide's Derived/Test/ToyasCard.lean, 'card_holds'). Laid BY PROGRAM, IN A SANDBOX (cutbox-door.mjs). By AI agents, Wed Nov 11 2026. No macro, syntax, notation, axiom, sorry.
-/
import Derived.Test.YtokgkggocgpcfaaGreatDoorRows
import GoSem.ClaimSeven
namespace Go.Proofs.YtokgkggocgpcfaaGreatDoor
namespace Rows

/-- THE TIED CARD OF 'baudotlaw07.MeterBills'. -/
def meterBillsCard : Claim7 := { stood := { row := meterBillsRow, standIns := [], harness := (true, "85f49ddfc64e7f2d7d19892ccfaba1b12e883a9cb2c6a7863b26581374c9a644"), looks := false }, kinds := [], alts := [], goes := true, laidByText := true, laidKinds := [.funcs], laidTests := true, laidLooks := .later }
def MeterBillsCardSaid : Prop := Claim7.holds Tryz.pinned (.plain (OpenSpec.ofChange meterBillsSpec)) meterBillsCard

/-- THE TIED CARD OF 'baudotlaw07.MeterPhotos'. -/
def meterPhotosCard : Claim7 := { stood := { row := meterPhotosRow, standIns := [], harness := (true, "85f49ddfc64e7f2d7d19892ccfaba1b12e883a9cb2c6a7863b26581374c9a644"), looks := false }, kinds := [], alts := [], goes := true, laidByText := true, laidKinds := [.funcs], laidTests := true, laidLooks := .later }
def MeterPhotosCardSaid : Prop := Claim7.holds Tryz.pinned (.plain (OpenSpec.ofChange meterPhotosSpec)) meterPhotosCard

/-- THE TIED CARD OF 'baudotlaw07.MeterExact'. -/
def meterExactCard : Claim7 := { stood := { row := meterExactRow, standIns := [], harness := (true, "85f49ddfc64e7f2d7d19892ccfaba1b12e883a9cb2c6a7863b26581374c9a644"), looks := false }, kinds := [], alts := [], goes := true, laidByText := true, laidKinds := [.funcs], laidTests := true, laidLooks := .later }
def MeterExactCardSaid : Prop := Claim7.holds Tryz.pinned (.plain (OpenSpec.ofChange meterExactSpec)) meterExactCard

/-- THE TIED CARD OF 'baudotlaw07.MeterEither'. -/
def meterEitherCard : Claim7 := { stood := { row := meterEitherRow, standIns := [], harness := (true, "85f49ddfc64e7f2d7d19892ccfaba1b12e883a9cb2c6a7863b26581374c9a644"), looks := false }, kinds := [], alts := [], goes := true, laidByText := true, laidKinds := [.funcs], laidTests := true, laidLooks := .later }
def MeterEitherCardSaid : Prop := Claim7.holds Tryz.pinned (.plain (OpenSpec.ofChange meterEitherSpec)) meterEitherCard

/-- THE TIED CARD OF 'baudotlaw07.MeterCheap'. -/
def meterCheapCard : Claim7 := { stood := { row := meterCheapRow, standIns := [], harness := (true, "85f49ddfc64e7f2d7d19892ccfaba1b12e883a9cb2c6a7863b26581374c9a644"), looks := false }, kinds := [], alts := [], goes := true, laidByText := true, laidKinds := [.funcs], laidTests := true, laidLooks := .later }
def MeterCheapCardSaid : Prop := Claim7.holds Tryz.pinned (.plain (OpenSpec.ofChange meterCheapSpec)) meterCheapCard

/-- THE TIED CARD OF 'baudotlaw07.MeterNews'. -/
def meterNewsCard : Claim7 := { stood := { row := meterNewsRow, standIns := [], harness := (true, "85f49ddfc64e7f2d7d19892ccfaba1b12e883a9cb2c6a7863b26581374c9a644"), looks := false }, kinds := [], alts := [], goes := true, laidByText := true, laidKinds := [.funcs], laidTests := true, laidLooks := .later }
def MeterNewsCardSaid : Prop := Claim7.holds Tryz.pinned (.plain (OpenSpec.ofChange meterNewsSpec)) meterNewsCard

/-- THE TIED CARD OF 'baudotlaw07.MeterAnyOrder'. -/
def meterAnyOrderCard : Claim7 := { stood := { row := meterAnyOrderRow, standIns := [], harness := (true, "85f49ddfc64e7f2d7d19892ccfaba1b12e883a9cb2c6a7863b26581374c9a644"), looks := false }, kinds := [], alts := [], goes := true, laidByText := true, laidKinds := [.funcs], laidTests := true, laidLooks := .later }
def MeterAnyOrderCardSaid : Prop := Claim7.holds Tryz.pinned (.plain (OpenSpec.ofChange meterAnyOrderSpec)) meterAnyOrderCard

/-- THE TIED CARD OF 'baudotlaw07.MeterReadings'. -/
def meterReadingsCard : Claim7 := { stood := { row := meterReadingsRow, standIns := [], harness := (true, "85f49ddfc64e7f2d7d19892ccfaba1b12e883a9cb2c6a7863b26581374c9a644"), looks := false }, kinds := [], alts := [], goes := true, laidByText := true, laidKinds := [.funcs], laidTests := true, laidLooks := .later }
def MeterReadingsCardSaid : Prop := Claim7.holds Tryz.pinned (.plain (OpenSpec.ofChange meterReadingsSpec)) meterReadingsCard

/-- THE TIED CARD OF 'baudotlaw07.MeterReal'. -/
def meterRealCard : Claim7 := { stood := { row := meterRealRow, standIns := [], harness := (true, "85f49ddfc64e7f2d7d19892ccfaba1b12e883a9cb2c6a7863b26581374c9a644"), looks := false }, kinds := [], alts := [], goes := true, laidByText := true, laidKinds := [.funcs], laidTests := true, laidLooks := .later }
def MeterRealCardSaid : Prop := Claim7.holds Tryz.pinned (.plain (OpenSpec.ofChange meterRealSpec)) meterRealCard

/-- THE TIED CARD OF 'baudotlaw07.MeterShown'. -/
def meterShownCard : Claim7 := { stood := { row := meterShownRow, standIns := [], harness := (true, "85f49ddfc64e7f2d7d19892ccfaba1b12e883a9cb2c6a7863b26581374c9a644"), looks := false }, kinds := [], alts := [], goes := true, laidByText := true, laidKinds := [.funcs], laidTests := true, laidLooks := .later }
def MeterShownCardSaid : Prop := Claim7.holds Tryz.pinned (.plain (OpenSpec.ofChange meterShownSpec)) meterShownCard

/-- THE TIED CARD OF 'baudotlaw07.MeterClash'. -/
def meterClashCard : Claim7 := { stood := { row := meterClashRow, standIns := [], harness := (true, "85f49ddfc64e7f2d7d19892ccfaba1b12e883a9cb2c6a7863b26581374c9a644"), looks := false }, kinds := [], alts := [], goes := true, laidByText := true, laidKinds := [.funcs], laidTests := true, laidLooks := .later }
def MeterClashCardSaid : Prop := Claim7.holds Tryz.pinned (.plain (OpenSpec.ofChange meterClashSpec)) meterClashCard

/-- THE TIED CARD OF 'baudotlaw07.MeterAsked'. -/
def meterAskedCard : Claim7 := { stood := { row := meterAskedRow, standIns := [], harness := (true, "85f49ddfc64e7f2d7d19892ccfaba1b12e883a9cb2c6a7863b26581374c9a644"), looks := false }, kinds := [], alts := [], goes := true, laidByText := true, laidKinds := [.funcs], laidTests := true, laidLooks := .later }
def MeterAskedCardSaid : Prop := Claim7.holds Tryz.pinned (.plain (OpenSpec.ofChange meterAskedSpec)) meterAskedCard

/-- THE TIED CARD OF 'baudotlaw07.MeterPrices'. -/
def meterPricesCard : Claim7 := { stood := { row := meterPricesRow, standIns := [], harness := (true, "85f49ddfc64e7f2d7d19892ccfaba1b12e883a9cb2c6a7863b26581374c9a644"), looks := false }, kinds := [], alts := [], goes := true, laidByText := true, laidKinds := [.funcs], laidTests := true, laidLooks := .later }
def MeterPricesCardSaid : Prop := Claim7.holds Tryz.pinned (.plain (OpenSpec.ofChange meterPricesSpec)) meterPricesCard

/-- THE TIED CARD OF 'baudotlaw07.MeterSeconds'. -/
def meterSecondsCard : Claim7 := { stood := { row := meterSecondsRow, standIns := [], harness := (true, "85f49ddfc64e7f2d7d19892ccfaba1b12e883a9cb2c6a7863b26581374c9a644"), looks := false }, kinds := [], alts := [], goes := true, laidByText := true, laidKinds := [.funcs], laidTests := true, laidLooks := .later }
def MeterSecondsCardSaid : Prop := Claim7.holds Tryz.pinned (.plain (OpenSpec.ofChange meterSecondsSpec)) meterSecondsCard

/-- THE SECOND FORM's CARD OF 'baudotlaw07.MeterBills'. -/
def meterBillsUptoCard : Claim7 := { stood := { row := meterBillsUptoRow, standIns := [], harness := (true, "85f49ddfc64e7f2d7d19892ccfaba1b12e883a9cb2c6a7863b26581374c9a644"), looks := false }, kinds := [], alts := [], goes := true, laidByText := true, laidKinds := [.funcs], laidTests := true, laidLooks := .later }
def MeterBillsUptoCardSaid : Prop := Claim7.holds Tryz.pinned (.plain (OpenSpec.upto meterBillsSpec)) meterBillsUptoCard

/-- THE SECOND FORM's CARD OF 'baudotlaw07.MeterPhotos'. -/
def meterPhotosUptoCard : Claim7 := { stood := { row := meterPhotosUptoRow, standIns := [], harness := (true, "85f49ddfc64e7f2d7d19892ccfaba1b12e883a9cb2c6a7863b26581374c9a644"), looks := false }, kinds := [], alts := [], goes := true, laidByText := true, laidKinds := [.funcs], laidTests := true, laidLooks := .later }
def MeterPhotosUptoCardSaid : Prop := Claim7.holds Tryz.pinned (.plain (OpenSpec.upto meterPhotosSpec)) meterPhotosUptoCard

/-- THE SECOND FORM's CARD OF 'baudotlaw07.MeterExact'. -/
def meterExactUptoCard : Claim7 := { stood := { row := meterExactUptoRow, standIns := [], harness := (true, "85f49ddfc64e7f2d7d19892ccfaba1b12e883a9cb2c6a7863b26581374c9a644"), looks := false }, kinds := [], alts := [], goes := true, laidByText := true, laidKinds := [.funcs], laidTests := true, laidLooks := .later }
def MeterExactUptoCardSaid : Prop := Claim7.holds Tryz.pinned (.plain (OpenSpec.upto meterExactSpec)) meterExactUptoCard

/-- THE SECOND FORM's CARD OF 'baudotlaw07.MeterEither'. -/
def meterEitherUptoCard : Claim7 := { stood := { row := meterEitherUptoRow, standIns := [], harness := (true, "85f49ddfc64e7f2d7d19892ccfaba1b12e883a9cb2c6a7863b26581374c9a644"), looks := false }, kinds := [], alts := [], goes := true, laidByText := true, laidKinds := [.funcs], laidTests := true, laidLooks := .later }
def MeterEitherUptoCardSaid : Prop := Claim7.holds Tryz.pinned (.plain (OpenSpec.upto meterEitherSpec)) meterEitherUptoCard

/-- THE SECOND FORM's CARD OF 'baudotlaw07.MeterCheap'. -/
def meterCheapUptoCard : Claim7 := { stood := { row := meterCheapUptoRow, standIns := [], harness := (true, "85f49ddfc64e7f2d7d19892ccfaba1b12e883a9cb2c6a7863b26581374c9a644"), looks := false }, kinds := [], alts := [], goes := true, laidByText := true, laidKinds := [.funcs], laidTests := true, laidLooks := .later }
def MeterCheapUptoCardSaid : Prop := Claim7.holds Tryz.pinned (.plain (OpenSpec.upto meterCheapSpec)) meterCheapUptoCard

/-- THE SECOND FORM's CARD OF 'baudotlaw07.MeterNews'. -/
def meterNewsUptoCard : Claim7 := { stood := { row := meterNewsUptoRow, standIns := [], harness := (true, "85f49ddfc64e7f2d7d19892ccfaba1b12e883a9cb2c6a7863b26581374c9a644"), looks := false }, kinds := [], alts := [], goes := true, laidByText := true, laidKinds := [.funcs], laidTests := true, laidLooks := .later }
def MeterNewsUptoCardSaid : Prop := Claim7.holds Tryz.pinned (.plain (OpenSpec.upto meterNewsSpec)) meterNewsUptoCard

/-- THE SECOND FORM's CARD OF 'baudotlaw07.MeterAnyOrder'. -/
def meterAnyOrderUptoCard : Claim7 := { stood := { row := meterAnyOrderUptoRow, standIns := [], harness := (true, "85f49ddfc64e7f2d7d19892ccfaba1b12e883a9cb2c6a7863b26581374c9a644"), looks := false }, kinds := [], alts := [], goes := true, laidByText := true, laidKinds := [.funcs], laidTests := true, laidLooks := .later }
def MeterAnyOrderUptoCardSaid : Prop := Claim7.holds Tryz.pinned (.plain (OpenSpec.upto meterAnyOrderSpec)) meterAnyOrderUptoCard

/-- THE SECOND FORM's CARD OF 'baudotlaw07.MeterReadings'. -/
def meterReadingsUptoCard : Claim7 := { stood := { row := meterReadingsUptoRow, standIns := [], harness := (true, "85f49ddfc64e7f2d7d19892ccfaba1b12e883a9cb2c6a7863b26581374c9a644"), looks := false }, kinds := [], alts := [], goes := true, laidByText := true, laidKinds := [.funcs], laidTests := true, laidLooks := .later }
def MeterReadingsUptoCardSaid : Prop := Claim7.holds Tryz.pinned (.plain (OpenSpec.upto meterReadingsSpec)) meterReadingsUptoCard

/-- THE SECOND FORM's CARD OF 'baudotlaw07.MeterReal'. -/
def meterRealUptoCard : Claim7 := { stood := { row := meterRealUptoRow, standIns := [], harness := (true, "85f49ddfc64e7f2d7d19892ccfaba1b12e883a9cb2c6a7863b26581374c9a644"), looks := false }, kinds := [], alts := [], goes := true, laidByText := true, laidKinds := [.funcs], laidTests := true, laidLooks := .later }
def MeterRealUptoCardSaid : Prop := Claim7.holds Tryz.pinned (.plain (OpenSpec.upto meterRealSpec)) meterRealUptoCard

/-- THE SECOND FORM's CARD OF 'baudotlaw07.MeterShown'. -/
def meterShownUptoCard : Claim7 := { stood := { row := meterShownUptoRow, standIns := [], harness := (true, "85f49ddfc64e7f2d7d19892ccfaba1b12e883a9cb2c6a7863b26581374c9a644"), looks := false }, kinds := [], alts := [], goes := true, laidByText := true, laidKinds := [.funcs], laidTests := true, laidLooks := .later }
def MeterShownUptoCardSaid : Prop := Claim7.holds Tryz.pinned (.plain (OpenSpec.upto meterShownSpec)) meterShownUptoCard

/-- THE SECOND FORM's CARD OF 'baudotlaw07.MeterClash'. -/
def meterClashUptoCard : Claim7 := { stood := { row := meterClashUptoRow, standIns := [], harness := (true, "85f49ddfc64e7f2d7d19892ccfaba1b12e883a9cb2c6a7863b26581374c9a644"), looks := false }, kinds := [], alts := [], goes := true, laidByText := true, laidKinds := [.funcs], laidTests := true, laidLooks := .later }
def MeterClashUptoCardSaid : Prop := Claim7.holds Tryz.pinned (.plain (OpenSpec.upto meterClashSpec)) meterClashUptoCard

/-- THE SECOND FORM's CARD OF 'baudotlaw07.MeterAsked'. -/
def meterAskedUptoCard : Claim7 := { stood := { row := meterAskedUptoRow, standIns := [], harness := (true, "85f49ddfc64e7f2d7d19892ccfaba1b12e883a9cb2c6a7863b26581374c9a644"), looks := false }, kinds := [], alts := [], goes := true, laidByText := true, laidKinds := [.funcs], laidTests := true, laidLooks := .later }
def MeterAskedUptoCardSaid : Prop := Claim7.holds Tryz.pinned (.plain (OpenSpec.upto meterAskedSpec)) meterAskedUptoCard

/-- THE SECOND FORM's CARD OF 'baudotlaw07.MeterPrices'. -/
def meterPricesUptoCard : Claim7 := { stood := { row := meterPricesUptoRow, standIns := [], harness := (true, "85f49ddfc64e7f2d7d19892ccfaba1b12e883a9cb2c6a7863b26581374c9a644"), looks := false }, kinds := [], alts := [], goes := true, laidByText := true, laidKinds := [.funcs], laidTests := true, laidLooks := .later }
def MeterPricesUptoCardSaid : Prop := Claim7.holds Tryz.pinned (.plain (OpenSpec.upto meterPricesSpec)) meterPricesUptoCard

/-- THE SECOND FORM's CARD OF 'baudotlaw07.MeterSeconds'. -/
def meterSecondsUptoCard : Claim7 := { stood := { row := meterSecondsUptoRow, standIns := [], harness := (true, "85f49ddfc64e7f2d7d19892ccfaba1b12e883a9cb2c6a7863b26581374c9a644"), looks := false }, kinds := [], alts := [], goes := true, laidByText := true, laidKinds := [.funcs], laidTests := true, laidLooks := .later }
def MeterSecondsUptoCardSaid : Prop := Claim7.holds Tryz.pinned (.plain (OpenSpec.upto meterSecondsSpec)) meterSecondsUptoCard
end Rows
end Go.Proofs.YtokgkggocgpcfaaGreatDoor

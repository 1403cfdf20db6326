/-
  DERIVED. GIVEN WITH THE SEED: THE CARDS: each row of YtaacbjchjdjieaaGreatDoorRows.lean that lists a variable, with what it lists TIED to the program's text (the seventh form; the later family's looks); each row that meets fmt, with fmt's text TOLD by the authors' own Lean function (tested against real Go, not proved from fmt's source: count such statements apart). THE CARD IS WHAT COUNTS. Prove the row's statement (the work); the ties are given (YtaacbjchjdjieaaGreatDoorTie.lean); close each card by the builder's one call (the guide's Derived/Test/ToyasCard.lean, 'card_holds'). Laid BY PROGRAM, IN A SANDBOX (cutbox-door.mjs). By AI agents, Wed Nov 11 2026. No macro, syntax, notation, axiom, sorry.
-/
import Derived.Test.YtaacbjchjdjieaaGreatDoorRows
import GoSem.ClaimSeven
namespace Go.Proofs.YtaacbjchjdjieaaGreatDoor
namespace Rows

/-- THE TIED CARD OF 'glyphcutterlaw24.RateCounts'. -/
def rateCountsCard : Claim7 := { stood := { row := rateCountsRow, standIns := [], harness := (true, "a2b1f7225f5ac64895716659ed3646ed87c34feeb6fa33e8c3730ca1259c543e"), looks := true }, kinds := [], alts := [], laidByText := true, laidKinds := [.data, .data, .widerDeep, .widerDeep, .data, .data, .data, .data, .data, .sentinel, .sentinel, .pinned, .pinned], laidTests := true, laidLooks := .later }
def RateCountsCardSaid : Prop := Claim7.holds Tryz.pinned (.plain (OpenSpec.ofChange rateCountsSpec)) rateCountsCard

/-- THE TIED CARD OF 'glyphcutterlaw24.RateMeans'. -/
def rateMeansCard : Claim7 := { stood := { row := rateMeansRow, standIns := [], harness := (true, "a2b1f7225f5ac64895716659ed3646ed87c34feeb6fa33e8c3730ca1259c543e"), looks := true }, kinds := [], alts := [], laidByText := true, laidKinds := [.data, .data, .widerDeep, .widerDeep, .data, .data, .data, .data, .data, .sentinel, .sentinel, .pinned, .pinned], laidTests := true, laidLooks := .later }
def RateMeansCardSaid : Prop := Claim7.holds Tryz.pinned (.plain (OpenSpec.ofChange rateMeansSpec)) rateMeansCard

/-- THE TIED CARD OF 'glyphcutterlaw24.RateCompares'. -/
def rateComparesCard : Claim7 := { stood := { row := rateComparesRow, standIns := [], harness := (true, "a2b1f7225f5ac64895716659ed3646ed87c34feeb6fa33e8c3730ca1259c543e"), looks := true }, kinds := [], alts := [], laidByText := true, laidKinds := [.data, .data, .widerDeep, .widerDeep, .data, .data, .data, .data, .data, .sentinel, .sentinel, .pinned, .pinned], laidTests := true, laidLooks := .later }
def RateComparesCardSaid : Prop := Claim7.holds Tryz.pinned (.plain (OpenSpec.ofChange rateComparesSpec)) rateComparesCard

/-- THE TIED CARD OF 'glyphcutterlaw24.RateOrders'. -/
def rateOrdersCard : Claim7 := { stood := { row := rateOrdersRow, standIns := [], harness := (true, "a2b1f7225f5ac64895716659ed3646ed87c34feeb6fa33e8c3730ca1259c543e"), looks := true }, kinds := [], alts := [], laidByText := true, laidKinds := [.data, .data, .widerDeep, .widerDeep, .data, .data, .data, .data, .data, .sentinel, .sentinel, .pinned, .pinned], laidTests := true, laidLooks := .later }
def RateOrdersCardSaid : Prop := Claim7.holds Tryz.pinned (.plain (OpenSpec.ofChange rateOrdersSpec)) rateOrdersCard

/-- THE TIED CARD OF 'glyphcutterlaw24.RateEnds'. -/
def rateEndsCard : Claim7 := { stood := { row := rateEndsRow, standIns := [], harness := (true, "a2b1f7225f5ac64895716659ed3646ed87c34feeb6fa33e8c3730ca1259c543e"), looks := true }, kinds := [], alts := [], laidByText := true, laidKinds := [.data, .data, .widerDeep, .widerDeep, .data, .data, .data, .data, .data, .sentinel, .sentinel, .pinned, .pinned], laidTests := true, laidLooks := .later }
def RateEndsCardSaid : Prop := Claim7.holds Tryz.pinned (.plain (OpenSpec.ofChange rateEndsSpec)) rateEndsCard

/-- THE TIED CARD OF 'glyphcutterlaw24.RateTexts'. -/
def rateTextsCard : Claim7 := { stood := { row := rateTextsRow, standIns := [], harness := (true, "a2b1f7225f5ac64895716659ed3646ed87c34feeb6fa33e8c3730ca1259c543e"), looks := true }, kinds := [], alts := [], laidByText := true, laidKinds := [.data, .data, .widerDeep, .widerDeep, .data, .data, .data, .data, .data, .sentinel, .sentinel, .pinned, .pinned], laidTests := true, laidLooks := .later }
def RateTextsCardSaid : Prop := Claim7.holds Tryz.pinned (.plain (OpenSpec.ofChange rateTextsSpec)) rateTextsCard

/-- THE TIED CARD OF 'glyphcutterlaw24.RateReads'. -/
def rateReadsCard : Claim7 := { stood := { row := rateReadsRow, standIns := [], harness := (true, "a2b1f7225f5ac64895716659ed3646ed87c34feeb6fa33e8c3730ca1259c543e"), looks := true }, kinds := [], alts := [], laidByText := true, laidKinds := [.data, .data, .widerDeep, .widerDeep, .data, .data, .data, .data, .data, .sentinel, .sentinel, .pinned, .pinned], laidTests := true, laidLooks := .later }
def RateReadsCardSaid : Prop := Claim7.holds Tryz.pinned (.plain (OpenSpec.ofChange rateReadsSpec)) rateReadsCard

/-- THE TIED CARD OF 'glyphcutterlaw24.RatePlaces'. -/
def ratePlacesCard : Claim7 := { stood := { row := ratePlacesRow, standIns := [], harness := (true, "a2b1f7225f5ac64895716659ed3646ed87c34feeb6fa33e8c3730ca1259c543e"), looks := true }, kinds := [], alts := [], laidByText := true, laidKinds := [.data, .data, .widerDeep, .widerDeep, .data, .data, .data, .data, .data, .sentinel, .sentinel, .pinned, .pinned], laidTests := true, laidLooks := .later }
def RatePlacesCardSaid : Prop := Claim7.holds Tryz.pinned (.plain (OpenSpec.ofChange ratePlacesSpec)) ratePlacesCard

/-- THE SECOND FORM's CARD OF 'glyphcutterlaw24.RateCounts'. -/
def rateCountsUptoCard : Claim7 := { stood := { row := rateCountsUptoRow, standIns := [], harness := (true, "a2b1f7225f5ac64895716659ed3646ed87c34feeb6fa33e8c3730ca1259c543e"), looks := true }, kinds := [], alts := [], laidByText := true, laidKinds := [.data, .data, .widerDeep, .widerDeep, .data, .data, .data, .data, .data, .sentinel, .sentinel, .pinned, .pinned], laidTests := true, laidLooks := .later }
def RateCountsUptoCardSaid : Prop := Claim7.holds Tryz.pinned (.plain (OpenSpec.upto rateCountsSpec)) rateCountsUptoCard

/-- THE SECOND FORM's CARD OF 'glyphcutterlaw24.RateMeans'. -/
def rateMeansUptoCard : Claim7 := { stood := { row := rateMeansUptoRow, standIns := [], harness := (true, "a2b1f7225f5ac64895716659ed3646ed87c34feeb6fa33e8c3730ca1259c543e"), looks := true }, kinds := [], alts := [], laidByText := true, laidKinds := [.data, .data, .widerDeep, .widerDeep, .data, .data, .data, .data, .data, .sentinel, .sentinel, .pinned, .pinned], laidTests := true, laidLooks := .later }
def RateMeansUptoCardSaid : Prop := Claim7.holds Tryz.pinned (.plain (OpenSpec.upto rateMeansSpec)) rateMeansUptoCard

/-- THE SECOND FORM's CARD OF 'glyphcutterlaw24.RateCompares'. -/
def rateComparesUptoCard : Claim7 := { stood := { row := rateComparesUptoRow, standIns := [], harness := (true, "a2b1f7225f5ac64895716659ed3646ed87c34feeb6fa33e8c3730ca1259c543e"), looks := true }, kinds := [], alts := [], laidByText := true, laidKinds := [.data, .data, .widerDeep, .widerDeep, .data, .data, .data, .data, .data, .sentinel, .sentinel, .pinned, .pinned], laidTests := true, laidLooks := .later }
def RateComparesUptoCardSaid : Prop := Claim7.holds Tryz.pinned (.plain (OpenSpec.upto rateComparesSpec)) rateComparesUptoCard

/-- THE SECOND FORM's CARD OF 'glyphcutterlaw24.RateOrders'. -/
def rateOrdersUptoCard : Claim7 := { stood := { row := rateOrdersUptoRow, standIns := [], harness := (true, "a2b1f7225f5ac64895716659ed3646ed87c34feeb6fa33e8c3730ca1259c543e"), looks := true }, kinds := [], alts := [], laidByText := true, laidKinds := [.data, .data, .widerDeep, .widerDeep, .data, .data, .data, .data, .data, .sentinel, .sentinel, .pinned, .pinned], laidTests := true, laidLooks := .later }
def RateOrdersUptoCardSaid : Prop := Claim7.holds Tryz.pinned (.plain (OpenSpec.upto rateOrdersSpec)) rateOrdersUptoCard

/-- THE SECOND FORM's CARD OF 'glyphcutterlaw24.RateEnds'. -/
def rateEndsUptoCard : Claim7 := { stood := { row := rateEndsUptoRow, standIns := [], harness := (true, "a2b1f7225f5ac64895716659ed3646ed87c34feeb6fa33e8c3730ca1259c543e"), looks := true }, kinds := [], alts := [], laidByText := true, laidKinds := [.data, .data, .widerDeep, .widerDeep, .data, .data, .data, .data, .data, .sentinel, .sentinel, .pinned, .pinned], laidTests := true, laidLooks := .later }
def RateEndsUptoCardSaid : Prop := Claim7.holds Tryz.pinned (.plain (OpenSpec.upto rateEndsSpec)) rateEndsUptoCard

/-- THE SECOND FORM's CARD OF 'glyphcutterlaw24.RateTexts'. -/
def rateTextsUptoCard : Claim7 := { stood := { row := rateTextsUptoRow, standIns := [], harness := (true, "a2b1f7225f5ac64895716659ed3646ed87c34feeb6fa33e8c3730ca1259c543e"), looks := true }, kinds := [], alts := [], laidByText := true, laidKinds := [.data, .data, .widerDeep, .widerDeep, .data, .data, .data, .data, .data, .sentinel, .sentinel, .pinned, .pinned], laidTests := true, laidLooks := .later }
def RateTextsUptoCardSaid : Prop := Claim7.holds Tryz.pinned (.plain (OpenSpec.upto rateTextsSpec)) rateTextsUptoCard

/-- THE SECOND FORM's CARD OF 'glyphcutterlaw24.RateReads'. -/
def rateReadsUptoCard : Claim7 := { stood := { row := rateReadsUptoRow, standIns := [], harness := (true, "a2b1f7225f5ac64895716659ed3646ed87c34feeb6fa33e8c3730ca1259c543e"), looks := true }, kinds := [], alts := [], laidByText := true, laidKinds := [.data, .data, .widerDeep, .widerDeep, .data, .data, .data, .data, .data, .sentinel, .sentinel, .pinned, .pinned], laidTests := true, laidLooks := .later }
def RateReadsUptoCardSaid : Prop := Claim7.holds Tryz.pinned (.plain (OpenSpec.upto rateReadsSpec)) rateReadsUptoCard

/-- THE SECOND FORM's CARD OF 'glyphcutterlaw24.RatePlaces'. -/
def ratePlacesUptoCard : Claim7 := { stood := { row := ratePlacesUptoRow, standIns := [], harness := (true, "a2b1f7225f5ac64895716659ed3646ed87c34feeb6fa33e8c3730ca1259c543e"), looks := true }, kinds := [], alts := [], laidByText := true, laidKinds := [.data, .data, .widerDeep, .widerDeep, .data, .data, .data, .data, .data, .sentinel, .sentinel, .pinned, .pinned], laidTests := true, laidLooks := .later }
def RatePlacesUptoCardSaid : Prop := Claim7.holds Tryz.pinned (.plain (OpenSpec.upto ratePlacesSpec)) ratePlacesUptoCard
end Rows
end Go.Proofs.YtaacbjchjdjieaaGreatDoor

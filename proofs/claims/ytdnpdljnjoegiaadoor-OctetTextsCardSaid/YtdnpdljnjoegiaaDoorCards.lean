/-
  DERIVED. GIVEN WITH THE SEED: THE CARDS: each row of YtdnpdljnjoegiaaDoorRows.lean that lists a variable, with what it lists TIED to the program's text (the seventh form; the later family's looks); each row that meets fmt, with fmt's text TOLD by the authors' own Lean function (tested against real Go, not proved from fmt's source: count such statements apart). THE CARD IS WHAT COUNTS. Prove the row's statement (the work); the ties are given (YtdnpdljnjoegiaaDoorTie.lean); close each card by the builder's one call (the guide's Derived/Test/ToyasCard.lean, 'card_holds'). Laid BY PROGRAM, IN A SANDBOX (cutbox-door.mjs). By AI agents, Wed Nov 11 2026. No macro, syntax, notation, axiom, sorry.
-/
import Derived.Test.YtdnpdljnjoegiaaDoorRows
import GoSem.ClaimSeven
namespace Go.Proofs.YtdnpdljnjoegiaaDoor
namespace Rows

/-- THE TIED CARD OF 'sealskinlaw02.OctetBack'. -/
def octetBackCard : Claim7 := { stood := { row := octetBackRow, standIns := [], harness := (true, "c43af4a390fb47e1a1e51dc729d8eb2d209f3f90568ddc6f8dc09e1b0d275f91"), looks := false }, kinds := [], alts := [], laidByText := true, laidKinds := [.data, .pinned], laidTests := true, laidLooks := .later }
def OctetBackCardSaid : Prop := Claim7.holds Tryd.pinned (.plain (OpenSpec.ofChange octetBackSpec)) octetBackCard

/-- THE TIED CARD OF 'sealskinlaw02.OctetTurned'. -/
def octetTurnedCard : Claim7 := { stood := { row := octetTurnedRow, standIns := [], harness := (true, "c43af4a390fb47e1a1e51dc729d8eb2d209f3f90568ddc6f8dc09e1b0d275f91"), looks := false }, kinds := [], alts := [], laidByText := true, laidKinds := [.data, .pinned], laidTests := true, laidLooks := .later }
def OctetTurnedCardSaid : Prop := Claim7.holds Tryd.pinned (.plain (OpenSpec.ofChange octetTurnedSpec)) octetTurnedCard

/-- THE TIED CARD OF 'sealskinlaw02.OctetCut'. -/
def octetCutCard : Claim7 := { stood := { row := octetCutRow, standIns := [], harness := (true, "c43af4a390fb47e1a1e51dc729d8eb2d209f3f90568ddc6f8dc09e1b0d275f91"), looks := false }, kinds := [], alts := [], laidByText := true, laidKinds := [.data, .pinned], laidTests := true, laidLooks := .later }
def OctetCutCardSaid : Prop := Claim7.holds Tryd.pinned (.plain (OpenSpec.ofChange octetCutSpec)) octetCutCard

/-- THE TIED CARD OF 'sealskinlaw02.OctetForm'. -/
def octetFormCard : Claim7 := { stood := { row := octetFormRow, standIns := [], harness := (true, "c43af4a390fb47e1a1e51dc729d8eb2d209f3f90568ddc6f8dc09e1b0d275f91"), looks := false }, kinds := [], alts := [], laidByText := true, laidKinds := [.data, .pinned], laidTests := true, laidLooks := .later }
def OctetFormCardSaid : Prop := Claim7.holds Tryd.pinned (.plain (OpenSpec.ofChange octetFormSpec)) octetFormCard

/-- THE TIED CARD OF 'sealskinlaw02.OctetOrder'. -/
def octetOrderCard : Claim7 := { stood := { row := octetOrderRow, standIns := [], harness := (true, "c43af4a390fb47e1a1e51dc729d8eb2d209f3f90568ddc6f8dc09e1b0d275f91"), looks := false }, kinds := [], alts := [], laidByText := true, laidKinds := [.data, .pinned], laidTests := true, laidLooks := .later }
def OctetOrderCardSaid : Prop := Claim7.holds Tryd.pinned (.plain (OpenSpec.ofChange octetOrderSpec)) octetOrderCard

/-- THE TIED CARD OF 'sealskinlaw02.OctetNumbers'. -/
def octetNumbersCard : Claim7 := { stood := { row := octetNumbersRow, standIns := [], harness := (true, "c43af4a390fb47e1a1e51dc729d8eb2d209f3f90568ddc6f8dc09e1b0d275f91"), looks := false }, kinds := [], alts := [], laidByText := true, laidKinds := [.data, .pinned], laidTests := true, laidLooks := .later }
def OctetNumbersCardSaid : Prop := Claim7.holds Tryd.pinned (.plain (OpenSpec.ofChange octetNumbersSpec)) octetNumbersCard

/-- THE TIED CARD OF 'sealskinlaw02.OctetBlocks'. -/
def octetBlocksCard : Claim7 := { stood := { row := octetBlocksRow, standIns := [], harness := (true, "c43af4a390fb47e1a1e51dc729d8eb2d209f3f90568ddc6f8dc09e1b0d275f91"), looks := false }, kinds := [], alts := [], laidByText := true, laidKinds := [.data, .pinned], laidTests := true, laidLooks := .later }
def OctetBlocksCardSaid : Prop := Claim7.holds Tryd.pinned (.plain (OpenSpec.ofChange octetBlocksSpec)) octetBlocksCard

/-- THE TIED CARD OF 'sealskinlaw02.OctetNobody'. -/
def octetNobodyCard : Claim7 := { stood := { row := octetNobodyRow, standIns := [], harness := (true, "c43af4a390fb47e1a1e51dc729d8eb2d209f3f90568ddc6f8dc09e1b0d275f91"), looks := false }, kinds := [], alts := [], laidByText := true, laidKinds := [.data, .pinned], laidTests := true, laidLooks := .later }
def OctetNobodyCardSaid : Prop := Claim7.holds Tryd.pinned (.plain (OpenSpec.ofChange octetNobodySpec)) octetNobodyCard

/-- THE TIED CARD OF 'sealskinlaw02.OctetReads'. -/
def octetReadsCard : Claim7 := { stood := { row := octetReadsRow, standIns := [], harness := (true, "c43af4a390fb47e1a1e51dc729d8eb2d209f3f90568ddc6f8dc09e1b0d275f91"), looks := false }, kinds := [], alts := [], laidByText := true, laidKinds := [.data, .pinned], laidTests := true, laidLooks := .later }
def OctetReadsCardSaid : Prop := Claim7.holds Tryd.pinned (.plain (OpenSpec.ofChange octetReadsSpec)) octetReadsCard

/-- THE TIED CARD OF 'sealskinlaw02.OctetOpens'. -/
def octetOpensCard : Claim7 := { stood := { row := octetOpensRow, standIns := [], harness := (true, "c43af4a390fb47e1a1e51dc729d8eb2d209f3f90568ddc6f8dc09e1b0d275f91"), looks := false }, kinds := [], alts := [], laidByText := true, laidKinds := [.data, .pinned], laidTests := true, laidLooks := .later }
def OctetOpensCardSaid : Prop := Claim7.holds Tryd.pinned (.plain (OpenSpec.ofChange octetOpensSpec)) octetOpensCard

/-- THE TIED CARD OF 'sealskinlaw02.OctetTexts'. -/
def octetTextsCard : Claim7 := { stood := { row := octetTextsRow, standIns := [], harness := (true, "c43af4a390fb47e1a1e51dc729d8eb2d209f3f90568ddc6f8dc09e1b0d275f91"), looks := false }, kinds := [], alts := [], laidByText := true, laidKinds := [.data, .pinned], laidTests := true, laidLooks := .later }
def OctetTextsCardSaid : Prop := Claim7.holds Tryd.pinned (.plain (OpenSpec.ofChange octetTextsSpec)) octetTextsCard

/-- THE SECOND FORM's CARD OF 'sealskinlaw02.OctetBack'. -/
def octetBackUptoCard : Claim7 := { stood := { row := octetBackUptoRow, standIns := [], harness := (true, "c43af4a390fb47e1a1e51dc729d8eb2d209f3f90568ddc6f8dc09e1b0d275f91"), looks := false }, kinds := [], alts := [], laidByText := true, laidKinds := [.data, .pinned], laidTests := true, laidLooks := .later }
def OctetBackUptoCardSaid : Prop := Claim7.holds Tryd.pinned (.plain (OpenSpec.upto octetBackSpec)) octetBackUptoCard

/-- THE SECOND FORM's CARD OF 'sealskinlaw02.OctetTurned'. -/
def octetTurnedUptoCard : Claim7 := { stood := { row := octetTurnedUptoRow, standIns := [], harness := (true, "c43af4a390fb47e1a1e51dc729d8eb2d209f3f90568ddc6f8dc09e1b0d275f91"), looks := false }, kinds := [], alts := [], laidByText := true, laidKinds := [.data, .pinned], laidTests := true, laidLooks := .later }
def OctetTurnedUptoCardSaid : Prop := Claim7.holds Tryd.pinned (.plain (OpenSpec.upto octetTurnedSpec)) octetTurnedUptoCard

/-- THE SECOND FORM's CARD OF 'sealskinlaw02.OctetCut'. -/
def octetCutUptoCard : Claim7 := { stood := { row := octetCutUptoRow, standIns := [], harness := (true, "c43af4a390fb47e1a1e51dc729d8eb2d209f3f90568ddc6f8dc09e1b0d275f91"), looks := false }, kinds := [], alts := [], laidByText := true, laidKinds := [.data, .pinned], laidTests := true, laidLooks := .later }
def OctetCutUptoCardSaid : Prop := Claim7.holds Tryd.pinned (.plain (OpenSpec.upto octetCutSpec)) octetCutUptoCard

/-- THE SECOND FORM's CARD OF 'sealskinlaw02.OctetForm'. -/
def octetFormUptoCard : Claim7 := { stood := { row := octetFormUptoRow, standIns := [], harness := (true, "c43af4a390fb47e1a1e51dc729d8eb2d209f3f90568ddc6f8dc09e1b0d275f91"), looks := false }, kinds := [], alts := [], laidByText := true, laidKinds := [.data, .pinned], laidTests := true, laidLooks := .later }
def OctetFormUptoCardSaid : Prop := Claim7.holds Tryd.pinned (.plain (OpenSpec.upto octetFormSpec)) octetFormUptoCard

/-- THE SECOND FORM's CARD OF 'sealskinlaw02.OctetOrder'. -/
def octetOrderUptoCard : Claim7 := { stood := { row := octetOrderUptoRow, standIns := [], harness := (true, "c43af4a390fb47e1a1e51dc729d8eb2d209f3f90568ddc6f8dc09e1b0d275f91"), looks := false }, kinds := [], alts := [], laidByText := true, laidKinds := [.data, .pinned], laidTests := true, laidLooks := .later }
def OctetOrderUptoCardSaid : Prop := Claim7.holds Tryd.pinned (.plain (OpenSpec.upto octetOrderSpec)) octetOrderUptoCard

/-- THE SECOND FORM's CARD OF 'sealskinlaw02.OctetNumbers'. -/
def octetNumbersUptoCard : Claim7 := { stood := { row := octetNumbersUptoRow, standIns := [], harness := (true, "c43af4a390fb47e1a1e51dc729d8eb2d209f3f90568ddc6f8dc09e1b0d275f91"), looks := false }, kinds := [], alts := [], laidByText := true, laidKinds := [.data, .pinned], laidTests := true, laidLooks := .later }
def OctetNumbersUptoCardSaid : Prop := Claim7.holds Tryd.pinned (.plain (OpenSpec.upto octetNumbersSpec)) octetNumbersUptoCard

/-- THE SECOND FORM's CARD OF 'sealskinlaw02.OctetBlocks'. -/
def octetBlocksUptoCard : Claim7 := { stood := { row := octetBlocksUptoRow, standIns := [], harness := (true, "c43af4a390fb47e1a1e51dc729d8eb2d209f3f90568ddc6f8dc09e1b0d275f91"), looks := false }, kinds := [], alts := [], laidByText := true, laidKinds := [.data, .pinned], laidTests := true, laidLooks := .later }
def OctetBlocksUptoCardSaid : Prop := Claim7.holds Tryd.pinned (.plain (OpenSpec.upto octetBlocksSpec)) octetBlocksUptoCard

/-- THE SECOND FORM's CARD OF 'sealskinlaw02.OctetNobody'. -/
def octetNobodyUptoCard : Claim7 := { stood := { row := octetNobodyUptoRow, standIns := [], harness := (true, "c43af4a390fb47e1a1e51dc729d8eb2d209f3f90568ddc6f8dc09e1b0d275f91"), looks := false }, kinds := [], alts := [], laidByText := true, laidKinds := [.data, .pinned], laidTests := true, laidLooks := .later }
def OctetNobodyUptoCardSaid : Prop := Claim7.holds Tryd.pinned (.plain (OpenSpec.upto octetNobodySpec)) octetNobodyUptoCard

/-- THE SECOND FORM's CARD OF 'sealskinlaw02.OctetReads'. -/
def octetReadsUptoCard : Claim7 := { stood := { row := octetReadsUptoRow, standIns := [], harness := (true, "c43af4a390fb47e1a1e51dc729d8eb2d209f3f90568ddc6f8dc09e1b0d275f91"), looks := false }, kinds := [], alts := [], laidByText := true, laidKinds := [.data, .pinned], laidTests := true, laidLooks := .later }
def OctetReadsUptoCardSaid : Prop := Claim7.holds Tryd.pinned (.plain (OpenSpec.upto octetReadsSpec)) octetReadsUptoCard

/-- THE SECOND FORM's CARD OF 'sealskinlaw02.OctetOpens'. -/
def octetOpensUptoCard : Claim7 := { stood := { row := octetOpensUptoRow, standIns := [], harness := (true, "c43af4a390fb47e1a1e51dc729d8eb2d209f3f90568ddc6f8dc09e1b0d275f91"), looks := false }, kinds := [], alts := [], laidByText := true, laidKinds := [.data, .pinned], laidTests := true, laidLooks := .later }
def OctetOpensUptoCardSaid : Prop := Claim7.holds Tryd.pinned (.plain (OpenSpec.upto octetOpensSpec)) octetOpensUptoCard

/-- THE SECOND FORM's CARD OF 'sealskinlaw02.OctetTexts'. -/
def octetTextsUptoCard : Claim7 := { stood := { row := octetTextsUptoRow, standIns := [], harness := (true, "c43af4a390fb47e1a1e51dc729d8eb2d209f3f90568ddc6f8dc09e1b0d275f91"), looks := false }, kinds := [], alts := [], laidByText := true, laidKinds := [.data, .pinned], laidTests := true, laidLooks := .later }
def OctetTextsUptoCardSaid : Prop := Claim7.holds Tryd.pinned (.plain (OpenSpec.upto octetTextsSpec)) octetTextsUptoCard
end Rows
end Go.Proofs.YtdnpdljnjoegiaaDoor

/-
  DERIVED. GIVEN WITH THE SEED: THE CARDS: each row of YtghfohhekhedaaaDoorRows.lean that lists a variable, with what it lists TIED to the program's text (the seventh form; the later family's looks); each row that meets fmt, with fmt's text TOLD by the authors' own Lean function (tested against real Go, not proved from fmt's source: count such statements apart). THE CARD IS WHAT COUNTS. Prove the row's statement (the work); the ties are given (YtghfohhekhedaaaDoorTie.lean); close each card by the builder's one call (the guide's Derived/Test/ToyasCard.lean, 'card_holds'). Laid BY PROGRAM, IN A SANDBOX (cutbox-door.mjs). By AI agents, Wed Nov 11 2026. No macro, syntax, notation, axiom, sorry.
-/
import Derived.Test.YtghfohhekhedaaaDoorRows
import GoSem.ClaimSeven
namespace Go.Proofs.YtghfohhekhedaaaDoor
namespace Rows

/-- THE TIED CARD OF 'sealskinlaw07.HashMore'. -/
def hashMoreCard : Claim7 := { stood := { row := hashMoreRow, standIns := [], harness := (true, "8ec51f90b1b969f85f1b1cd88c6eae373ec0be4680f71d50f984fbd22eed8f00"), looks := false }, kinds := [], alts := [], laidByText := true, laidKinds := [.data], laidTests := true, laidLooks := .later }
def HashMoreCardSaid : Prop := Claim7.holds Tryd.pinned (.plain (OpenSpec.ofChange hashMoreSpec)) hashMoreCard

/-- THE TIED CARD OF 'sealskinlaw07.HashNobody'. -/
def hashNobodyCard : Claim7 := { stood := { row := hashNobodyRow, standIns := [], harness := (true, "8ec51f90b1b969f85f1b1cd88c6eae373ec0be4680f71d50f984fbd22eed8f00"), looks := false }, kinds := [], alts := [], laidByText := true, laidKinds := [.data], laidTests := true, laidLooks := .later }
def HashNobodyCardSaid : Prop := Claim7.holds Tryd.pinned (.plain (OpenSpec.ofChange hashNobodySpec)) hashNobodyCard

/-- THE TIED CARD OF 'sealskinlaw07.HashKept'. -/
def hashKeptCard : Claim7 := { stood := { row := hashKeptRow, standIns := [], harness := (true, "8ec51f90b1b969f85f1b1cd88c6eae373ec0be4680f71d50f984fbd22eed8f00"), looks := false }, kinds := [], alts := [], laidByText := true, laidKinds := [.data], laidTests := true, laidLooks := .later }
def HashKeptCardSaid : Prop := Claim7.holds Tryd.pinned (.plain (OpenSpec.ofChange hashKeptSpec)) hashKeptCard

/-- THE TIED CARD OF 'sealskinlaw07.HashDigests'. -/
def hashDigestsCard : Claim7 := { stood := { row := hashDigestsRow, standIns := [], harness := (true, "8ec51f90b1b969f85f1b1cd88c6eae373ec0be4680f71d50f984fbd22eed8f00"), looks := false }, kinds := [], alts := [], laidByText := true, laidKinds := [.data], laidTests := true, laidLooks := .later }
def HashDigestsCardSaid : Prop := Claim7.holds Tryd.pinned (.plain (OpenSpec.ofChange hashDigestsSpec)) hashDigestsCard

/-- THE TIED CARD OF 'sealskinlaw07.HashKeyed'. -/
def hashKeyedCard : Claim7 := { stood := { row := hashKeyedRow, standIns := [], harness := (true, "8ec51f90b1b969f85f1b1cd88c6eae373ec0be4680f71d50f984fbd22eed8f00"), looks := false }, kinds := [], alts := [], laidByText := true, laidKinds := [.data], laidTests := true, laidLooks := .later }
def HashKeyedCardSaid : Prop := Claim7.holds Tryd.pinned (.plain (OpenSpec.ofChange hashKeyedSpec)) hashKeyedCard

/-- THE TIED CARD OF 'sealskinlaw07.HashEquals'. -/
def hashEqualsCard : Claim7 := { stood := { row := hashEqualsRow, standIns := [], harness := (true, "8ec51f90b1b969f85f1b1cd88c6eae373ec0be4680f71d50f984fbd22eed8f00"), looks := false }, kinds := [], alts := [], laidByText := true, laidKinds := [.data], laidTests := true, laidLooks := .later }
def HashEqualsCardSaid : Prop := Claim7.holds Tryd.pinned (.plain (OpenSpec.ofChange hashEqualsSpec)) hashEqualsCard

/-- THE TIED CARD OF 'sealskinlaw07.HashKeys'. -/
def hashKeysCard : Claim7 := { stood := { row := hashKeysRow, standIns := [], harness := (true, "8ec51f90b1b969f85f1b1cd88c6eae373ec0be4680f71d50f984fbd22eed8f00"), looks := false }, kinds := [], alts := [], laidByText := true, laidKinds := [.data], laidTests := true, laidLooks := .later }
def HashKeysCardSaid : Prop := Claim7.holds Tryd.pinned (.plain (OpenSpec.ofChange hashKeysSpec)) hashKeysCard

/-- THE TIED CARD OF 'sealskinlaw07.HashFronts'. -/
def hashFrontsCard : Claim7 := { stood := { row := hashFrontsRow, standIns := [], harness := (true, "8ec51f90b1b969f85f1b1cd88c6eae373ec0be4680f71d50f984fbd22eed8f00"), looks := false }, kinds := [], alts := [], laidByText := true, laidKinds := [.data], laidTests := true, laidLooks := .later }
def HashFrontsCardSaid : Prop := Claim7.holds Tryd.pinned (.plain (OpenSpec.ofChange hashFrontsSpec)) hashFrontsCard

/-- THE TIED CARD OF 'sealskinlaw07.HashPieces'. -/
def hashPiecesCard : Claim7 := { stood := { row := hashPiecesRow, standIns := [], harness := (true, "8ec51f90b1b969f85f1b1cd88c6eae373ec0be4680f71d50f984fbd22eed8f00"), looks := false }, kinds := [], alts := [], laidByText := true, laidKinds := [.data], laidTests := true, laidLooks := .later }
def HashPiecesCardSaid : Prop := Claim7.holds Tryd.pinned (.plain (OpenSpec.ofChange hashPiecesSpec)) hashPiecesCard

/-- THE SECOND FORM's CARD OF 'sealskinlaw07.HashMore'. -/
def hashMoreUptoCard : Claim7 := { stood := { row := hashMoreUptoRow, standIns := [], harness := (true, "8ec51f90b1b969f85f1b1cd88c6eae373ec0be4680f71d50f984fbd22eed8f00"), looks := false }, kinds := [], alts := [], laidByText := true, laidKinds := [.data], laidTests := true, laidLooks := .later }
def HashMoreUptoCardSaid : Prop := Claim7.holds Tryd.pinned (.plain (OpenSpec.upto hashMoreSpec)) hashMoreUptoCard

/-- THE SECOND FORM's CARD OF 'sealskinlaw07.HashNobody'. -/
def hashNobodyUptoCard : Claim7 := { stood := { row := hashNobodyUptoRow, standIns := [], harness := (true, "8ec51f90b1b969f85f1b1cd88c6eae373ec0be4680f71d50f984fbd22eed8f00"), looks := false }, kinds := [], alts := [], laidByText := true, laidKinds := [.data], laidTests := true, laidLooks := .later }
def HashNobodyUptoCardSaid : Prop := Claim7.holds Tryd.pinned (.plain (OpenSpec.upto hashNobodySpec)) hashNobodyUptoCard

/-- THE SECOND FORM's CARD OF 'sealskinlaw07.HashKept'. -/
def hashKeptUptoCard : Claim7 := { stood := { row := hashKeptUptoRow, standIns := [], harness := (true, "8ec51f90b1b969f85f1b1cd88c6eae373ec0be4680f71d50f984fbd22eed8f00"), looks := false }, kinds := [], alts := [], laidByText := true, laidKinds := [.data], laidTests := true, laidLooks := .later }
def HashKeptUptoCardSaid : Prop := Claim7.holds Tryd.pinned (.plain (OpenSpec.upto hashKeptSpec)) hashKeptUptoCard

/-- THE SECOND FORM's CARD OF 'sealskinlaw07.HashDigests'. -/
def hashDigestsUptoCard : Claim7 := { stood := { row := hashDigestsUptoRow, standIns := [], harness := (true, "8ec51f90b1b969f85f1b1cd88c6eae373ec0be4680f71d50f984fbd22eed8f00"), looks := false }, kinds := [], alts := [], laidByText := true, laidKinds := [.data], laidTests := true, laidLooks := .later }
def HashDigestsUptoCardSaid : Prop := Claim7.holds Tryd.pinned (.plain (OpenSpec.upto hashDigestsSpec)) hashDigestsUptoCard

/-- THE SECOND FORM's CARD OF 'sealskinlaw07.HashKeyed'. -/
def hashKeyedUptoCard : Claim7 := { stood := { row := hashKeyedUptoRow, standIns := [], harness := (true, "8ec51f90b1b969f85f1b1cd88c6eae373ec0be4680f71d50f984fbd22eed8f00"), looks := false }, kinds := [], alts := [], laidByText := true, laidKinds := [.data], laidTests := true, laidLooks := .later }
def HashKeyedUptoCardSaid : Prop := Claim7.holds Tryd.pinned (.plain (OpenSpec.upto hashKeyedSpec)) hashKeyedUptoCard

/-- THE SECOND FORM's CARD OF 'sealskinlaw07.HashEquals'. -/
def hashEqualsUptoCard : Claim7 := { stood := { row := hashEqualsUptoRow, standIns := [], harness := (true, "8ec51f90b1b969f85f1b1cd88c6eae373ec0be4680f71d50f984fbd22eed8f00"), looks := false }, kinds := [], alts := [], laidByText := true, laidKinds := [.data], laidTests := true, laidLooks := .later }
def HashEqualsUptoCardSaid : Prop := Claim7.holds Tryd.pinned (.plain (OpenSpec.upto hashEqualsSpec)) hashEqualsUptoCard

/-- THE SECOND FORM's CARD OF 'sealskinlaw07.HashKeys'. -/
def hashKeysUptoCard : Claim7 := { stood := { row := hashKeysUptoRow, standIns := [], harness := (true, "8ec51f90b1b969f85f1b1cd88c6eae373ec0be4680f71d50f984fbd22eed8f00"), looks := false }, kinds := [], alts := [], laidByText := true, laidKinds := [.data], laidTests := true, laidLooks := .later }
def HashKeysUptoCardSaid : Prop := Claim7.holds Tryd.pinned (.plain (OpenSpec.upto hashKeysSpec)) hashKeysUptoCard

/-- THE SECOND FORM's CARD OF 'sealskinlaw07.HashFronts'. -/
def hashFrontsUptoCard : Claim7 := { stood := { row := hashFrontsUptoRow, standIns := [], harness := (true, "8ec51f90b1b969f85f1b1cd88c6eae373ec0be4680f71d50f984fbd22eed8f00"), looks := false }, kinds := [], alts := [], laidByText := true, laidKinds := [.data], laidTests := true, laidLooks := .later }
def HashFrontsUptoCardSaid : Prop := Claim7.holds Tryd.pinned (.plain (OpenSpec.upto hashFrontsSpec)) hashFrontsUptoCard

/-- THE SECOND FORM's CARD OF 'sealskinlaw07.HashPieces'. -/
def hashPiecesUptoCard : Claim7 := { stood := { row := hashPiecesUptoRow, standIns := [], harness := (true, "8ec51f90b1b969f85f1b1cd88c6eae373ec0be4680f71d50f984fbd22eed8f00"), looks := false }, kinds := [], alts := [], laidByText := true, laidKinds := [.data], laidTests := true, laidLooks := .later }
def HashPiecesUptoCardSaid : Prop := Claim7.holds Tryd.pinned (.plain (OpenSpec.upto hashPiecesSpec)) hashPiecesUptoCard
end Rows
end Go.Proofs.YtghfohhekhedaaaDoor

/-
  DERIVED. GIVEN WITH THE SEED: THE CARDS: each row of YtbjmngacjdcddaaDoorRows.lean that lists a variable, with what it lists TIED to the program's text (the seventh form; the later family's looks); each row that meets fmt, with fmt's text TOLD by the authors' own Lean function (tested against real Go, not proved from fmt's source: count such statements apart). THE CARD IS WHAT COUNTS. Prove the row's statement (the work); the ties are given (YtbjmngacjdcddaaDoorTie.lean); close each card by the builder's one call (the guide's Derived/Test/ToyasCard.lean, 'card_holds'). Laid BY PROGRAM, IN A SANDBOX (cutbox-door.mjs). By AI agents, Wed Nov 11 2026. No macro, syntax, notation, axiom, sorry.
-/
import Derived.Test.YtbjmngacjdcddaaDoorRows
import GoSem.ClaimSeven
namespace Go.Proofs.YtbjmngacjdcddaaDoor
namespace Rows

/-- THE TIED CARD OF 'sealskinlaw13.FrameChecks'. -/
def frameChecksCard : Claim7 := { stood := { row := frameChecksRow, standIns := [], harness := (true, "e684fa433441b4646b8869ce87bb26fc916e73270a5a50f58d3c89a4a1846f2a"), looks := false }, kinds := [], alts := [], laidByText := true, laidKinds := [.data, .data, .pinned], laidTests := true, laidLooks := .later }
def FrameChecksCardSaid : Prop := Claim7.holds Tryd.pinned (.plain (OpenSpec.ofChange frameChecksSpec)) frameChecksCard

/-- THE TIED CARD OF 'sealskinlaw13.FrameOpens'. -/
def frameOpensCard : Claim7 := { stood := { row := frameOpensRow, standIns := [], harness := (true, "e684fa433441b4646b8869ce87bb26fc916e73270a5a50f58d3c89a4a1846f2a"), looks := false }, kinds := [], alts := [], laidByText := true, laidKinds := [.data, .data, .pinned], laidTests := true, laidLooks := .later }
def FrameOpensCardSaid : Prop := Claim7.holds Tryd.pinned (.plain (OpenSpec.ofChange frameOpensSpec)) frameOpensCard

/-- THE TIED CARD OF 'sealskinlaw13.FrameSmall'. -/
def frameSmallCard : Claim7 := { stood := { row := frameSmallRow, standIns := [], harness := (true, "e684fa433441b4646b8869ce87bb26fc916e73270a5a50f58d3c89a4a1846f2a"), looks := false }, kinds := [], alts := [], laidByText := true, laidKinds := [.data, .data, .pinned], laidTests := true, laidLooks := .later }
def FrameSmallCardSaid : Prop := Claim7.holds Tryd.pinned (.plain (OpenSpec.ofChange frameSmallSpec)) frameSmallCard

/-- THE TIED CARD OF 'sealskinlaw13.FramePuts'. -/
def framePutsCard : Claim7 := { stood := { row := framePutsRow, standIns := [], harness := (true, "e684fa433441b4646b8869ce87bb26fc916e73270a5a50f58d3c89a4a1846f2a"), looks := false }, kinds := [], alts := [], laidByText := true, laidKinds := [.data, .data, .pinned], laidTests := true, laidLooks := .later }
def FramePutsCardSaid : Prop := Claim7.holds Tryd.pinned (.plain (OpenSpec.ofChange framePutsSpec)) framePutsCard

/-- THE TIED CARD OF 'sealskinlaw13.FrameKeys'. -/
def frameKeysCard : Claim7 := { stood := { row := frameKeysRow, standIns := [], harness := (true, "e684fa433441b4646b8869ce87bb26fc916e73270a5a50f58d3c89a4a1846f2a"), looks := false }, kinds := [], alts := [], laidByText := true, laidKinds := [.data, .data, .pinned], laidTests := true, laidLooks := .later }
def FrameKeysCardSaid : Prop := Claim7.holds Tryd.pinned (.plain (OpenSpec.ofChange frameKeysSpec)) frameKeysCard

/-- THE TIED CARD OF 'sealskinlaw13.FrameWraps'. -/
def frameWrapsCard : Claim7 := { stood := { row := frameWrapsRow, standIns := [], harness := (true, "e684fa433441b4646b8869ce87bb26fc916e73270a5a50f58d3c89a4a1846f2a"), looks := false }, kinds := [], alts := [], laidByText := true, laidKinds := [.data, .data, .pinned], laidTests := true, laidLooks := .later }
def FrameWrapsCardSaid : Prop := Claim7.holds Tryd.pinned (.plain (OpenSpec.ofChange frameWrapsSpec)) frameWrapsCard

/-- THE TIED CARD OF 'sealskinlaw13.FrameTrip'. -/
def frameTripCard : Claim7 := { stood := { row := frameTripRow, standIns := [], harness := (true, "e684fa433441b4646b8869ce87bb26fc916e73270a5a50f58d3c89a4a1846f2a"), looks := false }, kinds := [], alts := [], laidByText := true, laidKinds := [.data, .data, .pinned], laidTests := true, laidLooks := .later }
def FrameTripCardSaid : Prop := Claim7.holds Tryd.pinned (.plain (OpenSpec.ofChange frameTripSpec)) frameTripCard

/-- THE TIED CARD OF 'sealskinlaw13.FrameBack'. -/
def frameBackCard : Claim7 := { stood := { row := frameBackRow, standIns := [], harness := (true, "e684fa433441b4646b8869ce87bb26fc916e73270a5a50f58d3c89a4a1846f2a"), looks := false }, kinds := [], alts := [], laidByText := true, laidKinds := [.data, .data, .pinned], laidTests := true, laidLooks := .later }
def FrameBackCardSaid : Prop := Claim7.holds Tryd.pinned (.plain (OpenSpec.ofChange frameBackSpec)) frameBackCard

/-- THE TIED CARD OF 'sealskinlaw13.FrameGets'. -/
def frameGetsCard : Claim7 := { stood := { row := frameGetsRow, standIns := [], harness := (true, "e684fa433441b4646b8869ce87bb26fc916e73270a5a50f58d3c89a4a1846f2a"), looks := false }, kinds := [], alts := [], laidByText := true, laidKinds := [.data, .data, .pinned], laidTests := true, laidLooks := .later }
def FrameGetsCardSaid : Prop := Claim7.holds Tryd.pinned (.plain (OpenSpec.ofChange frameGetsSpec)) frameGetsCard

/-- THE SECOND FORM's CARD OF 'sealskinlaw13.FrameChecks'. -/
def frameChecksUptoCard : Claim7 := { stood := { row := frameChecksUptoRow, standIns := [], harness := (true, "e684fa433441b4646b8869ce87bb26fc916e73270a5a50f58d3c89a4a1846f2a"), looks := false }, kinds := [], alts := [], laidByText := true, laidKinds := [.data, .data, .pinned], laidTests := true, laidLooks := .later }
def FrameChecksUptoCardSaid : Prop := Claim7.holds Tryd.pinned (.plain (OpenSpec.upto frameChecksSpec)) frameChecksUptoCard

/-- THE SECOND FORM's CARD OF 'sealskinlaw13.FrameOpens'. -/
def frameOpensUptoCard : Claim7 := { stood := { row := frameOpensUptoRow, standIns := [], harness := (true, "e684fa433441b4646b8869ce87bb26fc916e73270a5a50f58d3c89a4a1846f2a"), looks := false }, kinds := [], alts := [], laidByText := true, laidKinds := [.data, .data, .pinned], laidTests := true, laidLooks := .later }
def FrameOpensUptoCardSaid : Prop := Claim7.holds Tryd.pinned (.plain (OpenSpec.upto frameOpensSpec)) frameOpensUptoCard

/-- THE SECOND FORM's CARD OF 'sealskinlaw13.FrameSmall'. -/
def frameSmallUptoCard : Claim7 := { stood := { row := frameSmallUptoRow, standIns := [], harness := (true, "e684fa433441b4646b8869ce87bb26fc916e73270a5a50f58d3c89a4a1846f2a"), looks := false }, kinds := [], alts := [], laidByText := true, laidKinds := [.data, .data, .pinned], laidTests := true, laidLooks := .later }
def FrameSmallUptoCardSaid : Prop := Claim7.holds Tryd.pinned (.plain (OpenSpec.upto frameSmallSpec)) frameSmallUptoCard

/-- THE SECOND FORM's CARD OF 'sealskinlaw13.FramePuts'. -/
def framePutsUptoCard : Claim7 := { stood := { row := framePutsUptoRow, standIns := [], harness := (true, "e684fa433441b4646b8869ce87bb26fc916e73270a5a50f58d3c89a4a1846f2a"), looks := false }, kinds := [], alts := [], laidByText := true, laidKinds := [.data, .data, .pinned], laidTests := true, laidLooks := .later }
def FramePutsUptoCardSaid : Prop := Claim7.holds Tryd.pinned (.plain (OpenSpec.upto framePutsSpec)) framePutsUptoCard

/-- THE SECOND FORM's CARD OF 'sealskinlaw13.FrameKeys'. -/
def frameKeysUptoCard : Claim7 := { stood := { row := frameKeysUptoRow, standIns := [], harness := (true, "e684fa433441b4646b8869ce87bb26fc916e73270a5a50f58d3c89a4a1846f2a"), looks := false }, kinds := [], alts := [], laidByText := true, laidKinds := [.data, .data, .pinned], laidTests := true, laidLooks := .later }
def FrameKeysUptoCardSaid : Prop := Claim7.holds Tryd.pinned (.plain (OpenSpec.upto frameKeysSpec)) frameKeysUptoCard

/-- THE SECOND FORM's CARD OF 'sealskinlaw13.FrameWraps'. -/
def frameWrapsUptoCard : Claim7 := { stood := { row := frameWrapsUptoRow, standIns := [], harness := (true, "e684fa433441b4646b8869ce87bb26fc916e73270a5a50f58d3c89a4a1846f2a"), looks := false }, kinds := [], alts := [], laidByText := true, laidKinds := [.data, .data, .pinned], laidTests := true, laidLooks := .later }
def FrameWrapsUptoCardSaid : Prop := Claim7.holds Tryd.pinned (.plain (OpenSpec.upto frameWrapsSpec)) frameWrapsUptoCard

/-- THE SECOND FORM's CARD OF 'sealskinlaw13.FrameTrip'. -/
def frameTripUptoCard : Claim7 := { stood := { row := frameTripUptoRow, standIns := [], harness := (true, "e684fa433441b4646b8869ce87bb26fc916e73270a5a50f58d3c89a4a1846f2a"), looks := false }, kinds := [], alts := [], laidByText := true, laidKinds := [.data, .data, .pinned], laidTests := true, laidLooks := .later }
def FrameTripUptoCardSaid : Prop := Claim7.holds Tryd.pinned (.plain (OpenSpec.upto frameTripSpec)) frameTripUptoCard

/-- THE SECOND FORM's CARD OF 'sealskinlaw13.FrameBack'. -/
def frameBackUptoCard : Claim7 := { stood := { row := frameBackUptoRow, standIns := [], harness := (true, "e684fa433441b4646b8869ce87bb26fc916e73270a5a50f58d3c89a4a1846f2a"), looks := false }, kinds := [], alts := [], laidByText := true, laidKinds := [.data, .data, .pinned], laidTests := true, laidLooks := .later }
def FrameBackUptoCardSaid : Prop := Claim7.holds Tryd.pinned (.plain (OpenSpec.upto frameBackSpec)) frameBackUptoCard

/-- THE SECOND FORM's CARD OF 'sealskinlaw13.FrameGets'. -/
def frameGetsUptoCard : Claim7 := { stood := { row := frameGetsUptoRow, standIns := [], harness := (true, "e684fa433441b4646b8869ce87bb26fc916e73270a5a50f58d3c89a4a1846f2a"), looks := false }, kinds := [], alts := [], laidByText := true, laidKinds := [.data, .data, .pinned], laidTests := true, laidLooks := .later }
def FrameGetsUptoCardSaid : Prop := Claim7.holds Tryd.pinned (.plain (OpenSpec.upto frameGetsSpec)) frameGetsUptoCard
end Rows
end Go.Proofs.YtbjmngacjdcddaaDoor

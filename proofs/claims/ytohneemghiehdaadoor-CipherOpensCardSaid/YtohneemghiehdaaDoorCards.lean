/-
  DERIVED. GIVEN WITH THE SEED: THE CARDS: each row of YtohneemghiehdaaDoorRows.lean that lists a variable, with what it lists TIED to the program's text (the seventh form; the later family's looks); each row that meets fmt, with fmt's text TOLD by the authors' own Lean function (tested against real Go, not proved from fmt's source: count such statements apart). THE CARD IS WHAT COUNTS. Prove the row's statement (the work); the ties are given (YtohneemghiehdaaDoorTie.lean); close each card by the builder's one call (the guide's Derived/Test/ToyasCard.lean, 'card_holds'). Laid BY PROGRAM, IN A SANDBOX (cutbox-door.mjs). By AI agents, Wed Nov 11 2026. No macro, syntax, notation, axiom, sorry.
-/
import Derived.Test.YtohneemghiehdaaDoorRows
import GoSem.ClaimSeven
namespace Go.Proofs.YtohneemghiehdaaDoor
namespace Rows

/-- THE TIED CARD OF 'sealskinlaw08.CipherBack'. -/
def cipherBackCard : Claim7 := { stood := { row := cipherBackRow, standIns := [], harness := (true, "cfbf1a88c08d37609abea1eb5966c193688483bdecf49e6ed73abe4ef56b38ad"), looks := false }, kinds := [], alts := [], laidByText := true, laidKinds := [.data], laidTests := true, laidLooks := .later }
def CipherBackCardSaid : Prop := Claim7.holds Tryd.pinned (.plain (OpenSpec.ofChange cipherBackSpec)) cipherBackCard

/-- THE TIED CARD OF 'sealskinlaw08.CipherForm'. -/
def cipherFormCard : Claim7 := { stood := { row := cipherFormRow, standIns := [], harness := (true, "cfbf1a88c08d37609abea1eb5966c193688483bdecf49e6ed73abe4ef56b38ad"), looks := false }, kinds := [], alts := [], laidByText := true, laidKinds := [.data], laidTests := true, laidLooks := .later }
def CipherFormCardSaid : Prop := Claim7.holds Tryd.pinned (.plain (OpenSpec.ofChange cipherFormSpec)) cipherFormCard

/-- THE TIED CARD OF 'sealskinlaw08.CipherTurns'. -/
def cipherTurnsCard : Claim7 := { stood := { row := cipherTurnsRow, standIns := [], harness := (true, "cfbf1a88c08d37609abea1eb5966c193688483bdecf49e6ed73abe4ef56b38ad"), looks := false }, kinds := [], alts := [], laidByText := true, laidKinds := [.data], laidTests := true, laidLooks := .later }
def CipherTurnsCardSaid : Prop := Claim7.holds Tryd.pinned (.plain (OpenSpec.ofChange cipherTurnsSpec)) cipherTurnsCard

/-- THE TIED CARD OF 'sealskinlaw08.CipherSeals'. -/
def cipherSealsCard : Claim7 := { stood := { row := cipherSealsRow, standIns := [], harness := (true, "cfbf1a88c08d37609abea1eb5966c193688483bdecf49e6ed73abe4ef56b38ad"), looks := false }, kinds := [], alts := [], laidByText := true, laidKinds := [.data], laidTests := true, laidLooks := .later }
def CipherSealsCardSaid : Prop := Claim7.holds Tryd.pinned (.plain (OpenSpec.ofChange cipherSealsSpec)) cipherSealsCard

/-- THE TIED CARD OF 'sealskinlaw08.CipherOpens'. -/
def cipherOpensCard : Claim7 := { stood := { row := cipherOpensRow, standIns := [], harness := (true, "cfbf1a88c08d37609abea1eb5966c193688483bdecf49e6ed73abe4ef56b38ad"), looks := false }, kinds := [], alts := [], laidByText := true, laidKinds := [.data], laidTests := true, laidLooks := .later }
def CipherOpensCardSaid : Prop := Claim7.holds Tryd.pinned (.plain (OpenSpec.ofChange cipherOpensSpec)) cipherOpensCard

/-- THE TIED CARD OF 'sealskinlaw08.CipherTells'. -/
def cipherTellsCard : Claim7 := { stood := { row := cipherTellsRow, standIns := [], harness := (true, "cfbf1a88c08d37609abea1eb5966c193688483bdecf49e6ed73abe4ef56b38ad"), looks := false }, kinds := [], alts := [], laidByText := true, laidKinds := [.data], laidTests := true, laidLooks := .later }
def CipherTellsCardSaid : Prop := Claim7.holds Tryd.pinned (.plain (OpenSpec.ofChange cipherTellsSpec)) cipherTellsCard

/-- THE TIED CARD OF 'sealskinlaw08.CipherFronts'. -/
def cipherFrontsCard : Claim7 := { stood := { row := cipherFrontsRow, standIns := [], harness := (true, "cfbf1a88c08d37609abea1eb5966c193688483bdecf49e6ed73abe4ef56b38ad"), looks := false }, kinds := [], alts := [], laidByText := true, laidKinds := [.data], laidTests := true, laidLooks := .later }
def CipherFrontsCardSaid : Prop := Claim7.holds Tryd.pinned (.plain (OpenSpec.ofChange cipherFrontsSpec)) cipherFrontsCard

/-- THE SECOND FORM's CARD OF 'sealskinlaw08.CipherBack'. -/
def cipherBackUptoCard : Claim7 := { stood := { row := cipherBackUptoRow, standIns := [], harness := (true, "cfbf1a88c08d37609abea1eb5966c193688483bdecf49e6ed73abe4ef56b38ad"), looks := false }, kinds := [], alts := [], laidByText := true, laidKinds := [.data], laidTests := true, laidLooks := .later }
def CipherBackUptoCardSaid : Prop := Claim7.holds Tryd.pinned (.plain (OpenSpec.upto cipherBackSpec)) cipherBackUptoCard

/-- THE SECOND FORM's CARD OF 'sealskinlaw08.CipherForm'. -/
def cipherFormUptoCard : Claim7 := { stood := { row := cipherFormUptoRow, standIns := [], harness := (true, "cfbf1a88c08d37609abea1eb5966c193688483bdecf49e6ed73abe4ef56b38ad"), looks := false }, kinds := [], alts := [], laidByText := true, laidKinds := [.data], laidTests := true, laidLooks := .later }
def CipherFormUptoCardSaid : Prop := Claim7.holds Tryd.pinned (.plain (OpenSpec.upto cipherFormSpec)) cipherFormUptoCard

/-- THE SECOND FORM's CARD OF 'sealskinlaw08.CipherTurns'. -/
def cipherTurnsUptoCard : Claim7 := { stood := { row := cipherTurnsUptoRow, standIns := [], harness := (true, "cfbf1a88c08d37609abea1eb5966c193688483bdecf49e6ed73abe4ef56b38ad"), looks := false }, kinds := [], alts := [], laidByText := true, laidKinds := [.data], laidTests := true, laidLooks := .later }
def CipherTurnsUptoCardSaid : Prop := Claim7.holds Tryd.pinned (.plain (OpenSpec.upto cipherTurnsSpec)) cipherTurnsUptoCard

/-- THE SECOND FORM's CARD OF 'sealskinlaw08.CipherSeals'. -/
def cipherSealsUptoCard : Claim7 := { stood := { row := cipherSealsUptoRow, standIns := [], harness := (true, "cfbf1a88c08d37609abea1eb5966c193688483bdecf49e6ed73abe4ef56b38ad"), looks := false }, kinds := [], alts := [], laidByText := true, laidKinds := [.data], laidTests := true, laidLooks := .later }
def CipherSealsUptoCardSaid : Prop := Claim7.holds Tryd.pinned (.plain (OpenSpec.upto cipherSealsSpec)) cipherSealsUptoCard

/-- THE SECOND FORM's CARD OF 'sealskinlaw08.CipherOpens'. -/
def cipherOpensUptoCard : Claim7 := { stood := { row := cipherOpensUptoRow, standIns := [], harness := (true, "cfbf1a88c08d37609abea1eb5966c193688483bdecf49e6ed73abe4ef56b38ad"), looks := false }, kinds := [], alts := [], laidByText := true, laidKinds := [.data], laidTests := true, laidLooks := .later }
def CipherOpensUptoCardSaid : Prop := Claim7.holds Tryd.pinned (.plain (OpenSpec.upto cipherOpensSpec)) cipherOpensUptoCard

/-- THE SECOND FORM's CARD OF 'sealskinlaw08.CipherTells'. -/
def cipherTellsUptoCard : Claim7 := { stood := { row := cipherTellsUptoRow, standIns := [], harness := (true, "cfbf1a88c08d37609abea1eb5966c193688483bdecf49e6ed73abe4ef56b38ad"), looks := false }, kinds := [], alts := [], laidByText := true, laidKinds := [.data], laidTests := true, laidLooks := .later }
def CipherTellsUptoCardSaid : Prop := Claim7.holds Tryd.pinned (.plain (OpenSpec.upto cipherTellsSpec)) cipherTellsUptoCard

/-- THE SECOND FORM's CARD OF 'sealskinlaw08.CipherFronts'. -/
def cipherFrontsUptoCard : Claim7 := { stood := { row := cipherFrontsUptoRow, standIns := [], harness := (true, "cfbf1a88c08d37609abea1eb5966c193688483bdecf49e6ed73abe4ef56b38ad"), looks := false }, kinds := [], alts := [], laidByText := true, laidKinds := [.data], laidTests := true, laidLooks := .later }
def CipherFrontsUptoCardSaid : Prop := Claim7.holds Tryd.pinned (.plain (OpenSpec.upto cipherFrontsSpec)) cipherFrontsUptoCard
end Rows
end Go.Proofs.YtohneemghiehdaaDoor

/-
  DERIVED. GIVEN WITH THE SEED: THE CARDS: each row of YtopnlkhepjbjkaaDoorRows.lean that lists a variable, with what it lists TIED to the program's text (the seventh form; the later family's looks); each row that meets fmt, with fmt's text TOLD by the authors' own Lean function (tested against real Go, not proved from fmt's source: count such statements apart). THE CARD IS WHAT COUNTS. Prove the row's statement (the work); the ties are given (YtopnlkhepjbjkaaDoorTie.lean); close each card by the builder's one call (the guide's Derived/Test/ToyasCard.lean, 'card_holds'). Laid BY PROGRAM, IN A SANDBOX (cutbox-door.mjs). By AI agents, Wed Nov 11 2026. No macro, syntax, notation, axiom, sorry.
-/
import Derived.Test.YtopnlkhepjbjkaaDoorRows
import GoSem.ClaimSeven
namespace Go.Proofs.YtopnlkhepjbjkaaDoor
namespace Rows

/-- THE TIED CARD OF 'vendmeterkeep.PocketForged'. -/
def pocketForgedCard : Claim7 := { stood := { row := pocketForgedRow, standIns := [], harness := (true, "3c33bdab0a72ecf5f8d10c0fc36a6ef3bac65f0ea50753bffc9885cb3dcbdc56"), looks := false }, kinds := [], alts := [], laidByText := true, laidKinds := [.data, .pinned], laidTests := true, laidLooks := .later }
def PocketForgedCardSaid : Prop := Claim7.holds Tryd.pinned (.plain (OpenSpec.ofChange pocketForgedSpec)) pocketForgedCard

/-- THE TIED CARD OF 'vendmeterkeep.PocketCut'. -/
def pocketCutCard : Claim7 := { stood := { row := pocketCutRow, standIns := [], harness := (true, "3c33bdab0a72ecf5f8d10c0fc36a6ef3bac65f0ea50753bffc9885cb3dcbdc56"), looks := false }, kinds := [], alts := [], laidByText := true, laidKinds := [.data, .pinned], laidTests := true, laidLooks := .later }
def PocketCutCardSaid : Prop := Claim7.holds Tryd.pinned (.plain (OpenSpec.ofChange pocketCutSpec)) pocketCutCard

/-- THE TIED CARD OF 'vendmeterkeep.PocketRetry'. -/
def pocketRetryCard : Claim7 := { stood := { row := pocketRetryRow, standIns := [], harness := (true, "3c33bdab0a72ecf5f8d10c0fc36a6ef3bac65f0ea50753bffc9885cb3dcbdc56"), looks := false }, kinds := [], alts := [], laidByText := true, laidKinds := [.data, .pinned], laidTests := true, laidLooks := .later }
def PocketRetryCardSaid : Prop := Claim7.holds Tryd.pinned (.plain (OpenSpec.ofChange pocketRetrySpec)) pocketRetryCard

/-- THE TIED CARD OF 'vendmeterkeep.PocketBurns'. -/
def pocketBurnsCard : Claim7 := { stood := { row := pocketBurnsRow, standIns := [], harness := (true, "3c33bdab0a72ecf5f8d10c0fc36a6ef3bac65f0ea50753bffc9885cb3dcbdc56"), looks := false }, kinds := [], alts := [], laidByText := true, laidKinds := [.data, .pinned], laidTests := true, laidLooks := .later }
def PocketBurnsCardSaid : Prop := Claim7.holds Tryd.pinned (.plain (OpenSpec.ofChange pocketBurnsSpec)) pocketBurnsCard

/-- THE SECOND FORM's CARD OF 'vendmeterkeep.PocketForged'. -/
def pocketForgedUptoCard : Claim7 := { stood := { row := pocketForgedUptoRow, standIns := [], harness := (true, "3c33bdab0a72ecf5f8d10c0fc36a6ef3bac65f0ea50753bffc9885cb3dcbdc56"), looks := false }, kinds := [], alts := [], laidByText := true, laidKinds := [.data, .pinned], laidTests := true, laidLooks := .later }
def PocketForgedUptoCardSaid : Prop := Claim7.holds Tryd.pinned (.plain (OpenSpec.upto pocketForgedSpec)) pocketForgedUptoCard

/-- THE SECOND FORM's CARD OF 'vendmeterkeep.PocketCut'. -/
def pocketCutUptoCard : Claim7 := { stood := { row := pocketCutUptoRow, standIns := [], harness := (true, "3c33bdab0a72ecf5f8d10c0fc36a6ef3bac65f0ea50753bffc9885cb3dcbdc56"), looks := false }, kinds := [], alts := [], laidByText := true, laidKinds := [.data, .pinned], laidTests := true, laidLooks := .later }
def PocketCutUptoCardSaid : Prop := Claim7.holds Tryd.pinned (.plain (OpenSpec.upto pocketCutSpec)) pocketCutUptoCard

/-- THE SECOND FORM's CARD OF 'vendmeterkeep.PocketRetry'. -/
def pocketRetryUptoCard : Claim7 := { stood := { row := pocketRetryUptoRow, standIns := [], harness := (true, "3c33bdab0a72ecf5f8d10c0fc36a6ef3bac65f0ea50753bffc9885cb3dcbdc56"), looks := false }, kinds := [], alts := [], laidByText := true, laidKinds := [.data, .pinned], laidTests := true, laidLooks := .later }
def PocketRetryUptoCardSaid : Prop := Claim7.holds Tryd.pinned (.plain (OpenSpec.upto pocketRetrySpec)) pocketRetryUptoCard

/-- THE SECOND FORM's CARD OF 'vendmeterkeep.PocketBurns'. -/
def pocketBurnsUptoCard : Claim7 := { stood := { row := pocketBurnsUptoRow, standIns := [], harness := (true, "3c33bdab0a72ecf5f8d10c0fc36a6ef3bac65f0ea50753bffc9885cb3dcbdc56"), looks := false }, kinds := [], alts := [], laidByText := true, laidKinds := [.data, .pinned], laidTests := true, laidLooks := .later }
def PocketBurnsUptoCardSaid : Prop := Claim7.holds Tryd.pinned (.plain (OpenSpec.upto pocketBurnsSpec)) pocketBurnsUptoCard
end Rows
end Go.Proofs.YtopnlkhepjbjkaaDoor

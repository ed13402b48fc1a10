/-
  DERIVED. GIVEN WITH THE SEED: THE CARDS: each row of YtpcgpnkmjjamhaaGreatDoorRows.lean that lists a variable, with what it lists TIED to the program's text (the seventh form; the later family's looks); each row that meets fmt, with fmt's text TOLD by the authors' own Lean function (tested against real Go, not proved from fmt's source: count such statements apart). THE CARD IS WHAT COUNTS. Prove the row's statement (the work); the ties are given (YtpcgpnkmjjamhaaGreatDoorTie.lean); close each card by the builder's one call (the guide's Derived/Test/ToyasCard.lean, 'card_holds'). Laid BY PROGRAM, IN A SANDBOX (cutbox-door.mjs). By AI agents, Wed Nov 11 2026. No macro, syntax, notation, axiom, sorry.
-/
import Derived.Test.YtpcgpnkmjjamhaaGreatDoorRows
import GoSem.ClaimSeven
namespace Go.Proofs.YtpcgpnkmjjamhaaGreatDoor
namespace Rows

/-- THE TIED CARD OF 'vendmeterkeep.VendPaper'. -/
def vendPaperCard : Claim7 := { stood := { row := vendPaperRow, standIns := [], harness := (true, "acf7c200c6498ae64f1b489c48452ec521d162c18618fddef275d12d4aa4bcb6"), looks := true }, kinds := [], alts := [], laidByText := true, laidKinds := [.data, .pinned], laidTests := true, laidLooks := .later }
def VendPaperCardSaid : Prop := Claim7.holds Tryz.pinned (.plain (OpenSpec.ofChange vendPaperSpec)) vendPaperCard

/-- THE SECOND FORM's CARD OF 'vendmeterkeep.VendPaper'. -/
def vendPaperUptoCard : Claim7 := { stood := { row := vendPaperUptoRow, standIns := [], harness := (true, "acf7c200c6498ae64f1b489c48452ec521d162c18618fddef275d12d4aa4bcb6"), looks := true }, kinds := [], alts := [], laidByText := true, laidKinds := [.data, .pinned], laidTests := true, laidLooks := .later }
def VendPaperUptoCardSaid : Prop := Claim7.holds Tryz.pinned (.plain (OpenSpec.upto vendPaperSpec)) vendPaperUptoCard
end Rows
end Go.Proofs.YtpcgpnkmjjamhaaGreatDoor

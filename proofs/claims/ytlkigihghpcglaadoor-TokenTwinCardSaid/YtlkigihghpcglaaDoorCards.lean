/-
  DERIVED. GIVEN WITH THE SEED: THE CARDS: each row of YtlkigihghpcglaaDoorRows.lean that lists a variable, with what it lists TIED to the program's text (the seventh form; the later family's looks); each row that meets fmt, with fmt's text TOLD by the authors' own Lean function (tested against real Go, not proved from fmt's source: count such statements apart). THE CARD IS WHAT COUNTS. Prove the row's statement (the work); the ties are given (YtlkigihghpcglaaDoorTie.lean); close each card by the builder's one call (the guide's Derived/Test/ToyasCard.lean, 'card_holds'). Laid BY PROGRAM, IN A SANDBOX (cutbox-door.mjs). By AI agents, Wed Nov 11 2026. No macro, syntax, notation, axiom, sorry.
-/
import Derived.Test.YtlkigihghpcglaaDoorRows
import GoSem.ClaimSeven
namespace Go.Proofs.YtlkigihghpcglaaDoor
namespace Rows

/-- THE TIED CARD OF 'vendmeterkeep.PadPlain'. -/
def padPlainCard : Claim7 := { stood := { row := padPlainRow, standIns := [], harness := (true, "d9306fb8d0404cb8be14174369b879a9abc3ac02363ed2f648ba8c42caad4b0c"), looks := true }, kinds := [], alts := [], laidByText := true, laidKinds := [.data, .pinned], laidTests := true, laidLooks := .later }
def PadPlainCardSaid : Prop := Claim7.holds Tryd.pinned (.plain (OpenSpec.ofChange padPlainSpec)) padPlainCard

/-- THE TIED CARD OF 'vendmeterkeep.PadScripts'. -/
def padScriptsCard : Claim7 := { stood := { row := padScriptsRow, standIns := [], harness := (true, "d9306fb8d0404cb8be14174369b879a9abc3ac02363ed2f648ba8c42caad4b0c"), looks := true }, kinds := [], alts := [], laidByText := true, laidKinds := [.data, .pinned], laidTests := true, laidLooks := .later }
def PadScriptsCardSaid : Prop := Claim7.holds Tryd.pinned (.plain (OpenSpec.ofChange padScriptsSpec)) padScriptsCard

/-- THE TIED CARD OF 'vendmeterkeep.PadUndo'. -/
def padUndoCard : Claim7 := { stood := { row := padUndoRow, standIns := [], harness := (true, "d9306fb8d0404cb8be14174369b879a9abc3ac02363ed2f648ba8c42caad4b0c"), looks := true }, kinds := [], alts := [], laidByText := true, laidKinds := [.data, .pinned], laidTests := true, laidLooks := .later }
def PadUndoCardSaid : Prop := Claim7.holds Tryd.pinned (.plain (OpenSpec.ofChange padUndoSpec)) padUndoCard

/-- THE TIED CARD OF 'vendmeterkeep.PadPieces'. -/
def padPiecesCard : Claim7 := { stood := { row := padPiecesRow, standIns := [], harness := (true, "d9306fb8d0404cb8be14174369b879a9abc3ac02363ed2f648ba8c42caad4b0c"), looks := true }, kinds := [], alts := [], laidByText := true, laidKinds := [.data, .pinned], laidTests := true, laidLooks := .later }
def PadPiecesCardSaid : Prop := Claim7.holds Tryd.pinned (.plain (OpenSpec.ofChange padPiecesSpec)) padPiecesCard

/-- THE TIED CARD OF 'vendmeterkeep.NumberSlip'. -/
def numberSlipCard : Claim7 := { stood := { row := numberSlipRow, standIns := [], harness := (true, "d9306fb8d0404cb8be14174369b879a9abc3ac02363ed2f648ba8c42caad4b0c"), looks := true }, kinds := [], alts := [], laidByText := true, laidKinds := [.data, .data, .data, .sentinel, .sentinel], laidTests := true, laidLooks := .later }
def NumberSlipCardSaid : Prop := Claim7.holds Tryd.pinned (.plain (OpenSpec.ofChange numberSlipSpec)) numberSlipCard

/-- THE TIED CARD OF 'vendmeterkeep.TokenBack'. -/
def tokenBackCard : Claim7 := { stood := { row := tokenBackRow, standIns := [], harness := (true, "d9306fb8d0404cb8be14174369b879a9abc3ac02363ed2f648ba8c42caad4b0c"), looks := true }, kinds := [], alts := [], laidByText := true, laidKinds := [.data, .pinned], laidTests := true, laidLooks := .later }
def TokenBackCardSaid : Prop := Claim7.holds Tryd.pinned (.plain (OpenSpec.ofChange tokenBackSpec)) tokenBackCard

/-- THE TIED CARD OF 'vendmeterkeep.TokenFixed'. -/
def tokenFixedCard : Claim7 := { stood := { row := tokenFixedRow, standIns := [], harness := (true, "d9306fb8d0404cb8be14174369b879a9abc3ac02363ed2f648ba8c42caad4b0c"), looks := true }, kinds := [], alts := [], laidByText := true, laidKinds := [.data, .pinned], laidTests := true, laidLooks := .later }
def TokenFixedCardSaid : Prop := Claim7.holds Tryd.pinned (.plain (OpenSpec.ofChange tokenFixedSpec)) tokenFixedCard

/-- THE TIED CARD OF 'vendmeterkeep.TokenSlip'. -/
def tokenSlipCard : Claim7 := { stood := { row := tokenSlipRow, standIns := [], harness := (true, "d9306fb8d0404cb8be14174369b879a9abc3ac02363ed2f648ba8c42caad4b0c"), looks := true }, kinds := [], alts := [], laidByText := true, laidKinds := [.data, .pinned], laidTests := true, laidLooks := .later }
def TokenSlipCardSaid : Prop := Claim7.holds Tryd.pinned (.plain (OpenSpec.ofChange tokenSlipSpec)) tokenSlipCard

/-- THE TIED CARD OF 'vendmeterkeep.TokenSwap'. -/
def tokenSwapCard : Claim7 := { stood := { row := tokenSwapRow, standIns := [], harness := (true, "d9306fb8d0404cb8be14174369b879a9abc3ac02363ed2f648ba8c42caad4b0c"), looks := true }, kinds := [], alts := [], laidByText := true, laidKinds := [.data, .pinned], laidTests := true, laidLooks := .later }
def TokenSwapCardSaid : Prop := Claim7.holds Tryd.pinned (.plain (OpenSpec.ofChange tokenSwapSpec)) tokenSwapCard

/-- THE TIED CARD OF 'vendmeterkeep.TokenTwin'. -/
def tokenTwinCard : Claim7 := { stood := { row := tokenTwinRow, standIns := [], harness := (true, "d9306fb8d0404cb8be14174369b879a9abc3ac02363ed2f648ba8c42caad4b0c"), looks := true }, kinds := [], alts := [], laidByText := true, laidKinds := [.data, .pinned], laidTests := true, laidLooks := .later }
def TokenTwinCardSaid : Prop := Claim7.holds Tryd.pinned (.plain (OpenSpec.ofChange tokenTwinSpec)) tokenTwinCard

/-- THE SECOND FORM's CARD OF 'vendmeterkeep.PadPlain'. -/
def padPlainUptoCard : Claim7 := { stood := { row := padPlainUptoRow, standIns := [], harness := (true, "d9306fb8d0404cb8be14174369b879a9abc3ac02363ed2f648ba8c42caad4b0c"), looks := true }, kinds := [], alts := [], laidByText := true, laidKinds := [.data, .pinned], laidTests := true, laidLooks := .later }
def PadPlainUptoCardSaid : Prop := Claim7.holds Tryd.pinned (.plain (OpenSpec.upto padPlainSpec)) padPlainUptoCard

/-- THE SECOND FORM's CARD OF 'vendmeterkeep.PadScripts'. -/
def padScriptsUptoCard : Claim7 := { stood := { row := padScriptsUptoRow, standIns := [], harness := (true, "d9306fb8d0404cb8be14174369b879a9abc3ac02363ed2f648ba8c42caad4b0c"), looks := true }, kinds := [], alts := [], laidByText := true, laidKinds := [.data, .pinned], laidTests := true, laidLooks := .later }
def PadScriptsUptoCardSaid : Prop := Claim7.holds Tryd.pinned (.plain (OpenSpec.upto padScriptsSpec)) padScriptsUptoCard

/-- THE SECOND FORM's CARD OF 'vendmeterkeep.PadUndo'. -/
def padUndoUptoCard : Claim7 := { stood := { row := padUndoUptoRow, standIns := [], harness := (true, "d9306fb8d0404cb8be14174369b879a9abc3ac02363ed2f648ba8c42caad4b0c"), looks := true }, kinds := [], alts := [], laidByText := true, laidKinds := [.data, .pinned], laidTests := true, laidLooks := .later }
def PadUndoUptoCardSaid : Prop := Claim7.holds Tryd.pinned (.plain (OpenSpec.upto padUndoSpec)) padUndoUptoCard

/-- THE SECOND FORM's CARD OF 'vendmeterkeep.PadPieces'. -/
def padPiecesUptoCard : Claim7 := { stood := { row := padPiecesUptoRow, standIns := [], harness := (true, "d9306fb8d0404cb8be14174369b879a9abc3ac02363ed2f648ba8c42caad4b0c"), looks := true }, kinds := [], alts := [], laidByText := true, laidKinds := [.data, .pinned], laidTests := true, laidLooks := .later }
def PadPiecesUptoCardSaid : Prop := Claim7.holds Tryd.pinned (.plain (OpenSpec.upto padPiecesSpec)) padPiecesUptoCard

/-- THE SECOND FORM's CARD OF 'vendmeterkeep.NumberSlip'. -/
def numberSlipUptoCard : Claim7 := { stood := { row := numberSlipUptoRow, standIns := [], harness := (true, "d9306fb8d0404cb8be14174369b879a9abc3ac02363ed2f648ba8c42caad4b0c"), looks := true }, kinds := [], alts := [], laidByText := true, laidKinds := [.data, .data, .data, .sentinel, .sentinel], laidTests := true, laidLooks := .later }
def NumberSlipUptoCardSaid : Prop := Claim7.holds Tryd.pinned (.plain (OpenSpec.upto numberSlipSpec)) numberSlipUptoCard

/-- THE SECOND FORM's CARD OF 'vendmeterkeep.TokenBack'. -/
def tokenBackUptoCard : Claim7 := { stood := { row := tokenBackUptoRow, standIns := [], harness := (true, "d9306fb8d0404cb8be14174369b879a9abc3ac02363ed2f648ba8c42caad4b0c"), looks := true }, kinds := [], alts := [], laidByText := true, laidKinds := [.data, .pinned], laidTests := true, laidLooks := .later }
def TokenBackUptoCardSaid : Prop := Claim7.holds Tryd.pinned (.plain (OpenSpec.upto tokenBackSpec)) tokenBackUptoCard

/-- THE SECOND FORM's CARD OF 'vendmeterkeep.TokenFixed'. -/
def tokenFixedUptoCard : Claim7 := { stood := { row := tokenFixedUptoRow, standIns := [], harness := (true, "d9306fb8d0404cb8be14174369b879a9abc3ac02363ed2f648ba8c42caad4b0c"), looks := true }, kinds := [], alts := [], laidByText := true, laidKinds := [.data, .pinned], laidTests := true, laidLooks := .later }
def TokenFixedUptoCardSaid : Prop := Claim7.holds Tryd.pinned (.plain (OpenSpec.upto tokenFixedSpec)) tokenFixedUptoCard

/-- THE SECOND FORM's CARD OF 'vendmeterkeep.TokenSlip'. -/
def tokenSlipUptoCard : Claim7 := { stood := { row := tokenSlipUptoRow, standIns := [], harness := (true, "d9306fb8d0404cb8be14174369b879a9abc3ac02363ed2f648ba8c42caad4b0c"), looks := true }, kinds := [], alts := [], laidByText := true, laidKinds := [.data, .pinned], laidTests := true, laidLooks := .later }
def TokenSlipUptoCardSaid : Prop := Claim7.holds Tryd.pinned (.plain (OpenSpec.upto tokenSlipSpec)) tokenSlipUptoCard

/-- THE SECOND FORM's CARD OF 'vendmeterkeep.TokenSwap'. -/
def tokenSwapUptoCard : Claim7 := { stood := { row := tokenSwapUptoRow, standIns := [], harness := (true, "d9306fb8d0404cb8be14174369b879a9abc3ac02363ed2f648ba8c42caad4b0c"), looks := true }, kinds := [], alts := [], laidByText := true, laidKinds := [.data, .pinned], laidTests := true, laidLooks := .later }
def TokenSwapUptoCardSaid : Prop := Claim7.holds Tryd.pinned (.plain (OpenSpec.upto tokenSwapSpec)) tokenSwapUptoCard

/-- THE SECOND FORM's CARD OF 'vendmeterkeep.TokenTwin'. -/
def tokenTwinUptoCard : Claim7 := { stood := { row := tokenTwinUptoRow, standIns := [], harness := (true, "d9306fb8d0404cb8be14174369b879a9abc3ac02363ed2f648ba8c42caad4b0c"), looks := true }, kinds := [], alts := [], laidByText := true, laidKinds := [.data, .pinned], laidTests := true, laidLooks := .later }
def TokenTwinUptoCardSaid : Prop := Claim7.holds Tryd.pinned (.plain (OpenSpec.upto tokenTwinSpec)) tokenTwinUptoCard
end Rows
end Go.Proofs.YtlkigihghpcglaaDoor

/-
  DERIVED. GIVEN WITH THE SEED: THE CARDS: each row of YtakdjggpengbhaaDoorRows.lean that lists a variable, with what it lists TIED to the program's text (the seventh form; the later family's looks); each row that meets fmt, with fmt's text TOLD by the authors' own Lean function (tested against real Go, not proved from fmt's source: count such statements apart). THE CARD IS WHAT COUNTS. Prove the row's statement (the work); the ties are given (YtakdjggpengbhaaDoorTie.lean); close each card by the builder's one call (the guide's Derived/Test/ToyasCard.lean, 'card_holds'). Laid BY PROGRAM, IN A SANDBOX (cutbox-door.mjs). By AI agents, Wed Nov 11 2026. No macro, syntax, notation, axiom, sorry.
-/
import Derived.Test.YtakdjggpengbhaaDoorRows
import GoSem.ClaimSeven
namespace Go.Proofs.YtakdjggpengbhaaDoor
namespace Rows

/-- THE TIED CARD OF 'vendmeterkeep.NumberSlip'. -/
def numberSlipCard : Claim7 := { stood := { row := numberSlipRow, standIns := [], harness := (true, "af1e34d0ac95f5207335f9f64deb85c0ce26ecb9e2364c59fdf89b9ecf360705"), looks := true }, kinds := [], alts := [], laidByText := true, laidKinds := [.data, .data, .data, .sentinel, .sentinel], laidTests := true, laidLooks := .later }
def NumberSlipCardSaid : Prop := Claim7.holds Tryd.pinned (.plain (OpenSpec.ofChange numberSlipSpec)) numberSlipCard

/-- THE TIED CARD OF 'vendmeterkeep.CodeBack'. -/
def codeBackCard : Claim7 := { stood := { row := codeBackRow, standIns := [], harness := (true, "af1e34d0ac95f5207335f9f64deb85c0ce26ecb9e2364c59fdf89b9ecf360705"), looks := true }, kinds := [], alts := [], laidByText := true, laidKinds := [.data, .data, .data, .sentinel, .sentinel], laidTests := true, laidLooks := .later }
def CodeBackCardSaid : Prop := Claim7.holds Tryd.pinned (.plain (OpenSpec.ofChange codeBackSpec)) codeBackCard

/-- THE TIED CARD OF 'vendmeterkeep.CodeSlip'. -/
def codeSlipCard : Claim7 := { stood := { row := codeSlipRow, standIns := [], harness := (true, "af1e34d0ac95f5207335f9f64deb85c0ce26ecb9e2364c59fdf89b9ecf360705"), looks := true }, kinds := [], alts := [], laidByText := true, laidKinds := [.data, .data, .data, .sentinel, .sentinel], laidTests := true, laidLooks := .later }
def CodeSlipCardSaid : Prop := Claim7.holds Tryd.pinned (.plain (OpenSpec.ofChange codeSlipSpec)) codeSlipCard

/-- THE TIED CARD OF 'vendmeterkeep.OrderBack'. -/
def orderBackCard : Claim7 := { stood := { row := orderBackRow, standIns := [], harness := (true, "af1e34d0ac95f5207335f9f64deb85c0ce26ecb9e2364c59fdf89b9ecf360705"), looks := true }, kinds := [], alts := [], laidByText := true, laidKinds := [.data, .data, .data, .sentinel, .sentinel, .widerDeep], laidTests := true, laidLooks := .later }
def OrderBackCardSaid : Prop := Claim7.holds Tryd.pinned (.plain (OpenSpec.ofChange orderBackSpec)) orderBackCard

/-- THE TIED CARD OF 'vendmeterkeep.OrderFixed'. -/
def orderFixedCard : Claim7 := { stood := { row := orderFixedRow, standIns := [], harness := (true, "af1e34d0ac95f5207335f9f64deb85c0ce26ecb9e2364c59fdf89b9ecf360705"), looks := true }, kinds := [], alts := [], laidByText := true, laidKinds := [.data, .data, .data, .sentinel, .sentinel, .widerDeep], laidTests := true, laidLooks := .later }
def OrderFixedCardSaid : Prop := Claim7.holds Tryd.pinned (.plain (OpenSpec.ofChange orderFixedSpec)) orderFixedCard

/-- THE TIED CARD OF 'vendmeterkeep.ReceiptForged'. -/
def receiptForgedCard : Claim7 := { stood := { row := receiptForgedRow, standIns := [], harness := (true, "af1e34d0ac95f5207335f9f64deb85c0ce26ecb9e2364c59fdf89b9ecf360705"), looks := true }, kinds := [], alts := [], laidByText := true, laidKinds := [.data, .data, .data, .data, .pinned], laidTests := true, laidLooks := .later }
def ReceiptForgedCardSaid : Prop := Claim7.holds Tryd.pinned (.plain (OpenSpec.ofChange receiptForgedSpec)) receiptForgedCard

/-- THE SECOND FORM's CARD OF 'vendmeterkeep.NumberSlip'. -/
def numberSlipUptoCard : Claim7 := { stood := { row := numberSlipUptoRow, standIns := [], harness := (true, "af1e34d0ac95f5207335f9f64deb85c0ce26ecb9e2364c59fdf89b9ecf360705"), looks := true }, kinds := [], alts := [], laidByText := true, laidKinds := [.data, .data, .data, .sentinel, .sentinel], laidTests := true, laidLooks := .later }
def NumberSlipUptoCardSaid : Prop := Claim7.holds Tryd.pinned (.plain (OpenSpec.upto numberSlipSpec)) numberSlipUptoCard

/-- THE SECOND FORM's CARD OF 'vendmeterkeep.CodeBack'. -/
def codeBackUptoCard : Claim7 := { stood := { row := codeBackUptoRow, standIns := [], harness := (true, "af1e34d0ac95f5207335f9f64deb85c0ce26ecb9e2364c59fdf89b9ecf360705"), looks := true }, kinds := [], alts := [], laidByText := true, laidKinds := [.data, .data, .data, .sentinel, .sentinel], laidTests := true, laidLooks := .later }
def CodeBackUptoCardSaid : Prop := Claim7.holds Tryd.pinned (.plain (OpenSpec.upto codeBackSpec)) codeBackUptoCard

/-- THE SECOND FORM's CARD OF 'vendmeterkeep.CodeSlip'. -/
def codeSlipUptoCard : Claim7 := { stood := { row := codeSlipUptoRow, standIns := [], harness := (true, "af1e34d0ac95f5207335f9f64deb85c0ce26ecb9e2364c59fdf89b9ecf360705"), looks := true }, kinds := [], alts := [], laidByText := true, laidKinds := [.data, .data, .data, .sentinel, .sentinel], laidTests := true, laidLooks := .later }
def CodeSlipUptoCardSaid : Prop := Claim7.holds Tryd.pinned (.plain (OpenSpec.upto codeSlipSpec)) codeSlipUptoCard

/-- THE SECOND FORM's CARD OF 'vendmeterkeep.OrderBack'. -/
def orderBackUptoCard : Claim7 := { stood := { row := orderBackUptoRow, standIns := [], harness := (true, "af1e34d0ac95f5207335f9f64deb85c0ce26ecb9e2364c59fdf89b9ecf360705"), looks := true }, kinds := [], alts := [], laidByText := true, laidKinds := [.data, .data, .data, .sentinel, .sentinel, .widerDeep], laidTests := true, laidLooks := .later }
def OrderBackUptoCardSaid : Prop := Claim7.holds Tryd.pinned (.plain (OpenSpec.upto orderBackSpec)) orderBackUptoCard

/-- THE SECOND FORM's CARD OF 'vendmeterkeep.OrderFixed'. -/
def orderFixedUptoCard : Claim7 := { stood := { row := orderFixedUptoRow, standIns := [], harness := (true, "af1e34d0ac95f5207335f9f64deb85c0ce26ecb9e2364c59fdf89b9ecf360705"), looks := true }, kinds := [], alts := [], laidByText := true, laidKinds := [.data, .data, .data, .sentinel, .sentinel, .widerDeep], laidTests := true, laidLooks := .later }
def OrderFixedUptoCardSaid : Prop := Claim7.holds Tryd.pinned (.plain (OpenSpec.upto orderFixedSpec)) orderFixedUptoCard

/-- THE SECOND FORM's CARD OF 'vendmeterkeep.ReceiptForged'. -/
def receiptForgedUptoCard : Claim7 := { stood := { row := receiptForgedUptoRow, standIns := [], harness := (true, "af1e34d0ac95f5207335f9f64deb85c0ce26ecb9e2364c59fdf89b9ecf360705"), looks := true }, kinds := [], alts := [], laidByText := true, laidKinds := [.data, .data, .data, .data, .pinned], laidTests := true, laidLooks := .later }
def ReceiptForgedUptoCardSaid : Prop := Claim7.holds Tryd.pinned (.plain (OpenSpec.upto receiptForgedSpec)) receiptForgedUptoCard
end Rows
end Go.Proofs.YtakdjggpengbhaaDoor

/-
  NARROWER THAN 'FOR EVERY INPUT', by the rows' own cells (each row's printed sentence says how): PadPlain: laid · PadScripts: laid · PadUndo: laid · PadPieces: laid · NumberSlip: laid · TokenBack: laid · TokenFixed: laid · TokenSlip: laid · TokenSwap: laid · TokenTwin: laid.
  DERIVED. THE GIVEN ROWS OF THIS SEAT. 10 by the template 'for every input the law returns true; each argument reads behind the call as it read before'; 0 by the template 'total and deterministic' (their statements: YtlkigihghpcglaaDoorTotals.lean).
  GIVEN WITH THE SEED: the statements are not yours to turn. If you find one false, say at which input.
  Laid BY PROGRAM, IN A SANDBOX (cutbox-rows.mjs): the forced cells as the released guide's own fill.sh prints them over the translation 8d2a4bbe75d22afd… (all of the seat's roots in one cut). By AI agents, Wed Nov 11 2026. No macro, syntax, notation, axiom, sorry.
-/
import Derived.Test.YtlkigihghpcglaaDoorChecked
import GoSem.PinnedTables
import GoSem.Claim
import GoSem.ClaimJoined
import GoSem.ClaimMapViews
import Derived.JoinedTies
import Derived.KernelRfl
namespace Go.Proofs.YtlkigihghpcglaaDoor
/- THE CELL 'sum', in the pinned program and in every row, IS THE sha256 OF THE DUMP (.gsa) THAT YtlkigihghpcglaaDoorProg.lean LOADS. Nothing in Lean hashes anything: it is a label: what it is worth is what the hold of that sum in a sandbox is worth. -/
noncomputable def Tryd.pinned : Pinned := { name := "ytlkigihghpcglaadoor", sum := "8d2a4bbe75d22afdb07c33219ce0d7eeb75f52a4176a1a9f137ac53e620135e0", checked := Tryd.checked }
namespace Rows
def none {H : Type} : Left H := { results := [], args := [] }

/- WHAT THE LISTED PACKAGE-LEVEL VARIABLES READ AS WHEN THE CALL BEGINS. Each datum BY PROGRAM (the guide's laid-datum.mjs) off the statement by which the dump's own 'gosem.cut.vars' lays the variable. In a bare row this is a premise. The card (YtlkigihghpcglaaDoorCards.lean) ties it to the program's text. -/
def laid_unicode_utf8_acceptRanges {H : Type} : DataW H := .agg [.agg [.lit (.int .u8 128), .lit (.int .u8 191)], .agg [.lit (.int .u8 160), .lit (.int .u8 191)], .agg [.lit (.int .u8 128), .lit (.int .u8 159)], .agg [.lit (.int .u8 144), .lit (.int .u8 191)], .agg [.lit (.int .u8 128), .lit (.int .u8 143)], .agg [.lit (.int .u8 0), .lit (.int .u8 0)], .agg [.lit (.int .u8 0), .lit (.int .u8 0)], .agg [.lit (.int .u8 0), .lit (.int .u8 0)], .agg [.lit (.int .u8 0), .lit (.int .u8 0)], .agg [.lit (.int .u8 0), .lit (.int .u8 0)], .agg [.lit (.int .u8 0), .lit (.int .u8 0)], .agg [.lit (.int .u8 0), .lit (.int .u8 0)], .agg [.lit (.int .u8 0), .lit (.int .u8 0)], .agg [.lit (.int .u8 0), .lit (.int .u8 0)], .agg [.lit (.int .u8 0), .lit (.int .u8 0)], .agg [.lit (.int .u8 0), .lit (.int .u8 0)]]
/-- One of Go's own tables, pinned by name: the form's constant. -/
def laid_unicode_utf8_first : DataW Unit := Go.Pinned.utf8First
def laid_math_bits_deBruijn32tab {H : Type} : DataW H := .agg [.lit (.int .u8 0), .lit (.int .u8 1), .lit (.int .u8 28), .lit (.int .u8 2), .lit (.int .u8 29), .lit (.int .u8 14), .lit (.int .u8 24), .lit (.int .u8 3), .lit (.int .u8 30), .lit (.int .u8 22), .lit (.int .u8 20), .lit (.int .u8 15), .lit (.int .u8 25), .lit (.int .u8 17), .lit (.int .u8 4), .lit (.int .u8 8), .lit (.int .u8 31), .lit (.int .u8 27), .lit (.int .u8 13), .lit (.int .u8 23), .lit (.int .u8 21), .lit (.int .u8 19), .lit (.int .u8 16), .lit (.int .u8 7), .lit (.int .u8 26), .lit (.int .u8 12), .lit (.int .u8 18), .lit (.int .u8 6), .lit (.int .u8 11), .lit (.int .u8 5), .lit (.int .u8 10), .lit (.int .u8 9)]
def laid_math_bits_deBruijn64tab {H : Type} : DataW H := .agg [.lit (.int .u8 0), .lit (.int .u8 1), .lit (.int .u8 56), .lit (.int .u8 2), .lit (.int .u8 57), .lit (.int .u8 49), .lit (.int .u8 28), .lit (.int .u8 3), .lit (.int .u8 61), .lit (.int .u8 58), .lit (.int .u8 42), .lit (.int .u8 50), .lit (.int .u8 38), .lit (.int .u8 29), .lit (.int .u8 17), .lit (.int .u8 4), .lit (.int .u8 62), .lit (.int .u8 47), .lit (.int .u8 59), .lit (.int .u8 36), .lit (.int .u8 45), .lit (.int .u8 43), .lit (.int .u8 51), .lit (.int .u8 22), .lit (.int .u8 53), .lit (.int .u8 39), .lit (.int .u8 33), .lit (.int .u8 30), .lit (.int .u8 24), .lit (.int .u8 18), .lit (.int .u8 12), .lit (.int .u8 5), .lit (.int .u8 63), .lit (.int .u8 55), .lit (.int .u8 48), .lit (.int .u8 27), .lit (.int .u8 60), .lit (.int .u8 41), .lit (.int .u8 37), .lit (.int .u8 16), .lit (.int .u8 46), .lit (.int .u8 35), .lit (.int .u8 44), .lit (.int .u8 21), .lit (.int .u8 52), .lit (.int .u8 32), .lit (.int .u8 23), .lit (.int .u8 11), .lit (.int .u8 54), .lit (.int .u8 26), .lit (.int .u8 40), .lit (.int .u8 15), .lit (.int .u8 34), .lit (.int .u8 20), .lit (.int .u8 31), .lit (.int .u8 10), .lit (.int .u8 25), .lit (.int .u8 14), .lit (.int .u8 19), .lit (.int .u8 9), .lit (.int .u8 13), .lit (.int .u8 8), .lit (.int .u8 7), .lit (.int .u8 6)]
def laid_internal_strconv_uint64pow10 {H : Type} : DataW H := .agg [.lit (.int .u64 1), .lit (.int .u64 10), .lit (.int .u64 100), .lit (.int .u64 1000), .lit (.int .u64 10000), .lit (.int .u64 100000), .lit (.int .u64 1000000), .lit (.int .u64 10000000), .lit (.int .u64 100000000), .lit (.int .u64 1000000000), .lit (.int .u64 10000000000), .lit (.int .u64 100000000000), .lit (.int .u64 1000000000000), .lit (.int .u64 10000000000000), .lit (.int .u64 100000000000000), .lit (.int .u64 1000000000000000), .lit (.int .u64 10000000000000000), .lit (.int .u64 100000000000000000), .lit (.int .u64 1000000000000000000), .lit (.int .u64 10000000000000000000)]
def laid_strconv_ErrRange {H : Type} : DataW H := .iface "*errors.errorString" (.ptr (.agg [.lit (.string [118, 97, 108, 117, 101, 32, 111, 117, 116, 32, 111, 102, 32, 114, 97, 110, 103, 101])]))
def laid_strconv_ErrSyntax {H : Type} : DataW H := .iface "*errors.errorString" (.ptr (.agg [.lit (.string [105, 110, 118, 97, 108, 105, 100, 32, 115, 121, 110, 116, 97, 120])]))

/-- 'vendmeterkeep.PadPlain': WHATEVER THE INPUT: true; the input reads as it did. -/
def padPlainSpec : ChangeSpec := { name := "padPlain", fn := fun _ => fun
  | [d] => { results := [.lit (.bool true)], args := [d] }
  | _ => none }
def padPlainRow : OpenClaim := { program := "ytlkigihghpcglaadoor", sum := "8d2a4bbe75d22afdb07c33219ce0d7eeb75f52a4176a1a9f137ac53e620135e0", func := "vendmeter/vendmeterkeep.PadPlain", spec := "padPlain", named := ["unicode/utf8.first", "unicode/utf8.acceptRanges"], apart := false, laid := [("unicode/utf8.acceptRanges", laid_unicode_utf8_acceptRanges), ("unicode/utf8.first", laid_unicode_utf8_first)] }
def PadPlainSaid : Prop := padPlainRow.holds Tryd.pinned (OpenSpec.ofChange padPlainSpec)

/-- ITS FALSE NEIGHBOUR: 'it returns false'. Refute it at one input. -/
def padPlainWrong : ChangeSpec := { name := "padPlain", fn := fun _ => fun
  | [d] => { results := [.lit (.bool false)], args := [d] }
  | _ => none }
def PadPlainWrongFalsely : Prop := padPlainRow.holds Tryd.pinned (OpenSpec.ofChange padPlainWrong)

/-- 'vendmeterkeep.PadScripts': WHATEVER THE INPUT: true; the input reads as it did. -/
def padScriptsSpec : ChangeSpec := { name := "padScripts", fn := fun _ => fun
  | [d1, d2] => { results := [.lit (.bool true)], args := [d1, d2] }
  | _ => none }
def padScriptsRow : OpenClaim := { program := "ytlkigihghpcglaadoor", sum := "8d2a4bbe75d22afdb07c33219ce0d7eeb75f52a4176a1a9f137ac53e620135e0", func := "vendmeter/vendmeterkeep.PadScripts", spec := "padScripts", named := ["unicode/utf8.first", "unicode/utf8.acceptRanges"], apart := false, laid := [("unicode/utf8.acceptRanges", laid_unicode_utf8_acceptRanges), ("unicode/utf8.first", laid_unicode_utf8_first)] }
def PadScriptsSaid : Prop := padScriptsRow.holds Tryd.pinned (OpenSpec.ofChange padScriptsSpec)

/-- ITS FALSE NEIGHBOUR: 'it returns false'. Refute it at one input. -/
def padScriptsWrong : ChangeSpec := { name := "padScripts", fn := fun _ => fun
  | [d1, d2] => { results := [.lit (.bool false)], args := [d1, d2] }
  | _ => none }
def PadScriptsWrongFalsely : Prop := padScriptsRow.holds Tryd.pinned (OpenSpec.ofChange padScriptsWrong)

/-- 'vendmeterkeep.PadUndo': WHATEVER THE INPUT: true; the input reads as it did. -/
def padUndoSpec : ChangeSpec := { name := "padUndo", fn := fun _ => fun
  | [d1, d2, d3, d4, d5] => { results := [.lit (.bool true)], args := [d1, d2, d3, d4, d5] }
  | _ => none }
def padUndoRow : OpenClaim := { program := "ytlkigihghpcglaadoor", sum := "8d2a4bbe75d22afdb07c33219ce0d7eeb75f52a4176a1a9f137ac53e620135e0", func := "vendmeter/vendmeterkeep.PadUndo", spec := "padUndo", named := ["unicode/utf8.first", "unicode/utf8.acceptRanges"], apart := false, laid := [("unicode/utf8.acceptRanges", laid_unicode_utf8_acceptRanges), ("unicode/utf8.first", laid_unicode_utf8_first)] }
def PadUndoSaid : Prop := padUndoRow.holds Tryd.pinned (OpenSpec.ofChange padUndoSpec)

/-- ITS FALSE NEIGHBOUR: 'it returns false'. Refute it at one input. -/
def padUndoWrong : ChangeSpec := { name := "padUndo", fn := fun _ => fun
  | [d1, d2, d3, d4, d5] => { results := [.lit (.bool false)], args := [d1, d2, d3, d4, d5] }
  | _ => none }
def PadUndoWrongFalsely : Prop := padUndoRow.holds Tryd.pinned (OpenSpec.ofChange padUndoWrong)

/-- 'vendmeterkeep.PadPieces': WHATEVER THE INPUT: true; the input reads as it did. -/
def padPiecesSpec : ChangeSpec := { name := "padPieces", fn := fun _ => fun
  | [d1, d2] => { results := [.lit (.bool true)], args := [d1, d2] }
  | _ => none }
def padPiecesRow : OpenClaim := { program := "ytlkigihghpcglaadoor", sum := "8d2a4bbe75d22afdb07c33219ce0d7eeb75f52a4176a1a9f137ac53e620135e0", func := "vendmeter/vendmeterkeep.PadPieces", spec := "padPieces", named := ["unicode/utf8.first", "unicode/utf8.acceptRanges"], apart := false, laid := [("unicode/utf8.acceptRanges", laid_unicode_utf8_acceptRanges), ("unicode/utf8.first", laid_unicode_utf8_first)] }
def PadPiecesSaid : Prop := padPiecesRow.holds Tryd.pinned (OpenSpec.ofChange padPiecesSpec)

/-- ITS FALSE NEIGHBOUR: 'it returns false'. Refute it at one input. -/
def padPiecesWrong : ChangeSpec := { name := "padPieces", fn := fun _ => fun
  | [d1, d2] => { results := [.lit (.bool false)], args := [d1, d2] }
  | _ => none }
def PadPiecesWrongFalsely : Prop := padPiecesRow.holds Tryd.pinned (OpenSpec.ofChange padPiecesWrong)

/-- 'vendmeterkeep.NumberSlip': WHATEVER THE INPUT: true; the input reads as it did. -/
def numberSlipSpec : ChangeSpec := { name := "numberSlip", fn := fun _ => fun
  | [d1, d2, d3, d4] => { results := [.lit (.bool true)], args := [d1, d2, d3, d4] }
  | _ => none }
def numberSlipRow : OpenClaim := { program := "ytlkigihghpcglaadoor", sum := "8d2a4bbe75d22afdb07c33219ce0d7eeb75f52a4176a1a9f137ac53e620135e0", func := "vendmeter/vendmeterkeep.NumberSlip", spec := "numberSlip", named := ["internal/strconv.uint64pow10", "math/bits.deBruijn32tab", "math/bits.deBruijn64tab", "strconv.ErrSyntax", "strconv.ErrRange"], apart := false, laid := [("math/bits.deBruijn32tab", laid_math_bits_deBruijn32tab), ("math/bits.deBruijn64tab", laid_math_bits_deBruijn64tab), ("internal/strconv.uint64pow10", laid_internal_strconv_uint64pow10), ("strconv.ErrRange", laid_strconv_ErrRange), ("strconv.ErrSyntax", laid_strconv_ErrSyntax)] }
def NumberSlipSaid : Prop := numberSlipRow.holds Tryd.pinned (OpenSpec.ofChange numberSlipSpec)

/-- ITS FALSE NEIGHBOUR: 'it returns false'. Refute it at one input. -/
def numberSlipWrong : ChangeSpec := { name := "numberSlip", fn := fun _ => fun
  | [d1, d2, d3, d4] => { results := [.lit (.bool false)], args := [d1, d2, d3, d4] }
  | _ => none }
def NumberSlipWrongFalsely : Prop := numberSlipRow.holds Tryd.pinned (OpenSpec.ofChange numberSlipWrong)

/-- 'vendmeterkeep.TokenBack': WHATEVER THE INPUT: true; the input reads as it did. -/
def tokenBackSpec : ChangeSpec := { name := "tokenBack", fn := fun _ => fun
  | [d] => { results := [.lit (.bool true)], args := [d] }
  | _ => none }
def tokenBackRow : OpenClaim := { program := "ytlkigihghpcglaadoor", sum := "8d2a4bbe75d22afdb07c33219ce0d7eeb75f52a4176a1a9f137ac53e620135e0", func := "vendmeter/vendmeterkeep.TokenBack", spec := "tokenBack", inPlace := ["internal/abi.NoEscape", "internal/bytealg.MakeNoZero", "internal/bytealg.IndexByteString", "internal/bytealg.IndexString"], unfollowed := true, recurses := true, named := ["math/bits.overflowError", "unicode/utf8.first", "unicode/utf8.acceptRanges", "internal/bytealg.MaxLen"], apart := false, laid := [("unicode/utf8.acceptRanges", laid_unicode_utf8_acceptRanges), ("unicode/utf8.first", laid_unicode_utf8_first)] }
def TokenBackSaid : Prop := tokenBackRow.holds Tryd.pinned (OpenSpec.ofChange tokenBackSpec)

/-- ITS FALSE NEIGHBOUR: 'it returns false'. Refute it at one input. -/
def tokenBackWrong : ChangeSpec := { name := "tokenBack", fn := fun _ => fun
  | [d] => { results := [.lit (.bool false)], args := [d] }
  | _ => none }
def TokenBackWrongFalsely : Prop := tokenBackRow.holds Tryd.pinned (OpenSpec.ofChange tokenBackWrong)

/-- 'vendmeterkeep.TokenFixed': WHATEVER THE INPUT: true; the input reads as it did. -/
def tokenFixedSpec : ChangeSpec := { name := "tokenFixed", fn := fun _ => fun
  | [d] => { results := [.lit (.bool true)], args := [d] }
  | _ => none }
def tokenFixedRow : OpenClaim := { program := "ytlkigihghpcglaadoor", sum := "8d2a4bbe75d22afdb07c33219ce0d7eeb75f52a4176a1a9f137ac53e620135e0", func := "vendmeter/vendmeterkeep.TokenFixed", spec := "tokenFixed", inPlace := ["internal/bytealg.IndexByteString", "internal/bytealg.IndexString", "internal/abi.NoEscape", "internal/bytealg.MakeNoZero"], unfollowed := true, recurses := true, named := ["unicode/utf8.first", "unicode/utf8.acceptRanges", "math/bits.overflowError", "internal/bytealg.MaxLen"], apart := false, laid := [("unicode/utf8.acceptRanges", laid_unicode_utf8_acceptRanges), ("unicode/utf8.first", laid_unicode_utf8_first)] }
def TokenFixedSaid : Prop := tokenFixedRow.holds Tryd.pinned (OpenSpec.ofChange tokenFixedSpec)

/-- ITS FALSE NEIGHBOUR: 'it returns false'. Refute it at one input. -/
def tokenFixedWrong : ChangeSpec := { name := "tokenFixed", fn := fun _ => fun
  | [d] => { results := [.lit (.bool false)], args := [d] }
  | _ => none }
def TokenFixedWrongFalsely : Prop := tokenFixedRow.holds Tryd.pinned (OpenSpec.ofChange tokenFixedWrong)

/-- 'vendmeterkeep.TokenSlip': WHATEVER THE INPUT: true; the input reads as it did. -/
def tokenSlipSpec : ChangeSpec := { name := "tokenSlip", fn := fun _ => fun
  | [d1, d2, d3] => { results := [.lit (.bool true)], args := [d1, d2, d3] }
  | _ => none }
def tokenSlipRow : OpenClaim := { program := "ytlkigihghpcglaadoor", sum := "8d2a4bbe75d22afdb07c33219ce0d7eeb75f52a4176a1a9f137ac53e620135e0", func := "vendmeter/vendmeterkeep.TokenSlip", spec := "tokenSlip", inPlace := ["internal/abi.NoEscape", "internal/bytealg.MakeNoZero", "internal/bytealg.IndexByteString", "internal/bytealg.IndexString"], unfollowed := true, recurses := true, named := ["math/bits.overflowError", "unicode/utf8.first", "unicode/utf8.acceptRanges", "internal/bytealg.MaxLen"], apart := false, laid := [("unicode/utf8.acceptRanges", laid_unicode_utf8_acceptRanges), ("unicode/utf8.first", laid_unicode_utf8_first)] }
def TokenSlipSaid : Prop := tokenSlipRow.holds Tryd.pinned (OpenSpec.ofChange tokenSlipSpec)

/-- ITS FALSE NEIGHBOUR: 'it returns false'. Refute it at one input. -/
def tokenSlipWrong : ChangeSpec := { name := "tokenSlip", fn := fun _ => fun
  | [d1, d2, d3] => { results := [.lit (.bool false)], args := [d1, d2, d3] }
  | _ => none }
def TokenSlipWrongFalsely : Prop := tokenSlipRow.holds Tryd.pinned (OpenSpec.ofChange tokenSlipWrong)

/-- 'vendmeterkeep.TokenSwap': WHATEVER THE INPUT: true; the input reads as it did. -/
def tokenSwapSpec : ChangeSpec := { name := "tokenSwap", fn := fun _ => fun
  | [d1, d2, d3] => { results := [.lit (.bool true)], args := [d1, d2, d3] }
  | _ => none }
def tokenSwapRow : OpenClaim := { program := "ytlkigihghpcglaadoor", sum := "8d2a4bbe75d22afdb07c33219ce0d7eeb75f52a4176a1a9f137ac53e620135e0", func := "vendmeter/vendmeterkeep.TokenSwap", spec := "tokenSwap", inPlace := ["internal/abi.NoEscape", "internal/bytealg.MakeNoZero", "internal/bytealg.IndexByteString", "internal/bytealg.IndexString"], unfollowed := true, recurses := true, named := ["math/bits.overflowError", "unicode/utf8.first", "unicode/utf8.acceptRanges", "internal/bytealg.MaxLen"], apart := false, laid := [("unicode/utf8.acceptRanges", laid_unicode_utf8_acceptRanges), ("unicode/utf8.first", laid_unicode_utf8_first)] }
def TokenSwapSaid : Prop := tokenSwapRow.holds Tryd.pinned (OpenSpec.ofChange tokenSwapSpec)

/-- ITS FALSE NEIGHBOUR: 'it returns false'. Refute it at one input. -/
def tokenSwapWrong : ChangeSpec := { name := "tokenSwap", fn := fun _ => fun
  | [d1, d2, d3] => { results := [.lit (.bool false)], args := [d1, d2, d3] }
  | _ => none }
def TokenSwapWrongFalsely : Prop := tokenSwapRow.holds Tryd.pinned (OpenSpec.ofChange tokenSwapWrong)

/-- 'vendmeterkeep.TokenTwin': WHATEVER THE INPUT: true; the input reads as it did. -/
def tokenTwinSpec : ChangeSpec := { name := "tokenTwin", fn := fun _ => fun
  | [d1, d2, d3] => { results := [.lit (.bool true)], args := [d1, d2, d3] }
  | _ => none }
def tokenTwinRow : OpenClaim := { program := "ytlkigihghpcglaadoor", sum := "8d2a4bbe75d22afdb07c33219ce0d7eeb75f52a4176a1a9f137ac53e620135e0", func := "vendmeter/vendmeterkeep.TokenTwin", spec := "tokenTwin", inPlace := ["internal/abi.NoEscape", "internal/bytealg.MakeNoZero", "internal/bytealg.IndexByteString", "internal/bytealg.IndexString"], unfollowed := true, recurses := true, named := ["math/bits.overflowError", "unicode/utf8.first", "unicode/utf8.acceptRanges", "internal/bytealg.MaxLen"], apart := false, laid := [("unicode/utf8.acceptRanges", laid_unicode_utf8_acceptRanges), ("unicode/utf8.first", laid_unicode_utf8_first)] }
def TokenTwinSaid : Prop := tokenTwinRow.holds Tryd.pinned (OpenSpec.ofChange tokenTwinSpec)

/-- ITS FALSE NEIGHBOUR: 'it returns false'. Refute it at one input. -/
def tokenTwinWrong : ChangeSpec := { name := "tokenTwin", fn := fun _ => fun
  | [d1, d2, d3] => { results := [.lit (.bool false)], args := [d1, d2, d3] }
  | _ => none }
def TokenTwinWrongFalsely : Prop := tokenTwinRow.holds Tryd.pinned (OpenSpec.ofChange tokenTwinWrong)

/- THE SECOND FORM. 'bulk': how many values and letters a reading holds, each counted each time it is reached (what is shared counts as often as it is met; a slice's spare places count too). A statement '..UptoSaid' is the law's where the arguments, and the package variables that the reading takes, are together of bulk at most 1048576: NARROWER than '..Said'. Prove '..Said' where nothing that the law and all that it calls make is longer than what came in: it says more and counts as full. Else prove '..UptoSaid'. A law counts once. -/
mutual
def uptoBulk {H : Type} : DataW H → Nat
  | .lit (.string bytes) => bytes.length + 1
  | .lit _ => 1
  | .nil => 1
  | .ptr d => uptoBulk d + 1
  | .slice elems spare => uptoBulkAll elems + uptoBulkAll spare + 1
  | .agg parts => uptoBulkAll parts + 1
  | .iface _ d => uptoBulk d + 1
  | .map entries => uptoBulkEntries entries + 1
  | .held _ => 1
def uptoBulkAll {H : Type} : List (DataW H) → Nat
  | [] => 0
  | d :: r => uptoBulk d + uptoBulkAll r
def uptoBulkEntries {H : Type} : List (Lit × DataW H) → Nat
  | [] => 0
  | x :: r => uptoBulkEntry x + uptoBulkEntries r
def uptoBulkEntry {H : Type} : Lit × DataW H → Nat
  | (.string bytes, d) => bytes.length + uptoBulk d + 1
  | (_, d) => uptoBulk d + 1
 end
def uptoSmall : (H : Type) → List (DataW H) → Bool := fun _ ds => decide (uptoBulkAll ds ≤ 1048576)
def OpenSpec.upto (s : _root_.Go.ChangeSpec) : _root_.Go.OpenSpec := { _root_.Go.OpenSpec.ofChange s with cond := some uptoSmall }

/-- 'vendmeterkeep.PadPlain', WHERE WHAT IT READS IS OF BULK AT MOST 1048576: true; the input reads as it did. -/
def padPlainUptoRow : OpenClaim := { program := "ytlkigihghpcglaadoor", sum := "8d2a4bbe75d22afdb07c33219ce0d7eeb75f52a4176a1a9f137ac53e620135e0", func := "vendmeter/vendmeterkeep.PadPlain", spec := "padPlain", named := ["unicode/utf8.first", "unicode/utf8.acceptRanges"], apart := false, laid := [("unicode/utf8.acceptRanges", laid_unicode_utf8_acceptRanges), ("unicode/utf8.first", laid_unicode_utf8_first)], narrowed := true }
def PadPlainUptoSaid : Prop := padPlainUptoRow.holds Tryd.pinned (OpenSpec.upto padPlainSpec)

/-- 'vendmeterkeep.PadScripts', WHERE WHAT IT READS IS OF BULK AT MOST 1048576: true; the input reads as it did. -/
def padScriptsUptoRow : OpenClaim := { program := "ytlkigihghpcglaadoor", sum := "8d2a4bbe75d22afdb07c33219ce0d7eeb75f52a4176a1a9f137ac53e620135e0", func := "vendmeter/vendmeterkeep.PadScripts", spec := "padScripts", named := ["unicode/utf8.first", "unicode/utf8.acceptRanges"], apart := false, laid := [("unicode/utf8.acceptRanges", laid_unicode_utf8_acceptRanges), ("unicode/utf8.first", laid_unicode_utf8_first)], narrowed := true }
def PadScriptsUptoSaid : Prop := padScriptsUptoRow.holds Tryd.pinned (OpenSpec.upto padScriptsSpec)

/-- 'vendmeterkeep.PadUndo', WHERE WHAT IT READS IS OF BULK AT MOST 1048576: true; the input reads as it did. -/
def padUndoUptoRow : OpenClaim := { program := "ytlkigihghpcglaadoor", sum := "8d2a4bbe75d22afdb07c33219ce0d7eeb75f52a4176a1a9f137ac53e620135e0", func := "vendmeter/vendmeterkeep.PadUndo", spec := "padUndo", named := ["unicode/utf8.first", "unicode/utf8.acceptRanges"], apart := false, laid := [("unicode/utf8.acceptRanges", laid_unicode_utf8_acceptRanges), ("unicode/utf8.first", laid_unicode_utf8_first)], narrowed := true }
def PadUndoUptoSaid : Prop := padUndoUptoRow.holds Tryd.pinned (OpenSpec.upto padUndoSpec)

/-- 'vendmeterkeep.PadPieces', WHERE WHAT IT READS IS OF BULK AT MOST 1048576: true; the input reads as it did. -/
def padPiecesUptoRow : OpenClaim := { program := "ytlkigihghpcglaadoor", sum := "8d2a4bbe75d22afdb07c33219ce0d7eeb75f52a4176a1a9f137ac53e620135e0", func := "vendmeter/vendmeterkeep.PadPieces", spec := "padPieces", named := ["unicode/utf8.first", "unicode/utf8.acceptRanges"], apart := false, laid := [("unicode/utf8.acceptRanges", laid_unicode_utf8_acceptRanges), ("unicode/utf8.first", laid_unicode_utf8_first)], narrowed := true }
def PadPiecesUptoSaid : Prop := padPiecesUptoRow.holds Tryd.pinned (OpenSpec.upto padPiecesSpec)

/-- 'vendmeterkeep.NumberSlip', WHERE WHAT IT READS IS OF BULK AT MOST 1048576: true; the input reads as it did. -/
def numberSlipUptoRow : OpenClaim := { program := "ytlkigihghpcglaadoor", sum := "8d2a4bbe75d22afdb07c33219ce0d7eeb75f52a4176a1a9f137ac53e620135e0", func := "vendmeter/vendmeterkeep.NumberSlip", spec := "numberSlip", named := ["internal/strconv.uint64pow10", "math/bits.deBruijn32tab", "math/bits.deBruijn64tab", "strconv.ErrSyntax", "strconv.ErrRange"], apart := false, laid := [("math/bits.deBruijn32tab", laid_math_bits_deBruijn32tab), ("math/bits.deBruijn64tab", laid_math_bits_deBruijn64tab), ("internal/strconv.uint64pow10", laid_internal_strconv_uint64pow10), ("strconv.ErrRange", laid_strconv_ErrRange), ("strconv.ErrSyntax", laid_strconv_ErrSyntax)], narrowed := true }
def NumberSlipUptoSaid : Prop := numberSlipUptoRow.holds Tryd.pinned (OpenSpec.upto numberSlipSpec)

/-- 'vendmeterkeep.TokenBack', WHERE WHAT IT READS IS OF BULK AT MOST 1048576: true; the input reads as it did. -/
def tokenBackUptoRow : OpenClaim := { program := "ytlkigihghpcglaadoor", sum := "8d2a4bbe75d22afdb07c33219ce0d7eeb75f52a4176a1a9f137ac53e620135e0", func := "vendmeter/vendmeterkeep.TokenBack", spec := "tokenBack", inPlace := ["internal/abi.NoEscape", "internal/bytealg.MakeNoZero", "internal/bytealg.IndexByteString", "internal/bytealg.IndexString"], unfollowed := true, recurses := true, named := ["math/bits.overflowError", "unicode/utf8.first", "unicode/utf8.acceptRanges", "internal/bytealg.MaxLen"], apart := false, laid := [("unicode/utf8.acceptRanges", laid_unicode_utf8_acceptRanges), ("unicode/utf8.first", laid_unicode_utf8_first)], narrowed := true }
def TokenBackUptoSaid : Prop := tokenBackUptoRow.holds Tryd.pinned (OpenSpec.upto tokenBackSpec)

/-- 'vendmeterkeep.TokenFixed', WHERE WHAT IT READS IS OF BULK AT MOST 1048576: true; the input reads as it did. -/
def tokenFixedUptoRow : OpenClaim := { program := "ytlkigihghpcglaadoor", sum := "8d2a4bbe75d22afdb07c33219ce0d7eeb75f52a4176a1a9f137ac53e620135e0", func := "vendmeter/vendmeterkeep.TokenFixed", spec := "tokenFixed", inPlace := ["internal/bytealg.IndexByteString", "internal/bytealg.IndexString", "internal/abi.NoEscape", "internal/bytealg.MakeNoZero"], unfollowed := true, recurses := true, named := ["unicode/utf8.first", "unicode/utf8.acceptRanges", "math/bits.overflowError", "internal/bytealg.MaxLen"], apart := false, laid := [("unicode/utf8.acceptRanges", laid_unicode_utf8_acceptRanges), ("unicode/utf8.first", laid_unicode_utf8_first)], narrowed := true }
def TokenFixedUptoSaid : Prop := tokenFixedUptoRow.holds Tryd.pinned (OpenSpec.upto tokenFixedSpec)

/-- 'vendmeterkeep.TokenSlip', WHERE WHAT IT READS IS OF BULK AT MOST 1048576: true; the input reads as it did. -/
def tokenSlipUptoRow : OpenClaim := { program := "ytlkigihghpcglaadoor", sum := "8d2a4bbe75d22afdb07c33219ce0d7eeb75f52a4176a1a9f137ac53e620135e0", func := "vendmeter/vendmeterkeep.TokenSlip", spec := "tokenSlip", inPlace := ["internal/abi.NoEscape", "internal/bytealg.MakeNoZero", "internal/bytealg.IndexByteString", "internal/bytealg.IndexString"], unfollowed := true, recurses := true, named := ["math/bits.overflowError", "unicode/utf8.first", "unicode/utf8.acceptRanges", "internal/bytealg.MaxLen"], apart := false, laid := [("unicode/utf8.acceptRanges", laid_unicode_utf8_acceptRanges), ("unicode/utf8.first", laid_unicode_utf8_first)], narrowed := true }
def TokenSlipUptoSaid : Prop := tokenSlipUptoRow.holds Tryd.pinned (OpenSpec.upto tokenSlipSpec)

/-- 'vendmeterkeep.TokenSwap', WHERE WHAT IT READS IS OF BULK AT MOST 1048576: true; the input reads as it did. -/
def tokenSwapUptoRow : OpenClaim := { program := "ytlkigihghpcglaadoor", sum := "8d2a4bbe75d22afdb07c33219ce0d7eeb75f52a4176a1a9f137ac53e620135e0", func := "vendmeter/vendmeterkeep.TokenSwap", spec := "tokenSwap", inPlace := ["internal/abi.NoEscape", "internal/bytealg.MakeNoZero", "internal/bytealg.IndexByteString", "internal/bytealg.IndexString"], unfollowed := true, recurses := true, named := ["math/bits.overflowError", "unicode/utf8.first", "unicode/utf8.acceptRanges", "internal/bytealg.MaxLen"], apart := false, laid := [("unicode/utf8.acceptRanges", laid_unicode_utf8_acceptRanges), ("unicode/utf8.first", laid_unicode_utf8_first)], narrowed := true }
def TokenSwapUptoSaid : Prop := tokenSwapUptoRow.holds Tryd.pinned (OpenSpec.upto tokenSwapSpec)

/-- 'vendmeterkeep.TokenTwin', WHERE WHAT IT READS IS OF BULK AT MOST 1048576: true; the input reads as it did. -/
def tokenTwinUptoRow : OpenClaim := { program := "ytlkigihghpcglaadoor", sum := "8d2a4bbe75d22afdb07c33219ce0d7eeb75f52a4176a1a9f137ac53e620135e0", func := "vendmeter/vendmeterkeep.TokenTwin", spec := "tokenTwin", inPlace := ["internal/abi.NoEscape", "internal/bytealg.MakeNoZero", "internal/bytealg.IndexByteString", "internal/bytealg.IndexString"], unfollowed := true, recurses := true, named := ["math/bits.overflowError", "unicode/utf8.first", "unicode/utf8.acceptRanges", "internal/bytealg.MaxLen"], apart := false, laid := [("unicode/utf8.acceptRanges", laid_unicode_utf8_acceptRanges), ("unicode/utf8.first", laid_unicode_utf8_first)], narrowed := true }
def TokenTwinUptoSaid : Prop := tokenTwinUptoRow.holds Tryd.pinned (OpenSpec.upto tokenTwinSpec)

end Rows
end Go.Proofs.YtlkigihghpcglaaDoor

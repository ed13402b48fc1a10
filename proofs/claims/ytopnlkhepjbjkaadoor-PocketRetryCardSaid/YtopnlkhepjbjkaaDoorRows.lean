/-
  NARROWER THAN 'FOR EVERY INPUT', by the rows' own cells (each row's printed sentence says how): PocketForged: laid · PocketCut: laid · PocketRetry: laid · PocketBurns: laid.
  DERIVED. THE GIVEN ROWS OF THIS SEAT. 4 by the template 'for every input the law returns true; each argument reads behind the call as it read before'; 0 by the template 'total and deterministic' (their statements: YtopnlkhepjbjkaaDoorTotals.lean).
  GIVEN WITH THE SEED: the statements are not yours to turn. If you find one false, say at which input.
  Laid BY PROGRAM, IN A SANDBOX (cutbox-rows.mjs): the forced cells as the released guide's own fill.sh prints them over the translation 8d8d3a1cd8f6fa06… (all of the seat's roots in one cut). By AI agents, Wed Nov 11 2026. No macro, syntax, notation, axiom, sorry.
-/
import Derived.Test.YtopnlkhepjbjkaaDoorChecked
import GoSem.PinnedTables
import GoSem.Claim
import GoSem.ClaimJoined
import GoSem.ClaimMapViews
import Derived.JoinedTies
import Derived.KernelRfl
namespace Go.Proofs.YtopnlkhepjbjkaaDoor
/- THE CELL 'sum', in the pinned program and in every row, IS THE sha256 OF THE DUMP (.gsa) THAT YtopnlkhepjbjkaaDoorProg.lean LOADS. Nothing in Lean hashes anything: it is a label: what it is worth is what the hold of that sum in a sandbox is worth. -/
noncomputable def Tryd.pinned : Pinned := { name := "ytopnlkhepjbjkaadoor", sum := "8d8d3a1cd8f6fa06d6b1fc39968bcc854d3d9d01b465deae2cca8a533a518490", checked := Tryd.checked }
namespace Rows
def none {H : Type} : Left H := { results := [], args := [] }

/- WHAT THE LISTED PACKAGE-LEVEL VARIABLES READ AS WHEN THE CALL BEGINS. Each datum BY PROGRAM (the guide's laid-datum.mjs) off the statement by which the dump's own 'gosem.cut.vars' lays the variable. In a bare row this is a premise. The card (YtopnlkhepjbjkaaDoorCards.lean) ties it to the program's text. -/
def laid_unicode_utf8_acceptRanges {H : Type} : DataW H := .agg [.agg [.lit (.int .u8 128), .lit (.int .u8 191)], .agg [.lit (.int .u8 160), .lit (.int .u8 191)], .agg [.lit (.int .u8 128), .lit (.int .u8 159)], .agg [.lit (.int .u8 144), .lit (.int .u8 191)], .agg [.lit (.int .u8 128), .lit (.int .u8 143)], .agg [.lit (.int .u8 0), .lit (.int .u8 0)], .agg [.lit (.int .u8 0), .lit (.int .u8 0)], .agg [.lit (.int .u8 0), .lit (.int .u8 0)], .agg [.lit (.int .u8 0), .lit (.int .u8 0)], .agg [.lit (.int .u8 0), .lit (.int .u8 0)], .agg [.lit (.int .u8 0), .lit (.int .u8 0)], .agg [.lit (.int .u8 0), .lit (.int .u8 0)], .agg [.lit (.int .u8 0), .lit (.int .u8 0)], .agg [.lit (.int .u8 0), .lit (.int .u8 0)], .agg [.lit (.int .u8 0), .lit (.int .u8 0)], .agg [.lit (.int .u8 0), .lit (.int .u8 0)]]
/-- One of Go's own tables, pinned by name: the form's constant. -/
def laid_unicode_utf8_first : DataW Unit := Go.Pinned.utf8First

/-- 'vendmeterkeep.PocketForged': WHATEVER THE INPUT: true; the input reads as it did. -/
def pocketForgedSpec : ChangeSpec := { name := "pocketForged", fn := fun _ => fun
  | [d1, d2] => { results := [.lit (.bool true)], args := [d1, d2] }
  | _ => none }
def pocketForgedRow : OpenClaim := { program := "ytopnlkhepjbjkaadoor", sum := "8d8d3a1cd8f6fa06d6b1fc39968bcc854d3d9d01b465deae2cca8a533a518490", func := "vendmeter/vendmeterkeep.PocketForged", spec := "pocketForged", inPlace := ["internal/bytealg.IndexByteString", "internal/bytealg.IndexString"], unfollowed := true, recurses := true, named := ["unicode/utf8.first", "unicode/utf8.acceptRanges", "math/bits.overflowError", "internal/bytealg.MaxLen"], plainKeys := false, apart := false, laid := [("unicode/utf8.acceptRanges", laid_unicode_utf8_acceptRanges), ("unicode/utf8.first", laid_unicode_utf8_first)] }
def PocketForgedSaid : Prop := pocketForgedRow.holds Tryd.pinned (OpenSpec.ofChange pocketForgedSpec)

/-- ITS FALSE NEIGHBOUR: 'it returns false'. Refute it at one input. -/
def pocketForgedWrong : ChangeSpec := { name := "pocketForged", fn := fun _ => fun
  | [d1, d2] => { results := [.lit (.bool false)], args := [d1, d2] }
  | _ => none }
def PocketForgedWrongFalsely : Prop := pocketForgedRow.holds Tryd.pinned (OpenSpec.ofChange pocketForgedWrong)

/-- 'vendmeterkeep.PocketCut': WHATEVER THE INPUT: true; the input reads as it did. -/
def pocketCutSpec : ChangeSpec := { name := "pocketCut", fn := fun _ => fun
  | [d1, d2, d3, d4, d5] => { results := [.lit (.bool true)], args := [d1, d2, d3, d4, d5] }
  | _ => none }
def pocketCutRow : OpenClaim := { program := "ytopnlkhepjbjkaadoor", sum := "8d8d3a1cd8f6fa06d6b1fc39968bcc854d3d9d01b465deae2cca8a533a518490", func := "vendmeter/vendmeterkeep.PocketCut", spec := "pocketCut", inPlace := ["internal/abi.NoEscape", "internal/bytealg.MakeNoZero", "internal/bytealg.IndexByteString", "internal/bytealg.IndexString"], unfollowed := true, recurses := true, named := ["math/bits.overflowError", "unicode/utf8.first", "unicode/utf8.acceptRanges", "internal/bytealg.MaxLen"], plainKeys := false, apart := false, laid := [("unicode/utf8.acceptRanges", laid_unicode_utf8_acceptRanges), ("unicode/utf8.first", laid_unicode_utf8_first)] }
def PocketCutSaid : Prop := pocketCutRow.holds Tryd.pinned (OpenSpec.ofChange pocketCutSpec)

/-- ITS FALSE NEIGHBOUR: 'it returns false'. Refute it at one input. -/
def pocketCutWrong : ChangeSpec := { name := "pocketCut", fn := fun _ => fun
  | [d1, d2, d3, d4, d5] => { results := [.lit (.bool false)], args := [d1, d2, d3, d4, d5] }
  | _ => none }
def PocketCutWrongFalsely : Prop := pocketCutRow.holds Tryd.pinned (OpenSpec.ofChange pocketCutWrong)

/-- 'vendmeterkeep.PocketRetry': WHATEVER THE INPUT: true; the input reads as it did. -/
def pocketRetrySpec : ChangeSpec := { name := "pocketRetry", fn := fun _ => fun
  | [d1, d2, d3, d4] => { results := [.lit (.bool true)], args := [d1, d2, d3, d4] }
  | _ => none }
def pocketRetryRow : OpenClaim := { program := "ytopnlkhepjbjkaadoor", sum := "8d8d3a1cd8f6fa06d6b1fc39968bcc854d3d9d01b465deae2cca8a533a518490", func := "vendmeter/vendmeterkeep.PocketRetry", spec := "pocketRetry", inPlace := ["internal/abi.NoEscape", "internal/bytealg.MakeNoZero", "internal/bytealg.IndexByteString", "internal/bytealg.IndexString"], unfollowed := true, recurses := true, named := ["math/bits.overflowError", "unicode/utf8.first", "unicode/utf8.acceptRanges", "internal/bytealg.MaxLen"], plainKeys := false, apart := false, laid := [("unicode/utf8.acceptRanges", laid_unicode_utf8_acceptRanges), ("unicode/utf8.first", laid_unicode_utf8_first)] }
def PocketRetrySaid : Prop := pocketRetryRow.holds Tryd.pinned (OpenSpec.ofChange pocketRetrySpec)

/-- ITS FALSE NEIGHBOUR: 'it returns false'. Refute it at one input. -/
def pocketRetryWrong : ChangeSpec := { name := "pocketRetry", fn := fun _ => fun
  | [d1, d2, d3, d4] => { results := [.lit (.bool false)], args := [d1, d2, d3, d4] }
  | _ => none }
def PocketRetryWrongFalsely : Prop := pocketRetryRow.holds Tryd.pinned (OpenSpec.ofChange pocketRetryWrong)

/-- 'vendmeterkeep.PocketBurns': WHATEVER THE INPUT: true; the input reads as it did. -/
def pocketBurnsSpec : ChangeSpec := { name := "pocketBurns", fn := fun _ => fun
  | [d1, d2, d3, d4] => { results := [.lit (.bool true)], args := [d1, d2, d3, d4] }
  | _ => none }
def pocketBurnsRow : OpenClaim := { program := "ytopnlkhepjbjkaadoor", sum := "8d8d3a1cd8f6fa06d6b1fc39968bcc854d3d9d01b465deae2cca8a533a518490", func := "vendmeter/vendmeterkeep.PocketBurns", spec := "pocketBurns", inPlace := ["internal/abi.NoEscape", "internal/bytealg.MakeNoZero", "internal/bytealg.IndexByteString", "internal/bytealg.IndexString"], unfollowed := true, recurses := true, named := ["math/bits.overflowError", "unicode/utf8.first", "unicode/utf8.acceptRanges", "internal/bytealg.MaxLen"], plainKeys := false, apart := false, laid := [("unicode/utf8.acceptRanges", laid_unicode_utf8_acceptRanges), ("unicode/utf8.first", laid_unicode_utf8_first)] }
def PocketBurnsSaid : Prop := pocketBurnsRow.holds Tryd.pinned (OpenSpec.ofChange pocketBurnsSpec)

/-- ITS FALSE NEIGHBOUR: 'it returns false'. Refute it at one input. -/
def pocketBurnsWrong : ChangeSpec := { name := "pocketBurns", fn := fun _ => fun
  | [d1, d2, d3, d4] => { results := [.lit (.bool false)], args := [d1, d2, d3, d4] }
  | _ => none }
def PocketBurnsWrongFalsely : Prop := pocketBurnsRow.holds Tryd.pinned (OpenSpec.ofChange pocketBurnsWrong)

/- THE SECOND FORM. 'bulk': how many values and letters a reading holds, each counted each time it is reached (what is shared counts as often as it is met; a slice's spare places count too). A statement '..UptoSaid' is the law's where the arguments, and the package variables that the reading takes, are together of bulk at most 1048576: NARROWER than '..Said'. Prove '..Said' where nothing that the law and all that it calls make is longer than what came in: it says more and counts as full. Else prove '..UptoSaid'. A law counts once. -/
mutual
def uptoBulk {H : Type} : DataW H → Nat
  | .lit (.string bytes) => bytes.length + 1
  | .lit _ => 1
  | .nil => 1
  | .ptr d => uptoBulk d + 1
  | .slice elems spare => uptoBulkAll elems + uptoBulkAll spare + 1
  | .agg parts => uptoBulkAll parts + 1
  | .iface _ d => uptoBulk d + 1
  | .map entries => uptoBulkEntries entries + 1
  | .held _ => 1
def uptoBulkAll {H : Type} : List (DataW H) → Nat
  | [] => 0
  | d :: r => uptoBulk d + uptoBulkAll r
def uptoBulkEntries {H : Type} : List (Lit × DataW H) → Nat
  | [] => 0
  | x :: r => uptoBulkEntry x + uptoBulkEntries r
def uptoBulkEntry {H : Type} : Lit × DataW H → Nat
  | (.string bytes, d) => bytes.length + uptoBulk d + 1
  | (_, d) => uptoBulk d + 1
 end
def uptoSmall : (H : Type) → List (DataW H) → Bool := fun _ ds => decide (uptoBulkAll ds ≤ 1048576)
def OpenSpec.upto (s : _root_.Go.ChangeSpec) : _root_.Go.OpenSpec := { _root_.Go.OpenSpec.ofChange s with cond := some uptoSmall }

/-- 'vendmeterkeep.PocketForged', WHERE WHAT IT READS IS OF BULK AT MOST 1048576: true; the input reads as it did. -/
def pocketForgedUptoRow : OpenClaim := { program := "ytopnlkhepjbjkaadoor", sum := "8d8d3a1cd8f6fa06d6b1fc39968bcc854d3d9d01b465deae2cca8a533a518490", func := "vendmeter/vendmeterkeep.PocketForged", spec := "pocketForged", inPlace := ["internal/bytealg.IndexByteString", "internal/bytealg.IndexString"], unfollowed := true, recurses := true, named := ["unicode/utf8.first", "unicode/utf8.acceptRanges", "math/bits.overflowError", "internal/bytealg.MaxLen"], plainKeys := false, apart := false, laid := [("unicode/utf8.acceptRanges", laid_unicode_utf8_acceptRanges), ("unicode/utf8.first", laid_unicode_utf8_first)], narrowed := true }
def PocketForgedUptoSaid : Prop := pocketForgedUptoRow.holds Tryd.pinned (OpenSpec.upto pocketForgedSpec)

/-- 'vendmeterkeep.PocketCut', WHERE WHAT IT READS IS OF BULK AT MOST 1048576: true; the input reads as it did. -/
def pocketCutUptoRow : OpenClaim := { program := "ytopnlkhepjbjkaadoor", sum := "8d8d3a1cd8f6fa06d6b1fc39968bcc854d3d9d01b465deae2cca8a533a518490", func := "vendmeter/vendmeterkeep.PocketCut", spec := "pocketCut", inPlace := ["internal/abi.NoEscape", "internal/bytealg.MakeNoZero", "internal/bytealg.IndexByteString", "internal/bytealg.IndexString"], unfollowed := true, recurses := true, named := ["math/bits.overflowError", "unicode/utf8.first", "unicode/utf8.acceptRanges", "internal/bytealg.MaxLen"], plainKeys := false, apart := false, laid := [("unicode/utf8.acceptRanges", laid_unicode_utf8_acceptRanges), ("unicode/utf8.first", laid_unicode_utf8_first)], narrowed := true }
def PocketCutUptoSaid : Prop := pocketCutUptoRow.holds Tryd.pinned (OpenSpec.upto pocketCutSpec)

/-- 'vendmeterkeep.PocketRetry', WHERE WHAT IT READS IS OF BULK AT MOST 1048576: true; the input reads as it did. -/
def pocketRetryUptoRow : OpenClaim := { program := "ytopnlkhepjbjkaadoor", sum := "8d8d3a1cd8f6fa06d6b1fc39968bcc854d3d9d01b465deae2cca8a533a518490", func := "vendmeter/vendmeterkeep.PocketRetry", spec := "pocketRetry", inPlace := ["internal/abi.NoEscape", "internal/bytealg.MakeNoZero", "internal/bytealg.IndexByteString", "internal/bytealg.IndexString"], unfollowed := true, recurses := true, named := ["math/bits.overflowError", "unicode/utf8.first", "unicode/utf8.acceptRanges", "internal/bytealg.MaxLen"], plainKeys := false, apart := false, laid := [("unicode/utf8.acceptRanges", laid_unicode_utf8_acceptRanges), ("unicode/utf8.first", laid_unicode_utf8_first)], narrowed := true }
def PocketRetryUptoSaid : Prop := pocketRetryUptoRow.holds Tryd.pinned (OpenSpec.upto pocketRetrySpec)

/-- 'vendmeterkeep.PocketBurns', WHERE WHAT IT READS IS OF BULK AT MOST 1048576: true; the input reads as it did. -/
def pocketBurnsUptoRow : OpenClaim := { program := "ytopnlkhepjbjkaadoor", sum := "8d8d3a1cd8f6fa06d6b1fc39968bcc854d3d9d01b465deae2cca8a533a518490", func := "vendmeter/vendmeterkeep.PocketBurns", spec := "pocketBurns", inPlace := ["internal/abi.NoEscape", "internal/bytealg.MakeNoZero", "internal/bytealg.IndexByteString", "internal/bytealg.IndexString"], unfollowed := true, recurses := true, named := ["math/bits.overflowError", "unicode/utf8.first", "unicode/utf8.acceptRanges", "internal/bytealg.MaxLen"], plainKeys := false, apart := false, laid := [("unicode/utf8.acceptRanges", laid_unicode_utf8_acceptRanges), ("unicode/utf8.first", laid_unicode_utf8_first)], narrowed := true }
def PocketBurnsUptoSaid : Prop := pocketBurnsUptoRow.holds Tryd.pinned (OpenSpec.upto pocketBurnsSpec)

end Rows
end Go.Proofs.YtopnlkhepjbjkaaDoor

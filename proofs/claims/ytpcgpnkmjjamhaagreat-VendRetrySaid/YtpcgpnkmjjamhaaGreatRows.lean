/-
  No cell of these rows narrows 'for every input' (looked for: loops, veiled, ifaces, maps, wideKeys, modest, calm, conditions, laid).
  DERIVED. THE GIVEN ROWS OF THIS SEAT. 6 by the template 'for every input the law returns true; each argument reads behind the call as it read before'; 0 by the template 'total and deterministic' (their statements: YtpcgpnkmjjamhaaGreatTotals.lean).
  GIVEN WITH THE SEED: the statements are not yours to turn. If you find one false, say at which input.
  Laid BY PROGRAM, IN A SANDBOX (cutbox-rows.mjs): the forced cells as the released guide's own fill.sh prints them over the translation 74f8c54285663e67… (all of the seat's roots in one cut). By AI agents, Wed Nov 11 2026. No macro, syntax, notation, axiom, sorry.
-/
import Derived.Test.YtpcgpnkmjjamhaaGreatChecked
import GoSem.Claim
import GoSem.ClaimJoined
import GoSem.ClaimMapViews
import Derived.JoinedTies
import Derived.KernelRfl
namespace Go.Proofs.YtpcgpnkmjjamhaaGreat
/- THE CELL 'sum', in the pinned program and in every row, IS THE sha256 OF THE DUMP (.gsa) THAT YtpcgpnkmjjamhaaGreatProg.lean LOADS. Nothing in Lean hashes anything: it is a label: what it is worth is what the hold of that sum in a sandbox is worth. -/
noncomputable def Tryz.pinned : Pinned := { name := "ytpcgpnkmjjamhaagreat", sum := "74f8c54285663e67af9b56fca613621131264fd74409c1f79c3f26266b83556d", checked := Tryz.checked }
namespace Rows
def none {H : Type} : Left H := { results := [], args := [] }

/-- 'vendmeterkeep.BookTurned': WHATEVER THE INPUT: true; the input reads as it did. -/
def bookTurnedSpec : ChangeSpec := { name := "bookTurned", fn := fun _ => fun
  | [d1, d2, d3, d4] => { results := [.lit (.bool true)], args := [d1, d2, d3, d4] }
  | _ => none }
def bookTurnedRow : OpenClaim := { program := "ytpcgpnkmjjamhaagreat", sum := "74f8c54285663e67af9b56fca613621131264fd74409c1f79c3f26266b83556d", func := "vendmeter/vendmeterkeep.BookTurned", spec := "bookTurned", inPlace := ["internal/reflectlite.ValueOf", "(internal/reflectlite.Value).Len", "internal/abi.NoEscape", "internal/bytealg.MakeNoZero"], unfollowed := true, recurses := true, named := ["math/bits.overflowError"], plainKeys := false, apart := false }
def BookTurnedSaid : Prop := bookTurnedRow.holds Tryz.pinned (OpenSpec.ofChange bookTurnedSpec)

/-- ITS FALSE NEIGHBOUR: 'it returns false'. Refute it at one input. -/
def bookTurnedWrong : ChangeSpec := { name := "bookTurned", fn := fun _ => fun
  | [d1, d2, d3, d4] => { results := [.lit (.bool false)], args := [d1, d2, d3, d4] }
  | _ => none }
def BookTurnedWrongFalsely : Prop := bookTurnedRow.holds Tryz.pinned (OpenSpec.ofChange bookTurnedWrong)

/-- 'vendmeterkeep.BookNumbers': WHATEVER THE INPUT: true; the input reads as it did. -/
def bookNumbersSpec : ChangeSpec := { name := "bookNumbers", fn := fun _ => fun
  | [d1, d2] => { results := [.lit (.bool true)], args := [d1, d2] }
  | _ => none }
def bookNumbersRow : OpenClaim := { program := "ytpcgpnkmjjamhaagreat", sum := "74f8c54285663e67af9b56fca613621131264fd74409c1f79c3f26266b83556d", func := "vendmeter/vendmeterkeep.BookNumbers", spec := "bookNumbers", inPlace := ["internal/reflectlite.ValueOf", "(internal/reflectlite.Value).Len", "internal/abi.NoEscape", "internal/bytealg.MakeNoZero"], unfollowed := true, recurses := true, named := ["math/bits.overflowError"], plainKeys := false, apart := false }
def BookNumbersSaid : Prop := bookNumbersRow.holds Tryz.pinned (OpenSpec.ofChange bookNumbersSpec)

/-- ITS FALSE NEIGHBOUR: 'it returns false'. Refute it at one input. -/
def bookNumbersWrong : ChangeSpec := { name := "bookNumbers", fn := fun _ => fun
  | [d1, d2] => { results := [.lit (.bool false)], args := [d1, d2] }
  | _ => none }
def BookNumbersWrongFalsely : Prop := bookNumbersRow.holds Tryz.pinned (OpenSpec.ofChange bookNumbersWrong)

/-- 'vendmeterkeep.BookGrows': WHATEVER THE INPUT: true; the input reads as it did. -/
def bookGrowsSpec : ChangeSpec := { name := "bookGrows", fn := fun _ => fun
  | [d1, d2, d3] => { results := [.lit (.bool true)], args := [d1, d2, d3] }
  | _ => none }
def bookGrowsRow : OpenClaim := { program := "ytpcgpnkmjjamhaagreat", sum := "74f8c54285663e67af9b56fca613621131264fd74409c1f79c3f26266b83556d", func := "vendmeter/vendmeterkeep.BookGrows", spec := "bookGrows", inPlace := ["internal/reflectlite.ValueOf", "(internal/reflectlite.Value).Len", "internal/abi.NoEscape", "internal/bytealg.MakeNoZero"], unfollowed := true, recurses := true, named := ["math/bits.overflowError"], plainKeys := false, apart := false }
def BookGrowsSaid : Prop := bookGrowsRow.holds Tryz.pinned (OpenSpec.ofChange bookGrowsSpec)

/-- ITS FALSE NEIGHBOUR: 'it returns false'. Refute it at one input. -/
def bookGrowsWrong : ChangeSpec := { name := "bookGrows", fn := fun _ => fun
  | [d1, d2, d3] => { results := [.lit (.bool false)], args := [d1, d2, d3] }
  | _ => none }
def BookGrowsWrongFalsely : Prop := bookGrowsRow.holds Tryz.pinned (OpenSpec.ofChange bookGrowsWrong)

/-- 'vendmeterkeep.VendCut': WHATEVER THE INPUT: true; the input reads as it did. -/
def vendCutSpec : ChangeSpec := { name := "vendCut", fn := fun _ => fun
  | [d1, d2, d3, d4] => { results := [.lit (.bool true)], args := [d1, d2, d3, d4] }
  | _ => none }
def vendCutRow : OpenClaim := { program := "ytpcgpnkmjjamhaagreat", sum := "74f8c54285663e67af9b56fca613621131264fd74409c1f79c3f26266b83556d", func := "vendmeter/vendmeterkeep.VendCut", spec := "vendCut", inPlace := ["internal/reflectlite.ValueOf", "(internal/reflectlite.Value).Len", "internal/abi.NoEscape", "internal/bytealg.MakeNoZero"], unfollowed := true, recurses := true, named := ["math/bits.overflowError"], plainKeys := false, apart := false }
def VendCutSaid : Prop := vendCutRow.holds Tryz.pinned (OpenSpec.ofChange vendCutSpec)

/-- ITS FALSE NEIGHBOUR: 'it returns false'. Refute it at one input. -/
def vendCutWrong : ChangeSpec := { name := "vendCut", fn := fun _ => fun
  | [d1, d2, d3, d4] => { results := [.lit (.bool false)], args := [d1, d2, d3, d4] }
  | _ => none }
def VendCutWrongFalsely : Prop := vendCutRow.holds Tryz.pinned (OpenSpec.ofChange vendCutWrong)

/-- 'vendmeterkeep.VendReprint': WHATEVER THE INPUT: true; the input reads as it did. -/
def vendReprintSpec : ChangeSpec := { name := "vendReprint", fn := fun _ => fun
  | [d1, d2, d3, d4] => { results := [.lit (.bool true)], args := [d1, d2, d3, d4] }
  | _ => none }
def vendReprintRow : OpenClaim := { program := "ytpcgpnkmjjamhaagreat", sum := "74f8c54285663e67af9b56fca613621131264fd74409c1f79c3f26266b83556d", func := "vendmeter/vendmeterkeep.VendReprint", spec := "vendReprint", inPlace := ["internal/reflectlite.ValueOf", "(internal/reflectlite.Value).Len", "internal/abi.NoEscape", "internal/bytealg.MakeNoZero"], unfollowed := true, recurses := true, named := ["math/bits.overflowError"], plainKeys := false, apart := false }
def VendReprintSaid : Prop := vendReprintRow.holds Tryz.pinned (OpenSpec.ofChange vendReprintSpec)

/-- ITS FALSE NEIGHBOUR: 'it returns false'. Refute it at one input. -/
def vendReprintWrong : ChangeSpec := { name := "vendReprint", fn := fun _ => fun
  | [d1, d2, d3, d4] => { results := [.lit (.bool false)], args := [d1, d2, d3, d4] }
  | _ => none }
def VendReprintWrongFalsely : Prop := vendReprintRow.holds Tryz.pinned (OpenSpec.ofChange vendReprintWrong)

/-- 'vendmeterkeep.VendRetry': WHATEVER THE INPUT: true; the input reads as it did. -/
def vendRetrySpec : ChangeSpec := { name := "vendRetry", fn := fun _ => fun
  | [d1, d2, d3, d4, d5] => { results := [.lit (.bool true)], args := [d1, d2, d3, d4, d5] }
  | _ => none }
def vendRetryRow : OpenClaim := { program := "ytpcgpnkmjjamhaagreat", sum := "74f8c54285663e67af9b56fca613621131264fd74409c1f79c3f26266b83556d", func := "vendmeter/vendmeterkeep.VendRetry", spec := "vendRetry", inPlace := ["internal/reflectlite.ValueOf", "(internal/reflectlite.Value).Len", "internal/abi.NoEscape", "internal/bytealg.MakeNoZero"], unfollowed := true, recurses := true, named := ["math/bits.overflowError"], plainKeys := false, apart := false }
def VendRetrySaid : Prop := vendRetryRow.holds Tryz.pinned (OpenSpec.ofChange vendRetrySpec)

/-- ITS FALSE NEIGHBOUR: 'it returns false'. Refute it at one input. -/
def vendRetryWrong : ChangeSpec := { name := "vendRetry", fn := fun _ => fun
  | [d1, d2, d3, d4, d5] => { results := [.lit (.bool false)], args := [d1, d2, d3, d4, d5] }
  | _ => none }
def VendRetryWrongFalsely : Prop := vendRetryRow.holds Tryz.pinned (OpenSpec.ofChange vendRetryWrong)

/- THE SECOND FORM. 'bulk': how many values and letters a reading holds, each counted each time it is reached (what is shared counts as often as it is met; a slice's spare places count too). A statement '..UptoSaid' is the law's where the arguments, and the package variables that the reading takes, are together of bulk at most 1048576: NARROWER than '..Said'. Prove '..Said' where nothing that the law and all that it calls make is longer than what came in: it says more and counts as full. Else prove '..UptoSaid'. A law counts once. -/
mutual
def uptoBulk {H : Type} : DataW H → Nat
  | .lit (.string bytes) => bytes.length + 1
  | .lit _ => 1
  | .nil => 1
  | .ptr d => uptoBulk d + 1
  | .slice elems spare => uptoBulkAll elems + uptoBulkAll spare + 1
  | .agg parts => uptoBulkAll parts + 1
  | .iface _ d => uptoBulk d + 1
  | .map entries => uptoBulkEntries entries + 1
  | .held _ => 1
def uptoBulkAll {H : Type} : List (DataW H) → Nat
  | [] => 0
  | d :: r => uptoBulk d + uptoBulkAll r
def uptoBulkEntries {H : Type} : List (Lit × DataW H) → Nat
  | [] => 0
  | x :: r => uptoBulkEntry x + uptoBulkEntries r
def uptoBulkEntry {H : Type} : Lit × DataW H → Nat
  | (.string bytes, d) => bytes.length + uptoBulk d + 1
  | (_, d) => uptoBulk d + 1
 end
def uptoSmall : (H : Type) → List (DataW H) → Bool := fun _ ds => decide (uptoBulkAll ds ≤ 1048576)
def OpenSpec.upto (s : _root_.Go.ChangeSpec) : _root_.Go.OpenSpec := { _root_.Go.OpenSpec.ofChange s with cond := some uptoSmall }

/-- 'vendmeterkeep.BookTurned', WHERE WHAT IT READS IS OF BULK AT MOST 1048576: true; the input reads as it did. -/
def bookTurnedUptoRow : OpenClaim := { program := "ytpcgpnkmjjamhaagreat", sum := "74f8c54285663e67af9b56fca613621131264fd74409c1f79c3f26266b83556d", func := "vendmeter/vendmeterkeep.BookTurned", spec := "bookTurned", inPlace := ["internal/reflectlite.ValueOf", "(internal/reflectlite.Value).Len", "internal/abi.NoEscape", "internal/bytealg.MakeNoZero"], unfollowed := true, recurses := true, named := ["math/bits.overflowError"], plainKeys := false, apart := false, narrowed := true }
def BookTurnedUptoSaid : Prop := bookTurnedUptoRow.holds Tryz.pinned (OpenSpec.upto bookTurnedSpec)

/-- 'vendmeterkeep.BookNumbers', WHERE WHAT IT READS IS OF BULK AT MOST 1048576: true; the input reads as it did. -/
def bookNumbersUptoRow : OpenClaim := { program := "ytpcgpnkmjjamhaagreat", sum := "74f8c54285663e67af9b56fca613621131264fd74409c1f79c3f26266b83556d", func := "vendmeter/vendmeterkeep.BookNumbers", spec := "bookNumbers", inPlace := ["internal/reflectlite.ValueOf", "(internal/reflectlite.Value).Len", "internal/abi.NoEscape", "internal/bytealg.MakeNoZero"], unfollowed := true, recurses := true, named := ["math/bits.overflowError"], plainKeys := false, apart := false, narrowed := true }
def BookNumbersUptoSaid : Prop := bookNumbersUptoRow.holds Tryz.pinned (OpenSpec.upto bookNumbersSpec)

/-- 'vendmeterkeep.BookGrows', WHERE WHAT IT READS IS OF BULK AT MOST 1048576: true; the input reads as it did. -/
def bookGrowsUptoRow : OpenClaim := { program := "ytpcgpnkmjjamhaagreat", sum := "74f8c54285663e67af9b56fca613621131264fd74409c1f79c3f26266b83556d", func := "vendmeter/vendmeterkeep.BookGrows", spec := "bookGrows", inPlace := ["internal/reflectlite.ValueOf", "(internal/reflectlite.Value).Len", "internal/abi.NoEscape", "internal/bytealg.MakeNoZero"], unfollowed := true, recurses := true, named := ["math/bits.overflowError"], plainKeys := false, apart := false, narrowed := true }
def BookGrowsUptoSaid : Prop := bookGrowsUptoRow.holds Tryz.pinned (OpenSpec.upto bookGrowsSpec)

/-- 'vendmeterkeep.VendCut', WHERE WHAT IT READS IS OF BULK AT MOST 1048576: true; the input reads as it did. -/
def vendCutUptoRow : OpenClaim := { program := "ytpcgpnkmjjamhaagreat", sum := "74f8c54285663e67af9b56fca613621131264fd74409c1f79c3f26266b83556d", func := "vendmeter/vendmeterkeep.VendCut", spec := "vendCut", inPlace := ["internal/reflectlite.ValueOf", "(internal/reflectlite.Value).Len", "internal/abi.NoEscape", "internal/bytealg.MakeNoZero"], unfollowed := true, recurses := true, named := ["math/bits.overflowError"], plainKeys := false, apart := false, narrowed := true }
def VendCutUptoSaid : Prop := vendCutUptoRow.holds Tryz.pinned (OpenSpec.upto vendCutSpec)

/-- 'vendmeterkeep.VendReprint', WHERE WHAT IT READS IS OF BULK AT MOST 1048576: true; the input reads as it did. -/
def vendReprintUptoRow : OpenClaim := { program := "ytpcgpnkmjjamhaagreat", sum := "74f8c54285663e67af9b56fca613621131264fd74409c1f79c3f26266b83556d", func := "vendmeter/vendmeterkeep.VendReprint", spec := "vendReprint", inPlace := ["internal/reflectlite.ValueOf", "(internal/reflectlite.Value).Len", "internal/abi.NoEscape", "internal/bytealg.MakeNoZero"], unfollowed := true, recurses := true, named := ["math/bits.overflowError"], plainKeys := false, apart := false, narrowed := true }
def VendReprintUptoSaid : Prop := vendReprintUptoRow.holds Tryz.pinned (OpenSpec.upto vendReprintSpec)

/-- 'vendmeterkeep.VendRetry', WHERE WHAT IT READS IS OF BULK AT MOST 1048576: true; the input reads as it did. -/
def vendRetryUptoRow : OpenClaim := { program := "ytpcgpnkmjjamhaagreat", sum := "74f8c54285663e67af9b56fca613621131264fd74409c1f79c3f26266b83556d", func := "vendmeter/vendmeterkeep.VendRetry", spec := "vendRetry", inPlace := ["internal/reflectlite.ValueOf", "(internal/reflectlite.Value).Len", "internal/abi.NoEscape", "internal/bytealg.MakeNoZero"], unfollowed := true, recurses := true, named := ["math/bits.overflowError"], plainKeys := false, apart := false, narrowed := true }
def VendRetryUptoSaid : Prop := vendRetryUptoRow.holds Tryz.pinned (OpenSpec.upto vendRetrySpec)

end Rows
end Go.Proofs.YtpcgpnkmjjamhaaGreat

/-
  No cell of these rows narrows 'for every input' (looked for: loops, veiled, ifaces, maps, wideKeys, modest, calm, conditions, laid).
  DERIVED. THE GIVEN ROWS OF THIS SEAT. 11 by the template 'for every input the law returns true; each argument reads behind the call as it read before'; 0 by the template 'total and deterministic' (their statements: YtfgiehkfcoodbaaGreatTotals.lean).
  GIVEN WITH THE SEED: the statements are not yours to turn. If you find one false, say at which input.
  Laid BY PROGRAM, IN A SANDBOX (cutbox-rows.mjs): the forced cells as the released guide's own fill.sh prints them over the translation af9e474a9f22b596… (all of the seat's roots in one cut). By AI agents, Wed Nov 11 2026. No macro, syntax, notation, axiom, sorry.
-/
import Derived.Test.YtfgiehkfcoodbaaGreatChecked
import GoSem.Claim
import GoSem.ClaimJoined
import GoSem.ClaimMapViews
import Derived.JoinedTies
import Derived.KernelRfl
namespace Go.Proofs.YtfgiehkfcoodbaaGreat
/- THE CELL 'sum', in the pinned program and in every row, IS THE sha256 OF THE DUMP (.gsa) THAT YtfgiehkfcoodbaaGreatProg.lean LOADS. Nothing in Lean hashes anything: it is a label: what it is worth is what the hold of that sum in a sandbox is worth. -/
noncomputable def Tryz.pinned : Pinned := { name := "ytfgiehkfcoodbaagreat", sum := "af9e474a9f22b596bbc876df59060628002f101e1fb41fd8cfd7cdcc0934688f", checked := Tryz.checked }
namespace Rows
def none {H : Type} : Left H := { results := [], args := [] }

/-- 'vendmetertop.TopServerCut': WHATEVER THE INPUT: true; the input reads as it did. -/
def topServerCutSpec : ChangeSpec := { name := "topServerCut", fn := fun _ => fun
  | [d1, d2] => { results := [.lit (.bool true)], args := [d1, d2] }
  | _ => none }
def topServerCutRow : OpenClaim := { program := "ytfgiehkfcoodbaagreat", sum := "af9e474a9f22b596bbc876df59060628002f101e1fb41fd8cfd7cdcc0934688f", func := "vendmeter/vendmetertop.TopServerCut", spec := "topServerCut", inPlace := ["internal/reflectlite.ValueOf", "(internal/reflectlite.Value).Len"], unfollowed := true, recurses := true, plainKeys := false, apart := false }
def TopServerCutSaid : Prop := topServerCutRow.holds Tryz.pinned (OpenSpec.ofChange topServerCutSpec)

/-- ITS FALSE NEIGHBOUR: 'it returns false'. Refute it at one input. -/
def topServerCutWrong : ChangeSpec := { name := "topServerCut", fn := fun _ => fun
  | [d1, d2] => { results := [.lit (.bool false)], args := [d1, d2] }
  | _ => none }
def TopServerCutWrongFalsely : Prop := topServerCutRow.holds Tryz.pinned (OpenSpec.ofChange topServerCutWrong)

/-- 'vendmetertop.TopDead': WHATEVER THE INPUT: true; the input reads as it did. -/
def topDeadSpec : ChangeSpec := { name := "topDead", fn := fun _ => fun
  | [d1, d2] => { results := [.lit (.bool true)], args := [d1, d2] }
  | _ => none }
def topDeadRow : OpenClaim := { program := "ytfgiehkfcoodbaagreat", sum := "af9e474a9f22b596bbc876df59060628002f101e1fb41fd8cfd7cdcc0934688f", func := "vendmeter/vendmetertop.TopDead", spec := "topDead", inPlace := ["internal/reflectlite.ValueOf", "(internal/reflectlite.Value).Len"], unfollowed := true, recurses := true, plainKeys := false, apart := false }
def TopDeadSaid : Prop := topDeadRow.holds Tryz.pinned (OpenSpec.ofChange topDeadSpec)

/-- ITS FALSE NEIGHBOUR: 'it returns false'. Refute it at one input. -/
def topDeadWrong : ChangeSpec := { name := "topDead", fn := fun _ => fun
  | [d1, d2] => { results := [.lit (.bool false)], args := [d1, d2] }
  | _ => none }
def TopDeadWrongFalsely : Prop := topDeadRow.holds Tryz.pinned (OpenSpec.ofChange topDeadWrong)

/-- 'vendmetertop.TopMoney': WHATEVER THE INPUT: true; the input reads as it did. -/
def topMoneySpec : ChangeSpec := { name := "topMoney", fn := fun _ => fun
  | [d1, d2] => { results := [.lit (.bool true)], args := [d1, d2] }
  | _ => none }
def topMoneyRow : OpenClaim := { program := "ytfgiehkfcoodbaagreat", sum := "af9e474a9f22b596bbc876df59060628002f101e1fb41fd8cfd7cdcc0934688f", func := "vendmeter/vendmetertop.TopMoney", spec := "topMoney", inPlace := ["internal/reflectlite.ValueOf", "(internal/reflectlite.Value).Len"], unfollowed := true, recurses := true, plainKeys := false, apart := false }
def TopMoneySaid : Prop := topMoneyRow.holds Tryz.pinned (OpenSpec.ofChange topMoneySpec)

/-- ITS FALSE NEIGHBOUR: 'it returns false'. Refute it at one input. -/
def topMoneyWrong : ChangeSpec := { name := "topMoney", fn := fun _ => fun
  | [d1, d2] => { results := [.lit (.bool false)], args := [d1, d2] }
  | _ => none }
def TopMoneyWrongFalsely : Prop := topMoneyRow.holds Tryz.pinned (OpenSpec.ofChange topMoneyWrong)

/-- 'vendmetertop.TopRefused': WHATEVER THE INPUT: true; the input reads as it did. -/
def topRefusedSpec : ChangeSpec := { name := "topRefused", fn := fun _ => fun
  | [d1, d2] => { results := [.lit (.bool true)], args := [d1, d2] }
  | _ => none }
def topRefusedRow : OpenClaim := { program := "ytfgiehkfcoodbaagreat", sum := "af9e474a9f22b596bbc876df59060628002f101e1fb41fd8cfd7cdcc0934688f", func := "vendmeter/vendmetertop.TopRefused", spec := "topRefused", inPlace := ["internal/reflectlite.ValueOf", "(internal/reflectlite.Value).Len"], unfollowed := true, recurses := true, plainKeys := false, apart := false }
def TopRefusedSaid : Prop := topRefusedRow.holds Tryz.pinned (OpenSpec.ofChange topRefusedSpec)

/-- ITS FALSE NEIGHBOUR: 'it returns false'. Refute it at one input. -/
def topRefusedWrong : ChangeSpec := { name := "topRefused", fn := fun _ => fun
  | [d1, d2] => { results := [.lit (.bool false)], args := [d1, d2] }
  | _ => none }
def TopRefusedWrongFalsely : Prop := topRefusedRow.holds Tryz.pinned (OpenSpec.ofChange topRefusedWrong)

/-- 'vendmetertop.TopNumbers': WHATEVER THE INPUT: true; the input reads as it did. -/
def topNumbersSpec : ChangeSpec := { name := "topNumbers", fn := fun _ => fun
  | [d1, d2] => { results := [.lit (.bool true)], args := [d1, d2] }
  | _ => none }
def topNumbersRow : OpenClaim := { program := "ytfgiehkfcoodbaagreat", sum := "af9e474a9f22b596bbc876df59060628002f101e1fb41fd8cfd7cdcc0934688f", func := "vendmeter/vendmetertop.TopNumbers", spec := "topNumbers", inPlace := ["internal/reflectlite.ValueOf", "(internal/reflectlite.Value).Len"], unfollowed := true, recurses := true, plainKeys := false, apart := false }
def TopNumbersSaid : Prop := topNumbersRow.holds Tryz.pinned (OpenSpec.ofChange topNumbersSpec)

/-- ITS FALSE NEIGHBOUR: 'it returns false'. Refute it at one input. -/
def topNumbersWrong : ChangeSpec := { name := "topNumbers", fn := fun _ => fun
  | [d1, d2] => { results := [.lit (.bool false)], args := [d1, d2] }
  | _ => none }
def TopNumbersWrongFalsely : Prop := topNumbersRow.holds Tryz.pinned (OpenSpec.ofChange topNumbersWrong)

/-- 'vendmetertop.TopAllowance': WHATEVER THE INPUT: true; the input reads as it did. -/
def topAllowanceSpec : ChangeSpec := { name := "topAllowance", fn := fun _ => fun
  | [d1, d2] => { results := [.lit (.bool true)], args := [d1, d2] }
  | _ => none }
def topAllowanceRow : OpenClaim := { program := "ytfgiehkfcoodbaagreat", sum := "af9e474a9f22b596bbc876df59060628002f101e1fb41fd8cfd7cdcc0934688f", func := "vendmeter/vendmetertop.TopAllowance", spec := "topAllowance", inPlace := ["internal/reflectlite.ValueOf", "(internal/reflectlite.Value).Len"], unfollowed := true, recurses := true, plainKeys := false, apart := false }
def TopAllowanceSaid : Prop := topAllowanceRow.holds Tryz.pinned (OpenSpec.ofChange topAllowanceSpec)

/-- ITS FALSE NEIGHBOUR: 'it returns false'. Refute it at one input. -/
def topAllowanceWrong : ChangeSpec := { name := "topAllowance", fn := fun _ => fun
  | [d1, d2] => { results := [.lit (.bool false)], args := [d1, d2] }
  | _ => none }
def TopAllowanceWrongFalsely : Prop := topAllowanceRow.holds Tryz.pinned (OpenSpec.ofChange topAllowanceWrong)

/-- 'vendmetertop.TopGood': WHATEVER THE INPUT: true; the input reads as it did. -/
def topGoodSpec : ChangeSpec := { name := "topGood", fn := fun _ => fun
  | [d1, d2, d3, d4, d5] => { results := [.lit (.bool true)], args := [d1, d2, d3, d4, d5] }
  | _ => none }
def topGoodRow : OpenClaim := { program := "ytfgiehkfcoodbaagreat", sum := "af9e474a9f22b596bbc876df59060628002f101e1fb41fd8cfd7cdcc0934688f", func := "vendmeter/vendmetertop.TopGood", spec := "topGood", inPlace := ["internal/reflectlite.ValueOf", "(internal/reflectlite.Value).Len"], unfollowed := true, recurses := true, plainKeys := false, apart := false }
def TopGoodSaid : Prop := topGoodRow.holds Tryz.pinned (OpenSpec.ofChange topGoodSpec)

/-- ITS FALSE NEIGHBOUR: 'it returns false'. Refute it at one input. -/
def topGoodWrong : ChangeSpec := { name := "topGood", fn := fun _ => fun
  | [d1, d2, d3, d4, d5] => { results := [.lit (.bool false)], args := [d1, d2, d3, d4, d5] }
  | _ => none }
def TopGoodWrongFalsely : Prop := topGoodRow.holds Tryz.pinned (OpenSpec.ofChange topGoodWrong)

/-- 'vendmetertop.TopBalance': WHATEVER THE INPUT: true; the input reads as it did. -/
def topBalanceSpec : ChangeSpec := { name := "topBalance", fn := fun _ => fun
  | [d1, d2] => { results := [.lit (.bool true)], args := [d1, d2] }
  | _ => none }
def topBalanceRow : OpenClaim := { program := "ytfgiehkfcoodbaagreat", sum := "af9e474a9f22b596bbc876df59060628002f101e1fb41fd8cfd7cdcc0934688f", func := "vendmeter/vendmetertop.TopBalance", spec := "topBalance", inPlace := ["internal/reflectlite.ValueOf", "(internal/reflectlite.Value).Len"], unfollowed := true, recurses := true, plainKeys := false, apart := false }
def TopBalanceSaid : Prop := topBalanceRow.holds Tryz.pinned (OpenSpec.ofChange topBalanceSpec)

/-- ITS FALSE NEIGHBOUR: 'it returns false'. Refute it at one input. -/
def topBalanceWrong : ChangeSpec := { name := "topBalance", fn := fun _ => fun
  | [d1, d2] => { results := [.lit (.bool false)], args := [d1, d2] }
  | _ => none }
def TopBalanceWrongFalsely : Prop := topBalanceRow.holds Tryz.pinned (OpenSpec.ofChange topBalanceWrong)

/-- 'vendmetertop.TopMonth': WHATEVER THE INPUT: true; the input reads as it did. -/
def topMonthSpec : ChangeSpec := { name := "topMonth", fn := fun _ => fun
  | [d1, d2] => { results := [.lit (.bool true)], args := [d1, d2] }
  | _ => none }
def topMonthRow : OpenClaim := { program := "ytfgiehkfcoodbaagreat", sum := "af9e474a9f22b596bbc876df59060628002f101e1fb41fd8cfd7cdcc0934688f", func := "vendmeter/vendmetertop.TopMonth", spec := "topMonth", inPlace := ["internal/reflectlite.ValueOf", "(internal/reflectlite.Value).Len"], unfollowed := true, recurses := true, plainKeys := false, apart := false }
def TopMonthSaid : Prop := topMonthRow.holds Tryz.pinned (OpenSpec.ofChange topMonthSpec)

/-- ITS FALSE NEIGHBOUR: 'it returns false'. Refute it at one input. -/
def topMonthWrong : ChangeSpec := { name := "topMonth", fn := fun _ => fun
  | [d1, d2] => { results := [.lit (.bool false)], args := [d1, d2] }
  | _ => none }
def TopMonthWrongFalsely : Prop := topMonthRow.holds Tryz.pinned (OpenSpec.ofChange topMonthWrong)

/-- 'vendmetertop.TopApart': WHATEVER THE INPUT: true; the input reads as it did. -/
def topApartSpec : ChangeSpec := { name := "topApart", fn := fun _ => fun
  | [d1, d2, d3, d4] => { results := [.lit (.bool true)], args := [d1, d2, d3, d4] }
  | _ => none }
def topApartRow : OpenClaim := { program := "ytfgiehkfcoodbaagreat", sum := "af9e474a9f22b596bbc876df59060628002f101e1fb41fd8cfd7cdcc0934688f", func := "vendmeter/vendmetertop.TopApart", spec := "topApart", inPlace := ["internal/reflectlite.ValueOf", "(internal/reflectlite.Value).Len"], unfollowed := true, recurses := true, plainKeys := false, apart := false }
def TopApartSaid : Prop := topApartRow.holds Tryz.pinned (OpenSpec.ofChange topApartSpec)

/-- ITS FALSE NEIGHBOUR: 'it returns false'. Refute it at one input. -/
def topApartWrong : ChangeSpec := { name := "topApart", fn := fun _ => fun
  | [d1, d2, d3, d4] => { results := [.lit (.bool false)], args := [d1, d2, d3, d4] }
  | _ => none }
def TopApartWrongFalsely : Prop := topApartRow.holds Tryz.pinned (OpenSpec.ofChange topApartWrong)

/-- 'vendmetertop.TopRetry': WHATEVER THE INPUT: true; the input reads as it did. -/
def topRetrySpec : ChangeSpec := { name := "topRetry", fn := fun _ => fun
  | [d1, d2, d3, d4, d5] => { results := [.lit (.bool true)], args := [d1, d2, d3, d4, d5] }
  | _ => none }
def topRetryRow : OpenClaim := { program := "ytfgiehkfcoodbaagreat", sum := "af9e474a9f22b596bbc876df59060628002f101e1fb41fd8cfd7cdcc0934688f", func := "vendmeter/vendmetertop.TopRetry", spec := "topRetry", inPlace := ["internal/reflectlite.ValueOf", "(internal/reflectlite.Value).Len"], unfollowed := true, recurses := true, plainKeys := false, apart := false }
def TopRetrySaid : Prop := topRetryRow.holds Tryz.pinned (OpenSpec.ofChange topRetrySpec)

/-- ITS FALSE NEIGHBOUR: 'it returns false'. Refute it at one input. -/
def topRetryWrong : ChangeSpec := { name := "topRetry", fn := fun _ => fun
  | [d1, d2, d3, d4, d5] => { results := [.lit (.bool false)], args := [d1, d2, d3, d4, d5] }
  | _ => none }
def TopRetryWrongFalsely : Prop := topRetryRow.holds Tryz.pinned (OpenSpec.ofChange topRetryWrong)

/- THE SECOND FORM. 'bulk': how many values and letters a reading holds, each counted each time it is reached (what is shared counts as often as it is met; a slice's spare places count too). A statement '..UptoSaid' is the law's where the arguments, and the package variables that the reading takes, are together of bulk at most 1048576: NARROWER than '..Said'. Prove '..Said' where nothing that the law and all that it calls make is longer than what came in: it says more and counts as full. Else prove '..UptoSaid'. A law counts once. -/
mutual
def uptoBulk {H : Type} : DataW H → Nat
  | .lit (.string bytes) => bytes.length + 1
  | .lit _ => 1
  | .nil => 1
  | .ptr d => uptoBulk d + 1
  | .slice elems spare => uptoBulkAll elems + uptoBulkAll spare + 1
  | .agg parts => uptoBulkAll parts + 1
  | .iface _ d => uptoBulk d + 1
  | .map entries => uptoBulkEntries entries + 1
  | .held _ => 1
def uptoBulkAll {H : Type} : List (DataW H) → Nat
  | [] => 0
  | d :: r => uptoBulk d + uptoBulkAll r
def uptoBulkEntries {H : Type} : List (Lit × DataW H) → Nat
  | [] => 0
  | x :: r => uptoBulkEntry x + uptoBulkEntries r
def uptoBulkEntry {H : Type} : Lit × DataW H → Nat
  | (.string bytes, d) => bytes.length + uptoBulk d + 1
  | (_, d) => uptoBulk d + 1
 end
def uptoSmall : (H : Type) → List (DataW H) → Bool := fun _ ds => decide (uptoBulkAll ds ≤ 1048576)
def OpenSpec.upto (s : _root_.Go.ChangeSpec) : _root_.Go.OpenSpec := { _root_.Go.OpenSpec.ofChange s with cond := some uptoSmall }

/-- 'vendmetertop.TopServerCut', WHERE WHAT IT READS IS OF BULK AT MOST 1048576: true; the input reads as it did. -/
def topServerCutUptoRow : OpenClaim := { program := "ytfgiehkfcoodbaagreat", sum := "af9e474a9f22b596bbc876df59060628002f101e1fb41fd8cfd7cdcc0934688f", func := "vendmeter/vendmetertop.TopServerCut", spec := "topServerCut", inPlace := ["internal/reflectlite.ValueOf", "(internal/reflectlite.Value).Len"], unfollowed := true, recurses := true, plainKeys := false, apart := false, narrowed := true }
def TopServerCutUptoSaid : Prop := topServerCutUptoRow.holds Tryz.pinned (OpenSpec.upto topServerCutSpec)

/-- 'vendmetertop.TopDead', WHERE WHAT IT READS IS OF BULK AT MOST 1048576: true; the input reads as it did. -/
def topDeadUptoRow : OpenClaim := { program := "ytfgiehkfcoodbaagreat", sum := "af9e474a9f22b596bbc876df59060628002f101e1fb41fd8cfd7cdcc0934688f", func := "vendmeter/vendmetertop.TopDead", spec := "topDead", inPlace := ["internal/reflectlite.ValueOf", "(internal/reflectlite.Value).Len"], unfollowed := true, recurses := true, plainKeys := false, apart := false, narrowed := true }
def TopDeadUptoSaid : Prop := topDeadUptoRow.holds Tryz.pinned (OpenSpec.upto topDeadSpec)

/-- 'vendmetertop.TopMoney', WHERE WHAT IT READS IS OF BULK AT MOST 1048576: true; the input reads as it did. -/
def topMoneyUptoRow : OpenClaim := { program := "ytfgiehkfcoodbaagreat", sum := "af9e474a9f22b596bbc876df59060628002f101e1fb41fd8cfd7cdcc0934688f", func := "vendmeter/vendmetertop.TopMoney", spec := "topMoney", inPlace := ["internal/reflectlite.ValueOf", "(internal/reflectlite.Value).Len"], unfollowed := true, recurses := true, plainKeys := false, apart := false, narrowed := true }
def TopMoneyUptoSaid : Prop := topMoneyUptoRow.holds Tryz.pinned (OpenSpec.upto topMoneySpec)

/-- 'vendmetertop.TopRefused', WHERE WHAT IT READS IS OF BULK AT MOST 1048576: true; the input reads as it did. -/
def topRefusedUptoRow : OpenClaim := { program := "ytfgiehkfcoodbaagreat", sum := "af9e474a9f22b596bbc876df59060628002f101e1fb41fd8cfd7cdcc0934688f", func := "vendmeter/vendmetertop.TopRefused", spec := "topRefused", inPlace := ["internal/reflectlite.ValueOf", "(internal/reflectlite.Value).Len"], unfollowed := true, recurses := true, plainKeys := false, apart := false, narrowed := true }
def TopRefusedUptoSaid : Prop := topRefusedUptoRow.holds Tryz.pinned (OpenSpec.upto topRefusedSpec)

/-- 'vendmetertop.TopNumbers', WHERE WHAT IT READS IS OF BULK AT MOST 1048576: true; the input reads as it did. -/
def topNumbersUptoRow : OpenClaim := { program := "ytfgiehkfcoodbaagreat", sum := "af9e474a9f22b596bbc876df59060628002f101e1fb41fd8cfd7cdcc0934688f", func := "vendmeter/vendmetertop.TopNumbers", spec := "topNumbers", inPlace := ["internal/reflectlite.ValueOf", "(internal/reflectlite.Value).Len"], unfollowed := true, recurses := true, plainKeys := false, apart := false, narrowed := true }
def TopNumbersUptoSaid : Prop := topNumbersUptoRow.holds Tryz.pinned (OpenSpec.upto topNumbersSpec)

/-- 'vendmetertop.TopAllowance', WHERE WHAT IT READS IS OF BULK AT MOST 1048576: true; the input reads as it did. -/
def topAllowanceUptoRow : OpenClaim := { program := "ytfgiehkfcoodbaagreat", sum := "af9e474a9f22b596bbc876df59060628002f101e1fb41fd8cfd7cdcc0934688f", func := "vendmeter/vendmetertop.TopAllowance", spec := "topAllowance", inPlace := ["internal/reflectlite.ValueOf", "(internal/reflectlite.Value).Len"], unfollowed := true, recurses := true, plainKeys := false, apart := false, narrowed := true }
def TopAllowanceUptoSaid : Prop := topAllowanceUptoRow.holds Tryz.pinned (OpenSpec.upto topAllowanceSpec)

/-- 'vendmetertop.TopGood', WHERE WHAT IT READS IS OF BULK AT MOST 1048576: true; the input reads as it did. -/
def topGoodUptoRow : OpenClaim := { program := "ytfgiehkfcoodbaagreat", sum := "af9e474a9f22b596bbc876df59060628002f101e1fb41fd8cfd7cdcc0934688f", func := "vendmeter/vendmetertop.TopGood", spec := "topGood", inPlace := ["internal/reflectlite.ValueOf", "(internal/reflectlite.Value).Len"], unfollowed := true, recurses := true, plainKeys := false, apart := false, narrowed := true }
def TopGoodUptoSaid : Prop := topGoodUptoRow.holds Tryz.pinned (OpenSpec.upto topGoodSpec)

/-- 'vendmetertop.TopBalance', WHERE WHAT IT READS IS OF BULK AT MOST 1048576: true; the input reads as it did. -/
def topBalanceUptoRow : OpenClaim := { program := "ytfgiehkfcoodbaagreat", sum := "af9e474a9f22b596bbc876df59060628002f101e1fb41fd8cfd7cdcc0934688f", func := "vendmeter/vendmetertop.TopBalance", spec := "topBalance", inPlace := ["internal/reflectlite.ValueOf", "(internal/reflectlite.Value).Len"], unfollowed := true, recurses := true, plainKeys := false, apart := false, narrowed := true }
def TopBalanceUptoSaid : Prop := topBalanceUptoRow.holds Tryz.pinned (OpenSpec.upto topBalanceSpec)

/-- 'vendmetertop.TopMonth', WHERE WHAT IT READS IS OF BULK AT MOST 1048576: true; the input reads as it did. -/
def topMonthUptoRow : OpenClaim := { program := "ytfgiehkfcoodbaagreat", sum := "af9e474a9f22b596bbc876df59060628002f101e1fb41fd8cfd7cdcc0934688f", func := "vendmeter/vendmetertop.TopMonth", spec := "topMonth", inPlace := ["internal/reflectlite.ValueOf", "(internal/reflectlite.Value).Len"], unfollowed := true, recurses := true, plainKeys := false, apart := false, narrowed := true }
def TopMonthUptoSaid : Prop := topMonthUptoRow.holds Tryz.pinned (OpenSpec.upto topMonthSpec)

/-- 'vendmetertop.TopApart', WHERE WHAT IT READS IS OF BULK AT MOST 1048576: true; the input reads as it did. -/
def topApartUptoRow : OpenClaim := { program := "ytfgiehkfcoodbaagreat", sum := "af9e474a9f22b596bbc876df59060628002f101e1fb41fd8cfd7cdcc0934688f", func := "vendmeter/vendmetertop.TopApart", spec := "topApart", inPlace := ["internal/reflectlite.ValueOf", "(internal/reflectlite.Value).Len"], unfollowed := true, recurses := true, plainKeys := false, apart := false, narrowed := true }
def TopApartUptoSaid : Prop := topApartUptoRow.holds Tryz.pinned (OpenSpec.upto topApartSpec)

/-- 'vendmetertop.TopRetry', WHERE WHAT IT READS IS OF BULK AT MOST 1048576: true; the input reads as it did. -/
def topRetryUptoRow : OpenClaim := { program := "ytfgiehkfcoodbaagreat", sum := "af9e474a9f22b596bbc876df59060628002f101e1fb41fd8cfd7cdcc0934688f", func := "vendmeter/vendmetertop.TopRetry", spec := "topRetry", inPlace := ["internal/reflectlite.ValueOf", "(internal/reflectlite.Value).Len"], unfollowed := true, recurses := true, plainKeys := false, apart := false, narrowed := true }
def TopRetryUptoSaid : Prop := topRetryUptoRow.holds Tryz.pinned (OpenSpec.upto topRetrySpec)

end Rows
end Go.Proofs.YtfgiehkfcoodbaaGreat

/-
  No cell of these rows narrows 'for every input' (looked for: loops, veiled, ifaces, maps, wideKeys, modest, calm, conditions, laid).
  DERIVED. THE GIVEN ROWS OF THIS SEAT. 12 by the template 'for every input the law returns true; each argument reads behind the call as it read before'; 0 by the template 'total and deterministic' (their statements: YtfifkfkbfllnfaaTotals.lean).
  GIVEN WITH THE SEED: the statements are not yours to turn. If you find one false, say at which input.
  Laid BY PROGRAM, IN A SANDBOX (cutbox-rows.mjs): the forced cells as the released guide's own fill.sh prints them over the translation d51df8278eaafaef… (all of the seat's roots in one cut). By AI agents, Wed Nov 11 2026. No macro, syntax, notation, axiom, sorry.
-/
import Derived.Test.YtfifkfkbfllnfaaChecked
import GoSem.Claim
import GoSem.ClaimJoined
import GoSem.ClaimMapViews
import Derived.JoinedTies
import Derived.KernelRfl
namespace Go.Proofs.Ytfifkfkbfllnfaa
/- THE CELL 'sum', in the pinned program and in every row, IS THE sha256 OF THE DUMP (.gsa) THAT YtfifkfkbfllnfaaProg.lean LOADS. Nothing in Lean hashes anything: it is a label: what it is worth is what the hold of that sum in a sandbox is worth. -/
noncomputable def Try.pinned : Pinned := { name := "ytfifkfkbfllnfaa", sum := "d51df8278eaafaef63fdbf99d9dd76e683e7f5c11bf2bffca1d9db893b1bfdb3", checked := Try.checked }
namespace Rows
def none {H : Type} : Left H := { results := [], args := [] }

/-- 'vendmeterkeep.OracleAgain': WHATEVER THE INPUT: true; the input reads as it did. -/
def oracleAgainSpec : ChangeSpec := { name := "oracleAgain", fn := fun _ => fun
  | [d1, d2, d3] => { results := [.lit (.bool true)], args := [d1, d2, d3] }
  | _ => none }
def oracleAgainRow : OpenClaim := { program := "ytfifkfkbfllnfaa", sum := "d51df8278eaafaef63fdbf99d9dd76e683e7f5c11bf2bffca1d9db893b1bfdb3", func := "vendmeter/vendmeterkeep.OracleAgain", spec := "oracleAgain", plainKeys := false, apart := false }
def OracleAgainSaid : Prop := oracleAgainRow.holds Try.pinned (OpenSpec.ofChange oracleAgainSpec)

/-- ITS FALSE NEIGHBOUR: 'it returns false'. Refute it at one input. -/
def oracleAgainWrong : ChangeSpec := { name := "oracleAgain", fn := fun _ => fun
  | [d1, d2, d3] => { results := [.lit (.bool false)], args := [d1, d2, d3] }
  | _ => none }
def OracleAgainWrongFalsely : Prop := oracleAgainRow.holds Try.pinned (OpenSpec.ofChange oracleAgainWrong)

/-- 'vendmeterkeep.EventBack': WHATEVER THE INPUT: true; the input reads as it did. -/
def eventBackSpec : ChangeSpec := { name := "eventBack", fn := fun _ => fun
  | [d] => { results := [.lit (.bool true)], args := [d] }
  | _ => none }
def eventBackRow : OpenClaim := { program := "ytfifkfkbfllnfaa", sum := "d51df8278eaafaef63fdbf99d9dd76e683e7f5c11bf2bffca1d9db893b1bfdb3", func := "vendmeter/vendmeterkeep.EventBack", spec := "eventBack", unfollowed := true, recurses := true, plainKeys := false, apart := false }
def EventBackSaid : Prop := eventBackRow.holds Try.pinned (OpenSpec.ofChange eventBackSpec)

/-- ITS FALSE NEIGHBOUR: 'it returns false'. Refute it at one input. -/
def eventBackWrong : ChangeSpec := { name := "eventBack", fn := fun _ => fun
  | [d] => { results := [.lit (.bool false)], args := [d] }
  | _ => none }
def EventBackWrongFalsely : Prop := eventBackRow.holds Try.pinned (OpenSpec.ofChange eventBackWrong)

/-- 'vendmeterkeep.EventFixed': WHATEVER THE INPUT: true; the input reads as it did. -/
def eventFixedSpec : ChangeSpec := { name := "eventFixed", fn := fun _ => fun
  | [d] => { results := [.lit (.bool true)], args := [d] }
  | _ => none }
def eventFixedRow : OpenClaim := { program := "ytfifkfkbfllnfaa", sum := "d51df8278eaafaef63fdbf99d9dd76e683e7f5c11bf2bffca1d9db893b1bfdb3", func := "vendmeter/vendmeterkeep.EventFixed", spec := "eventFixed", unfollowed := true, recurses := true, plainKeys := false, apart := false }
def EventFixedSaid : Prop := eventFixedRow.holds Try.pinned (OpenSpec.ofChange eventFixedSpec)

/-- ITS FALSE NEIGHBOUR: 'it returns false'. Refute it at one input. -/
def eventFixedWrong : ChangeSpec := { name := "eventFixed", fn := fun _ => fun
  | [d] => { results := [.lit (.bool false)], args := [d] }
  | _ => none }
def EventFixedWrongFalsely : Prop := eventFixedRow.holds Try.pinned (OpenSpec.ofChange eventFixedWrong)

/-- 'vendmeterkeep.DiskBack': WHATEVER THE INPUT: true; the input reads as it did. -/
def diskBackSpec : ChangeSpec := { name := "diskBack", fn := fun _ => fun
  | [d1, d2] => { results := [.lit (.bool true)], args := [d1, d2] }
  | _ => none }
def diskBackRow : OpenClaim := { program := "ytfifkfkbfllnfaa", sum := "d51df8278eaafaef63fdbf99d9dd76e683e7f5c11bf2bffca1d9db893b1bfdb3", func := "vendmeter/vendmeterkeep.DiskBack", spec := "diskBack", unfollowed := true, recurses := true, plainKeys := false, apart := false }
def DiskBackSaid : Prop := diskBackRow.holds Try.pinned (OpenSpec.ofChange diskBackSpec)

/-- ITS FALSE NEIGHBOUR: 'it returns false'. Refute it at one input. -/
def diskBackWrong : ChangeSpec := { name := "diskBack", fn := fun _ => fun
  | [d1, d2] => { results := [.lit (.bool false)], args := [d1, d2] }
  | _ => none }
def DiskBackWrongFalsely : Prop := diskBackRow.holds Try.pinned (OpenSpec.ofChange diskBackWrong)

/-- 'vendmeterkeep.DiskCut': WHATEVER THE INPUT: true; the input reads as it did. -/
def diskCutSpec : ChangeSpec := { name := "diskCut", fn := fun _ => fun
  | [d1, d2, d3] => { results := [.lit (.bool true)], args := [d1, d2, d3] }
  | _ => none }
def diskCutRow : OpenClaim := { program := "ytfifkfkbfllnfaa", sum := "d51df8278eaafaef63fdbf99d9dd76e683e7f5c11bf2bffca1d9db893b1bfdb3", func := "vendmeter/vendmeterkeep.DiskCut", spec := "diskCut", unfollowed := true, recurses := true, plainKeys := false, apart := false }
def DiskCutSaid : Prop := diskCutRow.holds Try.pinned (OpenSpec.ofChange diskCutSpec)

/-- ITS FALSE NEIGHBOUR: 'it returns false'. Refute it at one input. -/
def diskCutWrong : ChangeSpec := { name := "diskCut", fn := fun _ => fun
  | [d1, d2, d3] => { results := [.lit (.bool false)], args := [d1, d2, d3] }
  | _ => none }
def DiskCutWrongFalsely : Prop := diskCutRow.holds Try.pinned (OpenSpec.ofChange diskCutWrong)

/-- 'vendmeterkeep.DiskRetry': WHATEVER THE INPUT: true; the input reads as it did. -/
def diskRetrySpec : ChangeSpec := { name := "diskRetry", fn := fun _ => fun
  | [d1, d2, d3, d4] => { results := [.lit (.bool true)], args := [d1, d2, d3, d4] }
  | _ => none }
def diskRetryRow : OpenClaim := { program := "ytfifkfkbfllnfaa", sum := "d51df8278eaafaef63fdbf99d9dd76e683e7f5c11bf2bffca1d9db893b1bfdb3", func := "vendmeter/vendmeterkeep.DiskRetry", spec := "diskRetry", unfollowed := true, recurses := true, plainKeys := false, apart := false }
def DiskRetrySaid : Prop := diskRetryRow.holds Try.pinned (OpenSpec.ofChange diskRetrySpec)

/-- ITS FALSE NEIGHBOUR: 'it returns false'. Refute it at one input. -/
def diskRetryWrong : ChangeSpec := { name := "diskRetry", fn := fun _ => fun
  | [d1, d2, d3, d4] => { results := [.lit (.bool false)], args := [d1, d2, d3, d4] }
  | _ => none }
def DiskRetryWrongFalsely : Prop := diskRetryRow.holds Try.pinned (OpenSpec.ofChange diskRetryWrong)

/-- 'vendmeterkeep.SlotBack': WHATEVER THE INPUT: true; the input reads as it did. -/
def slotBackSpec : ChangeSpec := { name := "slotBack", fn := fun _ => fun
  | [d1, d2] => { results := [.lit (.bool true)], args := [d1, d2] }
  | _ => none }
def slotBackRow : OpenClaim := { program := "ytfifkfkbfllnfaa", sum := "d51df8278eaafaef63fdbf99d9dd76e683e7f5c11bf2bffca1d9db893b1bfdb3", func := "vendmeter/vendmeterkeep.SlotBack", spec := "slotBack", unfollowed := true, recurses := true, plainKeys := false, apart := false }
def SlotBackSaid : Prop := slotBackRow.holds Try.pinned (OpenSpec.ofChange slotBackSpec)

/-- ITS FALSE NEIGHBOUR: 'it returns false'. Refute it at one input. -/
def slotBackWrong : ChangeSpec := { name := "slotBack", fn := fun _ => fun
  | [d1, d2] => { results := [.lit (.bool false)], args := [d1, d2] }
  | _ => none }
def SlotBackWrongFalsely : Prop := slotBackRow.holds Try.pinned (OpenSpec.ofChange slotBackWrong)

/-- 'vendmeterkeep.SlotCut': WHATEVER THE INPUT: true; the input reads as it did. -/
def slotCutSpec : ChangeSpec := { name := "slotCut", fn := fun _ => fun
  | [d1, d2, d3, d4] => { results := [.lit (.bool true)], args := [d1, d2, d3, d4] }
  | _ => none }
def slotCutRow : OpenClaim := { program := "ytfifkfkbfllnfaa", sum := "d51df8278eaafaef63fdbf99d9dd76e683e7f5c11bf2bffca1d9db893b1bfdb3", func := "vendmeter/vendmeterkeep.SlotCut", spec := "slotCut", unfollowed := true, recurses := true, plainKeys := false, apart := false }
def SlotCutSaid : Prop := slotCutRow.holds Try.pinned (OpenSpec.ofChange slotCutSpec)

/-- ITS FALSE NEIGHBOUR: 'it returns false'. Refute it at one input. -/
def slotCutWrong : ChangeSpec := { name := "slotCut", fn := fun _ => fun
  | [d1, d2, d3, d4] => { results := [.lit (.bool false)], args := [d1, d2, d3, d4] }
  | _ => none }
def SlotCutWrongFalsely : Prop := slotCutRow.holds Try.pinned (OpenSpec.ofChange slotCutWrong)

/-- 'vendmeterkeep.SlotRetry': WHATEVER THE INPUT: true; the input reads as it did. -/
def slotRetrySpec : ChangeSpec := { name := "slotRetry", fn := fun _ => fun
  | [d1, d2, d3, d4] => { results := [.lit (.bool true)], args := [d1, d2, d3, d4] }
  | _ => none }
def slotRetryRow : OpenClaim := { program := "ytfifkfkbfllnfaa", sum := "d51df8278eaafaef63fdbf99d9dd76e683e7f5c11bf2bffca1d9db893b1bfdb3", func := "vendmeter/vendmeterkeep.SlotRetry", spec := "slotRetry", unfollowed := true, recurses := true, plainKeys := false, apart := false }
def SlotRetrySaid : Prop := slotRetryRow.holds Try.pinned (OpenSpec.ofChange slotRetrySpec)

/-- ITS FALSE NEIGHBOUR: 'it returns false'. Refute it at one input. -/
def slotRetryWrong : ChangeSpec := { name := "slotRetry", fn := fun _ => fun
  | [d1, d2, d3, d4] => { results := [.lit (.bool false)], args := [d1, d2, d3, d4] }
  | _ => none }
def SlotRetryWrongFalsely : Prop := slotRetryRow.holds Try.pinned (OpenSpec.ofChange slotRetryWrong)

/-- 'vendmeterkeep.TariffAdds': WHATEVER THE INPUT: true; the input reads as it did. -/
def tariffAddsSpec : ChangeSpec := { name := "tariffAdds", fn := fun _ => fun
  | [d1, d2, d3, d4] => { results := [.lit (.bool true)], args := [d1, d2, d3, d4] }
  | _ => none }
def tariffAddsRow : OpenClaim := { program := "ytfifkfkbfllnfaa", sum := "d51df8278eaafaef63fdbf99d9dd76e683e7f5c11bf2bffca1d9db893b1bfdb3", func := "vendmeter/vendmeterkeep.TariffAdds", spec := "tariffAdds", inPlace := ["internal/reflectlite.ValueOf", "(internal/reflectlite.Value).Len"], unfollowed := true, recurses := true, plainKeys := false, apart := false }
def TariffAddsSaid : Prop := tariffAddsRow.holds Try.pinned (OpenSpec.ofChange tariffAddsSpec)

/-- ITS FALSE NEIGHBOUR: 'it returns false'. Refute it at one input. -/
def tariffAddsWrong : ChangeSpec := { name := "tariffAdds", fn := fun _ => fun
  | [d1, d2, d3, d4] => { results := [.lit (.bool false)], args := [d1, d2, d3, d4] }
  | _ => none }
def TariffAddsWrongFalsely : Prop := tariffAddsRow.holds Try.pinned (OpenSpec.ofChange tariffAddsWrong)

/-- 'vendmeterkeep.RollSteps': WHATEVER THE INPUT: true; the input reads as it did. -/
def rollStepsSpec : ChangeSpec := { name := "rollSteps", fn := fun _ => fun
  | [d1, d2, d3] => { results := [.lit (.bool true)], args := [d1, d2, d3] }
  | _ => none }
def rollStepsRow : OpenClaim := { program := "ytfifkfkbfllnfaa", sum := "d51df8278eaafaef63fdbf99d9dd76e683e7f5c11bf2bffca1d9db893b1bfdb3", func := "vendmeter/vendmeterkeep.RollSteps", spec := "rollSteps", inPlace := ["internal/reflectlite.ValueOf", "(internal/reflectlite.Value).Len"], unfollowed := true, recurses := true, plainKeys := false, apart := false }
def RollStepsSaid : Prop := rollStepsRow.holds Try.pinned (OpenSpec.ofChange rollStepsSpec)

/-- ITS FALSE NEIGHBOUR: 'it returns false'. Refute it at one input. -/
def rollStepsWrong : ChangeSpec := { name := "rollSteps", fn := fun _ => fun
  | [d1, d2, d3] => { results := [.lit (.bool false)], args := [d1, d2, d3] }
  | _ => none }
def RollStepsWrongFalsely : Prop := rollStepsRow.holds Try.pinned (OpenSpec.ofChange rollStepsWrong)

/-- 'vendmeterkeep.GrantOnce': WHATEVER THE INPUT: true; the input reads as it did. -/
def grantOnceSpec : ChangeSpec := { name := "grantOnce", fn := fun _ => fun
  | [d1, d2, d3] => { results := [.lit (.bool true)], args := [d1, d2, d3] }
  | _ => none }
def grantOnceRow : OpenClaim := { program := "ytfifkfkbfllnfaa", sum := "d51df8278eaafaef63fdbf99d9dd76e683e7f5c11bf2bffca1d9db893b1bfdb3", func := "vendmeter/vendmeterkeep.GrantOnce", spec := "grantOnce", inPlace := ["internal/reflectlite.ValueOf", "(internal/reflectlite.Value).Len"], unfollowed := true, recurses := true, plainKeys := false, apart := false }
def GrantOnceSaid : Prop := grantOnceRow.holds Try.pinned (OpenSpec.ofChange grantOnceSpec)

/-- ITS FALSE NEIGHBOUR: 'it returns false'. Refute it at one input. -/
def grantOnceWrong : ChangeSpec := { name := "grantOnce", fn := fun _ => fun
  | [d1, d2, d3] => { results := [.lit (.bool false)], args := [d1, d2, d3] }
  | _ => none }
def GrantOnceWrongFalsely : Prop := grantOnceRow.holds Try.pinned (OpenSpec.ofChange grantOnceWrong)

/- THE SECOND FORM. 'bulk': how many values and letters a reading holds, each counted each time it is reached (what is shared counts as often as it is met; a slice's spare places count too). A statement '..UptoSaid' is the law's where the arguments, and the package variables that the reading takes, are together of bulk at most 1048576: NARROWER than '..Said'. Prove '..Said' where nothing that the law and all that it calls make is longer than what came in: it says more and counts as full. Else prove '..UptoSaid'. A law counts once. -/
mutual
def uptoBulk {H : Type} : DataW H → Nat
  | .lit (.string bytes) => bytes.length + 1
  | .lit _ => 1
  | .nil => 1
  | .ptr d => uptoBulk d + 1
  | .slice elems spare => uptoBulkAll elems + uptoBulkAll spare + 1
  | .agg parts => uptoBulkAll parts + 1
  | .iface _ d => uptoBulk d + 1
  | .map entries => uptoBulkEntries entries + 1
  | .held _ => 1
def uptoBulkAll {H : Type} : List (DataW H) → Nat
  | [] => 0
  | d :: r => uptoBulk d + uptoBulkAll r
def uptoBulkEntries {H : Type} : List (Lit × DataW H) → Nat
  | [] => 0
  | x :: r => uptoBulkEntry x + uptoBulkEntries r
def uptoBulkEntry {H : Type} : Lit × DataW H → Nat
  | (.string bytes, d) => bytes.length + uptoBulk d + 1
  | (_, d) => uptoBulk d + 1
 end
def uptoSmall : (H : Type) → List (DataW H) → Bool := fun _ ds => decide (uptoBulkAll ds ≤ 1048576)
def OpenSpec.upto (s : _root_.Go.ChangeSpec) : _root_.Go.OpenSpec := { _root_.Go.OpenSpec.ofChange s with cond := some uptoSmall }

/-- 'vendmeterkeep.OracleAgain', WHERE WHAT IT READS IS OF BULK AT MOST 1048576: true; the input reads as it did. -/
def oracleAgainUptoRow : OpenClaim := { program := "ytfifkfkbfllnfaa", sum := "d51df8278eaafaef63fdbf99d9dd76e683e7f5c11bf2bffca1d9db893b1bfdb3", func := "vendmeter/vendmeterkeep.OracleAgain", spec := "oracleAgain", plainKeys := false, apart := false, narrowed := true }
def OracleAgainUptoSaid : Prop := oracleAgainUptoRow.holds Try.pinned (OpenSpec.upto oracleAgainSpec)

/-- 'vendmeterkeep.EventBack', WHERE WHAT IT READS IS OF BULK AT MOST 1048576: true; the input reads as it did. -/
def eventBackUptoRow : OpenClaim := { program := "ytfifkfkbfllnfaa", sum := "d51df8278eaafaef63fdbf99d9dd76e683e7f5c11bf2bffca1d9db893b1bfdb3", func := "vendmeter/vendmeterkeep.EventBack", spec := "eventBack", unfollowed := true, recurses := true, plainKeys := false, apart := false, narrowed := true }
def EventBackUptoSaid : Prop := eventBackUptoRow.holds Try.pinned (OpenSpec.upto eventBackSpec)

/-- 'vendmeterkeep.EventFixed', WHERE WHAT IT READS IS OF BULK AT MOST 1048576: true; the input reads as it did. -/
def eventFixedUptoRow : OpenClaim := { program := "ytfifkfkbfllnfaa", sum := "d51df8278eaafaef63fdbf99d9dd76e683e7f5c11bf2bffca1d9db893b1bfdb3", func := "vendmeter/vendmeterkeep.EventFixed", spec := "eventFixed", unfollowed := true, recurses := true, plainKeys := false, apart := false, narrowed := true }
def EventFixedUptoSaid : Prop := eventFixedUptoRow.holds Try.pinned (OpenSpec.upto eventFixedSpec)

/-- 'vendmeterkeep.DiskBack', WHERE WHAT IT READS IS OF BULK AT MOST 1048576: true; the input reads as it did. -/
def diskBackUptoRow : OpenClaim := { program := "ytfifkfkbfllnfaa", sum := "d51df8278eaafaef63fdbf99d9dd76e683e7f5c11bf2bffca1d9db893b1bfdb3", func := "vendmeter/vendmeterkeep.DiskBack", spec := "diskBack", unfollowed := true, recurses := true, plainKeys := false, apart := false, narrowed := true }
def DiskBackUptoSaid : Prop := diskBackUptoRow.holds Try.pinned (OpenSpec.upto diskBackSpec)

/-- 'vendmeterkeep.DiskCut', WHERE WHAT IT READS IS OF BULK AT MOST 1048576: true; the input reads as it did. -/
def diskCutUptoRow : OpenClaim := { program := "ytfifkfkbfllnfaa", sum := "d51df8278eaafaef63fdbf99d9dd76e683e7f5c11bf2bffca1d9db893b1bfdb3", func := "vendmeter/vendmeterkeep.DiskCut", spec := "diskCut", unfollowed := true, recurses := true, plainKeys := false, apart := false, narrowed := true }
def DiskCutUptoSaid : Prop := diskCutUptoRow.holds Try.pinned (OpenSpec.upto diskCutSpec)

/-- 'vendmeterkeep.DiskRetry', WHERE WHAT IT READS IS OF BULK AT MOST 1048576: true; the input reads as it did. -/
def diskRetryUptoRow : OpenClaim := { program := "ytfifkfkbfllnfaa", sum := "d51df8278eaafaef63fdbf99d9dd76e683e7f5c11bf2bffca1d9db893b1bfdb3", func := "vendmeter/vendmeterkeep.DiskRetry", spec := "diskRetry", unfollowed := true, recurses := true, plainKeys := false, apart := false, narrowed := true }
def DiskRetryUptoSaid : Prop := diskRetryUptoRow.holds Try.pinned (OpenSpec.upto diskRetrySpec)

/-- 'vendmeterkeep.SlotBack', WHERE WHAT IT READS IS OF BULK AT MOST 1048576: true; the input reads as it did. -/
def slotBackUptoRow : OpenClaim := { program := "ytfifkfkbfllnfaa", sum := "d51df8278eaafaef63fdbf99d9dd76e683e7f5c11bf2bffca1d9db893b1bfdb3", func := "vendmeter/vendmeterkeep.SlotBack", spec := "slotBack", unfollowed := true, recurses := true, plainKeys := false, apart := false, narrowed := true }
def SlotBackUptoSaid : Prop := slotBackUptoRow.holds Try.pinned (OpenSpec.upto slotBackSpec)

/-- 'vendmeterkeep.SlotCut', WHERE WHAT IT READS IS OF BULK AT MOST 1048576: true; the input reads as it did. -/
def slotCutUptoRow : OpenClaim := { program := "ytfifkfkbfllnfaa", sum := "d51df8278eaafaef63fdbf99d9dd76e683e7f5c11bf2bffca1d9db893b1bfdb3", func := "vendmeter/vendmeterkeep.SlotCut", spec := "slotCut", unfollowed := true, recurses := true, plainKeys := false, apart := false, narrowed := true }
def SlotCutUptoSaid : Prop := slotCutUptoRow.holds Try.pinned (OpenSpec.upto slotCutSpec)

/-- 'vendmeterkeep.SlotRetry', WHERE WHAT IT READS IS OF BULK AT MOST 1048576: true; the input reads as it did. -/
def slotRetryUptoRow : OpenClaim := { program := "ytfifkfkbfllnfaa", sum := "d51df8278eaafaef63fdbf99d9dd76e683e7f5c11bf2bffca1d9db893b1bfdb3", func := "vendmeter/vendmeterkeep.SlotRetry", spec := "slotRetry", unfollowed := true, recurses := true, plainKeys := false, apart := false, narrowed := true }
def SlotRetryUptoSaid : Prop := slotRetryUptoRow.holds Try.pinned (OpenSpec.upto slotRetrySpec)

/-- 'vendmeterkeep.TariffAdds', WHERE WHAT IT READS IS OF BULK AT MOST 1048576: true; the input reads as it did. -/
def tariffAddsUptoRow : OpenClaim := { program := "ytfifkfkbfllnfaa", sum := "d51df8278eaafaef63fdbf99d9dd76e683e7f5c11bf2bffca1d9db893b1bfdb3", func := "vendmeter/vendmeterkeep.TariffAdds", spec := "tariffAdds", inPlace := ["internal/reflectlite.ValueOf", "(internal/reflectlite.Value).Len"], unfollowed := true, recurses := true, plainKeys := false, apart := false, narrowed := true }
def TariffAddsUptoSaid : Prop := tariffAddsUptoRow.holds Try.pinned (OpenSpec.upto tariffAddsSpec)

/-- 'vendmeterkeep.RollSteps', WHERE WHAT IT READS IS OF BULK AT MOST 1048576: true; the input reads as it did. -/
def rollStepsUptoRow : OpenClaim := { program := "ytfifkfkbfllnfaa", sum := "d51df8278eaafaef63fdbf99d9dd76e683e7f5c11bf2bffca1d9db893b1bfdb3", func := "vendmeter/vendmeterkeep.RollSteps", spec := "rollSteps", inPlace := ["internal/reflectlite.ValueOf", "(internal/reflectlite.Value).Len"], unfollowed := true, recurses := true, plainKeys := false, apart := false, narrowed := true }
def RollStepsUptoSaid : Prop := rollStepsUptoRow.holds Try.pinned (OpenSpec.upto rollStepsSpec)

/-- 'vendmeterkeep.GrantOnce', WHERE WHAT IT READS IS OF BULK AT MOST 1048576: true; the input reads as it did. -/
def grantOnceUptoRow : OpenClaim := { program := "ytfifkfkbfllnfaa", sum := "d51df8278eaafaef63fdbf99d9dd76e683e7f5c11bf2bffca1d9db893b1bfdb3", func := "vendmeter/vendmeterkeep.GrantOnce", spec := "grantOnce", inPlace := ["internal/reflectlite.ValueOf", "(internal/reflectlite.Value).Len"], unfollowed := true, recurses := true, plainKeys := false, apart := false, narrowed := true }
def GrantOnceUptoSaid : Prop := grantOnceUptoRow.holds Try.pinned (OpenSpec.upto grantOnceSpec)

end Rows
end Go.Proofs.Ytfifkfkbfllnfaa

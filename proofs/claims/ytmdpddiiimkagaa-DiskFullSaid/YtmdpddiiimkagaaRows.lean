/-
  No cell of these rows narrows 'for every input' (looked for: loops, veiled, ifaces, maps, wideKeys, modest, calm, conditions, laid).
  DERIVED. THE GIVEN ROWS OF THIS SEAT. 12 by the template 'for every input the law returns true; each argument reads behind the call as it read before'; 0 by the template 'total and deterministic' (their statements: YtmdpddiiimkagaaTotals.lean).
  GIVEN WITH THE SEED: the statements are not yours to turn. If you find one false, say at which input.
  Laid BY PROGRAM, IN A SANDBOX (cutbox-rows.mjs): the forced cells as the released guide's own fill.sh prints them over the translation c7976fa5d5c9f1dd… (all of the seat's roots in one cut). By AI agents, Wed Nov 11 2026. No macro, syntax, notation, axiom, sorry.
-/
import Derived.Test.YtmdpddiiimkagaaChecked
import GoSem.Claim
import GoSem.ClaimJoined
import GoSem.ClaimMapViews
import Derived.JoinedTies
import Derived.KernelRfl
namespace Go.Proofs.Ytmdpddiiimkagaa
/- THE CELL 'sum', in the pinned program and in every row, IS THE sha256 OF THE DUMP (.gsa) THAT YtmdpddiiimkagaaProg.lean LOADS. Nothing in Lean hashes anything: it is a label: what it is worth is what the hold of that sum in a sandbox is worth. -/
noncomputable def Try.pinned : Pinned := { name := "ytmdpddiiimkagaa", sum := "c7976fa5d5c9f1dd6928957e967c953094fdc416c41bed168ce87bb1f9f92b79", checked := Try.checked }
namespace Rows
def none {H : Type} : Left H := { results := [], args := [] }

/-- 'vendmeterkeep.DebtSteps': WHATEVER THE INPUT: true; the input reads as it did. -/
def debtStepsSpec : ChangeSpec := { name := "debtSteps", fn := fun _ => fun
  | [d1, d2, d3] => { results := [.lit (.bool true)], args := [d1, d2, d3] }
  | _ => none }
def debtStepsRow : OpenClaim := { program := "ytmdpddiiimkagaa", sum := "c7976fa5d5c9f1dd6928957e967c953094fdc416c41bed168ce87bb1f9f92b79", func := "vendmeter/vendmeterkeep.DebtSteps", spec := "debtSteps", plainKeys := false, apart := false }
def DebtStepsSaid : Prop := debtStepsRow.holds Try.pinned (OpenSpec.ofChange debtStepsSpec)

/-- ITS FALSE NEIGHBOUR: 'it returns false'. Refute it at one input. -/
def debtStepsWrong : ChangeSpec := { name := "debtSteps", fn := fun _ => fun
  | [d1, d2, d3] => { results := [.lit (.bool false)], args := [d1, d2, d3] }
  | _ => none }
def DebtStepsWrongFalsely : Prop := debtStepsRow.holds Try.pinned (OpenSpec.ofChange debtStepsWrong)

/-- 'vendmeterkeep.PutBits': WHATEVER THE INPUT: true; the input reads as it did. -/
def putBitsSpec : ChangeSpec := { name := "putBits", fn := fun _ => fun
  | [d1, d2, d3, d4] => { results := [.lit (.bool true)], args := [d1, d2, d3, d4] }
  | _ => none }
def putBitsRow : OpenClaim := { program := "ytmdpddiiimkagaa", sum := "c7976fa5d5c9f1dd6928957e967c953094fdc416c41bed168ce87bb1f9f92b79", func := "vendmeter/vendmeterkeep.PutBits", spec := "putBits", plainKeys := false, apart := false }
def PutBitsSaid : Prop := putBitsRow.holds Try.pinned (OpenSpec.ofChange putBitsSpec)

/-- ITS FALSE NEIGHBOUR: 'it returns false'. Refute it at one input. -/
def putBitsWrong : ChangeSpec := { name := "putBits", fn := fun _ => fun
  | [d1, d2, d3, d4] => { results := [.lit (.bool false)], args := [d1, d2, d3, d4] }
  | _ => none }
def PutBitsWrongFalsely : Prop := putBitsRow.holds Try.pinned (OpenSpec.ofChange putBitsWrong)

/-- 'vendmeterkeep.OracleAgain': WHATEVER THE INPUT: true; the input reads as it did. -/
def oracleAgainSpec : ChangeSpec := { name := "oracleAgain", fn := fun _ => fun
  | [d1, d2, d3] => { results := [.lit (.bool true)], args := [d1, d2, d3] }
  | _ => none }
def oracleAgainRow : OpenClaim := { program := "ytmdpddiiimkagaa", sum := "c7976fa5d5c9f1dd6928957e967c953094fdc416c41bed168ce87bb1f9f92b79", func := "vendmeter/vendmeterkeep.OracleAgain", spec := "oracleAgain", plainKeys := false, apart := false }
def OracleAgainSaid : Prop := oracleAgainRow.holds Try.pinned (OpenSpec.ofChange oracleAgainSpec)

/-- ITS FALSE NEIGHBOUR: 'it returns false'. Refute it at one input. -/
def oracleAgainWrong : ChangeSpec := { name := "oracleAgain", fn := fun _ => fun
  | [d1, d2, d3] => { results := [.lit (.bool false)], args := [d1, d2, d3] }
  | _ => none }
def OracleAgainWrongFalsely : Prop := oracleAgainRow.holds Try.pinned (OpenSpec.ofChange oracleAgainWrong)

/-- 'vendmeterkeep.WindowOnce': WHATEVER THE INPUT: true; the input reads as it did. -/
def windowOnceSpec : ChangeSpec := { name := "windowOnce", fn := fun _ => fun
  | [d] => { results := [.lit (.bool true)], args := [d] }
  | _ => none }
def windowOnceRow : OpenClaim := { program := "ytmdpddiiimkagaa", sum := "c7976fa5d5c9f1dd6928957e967c953094fdc416c41bed168ce87bb1f9f92b79", func := "vendmeter/vendmeterkeep.WindowOnce", spec := "windowOnce", plainKeys := false, apart := false }
def WindowOnceSaid : Prop := windowOnceRow.holds Try.pinned (OpenSpec.ofChange windowOnceSpec)

/-- ITS FALSE NEIGHBOUR: 'it returns false'. Refute it at one input. -/
def windowOnceWrong : ChangeSpec := { name := "windowOnce", fn := fun _ => fun
  | [d] => { results := [.lit (.bool false)], args := [d] }
  | _ => none }
def WindowOnceWrongFalsely : Prop := windowOnceRow.holds Try.pinned (OpenSpec.ofChange windowOnceWrong)

/-- 'vendmeterkeep.WindowRises': WHATEVER THE INPUT: true; the input reads as it did. -/
def windowRisesSpec : ChangeSpec := { name := "windowRises", fn := fun _ => fun
  | [d] => { results := [.lit (.bool true)], args := [d] }
  | _ => none }
def windowRisesRow : OpenClaim := { program := "ytmdpddiiimkagaa", sum := "c7976fa5d5c9f1dd6928957e967c953094fdc416c41bed168ce87bb1f9f92b79", func := "vendmeter/vendmeterkeep.WindowRises", spec := "windowRises", plainKeys := false, apart := false }
def WindowRisesSaid : Prop := windowRisesRow.holds Try.pinned (OpenSpec.ofChange windowRisesSpec)

/-- ITS FALSE NEIGHBOUR: 'it returns false'. Refute it at one input. -/
def windowRisesWrong : ChangeSpec := { name := "windowRises", fn := fun _ => fun
  | [d] => { results := [.lit (.bool false)], args := [d] }
  | _ => none }
def WindowRisesWrongFalsely : Prop := windowRisesRow.holds Try.pinned (OpenSpec.ofChange windowRisesWrong)

/-- 'vendmeterkeep.OracleOnly': WHATEVER THE INPUT: true; the input reads as it did. -/
def oracleOnlySpec : ChangeSpec := { name := "oracleOnly", fn := fun _ => fun
  | [d1, d2] => { results := [.lit (.bool true)], args := [d1, d2] }
  | _ => none }
def oracleOnlyRow : OpenClaim := { program := "ytmdpddiiimkagaa", sum := "c7976fa5d5c9f1dd6928957e967c953094fdc416c41bed168ce87bb1f9f92b79", func := "vendmeter/vendmeterkeep.OracleOnly", spec := "oracleOnly", plainKeys := false, apart := false }
def OracleOnlySaid : Prop := oracleOnlyRow.holds Try.pinned (OpenSpec.ofChange oracleOnlySpec)

/-- ITS FALSE NEIGHBOUR: 'it returns false'. Refute it at one input. -/
def oracleOnlyWrong : ChangeSpec := { name := "oracleOnly", fn := fun _ => fun
  | [d1, d2] => { results := [.lit (.bool false)], args := [d1, d2] }
  | _ => none }
def OracleOnlyWrongFalsely : Prop := oracleOnlyRow.holds Try.pinned (OpenSpec.ofChange oracleOnlyWrong)

/-- 'vendmeterkeep.WindowKnows': WHATEVER THE INPUT: true; the input reads as it did. -/
def windowKnowsSpec : ChangeSpec := { name := "windowKnows", fn := fun _ => fun
  | [d] => { results := [.lit (.bool true)], args := [d] }
  | _ => none }
def windowKnowsRow : OpenClaim := { program := "ytmdpddiiimkagaa", sum := "c7976fa5d5c9f1dd6928957e967c953094fdc416c41bed168ce87bb1f9f92b79", func := "vendmeter/vendmeterkeep.WindowKnows", spec := "windowKnows", plainKeys := false, apart := false }
def WindowKnowsSaid : Prop := windowKnowsRow.holds Try.pinned (OpenSpec.ofChange windowKnowsSpec)

/-- ITS FALSE NEIGHBOUR: 'it returns false'. Refute it at one input. -/
def windowKnowsWrong : ChangeSpec := { name := "windowKnows", fn := fun _ => fun
  | [d] => { results := [.lit (.bool false)], args := [d] }
  | _ => none }
def WindowKnowsWrongFalsely : Prop := windowKnowsRow.holds Try.pinned (OpenSpec.ofChange windowKnowsWrong)

/-- 'vendmeterkeep.MeterBack': WHATEVER THE INPUT: true; the input reads as it did. -/
def meterBackSpec : ChangeSpec := { name := "meterBack", fn := fun _ => fun
  | [d] => { results := [.lit (.bool true)], args := [d] }
  | _ => none }
def meterBackRow : OpenClaim := { program := "ytmdpddiiimkagaa", sum := "c7976fa5d5c9f1dd6928957e967c953094fdc416c41bed168ce87bb1f9f92b79", func := "vendmeter/vendmeterkeep.MeterBack", spec := "meterBack", plainKeys := false, apart := false }
def MeterBackSaid : Prop := meterBackRow.holds Try.pinned (OpenSpec.ofChange meterBackSpec)

/-- ITS FALSE NEIGHBOUR: 'it returns false'. Refute it at one input. -/
def meterBackWrong : ChangeSpec := { name := "meterBack", fn := fun _ => fun
  | [d] => { results := [.lit (.bool false)], args := [d] }
  | _ => none }
def MeterBackWrongFalsely : Prop := meterBackRow.holds Try.pinned (OpenSpec.ofChange meterBackWrong)

/-- 'vendmeterkeep.MeterFixed': WHATEVER THE INPUT: true; the input reads as it did. -/
def meterFixedSpec : ChangeSpec := { name := "meterFixed", fn := fun _ => fun
  | [d] => { results := [.lit (.bool true)], args := [d] }
  | _ => none }
def meterFixedRow : OpenClaim := { program := "ytmdpddiiimkagaa", sum := "c7976fa5d5c9f1dd6928957e967c953094fdc416c41bed168ce87bb1f9f92b79", func := "vendmeter/vendmeterkeep.MeterFixed", spec := "meterFixed", plainKeys := false, apart := false }
def MeterFixedSaid : Prop := meterFixedRow.holds Try.pinned (OpenSpec.ofChange meterFixedSpec)

/-- ITS FALSE NEIGHBOUR: 'it returns false'. Refute it at one input. -/
def meterFixedWrong : ChangeSpec := { name := "meterFixed", fn := fun _ => fun
  | [d] => { results := [.lit (.bool false)], args := [d] }
  | _ => none }
def MeterFixedWrongFalsely : Prop := meterFixedRow.holds Try.pinned (OpenSpec.ofChange meterFixedWrong)

/-- 'vendmeterkeep.DiskFull': WHATEVER THE INPUT: true; the input reads as it did. -/
def diskFullSpec : ChangeSpec := { name := "diskFull", fn := fun _ => fun
  | [d1, d2, d3] => { results := [.lit (.bool true)], args := [d1, d2, d3] }
  | _ => none }
def diskFullRow : OpenClaim := { program := "ytmdpddiiimkagaa", sum := "c7976fa5d5c9f1dd6928957e967c953094fdc416c41bed168ce87bb1f9f92b79", func := "vendmeter/vendmeterkeep.DiskFull", spec := "diskFull", unfollowed := true, recurses := true, plainKeys := false, apart := false }
def DiskFullSaid : Prop := diskFullRow.holds Try.pinned (OpenSpec.ofChange diskFullSpec)

/-- ITS FALSE NEIGHBOUR: 'it returns false'. Refute it at one input. -/
def diskFullWrong : ChangeSpec := { name := "diskFull", fn := fun _ => fun
  | [d1, d2, d3] => { results := [.lit (.bool false)], args := [d1, d2, d3] }
  | _ => none }
def DiskFullWrongFalsely : Prop := diskFullRow.holds Try.pinned (OpenSpec.ofChange diskFullWrong)

/-- 'vendmeterkeep.DiskBack': WHATEVER THE INPUT: true; the input reads as it did. -/
def diskBackSpec : ChangeSpec := { name := "diskBack", fn := fun _ => fun
  | [d1, d2] => { results := [.lit (.bool true)], args := [d1, d2] }
  | _ => none }
def diskBackRow : OpenClaim := { program := "ytmdpddiiimkagaa", sum := "c7976fa5d5c9f1dd6928957e967c953094fdc416c41bed168ce87bb1f9f92b79", func := "vendmeter/vendmeterkeep.DiskBack", spec := "diskBack", unfollowed := true, recurses := true, plainKeys := false, apart := false }
def DiskBackSaid : Prop := diskBackRow.holds Try.pinned (OpenSpec.ofChange diskBackSpec)

/-- ITS FALSE NEIGHBOUR: 'it returns false'. Refute it at one input. -/
def diskBackWrong : ChangeSpec := { name := "diskBack", fn := fun _ => fun
  | [d1, d2] => { results := [.lit (.bool false)], args := [d1, d2] }
  | _ => none }
def DiskBackWrongFalsely : Prop := diskBackRow.holds Try.pinned (OpenSpec.ofChange diskBackWrong)

/-- 'vendmeterkeep.DiskCut': WHATEVER THE INPUT: true; the input reads as it did. -/
def diskCutSpec : ChangeSpec := { name := "diskCut", fn := fun _ => fun
  | [d1, d2, d3] => { results := [.lit (.bool true)], args := [d1, d2, d3] }
  | _ => none }
def diskCutRow : OpenClaim := { program := "ytmdpddiiimkagaa", sum := "c7976fa5d5c9f1dd6928957e967c953094fdc416c41bed168ce87bb1f9f92b79", func := "vendmeter/vendmeterkeep.DiskCut", spec := "diskCut", unfollowed := true, recurses := true, plainKeys := false, apart := false }
def DiskCutSaid : Prop := diskCutRow.holds Try.pinned (OpenSpec.ofChange diskCutSpec)

/-- ITS FALSE NEIGHBOUR: 'it returns false'. Refute it at one input. -/
def diskCutWrong : ChangeSpec := { name := "diskCut", fn := fun _ => fun
  | [d1, d2, d3] => { results := [.lit (.bool false)], args := [d1, d2, d3] }
  | _ => none }
def DiskCutWrongFalsely : Prop := diskCutRow.holds Try.pinned (OpenSpec.ofChange diskCutWrong)

/- THE SECOND FORM. 'bulk': how many values and letters a reading holds, each counted each time it is reached (what is shared counts as often as it is met; a slice's spare places count too). A statement '..UptoSaid' is the law's where the arguments, and the package variables that the reading takes, are together of bulk at most 1048576: NARROWER than '..Said'. Prove '..Said' where nothing that the law and all that it calls make is longer than what came in: it says more and counts as full. Else prove '..UptoSaid'. A law counts once. -/
mutual
def uptoBulk {H : Type} : DataW H → Nat
  | .lit (.string bytes) => bytes.length + 1
  | .lit _ => 1
  | .nil => 1
  | .ptr d => uptoBulk d + 1
  | .slice elems spare => uptoBulkAll elems + uptoBulkAll spare + 1
  | .agg parts => uptoBulkAll parts + 1
  | .iface _ d => uptoBulk d + 1
  | .map entries => uptoBulkEntries entries + 1
  | .held _ => 1
def uptoBulkAll {H : Type} : List (DataW H) → Nat
  | [] => 0
  | d :: r => uptoBulk d + uptoBulkAll r
def uptoBulkEntries {H : Type} : List (Lit × DataW H) → Nat
  | [] => 0
  | x :: r => uptoBulkEntry x + uptoBulkEntries r
def uptoBulkEntry {H : Type} : Lit × DataW H → Nat
  | (.string bytes, d) => bytes.length + uptoBulk d + 1
  | (_, d) => uptoBulk d + 1
 end
def uptoSmall : (H : Type) → List (DataW H) → Bool := fun _ ds => decide (uptoBulkAll ds ≤ 1048576)
def OpenSpec.upto (s : _root_.Go.ChangeSpec) : _root_.Go.OpenSpec := { _root_.Go.OpenSpec.ofChange s with cond := some uptoSmall }

/-- 'vendmeterkeep.DebtSteps', WHERE WHAT IT READS IS OF BULK AT MOST 1048576: true; the input reads as it did. -/
def debtStepsUptoRow : OpenClaim := { program := "ytmdpddiiimkagaa", sum := "c7976fa5d5c9f1dd6928957e967c953094fdc416c41bed168ce87bb1f9f92b79", func := "vendmeter/vendmeterkeep.DebtSteps", spec := "debtSteps", plainKeys := false, apart := false, narrowed := true }
def DebtStepsUptoSaid : Prop := debtStepsUptoRow.holds Try.pinned (OpenSpec.upto debtStepsSpec)

/-- 'vendmeterkeep.PutBits', WHERE WHAT IT READS IS OF BULK AT MOST 1048576: true; the input reads as it did. -/
def putBitsUptoRow : OpenClaim := { program := "ytmdpddiiimkagaa", sum := "c7976fa5d5c9f1dd6928957e967c953094fdc416c41bed168ce87bb1f9f92b79", func := "vendmeter/vendmeterkeep.PutBits", spec := "putBits", plainKeys := false, apart := false, narrowed := true }
def PutBitsUptoSaid : Prop := putBitsUptoRow.holds Try.pinned (OpenSpec.upto putBitsSpec)

/-- 'vendmeterkeep.OracleAgain', WHERE WHAT IT READS IS OF BULK AT MOST 1048576: true; the input reads as it did. -/
def oracleAgainUptoRow : OpenClaim := { program := "ytmdpddiiimkagaa", sum := "c7976fa5d5c9f1dd6928957e967c953094fdc416c41bed168ce87bb1f9f92b79", func := "vendmeter/vendmeterkeep.OracleAgain", spec := "oracleAgain", plainKeys := false, apart := false, narrowed := true }
def OracleAgainUptoSaid : Prop := oracleAgainUptoRow.holds Try.pinned (OpenSpec.upto oracleAgainSpec)

/-- 'vendmeterkeep.WindowOnce', WHERE WHAT IT READS IS OF BULK AT MOST 1048576: true; the input reads as it did. -/
def windowOnceUptoRow : OpenClaim := { program := "ytmdpddiiimkagaa", sum := "c7976fa5d5c9f1dd6928957e967c953094fdc416c41bed168ce87bb1f9f92b79", func := "vendmeter/vendmeterkeep.WindowOnce", spec := "windowOnce", plainKeys := false, apart := false, narrowed := true }
def WindowOnceUptoSaid : Prop := windowOnceUptoRow.holds Try.pinned (OpenSpec.upto windowOnceSpec)

/-- 'vendmeterkeep.WindowRises', WHERE WHAT IT READS IS OF BULK AT MOST 1048576: true; the input reads as it did. -/
def windowRisesUptoRow : OpenClaim := { program := "ytmdpddiiimkagaa", sum := "c7976fa5d5c9f1dd6928957e967c953094fdc416c41bed168ce87bb1f9f92b79", func := "vendmeter/vendmeterkeep.WindowRises", spec := "windowRises", plainKeys := false, apart := false, narrowed := true }
def WindowRisesUptoSaid : Prop := windowRisesUptoRow.holds Try.pinned (OpenSpec.upto windowRisesSpec)

/-- 'vendmeterkeep.OracleOnly', WHERE WHAT IT READS IS OF BULK AT MOST 1048576: true; the input reads as it did. -/
def oracleOnlyUptoRow : OpenClaim := { program := "ytmdpddiiimkagaa", sum := "c7976fa5d5c9f1dd6928957e967c953094fdc416c41bed168ce87bb1f9f92b79", func := "vendmeter/vendmeterkeep.OracleOnly", spec := "oracleOnly", plainKeys := false, apart := false, narrowed := true }
def OracleOnlyUptoSaid : Prop := oracleOnlyUptoRow.holds Try.pinned (OpenSpec.upto oracleOnlySpec)

/-- 'vendmeterkeep.WindowKnows', WHERE WHAT IT READS IS OF BULK AT MOST 1048576: true; the input reads as it did. -/
def windowKnowsUptoRow : OpenClaim := { program := "ytmdpddiiimkagaa", sum := "c7976fa5d5c9f1dd6928957e967c953094fdc416c41bed168ce87bb1f9f92b79", func := "vendmeter/vendmeterkeep.WindowKnows", spec := "windowKnows", plainKeys := false, apart := false, narrowed := true }
def WindowKnowsUptoSaid : Prop := windowKnowsUptoRow.holds Try.pinned (OpenSpec.upto windowKnowsSpec)

/-- 'vendmeterkeep.MeterBack', WHERE WHAT IT READS IS OF BULK AT MOST 1048576: true; the input reads as it did. -/
def meterBackUptoRow : OpenClaim := { program := "ytmdpddiiimkagaa", sum := "c7976fa5d5c9f1dd6928957e967c953094fdc416c41bed168ce87bb1f9f92b79", func := "vendmeter/vendmeterkeep.MeterBack", spec := "meterBack", plainKeys := false, apart := false, narrowed := true }
def MeterBackUptoSaid : Prop := meterBackUptoRow.holds Try.pinned (OpenSpec.upto meterBackSpec)

/-- 'vendmeterkeep.MeterFixed', WHERE WHAT IT READS IS OF BULK AT MOST 1048576: true; the input reads as it did. -/
def meterFixedUptoRow : OpenClaim := { program := "ytmdpddiiimkagaa", sum := "c7976fa5d5c9f1dd6928957e967c953094fdc416c41bed168ce87bb1f9f92b79", func := "vendmeter/vendmeterkeep.MeterFixed", spec := "meterFixed", plainKeys := false, apart := false, narrowed := true }
def MeterFixedUptoSaid : Prop := meterFixedUptoRow.holds Try.pinned (OpenSpec.upto meterFixedSpec)

/-- 'vendmeterkeep.DiskFull', WHERE WHAT IT READS IS OF BULK AT MOST 1048576: true; the input reads as it did. -/
def diskFullUptoRow : OpenClaim := { program := "ytmdpddiiimkagaa", sum := "c7976fa5d5c9f1dd6928957e967c953094fdc416c41bed168ce87bb1f9f92b79", func := "vendmeter/vendmeterkeep.DiskFull", spec := "diskFull", unfollowed := true, recurses := true, plainKeys := false, apart := false, narrowed := true }
def DiskFullUptoSaid : Prop := diskFullUptoRow.holds Try.pinned (OpenSpec.upto diskFullSpec)

/-- 'vendmeterkeep.DiskBack', WHERE WHAT IT READS IS OF BULK AT MOST 1048576: true; the input reads as it did. -/
def diskBackUptoRow : OpenClaim := { program := "ytmdpddiiimkagaa", sum := "c7976fa5d5c9f1dd6928957e967c953094fdc416c41bed168ce87bb1f9f92b79", func := "vendmeter/vendmeterkeep.DiskBack", spec := "diskBack", unfollowed := true, recurses := true, plainKeys := false, apart := false, narrowed := true }
def DiskBackUptoSaid : Prop := diskBackUptoRow.holds Try.pinned (OpenSpec.upto diskBackSpec)

/-- 'vendmeterkeep.DiskCut', WHERE WHAT IT READS IS OF BULK AT MOST 1048576: true; the input reads as it did. -/
def diskCutUptoRow : OpenClaim := { program := "ytmdpddiiimkagaa", sum := "c7976fa5d5c9f1dd6928957e967c953094fdc416c41bed168ce87bb1f9f92b79", func := "vendmeter/vendmeterkeep.DiskCut", spec := "diskCut", unfollowed := true, recurses := true, plainKeys := false, apart := false, narrowed := true }
def DiskCutUptoSaid : Prop := diskCutUptoRow.holds Try.pinned (OpenSpec.upto diskCutSpec)

end Rows
end Go.Proofs.Ytmdpddiiimkagaa

/-
  No cell of these rows narrows 'for every input' (looked for: loops, veiled, ifaces, maps, wideKeys, modest, calm, conditions, laid).
  DERIVED. THE GIVEN ROWS OF THIS SEAT. 12 by the template 'for every input the law returns true; each argument reads behind the call as it read before'; 0 by the template 'total and deterministic' (their statements: YtbabbejigcobjaaTotals.lean).
  GIVEN WITH THE SEED: the statements are not yours to turn. If you find one false, say at which input.
  Laid BY PROGRAM, IN A SANDBOX (cutbox-rows.mjs): the forced cells as the released guide's own fill.sh prints them over the translation 10a22054df64db1f… (all of the seat's roots in one cut). By AI agents, Wed Nov 11 2026. No macro, syntax, notation, axiom, sorry.
-/
import Derived.Test.YtbabbejigcobjaaChecked
import GoSem.Claim
import GoSem.ClaimJoined
import GoSem.ClaimMapViews
import Derived.JoinedTies
import Derived.KernelRfl
namespace Go.Proofs.Ytbabbejigcobjaa
/- THE CELL 'sum', in the pinned program and in every row, IS THE sha256 OF THE DUMP (.gsa) THAT YtbabbejigcobjaaProg.lean LOADS. Nothing in Lean hashes anything: it is a label: what it is worth is what the hold of that sum in a sandbox is worth. -/
noncomputable def Try.pinned : Pinned := { name := "ytbabbejigcobjaa", sum := "10a22054df64db1fa96effa26f7d9437ee6555f3c19e445dc4b7388ed5e6280f", checked := Try.checked }
namespace Rows
def none {H : Type} : Left H := { results := [], args := [] }

/-- 'vendmeterkeep.EventBack': WHATEVER THE INPUT: true; the input reads as it did. -/
def eventBackSpec : ChangeSpec := { name := "eventBack", fn := fun _ => fun
  | [d] => { results := [.lit (.bool true)], args := [d] }
  | _ => none }
def eventBackRow : OpenClaim := { program := "ytbabbejigcobjaa", sum := "10a22054df64db1fa96effa26f7d9437ee6555f3c19e445dc4b7388ed5e6280f", func := "vendmeter/vendmeterkeep.EventBack", spec := "eventBack", unfollowed := true, recurses := true, apart := false }
def EventBackSaid : Prop := eventBackRow.holds Try.pinned (OpenSpec.ofChange eventBackSpec)

/-- ITS FALSE NEIGHBOUR: 'it returns false'. Refute it at one input. -/
def eventBackWrong : ChangeSpec := { name := "eventBack", fn := fun _ => fun
  | [d] => { results := [.lit (.bool false)], args := [d] }
  | _ => none }
def EventBackWrongFalsely : Prop := eventBackRow.holds Try.pinned (OpenSpec.ofChange eventBackWrong)

/-- 'vendmeterkeep.EventFixed': WHATEVER THE INPUT: true; the input reads as it did. -/
def eventFixedSpec : ChangeSpec := { name := "eventFixed", fn := fun _ => fun
  | [d] => { results := [.lit (.bool true)], args := [d] }
  | _ => none }
def eventFixedRow : OpenClaim := { program := "ytbabbejigcobjaa", sum := "10a22054df64db1fa96effa26f7d9437ee6555f3c19e445dc4b7388ed5e6280f", func := "vendmeter/vendmeterkeep.EventFixed", spec := "eventFixed", unfollowed := true, recurses := true, apart := false }
def EventFixedSaid : Prop := eventFixedRow.holds Try.pinned (OpenSpec.ofChange eventFixedSpec)

/-- ITS FALSE NEIGHBOUR: 'it returns false'. Refute it at one input. -/
def eventFixedWrong : ChangeSpec := { name := "eventFixed", fn := fun _ => fun
  | [d] => { results := [.lit (.bool false)], args := [d] }
  | _ => none }
def EventFixedWrongFalsely : Prop := eventFixedRow.holds Try.pinned (OpenSpec.ofChange eventFixedWrong)

/-- 'vendmeterkeep.TariffAdds': WHATEVER THE INPUT: true; the input reads as it did. -/
def tariffAddsSpec : ChangeSpec := { name := "tariffAdds", fn := fun _ => fun
  | [d1, d2, d3, d4] => { results := [.lit (.bool true)], args := [d1, d2, d3, d4] }
  | _ => none }
def tariffAddsRow : OpenClaim := { program := "ytbabbejigcobjaa", sum := "10a22054df64db1fa96effa26f7d9437ee6555f3c19e445dc4b7388ed5e6280f", func := "vendmeter/vendmeterkeep.TariffAdds", spec := "tariffAdds", inPlace := ["internal/reflectlite.ValueOf", "(internal/reflectlite.Value).Len"], unfollowed := true, recurses := true, apart := false }
def TariffAddsSaid : Prop := tariffAddsRow.holds Try.pinned (OpenSpec.ofChange tariffAddsSpec)

/-- ITS FALSE NEIGHBOUR: 'it returns false'. Refute it at one input. -/
def tariffAddsWrong : ChangeSpec := { name := "tariffAdds", fn := fun _ => fun
  | [d1, d2, d3, d4] => { results := [.lit (.bool false)], args := [d1, d2, d3, d4] }
  | _ => none }
def TariffAddsWrongFalsely : Prop := tariffAddsRow.holds Try.pinned (OpenSpec.ofChange tariffAddsWrong)

/-- 'vendmeterkeep.TariffRises': WHATEVER THE INPUT: true; the input reads as it did. -/
def tariffRisesSpec : ChangeSpec := { name := "tariffRises", fn := fun _ => fun
  | [d1, d2, d3] => { results := [.lit (.bool true)], args := [d1, d2, d3] }
  | _ => none }
def tariffRisesRow : OpenClaim := { program := "ytbabbejigcobjaa", sum := "10a22054df64db1fa96effa26f7d9437ee6555f3c19e445dc4b7388ed5e6280f", func := "vendmeter/vendmeterkeep.TariffRises", spec := "tariffRises", inPlace := ["internal/reflectlite.ValueOf", "(internal/reflectlite.Value).Len"], unfollowed := true, recurses := true, apart := false }
def TariffRisesSaid : Prop := tariffRisesRow.holds Try.pinned (OpenSpec.ofChange tariffRisesSpec)

/-- ITS FALSE NEIGHBOUR: 'it returns false'. Refute it at one input. -/
def tariffRisesWrong : ChangeSpec := { name := "tariffRises", fn := fun _ => fun
  | [d1, d2, d3] => { results := [.lit (.bool false)], args := [d1, d2, d3] }
  | _ => none }
def TariffRisesWrongFalsely : Prop := tariffRisesRow.holds Try.pinned (OpenSpec.ofChange tariffRisesWrong)

/-- 'vendmeterkeep.TariffLines': WHATEVER THE INPUT: true; the input reads as it did. -/
def tariffLinesSpec : ChangeSpec := { name := "tariffLines", fn := fun _ => fun
  | [d1, d2, d3] => { results := [.lit (.bool true)], args := [d1, d2, d3] }
  | _ => none }
def tariffLinesRow : OpenClaim := { program := "ytbabbejigcobjaa", sum := "10a22054df64db1fa96effa26f7d9437ee6555f3c19e445dc4b7388ed5e6280f", func := "vendmeter/vendmeterkeep.TariffLines", spec := "tariffLines", inPlace := ["internal/reflectlite.ValueOf", "(internal/reflectlite.Value).Len"], unfollowed := true, recurses := true, apart := false }
def TariffLinesSaid : Prop := tariffLinesRow.holds Try.pinned (OpenSpec.ofChange tariffLinesSpec)

/-- ITS FALSE NEIGHBOUR: 'it returns false'. Refute it at one input. -/
def tariffLinesWrong : ChangeSpec := { name := "tariffLines", fn := fun _ => fun
  | [d1, d2, d3] => { results := [.lit (.bool false)], args := [d1, d2, d3] }
  | _ => none }
def TariffLinesWrongFalsely : Prop := tariffLinesRow.holds Try.pinned (OpenSpec.ofChange tariffLinesWrong)

/-- 'vendmeterkeep.TariffMost': WHATEVER THE INPUT: true; the input reads as it did. -/
def tariffMostSpec : ChangeSpec := { name := "tariffMost", fn := fun _ => fun
  | [d1, d2, d3] => { results := [.lit (.bool true)], args := [d1, d2, d3] }
  | _ => none }
def tariffMostRow : OpenClaim := { program := "ytbabbejigcobjaa", sum := "10a22054df64db1fa96effa26f7d9437ee6555f3c19e445dc4b7388ed5e6280f", func := "vendmeter/vendmeterkeep.TariffMost", spec := "tariffMost", inPlace := ["internal/reflectlite.ValueOf", "(internal/reflectlite.Value).Len"], unfollowed := true, recurses := true, apart := false }
def TariffMostSaid : Prop := tariffMostRow.holds Try.pinned (OpenSpec.ofChange tariffMostSpec)

/-- ITS FALSE NEIGHBOUR: 'it returns false'. Refute it at one input. -/
def tariffMostWrong : ChangeSpec := { name := "tariffMost", fn := fun _ => fun
  | [d1, d2, d3] => { results := [.lit (.bool false)], args := [d1, d2, d3] }
  | _ => none }
def TariffMostWrongFalsely : Prop := tariffMostRow.holds Try.pinned (OpenSpec.ofChange tariffMostWrong)

/-- 'vendmeterkeep.RollSteps': WHATEVER THE INPUT: true; the input reads as it did. -/
def rollStepsSpec : ChangeSpec := { name := "rollSteps", fn := fun _ => fun
  | [d1, d2, d3] => { results := [.lit (.bool true)], args := [d1, d2, d3] }
  | _ => none }
def rollStepsRow : OpenClaim := { program := "ytbabbejigcobjaa", sum := "10a22054df64db1fa96effa26f7d9437ee6555f3c19e445dc4b7388ed5e6280f", func := "vendmeter/vendmeterkeep.RollSteps", spec := "rollSteps", inPlace := ["internal/reflectlite.ValueOf", "(internal/reflectlite.Value).Len"], unfollowed := true, recurses := true, apart := false }
def RollStepsSaid : Prop := rollStepsRow.holds Try.pinned (OpenSpec.ofChange rollStepsSpec)

/-- ITS FALSE NEIGHBOUR: 'it returns false'. Refute it at one input. -/
def rollStepsWrong : ChangeSpec := { name := "rollSteps", fn := fun _ => fun
  | [d1, d2, d3] => { results := [.lit (.bool false)], args := [d1, d2, d3] }
  | _ => none }
def RollStepsWrongFalsely : Prop := rollStepsRow.holds Try.pinned (OpenSpec.ofChange rollStepsWrong)

/-- 'vendmeterkeep.GrantOnce': WHATEVER THE INPUT: true; the input reads as it did. -/
def grantOnceSpec : ChangeSpec := { name := "grantOnce", fn := fun _ => fun
  | [d1, d2, d3] => { results := [.lit (.bool true)], args := [d1, d2, d3] }
  | _ => none }
def grantOnceRow : OpenClaim := { program := "ytbabbejigcobjaa", sum := "10a22054df64db1fa96effa26f7d9437ee6555f3c19e445dc4b7388ed5e6280f", func := "vendmeter/vendmeterkeep.GrantOnce", spec := "grantOnce", inPlace := ["internal/reflectlite.ValueOf", "(internal/reflectlite.Value).Len"], unfollowed := true, recurses := true, apart := false }
def GrantOnceSaid : Prop := grantOnceRow.holds Try.pinned (OpenSpec.ofChange grantOnceSpec)

/-- ITS FALSE NEIGHBOUR: 'it returns false'. Refute it at one input. -/
def grantOnceWrong : ChangeSpec := { name := "grantOnce", fn := fun _ => fun
  | [d1, d2, d3] => { results := [.lit (.bool false)], args := [d1, d2, d3] }
  | _ => none }
def GrantOnceWrongFalsely : Prop := grantOnceRow.holds Try.pinned (OpenSpec.ofChange grantOnceWrong)

/-- 'vendmeterkeep.SellShare': WHATEVER THE INPUT: true; the input reads as it did. -/
def sellShareSpec : ChangeSpec := { name := "sellShare", fn := fun _ => fun
  | [d1, d2, d3] => { results := [.lit (.bool true)], args := [d1, d2, d3] }
  | _ => none }
def sellShareRow : OpenClaim := { program := "ytbabbejigcobjaa", sum := "10a22054df64db1fa96effa26f7d9437ee6555f3c19e445dc4b7388ed5e6280f", func := "vendmeter/vendmeterkeep.SellShare", spec := "sellShare", inPlace := ["internal/reflectlite.ValueOf", "(internal/reflectlite.Value).Len"], unfollowed := true, recurses := true, apart := false }
def SellShareSaid : Prop := sellShareRow.holds Try.pinned (OpenSpec.ofChange sellShareSpec)

/-- ITS FALSE NEIGHBOUR: 'it returns false'. Refute it at one input. -/
def sellShareWrong : ChangeSpec := { name := "sellShare", fn := fun _ => fun
  | [d1, d2, d3] => { results := [.lit (.bool false)], args := [d1, d2, d3] }
  | _ => none }
def SellShareWrongFalsely : Prop := sellShareRow.holds Try.pinned (OpenSpec.ofChange sellShareWrong)

/-- 'vendmeterkeep.SellMoves': WHATEVER THE INPUT: true; the input reads as it did. -/
def sellMovesSpec : ChangeSpec := { name := "sellMoves", fn := fun _ => fun
  | [d1, d2, d3, d4] => { results := [.lit (.bool true)], args := [d1, d2, d3, d4] }
  | _ => none }
def sellMovesRow : OpenClaim := { program := "ytbabbejigcobjaa", sum := "10a22054df64db1fa96effa26f7d9437ee6555f3c19e445dc4b7388ed5e6280f", func := "vendmeter/vendmeterkeep.SellMoves", spec := "sellMoves", inPlace := ["internal/reflectlite.ValueOf", "(internal/reflectlite.Value).Len"], unfollowed := true, recurses := true, apart := false }
def SellMovesSaid : Prop := sellMovesRow.holds Try.pinned (OpenSpec.ofChange sellMovesSpec)

/-- ITS FALSE NEIGHBOUR: 'it returns false'. Refute it at one input. -/
def sellMovesWrong : ChangeSpec := { name := "sellMoves", fn := fun _ => fun
  | [d1, d2, d3, d4] => { results := [.lit (.bool false)], args := [d1, d2, d3, d4] }
  | _ => none }
def SellMovesWrongFalsely : Prop := sellMovesRow.holds Try.pinned (OpenSpec.ofChange sellMovesWrong)

/-- 'vendmeterkeep.SellMost': WHATEVER THE INPUT: true; the input reads as it did. -/
def sellMostSpec : ChangeSpec := { name := "sellMost", fn := fun _ => fun
  | [d1, d2, d3, d4] => { results := [.lit (.bool true)], args := [d1, d2, d3, d4] }
  | _ => none }
def sellMostRow : OpenClaim := { program := "ytbabbejigcobjaa", sum := "10a22054df64db1fa96effa26f7d9437ee6555f3c19e445dc4b7388ed5e6280f", func := "vendmeter/vendmeterkeep.SellMost", spec := "sellMost", inPlace := ["internal/reflectlite.ValueOf", "(internal/reflectlite.Value).Len"], unfollowed := true, recurses := true, apart := false }
def SellMostSaid : Prop := sellMostRow.holds Try.pinned (OpenSpec.ofChange sellMostSpec)

/-- ITS FALSE NEIGHBOUR: 'it returns false'. Refute it at one input. -/
def sellMostWrong : ChangeSpec := { name := "sellMost", fn := fun _ => fun
  | [d1, d2, d3, d4] => { results := [.lit (.bool false)], args := [d1, d2, d3, d4] }
  | _ => none }
def SellMostWrongFalsely : Prop := sellMostRow.holds Try.pinned (OpenSpec.ofChange sellMostWrong)

/-- 'vendmeterkeep.SellAdds': WHATEVER THE INPUT: true; the input reads as it did. -/
def sellAddsSpec : ChangeSpec := { name := "sellAdds", fn := fun _ => fun
  | [d1, d2, d3, d4] => { results := [.lit (.bool true)], args := [d1, d2, d3, d4] }
  | _ => none }
def sellAddsRow : OpenClaim := { program := "ytbabbejigcobjaa", sum := "10a22054df64db1fa96effa26f7d9437ee6555f3c19e445dc4b7388ed5e6280f", func := "vendmeter/vendmeterkeep.SellAdds", spec := "sellAdds", inPlace := ["internal/reflectlite.ValueOf", "(internal/reflectlite.Value).Len"], unfollowed := true, recurses := true, apart := false }
def SellAddsSaid : Prop := sellAddsRow.holds Try.pinned (OpenSpec.ofChange sellAddsSpec)

/-- ITS FALSE NEIGHBOUR: 'it returns false'. Refute it at one input. -/
def sellAddsWrong : ChangeSpec := { name := "sellAdds", fn := fun _ => fun
  | [d1, d2, d3, d4] => { results := [.lit (.bool false)], args := [d1, d2, d3, d4] }
  | _ => none }
def SellAddsWrongFalsely : Prop := sellAddsRow.holds Try.pinned (OpenSpec.ofChange sellAddsWrong)

/- THE SECOND FORM. 'bulk': how many values and letters a reading holds, each counted each time it is reached (what is shared counts as often as it is met; a slice's spare places count too). A statement '..UptoSaid' is the law's where the arguments, and the package variables that the reading takes, are together of bulk at most 1048576: NARROWER than '..Said'. Prove '..Said' where nothing that the law and all that it calls make is longer than what came in: it says more and counts as full. Else prove '..UptoSaid'. A law counts once. -/
mutual
def uptoBulk {H : Type} : DataW H → Nat
  | .lit (.string bytes) => bytes.length + 1
  | .lit _ => 1
  | .nil => 1
  | .ptr d => uptoBulk d + 1
  | .slice elems spare => uptoBulkAll elems + uptoBulkAll spare + 1
  | .agg parts => uptoBulkAll parts + 1
  | .iface _ d => uptoBulk d + 1
  | .map entries => uptoBulkEntries entries + 1
  | .held _ => 1
def uptoBulkAll {H : Type} : List (DataW H) → Nat
  | [] => 0
  | d :: r => uptoBulk d + uptoBulkAll r
def uptoBulkEntries {H : Type} : List (Lit × DataW H) → Nat
  | [] => 0
  | x :: r => uptoBulkEntry x + uptoBulkEntries r
def uptoBulkEntry {H : Type} : Lit × DataW H → Nat
  | (.string bytes, d) => bytes.length + uptoBulk d + 1
  | (_, d) => uptoBulk d + 1
 end
def uptoSmall : (H : Type) → List (DataW H) → Bool := fun _ ds => decide (uptoBulkAll ds ≤ 1048576)
def OpenSpec.upto (s : _root_.Go.ChangeSpec) : _root_.Go.OpenSpec := { _root_.Go.OpenSpec.ofChange s with cond := some uptoSmall }

/-- 'vendmeterkeep.EventBack', WHERE WHAT IT READS IS OF BULK AT MOST 1048576: true; the input reads as it did. -/
def eventBackUptoRow : OpenClaim := { program := "ytbabbejigcobjaa", sum := "10a22054df64db1fa96effa26f7d9437ee6555f3c19e445dc4b7388ed5e6280f", func := "vendmeter/vendmeterkeep.EventBack", spec := "eventBack", unfollowed := true, recurses := true, apart := false, narrowed := true }
def EventBackUptoSaid : Prop := eventBackUptoRow.holds Try.pinned (OpenSpec.upto eventBackSpec)

/-- 'vendmeterkeep.EventFixed', WHERE WHAT IT READS IS OF BULK AT MOST 1048576: true; the input reads as it did. -/
def eventFixedUptoRow : OpenClaim := { program := "ytbabbejigcobjaa", sum := "10a22054df64db1fa96effa26f7d9437ee6555f3c19e445dc4b7388ed5e6280f", func := "vendmeter/vendmeterkeep.EventFixed", spec := "eventFixed", unfollowed := true, recurses := true, apart := false, narrowed := true }
def EventFixedUptoSaid : Prop := eventFixedUptoRow.holds Try.pinned (OpenSpec.upto eventFixedSpec)

/-- 'vendmeterkeep.TariffAdds', WHERE WHAT IT READS IS OF BULK AT MOST 1048576: true; the input reads as it did. -/
def tariffAddsUptoRow : OpenClaim := { program := "ytbabbejigcobjaa", sum := "10a22054df64db1fa96effa26f7d9437ee6555f3c19e445dc4b7388ed5e6280f", func := "vendmeter/vendmeterkeep.TariffAdds", spec := "tariffAdds", inPlace := ["internal/reflectlite.ValueOf", "(internal/reflectlite.Value).Len"], unfollowed := true, recurses := true, apart := false, narrowed := true }
def TariffAddsUptoSaid : Prop := tariffAddsUptoRow.holds Try.pinned (OpenSpec.upto tariffAddsSpec)

/-- 'vendmeterkeep.TariffRises', WHERE WHAT IT READS IS OF BULK AT MOST 1048576: true; the input reads as it did. -/
def tariffRisesUptoRow : OpenClaim := { program := "ytbabbejigcobjaa", sum := "10a22054df64db1fa96effa26f7d9437ee6555f3c19e445dc4b7388ed5e6280f", func := "vendmeter/vendmeterkeep.TariffRises", spec := "tariffRises", inPlace := ["internal/reflectlite.ValueOf", "(internal/reflectlite.Value).Len"], unfollowed := true, recurses := true, apart := false, narrowed := true }
def TariffRisesUptoSaid : Prop := tariffRisesUptoRow.holds Try.pinned (OpenSpec.upto tariffRisesSpec)

/-- 'vendmeterkeep.TariffLines', WHERE WHAT IT READS IS OF BULK AT MOST 1048576: true; the input reads as it did. -/
def tariffLinesUptoRow : OpenClaim := { program := "ytbabbejigcobjaa", sum := "10a22054df64db1fa96effa26f7d9437ee6555f3c19e445dc4b7388ed5e6280f", func := "vendmeter/vendmeterkeep.TariffLines", spec := "tariffLines", inPlace := ["internal/reflectlite.ValueOf", "(internal/reflectlite.Value).Len"], unfollowed := true, recurses := true, apart := false, narrowed := true }
def TariffLinesUptoSaid : Prop := tariffLinesUptoRow.holds Try.pinned (OpenSpec.upto tariffLinesSpec)

/-- 'vendmeterkeep.TariffMost', WHERE WHAT IT READS IS OF BULK AT MOST 1048576: true; the input reads as it did. -/
def tariffMostUptoRow : OpenClaim := { program := "ytbabbejigcobjaa", sum := "10a22054df64db1fa96effa26f7d9437ee6555f3c19e445dc4b7388ed5e6280f", func := "vendmeter/vendmeterkeep.TariffMost", spec := "tariffMost", inPlace := ["internal/reflectlite.ValueOf", "(internal/reflectlite.Value).Len"], unfollowed := true, recurses := true, apart := false, narrowed := true }
def TariffMostUptoSaid : Prop := tariffMostUptoRow.holds Try.pinned (OpenSpec.upto tariffMostSpec)

/-- 'vendmeterkeep.RollSteps', WHERE WHAT IT READS IS OF BULK AT MOST 1048576: true; the input reads as it did. -/
def rollStepsUptoRow : OpenClaim := { program := "ytbabbejigcobjaa", sum := "10a22054df64db1fa96effa26f7d9437ee6555f3c19e445dc4b7388ed5e6280f", func := "vendmeter/vendmeterkeep.RollSteps", spec := "rollSteps", inPlace := ["internal/reflectlite.ValueOf", "(internal/reflectlite.Value).Len"], unfollowed := true, recurses := true, apart := false, narrowed := true }
def RollStepsUptoSaid : Prop := rollStepsUptoRow.holds Try.pinned (OpenSpec.upto rollStepsSpec)

/-- 'vendmeterkeep.GrantOnce', WHERE WHAT IT READS IS OF BULK AT MOST 1048576: true; the input reads as it did. -/
def grantOnceUptoRow : OpenClaim := { program := "ytbabbejigcobjaa", sum := "10a22054df64db1fa96effa26f7d9437ee6555f3c19e445dc4b7388ed5e6280f", func := "vendmeter/vendmeterkeep.GrantOnce", spec := "grantOnce", inPlace := ["internal/reflectlite.ValueOf", "(internal/reflectlite.Value).Len"], unfollowed := true, recurses := true, apart := false, narrowed := true }
def GrantOnceUptoSaid : Prop := grantOnceUptoRow.holds Try.pinned (OpenSpec.upto grantOnceSpec)

/-- 'vendmeterkeep.SellShare', WHERE WHAT IT READS IS OF BULK AT MOST 1048576: true; the input reads as it did. -/
def sellShareUptoRow : OpenClaim := { program := "ytbabbejigcobjaa", sum := "10a22054df64db1fa96effa26f7d9437ee6555f3c19e445dc4b7388ed5e6280f", func := "vendmeter/vendmeterkeep.SellShare", spec := "sellShare", inPlace := ["internal/reflectlite.ValueOf", "(internal/reflectlite.Value).Len"], unfollowed := true, recurses := true, apart := false, narrowed := true }
def SellShareUptoSaid : Prop := sellShareUptoRow.holds Try.pinned (OpenSpec.upto sellShareSpec)

/-- 'vendmeterkeep.SellMoves', WHERE WHAT IT READS IS OF BULK AT MOST 1048576: true; the input reads as it did. -/
def sellMovesUptoRow : OpenClaim := { program := "ytbabbejigcobjaa", sum := "10a22054df64db1fa96effa26f7d9437ee6555f3c19e445dc4b7388ed5e6280f", func := "vendmeter/vendmeterkeep.SellMoves", spec := "sellMoves", inPlace := ["internal/reflectlite.ValueOf", "(internal/reflectlite.Value).Len"], unfollowed := true, recurses := true, apart := false, narrowed := true }
def SellMovesUptoSaid : Prop := sellMovesUptoRow.holds Try.pinned (OpenSpec.upto sellMovesSpec)

/-- 'vendmeterkeep.SellMost', WHERE WHAT IT READS IS OF BULK AT MOST 1048576: true; the input reads as it did. -/
def sellMostUptoRow : OpenClaim := { program := "ytbabbejigcobjaa", sum := "10a22054df64db1fa96effa26f7d9437ee6555f3c19e445dc4b7388ed5e6280f", func := "vendmeter/vendmeterkeep.SellMost", spec := "sellMost", inPlace := ["internal/reflectlite.ValueOf", "(internal/reflectlite.Value).Len"], unfollowed := true, recurses := true, apart := false, narrowed := true }
def SellMostUptoSaid : Prop := sellMostUptoRow.holds Try.pinned (OpenSpec.upto sellMostSpec)

/-- 'vendmeterkeep.SellAdds', WHERE WHAT IT READS IS OF BULK AT MOST 1048576: true; the input reads as it did. -/
def sellAddsUptoRow : OpenClaim := { program := "ytbabbejigcobjaa", sum := "10a22054df64db1fa96effa26f7d9437ee6555f3c19e445dc4b7388ed5e6280f", func := "vendmeter/vendmeterkeep.SellAdds", spec := "sellAdds", inPlace := ["internal/reflectlite.ValueOf", "(internal/reflectlite.Value).Len"], unfollowed := true, recurses := true, apart := false, narrowed := true }
def SellAddsUptoSaid : Prop := sellAddsUptoRow.holds Try.pinned (OpenSpec.upto sellAddsSpec)

end Rows
end Go.Proofs.Ytbabbejigcobjaa

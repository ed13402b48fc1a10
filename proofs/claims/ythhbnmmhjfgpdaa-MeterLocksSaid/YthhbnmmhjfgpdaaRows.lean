/-
  No cell of these rows narrows 'for every input' (looked for: loops, veiled, ifaces, maps, wideKeys, modest, calm, conditions, laid).
  DERIVED. THE GIVEN ROWS OF THIS SEAT. 6 by the template 'for every input the law returns true; each argument reads behind the call as it read before'; 0 by the template 'total and deterministic' (their statements: YthhbnmmhjfgpdaaTotals.lean).
  GIVEN WITH THE SEED: the statements are not yours to turn. If you find one false, say at which input.
  Laid BY PROGRAM, IN A SANDBOX (cutbox-rows.mjs): the forced cells as the released guide's own fill.sh prints them over the translation 314655ed427e0025… (all of the seat's roots in one cut). By AI agents, Wed Nov 11 2026. No macro, syntax, notation, axiom, sorry.
-/
import Derived.Test.YthhbnmmhjfgpdaaChecked
import GoSem.Claim
import GoSem.ClaimJoined
import GoSem.ClaimMapViews
import Derived.JoinedTies
import Derived.KernelRfl
namespace Go.Proofs.Ythhbnmmhjfgpdaa
/- THE CELL 'sum', in the pinned program and in every row, IS THE sha256 OF THE DUMP (.gsa) THAT YthhbnmmhjfgpdaaProg.lean LOADS. Nothing in Lean hashes anything: it is a label: what it is worth is what the hold of that sum in a sandbox is worth. -/
noncomputable def Try.pinned : Pinned := { name := "ythhbnmmhjfgpdaa", sum := "314655ed427e00258c30be40932005d3e32610f6c548937b67f15efde829d4e5", checked := Try.checked }
namespace Rows
def none {H : Type} : Left H := { results := [], args := [] }

/-- 'vendmeterkeep.EventBack': WHATEVER THE INPUT: true; the input reads as it did. -/
def eventBackSpec : ChangeSpec := { name := "eventBack", fn := fun _ => fun
  | [d] => { results := [.lit (.bool true)], args := [d] }
  | _ => none }
def eventBackRow : OpenClaim := { program := "ythhbnmmhjfgpdaa", sum := "314655ed427e00258c30be40932005d3e32610f6c548937b67f15efde829d4e5", func := "vendmeter/vendmeterkeep.EventBack", spec := "eventBack", unfollowed := true, recurses := true, plainKeys := false, apart := false }
def EventBackSaid : Prop := eventBackRow.holds Try.pinned (OpenSpec.ofChange eventBackSpec)

/-- ITS FALSE NEIGHBOUR: 'it returns false'. Refute it at one input. -/
def eventBackWrong : ChangeSpec := { name := "eventBack", fn := fun _ => fun
  | [d] => { results := [.lit (.bool false)], args := [d] }
  | _ => none }
def EventBackWrongFalsely : Prop := eventBackRow.holds Try.pinned (OpenSpec.ofChange eventBackWrong)

/-- 'vendmeterkeep.EventFixed': WHATEVER THE INPUT: true; the input reads as it did. -/
def eventFixedSpec : ChangeSpec := { name := "eventFixed", fn := fun _ => fun
  | [d] => { results := [.lit (.bool true)], args := [d] }
  | _ => none }
def eventFixedRow : OpenClaim := { program := "ythhbnmmhjfgpdaa", sum := "314655ed427e00258c30be40932005d3e32610f6c548937b67f15efde829d4e5", func := "vendmeter/vendmeterkeep.EventFixed", spec := "eventFixed", unfollowed := true, recurses := true, plainKeys := false, apart := false }
def EventFixedSaid : Prop := eventFixedRow.holds Try.pinned (OpenSpec.ofChange eventFixedSpec)

/-- ITS FALSE NEIGHBOUR: 'it returns false'. Refute it at one input. -/
def eventFixedWrong : ChangeSpec := { name := "eventFixed", fn := fun _ => fun
  | [d] => { results := [.lit (.bool false)], args := [d] }
  | _ => none }
def EventFixedWrongFalsely : Prop := eventFixedRow.holds Try.pinned (OpenSpec.ofChange eventFixedWrong)

/-- 'vendmeterkeep.DealAdds': WHATEVER THE INPUT: true; the input reads as it did. -/
def dealAddsSpec : ChangeSpec := { name := "dealAdds", fn := fun _ => fun
  | [d1, d2] => { results := [.lit (.bool true)], args := [d1, d2] }
  | _ => none }
def dealAddsRow : OpenClaim := { program := "ythhbnmmhjfgpdaa", sum := "314655ed427e00258c30be40932005d3e32610f6c548937b67f15efde829d4e5", func := "vendmeter/vendmeterkeep.DealAdds", spec := "dealAdds", unfollowed := true, recurses := true, plainKeys := false, apart := false }
def DealAddsSaid : Prop := dealAddsRow.holds Try.pinned (OpenSpec.ofChange dealAddsSpec)

/-- ITS FALSE NEIGHBOUR: 'it returns false'. Refute it at one input. -/
def dealAddsWrong : ChangeSpec := { name := "dealAdds", fn := fun _ => fun
  | [d1, d2] => { results := [.lit (.bool false)], args := [d1, d2] }
  | _ => none }
def DealAddsWrongFalsely : Prop := dealAddsRow.holds Try.pinned (OpenSpec.ofChange dealAddsWrong)

/-- 'vendmeterkeep.DealFair': WHATEVER THE INPUT: true; the input reads as it did. -/
def dealFairSpec : ChangeSpec := { name := "dealFair", fn := fun _ => fun
  | [d1, d2] => { results := [.lit (.bool true)], args := [d1, d2] }
  | _ => none }
def dealFairRow : OpenClaim := { program := "ythhbnmmhjfgpdaa", sum := "314655ed427e00258c30be40932005d3e32610f6c548937b67f15efde829d4e5", func := "vendmeter/vendmeterkeep.DealFair", spec := "dealFair", unfollowed := true, recurses := true, plainKeys := false, apart := false }
def DealFairSaid : Prop := dealFairRow.holds Try.pinned (OpenSpec.ofChange dealFairSpec)

/-- ITS FALSE NEIGHBOUR: 'it returns false'. Refute it at one input. -/
def dealFairWrong : ChangeSpec := { name := "dealFair", fn := fun _ => fun
  | [d1, d2] => { results := [.lit (.bool false)], args := [d1, d2] }
  | _ => none }
def DealFairWrongFalsely : Prop := dealFairRow.holds Try.pinned (OpenSpec.ofChange dealFairWrong)

/-- 'vendmeterkeep.DealRises': WHATEVER THE INPUT: true; the input reads as it did. -/
def dealRisesSpec : ChangeSpec := { name := "dealRises", fn := fun _ => fun
  | [d1, d2] => { results := [.lit (.bool true)], args := [d1, d2] }
  | _ => none }
def dealRisesRow : OpenClaim := { program := "ythhbnmmhjfgpdaa", sum := "314655ed427e00258c30be40932005d3e32610f6c548937b67f15efde829d4e5", func := "vendmeter/vendmeterkeep.DealRises", spec := "dealRises", unfollowed := true, recurses := true, plainKeys := false, apart := false }
def DealRisesSaid : Prop := dealRisesRow.holds Try.pinned (OpenSpec.ofChange dealRisesSpec)

/-- ITS FALSE NEIGHBOUR: 'it returns false'. Refute it at one input. -/
def dealRisesWrong : ChangeSpec := { name := "dealRises", fn := fun _ => fun
  | [d1, d2] => { results := [.lit (.bool false)], args := [d1, d2] }
  | _ => none }
def DealRisesWrongFalsely : Prop := dealRisesRow.holds Try.pinned (OpenSpec.ofChange dealRisesWrong)

/-- 'vendmeterkeep.MeterLocks': WHATEVER THE INPUT: true; the input reads as it did. -/
def meterLocksSpec : ChangeSpec := { name := "meterLocks", fn := fun _ => fun
  | [d1, d2, d3, d4] => { results := [.lit (.bool true)], args := [d1, d2, d3, d4] }
  | _ => none }
def meterLocksRow : OpenClaim := { program := "ythhbnmmhjfgpdaa", sum := "314655ed427e00258c30be40932005d3e32610f6c548937b67f15efde829d4e5", func := "vendmeter/vendmeterkeep.MeterLocks", spec := "meterLocks", unfollowed := true, recurses := true, plainKeys := false, apart := false }
def MeterLocksSaid : Prop := meterLocksRow.holds Try.pinned (OpenSpec.ofChange meterLocksSpec)

/-- ITS FALSE NEIGHBOUR: 'it returns false'. Refute it at one input. -/
def meterLocksWrong : ChangeSpec := { name := "meterLocks", fn := fun _ => fun
  | [d1, d2, d3, d4] => { results := [.lit (.bool false)], args := [d1, d2, d3, d4] }
  | _ => none }
def MeterLocksWrongFalsely : Prop := meterLocksRow.holds Try.pinned (OpenSpec.ofChange meterLocksWrong)

/- THE SECOND FORM. 'bulk': how many values and letters a reading holds, each counted each time it is reached (what is shared counts as often as it is met; a slice's spare places count too). A statement '..UptoSaid' is the law's where the arguments, and the package variables that the reading takes, are together of bulk at most 1048576: NARROWER than '..Said'. Prove '..Said' where nothing that the law and all that it calls make is longer than what came in: it says more and counts as full. Else prove '..UptoSaid'. A law counts once. -/
mutual
def uptoBulk {H : Type} : DataW H → Nat
  | .lit (.string bytes) => bytes.length + 1
  | .lit _ => 1
  | .nil => 1
  | .ptr d => uptoBulk d + 1
  | .slice elems spare => uptoBulkAll elems + uptoBulkAll spare + 1
  | .agg parts => uptoBulkAll parts + 1
  | .iface _ d => uptoBulk d + 1
  | .map entries => uptoBulkEntries entries + 1
  | .held _ => 1
def uptoBulkAll {H : Type} : List (DataW H) → Nat
  | [] => 0
  | d :: r => uptoBulk d + uptoBulkAll r
def uptoBulkEntries {H : Type} : List (Lit × DataW H) → Nat
  | [] => 0
  | x :: r => uptoBulkEntry x + uptoBulkEntries r
def uptoBulkEntry {H : Type} : Lit × DataW H → Nat
  | (.string bytes, d) => bytes.length + uptoBulk d + 1
  | (_, d) => uptoBulk d + 1
 end
def uptoSmall : (H : Type) → List (DataW H) → Bool := fun _ ds => decide (uptoBulkAll ds ≤ 1048576)
def OpenSpec.upto (s : _root_.Go.ChangeSpec) : _root_.Go.OpenSpec := { _root_.Go.OpenSpec.ofChange s with cond := some uptoSmall }

/-- 'vendmeterkeep.EventBack', WHERE WHAT IT READS IS OF BULK AT MOST 1048576: true; the input reads as it did. -/
def eventBackUptoRow : OpenClaim := { program := "ythhbnmmhjfgpdaa", sum := "314655ed427e00258c30be40932005d3e32610f6c548937b67f15efde829d4e5", func := "vendmeter/vendmeterkeep.EventBack", spec := "eventBack", unfollowed := true, recurses := true, plainKeys := false, apart := false, narrowed := true }
def EventBackUptoSaid : Prop := eventBackUptoRow.holds Try.pinned (OpenSpec.upto eventBackSpec)

/-- 'vendmeterkeep.EventFixed', WHERE WHAT IT READS IS OF BULK AT MOST 1048576: true; the input reads as it did. -/
def eventFixedUptoRow : OpenClaim := { program := "ythhbnmmhjfgpdaa", sum := "314655ed427e00258c30be40932005d3e32610f6c548937b67f15efde829d4e5", func := "vendmeter/vendmeterkeep.EventFixed", spec := "eventFixed", unfollowed := true, recurses := true, plainKeys := false, apart := false, narrowed := true }
def EventFixedUptoSaid : Prop := eventFixedUptoRow.holds Try.pinned (OpenSpec.upto eventFixedSpec)

/-- 'vendmeterkeep.DealAdds', WHERE WHAT IT READS IS OF BULK AT MOST 1048576: true; the input reads as it did. -/
def dealAddsUptoRow : OpenClaim := { program := "ythhbnmmhjfgpdaa", sum := "314655ed427e00258c30be40932005d3e32610f6c548937b67f15efde829d4e5", func := "vendmeter/vendmeterkeep.DealAdds", spec := "dealAdds", unfollowed := true, recurses := true, plainKeys := false, apart := false, narrowed := true }
def DealAddsUptoSaid : Prop := dealAddsUptoRow.holds Try.pinned (OpenSpec.upto dealAddsSpec)

/-- 'vendmeterkeep.DealFair', WHERE WHAT IT READS IS OF BULK AT MOST 1048576: true; the input reads as it did. -/
def dealFairUptoRow : OpenClaim := { program := "ythhbnmmhjfgpdaa", sum := "314655ed427e00258c30be40932005d3e32610f6c548937b67f15efde829d4e5", func := "vendmeter/vendmeterkeep.DealFair", spec := "dealFair", unfollowed := true, recurses := true, plainKeys := false, apart := false, narrowed := true }
def DealFairUptoSaid : Prop := dealFairUptoRow.holds Try.pinned (OpenSpec.upto dealFairSpec)

/-- 'vendmeterkeep.DealRises', WHERE WHAT IT READS IS OF BULK AT MOST 1048576: true; the input reads as it did. -/
def dealRisesUptoRow : OpenClaim := { program := "ythhbnmmhjfgpdaa", sum := "314655ed427e00258c30be40932005d3e32610f6c548937b67f15efde829d4e5", func := "vendmeter/vendmeterkeep.DealRises", spec := "dealRises", unfollowed := true, recurses := true, plainKeys := false, apart := false, narrowed := true }
def DealRisesUptoSaid : Prop := dealRisesUptoRow.holds Try.pinned (OpenSpec.upto dealRisesSpec)

/-- 'vendmeterkeep.MeterLocks', WHERE WHAT IT READS IS OF BULK AT MOST 1048576: true; the input reads as it did. -/
def meterLocksUptoRow : OpenClaim := { program := "ythhbnmmhjfgpdaa", sum := "314655ed427e00258c30be40932005d3e32610f6c548937b67f15efde829d4e5", func := "vendmeter/vendmeterkeep.MeterLocks", spec := "meterLocks", unfollowed := true, recurses := true, plainKeys := false, apart := false, narrowed := true }
def MeterLocksUptoSaid : Prop := meterLocksUptoRow.holds Try.pinned (OpenSpec.upto meterLocksSpec)

end Rows
end Go.Proofs.Ythhbnmmhjfgpdaa

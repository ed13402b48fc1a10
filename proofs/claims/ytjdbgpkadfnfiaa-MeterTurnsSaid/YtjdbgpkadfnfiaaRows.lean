/-
  No cell of these rows narrows 'for every input' (looked for: loops, veiled, ifaces, maps, wideKeys, modest, calm, conditions, laid).
  DERIVED. THE GIVEN ROWS OF THIS SEAT. 7 by the template 'for every input the law returns true; each argument reads behind the call as it read before'; 0 by the template 'total and deterministic' (their statements: YtjdbgpkadfnfiaaTotals.lean).
  GIVEN WITH THE SEED: the statements are not yours to turn. If you find one false, say at which input.
  Laid BY PROGRAM, IN A SANDBOX (cutbox-rows.mjs): the forced cells as the released guide's own fill.sh prints them over the translation 94d1783a354e5e41… (all of the seat's roots in one cut). By AI agents, Wed Nov 11 2026. No macro, syntax, notation, axiom, sorry.
-/
import Derived.Test.YtjdbgpkadfnfiaaChecked
import GoSem.Claim
import GoSem.ClaimJoined
import GoSem.ClaimMapViews
import Derived.JoinedTies
import Derived.KernelRfl
namespace Go.Proofs.Ytjdbgpkadfnfiaa
/- THE CELL 'sum', in the pinned program and in every row, IS THE sha256 OF THE DUMP (.gsa) THAT YtjdbgpkadfnfiaaProg.lean LOADS. Nothing in Lean hashes anything: it is a label: what it is worth is what the hold of that sum in a sandbox is worth. -/
noncomputable def Try.pinned : Pinned := { name := "ytjdbgpkadfnfiaa", sum := "94d1783a354e5e41cee91d51c8bed5ddfbba7160946635757e5412dca22d86c4", checked := Try.checked }
namespace Rows
def none {H : Type} : Left H := { results := [], args := [] }

/-- 'vendmeterkeep.MeterRefuses': WHATEVER THE INPUT: true; the input reads as it did. -/
def meterRefusesSpec : ChangeSpec := { name := "meterRefuses", fn := fun _ => fun
  | [d1, d2, d3] => { results := [.lit (.bool true)], args := [d1, d2, d3] }
  | _ => none }
def meterRefusesRow : OpenClaim := { program := "ytjdbgpkadfnfiaa", sum := "94d1783a354e5e41cee91d51c8bed5ddfbba7160946635757e5412dca22d86c4", func := "vendmeter/vendmeterkeep.MeterRefuses", spec := "meterRefuses", unfollowed := true, recurses := true, plainKeys := false, apart := false }
def MeterRefusesSaid : Prop := meterRefusesRow.holds Try.pinned (OpenSpec.ofChange meterRefusesSpec)

/-- ITS FALSE NEIGHBOUR: 'it returns false'. Refute it at one input. -/
def meterRefusesWrong : ChangeSpec := { name := "meterRefuses", fn := fun _ => fun
  | [d1, d2, d3] => { results := [.lit (.bool false)], args := [d1, d2, d3] }
  | _ => none }
def MeterRefusesWrongFalsely : Prop := meterRefusesRow.holds Try.pinned (OpenSpec.ofChange meterRefusesWrong)

/-- 'vendmeterkeep.MeterAdds': WHATEVER THE INPUT: true; the input reads as it did. -/
def meterAddsSpec : ChangeSpec := { name := "meterAdds", fn := fun _ => fun
  | [d1, d2] => { results := [.lit (.bool true)], args := [d1, d2] }
  | _ => none }
def meterAddsRow : OpenClaim := { program := "ytjdbgpkadfnfiaa", sum := "94d1783a354e5e41cee91d51c8bed5ddfbba7160946635757e5412dca22d86c4", func := "vendmeter/vendmeterkeep.MeterAdds", spec := "meterAdds", unfollowed := true, recurses := true, plainKeys := false, apart := false }
def MeterAddsSaid : Prop := meterAddsRow.holds Try.pinned (OpenSpec.ofChange meterAddsSpec)

/-- ITS FALSE NEIGHBOUR: 'it returns false'. Refute it at one input. -/
def meterAddsWrong : ChangeSpec := { name := "meterAdds", fn := fun _ => fun
  | [d1, d2] => { results := [.lit (.bool false)], args := [d1, d2] }
  | _ => none }
def MeterAddsWrongFalsely : Prop := meterAddsRow.holds Try.pinned (OpenSpec.ofChange meterAddsWrong)

/-- 'vendmeterkeep.MeterOnce': WHATEVER THE INPUT: true; the input reads as it did. -/
def meterOnceSpec : ChangeSpec := { name := "meterOnce", fn := fun _ => fun
  | [d1, d2] => { results := [.lit (.bool true)], args := [d1, d2] }
  | _ => none }
def meterOnceRow : OpenClaim := { program := "ytjdbgpkadfnfiaa", sum := "94d1783a354e5e41cee91d51c8bed5ddfbba7160946635757e5412dca22d86c4", func := "vendmeter/vendmeterkeep.MeterOnce", spec := "meterOnce", unfollowed := true, recurses := true, plainKeys := false, apart := false }
def MeterOnceSaid : Prop := meterOnceRow.holds Try.pinned (OpenSpec.ofChange meterOnceSpec)

/-- ITS FALSE NEIGHBOUR: 'it returns false'. Refute it at one input. -/
def meterOnceWrong : ChangeSpec := { name := "meterOnce", fn := fun _ => fun
  | [d1, d2] => { results := [.lit (.bool false)], args := [d1, d2] }
  | _ => none }
def MeterOnceWrongFalsely : Prop := meterOnceRow.holds Try.pinned (OpenSpec.ofChange meterOnceWrong)

/-- 'vendmeterkeep.MeterOthers': WHATEVER THE INPUT: true; the input reads as it did. -/
def meterOthersSpec : ChangeSpec := { name := "meterOthers", fn := fun _ => fun
  | [d1, d2, d3] => { results := [.lit (.bool true)], args := [d1, d2, d3] }
  | _ => none }
def meterOthersRow : OpenClaim := { program := "ytjdbgpkadfnfiaa", sum := "94d1783a354e5e41cee91d51c8bed5ddfbba7160946635757e5412dca22d86c4", func := "vendmeter/vendmeterkeep.MeterOthers", spec := "meterOthers", unfollowed := true, recurses := true, plainKeys := false, apart := false }
def MeterOthersSaid : Prop := meterOthersRow.holds Try.pinned (OpenSpec.ofChange meterOthersSpec)

/-- ITS FALSE NEIGHBOUR: 'it returns false'. Refute it at one input. -/
def meterOthersWrong : ChangeSpec := { name := "meterOthers", fn := fun _ => fun
  | [d1, d2, d3] => { results := [.lit (.bool false)], args := [d1, d2, d3] }
  | _ => none }
def MeterOthersWrongFalsely : Prop := meterOthersRow.holds Try.pinned (OpenSpec.ofChange meterOthersWrong)

/-- 'vendmeterkeep.MeterTurns': WHATEVER THE INPUT: true; the input reads as it did. -/
def meterTurnsSpec : ChangeSpec := { name := "meterTurns", fn := fun _ => fun
  | [d1, d2, d3, d4] => { results := [.lit (.bool true)], args := [d1, d2, d3, d4] }
  | _ => none }
def meterTurnsRow : OpenClaim := { program := "ytjdbgpkadfnfiaa", sum := "94d1783a354e5e41cee91d51c8bed5ddfbba7160946635757e5412dca22d86c4", func := "vendmeter/vendmeterkeep.MeterTurns", spec := "meterTurns", unfollowed := true, recurses := true, plainKeys := false, apart := false }
def MeterTurnsSaid : Prop := meterTurnsRow.holds Try.pinned (OpenSpec.ofChange meterTurnsSpec)

/-- ITS FALSE NEIGHBOUR: 'it returns false'. Refute it at one input. -/
def meterTurnsWrong : ChangeSpec := { name := "meterTurns", fn := fun _ => fun
  | [d1, d2, d3, d4] => { results := [.lit (.bool false)], args := [d1, d2, d3, d4] }
  | _ => none }
def MeterTurnsWrongFalsely : Prop := meterTurnsRow.holds Try.pinned (OpenSpec.ofChange meterTurnsWrong)

/-- 'vendmeterkeep.MeterLocks': WHATEVER THE INPUT: true; the input reads as it did. -/
def meterLocksSpec : ChangeSpec := { name := "meterLocks", fn := fun _ => fun
  | [d1, d2, d3, d4] => { results := [.lit (.bool true)], args := [d1, d2, d3, d4] }
  | _ => none }
def meterLocksRow : OpenClaim := { program := "ytjdbgpkadfnfiaa", sum := "94d1783a354e5e41cee91d51c8bed5ddfbba7160946635757e5412dca22d86c4", func := "vendmeter/vendmeterkeep.MeterLocks", spec := "meterLocks", unfollowed := true, recurses := true, plainKeys := false, apart := false }
def MeterLocksSaid : Prop := meterLocksRow.holds Try.pinned (OpenSpec.ofChange meterLocksSpec)

/-- ITS FALSE NEIGHBOUR: 'it returns false'. Refute it at one input. -/
def meterLocksWrong : ChangeSpec := { name := "meterLocks", fn := fun _ => fun
  | [d1, d2, d3, d4] => { results := [.lit (.bool false)], args := [d1, d2, d3, d4] }
  | _ => none }
def MeterLocksWrongFalsely : Prop := meterLocksRow.holds Try.pinned (OpenSpec.ofChange meterLocksWrong)

/-- 'vendmeterkeep.TokenApart': WHATEVER THE INPUT: true; the input reads as it did. -/
def tokenApartSpec : ChangeSpec := { name := "tokenApart", fn := fun _ => fun
  | [d1, d2] => { results := [.lit (.bool true)], args := [d1, d2] }
  | _ => none }
def tokenApartRow : OpenClaim := { program := "ytjdbgpkadfnfiaa", sum := "94d1783a354e5e41cee91d51c8bed5ddfbba7160946635757e5412dca22d86c4", func := "vendmeter/vendmeterkeep.TokenApart", spec := "tokenApart", inPlace := ["internal/abi.NoEscape", "internal/bytealg.MakeNoZero"], unfollowed := true, recurses := true, named := ["math/bits.overflowError"], plainKeys := false, apart := false }
def TokenApartSaid : Prop := tokenApartRow.holds Try.pinned (OpenSpec.ofChange tokenApartSpec)

/-- ITS FALSE NEIGHBOUR: 'it returns false'. Refute it at one input. -/
def tokenApartWrong : ChangeSpec := { name := "tokenApart", fn := fun _ => fun
  | [d1, d2] => { results := [.lit (.bool false)], args := [d1, d2] }
  | _ => none }
def TokenApartWrongFalsely : Prop := tokenApartRow.holds Try.pinned (OpenSpec.ofChange tokenApartWrong)

/- THE SECOND FORM. 'bulk': how many values and letters a reading holds, each counted each time it is reached (what is shared counts as often as it is met; a slice's spare places count too). A statement '..UptoSaid' is the law's where the arguments, and the package variables that the reading takes, are together of bulk at most 1048576: NARROWER than '..Said'. Prove '..Said' where nothing that the law and all that it calls make is longer than what came in: it says more and counts as full. Else prove '..UptoSaid'. A law counts once. -/
mutual
def uptoBulk {H : Type} : DataW H → Nat
  | .lit (.string bytes) => bytes.length + 1
  | .lit _ => 1
  | .nil => 1
  | .ptr d => uptoBulk d + 1
  | .slice elems spare => uptoBulkAll elems + uptoBulkAll spare + 1
  | .agg parts => uptoBulkAll parts + 1
  | .iface _ d => uptoBulk d + 1
  | .map entries => uptoBulkEntries entries + 1
  | .held _ => 1
def uptoBulkAll {H : Type} : List (DataW H) → Nat
  | [] => 0
  | d :: r => uptoBulk d + uptoBulkAll r
def uptoBulkEntries {H : Type} : List (Lit × DataW H) → Nat
  | [] => 0
  | x :: r => uptoBulkEntry x + uptoBulkEntries r
def uptoBulkEntry {H : Type} : Lit × DataW H → Nat
  | (.string bytes, d) => bytes.length + uptoBulk d + 1
  | (_, d) => uptoBulk d + 1
 end
def uptoSmall : (H : Type) → List (DataW H) → Bool := fun _ ds => decide (uptoBulkAll ds ≤ 1048576)
def OpenSpec.upto (s : _root_.Go.ChangeSpec) : _root_.Go.OpenSpec := { _root_.Go.OpenSpec.ofChange s with cond := some uptoSmall }

/-- 'vendmeterkeep.MeterRefuses', WHERE WHAT IT READS IS OF BULK AT MOST 1048576: true; the input reads as it did. -/
def meterRefusesUptoRow : OpenClaim := { program := "ytjdbgpkadfnfiaa", sum := "94d1783a354e5e41cee91d51c8bed5ddfbba7160946635757e5412dca22d86c4", func := "vendmeter/vendmeterkeep.MeterRefuses", spec := "meterRefuses", unfollowed := true, recurses := true, plainKeys := false, apart := false, narrowed := true }
def MeterRefusesUptoSaid : Prop := meterRefusesUptoRow.holds Try.pinned (OpenSpec.upto meterRefusesSpec)

/-- 'vendmeterkeep.MeterAdds', WHERE WHAT IT READS IS OF BULK AT MOST 1048576: true; the input reads as it did. -/
def meterAddsUptoRow : OpenClaim := { program := "ytjdbgpkadfnfiaa", sum := "94d1783a354e5e41cee91d51c8bed5ddfbba7160946635757e5412dca22d86c4", func := "vendmeter/vendmeterkeep.MeterAdds", spec := "meterAdds", unfollowed := true, recurses := true, plainKeys := false, apart := false, narrowed := true }
def MeterAddsUptoSaid : Prop := meterAddsUptoRow.holds Try.pinned (OpenSpec.upto meterAddsSpec)

/-- 'vendmeterkeep.MeterOnce', WHERE WHAT IT READS IS OF BULK AT MOST 1048576: true; the input reads as it did. -/
def meterOnceUptoRow : OpenClaim := { program := "ytjdbgpkadfnfiaa", sum := "94d1783a354e5e41cee91d51c8bed5ddfbba7160946635757e5412dca22d86c4", func := "vendmeter/vendmeterkeep.MeterOnce", spec := "meterOnce", unfollowed := true, recurses := true, plainKeys := false, apart := false, narrowed := true }
def MeterOnceUptoSaid : Prop := meterOnceUptoRow.holds Try.pinned (OpenSpec.upto meterOnceSpec)

/-- 'vendmeterkeep.MeterOthers', WHERE WHAT IT READS IS OF BULK AT MOST 1048576: true; the input reads as it did. -/
def meterOthersUptoRow : OpenClaim := { program := "ytjdbgpkadfnfiaa", sum := "94d1783a354e5e41cee91d51c8bed5ddfbba7160946635757e5412dca22d86c4", func := "vendmeter/vendmeterkeep.MeterOthers", spec := "meterOthers", unfollowed := true, recurses := true, plainKeys := false, apart := false, narrowed := true }
def MeterOthersUptoSaid : Prop := meterOthersUptoRow.holds Try.pinned (OpenSpec.upto meterOthersSpec)

/-- 'vendmeterkeep.MeterTurns', WHERE WHAT IT READS IS OF BULK AT MOST 1048576: true; the input reads as it did. -/
def meterTurnsUptoRow : OpenClaim := { program := "ytjdbgpkadfnfiaa", sum := "94d1783a354e5e41cee91d51c8bed5ddfbba7160946635757e5412dca22d86c4", func := "vendmeter/vendmeterkeep.MeterTurns", spec := "meterTurns", unfollowed := true, recurses := true, plainKeys := false, apart := false, narrowed := true }
def MeterTurnsUptoSaid : Prop := meterTurnsUptoRow.holds Try.pinned (OpenSpec.upto meterTurnsSpec)

/-- 'vendmeterkeep.MeterLocks', WHERE WHAT IT READS IS OF BULK AT MOST 1048576: true; the input reads as it did. -/
def meterLocksUptoRow : OpenClaim := { program := "ytjdbgpkadfnfiaa", sum := "94d1783a354e5e41cee91d51c8bed5ddfbba7160946635757e5412dca22d86c4", func := "vendmeter/vendmeterkeep.MeterLocks", spec := "meterLocks", unfollowed := true, recurses := true, plainKeys := false, apart := false, narrowed := true }
def MeterLocksUptoSaid : Prop := meterLocksUptoRow.holds Try.pinned (OpenSpec.upto meterLocksSpec)

/-- 'vendmeterkeep.TokenApart', WHERE WHAT IT READS IS OF BULK AT MOST 1048576: true; the input reads as it did. -/
def tokenApartUptoRow : OpenClaim := { program := "ytjdbgpkadfnfiaa", sum := "94d1783a354e5e41cee91d51c8bed5ddfbba7160946635757e5412dca22d86c4", func := "vendmeter/vendmeterkeep.TokenApart", spec := "tokenApart", inPlace := ["internal/abi.NoEscape", "internal/bytealg.MakeNoZero"], unfollowed := true, recurses := true, named := ["math/bits.overflowError"], plainKeys := false, apart := false, narrowed := true }
def TokenApartUptoSaid : Prop := tokenApartUptoRow.holds Try.pinned (OpenSpec.upto tokenApartSpec)

end Rows
end Go.Proofs.Ytjdbgpkadfnfiaa

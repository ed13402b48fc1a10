/-
  No cell of these rows narrows 'for every input' (looked for: loops, veiled, ifaces, maps, wideKeys, modest, calm, conditions, laid).
  DERIVED. THE GIVEN ROWS OF THIS SEAT. 3 by the template 'for every input the law returns true; each argument reads behind the call as it read before'; 0 by the template 'total and deterministic' (their statements: YtfcgpgfghidajaaTotals.lean).
  GIVEN WITH THE SEED: the statements are not yours to turn. If you find one false, say at which input.
  Laid BY PROGRAM, IN A SANDBOX (cutbox-rows.mjs): the forced cells as the released guide's own fill.sh prints them over the translation 7c9ce542f6bfed6b… (all of the seat's roots in one cut). By AI agents, Wed Nov 11 2026. No macro, syntax, notation, axiom, sorry.
-/
import Derived.Test.YtfcgpgfghidajaaChecked
import GoSem.Claim
import GoSem.ClaimJoined
import GoSem.ClaimMapViews
import Derived.JoinedTies
import Derived.KernelRfl
namespace Go.Proofs.Ytfcgpgfghidajaa
/- THE CELL 'sum', in the pinned program and in every row, IS THE sha256 OF THE DUMP (.gsa) THAT YtfcgpgfghidajaaProg.lean LOADS. Nothing in Lean hashes anything: it is a label: what it is worth is what the hold of that sum in a sandbox is worth. -/
noncomputable def Try.pinned : Pinned := { name := "ytfcgpgfghidajaa", sum := "7c9ce542f6bfed6b4516f484e80b375eb35b0d6601c16eecc285e92127de45ab", checked := Try.checked }
namespace Rows
def none {H : Type} : Left H := { results := [], args := [] }

/-- 'vendmeterkeep.DealAdds': WHATEVER THE INPUT: true; the input reads as it did. -/
def dealAddsSpec : ChangeSpec := { name := "dealAdds", fn := fun _ => fun
  | [d1, d2] => { results := [.lit (.bool true)], args := [d1, d2] }
  | _ => none }
def dealAddsRow : OpenClaim := { program := "ytfcgpgfghidajaa", sum := "7c9ce542f6bfed6b4516f484e80b375eb35b0d6601c16eecc285e92127de45ab", func := "vendmeter/vendmeterkeep.DealAdds", spec := "dealAdds", unfollowed := true, recurses := true, apart := false }
def DealAddsSaid : Prop := dealAddsRow.holds Try.pinned (OpenSpec.ofChange dealAddsSpec)

/-- ITS FALSE NEIGHBOUR: 'it returns false'. Refute it at one input. -/
def dealAddsWrong : ChangeSpec := { name := "dealAdds", fn := fun _ => fun
  | [d1, d2] => { results := [.lit (.bool false)], args := [d1, d2] }
  | _ => none }
def DealAddsWrongFalsely : Prop := dealAddsRow.holds Try.pinned (OpenSpec.ofChange dealAddsWrong)

/-- 'vendmeterkeep.DealFair': WHATEVER THE INPUT: true; the input reads as it did. -/
def dealFairSpec : ChangeSpec := { name := "dealFair", fn := fun _ => fun
  | [d1, d2] => { results := [.lit (.bool true)], args := [d1, d2] }
  | _ => none }
def dealFairRow : OpenClaim := { program := "ytfcgpgfghidajaa", sum := "7c9ce542f6bfed6b4516f484e80b375eb35b0d6601c16eecc285e92127de45ab", func := "vendmeter/vendmeterkeep.DealFair", spec := "dealFair", unfollowed := true, recurses := true, apart := false }
def DealFairSaid : Prop := dealFairRow.holds Try.pinned (OpenSpec.ofChange dealFairSpec)

/-- ITS FALSE NEIGHBOUR: 'it returns false'. Refute it at one input. -/
def dealFairWrong : ChangeSpec := { name := "dealFair", fn := fun _ => fun
  | [d1, d2] => { results := [.lit (.bool false)], args := [d1, d2] }
  | _ => none }
def DealFairWrongFalsely : Prop := dealFairRow.holds Try.pinned (OpenSpec.ofChange dealFairWrong)

/-- 'vendmeterkeep.DealRises': WHATEVER THE INPUT: true; the input reads as it did. -/
def dealRisesSpec : ChangeSpec := { name := "dealRises", fn := fun _ => fun
  | [d1, d2] => { results := [.lit (.bool true)], args := [d1, d2] }
  | _ => none }
def dealRisesRow : OpenClaim := { program := "ytfcgpgfghidajaa", sum := "7c9ce542f6bfed6b4516f484e80b375eb35b0d6601c16eecc285e92127de45ab", func := "vendmeter/vendmeterkeep.DealRises", spec := "dealRises", unfollowed := true, recurses := true, apart := false }
def DealRisesSaid : Prop := dealRisesRow.holds Try.pinned (OpenSpec.ofChange dealRisesSpec)

/-- ITS FALSE NEIGHBOUR: 'it returns false'. Refute it at one input. -/
def dealRisesWrong : ChangeSpec := { name := "dealRises", fn := fun _ => fun
  | [d1, d2] => { results := [.lit (.bool false)], args := [d1, d2] }
  | _ => none }
def DealRisesWrongFalsely : Prop := dealRisesRow.holds Try.pinned (OpenSpec.ofChange dealRisesWrong)

/- THE SECOND FORM. 'bulk': how many values and letters a reading holds, each counted each time it is reached (what is shared counts as often as it is met; a slice's spare places count too). A statement '..UptoSaid' is the law's where the arguments, and the package variables that the reading takes, are together of bulk at most 1048576: NARROWER than '..Said'. Prove '..Said' where nothing that the law and all that it calls make is longer than what came in: it says more and counts as full. Else prove '..UptoSaid'. A law counts once. -/
mutual
def uptoBulk {H : Type} : DataW H → Nat
  | .lit (.string bytes) => bytes.length + 1
  | .lit _ => 1
  | .nil => 1
  | .ptr d => uptoBulk d + 1
  | .slice elems spare => uptoBulkAll elems + uptoBulkAll spare + 1
  | .agg parts => uptoBulkAll parts + 1
  | .iface _ d => uptoBulk d + 1
  | .map entries => uptoBulkEntries entries + 1
  | .held _ => 1
def uptoBulkAll {H : Type} : List (DataW H) → Nat
  | [] => 0
  | d :: r => uptoBulk d + uptoBulkAll r
def uptoBulkEntries {H : Type} : List (Lit × DataW H) → Nat
  | [] => 0
  | x :: r => uptoBulkEntry x + uptoBulkEntries r
def uptoBulkEntry {H : Type} : Lit × DataW H → Nat
  | (.string bytes, d) => bytes.length + uptoBulk d + 1
  | (_, d) => uptoBulk d + 1
 end
def uptoSmall : (H : Type) → List (DataW H) → Bool := fun _ ds => decide (uptoBulkAll ds ≤ 1048576)
def OpenSpec.upto (s : _root_.Go.ChangeSpec) : _root_.Go.OpenSpec := { _root_.Go.OpenSpec.ofChange s with cond := some uptoSmall }

/-- 'vendmeterkeep.DealAdds', WHERE WHAT IT READS IS OF BULK AT MOST 1048576: true; the input reads as it did. -/
def dealAddsUptoRow : OpenClaim := { program := "ytfcgpgfghidajaa", sum := "7c9ce542f6bfed6b4516f484e80b375eb35b0d6601c16eecc285e92127de45ab", func := "vendmeter/vendmeterkeep.DealAdds", spec := "dealAdds", unfollowed := true, recurses := true, apart := false, narrowed := true }
def DealAddsUptoSaid : Prop := dealAddsUptoRow.holds Try.pinned (OpenSpec.upto dealAddsSpec)

/-- 'vendmeterkeep.DealFair', WHERE WHAT IT READS IS OF BULK AT MOST 1048576: true; the input reads as it did. -/
def dealFairUptoRow : OpenClaim := { program := "ytfcgpgfghidajaa", sum := "7c9ce542f6bfed6b4516f484e80b375eb35b0d6601c16eecc285e92127de45ab", func := "vendmeter/vendmeterkeep.DealFair", spec := "dealFair", unfollowed := true, recurses := true, apart := false, narrowed := true }
def DealFairUptoSaid : Prop := dealFairUptoRow.holds Try.pinned (OpenSpec.upto dealFairSpec)

/-- 'vendmeterkeep.DealRises', WHERE WHAT IT READS IS OF BULK AT MOST 1048576: true; the input reads as it did. -/
def dealRisesUptoRow : OpenClaim := { program := "ytfcgpgfghidajaa", sum := "7c9ce542f6bfed6b4516f484e80b375eb35b0d6601c16eecc285e92127de45ab", func := "vendmeter/vendmeterkeep.DealRises", spec := "dealRises", unfollowed := true, recurses := true, apart := false, narrowed := true }
def DealRisesUptoSaid : Prop := dealRisesUptoRow.holds Try.pinned (OpenSpec.upto dealRisesSpec)

end Rows
end Go.Proofs.Ytfcgpgfghidajaa

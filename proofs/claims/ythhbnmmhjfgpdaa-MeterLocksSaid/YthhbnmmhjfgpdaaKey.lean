/- Three numbers as the key of a map. -/
import Derived.Test.YthhbnmmhjfgpdaaOwn
import Derived.Maps.OwnSet
import Derived.Maps.OwnOps
import Derived.Maps.Views
import Derived.DeepKeys4
import Derived.ChangeKeys
namespace Go.Proofs.Ythhbnmmhjfgpdaa
open Go.RowKit Go.Maps Go.ChangeShapes Go.WideShapes
/-- The key's lits. -/
def kls (a b c : Int) : List Lit := [.int .i64 a, .int .i64 b, .int .i64 c]
def kl (a b c : Int) : Lit := .string (keyBytes (kls a b c))
def wf3 (a b c : Int) : Prop := (Lit.int .i64 a).wf = true ∧ (Lit.int .i64 b).wf = true ∧ (Lit.int .i64 c).wf = true
theorem what_laid : laidOutB Try.prog = true := by kernel_rfl
theorem what_law : Keyed Try.prog 100 := Keyed.of_law (deep_law_laid what_laid (m := 9) (by omega) (by decide +kernel) (by kernel_rfl) (by kernel_rfl))
theorem what_key {a b c : Int} (h : wf3 a b c) : keyOf Try.prog 100 (.agg #[.int .i64 a, .int .i64 b, .int .i64 c]) = some (kl a b c) := by
  obtain ⟨ha, hb, hc⟩ := h
  have c3 : Try.prog.cellsOf 100 = 3 := by kernel_rfl
  have c1 : Try.prog.cellsOf 3 = 1 := by kernel_rfl
  have hf : (Try.prog.keyType 100 && (Value.agg #[.int .i64 a, .int .i64 b, .int .i64 c]).formed Try.prog 100) = true := by kernel_rfl
  obtain ⟨d, hd⟩ : ∃ d, Try.prog.types.size + 1 = d + 1 + 1 := ⟨Try.prog.types.size - 1, by
    have : 1 ≤ Try.prog.types.size := by decide +kernel
    omega⟩
  have hk : Try.prog.keyLits (Try.prog.types.size + 1) 100 [.int .i64 a, .int .i64 b, .int .i64 c] = some (kls a b c) := by
    rw [hd]
    simp only [Program.keyLits, Try.underlying100, c3]
    simp [c1, ha, hb, hc, kls]
  unfold keyOf
  rw [Try.underlying100]
  simp only [hf, if_true]
  have e : (Value.agg #[.int .i64 a, .int .i64 b, .int .i64 c]).cells.toList = [.int .i64 a, .int .i64 b, .int .i64 c] := rfl
  rw [e, hk]
  rfl
theorem kl_inj {a b c a' b' c' : Int} (h : wf3 a b c) (h' : wf3 a' b' c') (e : kl a b c = kl a' b' c') : a = a' ∧ b = b' ∧ c = c' := by
  have h1 := what_key h
  have h2 := what_key h'
  rw [← e] at h2
  have := what_law.inj h1 h2
  simp at this
  exact this
theorem kl_lit (a b c : Int) : WideAt.IsKeyLit (kl a b c) := trivial
end Go.Proofs.Ythhbnmmhjfgpdaa

/- The walk of the law OracleOnly. -/
import Derived.Test.YtfifkfkbfllnfaaAsked
namespace Go.Proofs.Ytfifkfkbfllnfaa
open Go.RowKit Go.Maps Go.ChangeShapes Go.WideShapes
theorem ask_of {P : Program} {t : TypeId} {fs : Array Field} {v : Value} {w : World} (h : Fit P w t v) (hu : P.underlying t = some (.struct fs)) (hk : leafInts P t = some [.i64, .i64, .i64, .i64]) :
    ∃ a b c d : Int, v = .agg #[.int .i64 a, .int .i64 b, .int .i64 c, .int .i64 d] ∧ (Lit.int .i64 a).wf = true ∧ (Lit.int .i64 b).wf = true ∧ (Lit.int .i64 c).wf = true ∧ (Lit.int .i64 d).wf = true := by
  obtain ⟨cs, rfl, hcf⟩ := h.struct hu
  obtain ⟨ns, hl, rfl, hw⟩ := hcf.ints (ks := [.i64, .i64, .i64, .i64]) hk
  match ns, hl with
  | [a, b, c, d], _ => exact ⟨a, b, c, d, rfl, hw 0 _ _ rfl rfl, hw 1 _ _ rfl rfl, hw 2 _ _ rfl rfl, hw 3 _ _ rfl rfl⟩
end Go.Proofs.Ytfifkfkbfllnfaa

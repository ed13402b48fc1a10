/- An order that came in; receipts that are alike. -/
import Derived.Test.YtpcgpnkmjjamhaaGreatM37
import Derived.Test.YtpcgpnkmjjamhaaGreatMxAsk
import Derived.Test.YtpcgpnkmjjamhaaGreatM9
namespace Go.Proofs.YtpcgpnkmjjamhaaGreat
open Go.RowKit
set_option linter.unusedVariables false
set_option maxRecDepth 100000 in
theorem order_fit {v : Value} {w : World} (h : Fit Tryz.prog w 69 v) : ∃ a b c d e : Int, v = .agg #[.int .i64 a, .int .i64 b, .int .i64 c, .int .i64 d, .int .i64 e] ∧
   (Lit.int .i64 a).wf = true ∧ (Lit.int .i64 b).wf = true ∧ (Lit.int .i64 c).wf = true ∧ (Lit.int .i64 d).wf = true ∧ (Lit.int .i64 e).wf = true := by
 obtain ⟨cs, rfl, hcf⟩ := h.struct Tryz.underlying69
 obtain ⟨ns, hl, rfl, hw⟩ := hcf.ints (ks := [.i64, .i64, .i64, .i64, .i64]) (by kernel_rfl)
 match ns, hl with
 | [a, b, c, d, e], _ => exact ⟨a, b, c, d, e, rfl, hw 0 _ _ rfl rfl, hw 1 _ _ rfl rfl, hw 2 _ _ rfl rfl, hw 3 _ _ rfl rfl, hw 4 _ _ rfl rfl⟩
theorem rc_same (a b c d e f g h : Int) (s : ByteArray) (W : World) : (Op.equalIn 10000 72 (.agg #[.int .i64 a, .int .i64 b, .int .i64 c, .int .i64 d, .int .i64 e, .int .i64 f, .int .i64 g, .int .i64 h, .string s]) (.agg #[.int .i64 a, .int .i64 b, .int .i64 c, .int .i64 d, .int .i64 e, .int .i64 f, .int .i64 g, .int .i64 h, .string s])).run Tryz.prog W = .ok true W := by
 have q := eq_is (P := Tryz.prog) (t := 72) [.int .i64 a, .int .i64 b, .int .i64 c, .int .i64 d, .int .i64 e, .int .i64 f, .int .i64 g, .int .i64 h, .string s] [.int .i64 a, .int .i64 b, .int .i64 c, .int .i64 d, .int .i64 e, .int .i64 f, .int .i64 g, .int .i64 h, .string s] W (by kernel_rfl) (mkv_struct Tryz.underlying72)
 simpa [cellsEq, leafEq] using q
theorem rc_zero (W : World) : (Op.equalIn 10000 72 (.agg #[.int .i64 0, .int .i64 0, .int .i64 0, .int .i64 0, .int .i64 0, .int .i64 0, .int .i64 0, .int .i64 0, .string ⟨#[]⟩]) (.agg #[.int .i64 0, .int .i64 0, .int .i64 0, .int .i64 0, .int .i64 0, .int .i64 0, .int .i64 0, .int .i64 0, .string ⟨#[]⟩])).run Tryz.prog W = .ok true W := rc_same 0 0 0 0 0 0 0 0 ⟨#[]⟩ W
end Go.Proofs.YtpcgpnkmjjamhaaGreat

/- cents: what its functions compute. -/
import Derived.Test.YtnpkondgpmncnaaPicked
import Derived.Test.YtnpkondgpmncnaaFit
namespace Go.Proofs.Ytnpkondgpmncnaa
open Go.RowKit
set_option maxHeartbeats 400000 in
theorem part_ok (a b : Int) (w : World) (h1 : 0 ≤ a) (h2 : a ≤ 1000000000000) (h3 : 0 ≤ b) (h4 : b ≤ 10000) :
    Calls Try.prog 77 #[.int .i64 a, .int .i64 b] w fun e w' => e = .returned (.tuple #[.int .i64 (a * b / 10000), .int .i64 0]) ∧ w = w' := by
  have h5 : 0 ≤ a * b := Int.mul_nonneg h1 h3
  have h6 : a * b ≤ 1000000000000 * 10000 := Int.mul_le_mul h2 h4 h3 (by omega)
  go_enter Try.func77, Try.ntmps77
  go_wp2
  go_ret2
  exact ⟨rfl, rfl⟩
end Go.Proofs.Ytnpkondgpmncnaa

/- calendar: what its functions compute. -/
import Derived.Test.YtadaanphoehlmaaPicked
import Derived.Test.YtadaanphoehlmaaFit
namespace Go.Proofs.Ytadaanphoehlmaa
open Go.RowKit

set_option maxHeartbeats 400000 in
theorem weekday_ok (n : Int) (w : World) (h1 : 0 ≤ n) (h2 : n ≤ 73048) :
    Calls Try.prog 16 #[.int .i64 n] w fun e w' => e = .returned (.tuple #[.int .i64 ((n + 5) % 7), .int .i64 0]) ∧ w = w' := by
  go_enter Try.func16, Try.ntmps16
  go_wp2
  go_ret2
  exact ⟨rfl, rfl⟩
end Go.Proofs.Ytadaanphoehlmaa

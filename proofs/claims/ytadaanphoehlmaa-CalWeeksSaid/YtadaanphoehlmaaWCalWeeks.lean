/- The walk of the law CalWeeks. -/
import Derived.Test.YtadaanphoehlmaaCal
namespace Go.Proofs.Ytadaanphoehlmaa
open Go.RowKit
set_option maxHeartbeats 400000 in
theorem walk_calWeeks (w : World) (a0 : Int) (w0 : (Lit.int .i64 a0).wf = true) :
    Calls Try.prog 3 #[.int .i64 a0] w fun e w' => e = .returned (.bool true) ∧ Below w.heap.size w w' := by
  go_enter Try.func3, Try.ntmps3
  go_wp2_with fail
  refine (picked_any _ _ _ w0 (by omega) (by omega)).mono ?_
  rintro e w' ⟨rfl, rfl⟩
  have h1 := pk_lo a0 73042 (by omega)
  have h2 := pk_hi a0 73042 (by omega)
  generalize pk a0 73042 = n at *
  go_wp2_with (go_at_call 16; refine (weekday_ok _ _ (by omega) (by omega)).mono ?_; rintro e w' ⟨rfl, rfl⟩)
  go_ret
  exact ⟨ret_true (by simp; omega), Below.refl _ _⟩
end Go.Proofs.Ytadaanphoehlmaa

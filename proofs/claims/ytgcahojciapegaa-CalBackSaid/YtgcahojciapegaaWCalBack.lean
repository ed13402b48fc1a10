/- The walk of the law CalBack. -/
import Derived.Test.YtgcahojciapegaaCal
namespace Go.Proofs.Ytgcahojciapegaa
open Go.RowKit
set_option maxHeartbeats 400000 in
theorem walk_calBack (w : World) (a0 : Int) (w0 : (Lit.int .i64 a0).wf = true) :
    Calls Try.prog 12 #[.int .i64 a0] w fun e w' => e = .returned (.bool true) ∧ Below w.heap.size w w' := by
  obtain ⟨n, hn, hn0, hn1⟩ := pk_int a0 73049 (by omega)
  go_enter Try.func12, Try.ntmps12
  go_wp2_with fail
  refine (picked_is _ hn w0 (by omega) (by omega)).mono ?_
  rintro e w' ⟨rfl, rfl⟩
  go_wp2_with fail
  refine (dateof_ok n _ hn0 (by omega)).mono ?_
  rintro e wa ⟨y, m, d, hy1, hy2, hv, hnum, rfl, hb1⟩
  go_wp2_with fail
  refine (day_ok y m d _ hy1 hy2 hv).mono ?_
  rintro e wb ⟨rfl, hb2⟩
  rw [hnum.out]
  go_wp2
  go_ret
  exact ⟨ret_true (by simp), (hb1.step (below_a1 _ _)).step hb2⟩
end Go.Proofs.Ytgcahojciapegaa

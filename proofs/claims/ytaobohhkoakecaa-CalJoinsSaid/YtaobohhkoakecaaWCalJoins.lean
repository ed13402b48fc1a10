/- The walk of the law CalJoins. -/
import Derived.Test.YtaobohhkoakecaaMon
namespace Go.Proofs.Ytaobohhkoakecaa
open Go.RowKit
set_option maxHeartbeats 800000 in
theorem walk_calJoins (w : World) (a0 : Int) (w0 : (Lit.int .i64 a0).wf = true) :
    Calls Try.prog 7 #[.int .i64 a0] w fun e w' => e = .returned (.bool true) ∧ Below w.heap.size w w' := by
  obtain ⟨m, hm, hml⟩ := pk_nat a0 2399 (by omega)
  obtain ⟨a, b, c, h1, h2, h3, h4, hd0, hd1, hm0, hm1⟩ := joins m hml
  rw [Int.natCast_succ] at hd1
  go_enter Try.func7, Try.ntmps7
  go_wp2_with fail
  refine (picked_is _ hm w0 (by omega) (by omega)).mono ?_
  rintro e w' ⟨rfl, rfl⟩
  go_wp2_with fail
  refine (hd0 _).mono ?_
  rintro e wa ⟨rfl, hb1⟩
  go_wp2_with fail
  refine (hd1 _).mono ?_
  rintro e wb ⟨rfl, hb2⟩
  go_wp2_with fail
  refine (hm0 _).mono ?_
  rintro e wc ⟨rfl, hb3⟩
  go_wp2_with fail
  refine (hm1 _).mono ?_
  rintro e wd ⟨rfl, hb4⟩
  clear hd0 hd1 hm0 hm1
  go_wp2
  go_ret
  exact ⟨ret_true (by simp; omega), ((hb1.step hb2).step hb3).step hb4⟩
end Go.Proofs.Ytaobohhkoakecaa

/- The walk of the law RestSlip. -/
import Derived.Test.YtadaanphoehlmaaCheck
import Derived.Test.YtadaanphoehlmaaNum
namespace Go.Proofs.Ytadaanphoehlmaa
open Go.RowKit
set_option maxHeartbeats 400000 in
theorem walk_restSlip (w : World) (a0 : Value) (w0 : Fit Try.prog w 29 a0) (a1 : Int) (w1 : (Lit.int .i64 a1).wf = true) (a2 : Int) (w2 : (Lit.int .i64 a2).wf = true) :
    Calls Try.prog 5 #[a0, .int .i64 a1, .int .i64 a2] w fun e w' => e = .returned (.bool true) ∧ Below w.heap.size w w' := by
  go_enter Try.func5, Try.ntmps5
  go_wp2_with fail
  refine (numerals_fit w0 200 (by omega) (by omega)).mono ?_
  rintro e w' ⟨ds, h0, h1, hd, rfl, hb⟩
  go_wp2_with fail
  refine (rest_ok ds _ hd h0 h1).mono ?_
  rintro e wa ⟨rfl, hb2⟩
  go_wp2_with fail
  refine (slipped_ok ds a1 a2 _ h0 (by omega) hd w1 w2).mono ?_
  rintro e wb ⟨i, d, hi, hd9, hne, rfl, hb3⟩
  go_wp2_with fail
  refine (rest_ok (ds.set i d) _ (set_le hd hd9) (by simpa using h0) (by simpa using h1)).mono ?_
  rintro e wc ⟨rfl, hb4⟩
  have hr : ((rest97 ds : Int) != (rest97 (ds.set i d) : Int)) = true := by
    obtain ⟨p, q, e1, e2⟩ := set_parts (d := d) hi
    simp only [bne_iff_ne, ne_eq]
    intro h
    have h : rest97 ds = rest97 (ds.set i d) := by omega
    rw [e2] at h
    generalize ds[i] = x at *
    rw [e1] at h
    exact hne (rest97_slip (hd x (by rw [e1]; simp)) hd9 h).symm
  have hl := rest97_lt ds
  generalize rest97 ds = x at *
  generalize rest97 (ds.set i d) = y at *
  go_wp2
  go_ret
  exact ⟨ret_true (by simp; omega), ((hb.step hb2).step hb3).step hb4⟩
end Go.Proofs.Ytadaanphoehlmaa

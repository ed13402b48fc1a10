/- The walk of the law CheckSlip. -/
import Derived.Test.YtgcahojciapegaaSeal
namespace Go.Proofs.Ytgcahojciapegaa
open Go.RowKit
set_option maxHeartbeats 400000 in
theorem walk_checkSlip (w : World) (a0 : Value) (w0 : Fit Try.prog w 61 a0) (a1 : Int) (w1 : (Lit.int .i64 a1).wf = true) (a2 : Int) (w2 : (Lit.int .i64 a2).wf = true) :
    Calls Try.prog 9 #[a0, .int .i64 a1, .int .i64 a2] w fun e w' => e = .returned (.bool true) ∧ Below w.heap.size w w' := by
  go_enter Try.func9, Try.ntmps9
  go_wp2_with fail
  refine (sealed_ok (raw_fit w0)).mono ?_
  rintro e wa ⟨ds, h0, h1, hd, hz, rfl, hb⟩
  have HZ := Lib.hid hz
  clear hz
  go_wp2_with fail
  refine (good_ok ds _ hd h0 h1).mono ?_
  rintro e wb ⟨rfl, hb2⟩
  rw [show decide (allD ds 0 = 0) = true by simp [HZ.out]]
  go_wp2_with fail
  refine (slipped_ok ds a1 a2 _ (by omega) (by omega) hd w1 w2).mono ?_
  rintro e wc ⟨i, d, hi, hd9, hne, rfl, hb3⟩
  go_wp2_with fail
  refine (good_ok (ds.set i d) _ (set_le hd hd9) (by simpa using h0) (by simpa using h1)).mono ?_
  rintro e wd ⟨rfl, hb4⟩
  have hbad : decide (allD (ds.set i d) 0 = 0) = false := by
    obtain ⟨p, q, e1, e2⟩ := set_parts (d := d) hi
    simp only [decide_eq_false_iff_not]
    intro h
    have h := h.trans HZ.out.symm
    rw [e2] at h
    generalize ds[i] = x at *
    rw [e1] at h hd
    exact hne (allD_slip hd hd9 h.symm).symm
  rw [hbad]
  go_wp2
  go_ret
  exact ⟨rfl, ((hb.step hb2).step hb3).step hb4⟩
end Go.Proofs.Ytgcahojciapegaa

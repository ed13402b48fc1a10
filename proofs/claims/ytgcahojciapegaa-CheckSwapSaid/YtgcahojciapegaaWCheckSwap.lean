/- The walk of the law CheckSwap. -/
import Derived.Test.YtgcahojciapegaaSeal
namespace Go.Proofs.Ytgcahojciapegaa
open Go.RowKit
set_option maxHeartbeats 400000 in
theorem walk_checkSwap (w : World) (a0 : Value) (w0 : Fit Try.prog w 61 a0) (a1 : Int) (w1 : (Lit.int .i64 a1).wf = true) :
    Calls Try.prog 10 #[a0, .int .i64 a1] w fun e w' => e = .returned (.bool true) ∧ Below w.heap.size w w' := by
  go_enter Try.func10, Try.ntmps10
  go_wp2_with fail
  refine (sealed_ok (raw_fit w0)).mono ?_
  rintro e wa ⟨ds, h0, h1, hd, hz, rfl, hb⟩
  have HZ := Lib.hid hz
  clear hz
  go_wp2_with fail
  refine (swapped_ok ds a1 1 _ (by omega) h0 (by omega) w1).mono ?_
  rintro e wb ⟨i, hi, rfl, hb2⟩
  go_wp2_with fail
  refine (good_ok ds _ hd h0 h1).mono ?_
  rintro e wc ⟨rfl, hb3⟩
  rw [show decide (allD ds 0 = 0) = true by simp [HZ.out]]
  go_wp2_with fail
  refine (good_ok (swp ds i 1) _ (fun x hx => hd x (swp_mem hx)) (by rw [swp_length (by omega) hi]; exact h0) (by rw [swp_length (by omega) hi]; exact h1)).mono ?_
  rintro e wd ⟨rfl, hb4⟩
  have hbad : decide (allD (swp ds i 1) 0 = 0) = decide (dstr ds = dstr (swp ds i 1)) := by
    rw [Bool.eq_iff_iff]
    simp only [decide_eq_true_eq]
    constructor
    · intro h
      obtain ⟨p, x, y, q, e1, e2, _⟩ := swp_one hi
      have h := h.trans HZ.out.symm
      rw [e2] at h
      rw [e2]
      rw [e1] at h hd ⊢
      rw [allD_swap hd h.symm]
    · intro h
      rw [← dstr_inj hd (fun x hx => hd x (swp_mem hx)) h]
      exact HZ.out
  rw [hbad, ← str_beq]
  go_wp2
  go_ret
  exact ⟨ret_true (by simp), ((hb.step hb2).step hb3).step hb4⟩
end Go.Proofs.Ytgcahojciapegaa

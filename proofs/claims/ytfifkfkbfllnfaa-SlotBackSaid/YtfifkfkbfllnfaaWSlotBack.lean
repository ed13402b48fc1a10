/- The walk of the law SlotBack. -/
import Derived.Test.YtfifkfkbfllnfaaSlots
namespace Go.Proofs.Ytfifkfkbfllnfaa
open Go.RowKit
set_option maxRecDepth 100000 in
set_option maxHeartbeats 1000000 in
theorem walk_slotBack (w : World) (a0 : Int) (w0 : (Lit.int .i64 a0).wf = true) (a1 : Value) (w1 : Fit Try.prog w 49 a1) :
    Calls Try.prog 9 #[.int .i64 a0, a1] w fun e w' => e = .returned (.bool true) ∧ Below w.heap.size w w' := by
  obtain ⟨R, hR⟩ := recs_fit w1
  clear w1
  obtain ⟨n, hn, hn20⟩ := pk_nat a0 20 (by omega)
  obtain ⟨m, hm⟩ : ∃ m : Nat, (1 : Int) + (n : Int) = (m : Int) := ⟨1 + n, by omega⟩
  have hm2 : 1 ≤ m ∧ m ≤ 20 := by omega
  have hT := fun W h => slots_ok a1 R m W h hm2.1 hm2.2
  go_enter Try.func9, Try.ntmps9
  go_wp2_with fail
  refine (picked_is _ hn w0 (by omega) (by omega)).mono ?_
  rintro e w' ⟨rfl, rfl⟩
  go_wp2_with fail
  refine (hT _ hR).mono ?_
  rintro e wt ⟨cv, ov, C, old, s, rfl, hC, hO, hS, hbt⟩
  go_wp2_with fail
  refine (load_ok cv C old m s _ hC hS hm2.1 (by omega)).mono ?_
  rintro e wa ⟨gv, rfl, hG, hba⟩
  go_wp2_with fail
  refine (same_any gv ov old old _ hG (hO.below hba)).mono ?_
  rintro e w' ⟨rfl, z, rfl⟩
  go_wp2
  go_ret
  exact ⟨ret_true (by simp), below_draws (hbt.step hba) z⟩
end Go.Proofs.Ytfifkfkbfllnfaa

/- The walk of the law SlotCut. -/
import Derived.Test.YtfifkfkbfllnfaaSlots
namespace Go.Proofs.Ytfifkfkbfllnfaa
open Go.RowKit
set_option maxRecDepth 100000 in
set_option maxHeartbeats 1000000 in
theorem walk_slotCut (w : World) (a0 : Int) (w0 : (Lit.int .i64 a0).wf = true) (a1 : Value) (w1 : Fit Try.prog w 49 a1) (a2 : Value) (w2 : Fit Try.prog w 40 a2) (a3 : Int) (w3 : (Lit.int .i64 a3).wf = true) :
    Calls Try.prog 10 #[.int .i64 a0, a1, a2, .int .i64 a3] w fun e w' => e = .returned (.bool true) ∧ Below w.heap.size w w' := by
  obtain ⟨R, hR⟩ := recs_fit w1
  obtain ⟨xs, hxs⟩ := ws_fit w2
  clear w1 w2
  obtain ⟨n, hn, hn20⟩ := pk_nat a0 20 (by omega)
  obtain ⟨m, hm⟩ : ∃ m : Nat, (1 : Int) + (n : Int) = (m : Int) := ⟨1 + n, by omega⟩
  have hm2 : 1 ≤ m ∧ m ≤ 20 := by omega
  have hT := fun W h => slots_ok a1 R m W h hm2.1 hm2.2
  have hFt := fun W h => fitted_own a2 xs m W h (by omega)
  have hrl := Lib.hid (fitN_len xs m)
  generalize fitN xs m = rec at *
  go_enter Try.func10, Try.ntmps10
  go_wp2_with fail
  refine (picked_is _ hn w0 (by omega) (by omega)).mono ?_
  rintro e w' ⟨rfl, rfl⟩
  go_wp2_with fail
  refine (hT _ hR).mono ?_
  rintro e wt ⟨cv, ov, C, old, s, rfl, hC, hO, hS, hbt⟩
  have hSt := fun y W h3 h4 => store_ok cv y C rec old m s W h3 h4 hS hrl.out hm2.1 (by omega)
  obtain ⟨hP1, hP2⟩ := slW_ok hS hrl.out
  have hSl := sl_store hS hrl.out
  have hCl := hS.len
  obtain ⟨P, hP⟩ : ∃ P, slW C m rec s = P := ⟨_, rfl⟩
  rw [hP] at hSt hP1 hP2 hSl
  have hPl : 3 ≤ P.length ∧ P.length ≤ 22 := by omega
  have hA := fun v' u' q W h3 h4 (hk : q ≤ P.length) => apply_ok v' u' C P q W h3 h4 (by omega) (by omega) (by omega) hP1 hk
  obtain ⟨q, hq0, hqP⟩ := pk_nat a3 (P.length + 1) (by omega)
  have hq : Hid (pk a3 ((P.length : Int) + 1) = (q : Int)) := hq0
  have hpq : (1 : Int) ≤ (P.length : Int) + 1 := by omega
  have hpq2 : (P.length : Int) + 1 ≤ 9223372036854775807 := by omega
  have n0 : ((P.length : Int) == 0) = false := beq_eq_false_iff_ne.2 (by omega)
  clear hP hP1 hP2 hCl hq0
  go_wp2_with fail
  refine (hFt _ (hxs.below hbt)).mono ?_
  rintro e wa ⟨B, d, rfl, htx, htown, hba⟩
  have hv := isws_own rfl htx htown
  go_wp2_with fail
  refine (hSt _ _ (hC.below hba) hv).mono ?_
  rintro e wb ⟨pv, rfl, hpv, hbb⟩
  have hpv0 := hpv
  obtain ⟨E, f, rfl, _, _, _, _⟩ := hpv
  go_wp2_with fail
  refine (picked_is _ hq w3 hpq hpq2).mono ?_
  rintro e w' ⟨rfl, rfl⟩
  go_wp2_with fail
  refine (hA _ _ q _ ((hC.below hba).below hbb) hpv0 (by omega)).mono ?_
  rintro e wd ⟨dv, rfl, hdv, hbd⟩
  have bD := hbt.step (hba.step (hbb.step hbd))
  clear hpq hpq2
  by_cases hqe : q < P.length
  · have g1 : (q : Int) < (P.length : Int) := by omega
    have hS2 := hSl.1 q hqe
    have hO2 := hO.below (hba.step (hbb.step hbd))
    go_wp2_with fail
    refine (load_ok dv _ old m s _ hdv hS2 hm2.1 (by omega)).mono ?_
    rintro e we ⟨gv, rfl, hG, hbe⟩
    go_wp2_with fail
    refine (same_any gv ov old old _ hG (hO2.below hbe)).mono ?_
    rintro e w' ⟨rfl, z, rfl⟩
    go_wp2
    go_ret
    exact ⟨ret_true (by simp), below_draws (bD.step hbe) z⟩
  · have g1 : ¬ (q : Int) < (P.length : Int) := by omega
    have hS2 := hSl.2
    rw [List.take_of_length_le (by omega)] at hdv
    have hO2 := hv.below (hbb.step hbd)
    go_wp2_with fail
    refine (load_ok dv _ rec m (1 - s) _ hdv hS2 hm2.1 (by omega)).mono ?_
    rintro e we ⟨gv, rfl, hG, hbe⟩
    go_wp2_with fail
    refine (same_any gv _ rec rec _ hG (hO2.below hbe)).mono ?_
    rintro e w' ⟨rfl, z, rfl⟩
    go_wp2
    go_ret
    exact ⟨ret_true (by simp), below_draws (bD.step hbe) z⟩
end Go.Proofs.Ytfifkfkbfllnfaa

/- The walk of the law SlotRetry. -/
import Derived.Test.YtfifkfkbfllnfaaSlots
import Derived.Test.YtfifkfkbfllnfaaInts
namespace Go.Proofs.Ytfifkfkbfllnfaa
open Go.RowKit
set_option maxRecDepth 100000 in
set_option maxHeartbeats 1000000 in
theorem walk_slotRetry (w : World) (a0 : Int) (w0 : (Lit.int .i64 a0).wf = true) (a1 : Value) (w1 : Fit Try.prog w 49 a1) (a2 : Value) (w2 : Fit Try.prog w 64 a2) (a3 : Value) (w3 : Fit Try.prog w 40 a3) :
    Calls Try.prog 11 #[.int .i64 a0, a1, a2, a3] w fun e w' => e = .returned (.bool true) ∧ Below w.heap.size w w' := by
  obtain ⟨R, hR⟩ := recs_fit w1
  obtain ⟨zn, zf, ZA, Zc, rfl, hZ1, hZ2, hZw, hZat⟩ := ints_fit w2
  obtain ⟨xs, hxs⟩ := ws_fit w3
  have hZl : zn ≤ 9223372036854775807 := by unfold maxLen at hZ2; omega
  clear w1 w2 w3 hZ1 hZ2
  obtain ⟨n, hn, hn20⟩ := pk_nat a0 20 (by omega)
  obtain ⟨m, hm⟩ : ∃ m : Nat, (1 : Int) + (n : Int) = (m : Int) := ⟨1 + n, by omega⟩
  have hm2 : 1 ≤ m ∧ m ≤ 20 := by omega
  have hT := fun W h => slots_ok a1 R m W h hm2.1 hm2.2
  have hFt := fun W h => fitted_own a3 xs m W h (by omega)
  have hrl := Lib.hid (fitN_len xs m)
  generalize fitN xs m = rec at *
  go_enter Try.func11, Try.ntmps11
  go_wp2_with fail
  refine (picked_is _ hn w0 (by omega) (by omega)).mono ?_
  rintro e w' ⟨rfl, rfl⟩
  go_wp2_with fail
  refine (hT _ hR).mono ?_
  rintro e wt ⟨cv, ov, C0, old, s, rfl, hC0, hO, hS0, hbt⟩
  clear hT
  go_wp2_with fail
  go_loopw [10, 13] (fun x i wr => ∃ (k : Nat) (C : List Nat) (X : Value), k ≤ zn ∧ k ≤ 10 ∧ i = .int .i64 k ∧ X = x ∧ IsWs wr X C ∧ IsSl C m old s ∧ Below wt.heap.size wt wr) (fun _ i _ => 10 - (intOf i).toNat)
  case atStart => exact ⟨0, C0, _, by omega, by omega, rfl, rfl, hC0, hS0, Below.refl _ _⟩
  case round =>
    obtain ⟨k, C, x, hk, hk10, rfl, rfl, hC, hS, hbr⟩ := hrel
    have bR := hbt.step hbr
    have hSt := fun y W h3 h4 => store_ok x y C rec old m s W h3 h4 hS hrl.out hm2.1 (by omega)
    obtain ⟨hP1, hP2⟩ := slW_ok hS hrl.out
    have hSl := sl_store hS hrl.out
    have hCl := hS.len
    obtain ⟨P, hP⟩ : ∃ P, slW C m rec s = P := ⟨_, rfl⟩
    rw [hP] at hSt hP1 hP2 hSl
    have hPl : 3 ≤ P.length ∧ P.length ≤ 22 := by omega
    have hA := fun v' u' q W h3 h4 (hk : q ≤ P.length) => apply_ok v' u' C P q W h3 h4 (by omega) (by omega) (by omega) hP1 hk
    have n0 : ((P.length : Int) == 0) = false := beq_eq_false_iff_ne.2 (by omega)
    clear hP hP1 hP2 hCl
    by_cases hlt : k < zn ∧ k < 10
    · obtain ⟨hlt, hlt10⟩ := hlt
      obtain ⟨b, off, rfl, hB, q1⟩ := hZat k hlt
      have q1 := (bR.cell (p := ⟨b, off + k, none⟩) hB).trans q1
      have wf1 := hZw k hlt
      clear hZat hZw
      generalize zf k = z at *
      obtain ⟨q, hq, hqP⟩ := pk_nat z P.length (by omega)
      have hpq : (1 : Int) ≤ (P.length : Int) := by omega
      have hpq2 : (P.length : Int) ≤ 9223372036854775807 := by omega
      have hS2 := hSl.1 q hqP
      clear hSl
      go_wp2_with fail
      refine (hFt _ (hxs.below bR)).mono ?_
      rintro e wa ⟨B, d, rfl, htx, htown, hba⟩
      have hv := isws_own rfl htx htown
      go_wp2_with fail
      refine (hSt _ _ (hC.below hba) hv).mono ?_
      rintro e wb ⟨pv, rfl, hpv, hbb⟩
      have hpv0 := hpv
      obtain ⟨E, f, rfl, _, _, _, _⟩ := hpv
      have bB := bR.step (hba.step hbb)
      have q1 := ((hba.step hbb).cell (p := ⟨b, off + k, none⟩) (Nat.lt_of_lt_of_le hB bR.size)).trans q1
      go_wp2_with fail
      refine (picked_is _ hq wf1 hpq hpq2).mono ?_
      rintro e w' ⟨rfl, rfl⟩
      go_wp2_with fail
      refine (hA _ _ q _ ((hC.below hba).below hbb) hpv0 (by omega)).mono ?_
      rintro e wd ⟨dv, rfl, hdv, hbd⟩
      have bD := hbr.step (hba.step (hbb.step hbd))
      clear hpq hpq2 hA hSt hFt
      go_wp2_with fail
      refine (load_ok dv _ old m s _ hdv hS2 hm2.1 (by omega)).mono ?_
      rintro e we ⟨gv, rfl, hG, hbe⟩
      go_wp2_with fail
      refine (same_ok gv ov old old _ hG (hO.below (bD.step hbe))).mono ?_
      rintro e wf ⟨rfl, hbf⟩
      have dT : decide (old = old) = true := by simp
      go_wp2
      go_roundw
      case rel => exact ⟨k + 1, _, _, by omega, by omega, by go_num, rfl, hdv.below (hbe.step hbf), hS2, bD.step (hbe.step hbf)⟩
      case measure => (simp [intOf]; try omega)
    · have hlt1 : ((k : Int) < (zn : Int) ∧ ¬ (k : Int) < 10) ∨ ¬ (k : Int) < (zn : Int) := by omega
      have hS2 := hSl.2
      clear hZat hZw hSl
      rcases hlt1 with ⟨g1, g2⟩ | g1
      all_goals
        go_wp2_with fail
        refine (hFt _ (hxs.below bR)).mono ?_
        rintro e wa ⟨B, d, rfl, htx, htown, hba⟩
        have hv := isws_own rfl htx htown
        go_wp2_with fail
        refine (hSt _ _ (hC.below hba) hv).mono ?_
        rintro e wb ⟨pv, rfl, hpv, hbb⟩
        have hpv0 := hpv
        obtain ⟨E, f, rfl, _, _, _, _⟩ := hpv
        go_wp2_with fail
        refine (hA _ _ P.length _ ((hC.below hba).below hbb) hpv0 (Nat.le_refl _)).mono ?_
        rintro e wd ⟨dv, rfl, hdv, hbd⟩
        rw [List.take_length] at hdv
        have bD := bR.step (hba.step (hbb.step hbd))
        go_wp2_with fail
        refine (load_ok dv _ rec m (1 - s) _ hdv hS2 hm2.1 (by omega)).mono ?_
        rintro e we ⟨gv, rfl, hG, hbe⟩
        go_wp2_with fail
        refine (same_any gv _ rec rec _ hG ((hv.below (hbb.step hbd)).below hbe)).mono ?_
        rintro e w' ⟨rfl, y, rfl⟩
        go_wp2
        go_ret
        exact ⟨ret_true (by simp), below_draws (bD.step hbe) y⟩
end Go.Proofs.Ytfifkfkbfllnfaa

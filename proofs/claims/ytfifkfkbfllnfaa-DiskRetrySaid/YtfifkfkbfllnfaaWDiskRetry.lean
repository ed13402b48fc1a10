/- The walk of the law DiskRetry. -/
import Derived.Test.YtfifkfkbfllnfaaWDiskCut
import Derived.Test.YtfifkfkbfllnfaaPushW
import Derived.Test.YtfifkfkbfllnfaaInts
namespace Go.Proofs.Ytfifkfkbfllnfaa
open Go.RowKit
set_option maxRecDepth 100000 in
set_option maxHeartbeats 1000000 in
theorem walk_diskRetry (w : World) (a0 : Value) (w0 : Fit Try.prog w 49 a0) (a1 : Value) (w1 : Fit Try.prog w 49 a1) (a2 : Value) (w2 : Fit Try.prog w 64 a2) (a3 : Value) (w3 : Fit Try.prog w 40 a3) :
    Calls Try.prog 8 #[a0, a1, a2, a3] w fun e w' => e = .returned (.bool true) ∧ Below w.heap.size w w' := by
  obtain ⟨R, hR⟩ := recs_fit w0
  obtain ⟨T, hTo⟩ := recs_fit w1
  obtain ⟨zn, zf, ZA, Zc, rfl, hZ1, hZ2, hZw, hZat⟩ := ints_fit w2
  obtain ⟨xs, hxs⟩ := ws_fit w3
  clear w0 w1 w2 w3
  have hS := fun W h => some_own a3 xs 20 W h (by omega)
  have hpos := someN_pos xs 20
  have hle := someN_le xs 20 (by omega)
  generalize someN xs 20 = r at *
  have hT := fun W h => tape_ok a0 R 25 W h (by omega) (by omega)
  obtain ⟨hl1, hl2⟩ := recsOf_le R
  generalize recsOf R = L at *
  have hTo0 := hTo
  obtain ⟨TA, Tc, _, rfl, _, hTm, _, _⟩ := hTo
  have hTat := fun k hk => hTo0.at_ (k := k) hk
  have hTl : T.length ≤ 9223372036854775807 := by unfold maxLen at hTm; omega
  have hZl : zn ≤ 9223372036854775807 := by unfold maxLen at hZ2; omega
  clear hTm hZ1 hZ2 hTo0
  go_enter Try.func8, Try.ntmps8
  go_wp2_with fail
  refine (hT _ hR).mono ?_
  rintro e wt ⟨cv, C0, A, c, vs, rfl, hxc, hC0, hCl0, hown, hro, hbt⟩
  obtain ⟨M, hM⟩ : ∃ M, C0.length = M := ⟨_, rfl⟩
  have hM1 : (enc L).length + 25 ≤ M ∧ M ≤ 25 + (enc L).length := by omega
  have HM := Lib.hid hM
  clear hCl0 hM hT
  go_wp2_with fail
  go_loopw [9, 12] (fun x i wr => ∃ (k : Nat) (C : List Nat) (X : Value), k ≤ T.length ∧ k ≤ 8 ∧ i = .int .i64 k ∧ X = x ∧ IsWs wr X C ∧ IsTape C L ∧ Hid (C.length = M) ∧ Below wt.heap.size wt wr) (fun _ i _ => 8 - (intOf i).toNat)
  case atStart => exact ⟨0, C0, _, by omega, by omega, rfl, rfl, hxc, hC0, HM, Below.refl _ _⟩
  case round =>
    obtain ⟨k, C, x, hk, hk8, rfl, rfl, hxC, hC, HC, hbr⟩ := hrel
    have bR := hbt.trans (hbr.mono hbt.size)
    by_cases hlt : k < T.length ∧ k < 8
    · obtain ⟨hlt, hlt8⟩ := hlt
      obtain ⟨b, off, u, rfl, hB, q1, hu⟩ := hTat k hlt
      have q1 := (bR.cell (p := ⟨b, off + k, none⟩) hB).trans q1
      have hu2 := hu.below bR
      clear hu hTat
      obtain ⟨t0, ht0⟩ : ∃ t0, T[k] = t0 := ⟨_, rfl⟩
      rw [ht0] at hu2
      clear ht0
      have hS2 := fun W h => some_own u t0 20 W h (by omega)
      have hpos2 := someN_pos t0 20
      have hle2 := someN_le t0 20 (by omega)
      generalize someN t0 20 = t at *
      go_wp2_with fail
      refine (hS2 _ hu2).mono ?_
      rintro e wa ⟨B, d, rfl, htx, htown, hba⟩
      have hv := isws_own rfl htx htown
      have hD := fun W h1 h2 => dappend_own x (.slice B t.length d) C t L W h1 h2 hC (by rw [HC.out]; omega) hpos2 (by omega) (by rw [HC.out]; omega)
      have hcut := fun k hk => (put_tape hC ⟨hpos2, by omega, htx⟩ (by rw [HC.out]; omega)).1 k hk
      have hatP := putW_at (len := C.length) (at0 := (enc L).length) (r := t) (by rw [HC.out]; omega)
      have hln := putW_len C.length (enc L).length t
      obtain ⟨P, hP⟩ : ∃ P, putW C.length (enc L).length t = P := ⟨_, rfl⟩
      rw [hP] at hD hatP hln hcut
      have hA := fun v' u' q W h1 h2 (hk : q ≤ P.length) => apply_ok v' u' C P q W h1 h2 (by rw [HC.out]; omega) (by rw [HC.out]; omega) (by omega) (fun p hp => (hatP p hp).2) hk
      have hxA := hxC.below hba
      have hPl : 1 ≤ P.length ∧ P.length ≤ 22 := by omega
      clear hatP hP htown hln hS2
      go_wp2_with fail
      refine (hD _ hxA hv).mono ?_
      rintro e wb ⟨E, f, rfl, hPx, huO, hbb⟩
      have hu0 := iswr_own rfl hPx huO
      have n0 : ((P.length : Int) == 0) = false := beq_eq_false_iff_ne.2 (by omega)
      have hxB := hxA.below hbb
      clear hD hPx huO
      have bB := bR.step (hba.step hbb)
      by_cases hkz : k < zn
      · obtain ⟨b2, o2, rfl, hB2, q2⟩ := hZat k hkz
        have q2 := (bB.cell (p := ⟨b2, o2 + k, none⟩) hB2).trans q2
        have wf2 := hZw k hkz
        clear hZat hZw
        generalize zf k = z at *
        obtain ⟨q, hq, hqP⟩ := pk_nat z P.length hPl.1
        have hcut2 := hcut q hqP
        have hpq : (1 : Int) ≤ (P.length : Int) := by omega
        have hpq2 : (P.length : Int) ≤ 9223372036854775807 := by omega
        clear hcut
        go_wp2_with fail
        refine (picked_is _ hq wf2 hpq hpq2).mono ?_
        rintro e w' ⟨rfl, rfl⟩
        go_wp2_with fail
        refine (hA _ _ q _ hxB hu0 (by omega)).mono ?_
        rintro e wd ⟨dv, rfl, hdv, hbd⟩
        go_wp2
        go_roundw
        case rel => exact ⟨k + 1, _, _, by omega, by omega, by go_num, rfl, hdv, hcut2, by show _ = _; rw [applyW_length]; exact HC.out, hbr.trans ((hba.step (hbb.step hbd)).mono hbr.size)⟩
        case measure => (simp [intOf]; try omega)
      · obtain ⟨q, hq⟩ : ∃ q : Nat, (P.length : Int) - 1 = (q : Int) := ⟨P.length - 1, by omega⟩
        have hqP : q < P.length := by omega
        have hcut2 := hcut q hqP
        clear hcut hZat hZw
        go_wp2_with fail
        refine (hA _ _ q _ hxB hu0 (by omega)).mono ?_
        rintro e wd ⟨dv, rfl, hdv, hbd⟩
        go_wp2
        go_roundw
        case rel => exact ⟨k + 1, _, _, by omega, by omega, by go_num, rfl, hdv, hcut2, by show _ = _; rw [applyW_length]; exact HC.out, hbr.trans ((hba.step (hbb.step hbd)).mono hbr.size)⟩
        case measure => (simp [intOf]; try omega)
    · have hlt1 : ((k : Int) < (T.length : Int) ∧ ¬ (k : Int) < 8) ∨ ¬ (k : Int) < (T.length : Int) := by omega
      clear hTat hZat hZw
      have hone : ∀ B d, ∀ x ∈ [Value.slice B r.length d], x.oneCell' = true := fun B d x hx => by simp at hx; subst hx; rfl
      rcases hlt1 with ⟨g1, g2⟩ | g1
      all_goals
        go_wp2_with fail
        refine (hS _ (hxs.below bR)).mono ?_
        rintro e wa ⟨B, d, rfl, hrx, hrown, hba⟩
        have hv := isws_own rfl hrx hrown
        have hrO : OwnWs wa 60 (.slice B r.length d) r := ⟨own_mono hrown (Nat.zero_le _), hrx⟩
        have hP := fun W h1 h2 => put_full x (.slice B r.length d) C r L W h1 h2 hC (by rw [HC.out]; omega) hpos (by omega) (by rw [HC.out]; omega)
        have hIT := (put_tape hC ⟨hpos, by omega, hrx⟩ (by rw [HC.out]; omega)).2
        have hxA := hxC.below hba
        have hownA := own_below hown (hbr.step hba)
        have hroA := hro.map fun v xs h => h.below (hbr.step hba)
        have bA := bR.step hba
        clear hS
        go_wp2_with fail
        refine (hP _ hxA hv).mono ?_
        rintro e wb ⟨dv, rfl, hdv, hbb⟩
        go_wp2_with fail
        refine (replay_ok dv _ _ wb hdv hIT (by rw [applyW_length, HC.out]; omega) (by rw [applyW_length, HC.out]; omega)).mono ?_
        rintro e wr2 ⟨A2, c2, vs2, rfl, hown2, hro2, hbr2⟩
        have hbl := Lib.hid (show (L ++ [r]).length = L.length + 1 by simp)
        have b3 := hbb.step hbr2
        have bB := bA.step b3
        have hownB := own_below hownA b3
        have hroB := hroA.map fun v xs h => h.below b3
        have hrB := hrO.below b3
        have hbs := bB.size
        have h1 := hone B d
        have hby : (L.length + 1) * 24 ≤ 140737488355328 := by omega
        have hmx : L.length + 1 ≤ maxLen := by unfold maxLen; omega
        clear hP hIT hxA hdv
        go_wp2_with (at_builtin; go_loud (refine wpList_pushw el_ws (.tmp 102) (.tmp 104) rfl (by rfl) _ w.heap.size wr2.heap.size _ L.length _ [.slice B r.length d] rfl (hownB.alloc _) rfl (heap_alloc_new _ _) rfl h1 hby hmx (Nat.le_trans hbs (by simp)) ?_); intro A3 c3 w3 hown3 hb3 hg3)
        have hownC := hownB.alloc (.cells #[.slice B r.length d] 40)
        have hro3 : IsRo w3 60 (vs ++ [.slice B r.length d]) (L ++ [r]) := (hroB.snoc hrB).map fun v xs h => (h.alloc _).grown hownC (by decide) hg3
        have hown3' : w3.ownsRow w.heap.size 40 1 (.slice A3 (L ++ [r]).length c3) (L ++ [r]).length (vs ++ [.slice B r.length d]) := by rw [hbl.out]; exact hown3
        have hI := isrr_own rfl hown3' hro3.is
        have hown2' := (hown2.alloc (.cells #[.slice B r.length d] 40)).kept hg3 (own_apart (hown2.alloc (.cells #[.slice B r.length d] 40)) hownA hbb.size)
        have hI2 := isrr_own rfl hown2' (hro2.map fun v xs h => (h.alloc _).grown hownC (by decide) hg3).is
        have hSR := fun W h1 h2 => sameR_ok (.slice A2 (L ++ [r]).length c2) (.slice A3 (L ++ [r]).length c3) (L ++ [r]) W h1 h2
        have bC := (bB.alloc hbs (.cells #[.slice B r.length d] 40)).trans hb3
        rw [hbl.out] at *
        clear hown2' hown3' hown3 hro3 hownB hroB hrB hown2 hro2 hg3 hb3 hownA hownC
        go_wp2_with fail
        refine (hSR _ hI2 hI).mono ?_
        rintro e w' ⟨rfl, z, rfl⟩
        go_wp2
        go_ret
        exact ⟨rfl, below_draws bC z⟩
end Go.Proofs.Ytfifkfkbfllnfaa

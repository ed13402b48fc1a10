/- The walk of the law DiskCut. -/
import Derived.Test.YtfifkfkbfllnfaaWDiskBack
namespace Go.Proofs.Ytfifkfkbfllnfaa
open Go.RowKit
theorem own_apart {w wA : World} {base e s n b2 e2 s2 n2 : Nat} {v v2 : Value} {xs xs2 : List Value} (h1 : w.ownsRow base e s v n xs) (h2 : wA.ownsRow b2 e2 s2 v2 n2 xs2) (h : wA.heap.size ≤ base) : v.ownBlock = none ∨ v.ownBlock ≠ v2.ownBlock := by
  cases hv : v.ownBlock with
  | none => exact .inl rfl
  | some g =>
    refine .inr fun e => ?_
    have k1 := (h1.lt g hv).1
    have k2 := (h2.lt g e.symm).2
    omega
theorem dcut_take {C : List Nat} {L : List (List Nat)} {r : List Nat} (h : IsTape C L) (hr : 1 ≤ r.length ∧ r.length ≤ 64 ∧ ∀ x ∈ r, x < 4294967296) (hf : (enc L).length + 1 + r.length ≤ C.length) {k : Nat} (hk : k ≤ (putW C.length (enc L).length r).length) :
    IsTape (applyW C ((putW C.length (enc L).length r).take k)) (if k = (putW C.length (enc L).length r).length then L ++ [r] else L) := by
  obtain ⟨h1, h2⟩ := put_tape h hr hf
  split
  · rename_i e
    rw [e, List.take_length]
    exact h2
  · exact h1 k (by omega)
theorem some_own2 (v : Value) (xs : List Nat) (most : Nat) (w : World) (hv : IsWs w v xs) (h1 : most ≤ 35184372087808) : Calls Try.prog 20 #[v, .int .i64 most] w (RetOwn (someN xs most) w) := some_own v xs most w hv h1
set_option maxRecDepth 100000 in
set_option maxHeartbeats 1000000 in
theorem walk_diskCut (w : World) (a0 : Value) (w0 : Fit Try.prog w 49 a0) (a1 : Value) (w1 : Fit Try.prog w 40 a1) (a2 : Int) (w2 : (Lit.int .i64 a2).wf = true) :
    Calls Try.prog 7 #[a0, a1, .int .i64 a2] w fun e w' => e = .returned (.bool true) ∧ Below w.heap.size w w' := by
  obtain ⟨R, hR⟩ := recs_fit w0
  obtain ⟨xs, hxs⟩ := ws_fit w1
  clear w0 w1
  have hS := fun W h => some_own a1 xs 20 W h (by omega)
  have hpos := someN_pos xs 20
  have hle := someN_le xs 20 (by omega)
  generalize someN xs 20 = r at *
  have hT := fun W h => tape_ok a0 R 25 W h (by omega) (by omega)
  obtain ⟨hl1, hl2⟩ := recsOf_le R
  generalize recsOf R = L at *
  go_enter Try.func7, Try.ntmps7
  go_wp2_with fail
  refine (hT _ hR).mono ?_
  rintro e wt ⟨cv, C, A, c, vs, rfl, hxc, hC, hCl, hown, hro, hbt⟩
  have hcv := hxc
  obtain ⟨Ac, cc, rfl, _, _, _, _⟩ := hcv
  have hCl3 : (enc L).length + 25 ≤ C.length ∧ C.length ≤ 25 + (enc L).length := by omega
  clear hCl
  go_wp2_with fail
  refine (hS _ (hxs.below hbt)).mono ?_
  rintro e wa ⟨B, d, rfl, hrx, hrown, hba⟩
  have hv := isws_own rfl hrx hrown
  have hrO : OwnWs wa 60 (.slice B r.length d) r := ⟨own_mono hrown (Nat.zero_le _), hrx⟩
  have hD := fun v u W h1 h2 => dappend_own v u C r L W h1 h2 hC (by omega) hpos (by omega) (by omega)
  have hcut := fun k hk => dcut_take (k := k) hC ⟨hpos, by omega, hrx⟩ (by omega) hk
  have hat := putW_at (len := C.length) (at0 := (enc L).length) (r := r) (by omega)
  have hln := putW_len C.length (enc L).length r
  obtain ⟨P, hP⟩ : ∃ P, putW C.length (enc L).length r = P := ⟨_, rfl⟩
  rw [hP] at hD hat hln hcut
  have hA := fun v' u' k W h1 h2 (hk : k ≤ P.length) => apply_ok v' u' C P k W h1 h2 (by omega) (by omega) (by omega) (fun p hp => (hat p hp).2) hk
  have hat2 : ∀ p ∈ P, C.length - 25 ≤ p.1 := fun p hp => by have := (hat p hp).1; omega
  obtain ⟨q, hq0, hqP⟩ := pk_nat a2 (P.length + 1) (by omega)
  have hq : Hid (pk a2 ((P.length : Int) + 1) = (q : Int)) := hq0
  clear hq0
  have hcut2 := hcut q (by omega)
  have bA := hbt.step hba
  have hxc2 := hxc.below hba
  have hownA := own_below hown hba
  have hroA := hro.map fun v xs h => h.below hba
  have hPl : 1 ≤ P.length ∧ P.length ≤ 22 := by omega
  have hCl2 : 1 ≤ C.length ∧ C.length ≤ 2048 := by omega
  clear hT hS hcut hat hP hown hro hxc hrown
  go_wp2_with fail
  refine (hD _ _ _ hxc2 hv).mono ?_
  rintro e wb ⟨E, f, rfl, hPx, huO, hbb⟩
  have hu0 := iswr_own rfl hPx huO
  have hpq : (1 : Int) ≤ (P.length : Int) + 1 := by omega
  have hpq2 : (P.length : Int) + 1 ≤ 9223372036854775807 := by omega
  have n0 : ((P.length : Int) == 0) = false := beq_eq_false_iff_ne.2 (by omega)
  go_wp2_with fail
  refine (picked_is _ hq w2 hpq hpq2).mono ?_
  rintro e w' ⟨rfl, rfl⟩
  have hxc3 := hxc2.below hbb
  go_wp2_with fail
  refine (hA _ _ q _ hxc3 hu0 (by omega)).mono ?_
  rintro e wd ⟨dv, rfl, hdv, hbd⟩
  go_wp2_with fail
  refine (replay_ok dv _ _ wd hdv hcut2 (by rw [applyW_length]; omega) (by rw [applyW_length]; omega)).mono ?_
  rintro e wr ⟨A2, c2, vs2, rfl, hown2, hro2, hbr⟩
  clear hcut2 hA hD hdv hxc3 hxc2 hpq hpq2
  have b3 := hbb.step (hbd.step hbr)
  have bB := bA.step b3
  have hownB := own_below hownA b3
  have hroB := hroA.map fun v xs h => h.below b3
  have hrB := hrO.below b3
  have hbs := bB.size
  have huB := own_below huO (hbd.step hbr)
  clear hu0 hv hroA hrO
  have hone : ∀ x ∈ [Value.slice B r.length d], x.oneCell' = true := fun x hx => by simp at hx; subst hx; rfl
  by_cases hqe : q = P.length
  · have HE := Lib.hid (if_pos hqe : (if q = P.length then L ++ [r] else L) = _)
    rw [HE.out] at hown2 hro2
    have q1 : ((q : Int) == (P.length : Int)) = true := by rw [hqe]; simp
    have Hqe := Lib.hid hqe
    clear hqe
    go_wp2_with (at_builtin; refine wpList_push el_ws rfl (.tmp 71) (.tmp 73) rfl wr w.heap.size _ L.length _ [.slice B r.length d] rfl hownB rfl rfl hone (by omega) (by unfold maxLen; omega) hbs ?_; intro A3 c3 w3 hown3 hb3 hg3)
    have hro3 : IsRo w3 60 (vs ++ [.slice B r.length d]) (L ++ [r]) := (hroB.snoc hrB).map fun v xs h => h.grown hownB (by decide) hg3
    have hbl := Lib.hid (show (L ++ [r]).length = L.length + 1 by simp)
    have hown3' : w3.ownsRow w.heap.size 40 1 (.slice A3 (L ++ [r]).length c3) (L ++ [r]).length (vs ++ [.slice B r.length d]) := by rw [hbl.out]; exact hown3
    have hI := isrr_own rfl hown3' hro3.is
    have hown2' := hown2.kept hg3 (own_apart hown2 hownA (hbb.step hbd).size)
    have hI2 := isrr_own rfl hown2' (hro2.map fun v xs h => h.grown hownB (by decide) hg3).is
    have huC := huB.kept hg3 (own_ne_type huB hownB (by decide))
    have hrd := Rd.of_own huC
    have hSR := fun W h1 h2 => sameR_ok (.slice A2 (L ++ [r]).length c2) (.slice A3 (L ++ [r]).length c3) (L ++ [r]) W h1 h2
    have bC := bB.trans hb3
    clear huB huC huO hown2' hown3' hown3 hro3 hownB hroB hrB hown2 hro2 hg3 hb3 hownA
    rw [HE.out] at *
    rw [hbl.out] at *
    go_wp2_with fail
    go_loop [19] (fun i => ∃ k : Nat, k ≤ P.length ∧ i = .int .i64 k) (fun i => P.length - (intOf i).toNat)
    case atStart => exact ⟨0, by omega, rfl⟩
    case round =>
      obtain ⟨k, hk, rfl⟩ := hrel
      by_cases hlt : k < P.length
      · obtain ⟨b2, o2, rfl, hB2, hc2⟩ := hrd.at_ (by omega)
        have p1 := hc2 _ _ (wrs_get hlt).1
        have p2 := hat2 _ (List.getElem_mem hlt)
        have p3 : (C.length : Int) - 25 ≤ (P[k].1 : Int) := by omega
        generalize P[k].1 = x at *
        clear hc2 hrd hat2 hSR
        go_wp2
        go_round
        case rel => exact ⟨k + 1, by omega, by go_num⟩
        case measure => (simp [intOf]; try omega)
      · obtain rfl : k = P.length := by omega
        clear hrd hat2
        go_wp2_with fail
        refine (hSR _ hI2 hI).mono ?_
        rintro e w' ⟨rfl, z, rfl⟩
        go_wp2
        go_ret
        exact ⟨rfl, below_draws bC z⟩
  · have HE := Lib.hid (if_neg hqe : (if q = P.length then L ++ [r] else L) = _)
    rw [HE.out] at hown2 hro2
    have q1 : ((q : Int) == (P.length : Int)) = false := beq_eq_false_iff_ne.2 (by omega)
    have hI := isrr_own rfl hownB hroB.is
    have hI2 := isrr_own rfl hown2 hro2.is
    have hrd := Rd.of_own huB
    have hSR := fun W h1 h2 => sameR_ok (.slice A2 L.length c2) (.slice A L.length c) L W h1 h2
    clear huB huO hownB hroB hrB hown2 hro2 hownA
    rw [HE.out] at *
    go_wp2_with fail
    go_loop [19] (fun i => ∃ k : Nat, k ≤ P.length ∧ i = .int .i64 k) (fun i => P.length - (intOf i).toNat)
    case atStart => exact ⟨0, by omega, rfl⟩
    case round =>
      obtain ⟨k, hk, rfl⟩ := hrel
      by_cases hlt : k < P.length
      · obtain ⟨b2, o2, rfl, hB2, hc2⟩ := hrd.at_ (by omega)
        have p1 := hc2 _ _ (wrs_get hlt).1
        have p2 := hat2 _ (List.getElem_mem hlt)
        have p3 : (C.length : Int) - 25 ≤ (P[k].1 : Int) := by omega
        generalize P[k].1 = x at *
        clear hc2 hrd hat2 hSR
        go_wp2
        go_round
        case rel => exact ⟨k + 1, by omega, by go_num⟩
        case measure => (simp [intOf]; try omega)
      · obtain rfl : k = P.length := by omega
        clear hrd hat2
        go_wp2_with fail
        refine (hSR _ hI2 hI).mono ?_
        rintro e w' ⟨rfl, z, rfl⟩
        go_wp2
        go_ret
        exact ⟨rfl, below_draws bB z⟩
end Go.Proofs.Ytfifkfkbfllnfaa

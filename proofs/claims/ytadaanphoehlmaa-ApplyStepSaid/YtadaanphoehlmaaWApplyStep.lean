/- The walk of the law ApplyStep. -/
import Derived.Test.YtadaanphoehlmaaCell
import Derived.Test.YtadaanphoehlmaaFlat
import Derived.Test.YtadaanphoehlmaaPush
namespace Go.Proofs.Ytadaanphoehlmaa
open Go.RowKit
attribute [local go_sem ↓] Go.wp_at_zero Go.wp_at_succ
theorem el_w : Elem Try.prog 44 47 2 16 := elem_of Try.underlying44 w_info rfl (by omega)
theorem take_one {l : List (Nat × Nat)} {n : Nat} (h : n < l.length) : l.take (n + 1) = l.take n ++ [l[n]] := List.take_succ_eq_append_getElem h
set_option maxHeartbeats 1000000 in
theorem walk_applyStep (w : World) (a0 : Value) (w0 : Fit Try.prog w 41 a0) (a1 : Value) (w1 : Fit Try.prog w 42 a1) (a2 : Int) (w2 : (Lit.int .i64 a2).wf = true) :
    Calls Try.prog 9 #[a0, a1, .int .i64 a2] w fun e w' => e = .returned (.bool true) ∧ Below w.heap.size w w' := by
  obtain ⟨raw, hraw⟩ := ws_fit w0
  obtain ⟨L, f, B, d, rfl, hL1, hL2, hwf, hcell⟩ := w1.rows (ks := [.i64, .u32]) Try.underlying42 (by kernel_rfl) (by simp) (by kernel_rfl)
  clear w0 w1
  have hL : L ≤ 9223372036854775807 := by unfold maxLen at hL2; omega
  go_enter Try.func9, Try.ntmps9
  go_wp2_with fail
  refine (some_ok a0 raw 100 w hraw (by omega)).mono ?_
  rintro e wa ⟨v, rfl, hv, hba⟩
  have hp1 := someN_pos raw 100
  have hp2 := someN_le raw 100 (by omega)
  generalize someN raw 100 = xs at *
  have hv0 := hv
  obtain ⟨X, xc, rfl, hx1, hx2, hx3, hx4⟩ := hv
  clear hx1 hx2 hx3 hx4
  go_wp2
  go_loopw [8, 9] (fun v i wr => ∃ (k : Nat) (A' : Option Addr) (c' : Nat) (l : List (Nat × Nat)), k ≤ L ∧ k ≤ 100 ∧ i = .int .i64 k ∧ l.length = k ∧ (∀ p ∈ l, p.1 < xs.length ∧ p.2 < 4294967296) ∧ v = .slice A' k c' ∧ wr.ownsRow wa.heap.size 47 2 (.slice A' k c') k (wrs l) ∧ Below wa.heap.size wa wr) (fun _ i _ => 100 - (intOf i).toNat)
  case atStart => exact ⟨0, none, 0, [], by omega, by omega, rfl, rfl, by simp, rfl, World.ownsRow_nil _ _ _ _, Below.refl _ _⟩
  case round =>
    obtain ⟨k, A', c', l, hkL, hk, rfl, hl, hlp, rfl, hown, hbr⟩ := hrel
    have HL := Lib.hid hl
    clear hl
    by_cases hlt : k < L ∧ k < 100
    · obtain ⟨hlt, hk'⟩ := hlt
      obtain ⟨b, off, rfl, hB, hc⟩ := hcell (by omega)
      have hba' := hba.size
      have q1 : wr.cell? ⟨b, off + k * 2, none⟩ = some (.int .i64 (f k 0)) := (hbr.cell (p := ⟨b, off + k * 2, none⟩) (by show b < _; omega)).trans ((hba.cell (p := ⟨b, off + k * 2, none⟩) hB).trans (hc k hlt 0 _ rfl))
      have q2 : wr.cell? ⟨b, off + k * 2 + 1, none⟩ = some (.int .u32 (f k 1)) := (hbr.cell (p := ⟨b, off + k * 2 + 1, none⟩) (by show b < _; omega)).trans ((hba.cell (p := ⟨b, off + k * 2 + 1, none⟩) hB).trans (hc k hlt 1 _ rfl))
      have z1 := hwf k hlt 0 _ rfl
      have z2 := bounds_u32 (hwf k hlt 1 _ rfl)
      clear hc hcell hwf
      generalize f k 0 = at_ at *
      generalize f k 1 = x at *
      obtain ⟨p, hp, hpl⟩ := pk_nat at_ xs.length hp1
      obtain ⟨x', rfl⟩ : ∃ x' : Nat, x = x' := ⟨x.toNat, by omega⟩
      go_wp2_with fail
      go_region_held3 (fun w' => w'.cell? ⟨b, off + k * 2, none⟩ = some (.int .i64 at_) ∧ w'.cell? ⟨b, off + k * 2 + 1, none⟩ = some (.int .u32 x')) (first | go_keep | (go_split_ands; exact ⟨((hb1.cell (p := ⟨b, off + k * 2, none⟩) (by show b < _; omega)).trans q1), ((hb1.cell (p := ⟨b, off + k * 2 + 1, none⟩) (by show b < _; omega)).trans q2)⟩))
        (first | ((refine step_push el_w (by rfl) (.tmp 29) (.tmp 44) (by rfl) _ wa.heap.size wr.heap.size _ k _ [.int .i64 p, .int .u32 x'] (by rfl) ((hown.alloc _).drew) (by rfl) (heap_alloc_new wr _) rfl (fun u hu => by simp at hu; rcases hu with rfl | rfl <;> rfl) (by omega) (by unfold maxLen; omega) wr (below_ad (Below.refl _ _) hbr.size _) hbr.size ?_; intro A1 c1 w1 hown1 hb1)) | (go_at_call 15; refine (picked_is _ hp z1 (by omega) (by omega)).mono ?_; rintro e w' ⟨rfl, rfl⟩))
      clear q1 q2
      go_wp2
      go_roundw
      case rel =>
        refine ⟨k + 1, A1, c1, l ++ [(p, x')], by omega, by omega, by go_num, by simp [HL.out], fun q hq => ?_, rfl, ?_, hbr.trans hb1⟩
        · rcases List.mem_append.1 hq with h | h
          · exact hlp q h
          · simp at h; subst h; exact ⟨hpl, by show x' < _; omega⟩
        · rw [wrs_append]; exact hown1
      case measure => simp [intOf]; omega
    · have hlt1 : ((k : Int) < (L : Int) ∧ ¬ (k : Int) < 100) ∨ ¬ (k : Int) < (L : Int) := by omega
      clear hcell hwf
      obtain ⟨nn, hn, hnl⟩ := pk_nat a2 (k + 1) (by omega)
      have hn : Hid (pk a2 ((k : Int) + 1) = (nn : Int)) := by have := hn.out; rwa [Int.natCast_succ] at this
      obtain ⟨l1, hl1, e1⟩ : ∃ l1 : List (Nat × Nat), l1.length = k + 1 ∧ wrs l1 = wrs l ++ [.int .i64 0, .int .u32 1] ∧ ∀ p ∈ l1, p.1 < xs.length ∧ p.2 < 4294967296 := by
        refine ⟨l ++ [(0, 1)], by simp [HL.out], by rw [wrs_append]; rfl, fun q hq => ?_⟩
        rcases List.mem_append.1 hq with h | h
        · exact hlp q h
        · simp at h; subst h; exact ⟨hp1, by decide⟩
      obtain ⟨e1, hlp1⟩ := e1
      have HL1 := Lib.hid hl1
      have HE1 := Lib.hid e1
      clear hl1 e1 hlp HL
      rcases hlt1 with ⟨g1, g2⟩ | g1
      all_goals
        go_wp2_with (at_builtin; refine wpList_push el_w rfl (.tmp 46) (.tmp 48) rfl wr wa.heap.size _ k _ [.int .i64 0, .int .u32 1] rfl hown rfl rfl (fun u hu => by simp at hu; rcases hu with rfl | rfl <;> rfl) (by omega) (by unfold maxLen; omega) hbr.size ?_; intro A1 c1 w1 hown1 hb1 _)
        rw [← HE1.out] at hown1
        have hba2 := hbr.trans hb1
        have hcc := (own_cap hown1).1
        clear hown hb1 hbr
        obtain ⟨b, off, hA, hB, hc⟩ := (Rd.of_own hown1).at_ (by omega)
        subst hA
        have hu := iswr_own HL1.out (fun p hp => (hlp1 p hp).2) hown1
        have hnl1 : nn < l1.length := by rw [HL1.out]; omega
        have hcn := wrs_get hnl1
        have q1 : w1.cell? ⟨b, off + nn * 2, none⟩ = some (.int .i64 l1[nn].1) := hc _ _ hcn.1
        have q2 : w1.cell? ⟨b, off + nn * 2 + 1, none⟩ = some (.int .u32 l1[nn].2) := hc (nn * 2 + 1) _ hcn.2
        have hpn := hlp1 _ (List.getElem_mem hnl1)
        have HT := Lib.hid (take_one hnl1)
        generalize hg : l1[nn] = pr at *
        obtain ⟨pa, px⟩ := pr
        dsimp only at hpn q1 q2
        clear hc hcn hown1 hg
        go_wp2_with fail
        refine (picked_is _ hn w2 (by omega) (by omega)).mono ?_
        rintro e w' ⟨rfl, rfl⟩
        have hv1 := hv0.below hba2
        go_wp2_with fail
        refine (apply_ok _ _ xs l1 nn w1 hv1 hu (by omega) (by omega) (by rw [HL1.out]; omega) (fun p hp => (hlp1 p hp).1) (by omega)).mono ?_
        rintro e w3 ⟨va, rfl, hva, hb3⟩
        go_wp2_with fail
        refine (apply_ok _ _ xs l1 (nn + 1) w3 (hv1.below hb3) (hu.below hb3) (by omega) (by omega) (by rw [HL1.out]; omega) (fun p hp => (hlp1 p hp).1) (by omega)).mono ?_
        rintro e w4 ⟨vb, rfl, hvb, hb4⟩
        have hb34 := hb3.step hb4
        have q1' : w4.cell? ⟨b, off + nn * 2, none⟩ = some (.int .i64 pa) := (hb34.cell (p := ⟨b, _, none⟩) hB).trans q1
        have q2' : w4.cell? ⟨b, off + nn * 2 + 1, none⟩ = some (.int .u32 px) := (hb34.cell (p := ⟨b, _, none⟩) hB).trans q2
        have hB4 : b < w4.heap.size := by have := hb34.size; omega
        have hone : IsWr w4 (.slice (some ⟨b, off + nn * 2, none⟩) 1 1) [(pa, px)] := by
          refine ⟨_, _, rfl, Nat.le_refl _, by unfold maxLen; simp, fun p hp => by simp at hp; subst hp; exact hpn.2, rfl, fun _ => ⟨b, _, rfl, hB4, fun j u hu => ?_⟩⟩
          match j, hu with
          | 0, hu => cases hu; exact q1'
          | 1, hu => cases hu; exact q2'
        go_wp2_with fail
        refine (apply_ok _ _ (applyW xs (l1.take nn)) [(pa, px)] 1 w4 (hva.below hb4) hone (by rw [applyW_length]; omega) (by rw [applyW_length]; omega) (by simp) (fun p hp => by simp at hp; subst hp; rw [applyW_length]; exact hpn.1) (by simp)).mono ?_
        rintro e w5 ⟨vo, rfl, hvo, hb5⟩
        have hb45 := hb4.step hb5
        have hB5 : b < w5.heap.size := by have := hb5.size; omega
        have e1 : w5.cell? ⟨b, off + nn * 2, none⟩ = some (.int .i64 pa) := (hb5.cell (p := ⟨b, _, none⟩) hB4).trans q1'
        have e2 : w5.cell? ⟨b, off + nn * 2 + 1, none⟩ = some (.int .u32 px) := (hb5.cell (p := ⟨b, _, none⟩) hB4).trans q2'
        have hvb5 := hvb.below hb5
        have hys : applyW xs (l1.take (nn + 1)) = (applyW xs (l1.take nn)).set pa px := by rw [HT.out, applyW_snoc]
        have hzs : applyW (applyW xs (l1.take nn)) ([(pa, px)].take 1) = (applyW xs (l1.take nn)).set pa px := rfl
        rw [hys] at hvb5
        rw [hzs] at hvo
        have hvl : (applyW xs (l1.take nn)).length = xs.length := applyW_length _ _
        generalize applyW xs (l1.take nn) = ys at *
        clear hva hvb hone hys hzs HT hb3 hb4 hu hv1 HE1 HL1 hlp1 q1 q2 q1' q2'
        have hb5' := hvb5
        obtain ⟨Y, yc, hvv, _, _, _, hrd⟩ := hvb5
        have hyl : (ys.set pa px).length = xs.length := by rw [List.length_set]; exact hvl
        rw [hyl] at hvv hrd
        subst hvv
        obtain ⟨y, yo, rfl, hyB, hyc⟩ := hrd.at_ (by omega)
        have e3 : w5.cell? ⟨y, yo + pa, none⟩ = some (.int .u32 px) := hyc pa _ (by simp [ws, hvl, hpn.1])
        have hpa : (pa : Int) < (xs.length : Int) := by omega
        clear hyc hrd hyl hvl
        go_wp2_with fail
        go_quiet ((first | (go_at_call 25; exact same_q _ _ _ _ w5 _ hvo hb5' rfl)))
        go_wp2
        go_ret
        exact ⟨rfl, below_draws (((hba.step hba2).step hb34).step hb5) _⟩
end Go.Proofs.Ytadaanphoehlmaa

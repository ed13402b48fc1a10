/- The walk of the law PocketRetry. -/
import Derived.Test.YtopnlkhepjbjkaaDoorG35
import Derived.Test.YtopnlkhepjbjkaaDoorG36
import Derived.Test.YtopnlkhepjbjkaaDoorG37
namespace Go.Proofs.YtopnlkhepjbjkaaDoor
open Go.RowKit
set_option linter.unusedVariables false
set_option maxRecDepth 100000 in
set_option maxHeartbeats 8000000 in
theorem walk_pocketRetry (w : World) (a0 : Int) (w0 : (Lit.int .i64 a0).wf = true) (a1 : Value) (w1 : Fit Tryd.prog w 43 a1) (a2 : Value) (w2 : Fit Tryd.prog w 45 a2) (a3 : Value) (w3 : Fit Tryd.prog w 56 a3) :
    Calls Tryd.prog 5 #[.int .i64 a0, a1, a2, a3] w fun e w' => e = .returned (.bool true) ∧ Below w.heap.size w w' := by
  obtain ⟨me, hme, m1⟩ := pk_nat a0 50 (by omega)
  obtain ⟨n, f, hR⟩ := w1.rows Tryd.underlying43 (ks := [.i64, .i64, .i64, .i64]) (by kernel_rfl) (by decide) (by kernel_rfl)
  obtain ⟨f0, f1, f2, f3, rfl, y0, y1, y2, y3⟩ := raw_fits w2
  obtain ⟨nc, q, Ac, cc, rfl, hc1, hc2, hqw, hqc⟩ := ints_fit w3
  have hnl : nc ≤ 9223372036854775807 := by unfold maxLen at hc2; omega
  have hP := fun W h => pocketAt_ok me n f a1 W m1 h
  clear w1 w2 w3 hc1 hc2
  have HM := Mem.init w
  go_enter Tryd.func5, Tryd.ntmps5
  go_wp2_with fail
  obtain ⟨W0, hW0⟩ : ∃ W0, (w).alloc (.cells #[.int .i64 f0, .int .i64 f1, .int .i64 f2, .int .i64 f3] 45) = W0 := ⟨_, rfl⟩
  replace HM : Mem (w) [] _ [.blk (w.heap.size) 45 #[.int .i64 f0, .int .i64 f1, .int .i64 f2, .int .i64 f3]] := Mem.alloc HM (w.heap.size) (by first | (simp; done) | (simp; omega)) #[.int .i64 f0, .int .i64 f1, .int .i64 f2, .int .i64 f3] 45
  rw [hW0] at HM ⊢
  have hR0 : IsRows W0 a1 [.i64, .i64, .i64, .i64] n f := by rw [← hW0]; exact hR.below (below_a1 _ _)
  clear hW0 hR
  refine (picked_is _ hme w0 (by omega) (by omega)).mono ?_
  rintro e w9 ⟨rfl, rfl⟩
  go_wp2_with fail
  refine (hP _ hR0).mono ?_
  rintro e wa ⟨x, C, l, A, c, rev, cr, H, b, bad, lock, s, rfl, hx, hS, hb, hm, hO, hl, hPth, hown, hba⟩
  replace HM : Mem (w) [] (wa) [.blk (w.heap.size) 45 #[.int .i64 f0, .int .i64 f1, .int .i64 f2, .int .i64 f3], .row (W0.heap.size) (116) (4) (.slice A l.length c) (l.length) (prs l)] := Mem.row HM hba hown (Nat.le_refl _)
  obtain ⟨b1, b2, b3, b4, b5, b6, b7⟩ := may_bounds hb hm
  have hBt := fun W h => boot_ok x C me rev cr H b bad lock s W h hS hb hm
  have hSd := fun W h => vsoldV_ok (.slice A l.length c) l me rev (cr : Int) (H : Int) (b : Int) (bad : Int) (lock : Int) 0 f1 f2 f3 0 W h hO (by omega) b1 b2 (by decide) y1 y2 y3 (Lib.hid (by decide))
  clear hP hR0 hba hown hPth hl b1 b2 b3 b4 b5 b6 b7 y0 y1 y2 y3 hme w0
  go_wp2_with fail
  obtain ⟨W1, hW1⟩ : ∃ W1, (wa).alloc (.cells #[.slice A l.length c] 33) = W1 := ⟨_, rfl⟩
  replace HM : Mem (w) [] _ [.blk (w.heap.size) 45 #[.int .i64 f0, .int .i64 f1, .int .i64 f2, .int .i64 f3], .row (W0.heap.size) (116) (4) (.slice A l.length c) (l.length) (prs l), .blk (wa.heap.size) 33 #[.slice A l.length c]] := Mem.alloc HM (wa.heap.size) (by first | (simp; done) | (simp; omega)) #[.slice A l.length c] 33
  rw [hW1] at HM ⊢
  replace hx : IsWs W1 x C := by rw [← hW1]; exact hx.below (below_a1 _ _)
  clear hW1
  refine (hBt _ hx).mono ?_
  rintro e wb ⟨rfl, hbb⟩
  replace hx := hx.below hbb
  replace HM : Mem (w) [] (wb) [.blk (w.heap.size) 45 #[.int .i64 f0, .int .i64 f1, .int .i64 f2, .int .i64 f3], .row (W0.heap.size) (116) (4) (.slice A l.length c) (l.length) (prs l), .blk (wa.heap.size) 33 #[.slice A l.length c]] := Mem.call HM hbb
  clear hbb hBt
  have oo0 : (wb).cell? ⟨wa.heap.size, 0, none⟩ = some (.slice A l.length c) := (HM.blk 2 rfl).cell 0
  have oof0 : (wb).frozen? ⟨wa.heap.size, 0, none⟩ = false := (HM.blk 2 rfl).frozen 0
  have oolt : wa.heap.size < (wb).heap.size := HM.lt 2 rfl
  have rx0 : (wb).cell? ⟨w.heap.size, 0, none⟩ = some (.int .i64 f0) := (HM.blk 0 rfl).cell 0
  have rxf0 : (wb).frozen? ⟨w.heap.size, 0, none⟩ = false := (HM.blk 0 rfl).frozen 0
  have rx1 : (wb).cell? ⟨w.heap.size, 1, none⟩ = some (.int .i64 f1) := (HM.blk 0 rfl).cell 1
  have rxf1 : (wb).frozen? ⟨w.heap.size, 1, none⟩ = false := (HM.blk 0 rfl).frozen 1
  have rx2 : (wb).cell? ⟨w.heap.size, 2, none⟩ = some (.int .i64 f2) := (HM.blk 0 rfl).cell 2
  have rxf2 : (wb).frozen? ⟨w.heap.size, 2, none⟩ = false := (HM.blk 0 rfl).frozen 2
  have rx3 : (wb).cell? ⟨w.heap.size, 3, none⟩ = some (.int .i64 f3) := (HM.blk 0 rfl).cell 3
  have rxf3 : (wb).frozen? ⟨w.heap.size, 3, none⟩ = false := (HM.blk 0 rfl).frozen 3
  have rxlt : w.heap.size < (wb).heap.size := HM.lt 0 rfl
  have ne_oo_rx : wa.heap.size ≠ w.heap.size := HM.ne 2 0 rfl rfl (by decide)
  have ne_rx_oo : w.heap.size ≠ wa.heap.size := HM.ne 0 2 rfl rfl (by decide)
  have hCl : 0 < C.length := by have := hS.len; omega
  have hrx := HM.blk 0 rfl
  go_wp2_with fail
  obtain ⟨W2, hW2⟩ : ∃ W2, ((wb).setCell ⟨w.heap.size, 0, none⟩ (.int .i64 0)).alloc (.cells #[.int .i64 (me : Int), .int .i64 (rev : Int), .int .i64 (cr : Int), .int .i64 (H : Int), .int .u64 (b : Int), .int .i64 (bad : Int), .int .i64 (lock : Int)] 39) = W2 := ⟨_, rfl⟩
  replace HM : Mem (w) [] _ [.blk (w.heap.size) 45 #[.int .i64 0, .int .i64 f1, .int .i64 f2, .int .i64 f3], .row (W0.heap.size) (116) (4) (.slice A l.length c) (l.length) (prs l), .blk (wa.heap.size) 33 #[.slice A l.length c]] := Mem.set 0 HM rfl 0 (.int .i64 0)
  replace HM : Mem (w) [] _ [.blk (w.heap.size) 45 #[.int .i64 0, .int .i64 f1, .int .i64 f2, .int .i64 f3], .row (W0.heap.size) (116) (4) (.slice A l.length c) (l.length) (prs l), .blk (wa.heap.size) 33 #[.slice A l.length c], .blk (wb.heap.size) 39 #[.int .i64 (me : Int), .int .i64 (rev : Int), .int .i64 (cr : Int), .int .i64 (H : Int), .int .u64 (b : Int), .int .i64 (bad : Int), .int .i64 (lock : Int)]] := Mem.alloc HM (wb.heap.size) (by first | (simp; done) | (simp; omega)) #[.int .i64 (me : Int), .int .i64 (rev : Int), .int .i64 (cr : Int), .int .i64 (H : Int), .int .u64 (b : Int), .int .i64 (bad : Int), .int .i64 (lock : Int)] 39
  rw [hW2] at HM ⊢
  replace hx : IsWs W2 x C := by rw [← hW2]; exact (isws_set hx hrx hCl (by intro i u hu z e; subst e; rcases i with _ | _ | _ | _ | i <;> simp at hu) 0 _).below (below_a1 _ _)
  have ho := isps_own (l := l) rfl (ook_wf hO) (HM.own_ 1 rfl)
  clear hW2 hrx
  refine (hSd _ ho).mono ?_
  rintro e wc ⟨id, am, tag, t2, l2, A2, c2, rfl, hk3, hiL, hiT, hO2, hown2, hmv, hbc⟩
  replace hx := hx.below hbc
  have hlk : look l2 ((me : Int), (rev : Int), ((tbody 0 id am : Nat) : Int)) = some ((t2 : Nat) : Int) := by rw [← hiL, issL_look, if_pos rfl, hiT]
  replace HM : Mem (w) [] (wc) [.blk (w.heap.size) 45 #[.int .i64 0, .int .i64 f1, .int .i64 f2, .int .i64 f3], .row (W0.heap.size) (116) (4) (.slice A l.length c) (l.length) (prs l), .blk (wa.heap.size) 33 #[.slice A l.length c], .blk (wb.heap.size) 39 #[.int .i64 (me : Int), .int .i64 (rev : Int), .int .i64 (cr : Int), .int .i64 (H : Int), .int .u64 (b : Int), .int .i64 (bad : Int), .int .i64 (lock : Int)], .row (W2.heap.size) (116) (4) (.slice A2 l2.length c2) (l2.length) (prs l2)] := Mem.row HM hbc hown2 (Nat.le_refl _)
  clear oo0 oof0 oolt rx0 rxf0 rx1 rxf1 rx2 rxf2 rx3 rxf3 rxlt ne_oo_rx ne_rx_oo
  have oo0 : (wc).cell? ⟨wa.heap.size, 0, none⟩ = some (.slice A l.length c) := (HM.blk 2 rfl).cell 0
  have oof0 : (wc).frozen? ⟨wa.heap.size, 0, none⟩ = false := (HM.blk 2 rfl).frozen 0
  have oolt : wa.heap.size < (wc).heap.size := HM.lt 2 rfl
  clear hSd ho hbc hown2 hiL hiT hmv hO
  have hoo := HM.blk 2 rfl
  have hk4 := hk3.h4
  have hF := fun W => format_ok 0 id am t2 W hk3
  have hPs := parse_tok 0 id am t2 hk3 (tokD 0 id am t2) rfl (tokD_len hk3)
  obtain ⟨S, hSS⟩ : ∃ S, dstr (tokD 0 id am t2) = S := ⟨_, rfl⟩
  rw [hSS] at hF hPs
  have hKS := key_sold hb hm hlk hk3.h2 (by omega)
  have HO := Lib.hid hO2
  have hamb : am ≤ 2097151 := by omega
  simp only [Int.cast_ofNat_Int] at hF
  clear hSS hlk hk4
  go_wp2_with fail
  obtain ⟨Wc2, hWc2⟩ : ∃ Wc2, ((wc).setCell ⟨wa.heap.size, 0, none⟩ (.slice A2 l2.length c2)).alloc (.cells #[.int .i64 0, .int .i64 (id : Int), .int .i64 (am : Int), .int .i64 (t2 : Int)] 48) = Wc2 := ⟨_, rfl⟩
  replace HM : Mem (w) [] _ [.blk (w.heap.size) 45 #[.int .i64 0, .int .i64 f1, .int .i64 f2, .int .i64 f3], .row (W0.heap.size) (116) (4) (.slice A l.length c) (l.length) (prs l), .blk (wa.heap.size) 33 #[.slice A2 l2.length c2], .blk (wb.heap.size) 39 #[.int .i64 (me : Int), .int .i64 (rev : Int), .int .i64 (cr : Int), .int .i64 (H : Int), .int .u64 (b : Int), .int .i64 (bad : Int), .int .i64 (lock : Int)], .row (W2.heap.size) (116) (4) (.slice A2 l2.length c2) (l2.length) (prs l2)] := Mem.set 2 HM rfl 0 (.slice A2 l2.length c2)
  replace HM : Mem (w) [] _ [.blk (w.heap.size) 45 #[.int .i64 0, .int .i64 f1, .int .i64 f2, .int .i64 f3], .row (W0.heap.size) (116) (4) (.slice A l.length c) (l.length) (prs l), .blk (wa.heap.size) 33 #[.slice A2 l2.length c2], .blk (wb.heap.size) 39 #[.int .i64 (me : Int), .int .i64 (rev : Int), .int .i64 (cr : Int), .int .i64 (H : Int), .int .u64 (b : Int), .int .i64 (bad : Int), .int .i64 (lock : Int)], .row (W2.heap.size) (116) (4) (.slice A2 l2.length c2) (l2.length) (prs l2), .blk (wc.heap.size) 48 #[.int .i64 0, .int .i64 (id : Int), .int .i64 (am : Int), .int .i64 (t2 : Int)]] := Mem.alloc HM (wc.heap.size) (by first | (simp; done) | (simp; omega)) #[.int .i64 0, .int .i64 (id : Int), .int .i64 (am : Int), .int .i64 (t2 : Int)] 48
  rw [hWc2] at HM ⊢
  replace hx : IsWs Wc2 x C := by rw [← hWc2]; exact (isws_set hx hoo hCl (by intro i u hu z e; subst e; rcases i with _ | i <;> simp at hu) 0 _).below (below_a1 _ _)
  clear hWc2 hoo
  refine (hF _).mono ?_
  rintro e wf ⟨rfl, hbf⟩
  replace hx := hx.below hbf
  replace HM : Mem (w) [] (wf) [.blk (w.heap.size) 45 #[.int .i64 0, .int .i64 f1, .int .i64 f2, .int .i64 f3], .row (W0.heap.size) (116) (4) (.slice A l.length c) (l.length) (prs l), .blk (wa.heap.size) 33 #[.slice A2 l2.length c2], .blk (wb.heap.size) 39 #[.int .i64 (me : Int), .int .i64 (rev : Int), .int .i64 (cr : Int), .int .i64 (H : Int), .int .u64 (b : Int), .int .i64 (bad : Int), .int .i64 (lock : Int)], .row (W2.heap.size) (116) (4) (.slice A2 l2.length c2) (l2.length) (prs l2), .blk (wc.heap.size) 48 #[.int .i64 0, .int .i64 (id : Int), .int .i64 (am : Int), .int .i64 (t2 : Int)]] := Mem.call HM hbf
  clear hF hbf
  go_wp2_with fail

  rcases hKS with ⟨E, hE0, hE5, hK⟩ | ⟨h2, b2, hc9, hK, hK2, hlk0⟩
  · have hKy := fun W h1 h2' => keyed_ok x (.slice A2 l2.length c2) C l2 S me rev cr H b bad lock s 0 id am t2 rev cr H b bad lock 0 E W h1 h2' HO.out hS hb hm hk3 hPs (Lib.hid hK) hE5
    rw [pkW_same] at hKy
    unfold RetKeyed at hKy
    simp only [Int.cast_ofNat_Int] at hKy
    have hEb : ((E : Int) == 0) = false := by simp; omega
    have hEn : ¬ (E : Int) = 0 := by omega
    clear hK hPs hk3 hE0 hE5 hS hb hm hqc hqw hCl hamb m1
    go_loopw [9, 17] (fun y i wr => ∃ (k : Nat), i = .int .i64 (k : Int) ∧ k ≤ nc ∧ k ≤ 8 ∧ x = y ∧ IsWs wr x C ∧ Mem (w) [] (wr) [.blk (w.heap.size) 45 #[.int .i64 0, .int .i64 f1, .int .i64 f2, .int .i64 f3], .row (W0.heap.size) (116) (4) (.slice A l.length c) (l.length) (prs l), .blk (wa.heap.size) 33 #[.slice A2 l2.length c2], .blk (wb.heap.size) 39 #[.int .i64 (me : Int), .int .i64 (rev : Int), .int .i64 (cr : Int), .int .i64 (H : Int), .int .u64 (b : Int), .int .i64 (bad : Int), .int .i64 (lock : Int)], .row (W2.heap.size) (116) (4) (.slice A2 l2.length c2) (l2.length) (prs l2), .blk (wc.heap.size) 48 #[.int .i64 0, .int .i64 (id : Int), .int .i64 (am : Int), .int .i64 (t2 : Int)]]) (fun _ i _ => 8 - (intOf i).toNat)
    case atStart => exact ⟨0, rfl, by omega, by omega, rfl, hx, HM⟩
    case round =>
      obtain ⟨k, rfl, hk, hk8, rfl, hx, HM⟩ := hrel
      have ho2 := isps_own (l := l2) rfl (ook_wf HO.out) (HM.own_ 4 rfl)

      clear oo0 oof0 oolt
      have oo0 : (wr).cell? ⟨wa.heap.size, 0, none⟩ = some (.slice A2 l2.length c2) := (HM.blk 2 rfl).cell 0
      have oof0 : (wr).frozen? ⟨wa.heap.size, 0, none⟩ = false := (HM.blk 2 rfl).frozen 0
      have oolt : wa.heap.size < (wr).heap.size := HM.lt 2 rfl
      have hlt3 : ((k : Int) < (nc : Int) ∧ (k : Int) < 8) ∨ ((k : Int) < (nc : Int) ∧ ¬ (k : Int) < 8) ∨ ¬ (k : Int) < (nc : Int) := by omega
      rcases hlt3 with ⟨g1, g2⟩ | ⟨g1, g2⟩ | g1
      all_goals
        go_wp2_with fail
        refine (hKy _ hx ho2).mono ?_
        rintro e wk ⟨u, rfl, hu, hbk⟩
        have hbl := HM.below.step hbk
        obtain ⟨A3, c3, rfl, _, _, _, _⟩ := hu
        clear hKy hbk
        go_wp2
        go_ret
        exact ⟨rfl, hbl⟩
  · skip
    obtain ⟨c9, hc9e⟩ : ∃ c9, cr + am = c9 := ⟨_, rfl⟩
    rw [hc9e] at hK hK2 hc9
    obtain ⟨hm2, hb2⟩ := keyS_may hb hm hk3 hK
    have hne : ¬ (rev = rev ∧ cr = c9 ∧ H = h2 ∧ b = b2 ∧ bad = 0 ∧ lock = 0) := fun hh => by have := hh.2.1; have := hk3.h4; omega
    have hKy := fun z D W h1 h2' hS' => keyed_ok z (.slice A2 l2.length c2) D l2 S me rev cr H b bad lock s 0 id am t2 rev c9 h2 b2 0 0 am 0 W h1 h2' HO.out hS' hb hm hk3 hPs (Lib.hid hK) (by decide)
    have hKz := fun z D W h1 h2' hS' => keyed_ok z (.slice A2 l2.length c2) D l2 S me rev c9 h2 b2 0 0 (1 - s) 0 id am t2 rev c9 h2 b2 0 0 0 14 W h1 h2' HO.out hS' hb2 hm2 hk3 hPs (Lib.hid hK2) (by decide)
    have hBo := fun z D W h h' => boot_ok z D me rev c9 h2 b2 0 0 (1 - s) W h h' hb2 hm2
    have hwz : IntKind.i64.wrap ((cr : Int) + (am : Int)) = (c9 : Int) := by rw [IntWalk.i64_in _ (by omega)]; omega
    unfold RetKeyed at hKy hKz
    simp only [pkW_diff hne, pkW_same, Int.cast_ofNat_Int] at hKy hKz hBo
    have HW := Lib.hid hwz
    clear hK hK2 hPs hk3 hne hb hm hm2 hb2 hc9 hc9e hwz hCl hamb m1 hlk0
    go_loopw [9, 17] (fun y i wr => ∃ (k : Nat) (z : Value) (D : List Nat), i = .int .i64 (k : Int) ∧ k ≤ nc ∧ k ≤ 8 ∧ z = y ∧ IsWs wr z D ∧ IsSl D 5 (mws me rev cr H b bad lock) s ∧ Mem (w) [] (wr) [.blk (w.heap.size) 45 #[.int .i64 0, .int .i64 f1, .int .i64 f2, .int .i64 f3], .row (W0.heap.size) (116) (4) (.slice A l.length c) (l.length) (prs l), .blk (wa.heap.size) 33 #[.slice A2 l2.length c2], .blk (wb.heap.size) 39 #[.int .i64 (me : Int), .int .i64 (rev : Int), .int .i64 (cr : Int), .int .i64 (H : Int), .int .u64 (b : Int), .int .i64 (bad : Int), .int .i64 (lock : Int)], .row (W2.heap.size) (116) (4) (.slice A2 l2.length c2) (l2.length) (prs l2), .blk (wc.heap.size) 48 #[.int .i64 0, .int .i64 (id : Int), .int .i64 (am : Int), .int .i64 (t2 : Int)]]) (fun _ i _ => 8 - (intOf i).toNat)
    case atStart => exact ⟨0, x, C, rfl, by omega, by omega, rfl, hx, hS, HM⟩
    case round =>
      obtain ⟨k, z, D, rfl, hk, hk8, rfl, hz, hSD, HM⟩ := hrel
      have ho2 := isps_own (l := l2) rfl (ook_wf HO.out) (HM.own_ 4 rfl)

      clear oo0 oof0 oolt
      have oo0 : (wr).cell? ⟨wa.heap.size, 0, none⟩ = some (.slice A2 l2.length c2) := (HM.blk 2 rfl).cell 0
      have oof0 : (wr).frozen? ⟨wa.heap.size, 0, none⟩ = false := (HM.blk 2 rfl).frozen 0
      have oolt : wa.heap.size < (wr).heap.size := HM.lt 2 rfl
      obtain ⟨hP1, hP2⟩ := slW_ok hSD (mws_len me rev c9 h2 b2 0 0)
      have hst := sl_store hSD (mws_len me rev c9 h2 b2 0 0)
      have hDn := hSD.len
      have hKy := fun W h1 h2' => hKy z D W h1 h2' hSD
      obtain ⟨P, hPP⟩ : ∃ P, slW D 5 (mws me rev c9 h2 b2 0 0) s = P := ⟨_, rfl⟩
      rw [hPP] at hKy hP1 hP2 hst

      by_cases hlt : k < nc ∧ k < 8
      · obtain ⟨hlt, hlt8⟩ := hlt
        obtain ⟨bq, off, rfl, hB, hcell⟩ := hqc k hlt
        have q1 : wr.cell? ⟨bq, off + k, none⟩ = some (.int .i64 (q k)) := (HM.below.cell (p := ⟨bq, off + k, none⟩) hB).trans hcell
        have hBr : bq < wr.heap.size := Nat.lt_of_lt_of_le hB HM.below.size
        have wq := hqw k hlt
        obtain ⟨qk, hqk⟩ : ∃ z, q k = z := ⟨_, rfl⟩
        rw [hqk] at q1 wq
        obtain ⟨kk, hkk, hk7⟩ := pk_nat qk 7 (by omega)
        have hA := fun u W h3 h4 => apply_ok z u D P kk W h3 h4 (by omega) (by omega) (by omega) hP1 (by omega)
        have hSk := hst.1 kk (by omega)
        have g1 : (k : Int) < (nc : Int) := by omega
        have g2 : (k : Int) < 8 := by omega
        have K1 : (1 : Int) ≤ 7 := by omega
        have K2 : (7 : Int) ≤ 9223372036854775807 := by omega
        obtain ⟨D2, hD2⟩ : ∃ D2, applyW D (P.take kk) = D2 := ⟨_, rfl⟩
        rw [hD2] at hA hSk
        have HS2 := Lib.hid hSk
        have H7 := Lib.hid hP2
        clear hqc hqw hqk hcell hst hP1 hPP hDn hSD hSk hD2 hKz hBo hk7
        go_wp2_with fail
        refine (hKy _ hz ho2).mono ?_
        rintro e wk ⟨u, rfl, hu, hbk⟩
        replace hz := hz.below hbk
        have q1 := (hbk.cell (p := ⟨bq, off + k, none⟩) hBr).trans q1
        have hu0 := hu
        obtain ⟨A3, c3, rfl, _, _, _, _⟩ := hu
        rw [hP2] at hu0 ⊢
        replace HM : Mem (w) [] (wk) [.blk (w.heap.size) 45 #[.int .i64 0, .int .i64 f1, .int .i64 f2, .int .i64 f3], .row (W0.heap.size) (116) (4) (.slice A l.length c) (l.length) (prs l), .blk (wa.heap.size) 33 #[.slice A2 l2.length c2], .blk (wb.heap.size) 39 #[.int .i64 (me : Int), .int .i64 (rev : Int), .int .i64 (cr : Int), .int .i64 (H : Int), .int .u64 (b : Int), .int .i64 (bad : Int), .int .i64 (lock : Int)], .row (W2.heap.size) (116) (4) (.slice A2 l2.length c2) (l2.length) (prs l2), .blk (wc.heap.size) 48 #[.int .i64 0, .int .i64 (id : Int), .int .i64 (am : Int), .int .i64 (t2 : Int)]] := Mem.call HM hbk
        clear hKy hbk ho2 hP2
        go_wp2_with fail
        refine (picked_is _ hkk wq K1 K2).mono ?_
        rintro e w7 ⟨rfl, rfl⟩
        go_wp2_with fail
        refine (hA _ _ hz hu0).mono ?_
        rintro e wq2 ⟨dv, rfl, hdv, hbq⟩
        replace HM : Mem (w) [] (wq2) [.blk (w.heap.size) 45 #[.int .i64 0, .int .i64 f1, .int .i64 f2, .int .i64 f3], .row (W0.heap.size) (116) (4) (.slice A l.length c) (l.length) (prs l), .blk (wa.heap.size) 33 #[.slice A2 l2.length c2], .blk (wb.heap.size) 39 #[.int .i64 (me : Int), .int .i64 (rev : Int), .int .i64 (cr : Int), .int .i64 (H : Int), .int .u64 (b : Int), .int .i64 (bad : Int), .int .i64 (lock : Int)], .row (W2.heap.size) (116) (4) (.slice A2 l2.length c2) (l2.length) (prs l2), .blk (wc.heap.size) 48 #[.int .i64 0, .int .i64 (id : Int), .int .i64 (am : Int), .int .i64 (t2 : Int)]] := Mem.call HM hbq
        clear hA hbq
        go_wp2
        go_roundw
        case rel => exact ⟨k + 1, dv, D2, by go_num, by omega, by omega, rfl, hdv, HS2.out, HM⟩
        case measure => (simp [intOf]; try omega)
      · skip
        have hA := fun u W h3 h4 => apply_ok z u D P 7 W h3 h4 (by omega) (by omega) (by omega) hP1 (by omega)
        have hSk := hst.2
        have e7 : P.take 7 = P := List.take_of_length_le (by omega)
        rw [e7] at hA
        obtain ⟨D2, hD2⟩ : ∃ D2, applyW D P = D2 := ⟨_, rfl⟩
        rw [hD2] at hA hSk
        have HS2 := Lib.hid hSk
        have hlt1 : ((k : Int) < (nc : Int) ∧ ¬ (k : Int) < 8) ∨ ¬ (k : Int) < (nc : Int) := by omega
        simp only [Int.cast_ofNat_Int] at hA
        clear hqc hqw hst hP1 hPP hDn hSD hSk hD2 e7 hlt hk hk8

        rcases hlt1 with ⟨g1, g2⟩ | g1
        · go_wp2_with fail
          refine (hKy _ hz ho2).mono ?_
          rintro e wk ⟨u, rfl, hu, hbk⟩
          replace hz := hz.below hbk
          have hu0 := hu
          obtain ⟨A3, c3, rfl, _, _, _, _⟩ := hu
          rw [hP2] at hu0 ⊢
          replace HM : Mem (w) [] (wk) [.blk (w.heap.size) 45 #[.int .i64 0, .int .i64 f1, .int .i64 f2, .int .i64 f3], .row (W0.heap.size) (116) (4) (.slice A l.length c) (l.length) (prs l), .blk (wa.heap.size) 33 #[.slice A2 l2.length c2], .blk (wb.heap.size) 39 #[.int .i64 (me : Int), .int .i64 (rev : Int), .int .i64 (cr : Int), .int .i64 (H : Int), .int .u64 (b : Int), .int .i64 (bad : Int), .int .i64 (lock : Int)], .row (W2.heap.size) (116) (4) (.slice A2 l2.length c2) (l2.length) (prs l2), .blk (wc.heap.size) 48 #[.int .i64 0, .int .i64 (id : Int), .int .i64 (am : Int), .int .i64 (t2 : Int)]] := Mem.call HM hbk
          clear hKy hbk ho2 hP2
          go_wp2_with fail
          refine (hA _ _ hz hu0).mono ?_
          rintro e wq2 ⟨dv, rfl, hdv, hbq⟩
          replace HM : Mem (w) [] (wq2) [.blk (w.heap.size) 45 #[.int .i64 0, .int .i64 f1, .int .i64 f2, .int .i64 f3], .row (W0.heap.size) (116) (4) (.slice A l.length c) (l.length) (prs l), .blk (wa.heap.size) 33 #[.slice A2 l2.length c2], .blk (wb.heap.size) 39 #[.int .i64 (me : Int), .int .i64 (rev : Int), .int .i64 (cr : Int), .int .i64 (H : Int), .int .u64 (b : Int), .int .i64 (bad : Int), .int .i64 (lock : Int)], .row (W2.heap.size) (116) (4) (.slice A2 l2.length c2) (l2.length) (prs l2), .blk (wc.heap.size) 48 #[.int .i64 0, .int .i64 (id : Int), .int .i64 (am : Int), .int .i64 (t2 : Int)]] := Mem.call HM hbq
          clear hA hbq
          go_wp2_with fail
          refine (hBo _ _ _ hdv HS2.out).mono ?_
          rintro e wj ⟨rfl, hbj⟩
          replace hdv := hdv.below hbj
          replace HM : Mem (w) [] (wj) [.blk (w.heap.size) 45 #[.int .i64 0, .int .i64 f1, .int .i64 f2, .int .i64 f3], .row (W0.heap.size) (116) (4) (.slice A l.length c) (l.length) (prs l), .blk (wa.heap.size) 33 #[.slice A2 l2.length c2], .blk (wb.heap.size) 39 #[.int .i64 (me : Int), .int .i64 (rev : Int), .int .i64 (cr : Int), .int .i64 (H : Int), .int .u64 (b : Int), .int .i64 (bad : Int), .int .i64 (lock : Int)], .row (W2.heap.size) (116) (4) (.slice A2 l2.length c2) (l2.length) (prs l2), .blk (wc.heap.size) 48 #[.int .i64 0, .int .i64 (id : Int), .int .i64 (am : Int), .int .i64 (t2 : Int)]] := Mem.call HM hbj
          clear oo0 oof0 oolt
          have oo0 : (wj).cell? ⟨wa.heap.size, 0, none⟩ = some (.slice A2 l2.length c2) := (HM.blk 2 rfl).cell 0
          have oof0 : (wj).frozen? ⟨wa.heap.size, 0, none⟩ = false := (HM.blk 2 rfl).frozen 0
          have oolt : wa.heap.size < (wj).heap.size := HM.lt 2 rfl
          clear hBo hbj
          go_wp2_with fail
          obtain ⟨Wn, hWn⟩ : ∃ Wn, (wj).alloc (.cells #[.int .i64 (me : Int), .int .i64 (rev : Int), .int .i64 (c9 : Int), .int .i64 (h2 : Int), .int .u64 (b2 : Int), .int .i64 0, .int .i64 0] 39) = Wn := ⟨_, rfl⟩
          replace HM : Mem (w) [] _ [.blk (w.heap.size) 45 #[.int .i64 0, .int .i64 f1, .int .i64 f2, .int .i64 f3], .row (W0.heap.size) (116) (4) (.slice A l.length c) (l.length) (prs l), .blk (wa.heap.size) 33 #[.slice A2 l2.length c2], .blk (wb.heap.size) 39 #[.int .i64 (me : Int), .int .i64 (rev : Int), .int .i64 (cr : Int), .int .i64 (H : Int), .int .u64 (b : Int), .int .i64 (bad : Int), .int .i64 (lock : Int)], .row (W2.heap.size) (116) (4) (.slice A2 l2.length c2) (l2.length) (prs l2), .blk (wc.heap.size) 48 #[.int .i64 0, .int .i64 (id : Int), .int .i64 (am : Int), .int .i64 (t2 : Int)], .blk (wj.heap.size) 39 #[.int .i64 (me : Int), .int .i64 (rev : Int), .int .i64 (c9 : Int), .int .i64 (h2 : Int), .int .u64 (b2 : Int), .int .i64 0, .int .i64 0]] := Mem.alloc HM (wj.heap.size) (by first | (simp; done) | (simp; omega)) #[.int .i64 (me : Int), .int .i64 (rev : Int), .int .i64 (c9 : Int), .int .i64 (h2 : Int), .int .u64 (b2 : Int), .int .i64 0, .int .i64 0] 39
          rw [hWn] at HM ⊢
          replace hdv : IsWs Wn dv D2 := by rw [← hWn]; exact hdv.below (below_a1 _ _)
          have ho3 := isps_own (l := l2) rfl (ook_wf HO.out) (HM.own_ 4 rfl)
          refine (hKz _ _ _ hdv ho3 HS2.out).mono ?_
          rintro e wm ⟨u, rfl, hu, hbm⟩
          obtain ⟨A4, c4, rfl, _, _, _, _⟩ := hu
          replace HM : Mem (w) [] (wm) [.blk (w.heap.size) 45 #[.int .i64 0, .int .i64 f1, .int .i64 f2, .int .i64 f3], .row (W0.heap.size) (116) (4) (.slice A l.length c) (l.length) (prs l), .blk (wa.heap.size) 33 #[.slice A2 l2.length c2], .blk (wb.heap.size) 39 #[.int .i64 (me : Int), .int .i64 (rev : Int), .int .i64 (cr : Int), .int .i64 (H : Int), .int .u64 (b : Int), .int .i64 (bad : Int), .int .i64 (lock : Int)], .row (W2.heap.size) (116) (4) (.slice A2 l2.length c2) (l2.length) (prs l2), .blk (wc.heap.size) 48 #[.int .i64 0, .int .i64 (id : Int), .int .i64 (am : Int), .int .i64 (t2 : Int)], .blk (wj.heap.size) 39 #[.int .i64 (me : Int), .int .i64 (rev : Int), .int .i64 (c9 : Int), .int .i64 (h2 : Int), .int .u64 (b2 : Int), .int .i64 0, .int .i64 0]] := Mem.call HM hbm
          clear oo0 oof0 oolt
          have om0 : (wm).cell? ⟨wb.heap.size, 0, none⟩ = some (.int .i64 (me : Int)) := (HM.blk 3 rfl).cell 0
          have omf0 : (wm).frozen? ⟨wb.heap.size, 0, none⟩ = false := (HM.blk 3 rfl).frozen 0
          have om1 : (wm).cell? ⟨wb.heap.size, 1, none⟩ = some (.int .i64 (rev : Int)) := (HM.blk 3 rfl).cell 1
          have omf1 : (wm).frozen? ⟨wb.heap.size, 1, none⟩ = false := (HM.blk 3 rfl).frozen 1
          have om2 : (wm).cell? ⟨wb.heap.size, 2, none⟩ = some (.int .i64 (cr : Int)) := (HM.blk 3 rfl).cell 2
          have omf2 : (wm).frozen? ⟨wb.heap.size, 2, none⟩ = false := (HM.blk 3 rfl).frozen 2
          have om3 : (wm).cell? ⟨wb.heap.size, 3, none⟩ = some (.int .i64 (H : Int)) := (HM.blk 3 rfl).cell 3
          have omf3 : (wm).frozen? ⟨wb.heap.size, 3, none⟩ = false := (HM.blk 3 rfl).frozen 3
          have om4 : (wm).cell? ⟨wb.heap.size, 4, none⟩ = some (.int .u64 (b : Int)) := (HM.blk 3 rfl).cell 4
          have omf4 : (wm).frozen? ⟨wb.heap.size, 4, none⟩ = false := (HM.blk 3 rfl).frozen 4
          have om5 : (wm).cell? ⟨wb.heap.size, 5, none⟩ = some (.int .i64 (bad : Int)) := (HM.blk 3 rfl).cell 5
          have omf5 : (wm).frozen? ⟨wb.heap.size, 5, none⟩ = false := (HM.blk 3 rfl).frozen 5
          have om6 : (wm).cell? ⟨wb.heap.size, 6, none⟩ = some (.int .i64 (lock : Int)) := (HM.blk 3 rfl).cell 6
          have omf6 : (wm).frozen? ⟨wb.heap.size, 6, none⟩ = false := (HM.blk 3 rfl).frozen 6
          have omlt : wb.heap.size < (wm).heap.size := HM.lt 3 rfl
          have tk0 : (wm).cell? ⟨wc.heap.size, 0, none⟩ = some (.int .i64 0) := (HM.blk 5 rfl).cell 0
          have tkf0 : (wm).frozen? ⟨wc.heap.size, 0, none⟩ = false := (HM.blk 5 rfl).frozen 0
          have tk1 : (wm).cell? ⟨wc.heap.size, 1, none⟩ = some (.int .i64 (id : Int)) := (HM.blk 5 rfl).cell 1
          have tkf1 : (wm).frozen? ⟨wc.heap.size, 1, none⟩ = false := (HM.blk 5 rfl).frozen 1
          have tk2 : (wm).cell? ⟨wc.heap.size, 2, none⟩ = some (.int .i64 (am : Int)) := (HM.blk 5 rfl).cell 2
          have tkf2 : (wm).frozen? ⟨wc.heap.size, 2, none⟩ = false := (HM.blk 5 rfl).frozen 2
          have tk3 : (wm).cell? ⟨wc.heap.size, 3, none⟩ = some (.int .i64 (t2 : Int)) := (HM.blk 5 rfl).cell 3
          have tkf3 : (wm).frozen? ⟨wc.heap.size, 3, none⟩ = false := (HM.blk 5 rfl).frozen 3
          have tklt : wc.heap.size < (wm).heap.size := HM.lt 5 rfl
          have nw0 : (wm).cell? ⟨wj.heap.size, 0, none⟩ = some (.int .i64 (me : Int)) := (HM.blk 6 rfl).cell 0
          have nwf0 : (wm).frozen? ⟨wj.heap.size, 0, none⟩ = false := (HM.blk 6 rfl).frozen 0
          have nw1 : (wm).cell? ⟨wj.heap.size, 1, none⟩ = some (.int .i64 (rev : Int)) := (HM.blk 6 rfl).cell 1
          have nwf1 : (wm).frozen? ⟨wj.heap.size, 1, none⟩ = false := (HM.blk 6 rfl).frozen 1
          have nw2 : (wm).cell? ⟨wj.heap.size, 2, none⟩ = some (.int .i64 (c9 : Int)) := (HM.blk 6 rfl).cell 2
          have nwf2 : (wm).frozen? ⟨wj.heap.size, 2, none⟩ = false := (HM.blk 6 rfl).frozen 2
          have nw3 : (wm).cell? ⟨wj.heap.size, 3, none⟩ = some (.int .i64 (h2 : Int)) := (HM.blk 6 rfl).cell 3
          have nwf3 : (wm).frozen? ⟨wj.heap.size, 3, none⟩ = false := (HM.blk 6 rfl).frozen 3
          have nw4 : (wm).cell? ⟨wj.heap.size, 4, none⟩ = some (.int .u64 (b2 : Int)) := (HM.blk 6 rfl).cell 4
          have nwf4 : (wm).frozen? ⟨wj.heap.size, 4, none⟩ = false := (HM.blk 6 rfl).frozen 4
          have nw5 : (wm).cell? ⟨wj.heap.size, 5, none⟩ = some (.int .i64 0) := (HM.blk 6 rfl).cell 5
          have nwf5 : (wm).frozen? ⟨wj.heap.size, 5, none⟩ = false := (HM.blk 6 rfl).frozen 5
          have nw6 : (wm).cell? ⟨wj.heap.size, 6, none⟩ = some (.int .i64 0) := (HM.blk 6 rfl).cell 6
          have nwf6 : (wm).frozen? ⟨wj.heap.size, 6, none⟩ = false := (HM.blk 6 rfl).frozen 6
          have nwlt : wj.heap.size < (wm).heap.size := HM.lt 6 rfl
          have ne_om_tk : wb.heap.size ≠ wc.heap.size := HM.ne 3 5 rfl rfl (by decide)
          have ne_om_nw : wb.heap.size ≠ wj.heap.size := HM.ne 3 6 rfl rfl (by decide)
          have ne_tk_om : wc.heap.size ≠ wb.heap.size := HM.ne 5 3 rfl rfl (by decide)
          have ne_tk_nw : wc.heap.size ≠ wj.heap.size := HM.ne 5 6 rfl rfl (by decide)
          have ne_nw_om : wj.heap.size ≠ wb.heap.size := HM.ne 6 3 rfl rfl (by decide)
          have ne_nw_tk : wj.heap.size ≠ wc.heap.size := HM.ne 6 5 rfl rfl (by decide)
          have hwz := HW.out
          clear hKz hbm ho3 hWn
          go_wp2
          go_ret
          exact ⟨rfl, HM.below⟩
        · skip
          go_wp2_with fail
          refine (hKy _ hz ho2).mono ?_
          rintro e wk ⟨u, rfl, hu, hbk⟩
          replace hz := hz.below hbk
          have hu0 := hu
          obtain ⟨A3, c3, rfl, _, _, _, _⟩ := hu
          rw [hP2] at hu0 ⊢
          replace HM : Mem (w) [] (wk) [.blk (w.heap.size) 45 #[.int .i64 0, .int .i64 f1, .int .i64 f2, .int .i64 f3], .row (W0.heap.size) (116) (4) (.slice A l.length c) (l.length) (prs l), .blk (wa.heap.size) 33 #[.slice A2 l2.length c2], .blk (wb.heap.size) 39 #[.int .i64 (me : Int), .int .i64 (rev : Int), .int .i64 (cr : Int), .int .i64 (H : Int), .int .u64 (b : Int), .int .i64 (bad : Int), .int .i64 (lock : Int)], .row (W2.heap.size) (116) (4) (.slice A2 l2.length c2) (l2.length) (prs l2), .blk (wc.heap.size) 48 #[.int .i64 0, .int .i64 (id : Int), .int .i64 (am : Int), .int .i64 (t2 : Int)]] := Mem.call HM hbk
          clear hKy hbk ho2 hP2
          go_wp2_with fail
          refine (hA _ _ hz hu0).mono ?_
          rintro e wq2 ⟨dv, rfl, hdv, hbq⟩
          replace HM : Mem (w) [] (wq2) [.blk (w.heap.size) 45 #[.int .i64 0, .int .i64 f1, .int .i64 f2, .int .i64 f3], .row (W0.heap.size) (116) (4) (.slice A l.length c) (l.length) (prs l), .blk (wa.heap.size) 33 #[.slice A2 l2.length c2], .blk (wb.heap.size) 39 #[.int .i64 (me : Int), .int .i64 (rev : Int), .int .i64 (cr : Int), .int .i64 (H : Int), .int .u64 (b : Int), .int .i64 (bad : Int), .int .i64 (lock : Int)], .row (W2.heap.size) (116) (4) (.slice A2 l2.length c2) (l2.length) (prs l2), .blk (wc.heap.size) 48 #[.int .i64 0, .int .i64 (id : Int), .int .i64 (am : Int), .int .i64 (t2 : Int)]] := Mem.call HM hbq
          clear hA hbq
          go_wp2_with fail
          refine (hBo _ _ _ hdv HS2.out).mono ?_
          rintro e wj ⟨rfl, hbj⟩
          replace hdv := hdv.below hbj
          replace HM : Mem (w) [] (wj) [.blk (w.heap.size) 45 #[.int .i64 0, .int .i64 f1, .int .i64 f2, .int .i64 f3], .row (W0.heap.size) (116) (4) (.slice A l.length c) (l.length) (prs l), .blk (wa.heap.size) 33 #[.slice A2 l2.length c2], .blk (wb.heap.size) 39 #[.int .i64 (me : Int), .int .i64 (rev : Int), .int .i64 (cr : Int), .int .i64 (H : Int), .int .u64 (b : Int), .int .i64 (bad : Int), .int .i64 (lock : Int)], .row (W2.heap.size) (116) (4) (.slice A2 l2.length c2) (l2.length) (prs l2), .blk (wc.heap.size) 48 #[.int .i64 0, .int .i64 (id : Int), .int .i64 (am : Int), .int .i64 (t2 : Int)]] := Mem.call HM hbj
          clear oo0 oof0 oolt
          have oo0 : (wj).cell? ⟨wa.heap.size, 0, none⟩ = some (.slice A2 l2.length c2) := (HM.blk 2 rfl).cell 0
          have oof0 : (wj).frozen? ⟨wa.heap.size, 0, none⟩ = false := (HM.blk 2 rfl).frozen 0
          have oolt : wa.heap.size < (wj).heap.size := HM.lt 2 rfl
          clear hBo hbj
          go_wp2_with fail
          obtain ⟨Wn, hWn⟩ : ∃ Wn, (wj).alloc (.cells #[.int .i64 (me : Int), .int .i64 (rev : Int), .int .i64 (c9 : Int), .int .i64 (h2 : Int), .int .u64 (b2 : Int), .int .i64 0, .int .i64 0] 39) = Wn := ⟨_, rfl⟩
          replace HM : Mem (w) [] _ [.blk (w.heap.size) 45 #[.int .i64 0, .int .i64 f1, .int .i64 f2, .int .i64 f3], .row (W0.heap.size) (116) (4) (.slice A l.length c) (l.length) (prs l), .blk (wa.heap.size) 33 #[.slice A2 l2.length c2], .blk (wb.heap.size) 39 #[.int .i64 (me : Int), .int .i64 (rev : Int), .int .i64 (cr : Int), .int .i64 (H : Int), .int .u64 (b : Int), .int .i64 (bad : Int), .int .i64 (lock : Int)], .row (W2.heap.size) (116) (4) (.slice A2 l2.length c2) (l2.length) (prs l2), .blk (wc.heap.size) 48 #[.int .i64 0, .int .i64 (id : Int), .int .i64 (am : Int), .int .i64 (t2 : Int)], .blk (wj.heap.size) 39 #[.int .i64 (me : Int), .int .i64 (rev : Int), .int .i64 (c9 : Int), .int .i64 (h2 : Int), .int .u64 (b2 : Int), .int .i64 0, .int .i64 0]] := Mem.alloc HM (wj.heap.size) (by first | (simp; done) | (simp; omega)) #[.int .i64 (me : Int), .int .i64 (rev : Int), .int .i64 (c9 : Int), .int .i64 (h2 : Int), .int .u64 (b2 : Int), .int .i64 0, .int .i64 0] 39
          rw [hWn] at HM ⊢
          replace hdv : IsWs Wn dv D2 := by rw [← hWn]; exact hdv.below (below_a1 _ _)
          have ho3 := isps_own (l := l2) rfl (ook_wf HO.out) (HM.own_ 4 rfl)
          refine (hKz _ _ _ hdv ho3 HS2.out).mono ?_
          rintro e wm ⟨u, rfl, hu, hbm⟩
          obtain ⟨A4, c4, rfl, _, _, _, _⟩ := hu
          replace HM : Mem (w) [] (wm) [.blk (w.heap.size) 45 #[.int .i64 0, .int .i64 f1, .int .i64 f2, .int .i64 f3], .row (W0.heap.size) (116) (4) (.slice A l.length c) (l.length) (prs l), .blk (wa.heap.size) 33 #[.slice A2 l2.length c2], .blk (wb.heap.size) 39 #[.int .i64 (me : Int), .int .i64 (rev : Int), .int .i64 (cr : Int), .int .i64 (H : Int), .int .u64 (b : Int), .int .i64 (bad : Int), .int .i64 (lock : Int)], .row (W2.heap.size) (116) (4) (.slice A2 l2.length c2) (l2.length) (prs l2), .blk (wc.heap.size) 48 #[.int .i64 0, .int .i64 (id : Int), .int .i64 (am : Int), .int .i64 (t2 : Int)], .blk (wj.heap.size) 39 #[.int .i64 (me : Int), .int .i64 (rev : Int), .int .i64 (c9 : Int), .int .i64 (h2 : Int), .int .u64 (b2 : Int), .int .i64 0, .int .i64 0]] := Mem.call HM hbm
          clear oo0 oof0 oolt
          have om0 : (wm).cell? ⟨wb.heap.size, 0, none⟩ = some (.int .i64 (me : Int)) := (HM.blk 3 rfl).cell 0
          have omf0 : (wm).frozen? ⟨wb.heap.size, 0, none⟩ = false := (HM.blk 3 rfl).frozen 0
          have om1 : (wm).cell? ⟨wb.heap.size, 1, none⟩ = some (.int .i64 (rev : Int)) := (HM.blk 3 rfl).cell 1
          have omf1 : (wm).frozen? ⟨wb.heap.size, 1, none⟩ = false := (HM.blk 3 rfl).frozen 1
          have om2 : (wm).cell? ⟨wb.heap.size, 2, none⟩ = some (.int .i64 (cr : Int)) := (HM.blk 3 rfl).cell 2
          have omf2 : (wm).frozen? ⟨wb.heap.size, 2, none⟩ = false := (HM.blk 3 rfl).frozen 2
          have om3 : (wm).cell? ⟨wb.heap.size, 3, none⟩ = some (.int .i64 (H : Int)) := (HM.blk 3 rfl).cell 3
          have omf3 : (wm).frozen? ⟨wb.heap.size, 3, none⟩ = false := (HM.blk 3 rfl).frozen 3
          have om4 : (wm).cell? ⟨wb.heap.size, 4, none⟩ = some (.int .u64 (b : Int)) := (HM.blk 3 rfl).cell 4
          have omf4 : (wm).frozen? ⟨wb.heap.size, 4, none⟩ = false := (HM.blk 3 rfl).frozen 4
          have om5 : (wm).cell? ⟨wb.heap.size, 5, none⟩ = some (.int .i64 (bad : Int)) := (HM.blk 3 rfl).cell 5
          have omf5 : (wm).frozen? ⟨wb.heap.size, 5, none⟩ = false := (HM.blk 3 rfl).frozen 5
          have om6 : (wm).cell? ⟨wb.heap.size, 6, none⟩ = some (.int .i64 (lock : Int)) := (HM.blk 3 rfl).cell 6
          have omf6 : (wm).frozen? ⟨wb.heap.size, 6, none⟩ = false := (HM.blk 3 rfl).frozen 6
          have omlt : wb.heap.size < (wm).heap.size := HM.lt 3 rfl
          have tk0 : (wm).cell? ⟨wc.heap.size, 0, none⟩ = some (.int .i64 0) := (HM.blk 5 rfl).cell 0
          have tkf0 : (wm).frozen? ⟨wc.heap.size, 0, none⟩ = false := (HM.blk 5 rfl).frozen 0
          have tk1 : (wm).cell? ⟨wc.heap.size, 1, none⟩ = some (.int .i64 (id : Int)) := (HM.blk 5 rfl).cell 1
          have tkf1 : (wm).frozen? ⟨wc.heap.size, 1, none⟩ = false := (HM.blk 5 rfl).frozen 1
          have tk2 : (wm).cell? ⟨wc.heap.size, 2, none⟩ = some (.int .i64 (am : Int)) := (HM.blk 5 rfl).cell 2
          have tkf2 : (wm).frozen? ⟨wc.heap.size, 2, none⟩ = false := (HM.blk 5 rfl).frozen 2
          have tk3 : (wm).cell? ⟨wc.heap.size, 3, none⟩ = some (.int .i64 (t2 : Int)) := (HM.blk 5 rfl).cell 3
          have tkf3 : (wm).frozen? ⟨wc.heap.size, 3, none⟩ = false := (HM.blk 5 rfl).frozen 3
          have tklt : wc.heap.size < (wm).heap.size := HM.lt 5 rfl
          have nw0 : (wm).cell? ⟨wj.heap.size, 0, none⟩ = some (.int .i64 (me : Int)) := (HM.blk 6 rfl).cell 0
          have nwf0 : (wm).frozen? ⟨wj.heap.size, 0, none⟩ = false := (HM.blk 6 rfl).frozen 0
          have nw1 : (wm).cell? ⟨wj.heap.size, 1, none⟩ = some (.int .i64 (rev : Int)) := (HM.blk 6 rfl).cell 1
          have nwf1 : (wm).frozen? ⟨wj.heap.size, 1, none⟩ = false := (HM.blk 6 rfl).frozen 1
          have nw2 : (wm).cell? ⟨wj.heap.size, 2, none⟩ = some (.int .i64 (c9 : Int)) := (HM.blk 6 rfl).cell 2
          have nwf2 : (wm).frozen? ⟨wj.heap.size, 2, none⟩ = false := (HM.blk 6 rfl).frozen 2
          have nw3 : (wm).cell? ⟨wj.heap.size, 3, none⟩ = some (.int .i64 (h2 : Int)) := (HM.blk 6 rfl).cell 3
          have nwf3 : (wm).frozen? ⟨wj.heap.size, 3, none⟩ = false := (HM.blk 6 rfl).frozen 3
          have nw4 : (wm).cell? ⟨wj.heap.size, 4, none⟩ = some (.int .u64 (b2 : Int)) := (HM.blk 6 rfl).cell 4
          have nwf4 : (wm).frozen? ⟨wj.heap.size, 4, none⟩ = false := (HM.blk 6 rfl).frozen 4
          have nw5 : (wm).cell? ⟨wj.heap.size, 5, none⟩ = some (.int .i64 0) := (HM.blk 6 rfl).cell 5
          have nwf5 : (wm).frozen? ⟨wj.heap.size, 5, none⟩ = false := (HM.blk 6 rfl).frozen 5
          have nw6 : (wm).cell? ⟨wj.heap.size, 6, none⟩ = some (.int .i64 0) := (HM.blk 6 rfl).cell 6
          have nwf6 : (wm).frozen? ⟨wj.heap.size, 6, none⟩ = false := (HM.blk 6 rfl).frozen 6
          have nwlt : wj.heap.size < (wm).heap.size := HM.lt 6 rfl
          have ne_om_tk : wb.heap.size ≠ wc.heap.size := HM.ne 3 5 rfl rfl (by decide)
          have ne_om_nw : wb.heap.size ≠ wj.heap.size := HM.ne 3 6 rfl rfl (by decide)
          have ne_tk_om : wc.heap.size ≠ wb.heap.size := HM.ne 5 3 rfl rfl (by decide)
          have ne_tk_nw : wc.heap.size ≠ wj.heap.size := HM.ne 5 6 rfl rfl (by decide)
          have ne_nw_om : wj.heap.size ≠ wb.heap.size := HM.ne 6 3 rfl rfl (by decide)
          have ne_nw_tk : wj.heap.size ≠ wc.heap.size := HM.ne 6 5 rfl rfl (by decide)
          have hwz := HW.out
          clear hKz hbm ho3 hWn
          go_wp2
          go_ret
          exact ⟨rfl, HM.below⟩
end Go.Proofs.YtopnlkhepjbjkaaDoor

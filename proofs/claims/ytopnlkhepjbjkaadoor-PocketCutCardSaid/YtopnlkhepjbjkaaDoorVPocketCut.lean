/- The walk of the law PocketCut. -/
import Derived.Test.YtopnlkhepjbjkaaDoorG35
import Derived.Test.YtopnlkhepjbjkaaDoorG3
namespace Go.Proofs.YtopnlkhepjbjkaaDoor
open Go.RowKit
set_option linter.unusedVariables false
set_option maxRecDepth 100000 in
set_option maxHeartbeats 8000000 in
theorem walk_pocketCut (w : World) (a0 : Int) (w0 : (Lit.int .i64 a0).wf = true) (a1 : Value) (w1 : Fit Tryd.prog w 43 a1) (a2 : Value) (w2 : Fit Tryd.prog w 45 a2) (a3 : Bool) (a4 : Int) (w4 : (Lit.int .i64 a4).wf = true) :
    Calls Tryd.prog 4 #[.int .i64 a0, a1, a2, .bool a3, .int .i64 a4] w fun e w' => e = .returned (.bool true) ∧ Below w.heap.size w w' := by
  obtain ⟨me, hme, m1⟩ := pk_nat a0 50 (by omega)
  obtain ⟨n, f, hR⟩ := w1.rows Tryd.underlying43 (ks := [.i64, .i64, .i64, .i64]) (by kernel_rfl) (by decide) (by kernel_rfl)
  obtain ⟨f0, f1, f2, f3, rfl, y0, y1, y2, y3⟩ := raw_fits w2
  obtain ⟨cls, hcls, hc4⟩ := pk_nat f0 4 (by omega)
  have hP := fun W h => pocketAt_ok me n f a1 W m1 h
  clear w1 w2
  have HM := Mem.init w
  go_enter Tryd.func4, Tryd.ntmps4
  go_wp2_with fail
  obtain ⟨W0, hW0⟩ : ∃ W0, (w).alloc (.cells #[.int .i64 f0, .int .i64 f1, .int .i64 f2, .int .i64 f3] 45) = W0 := ⟨_, rfl⟩
  replace HM : Mem (w) [] _ [.blk (w.heap.size) 45 #[.int .i64 f0, .int .i64 f1, .int .i64 f2, .int .i64 f3]] := Mem.alloc HM (w.heap.size) (by first | (simp; done) | (simp; omega)) #[.int .i64 f0, .int .i64 f1, .int .i64 f2, .int .i64 f3] 45
  rw [hW0] at HM ⊢
  have hR0 : IsRows W0 a1 [.i64, .i64, .i64, .i64] n f := by rw [← hW0]; exact hR.below (below_a1 _ _)
  clear hW0 hR
  refine (picked_is _ hme w0 (by omega) (by omega)).mono ?_
  rintro e w9 ⟨rfl, rfl⟩
  go_wp2_with fail
  refine (hP _ hR0).mono ?_
  rintro e wa ⟨x, C, l, A, c, rev, cr, H, b, bad, lock, s, rfl, hx, hS, hb, hm, hO, hl, hPth, hown, hba⟩
  replace HM : Mem (w) [] (wa) [.blk (w.heap.size) 45 #[.int .i64 f0, .int .i64 f1, .int .i64 f2, .int .i64 f3], .row (W0.heap.size) (116) (4) (.slice A l.length c) (l.length) (prs l)] := Mem.row HM hba hown (Nat.le_refl _)
  obtain ⟨b1, b2, b3, b4, b5, b6, b7⟩ := may_bounds hb hm
  have hBt := fun W h => boot_ok x C me rev cr H b bad lock s W h hS hb hm
  have hSd := fun W h => vsoldV_ok (.slice A l.length c) l me rev (cr : Int) (H : Int) (b : Int) (bad : Int) (lock : Int) f0 f1 f2 f3 cls W h hO (by omega) b1 b2 y0 y1 y2 y3 hcls
  clear hP hR0 hba hown hPth hl b1 b2 b3 b4 b5 b6 b7 y0 y1 y2 y3 hcls hc4
  go_wp2_with fail
  obtain ⟨W1, hW1⟩ : ∃ W1, (wa).alloc (.cells #[.slice A l.length c] 33) = W1 := ⟨_, rfl⟩
  replace HM : Mem (w) [] _ [.blk (w.heap.size) 45 #[.int .i64 f0, .int .i64 f1, .int .i64 f2, .int .i64 f3], .row (W0.heap.size) (116) (4) (.slice A l.length c) (l.length) (prs l), .blk (wa.heap.size) 33 #[.slice A l.length c]] := Mem.alloc HM (wa.heap.size) (by first | (simp; done) | (simp; omega)) #[.slice A l.length c] 33
  rw [hW1] at HM ⊢
  replace hx : IsWs W1 x C := by rw [← hW1]; exact hx.below (below_a1 _ _)
  clear hW1
  refine (hBt _ hx).mono ?_
  rintro e wb ⟨rfl, hbb⟩
  replace hx := hx.below hbb
  replace HM : Mem (w) [] (wb) [.blk (w.heap.size) 45 #[.int .i64 f0, .int .i64 f1, .int .i64 f2, .int .i64 f3], .row (W0.heap.size) (116) (4) (.slice A l.length c) (l.length) (prs l), .blk (wa.heap.size) 33 #[.slice A l.length c]] := Mem.call HM hbb
  clear hbb hBt
  have oo0 : (wb).cell? ⟨wa.heap.size, 0, none⟩ = some (.slice A l.length c) := (HM.blk 2 rfl).cell 0
  have oof0 : (wb).frozen? ⟨wa.heap.size, 0, none⟩ = false := (HM.blk 2 rfl).frozen 0
  have oolt : wa.heap.size < (wb).heap.size := HM.lt 2 rfl
  have rx0 : (wb).cell? ⟨w.heap.size, 0, none⟩ = some (.int .i64 f0) := (HM.blk 0 rfl).cell 0
  have rxf0 : (wb).frozen? ⟨w.heap.size, 0, none⟩ = false := (HM.blk 0 rfl).frozen 0
  have rx1 : (wb).cell? ⟨w.heap.size, 1, none⟩ = some (.int .i64 f1) := (HM.blk 0 rfl).cell 1
  have rxf1 : (wb).frozen? ⟨w.heap.size, 1, none⟩ = false := (HM.blk 0 rfl).frozen 1
  have rx2 : (wb).cell? ⟨w.heap.size, 2, none⟩ = some (.int .i64 f2) := (HM.blk 0 rfl).cell 2
  have rxf2 : (wb).frozen? ⟨w.heap.size, 2, none⟩ = false := (HM.blk 0 rfl).frozen 2
  have rx3 : (wb).cell? ⟨w.heap.size, 3, none⟩ = some (.int .i64 f3) := (HM.blk 0 rfl).cell 3
  have rxf3 : (wb).frozen? ⟨w.heap.size, 3, none⟩ = false := (HM.blk 0 rfl).frozen 3
  have rxlt : w.heap.size < (wb).heap.size := HM.lt 0 rfl
  have ne_oo_rx : wa.heap.size ≠ w.heap.size := HM.ne 2 0 rfl rfl (by decide)
  have ne_rx_oo : w.heap.size ≠ wa.heap.size := HM.ne 0 2 rfl rfl (by decide)
  go_wp2_with fail
  obtain ⟨W2, hW2⟩ : ∃ W2, (wb).alloc (.cells #[.int .i64 (me : Int), .int .i64 (rev : Int), .int .i64 (cr : Int), .int .i64 (H : Int), .int .u64 (b : Int), .int .i64 (bad : Int), .int .i64 (lock : Int)] 39) = W2 := ⟨_, rfl⟩
  replace HM : Mem (w) [] _ [.blk (w.heap.size) 45 #[.int .i64 f0, .int .i64 f1, .int .i64 f2, .int .i64 f3], .row (W0.heap.size) (116) (4) (.slice A l.length c) (l.length) (prs l), .blk (wa.heap.size) 33 #[.slice A l.length c], .blk (wb.heap.size) 39 #[.int .i64 (me : Int), .int .i64 (rev : Int), .int .i64 (cr : Int), .int .i64 (H : Int), .int .u64 (b : Int), .int .i64 (bad : Int), .int .i64 (lock : Int)]] := Mem.alloc HM (wb.heap.size) (by first | (simp; done) | (simp; omega)) #[.int .i64 (me : Int), .int .i64 (rev : Int), .int .i64 (cr : Int), .int .i64 (H : Int), .int .u64 (b : Int), .int .i64 (bad : Int), .int .i64 (lock : Int)] 39
  rw [hW2] at HM ⊢
  replace hx : IsWs W2 x C := by rw [← hW2]; exact hx.below (below_a1 _ _)
  have ho := isps_own (l := l) rfl (ook_wf hO) (HM.own_ 1 rfl)
  clear hW2
  refine (hSd _ ho).mono ?_
  rintro e w3 ⟨id, am, tag, t2, l2, A2, c2, rfl, hk3, hiL, hiT, hO2, hown2, hmv, hbc⟩
  replace hx := hx.below hbc
  replace HM : Mem (w) [] (w3) [.blk (w.heap.size) 45 #[.int .i64 f0, .int .i64 f1, .int .i64 f2, .int .i64 f3], .row (W0.heap.size) (116) (4) (.slice A l.length c) (l.length) (prs l), .blk (wa.heap.size) 33 #[.slice A l.length c], .blk (wb.heap.size) 39 #[.int .i64 (me : Int), .int .i64 (rev : Int), .int .i64 (cr : Int), .int .i64 (H : Int), .int .u64 (b : Int), .int .i64 (bad : Int), .int .i64 (lock : Int)], .row (W2.heap.size) (116) (4) (.slice A2 l2.length c2) (l2.length) (prs l2)] := Mem.row HM hbc hown2 (Nat.le_refl _)
  clear oo0 oof0 oolt rx0 rxf0 rx1 rxf1 rx2 rxf2 rx3 rxf3 rxlt ne_oo_rx ne_rx_oo
  have oo0 : (w3).cell? ⟨wa.heap.size, 0, none⟩ = some (.slice A l.length c) := (HM.blk 2 rfl).cell 0
  have oof0 : (w3).frozen? ⟨wa.heap.size, 0, none⟩ = false := (HM.blk 2 rfl).frozen 0
  have oolt : wa.heap.size < (w3).heap.size := HM.lt 2 rfl
  clear hSd ho hbc hown2 hiL hiT hmv hO
  have hCl : 0 < C.length := by have := hS.len; omega
  have hoo := HM.blk 2 rfl
  go_upto_if 53 with fail
  obtain ⟨Wc2, hWc2⟩ : ∃ Wc2, ((w3).setCell ⟨wa.heap.size, 0, none⟩ (.slice A2 l2.length c2)).alloc (.cells #[.int .i64 (cls : Int), .int .i64 (id : Int), .int .i64 (am : Int), .int .i64 (t2 : Int)] 48) = Wc2 := ⟨_, rfl⟩
  replace HM : Mem (w) [] _ [.blk (w.heap.size) 45 #[.int .i64 f0, .int .i64 f1, .int .i64 f2, .int .i64 f3], .row (W0.heap.size) (116) (4) (.slice A l.length c) (l.length) (prs l), .blk (wa.heap.size) 33 #[.slice A2 l2.length c2], .blk (wb.heap.size) 39 #[.int .i64 (me : Int), .int .i64 (rev : Int), .int .i64 (cr : Int), .int .i64 (H : Int), .int .u64 (b : Int), .int .i64 (bad : Int), .int .i64 (lock : Int)], .row (W2.heap.size) (116) (4) (.slice A2 l2.length c2) (l2.length) (prs l2)] := Mem.set 2 HM rfl 0 (.slice A2 l2.length c2)
  replace HM : Mem (w) [] _ [.blk (w.heap.size) 45 #[.int .i64 f0, .int .i64 f1, .int .i64 f2, .int .i64 f3], .row (W0.heap.size) (116) (4) (.slice A l.length c) (l.length) (prs l), .blk (wa.heap.size) 33 #[.slice A2 l2.length c2], .blk (wb.heap.size) 39 #[.int .i64 (me : Int), .int .i64 (rev : Int), .int .i64 (cr : Int), .int .i64 (H : Int), .int .u64 (b : Int), .int .i64 (bad : Int), .int .i64 (lock : Int)], .row (W2.heap.size) (116) (4) (.slice A2 l2.length c2) (l2.length) (prs l2), .blk (w3.heap.size) 48 #[.int .i64 (cls : Int), .int .i64 (id : Int), .int .i64 (am : Int), .int .i64 (t2 : Int)]] := Mem.alloc HM (w3.heap.size) (by first | (simp; done) | (simp; omega)) #[.int .i64 (cls : Int), .int .i64 (id : Int), .int .i64 (am : Int), .int .i64 (t2 : Int)] 48
  rw [hWc2] at HM ⊢
  have hx2 : IsWs Wc2 x C := by rw [← hWc2]; exact (isws_set hx hoo hCl (by intro i u hu z e; subst e; rcases i with _ | i <;> simp at hu) 0 _).below (below_a1 _ _)
  clear hWc2 hx hoo
  clear oo0 oof0 oolt
  have tk0 : (Wc2).cell? ⟨w3.heap.size, 0, none⟩ = some (.int .i64 (cls : Int)) := (HM.blk 5 rfl).cell 0
  have tkf0 : (Wc2).frozen? ⟨w3.heap.size, 0, none⟩ = false := (HM.blk 5 rfl).frozen 0
  have tk1 : (Wc2).cell? ⟨w3.heap.size, 1, none⟩ = some (.int .i64 (id : Int)) := (HM.blk 5 rfl).cell 1
  have tkf1 : (Wc2).frozen? ⟨w3.heap.size, 1, none⟩ = false := (HM.blk 5 rfl).frozen 1
  have tk2 : (Wc2).cell? ⟨w3.heap.size, 2, none⟩ = some (.int .i64 (am : Int)) := (HM.blk 5 rfl).cell 2
  have tkf2 : (Wc2).frozen? ⟨w3.heap.size, 2, none⟩ = false := (HM.blk 5 rfl).frozen 2
  have tk3 : (Wc2).cell? ⟨w3.heap.size, 3, none⟩ = some (.int .i64 (t2 : Int)) := (HM.blk 5 rfl).cell 3
  have tkf3 : (Wc2).frozen? ⟨w3.heap.size, 3, none⟩ = false := (HM.blk 5 rfl).frozen 3
  have tklt : w3.heap.size < (Wc2).heap.size := HM.lt 5 rfl
  obtain ⟨k1, k2, k3, k4, k5⟩ := hk3
  go_cut [] (fun wx => ∃ t3 : Nat, t3 ≤ 65535 ∧ IsWs wx x C ∧ Mem (w) [] (wx) [.blk (w.heap.size) 45 #[.int .i64 f0, .int .i64 f1, .int .i64 f2, .int .i64 f3], .row (W0.heap.size) (116) (4) (.slice A l.length c) (l.length) (prs l), .blk (wa.heap.size) 33 #[.slice A2 l2.length c2], .blk (wb.heap.size) 39 #[.int .i64 (me : Int), .int .i64 (rev : Int), .int .i64 (cr : Int), .int .i64 (H : Int), .int .u64 (b : Int), .int .i64 (bad : Int), .int .i64 (lock : Int)], .row (W2.heap.size) (116) (4) (.slice A2 l2.length c2) (l2.length) (prs l2), .blk (w3.heap.size) 48 #[.int .i64 (cls : Int), .int .i64 (id : Int), .int .i64 (am : Int), .int .i64 (t3 : Int)]])
  case first =>

    obtain ⟨t4, ht4⟩ : ∃ t4 : Nat, ((t2 : Int) + 1).tmod 65536 = (t4 : Int) := ⟨(t2 + 1) % 65536, by rw [Int.tmod_eq_emod_of_nonneg (by omega)]; omega⟩
    have ht5 : t4 ≤ 65535 := by rw [Int.tmod_eq_emod_of_nonneg (by omega)] at ht4; omega
    have htk := HM.blk 5 rfl
    cases a3
    · go_wp2_with fail
      go_meet
      exact ⟨t2, k5, hx2, HM⟩
    · go_wp2_with fail
      go_meet
      obtain ⟨Wt, hWt⟩ : ∃ Wt, (Wc2).setCell ⟨w3.heap.size, 3, none⟩ (.int .i64 (t4 : Int)) = Wt := ⟨_, rfl⟩
      replace HM : Mem (w) [] _ [.blk (w.heap.size) 45 #[.int .i64 f0, .int .i64 f1, .int .i64 f2, .int .i64 f3], .row (W0.heap.size) (116) (4) (.slice A l.length c) (l.length) (prs l), .blk (wa.heap.size) 33 #[.slice A2 l2.length c2], .blk (wb.heap.size) 39 #[.int .i64 (me : Int), .int .i64 (rev : Int), .int .i64 (cr : Int), .int .i64 (H : Int), .int .u64 (b : Int), .int .i64 (bad : Int), .int .i64 (lock : Int)], .row (W2.heap.size) (116) (4) (.slice A2 l2.length c2) (l2.length) (prs l2), .blk (w3.heap.size) 48 #[.int .i64 (cls : Int), .int .i64 (id : Int), .int .i64 (am : Int), .int .i64 (t4 : Int)]] := Mem.set 5 HM rfl 3 (.int .i64 (t4 : Int))
      rw [hWt] at HM ⊢
      exact ⟨t4, ht5, (by rw [← hWt]; exact isws_set hx2 htk hCl (by intro i u hu z e; subst e; rcases i with _ | _ | _ | _ | i <;> simp at hu) 3 _), HM⟩
  case rest =>
    skip
    obtain ⟨t3, h3, hx, HM⟩ := hcut
    have hk4 : TkOk cls id am t3 := ⟨k1, k2, k3, k4, h3⟩
    clear hx2 k1 k2 k3 k4 k5 h3

    clear tk0 tkf0 tk1 tkf1 tk2 tkf2 tk3 tkf3 tklt
    have tk0 : (wc).cell? ⟨w3.heap.size, 0, none⟩ = some (.int .i64 (cls : Int)) := (HM.blk 5 rfl).cell 0
    have tkf0 : (wc).frozen? ⟨w3.heap.size, 0, none⟩ = false := (HM.blk 5 rfl).frozen 0
    have tk1 : (wc).cell? ⟨w3.heap.size, 1, none⟩ = some (.int .i64 (id : Int)) := (HM.blk 5 rfl).cell 1
    have tkf1 : (wc).frozen? ⟨w3.heap.size, 1, none⟩ = false := (HM.blk 5 rfl).frozen 1
    have tk2 : (wc).cell? ⟨w3.heap.size, 2, none⟩ = some (.int .i64 (am : Int)) := (HM.blk 5 rfl).cell 2
    have tkf2 : (wc).frozen? ⟨w3.heap.size, 2, none⟩ = false := (HM.blk 5 rfl).frozen 2
    have tk3 : (wc).cell? ⟨w3.heap.size, 3, none⟩ = some (.int .i64 (t3 : Int)) := (HM.blk 5 rfl).cell 3
    have tkf3 : (wc).frozen? ⟨w3.heap.size, 3, none⟩ = false := (HM.blk 5 rfl).frozen 3
    have tklt : w3.heap.size < (wc).heap.size := HM.lt 5 rfl
    have om0 : (wc).cell? ⟨wb.heap.size, 0, none⟩ = some (.int .i64 (me : Int)) := (HM.blk 3 rfl).cell 0
    have omf0 : (wc).frozen? ⟨wb.heap.size, 0, none⟩ = false := (HM.blk 3 rfl).frozen 0
    have om1 : (wc).cell? ⟨wb.heap.size, 1, none⟩ = some (.int .i64 (rev : Int)) := (HM.blk 3 rfl).cell 1
    have omf1 : (wc).frozen? ⟨wb.heap.size, 1, none⟩ = false := (HM.blk 3 rfl).frozen 1
    have om2 : (wc).cell? ⟨wb.heap.size, 2, none⟩ = some (.int .i64 (cr : Int)) := (HM.blk 3 rfl).cell 2
    have omf2 : (wc).frozen? ⟨wb.heap.size, 2, none⟩ = false := (HM.blk 3 rfl).frozen 2
    have om3 : (wc).cell? ⟨wb.heap.size, 3, none⟩ = some (.int .i64 (H : Int)) := (HM.blk 3 rfl).cell 3
    have omf3 : (wc).frozen? ⟨wb.heap.size, 3, none⟩ = false := (HM.blk 3 rfl).frozen 3
    have om4 : (wc).cell? ⟨wb.heap.size, 4, none⟩ = some (.int .u64 (b : Int)) := (HM.blk 3 rfl).cell 4
    have omf4 : (wc).frozen? ⟨wb.heap.size, 4, none⟩ = false := (HM.blk 3 rfl).frozen 4
    have om5 : (wc).cell? ⟨wb.heap.size, 5, none⟩ = some (.int .i64 (bad : Int)) := (HM.blk 3 rfl).cell 5
    have omf5 : (wc).frozen? ⟨wb.heap.size, 5, none⟩ = false := (HM.blk 3 rfl).frozen 5
    have om6 : (wc).cell? ⟨wb.heap.size, 6, none⟩ = some (.int .i64 (lock : Int)) := (HM.blk 3 rfl).cell 6
    have omf6 : (wc).frozen? ⟨wb.heap.size, 6, none⟩ = false := (HM.blk 3 rfl).frozen 6
    have omlt : wb.heap.size < (wc).heap.size := HM.lt 3 rfl
    have oo0 : (wc).cell? ⟨wa.heap.size, 0, none⟩ = some (.slice A2 l2.length c2) := (HM.blk 2 rfl).cell 0
    have oof0 : (wc).frozen? ⟨wa.heap.size, 0, none⟩ = false := (HM.blk 2 rfl).frozen 0
    have oolt : wa.heap.size < (wc).heap.size := HM.lt 2 rfl
    have ne_tk_om : w3.heap.size ≠ wb.heap.size := HM.ne 5 3 rfl rfl (by decide)
    have ne_tk_oo : w3.heap.size ≠ wa.heap.size := HM.ne 5 2 rfl rfl (by decide)
    have ne_om_tk : wb.heap.size ≠ w3.heap.size := HM.ne 3 5 rfl rfl (by decide)
    have ne_om_oo : wb.heap.size ≠ wa.heap.size := HM.ne 3 2 rfl rfl (by decide)
    have ne_oo_tk : wa.heap.size ≠ w3.heap.size := HM.ne 2 5 rfl rfl (by decide)
    have ne_oo_om : wa.heap.size ≠ wb.heap.size := HM.ne 2 3 rfl rfl (by decide)
    obtain ⟨r2, cr2, h2, b2, d2, k2, ad, E, hK, hE⟩ := keyS_eq (l := l2) (me := me) (rev := rev) (cr := cr) (H := H) (B := b) (bad := bad) (lock := lock) (cls := cls) (id := id) (am := am) (tag := t3)
    obtain ⟨hm2, hb2⟩ := keyS_may hb hm hk4 hK
    have hF := fun W => format_ok cls id am t3 W hk4
    have hP := parse_tok cls id am t3 hk4 (tokD cls id am t3) rfl (tokD_len hk4)
    obtain ⟨S, hSS⟩ : ∃ S, dstr (tokD cls id am t3) = S := ⟨_, rfl⟩
    rw [hSS] at hF hP
    have hMk := fun W h => key_ok (.slice A2 l2.length c2) l2 me rev cr H b bad lock cls id am t3 r2 cr2 h2 b2 d2 k2 ad E W h hO2 hb hm hk4 (Lib.hid hK)
    have hKy := fun W h1 h2' => keyed_ok x (.slice A2 l2.length c2) C l2 S me rev cr H b bad lock s cls id am t3 r2 cr2 h2 b2 d2 k2 ad E W h1 h2' hO2 hS hb hm hk4 hP (Lib.hid hK) hE
    unfold RetKeyed at hKy
    obtain ⟨k, hk, hk8⟩ := pk_nat a4 8 (by omega)
    have hm2' := hm2
    have hb2' := hb2
    have HO := Lib.hid hO2
    clear hP hK hE hSS hk4 hO2
    go_wp2_with fail
    refine (hF _).mono ?_
    rintro e wf ⟨rfl, hbf⟩
    replace hx := hx.below hbf
    replace HM : Mem (w) [] (wf) [.blk (w.heap.size) 45 #[.int .i64 f0, .int .i64 f1, .int .i64 f2, .int .i64 f3], .row (W0.heap.size) (116) (4) (.slice A l.length c) (l.length) (prs l), .blk (wa.heap.size) 33 #[.slice A2 l2.length c2], .blk (wb.heap.size) 39 #[.int .i64 (me : Int), .int .i64 (rev : Int), .int .i64 (cr : Int), .int .i64 (H : Int), .int .u64 (b : Int), .int .i64 (bad : Int), .int .i64 (lock : Int)], .row (W2.heap.size) (116) (4) (.slice A2 l2.length c2) (l2.length) (prs l2), .blk (w3.heap.size) 48 #[.int .i64 (cls : Int), .int .i64 (id : Int), .int .i64 (am : Int), .int .i64 (t3 : Int)]] := Mem.call HM hbf
    clear tk0 tkf0 tk1 tkf1 tk2 tkf2 tk3 tkf3 tklt om0 omf0 om1 omf1 om2 omf2 om3 omf3 om4 omf4 om5 omf5 om6 omf6 omlt oo0 oof0 oolt ne_tk_om ne_tk_oo ne_om_tk ne_om_oo ne_oo_tk ne_oo_om
    have tk0 : (wf).cell? ⟨w3.heap.size, 0, none⟩ = some (.int .i64 (cls : Int)) := (HM.blk 5 rfl).cell 0
    have tkf0 : (wf).frozen? ⟨w3.heap.size, 0, none⟩ = false := (HM.blk 5 rfl).frozen 0
    have tk1 : (wf).cell? ⟨w3.heap.size, 1, none⟩ = some (.int .i64 (id : Int)) := (HM.blk 5 rfl).cell 1
    have tkf1 : (wf).frozen? ⟨w3.heap.size, 1, none⟩ = false := (HM.blk 5 rfl).frozen 1
    have tk2 : (wf).cell? ⟨w3.heap.size, 2, none⟩ = some (.int .i64 (am : Int)) := (HM.blk 5 rfl).cell 2
    have tkf2 : (wf).frozen? ⟨w3.heap.size, 2, none⟩ = false := (HM.blk 5 rfl).frozen 2
    have tk3 : (wf).cell? ⟨w3.heap.size, 3, none⟩ = some (.int .i64 (t3 : Int)) := (HM.blk 5 rfl).cell 3
    have tkf3 : (wf).frozen? ⟨w3.heap.size, 3, none⟩ = false := (HM.blk 5 rfl).frozen 3
    have tklt : w3.heap.size < (wf).heap.size := HM.lt 5 rfl
    have om0 : (wf).cell? ⟨wb.heap.size, 0, none⟩ = some (.int .i64 (me : Int)) := (HM.blk 3 rfl).cell 0
    have omf0 : (wf).frozen? ⟨wb.heap.size, 0, none⟩ = false := (HM.blk 3 rfl).frozen 0
    have om1 : (wf).cell? ⟨wb.heap.size, 1, none⟩ = some (.int .i64 (rev : Int)) := (HM.blk 3 rfl).cell 1
    have omf1 : (wf).frozen? ⟨wb.heap.size, 1, none⟩ = false := (HM.blk 3 rfl).frozen 1
    have om2 : (wf).cell? ⟨wb.heap.size, 2, none⟩ = some (.int .i64 (cr : Int)) := (HM.blk 3 rfl).cell 2
    have omf2 : (wf).frozen? ⟨wb.heap.size, 2, none⟩ = false := (HM.blk 3 rfl).frozen 2
    have om3 : (wf).cell? ⟨wb.heap.size, 3, none⟩ = some (.int .i64 (H : Int)) := (HM.blk 3 rfl).cell 3
    have omf3 : (wf).frozen? ⟨wb.heap.size, 3, none⟩ = false := (HM.blk 3 rfl).frozen 3
    have om4 : (wf).cell? ⟨wb.heap.size, 4, none⟩ = some (.int .u64 (b : Int)) := (HM.blk 3 rfl).cell 4
    have omf4 : (wf).frozen? ⟨wb.heap.size, 4, none⟩ = false := (HM.blk 3 rfl).frozen 4
    have om5 : (wf).cell? ⟨wb.heap.size, 5, none⟩ = some (.int .i64 (bad : Int)) := (HM.blk 3 rfl).cell 5
    have omf5 : (wf).frozen? ⟨wb.heap.size, 5, none⟩ = false := (HM.blk 3 rfl).frozen 5
    have om6 : (wf).cell? ⟨wb.heap.size, 6, none⟩ = some (.int .i64 (lock : Int)) := (HM.blk 3 rfl).cell 6
    have omf6 : (wf).frozen? ⟨wb.heap.size, 6, none⟩ = false := (HM.blk 3 rfl).frozen 6
    have omlt : wb.heap.size < (wf).heap.size := HM.lt 3 rfl
    have oo0 : (wf).cell? ⟨wa.heap.size, 0, none⟩ = some (.slice A2 l2.length c2) := (HM.blk 2 rfl).cell 0
    have oof0 : (wf).frozen? ⟨wa.heap.size, 0, none⟩ = false := (HM.blk 2 rfl).frozen 0
    have oolt : wa.heap.size < (wf).heap.size := HM.lt 2 rfl
    have ne_tk_om : w3.heap.size ≠ wb.heap.size := HM.ne 5 3 rfl rfl (by decide)
    have ne_tk_oo : w3.heap.size ≠ wa.heap.size := HM.ne 5 2 rfl rfl (by decide)
    have ne_om_tk : wb.heap.size ≠ w3.heap.size := HM.ne 3 5 rfl rfl (by decide)
    have ne_om_oo : wb.heap.size ≠ wa.heap.size := HM.ne 3 2 rfl rfl (by decide)
    have ne_oo_tk : wa.heap.size ≠ w3.heap.size := HM.ne 2 5 rfl rfl (by decide)
    have ne_oo_om : wa.heap.size ≠ wb.heap.size := HM.ne 2 3 rfl rfl (by decide)
    clear hF hbf
    have ho2 := isps_own (l := l2) rfl (ook_wf HO.out) (HM.own_ 4 rfl)
    go_wp2_with fail
    refine (hMk _ ho2).mono ?_
    rintro e wg ⟨rfl, hbg⟩
    replace hx := hx.below hbg
    replace HM : Mem (w) [] (wg) [.blk (w.heap.size) 45 #[.int .i64 f0, .int .i64 f1, .int .i64 f2, .int .i64 f3], .row (W0.heap.size) (116) (4) (.slice A l.length c) (l.length) (prs l), .blk (wa.heap.size) 33 #[.slice A2 l2.length c2], .blk (wb.heap.size) 39 #[.int .i64 (me : Int), .int .i64 (rev : Int), .int .i64 (cr : Int), .int .i64 (H : Int), .int .u64 (b : Int), .int .i64 (bad : Int), .int .i64 (lock : Int)], .row (W2.heap.size) (116) (4) (.slice A2 l2.length c2) (l2.length) (prs l2), .blk (w3.heap.size) 48 #[.int .i64 (cls : Int), .int .i64 (id : Int), .int .i64 (am : Int), .int .i64 (t3 : Int)]] := Mem.call HM hbg
    clear tk0 tkf0 tk1 tkf1 tk2 tkf2 tk3 tkf3 tklt om0 omf0 om1 omf1 om2 omf2 om3 omf3 om4 omf4 om5 omf5 om6 omf6 omlt oo0 oof0 oolt ne_tk_om ne_tk_oo ne_om_tk ne_om_oo ne_oo_tk ne_oo_om
    have om0 : (wg).cell? ⟨wb.heap.size, 0, none⟩ = some (.int .i64 (me : Int)) := (HM.blk 3 rfl).cell 0
    have omf0 : (wg).frozen? ⟨wb.heap.size, 0, none⟩ = false := (HM.blk 3 rfl).frozen 0
    have om1 : (wg).cell? ⟨wb.heap.size, 1, none⟩ = some (.int .i64 (rev : Int)) := (HM.blk 3 rfl).cell 1
    have omf1 : (wg).frozen? ⟨wb.heap.size, 1, none⟩ = false := (HM.blk 3 rfl).frozen 1
    have om2 : (wg).cell? ⟨wb.heap.size, 2, none⟩ = some (.int .i64 (cr : Int)) := (HM.blk 3 rfl).cell 2
    have omf2 : (wg).frozen? ⟨wb.heap.size, 2, none⟩ = false := (HM.blk 3 rfl).frozen 2
    have om3 : (wg).cell? ⟨wb.heap.size, 3, none⟩ = some (.int .i64 (H : Int)) := (HM.blk 3 rfl).cell 3
    have omf3 : (wg).frozen? ⟨wb.heap.size, 3, none⟩ = false := (HM.blk 3 rfl).frozen 3
    have om4 : (wg).cell? ⟨wb.heap.size, 4, none⟩ = some (.int .u64 (b : Int)) := (HM.blk 3 rfl).cell 4
    have omf4 : (wg).frozen? ⟨wb.heap.size, 4, none⟩ = false := (HM.blk 3 rfl).frozen 4
    have om5 : (wg).cell? ⟨wb.heap.size, 5, none⟩ = some (.int .i64 (bad : Int)) := (HM.blk 3 rfl).cell 5
    have omf5 : (wg).frozen? ⟨wb.heap.size, 5, none⟩ = false := (HM.blk 3 rfl).frozen 5
    have om6 : (wg).cell? ⟨wb.heap.size, 6, none⟩ = some (.int .i64 (lock : Int)) := (HM.blk 3 rfl).cell 6
    have omf6 : (wg).frozen? ⟨wb.heap.size, 6, none⟩ = false := (HM.blk 3 rfl).frozen 6
    have omlt : wb.heap.size < (wg).heap.size := HM.lt 3 rfl
    have oo0 : (wg).cell? ⟨wa.heap.size, 0, none⟩ = some (.slice A2 l2.length c2) := (HM.blk 2 rfl).cell 0
    have oof0 : (wg).frozen? ⟨wa.heap.size, 0, none⟩ = false := (HM.blk 2 rfl).frozen 0
    have oolt : wa.heap.size < (wg).heap.size := HM.lt 2 rfl
    have ne_om_oo : wb.heap.size ≠ wa.heap.size := HM.ne 3 2 rfl rfl (by decide)
    have ne_oo_om : wa.heap.size ≠ wb.heap.size := HM.ne 2 3 rfl rfl (by decide)
    clear hMk hbg ho2
    go_wp2_with fail
    obtain ⟨Wh, hWh⟩ : ∃ Wh, (wg).alloc (.cells #[.int .i64 (me : Int), .int .i64 (r2 : Int), .int .i64 (cr2 : Int), .int .i64 (h2 : Int), .int .u64 (b2 : Int), .int .i64 (d2 : Int), .int .i64 (k2 : Int)] 39) = Wh := ⟨_, rfl⟩
    replace HM : Mem (w) [] _ [.blk (w.heap.size) 45 #[.int .i64 f0, .int .i64 f1, .int .i64 f2, .int .i64 f3], .row (W0.heap.size) (116) (4) (.slice A l.length c) (l.length) (prs l), .blk (wa.heap.size) 33 #[.slice A2 l2.length c2], .blk (wb.heap.size) 39 #[.int .i64 (me : Int), .int .i64 (rev : Int), .int .i64 (cr : Int), .int .i64 (H : Int), .int .u64 (b : Int), .int .i64 (bad : Int), .int .i64 (lock : Int)], .row (W2.heap.size) (116) (4) (.slice A2 l2.length c2) (l2.length) (prs l2), .blk (w3.heap.size) 48 #[.int .i64 (cls : Int), .int .i64 (id : Int), .int .i64 (am : Int), .int .i64 (t3 : Int)], .blk (wg.heap.size) 39 #[.int .i64 (me : Int), .int .i64 (r2 : Int), .int .i64 (cr2 : Int), .int .i64 (h2 : Int), .int .u64 (b2 : Int), .int .i64 (d2 : Int), .int .i64 (k2 : Int)]] := Mem.alloc HM (wg.heap.size) (by first | (simp; done) | (simp; omega)) #[.int .i64 (me : Int), .int .i64 (r2 : Int), .int .i64 (cr2 : Int), .int .i64 (h2 : Int), .int .u64 (b2 : Int), .int .i64 (d2 : Int), .int .i64 (k2 : Int)] 39
    rw [hWh] at HM ⊢
    replace hx : IsWs Wh x C := by rw [← hWh]; exact hx.below (below_a1 _ _)
    clear hWh
    have ho2 := isps_own (l := l2) rfl (ook_wf HO.out) (HM.own_ 4 rfl)
    refine (hKy _ hx ho2).mono ?_
    rintro e wk ⟨u, rfl, hu, hbk⟩
    replace hx := hx.below hbk
    replace HM : Mem (w) [] (wk) [.blk (w.heap.size) 45 #[.int .i64 f0, .int .i64 f1, .int .i64 f2, .int .i64 f3], .row (W0.heap.size) (116) (4) (.slice A l.length c) (l.length) (prs l), .blk (wa.heap.size) 33 #[.slice A2 l2.length c2], .blk (wb.heap.size) 39 #[.int .i64 (me : Int), .int .i64 (rev : Int), .int .i64 (cr : Int), .int .i64 (H : Int), .int .u64 (b : Int), .int .i64 (bad : Int), .int .i64 (lock : Int)], .row (W2.heap.size) (116) (4) (.slice A2 l2.length c2) (l2.length) (prs l2), .blk (w3.heap.size) 48 #[.int .i64 (cls : Int), .int .i64 (id : Int), .int .i64 (am : Int), .int .i64 (t3 : Int)], .blk (wg.heap.size) 39 #[.int .i64 (me : Int), .int .i64 (r2 : Int), .int .i64 (cr2 : Int), .int .i64 (h2 : Int), .int .u64 (b2 : Int), .int .i64 (d2 : Int), .int .i64 (k2 : Int)]] := Mem.call HM hbk
    clear om0 omf0 om1 omf1 om2 omf2 om3 omf3 om4 omf4 om5 omf5 om6 omf6 omlt oo0 oof0 oolt ne_om_oo ne_oo_om
    have om0 : (wk).cell? ⟨wb.heap.size, 0, none⟩ = some (.int .i64 (me : Int)) := (HM.blk 3 rfl).cell 0
    have omf0 : (wk).frozen? ⟨wb.heap.size, 0, none⟩ = false := (HM.blk 3 rfl).frozen 0
    have om1 : (wk).cell? ⟨wb.heap.size, 1, none⟩ = some (.int .i64 (rev : Int)) := (HM.blk 3 rfl).cell 1
    have omf1 : (wk).frozen? ⟨wb.heap.size, 1, none⟩ = false := (HM.blk 3 rfl).frozen 1
    have om2 : (wk).cell? ⟨wb.heap.size, 2, none⟩ = some (.int .i64 (cr : Int)) := (HM.blk 3 rfl).cell 2
    have omf2 : (wk).frozen? ⟨wb.heap.size, 2, none⟩ = false := (HM.blk 3 rfl).frozen 2
    have om3 : (wk).cell? ⟨wb.heap.size, 3, none⟩ = some (.int .i64 (H : Int)) := (HM.blk 3 rfl).cell 3
    have omf3 : (wk).frozen? ⟨wb.heap.size, 3, none⟩ = false := (HM.blk 3 rfl).frozen 3
    have om4 : (wk).cell? ⟨wb.heap.size, 4, none⟩ = some (.int .u64 (b : Int)) := (HM.blk 3 rfl).cell 4
    have omf4 : (wk).frozen? ⟨wb.heap.size, 4, none⟩ = false := (HM.blk 3 rfl).frozen 4
    have om5 : (wk).cell? ⟨wb.heap.size, 5, none⟩ = some (.int .i64 (bad : Int)) := (HM.blk 3 rfl).cell 5
    have omf5 : (wk).frozen? ⟨wb.heap.size, 5, none⟩ = false := (HM.blk 3 rfl).frozen 5
    have om6 : (wk).cell? ⟨wb.heap.size, 6, none⟩ = some (.int .i64 (lock : Int)) := (HM.blk 3 rfl).cell 6
    have omf6 : (wk).frozen? ⟨wb.heap.size, 6, none⟩ = false := (HM.blk 3 rfl).frozen 6
    have omlt : wb.heap.size < (wk).heap.size := HM.lt 3 rfl
    have nx0 : (wk).cell? ⟨wg.heap.size, 0, none⟩ = some (.int .i64 (me : Int)) := (HM.blk 6 rfl).cell 0
    have nxf0 : (wk).frozen? ⟨wg.heap.size, 0, none⟩ = false := (HM.blk 6 rfl).frozen 0
    have nx1 : (wk).cell? ⟨wg.heap.size, 1, none⟩ = some (.int .i64 (r2 : Int)) := (HM.blk 6 rfl).cell 1
    have nxf1 : (wk).frozen? ⟨wg.heap.size, 1, none⟩ = false := (HM.blk 6 rfl).frozen 1
    have nx2 : (wk).cell? ⟨wg.heap.size, 2, none⟩ = some (.int .i64 (cr2 : Int)) := (HM.blk 6 rfl).cell 2
    have nxf2 : (wk).frozen? ⟨wg.heap.size, 2, none⟩ = false := (HM.blk 6 rfl).frozen 2
    have nx3 : (wk).cell? ⟨wg.heap.size, 3, none⟩ = some (.int .i64 (h2 : Int)) := (HM.blk 6 rfl).cell 3
    have nxf3 : (wk).frozen? ⟨wg.heap.size, 3, none⟩ = false := (HM.blk 6 rfl).frozen 3
    have nx4 : (wk).cell? ⟨wg.heap.size, 4, none⟩ = some (.int .u64 (b2 : Int)) := (HM.blk 6 rfl).cell 4
    have nxf4 : (wk).frozen? ⟨wg.heap.size, 4, none⟩ = false := (HM.blk 6 rfl).frozen 4
    have nx5 : (wk).cell? ⟨wg.heap.size, 5, none⟩ = some (.int .i64 (d2 : Int)) := (HM.blk 6 rfl).cell 5
    have nxf5 : (wk).frozen? ⟨wg.heap.size, 5, none⟩ = false := (HM.blk 6 rfl).frozen 5
    have nx6 : (wk).cell? ⟨wg.heap.size, 6, none⟩ = some (.int .i64 (k2 : Int)) := (HM.blk 6 rfl).cell 6
    have nxf6 : (wk).frozen? ⟨wg.heap.size, 6, none⟩ = false := (HM.blk 6 rfl).frozen 6
    have nxlt : wg.heap.size < (wk).heap.size := HM.lt 6 rfl
    have ne_om_nx : wb.heap.size ≠ wg.heap.size := HM.ne 3 6 rfl rfl (by decide)
    have ne_nx_om : wg.heap.size ≠ wb.heap.size := HM.ne 6 3 rfl rfl (by decide)
    clear hKy hbk ho2
    have K1 : (1 : Int) ≤ 50 := by omega
    have K2 : (50 : Int) ≤ 9223372036854775807 := by omega

    by_cases hq : rev = r2 ∧ cr = cr2 ∧ H = h2 ∧ b = b2 ∧ bad = d2 ∧ lock = k2
    · have hE := fun W => pmeter_same me rev cr H b bad lock r2 cr2 h2 b2 d2 k2 true (decide_eq_true hq) W
      have hP0 : pkW C s me rev cr H b bad lock r2 cr2 h2 b2 d2 k2 = [] := by unfold pkW; rw [if_pos hq]
      rw [hP0] at hu
      obtain ⟨A3, c3, rfl, _, _, _, _⟩ := hu
      clear hq hP0 hb hm hm2 hb2 hm2' hb2' hS hCl
      go_wp2_with fail
      go_quiet ((go_at_call 8; exact Calls.quiet_of_same ((picked_is _ hme w0 K1 K2).mono fun _ _ h => ⟨h.1, h.2.symm⟩)))
      go_wp2
      go_ret
      exact ⟨rfl, below_draws HM.below _⟩
    · skip
      have hE := fun W => pmeter_same me rev cr H b bad lock r2 cr2 h2 b2 d2 k2 false (decide_eq_false hq) W
      rw [pkW_diff hq] at hu
      obtain ⟨hP1, hP2⟩ := slW_ok hS (mws_len me r2 cr2 h2 b2 d2 k2)
      have hst := sl_store hS (mws_len me r2 cr2 h2 b2 d2 k2)
      obtain ⟨P, hPP⟩ : ∃ P, slW C 5 (mws me r2 cr2 h2 b2 d2 k2) s = P := ⟨_, rfl⟩
      rw [hPP] at hu hP1 hP2 hst
      have hCn := hS.len
      have hA := fun u W h3 h4 => apply_ok x u C P k W h3 h4 (by omega) (by omega) (by omega) hP1 (by omega)
      have hku : k < 7 ∨ k = 7 := by omega
      have hy0 := hu
      obtain ⟨A3, c3, rfl, _, _, _, _⟩ := hu
      rw [hP2] at hy0 ⊢
      have hD : ∃ D, applyW C (P.take k) = D ∧ ((k < 7 ∧ IsSl D 5 (mws me rev cr H b bad lock) s) ∨ (k = 7 ∧ IsSl D 5 (mws me r2 cr2 h2 b2 d2 k2) (1 - s))) := by
        refine ⟨_, rfl, ?_⟩
        rcases hku with h | h
        · exact .inl ⟨h, hst.1 k (by omega)⟩
        · refine .inr ⟨h, ?_⟩
          have e : P.take k = P := List.take_of_length_le (by omega)
          rw [e]; exact hst.2
      obtain ⟨D, hDe, hDs⟩ := hD
      rw [hDe] at hA
      have HY := Lib.hid hy0
      have HD := Lib.hid hDs
      have hEo := fun W => pmeter_same me rev cr H b bad lock rev cr H b bad lock true (by simp) W
      have hEn := fun W => pmeter_same me r2 cr2 h2 b2 d2 k2 r2 cr2 h2 b2 d2 k2 true (by simp) W
      have K5 : (1 : Int) ≤ 8 := by omega
      have K6 : (8 : Int) ≤ 9223372036854775807 := by omega
      clear hy0 hDs hDe hst hPP hP1 hP2 hku hCl hCn hS hk8 hq
      go_wp2_with fail
      go_quiet ((go_at_call 8; exact Calls.quiet_of_same ((picked_is _ hme w0 K1 K2).mono fun _ _ h => ⟨h.1, h.2.symm⟩)))
      obtain ⟨Wq, hWq⟩ : ∃ Wq, (wk).drewN nq = Wq := ⟨_, rfl⟩
      replace HM := HM.drewN nq
      rw [hWq] at HM ⊢
      replace hx : IsWs Wq x C := by rw [← hWq]; exact hx
      have hyq : IsWr Wq (.slice A3 7 c3) P := by rw [← hWq]; exact HY.out
      clear hWq K1 K2 HY hE
      go_wp2_with fail
      refine (picked_is _ hk w4 K5 K6).mono ?_
      rintro e w7 ⟨rfl, rfl⟩
      go_wp2_with fail
      refine (hA _ _ hx hyq).mono ?_
      rintro e we ⟨dv, rfl, hdv, hbe⟩
      replace HM : Mem (w) [] (we) [.blk (w.heap.size) 45 #[.int .i64 f0, .int .i64 f1, .int .i64 f2, .int .i64 f3], .row (W0.heap.size) (116) (4) (.slice A l.length c) (l.length) (prs l), .blk (wa.heap.size) 33 #[.slice A2 l2.length c2], .blk (wb.heap.size) 39 #[.int .i64 (me : Int), .int .i64 (rev : Int), .int .i64 (cr : Int), .int .i64 (H : Int), .int .u64 (b : Int), .int .i64 (bad : Int), .int .i64 (lock : Int)], .row (W2.heap.size) (116) (4) (.slice A2 l2.length c2) (l2.length) (prs l2), .blk (w3.heap.size) 48 #[.int .i64 (cls : Int), .int .i64 (id : Int), .int .i64 (am : Int), .int .i64 (t3 : Int)], .blk (wg.heap.size) 39 #[.int .i64 (me : Int), .int .i64 (r2 : Int), .int .i64 (cr2 : Int), .int .i64 (h2 : Int), .int .u64 (b2 : Int), .int .i64 (d2 : Int), .int .i64 (k2 : Int)]] := Mem.call HM hbe
      clear hA hbe hx hyq hk w4 K5 K6
      clear om0 omf0 om1 omf1 om2 omf2 om3 omf3 om4 omf4 om5 omf5 om6 omf6 omlt nx0 nxf0 nx1 nxf1 nx2 nxf2 nx3 nxf3 nx4 nxf4 nx5 nxf5 nx6 nxf6 nxlt ne_om_nx ne_nx_om

      rcases HD.out with ⟨hk7, hsl⟩ | ⟨rfl, hsl⟩
      · have hB1 := boot_ok dv D me rev cr H b bad lock s we hdv hsl hb hm
        have hk7b : (k : Int) < 7 := by omega
        clear hb hm hm2 hb2 hm2' hb2' hsl HD hk7 hEn
        go_wp2_with fail
        refine hB1.mono ?_
        rintro e wj ⟨rfl, hbj⟩
        replace HM : Mem (w) [] (wj) [.blk (w.heap.size) 45 #[.int .i64 f0, .int .i64 f1, .int .i64 f2, .int .i64 f3], .row (W0.heap.size) (116) (4) (.slice A l.length c) (l.length) (prs l), .blk (wa.heap.size) 33 #[.slice A2 l2.length c2], .blk (wb.heap.size) 39 #[.int .i64 (me : Int), .int .i64 (rev : Int), .int .i64 (cr : Int), .int .i64 (H : Int), .int .u64 (b : Int), .int .i64 (bad : Int), .int .i64 (lock : Int)], .row (W2.heap.size) (116) (4) (.slice A2 l2.length c2) (l2.length) (prs l2), .blk (w3.heap.size) 48 #[.int .i64 (cls : Int), .int .i64 (id : Int), .int .i64 (am : Int), .int .i64 (t3 : Int)], .blk (wg.heap.size) 39 #[.int .i64 (me : Int), .int .i64 (r2 : Int), .int .i64 (cr2 : Int), .int .i64 (h2 : Int), .int .u64 (b2 : Int), .int .i64 (d2 : Int), .int .i64 (k2 : Int)]] := Mem.call HM hbj
        have om0 : (wj).cell? ⟨wb.heap.size, 0, none⟩ = some (.int .i64 (me : Int)) := (HM.blk 3 rfl).cell 0
        have omf0 : (wj).frozen? ⟨wb.heap.size, 0, none⟩ = false := (HM.blk 3 rfl).frozen 0
        have om1 : (wj).cell? ⟨wb.heap.size, 1, none⟩ = some (.int .i64 (rev : Int)) := (HM.blk 3 rfl).cell 1
        have omf1 : (wj).frozen? ⟨wb.heap.size, 1, none⟩ = false := (HM.blk 3 rfl).frozen 1
        have om2 : (wj).cell? ⟨wb.heap.size, 2, none⟩ = some (.int .i64 (cr : Int)) := (HM.blk 3 rfl).cell 2
        have omf2 : (wj).frozen? ⟨wb.heap.size, 2, none⟩ = false := (HM.blk 3 rfl).frozen 2
        have om3 : (wj).cell? ⟨wb.heap.size, 3, none⟩ = some (.int .i64 (H : Int)) := (HM.blk 3 rfl).cell 3
        have omf3 : (wj).frozen? ⟨wb.heap.size, 3, none⟩ = false := (HM.blk 3 rfl).frozen 3
        have om4 : (wj).cell? ⟨wb.heap.size, 4, none⟩ = some (.int .u64 (b : Int)) := (HM.blk 3 rfl).cell 4
        have omf4 : (wj).frozen? ⟨wb.heap.size, 4, none⟩ = false := (HM.blk 3 rfl).frozen 4
        have om5 : (wj).cell? ⟨wb.heap.size, 5, none⟩ = some (.int .i64 (bad : Int)) := (HM.blk 3 rfl).cell 5
        have omf5 : (wj).frozen? ⟨wb.heap.size, 5, none⟩ = false := (HM.blk 3 rfl).frozen 5
        have om6 : (wj).cell? ⟨wb.heap.size, 6, none⟩ = some (.int .i64 (lock : Int)) := (HM.blk 3 rfl).cell 6
        have omf6 : (wj).frozen? ⟨wb.heap.size, 6, none⟩ = false := (HM.blk 3 rfl).frozen 6
        have omlt : wb.heap.size < (wj).heap.size := HM.lt 3 rfl
        have nx0 : (wj).cell? ⟨wg.heap.size, 0, none⟩ = some (.int .i64 (me : Int)) := (HM.blk 6 rfl).cell 0
        have nxf0 : (wj).frozen? ⟨wg.heap.size, 0, none⟩ = false := (HM.blk 6 rfl).frozen 0
        have nx1 : (wj).cell? ⟨wg.heap.size, 1, none⟩ = some (.int .i64 (r2 : Int)) := (HM.blk 6 rfl).cell 1
        have nxf1 : (wj).frozen? ⟨wg.heap.size, 1, none⟩ = false := (HM.blk 6 rfl).frozen 1
        have nx2 : (wj).cell? ⟨wg.heap.size, 2, none⟩ = some (.int .i64 (cr2 : Int)) := (HM.blk 6 rfl).cell 2
        have nxf2 : (wj).frozen? ⟨wg.heap.size, 2, none⟩ = false := (HM.blk 6 rfl).frozen 2
        have nx3 : (wj).cell? ⟨wg.heap.size, 3, none⟩ = some (.int .i64 (h2 : Int)) := (HM.blk 6 rfl).cell 3
        have nxf3 : (wj).frozen? ⟨wg.heap.size, 3, none⟩ = false := (HM.blk 6 rfl).frozen 3
        have nx4 : (wj).cell? ⟨wg.heap.size, 4, none⟩ = some (.int .u64 (b2 : Int)) := (HM.blk 6 rfl).cell 4
        have nxf4 : (wj).frozen? ⟨wg.heap.size, 4, none⟩ = false := (HM.blk 6 rfl).frozen 4
        have nx5 : (wj).cell? ⟨wg.heap.size, 5, none⟩ = some (.int .i64 (d2 : Int)) := (HM.blk 6 rfl).cell 5
        have nxf5 : (wj).frozen? ⟨wg.heap.size, 5, none⟩ = false := (HM.blk 6 rfl).frozen 5
        have nx6 : (wj).cell? ⟨wg.heap.size, 6, none⟩ = some (.int .i64 (k2 : Int)) := (HM.blk 6 rfl).cell 6
        have nxf6 : (wj).frozen? ⟨wg.heap.size, 6, none⟩ = false := (HM.blk 6 rfl).frozen 6
        have nxlt : wg.heap.size < (wj).heap.size := HM.lt 6 rfl
        have ne_om_nx : wb.heap.size ≠ wg.heap.size := HM.ne 3 6 rfl rfl (by decide)
        have ne_nx_om : wg.heap.size ≠ wb.heap.size := HM.ne 6 3 rfl rfl (by decide)
        clear hbj hB1
        go_wp2
        go_ret
        exact ⟨rfl, HM.below.alloc HM.below.size _⟩
      · skip
        have hB1 := boot_ok dv D me r2 cr2 h2 b2 d2 k2 (1 - s) we hdv hsl hb2 hm2
        clear hb hm hm2 hb2 hm2' hb2' hsl HD hEo
        go_wp2_with fail
        refine hB1.mono ?_
        rintro e wj ⟨rfl, hbj⟩
        replace HM : Mem (w) [] (wj) [.blk (w.heap.size) 45 #[.int .i64 f0, .int .i64 f1, .int .i64 f2, .int .i64 f3], .row (W0.heap.size) (116) (4) (.slice A l.length c) (l.length) (prs l), .blk (wa.heap.size) 33 #[.slice A2 l2.length c2], .blk (wb.heap.size) 39 #[.int .i64 (me : Int), .int .i64 (rev : Int), .int .i64 (cr : Int), .int .i64 (H : Int), .int .u64 (b : Int), .int .i64 (bad : Int), .int .i64 (lock : Int)], .row (W2.heap.size) (116) (4) (.slice A2 l2.length c2) (l2.length) (prs l2), .blk (w3.heap.size) 48 #[.int .i64 (cls : Int), .int .i64 (id : Int), .int .i64 (am : Int), .int .i64 (t3 : Int)], .blk (wg.heap.size) 39 #[.int .i64 (me : Int), .int .i64 (r2 : Int), .int .i64 (cr2 : Int), .int .i64 (h2 : Int), .int .u64 (b2 : Int), .int .i64 (d2 : Int), .int .i64 (k2 : Int)]] := Mem.call HM hbj
        have om0 : (wj).cell? ⟨wb.heap.size, 0, none⟩ = some (.int .i64 (me : Int)) := (HM.blk 3 rfl).cell 0
        have omf0 : (wj).frozen? ⟨wb.heap.size, 0, none⟩ = false := (HM.blk 3 rfl).frozen 0
        have om1 : (wj).cell? ⟨wb.heap.size, 1, none⟩ = some (.int .i64 (rev : Int)) := (HM.blk 3 rfl).cell 1
        have omf1 : (wj).frozen? ⟨wb.heap.size, 1, none⟩ = false := (HM.blk 3 rfl).frozen 1
        have om2 : (wj).cell? ⟨wb.heap.size, 2, none⟩ = some (.int .i64 (cr : Int)) := (HM.blk 3 rfl).cell 2
        have omf2 : (wj).frozen? ⟨wb.heap.size, 2, none⟩ = false := (HM.blk 3 rfl).frozen 2
        have om3 : (wj).cell? ⟨wb.heap.size, 3, none⟩ = some (.int .i64 (H : Int)) := (HM.blk 3 rfl).cell 3
        have omf3 : (wj).frozen? ⟨wb.heap.size, 3, none⟩ = false := (HM.blk 3 rfl).frozen 3
        have om4 : (wj).cell? ⟨wb.heap.size, 4, none⟩ = some (.int .u64 (b : Int)) := (HM.blk 3 rfl).cell 4
        have omf4 : (wj).frozen? ⟨wb.heap.size, 4, none⟩ = false := (HM.blk 3 rfl).frozen 4
        have om5 : (wj).cell? ⟨wb.heap.size, 5, none⟩ = some (.int .i64 (bad : Int)) := (HM.blk 3 rfl).cell 5
        have omf5 : (wj).frozen? ⟨wb.heap.size, 5, none⟩ = false := (HM.blk 3 rfl).frozen 5
        have om6 : (wj).cell? ⟨wb.heap.size, 6, none⟩ = some (.int .i64 (lock : Int)) := (HM.blk 3 rfl).cell 6
        have omf6 : (wj).frozen? ⟨wb.heap.size, 6, none⟩ = false := (HM.blk 3 rfl).frozen 6
        have omlt : wb.heap.size < (wj).heap.size := HM.lt 3 rfl
        have nx0 : (wj).cell? ⟨wg.heap.size, 0, none⟩ = some (.int .i64 (me : Int)) := (HM.blk 6 rfl).cell 0
        have nxf0 : (wj).frozen? ⟨wg.heap.size, 0, none⟩ = false := (HM.blk 6 rfl).frozen 0
        have nx1 : (wj).cell? ⟨wg.heap.size, 1, none⟩ = some (.int .i64 (r2 : Int)) := (HM.blk 6 rfl).cell 1
        have nxf1 : (wj).frozen? ⟨wg.heap.size, 1, none⟩ = false := (HM.blk 6 rfl).frozen 1
        have nx2 : (wj).cell? ⟨wg.heap.size, 2, none⟩ = some (.int .i64 (cr2 : Int)) := (HM.blk 6 rfl).cell 2
        have nxf2 : (wj).frozen? ⟨wg.heap.size, 2, none⟩ = false := (HM.blk 6 rfl).frozen 2
        have nx3 : (wj).cell? ⟨wg.heap.size, 3, none⟩ = some (.int .i64 (h2 : Int)) := (HM.blk 6 rfl).cell 3
        have nxf3 : (wj).frozen? ⟨wg.heap.size, 3, none⟩ = false := (HM.blk 6 rfl).frozen 3
        have nx4 : (wj).cell? ⟨wg.heap.size, 4, none⟩ = some (.int .u64 (b2 : Int)) := (HM.blk 6 rfl).cell 4
        have nxf4 : (wj).frozen? ⟨wg.heap.size, 4, none⟩ = false := (HM.blk 6 rfl).frozen 4
        have nx5 : (wj).cell? ⟨wg.heap.size, 5, none⟩ = some (.int .i64 (d2 : Int)) := (HM.blk 6 rfl).cell 5
        have nxf5 : (wj).frozen? ⟨wg.heap.size, 5, none⟩ = false := (HM.blk 6 rfl).frozen 5
        have nx6 : (wj).cell? ⟨wg.heap.size, 6, none⟩ = some (.int .i64 (k2 : Int)) := (HM.blk 6 rfl).cell 6
        have nxf6 : (wj).frozen? ⟨wg.heap.size, 6, none⟩ = false := (HM.blk 6 rfl).frozen 6
        have nxlt : wg.heap.size < (wj).heap.size := HM.lt 6 rfl
        have ne_om_nx : wb.heap.size ≠ wg.heap.size := HM.ne 3 6 rfl rfl (by decide)
        have ne_nx_om : wg.heap.size ≠ wb.heap.size := HM.ne 6 3 rfl rfl (by decide)
        clear hbj hB1
        go_wp2
        go_ret
        exact ⟨rfl, HM.below.alloc HM.below.size _⟩
end Go.Proofs.YtopnlkhepjbjkaaDoor

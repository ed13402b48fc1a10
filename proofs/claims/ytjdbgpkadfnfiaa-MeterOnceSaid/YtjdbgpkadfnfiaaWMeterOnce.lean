/- The walk of the law MeterOnce. -/
import Derived.Test.YtjdbgpkadfnfiaaMet
namespace Go.Proofs.Ytjdbgpkadfnfiaa
open Go.RowKit
set_option linter.unusedVariables false
set_option maxRecDepth 100000 in
set_option maxHeartbeats 4000000 in
theorem walk_meterOnce (w : World) (a0 : Value) (w0 : Fit Try.prog w 37 a0) (a1 : Value) (w1 : Fit Try.prog w 38 a1) :
    Calls Try.prog 5 #[a0, a1] w fun e w' => e = .returned (.bool true) ∧ Below w.heap.size w w' := by
  obtain ⟨a, b, c, d, rfl, wa, wb, wc, wd⟩ := new_fit w0
  obtain ⟨me, hme, m1⟩ := pk_natI a 50 (by omega)
  obtain ⟨rev, hrev, m2⟩ := pk_natI b 16 (by omega)
  obtain ⟨cr, hcr, m3⟩ := pk_natI c 100000000 (by omega)
  obtain ⟨bad, hbad, m4⟩ := pk_natI d 5 (by omega)
  have hnew := fun W => newm_ok a b c d W (me : Int) (rev : Int) (cr : Int) (bad : Int) wa wb wc wd hme hrev hcr hbad
  unfold mtr at hnew
  obtain ⟨e, f, g, h, rfl, we, wf, wg, wh⟩ := raw_fits w1
  obtain ⟨cls, hcls, hc2⟩ := pk_natI e 2 (by omega)
  clear w0 w1 hme hrev hcr hbad
  have hcI : (cls : Int) < 4 := by omega
  have hS := fun W => vsold_ok (.slice none 0 0) [] me rev (cr : Int) 0 0 (bad : Int) 0 (cls : Int) f g h cls W (isps_nil W) ook_nil (by simp) (by omega) (by omega) (WalkArith.wf_i64 (by omega)) wf wg wh (Lib.hid (pk_self hcI))
  clear hcI
  have HM := Mem.init w
  obtain ⟨W0, hW0⟩ : ∃ W0, ((w).alloc (.cells #[.int .i64 a, .int .i64 b, .int .i64 c, .int .i64 d] 37)).alloc (.cells #[.int .i64 e, .int .i64 f, .int .i64 g, .int .i64 h] 38) = W0 := ⟨_, rfl⟩
  replace HM : Mem (w) [] _ [.blk (w.heap.size) 37 #[.int .i64 a, .int .i64 b, .int .i64 c, .int .i64 d]] := Mem.alloc HM (w.heap.size) (by first | (simp; done) | (simp; omega)) #[.int .i64 a, .int .i64 b, .int .i64 c, .int .i64 d] 37
  replace HM : Mem (w) [] _ [.blk (w.heap.size) 37 #[.int .i64 a, .int .i64 b, .int .i64 c, .int .i64 d], .blk (w.heap.size + 1) 38 #[.int .i64 e, .int .i64 f, .int .i64 g, .int .i64 h]] := Mem.alloc HM (w.heap.size + 1) (by first | (simp; done) | (simp; omega)) #[.int .i64 e, .int .i64 f, .int .i64 g, .int .i64 h] 38
  rw [hW0] at HM
  have nx0 : (W0).cell? ⟨w.heap.size, 0, none⟩ = some (.int .i64 a) := (HM.blk 0 rfl).cell 0
  have nxf0 : (W0).frozen? ⟨w.heap.size, 0, none⟩ = false := (HM.blk 0 rfl).frozen 0
  have nx1 : (W0).cell? ⟨w.heap.size, 1, none⟩ = some (.int .i64 b) := (HM.blk 0 rfl).cell 1
  have nxf1 : (W0).frozen? ⟨w.heap.size, 1, none⟩ = false := (HM.blk 0 rfl).frozen 1
  have nx2 : (W0).cell? ⟨w.heap.size, 2, none⟩ = some (.int .i64 c) := (HM.blk 0 rfl).cell 2
  have nxf2 : (W0).frozen? ⟨w.heap.size, 2, none⟩ = false := (HM.blk 0 rfl).frozen 2
  have nx3 : (W0).cell? ⟨w.heap.size, 3, none⟩ = some (.int .i64 d) := (HM.blk 0 rfl).cell 3
  have nxf3 : (W0).frozen? ⟨w.heap.size, 3, none⟩ = false := (HM.blk 0 rfl).frozen 3
  have nxlt : w.heap.size < (W0).heap.size := HM.lt 0 rfl
  have rx0 : (W0).cell? ⟨w.heap.size + 1, 0, none⟩ = some (.int .i64 e) := (HM.blk 1 rfl).cell 0
  have rxf0 : (W0).frozen? ⟨w.heap.size + 1, 0, none⟩ = false := (HM.blk 1 rfl).frozen 0
  have rx1 : (W0).cell? ⟨w.heap.size + 1, 1, none⟩ = some (.int .i64 f) := (HM.blk 1 rfl).cell 1
  have rxf1 : (W0).frozen? ⟨w.heap.size + 1, 1, none⟩ = false := (HM.blk 1 rfl).frozen 1
  have rx2 : (W0).cell? ⟨w.heap.size + 1, 2, none⟩ = some (.int .i64 g) := (HM.blk 1 rfl).cell 2
  have rxf2 : (W0).frozen? ⟨w.heap.size + 1, 2, none⟩ = false := (HM.blk 1 rfl).frozen 2
  have rx3 : (W0).cell? ⟨w.heap.size + 1, 3, none⟩ = some (.int .i64 h) := (HM.blk 1 rfl).cell 3
  have rxf3 : (W0).frozen? ⟨w.heap.size + 1, 3, none⟩ = false := (HM.blk 1 rfl).frozen 3
  have rxlt : w.heap.size + 1 < (W0).heap.size := HM.lt 1 rfl
  have ne_nx_rx : w.heap.size ≠ w.heap.size + 1 := HM.ne 0 1 rfl rfl (by decide)
  have ne_rx_nx : w.heap.size + 1 ≠ w.heap.size := HM.ne 1 0 rfl rfl (by decide)
  go_enter Try.func5, Try.ntmps5
  go_wp2_with fail
  refine (hnew _).mono ?_
  rintro e1 wa ⟨rfl, hba⟩
  replace HM : Mem (w) [] (wa) [.blk (w.heap.size) 37 #[.int .i64 a, .int .i64 b, .int .i64 c, .int .i64 d], .blk (w.heap.size + 1) 38 #[.int .i64 e, .int .i64 f, .int .i64 g, .int .i64 h]] := Mem.call HM hba
  clear nx0 nxf0 nx1 nxf1 nx2 nxf2 nx3 nxf3 nxlt rx0 rxf0 rx1 rxf1 rx2 rxf2 rx3 rxf3 rxlt ne_nx_rx ne_rx_nx
  have rx0 : (wa).cell? ⟨w.heap.size + 1, 0, none⟩ = some (.int .i64 e) := (HM.blk 1 rfl).cell 0
  have rxf0 : (wa).frozen? ⟨w.heap.size + 1, 0, none⟩ = false := (HM.blk 1 rfl).frozen 0
  have rx1 : (wa).cell? ⟨w.heap.size + 1, 1, none⟩ = some (.int .i64 f) := (HM.blk 1 rfl).cell 1
  have rxf1 : (wa).frozen? ⟨w.heap.size + 1, 1, none⟩ = false := (HM.blk 1 rfl).frozen 1
  have rx2 : (wa).cell? ⟨w.heap.size + 1, 2, none⟩ = some (.int .i64 g) := (HM.blk 1 rfl).cell 2
  have rxf2 : (wa).frozen? ⟨w.heap.size + 1, 2, none⟩ = false := (HM.blk 1 rfl).frozen 2
  have rx3 : (wa).cell? ⟨w.heap.size + 1, 3, none⟩ = some (.int .i64 h) := (HM.blk 1 rfl).cell 3
  have rxf3 : (wa).frozen? ⟨w.heap.size + 1, 3, none⟩ = false := (HM.blk 1 rfl).frozen 3
  have rxlt : w.heap.size + 1 < (wa).heap.size := HM.lt 1 rfl
  clear hba hnew hW0
  go_wp2_with (go_at_call 13; (with_reducible refine (picked_is _ hcls we (by omega) (by omega)).mono ?_); rintro e w' ⟨rfl, rfl⟩)
  obtain ⟨Wb, hWb⟩ : ∃ Wb, ((wa).setCell ⟨w.heap.size + 1, 0, none⟩ (.int .i64 (cls : Int))).alloc (.cells #[.int .i64 (me : Int), .int .i64 (rev : Int), .int .i64 (cr : Int), .int .i64 0, .int .u64 0, .int .i64 (bad : Int), .int .i64 0] 26) = Wb := ⟨_, rfl⟩
  replace HM : Mem (w) [] _ [.blk (w.heap.size) 37 #[.int .i64 a, .int .i64 b, .int .i64 c, .int .i64 d], .blk (w.heap.size + 1) 38 #[.int .i64 (cls : Int), .int .i64 f, .int .i64 g, .int .i64 h]] := Mem.set 1 HM rfl 0 (.int .i64 (cls : Int))
  replace HM : Mem (w) [] _ [.blk (w.heap.size) 37 #[.int .i64 a, .int .i64 b, .int .i64 c, .int .i64 d], .blk (w.heap.size + 1) 38 #[.int .i64 (cls : Int), .int .i64 f, .int .i64 g, .int .i64 h], .blk (wa.heap.size) 26 #[.int .i64 (me : Int), .int .i64 (rev : Int), .int .i64 (cr : Int), .int .i64 0, .int .u64 0, .int .i64 (bad : Int), .int .i64 0]] := Mem.alloc HM (wa.heap.size) (by first | (simp; done) | (simp; omega)) #[.int .i64 (me : Int), .int .i64 (rev : Int), .int .i64 (cr : Int), .int .i64 0, .int .u64 0, .int .i64 (bad : Int), .int .i64 0] 26
  rw [hWb] at HM ⊢
  clear hWb
  refine (hS _).mono ?_
  rintro e1 wb ⟨id, am, tag, t2, l2, A, cc, rfl, hk, hl2, ht2, hO2, hown, hbb⟩
  replace HM : Mem (w) [] (wb) [.blk (w.heap.size) 37 #[.int .i64 a, .int .i64 b, .int .i64 c, .int .i64 d], .blk (w.heap.size + 1) 38 #[.int .i64 (cls : Int), .int .i64 f, .int .i64 g, .int .i64 h], .blk (wa.heap.size) 26 #[.int .i64 (me : Int), .int .i64 (rev : Int), .int .i64 (cr : Int), .int .i64 0, .int .u64 0, .int .i64 (bad : Int), .int .i64 0], .row (Wb.heap.size) (75) (4) (.slice A l2.length cc) (l2.length) (prs l2)] := Mem.row HM hbb hown (Nat.le_refl _)
  clear rx0 rxf0 rx1 rxf1 rx2 rxf2 rx3 rxf3 rxlt
  have mt0 : (wb).cell? ⟨wa.heap.size, 0, none⟩ = some (.int .i64 (me : Int)) := (HM.blk 2 rfl).cell 0
  have mtf0 : (wb).frozen? ⟨wa.heap.size, 0, none⟩ = false := (HM.blk 2 rfl).frozen 0
  have mt1 : (wb).cell? ⟨wa.heap.size, 1, none⟩ = some (.int .i64 (rev : Int)) := (HM.blk 2 rfl).cell 1
  have mtf1 : (wb).frozen? ⟨wa.heap.size, 1, none⟩ = false := (HM.blk 2 rfl).frozen 1
  have mt2 : (wb).cell? ⟨wa.heap.size, 2, none⟩ = some (.int .i64 (cr : Int)) := (HM.blk 2 rfl).cell 2
  have mtf2 : (wb).frozen? ⟨wa.heap.size, 2, none⟩ = false := (HM.blk 2 rfl).frozen 2
  have mt3 : (wb).cell? ⟨wa.heap.size, 3, none⟩ = some (.int .i64 0) := (HM.blk 2 rfl).cell 3
  have mtf3 : (wb).frozen? ⟨wa.heap.size, 3, none⟩ = false := (HM.blk 2 rfl).frozen 3
  have mt4 : (wb).cell? ⟨wa.heap.size, 4, none⟩ = some (.int .u64 0) := (HM.blk 2 rfl).cell 4
  have mtf4 : (wb).frozen? ⟨wa.heap.size, 4, none⟩ = false := (HM.blk 2 rfl).frozen 4
  have mt5 : (wb).cell? ⟨wa.heap.size, 5, none⟩ = some (.int .i64 (bad : Int)) := (HM.blk 2 rfl).cell 5
  have mtf5 : (wb).frozen? ⟨wa.heap.size, 5, none⟩ = false := (HM.blk 2 rfl).frozen 5
  have mt6 : (wb).cell? ⟨wa.heap.size, 6, none⟩ = some (.int .i64 0) := (HM.blk 2 rfl).cell 6
  have mtf6 : (wb).frozen? ⟨wa.heap.size, 6, none⟩ = false := (HM.blk 2 rfl).frozen 6
  have mtlt : wa.heap.size < (wb).heap.size := HM.lt 2 rfl
  clear hS hbb hown
  have hlk := look_iss [] (me : Int) (rev : Int) ((tbody cls id am : Nat) : Int) (tag : Int)
  rw [hl2, ht2] at hlk
  have hKS := keyS_own (l := l2) (me := me) (rev := rev) (cr := cr) (H := 0) (B := 0) (bad := bad) (cls := cls) (id := id) (am := am) (tag := t2) (by omega) hlk
  have hj := judge_new hk.h2
  have ham := hk.am
  have hk2 := hk.h2
  have hk3 := hk.h3
  have hk4 := hk.h4
  have hmm : mmay (me : Int) (rev : Int) (cr : Int) ((0 : Nat) : Int) 0 (bad : Int) ((0 : Nat) : Int) = true := mmay_of (H := 0) (lock := 0) (by omega) (by omega) (by omega) (by omega) (by omega) (by omega) wmay_new
  have hwfP := ook_wf hO2
  have hps := fun (W : World) (h : W.ownsRow Wb.heap.size 75 4 (.slice A l2.length cc) l2.length (prs l2)) => isps_own rfl hwfP h
  have hKey := fun cr' H' B' bad' r2 c2 h2 b2 d2 k2 ad E W h h64 hmm hR => key_ok (.slice A l2.length cc) l2 me rev cr' H' B' bad' 0 cls id am t2 r2 c2 h2 b2 d2 k2 ad E W h hO2 h64 hmm hk hR
  obtain ⟨y1, y2, hy⟩ : ∃ y1 y2, wtake 0 0 id = (y1, y2) := ⟨_, _, rfl⟩
  have hju := judge_used hk2 hy
  have hwu := wmay_used hk2 hk3 hy
  unfold takeS at hKS
  rw [hj, if_neg (by omega), hy] at hKS
  clear hk hl2 ht2 hj hy
  go_wp2_with fail
  obtain ⟨Wc, hWc⟩ : ∃ Wc, ((wb).alloc (.cells #[.slice A l2.length cc] 29)).alloc (.cells #[.int .i64 (cls : Int), .int .i64 (id : Int), .int .i64 (am : Int), .int .i64 (t2 : Int)] 31) = Wc := ⟨_, rfl⟩
  replace HM : Mem (w) [] _ [.blk (w.heap.size) 37 #[.int .i64 a, .int .i64 b, .int .i64 c, .int .i64 d], .blk (w.heap.size + 1) 38 #[.int .i64 (cls : Int), .int .i64 f, .int .i64 g, .int .i64 h], .blk (wa.heap.size) 26 #[.int .i64 (me : Int), .int .i64 (rev : Int), .int .i64 (cr : Int), .int .i64 0, .int .u64 0, .int .i64 (bad : Int), .int .i64 0], .row (Wb.heap.size) (75) (4) (.slice A l2.length cc) (l2.length) (prs l2), .blk (wb.heap.size) 29 #[.slice A l2.length cc]] := Mem.alloc HM (wb.heap.size) (by first | (simp; done) | (simp; omega)) #[.slice A l2.length cc] 29
  replace HM : Mem (w) [] _ [.blk (w.heap.size) 37 #[.int .i64 a, .int .i64 b, .int .i64 c, .int .i64 d], .blk (w.heap.size + 1) 38 #[.int .i64 (cls : Int), .int .i64 f, .int .i64 g, .int .i64 h], .blk (wa.heap.size) 26 #[.int .i64 (me : Int), .int .i64 (rev : Int), .int .i64 (cr : Int), .int .i64 0, .int .u64 0, .int .i64 (bad : Int), .int .i64 0], .row (Wb.heap.size) (75) (4) (.slice A l2.length cc) (l2.length) (prs l2), .blk (wb.heap.size) 29 #[.slice A l2.length cc], .blk (wb.heap.size + 1) 31 #[.int .i64 (cls : Int), .int .i64 (id : Int), .int .i64 (am : Int), .int .i64 (t2 : Int)]] := Mem.alloc HM (wb.heap.size + 1) (by first | (simp; done) | (simp; omega)) #[.int .i64 (cls : Int), .int .i64 (id : Int), .int .i64 (am : Int), .int .i64 (t2 : Int)] 31
  rw [hWc] at HM ⊢
  clear hWc

  rcases Nat.eq_zero_or_pos cls with hc0 | hc0
  · rw [if_pos hc0] at hKS
    have hcb : ((cls : Int) == 0) = true := by simp; omega
    by_cases hov : 99999999 < cr + am
    · rw [if_pos hov] at hKS
      have hEq := fun W => meter_same (me : Int) (rev : Int) (cr : Int) 0 0 (bad : Int) 0 W
      have hps2 := fun W h => hKey _ _ _ _ _ _ _ _ _ _ _ _ W h (by decide) hmm (Lib.hid hKS)
      clear hc0 hc2 hov hKey hKS hk4 hk2 hk3 ham hju hmm
      refine (hps2 _ (hps _ (HM.own_ 3 rfl))).mono ?_
      rintro e1 wd ⟨rfl, hbd⟩
      replace HM : Mem (w) [] (wd) [.blk (w.heap.size) 37 #[.int .i64 a, .int .i64 b, .int .i64 c, .int .i64 d], .blk (w.heap.size + 1) 38 #[.int .i64 (cls : Int), .int .i64 f, .int .i64 g, .int .i64 h], .blk (wa.heap.size) 26 #[.int .i64 (me : Int), .int .i64 (rev : Int), .int .i64 (cr : Int), .int .i64 0, .int .u64 0, .int .i64 (bad : Int), .int .i64 0], .row (Wb.heap.size) (75) (4) (.slice A l2.length cc) (l2.length) (prs l2), .blk (wb.heap.size) 29 #[.slice A l2.length cc], .blk (wb.heap.size + 1) 31 #[.int .i64 (cls : Int), .int .i64 (id : Int), .int .i64 (am : Int), .int .i64 (t2 : Int)]] := Mem.call HM hbd
      clear mt0 mtf0 mt1 mtf1 mt2 mtf2 mt3 mtf3 mt4 mtf4 mt5 mtf5 mt6 mtf6 mtlt
      have oc0 : (wd).cell? ⟨wb.heap.size, 0, none⟩ = some (.slice A l2.length cc) := (HM.blk 4 rfl).cell 0
      have ocf0 : (wd).frozen? ⟨wb.heap.size, 0, none⟩ = false := (HM.blk 4 rfl).frozen 0
      have oclt : wb.heap.size < (wd).heap.size := HM.lt 4 rfl
      have tk0 : (wd).cell? ⟨wb.heap.size + 1, 0, none⟩ = some (.int .i64 (cls : Int)) := (HM.blk 5 rfl).cell 0
      have tkf0 : (wd).frozen? ⟨wb.heap.size + 1, 0, none⟩ = false := (HM.blk 5 rfl).frozen 0
      have tk1 : (wd).cell? ⟨wb.heap.size + 1, 1, none⟩ = some (.int .i64 (id : Int)) := (HM.blk 5 rfl).cell 1
      have tkf1 : (wd).frozen? ⟨wb.heap.size + 1, 1, none⟩ = false := (HM.blk 5 rfl).frozen 1
      have tk2 : (wd).cell? ⟨wb.heap.size + 1, 2, none⟩ = some (.int .i64 (am : Int)) := (HM.blk 5 rfl).cell 2
      have tkf2 : (wd).frozen? ⟨wb.heap.size + 1, 2, none⟩ = false := (HM.blk 5 rfl).frozen 2
      have tk3 : (wd).cell? ⟨wb.heap.size + 1, 3, none⟩ = some (.int .i64 (t2 : Int)) := (HM.blk 5 rfl).cell 3
      have tkf3 : (wd).frozen? ⟨wb.heap.size + 1, 3, none⟩ = false := (HM.blk 5 rfl).frozen 3
      have tklt : wb.heap.size + 1 < (wd).heap.size := HM.lt 5 rfl
      have mt0 : (wd).cell? ⟨wa.heap.size, 0, none⟩ = some (.int .i64 (me : Int)) := (HM.blk 2 rfl).cell 0
      have mtf0 : (wd).frozen? ⟨wa.heap.size, 0, none⟩ = false := (HM.blk 2 rfl).frozen 0
      have mt1 : (wd).cell? ⟨wa.heap.size, 1, none⟩ = some (.int .i64 (rev : Int)) := (HM.blk 2 rfl).cell 1
      have mtf1 : (wd).frozen? ⟨wa.heap.size, 1, none⟩ = false := (HM.blk 2 rfl).frozen 1
      have mt2 : (wd).cell? ⟨wa.heap.size, 2, none⟩ = some (.int .i64 (cr : Int)) := (HM.blk 2 rfl).cell 2
      have mtf2 : (wd).frozen? ⟨wa.heap.size, 2, none⟩ = false := (HM.blk 2 rfl).frozen 2
      have mt3 : (wd).cell? ⟨wa.heap.size, 3, none⟩ = some (.int .i64 0) := (HM.blk 2 rfl).cell 3
      have mtf3 : (wd).frozen? ⟨wa.heap.size, 3, none⟩ = false := (HM.blk 2 rfl).frozen 3
      have mt4 : (wd).cell? ⟨wa.heap.size, 4, none⟩ = some (.int .u64 0) := (HM.blk 2 rfl).cell 4
      have mtf4 : (wd).frozen? ⟨wa.heap.size, 4, none⟩ = false := (HM.blk 2 rfl).frozen 4
      have mt5 : (wd).cell? ⟨wa.heap.size, 5, none⟩ = some (.int .i64 (bad : Int)) := (HM.blk 2 rfl).cell 5
      have mtf5 : (wd).frozen? ⟨wa.heap.size, 5, none⟩ = false := (HM.blk 2 rfl).frozen 5
      have mt6 : (wd).cell? ⟨wa.heap.size, 6, none⟩ = some (.int .i64 0) := (HM.blk 2 rfl).cell 6
      have mtf6 : (wd).frozen? ⟨wa.heap.size, 6, none⟩ = false := (HM.blk 2 rfl).frozen 6
      have mtlt : wa.heap.size < (wd).heap.size := HM.lt 2 rfl
      have ne_oc_tk : wb.heap.size ≠ wb.heap.size + 1 := HM.ne 4 5 rfl rfl (by decide)
      have ne_oc_mt : wb.heap.size ≠ wa.heap.size := HM.ne 4 2 rfl rfl (by decide)
      have ne_tk_oc : wb.heap.size + 1 ≠ wb.heap.size := HM.ne 5 4 rfl rfl (by decide)
      have ne_tk_mt : wb.heap.size + 1 ≠ wa.heap.size := HM.ne 5 2 rfl rfl (by decide)
      have ne_mt_oc : wa.heap.size ≠ wb.heap.size := HM.ne 2 4 rfl rfl (by decide)
      have ne_mt_tk : wa.heap.size ≠ wb.heap.size + 1 := HM.ne 2 5 rfl rfl (by decide)
      clear hbd
      go_wp2_with fail
      obtain ⟨We, hWe⟩ : ∃ We, (wd).alloc (.cells #[.int .i64 (me : Int), .int .i64 (rev : Int), .int .i64 (cr : Int), .int .i64 0, .int .u64 0, .int .i64 (bad : Int), .int .i64 0] 26) = We := ⟨_, rfl⟩
      replace HM : Mem (w) [] _ [.blk (w.heap.size) 37 #[.int .i64 a, .int .i64 b, .int .i64 c, .int .i64 d], .blk (w.heap.size + 1) 38 #[.int .i64 (cls : Int), .int .i64 f, .int .i64 g, .int .i64 h], .blk (wa.heap.size) 26 #[.int .i64 (me : Int), .int .i64 (rev : Int), .int .i64 (cr : Int), .int .i64 0, .int .u64 0, .int .i64 (bad : Int), .int .i64 0], .row (Wb.heap.size) (75) (4) (.slice A l2.length cc) (l2.length) (prs l2), .blk (wb.heap.size) 29 #[.slice A l2.length cc], .blk (wb.heap.size + 1) 31 #[.int .i64 (cls : Int), .int .i64 (id : Int), .int .i64 (am : Int), .int .i64 (t2 : Int)], .blk (wd.heap.size) 26 #[.int .i64 (me : Int), .int .i64 (rev : Int), .int .i64 (cr : Int), .int .i64 0, .int .u64 0, .int .i64 (bad : Int), .int .i64 0]] := Mem.alloc HM (wd.heap.size) (by first | (simp; done) | (simp; omega)) #[.int .i64 (me : Int), .int .i64 (rev : Int), .int .i64 (cr : Int), .int .i64 0, .int .u64 0, .int .i64 (bad : Int), .int .i64 0] 26
      rw [hWe] at HM ⊢
      clear hWe
      refine (hps2 _ (hps _ (HM.own_ 3 rfl))).mono ?_
      rintro e1 wf ⟨rfl, hbf⟩
      replace HM : Mem (w) [] (wf) [.blk (w.heap.size) 37 #[.int .i64 a, .int .i64 b, .int .i64 c, .int .i64 d], .blk (w.heap.size + 1) 38 #[.int .i64 (cls : Int), .int .i64 f, .int .i64 g, .int .i64 h], .blk (wa.heap.size) 26 #[.int .i64 (me : Int), .int .i64 (rev : Int), .int .i64 (cr : Int), .int .i64 0, .int .u64 0, .int .i64 (bad : Int), .int .i64 0], .row (Wb.heap.size) (75) (4) (.slice A l2.length cc) (l2.length) (prs l2), .blk (wb.heap.size) 29 #[.slice A l2.length cc], .blk (wb.heap.size + 1) 31 #[.int .i64 (cls : Int), .int .i64 (id : Int), .int .i64 (am : Int), .int .i64 (t2 : Int)], .blk (wd.heap.size) 26 #[.int .i64 (me : Int), .int .i64 (rev : Int), .int .i64 (cr : Int), .int .i64 0, .int .u64 0, .int .i64 (bad : Int), .int .i64 0]] := Mem.call HM hbf
      clear oc0 ocf0 oclt tk0 tkf0 tk1 tkf1 tk2 tkf2 tk3 tkf3 tklt mt0 mtf0 mt1 mtf1 mt2 mtf2 mt3 mtf3 mt4 mtf4 mt5 mtf5 mt6 mtf6 mtlt ne_oc_tk ne_oc_mt ne_tk_oc ne_tk_mt ne_mt_oc ne_mt_tk
      have oc0 : (wf).cell? ⟨wb.heap.size, 0, none⟩ = some (.slice A l2.length cc) := (HM.blk 4 rfl).cell 0
      have ocf0 : (wf).frozen? ⟨wb.heap.size, 0, none⟩ = false := (HM.blk 4 rfl).frozen 0
      have oclt : wb.heap.size < (wf).heap.size := HM.lt 4 rfl
      have tk0 : (wf).cell? ⟨wb.heap.size + 1, 0, none⟩ = some (.int .i64 (cls : Int)) := (HM.blk 5 rfl).cell 0
      have tkf0 : (wf).frozen? ⟨wb.heap.size + 1, 0, none⟩ = false := (HM.blk 5 rfl).frozen 0
      have tk1 : (wf).cell? ⟨wb.heap.size + 1, 1, none⟩ = some (.int .i64 (id : Int)) := (HM.blk 5 rfl).cell 1
      have tkf1 : (wf).frozen? ⟨wb.heap.size + 1, 1, none⟩ = false := (HM.blk 5 rfl).frozen 1
      have tk2 : (wf).cell? ⟨wb.heap.size + 1, 2, none⟩ = some (.int .i64 (am : Int)) := (HM.blk 5 rfl).cell 2
      have tkf2 : (wf).frozen? ⟨wb.heap.size + 1, 2, none⟩ = false := (HM.blk 5 rfl).frozen 2
      have tk3 : (wf).cell? ⟨wb.heap.size + 1, 3, none⟩ = some (.int .i64 (t2 : Int)) := (HM.blk 5 rfl).cell 3
      have tkf3 : (wf).frozen? ⟨wb.heap.size + 1, 3, none⟩ = false := (HM.blk 5 rfl).frozen 3
      have tklt : wb.heap.size + 1 < (wf).heap.size := HM.lt 5 rfl
      have mt0 : (wf).cell? ⟨wa.heap.size, 0, none⟩ = some (.int .i64 (me : Int)) := (HM.blk 2 rfl).cell 0
      have mtf0 : (wf).frozen? ⟨wa.heap.size, 0, none⟩ = false := (HM.blk 2 rfl).frozen 0
      have mt1 : (wf).cell? ⟨wa.heap.size, 1, none⟩ = some (.int .i64 (rev : Int)) := (HM.blk 2 rfl).cell 1
      have mtf1 : (wf).frozen? ⟨wa.heap.size, 1, none⟩ = false := (HM.blk 2 rfl).frozen 1
      have mt2 : (wf).cell? ⟨wa.heap.size, 2, none⟩ = some (.int .i64 (cr : Int)) := (HM.blk 2 rfl).cell 2
      have mtf2 : (wf).frozen? ⟨wa.heap.size, 2, none⟩ = false := (HM.blk 2 rfl).frozen 2
      have mt3 : (wf).cell? ⟨wa.heap.size, 3, none⟩ = some (.int .i64 0) := (HM.blk 2 rfl).cell 3
      have mtf3 : (wf).frozen? ⟨wa.heap.size, 3, none⟩ = false := (HM.blk 2 rfl).frozen 3
      have mt4 : (wf).cell? ⟨wa.heap.size, 4, none⟩ = some (.int .u64 0) := (HM.blk 2 rfl).cell 4
      have mtf4 : (wf).frozen? ⟨wa.heap.size, 4, none⟩ = false := (HM.blk 2 rfl).frozen 4
      have mt5 : (wf).cell? ⟨wa.heap.size, 5, none⟩ = some (.int .i64 (bad : Int)) := (HM.blk 2 rfl).cell 5
      have mtf5 : (wf).frozen? ⟨wa.heap.size, 5, none⟩ = false := (HM.blk 2 rfl).frozen 5
      have mt6 : (wf).cell? ⟨wa.heap.size, 6, none⟩ = some (.int .i64 0) := (HM.blk 2 rfl).cell 6
      have mtf6 : (wf).frozen? ⟨wa.heap.size, 6, none⟩ = false := (HM.blk 2 rfl).frozen 6
      have mtlt : wa.heap.size < (wf).heap.size := HM.lt 2 rfl
      have aa0 : (wf).cell? ⟨wd.heap.size, 0, none⟩ = some (.int .i64 (me : Int)) := (HM.blk 6 rfl).cell 0
      have aaf0 : (wf).frozen? ⟨wd.heap.size, 0, none⟩ = false := (HM.blk 6 rfl).frozen 0
      have aa1 : (wf).cell? ⟨wd.heap.size, 1, none⟩ = some (.int .i64 (rev : Int)) := (HM.blk 6 rfl).cell 1
      have aaf1 : (wf).frozen? ⟨wd.heap.size, 1, none⟩ = false := (HM.blk 6 rfl).frozen 1
      have aa2 : (wf).cell? ⟨wd.heap.size, 2, none⟩ = some (.int .i64 (cr : Int)) := (HM.blk 6 rfl).cell 2
      have aaf2 : (wf).frozen? ⟨wd.heap.size, 2, none⟩ = false := (HM.blk 6 rfl).frozen 2
      have aa3 : (wf).cell? ⟨wd.heap.size, 3, none⟩ = some (.int .i64 0) := (HM.blk 6 rfl).cell 3
      have aaf3 : (wf).frozen? ⟨wd.heap.size, 3, none⟩ = false := (HM.blk 6 rfl).frozen 3
      have aa4 : (wf).cell? ⟨wd.heap.size, 4, none⟩ = some (.int .u64 0) := (HM.blk 6 rfl).cell 4
      have aaf4 : (wf).frozen? ⟨wd.heap.size, 4, none⟩ = false := (HM.blk 6 rfl).frozen 4
      have aa5 : (wf).cell? ⟨wd.heap.size, 5, none⟩ = some (.int .i64 (bad : Int)) := (HM.blk 6 rfl).cell 5
      have aaf5 : (wf).frozen? ⟨wd.heap.size, 5, none⟩ = false := (HM.blk 6 rfl).frozen 5
      have aa6 : (wf).cell? ⟨wd.heap.size, 6, none⟩ = some (.int .i64 0) := (HM.blk 6 rfl).cell 6
      have aaf6 : (wf).frozen? ⟨wd.heap.size, 6, none⟩ = false := (HM.blk 6 rfl).frozen 6
      have aalt : wd.heap.size < (wf).heap.size := HM.lt 6 rfl
      have ne_oc_tk : wb.heap.size ≠ wb.heap.size + 1 := HM.ne 4 5 rfl rfl (by decide)
      have ne_oc_mt : wb.heap.size ≠ wa.heap.size := HM.ne 4 2 rfl rfl (by decide)
      have ne_oc_aa : wb.heap.size ≠ wd.heap.size := HM.ne 4 6 rfl rfl (by decide)
      have ne_tk_oc : wb.heap.size + 1 ≠ wb.heap.size := HM.ne 5 4 rfl rfl (by decide)
      have ne_tk_mt : wb.heap.size + 1 ≠ wa.heap.size := HM.ne 5 2 rfl rfl (by decide)
      have ne_tk_aa : wb.heap.size + 1 ≠ wd.heap.size := HM.ne 5 6 rfl rfl (by decide)
      have ne_mt_oc : wa.heap.size ≠ wb.heap.size := HM.ne 2 4 rfl rfl (by decide)
      have ne_mt_tk : wa.heap.size ≠ wb.heap.size + 1 := HM.ne 2 5 rfl rfl (by decide)
      have ne_mt_aa : wa.heap.size ≠ wd.heap.size := HM.ne 2 6 rfl rfl (by decide)
      have ne_aa_oc : wd.heap.size ≠ wb.heap.size := HM.ne 6 4 rfl rfl (by decide)
      have ne_aa_tk : wd.heap.size ≠ wb.heap.size + 1 := HM.ne 6 5 rfl rfl (by decide)
      have ne_aa_mt : wd.heap.size ≠ wa.heap.size := HM.ne 6 2 rfl rfl (by decide)
      clear hbf hps hO2 hwfP hps2 m1 m2 m3 m4 hwu
      go_wp2
      go_ret
      exact ⟨rfl, HM.call (below_a1 _ _) |>.below⟩
    · skip
      rw [if_neg hov] at hKS
      obtain ⟨x, hx⟩ : ∃ x, cr + am = x := ⟨_, rfl⟩
      rw [hx] at hKS
      have hKS2 := keyS_own (l := l2) (me := me) (rev := rev) (cr := x) (H := y1) (B := y2) (bad := 0) (cls := cls) (id := id) (am := am) (tag := t2) (by omega) hlk
      unfold takeS at hKS2
      rw [hju, if_pos (by omega)] at hKS2
      have hmm2 : mmay (me : Int) (rev : Int) (x : Int) (y1 : Int) y2 ((0 : Nat) : Int) ((0 : Nat) : Int) = true := mmay_of (H := y1) (lock := 0) (bad := 0) (by omega) (by omega) (by omega) (by omega) (by omega) (by omega) hwu
      have hps2 := fun W h => hKey _ _ _ _ _ _ _ _ _ _ _ _ W h (by decide) hmm (Lib.hid hKS)
      have hps3 := fun W h => hKey _ _ _ _ _ _ _ _ _ _ _ _ W h hwu.lt hmm2 (Lib.hid hKS2)
      have hEq := fun W => meter_same (me : Int) (rev : Int) (x : Int) (y1 : Int) (y2 : Int) 0 0 W
      have ham0 : 0 < am := by omega
      clear hc0 hc2 hov hx hKey hKS hKS2 hk4 hk2 hk3 ham hju hmm hmm2
      refine (hps2 _ (hps _ (HM.own_ 3 rfl))).mono ?_
      rintro e1 wd ⟨rfl, hbd⟩
      replace HM : Mem (w) [] (wd) [.blk (w.heap.size) 37 #[.int .i64 a, .int .i64 b, .int .i64 c, .int .i64 d], .blk (w.heap.size + 1) 38 #[.int .i64 (cls : Int), .int .i64 f, .int .i64 g, .int .i64 h], .blk (wa.heap.size) 26 #[.int .i64 (me : Int), .int .i64 (rev : Int), .int .i64 (cr : Int), .int .i64 0, .int .u64 0, .int .i64 (bad : Int), .int .i64 0], .row (Wb.heap.size) (75) (4) (.slice A l2.length cc) (l2.length) (prs l2), .blk (wb.heap.size) 29 #[.slice A l2.length cc], .blk (wb.heap.size + 1) 31 #[.int .i64 (cls : Int), .int .i64 (id : Int), .int .i64 (am : Int), .int .i64 (t2 : Int)]] := Mem.call HM hbd
      clear mt0 mtf0 mt1 mtf1 mt2 mtf2 mt3 mtf3 mt4 mtf4 mt5 mtf5 mt6 mtf6 mtlt
      have oc0 : (wd).cell? ⟨wb.heap.size, 0, none⟩ = some (.slice A l2.length cc) := (HM.blk 4 rfl).cell 0
      have ocf0 : (wd).frozen? ⟨wb.heap.size, 0, none⟩ = false := (HM.blk 4 rfl).frozen 0
      have oclt : wb.heap.size < (wd).heap.size := HM.lt 4 rfl
      have tk0 : (wd).cell? ⟨wb.heap.size + 1, 0, none⟩ = some (.int .i64 (cls : Int)) := (HM.blk 5 rfl).cell 0
      have tkf0 : (wd).frozen? ⟨wb.heap.size + 1, 0, none⟩ = false := (HM.blk 5 rfl).frozen 0
      have tk1 : (wd).cell? ⟨wb.heap.size + 1, 1, none⟩ = some (.int .i64 (id : Int)) := (HM.blk 5 rfl).cell 1
      have tkf1 : (wd).frozen? ⟨wb.heap.size + 1, 1, none⟩ = false := (HM.blk 5 rfl).frozen 1
      have tk2 : (wd).cell? ⟨wb.heap.size + 1, 2, none⟩ = some (.int .i64 (am : Int)) := (HM.blk 5 rfl).cell 2
      have tkf2 : (wd).frozen? ⟨wb.heap.size + 1, 2, none⟩ = false := (HM.blk 5 rfl).frozen 2
      have tk3 : (wd).cell? ⟨wb.heap.size + 1, 3, none⟩ = some (.int .i64 (t2 : Int)) := (HM.blk 5 rfl).cell 3
      have tkf3 : (wd).frozen? ⟨wb.heap.size + 1, 3, none⟩ = false := (HM.blk 5 rfl).frozen 3
      have tklt : wb.heap.size + 1 < (wd).heap.size := HM.lt 5 rfl
      have mt0 : (wd).cell? ⟨wa.heap.size, 0, none⟩ = some (.int .i64 (me : Int)) := (HM.blk 2 rfl).cell 0
      have mtf0 : (wd).frozen? ⟨wa.heap.size, 0, none⟩ = false := (HM.blk 2 rfl).frozen 0
      have mt1 : (wd).cell? ⟨wa.heap.size, 1, none⟩ = some (.int .i64 (rev : Int)) := (HM.blk 2 rfl).cell 1
      have mtf1 : (wd).frozen? ⟨wa.heap.size, 1, none⟩ = false := (HM.blk 2 rfl).frozen 1
      have mt2 : (wd).cell? ⟨wa.heap.size, 2, none⟩ = some (.int .i64 (cr : Int)) := (HM.blk 2 rfl).cell 2
      have mtf2 : (wd).frozen? ⟨wa.heap.size, 2, none⟩ = false := (HM.blk 2 rfl).frozen 2
      have mt3 : (wd).cell? ⟨wa.heap.size, 3, none⟩ = some (.int .i64 0) := (HM.blk 2 rfl).cell 3
      have mtf3 : (wd).frozen? ⟨wa.heap.size, 3, none⟩ = false := (HM.blk 2 rfl).frozen 3
      have mt4 : (wd).cell? ⟨wa.heap.size, 4, none⟩ = some (.int .u64 0) := (HM.blk 2 rfl).cell 4
      have mtf4 : (wd).frozen? ⟨wa.heap.size, 4, none⟩ = false := (HM.blk 2 rfl).frozen 4
      have mt5 : (wd).cell? ⟨wa.heap.size, 5, none⟩ = some (.int .i64 (bad : Int)) := (HM.blk 2 rfl).cell 5
      have mtf5 : (wd).frozen? ⟨wa.heap.size, 5, none⟩ = false := (HM.blk 2 rfl).frozen 5
      have mt6 : (wd).cell? ⟨wa.heap.size, 6, none⟩ = some (.int .i64 0) := (HM.blk 2 rfl).cell 6
      have mtf6 : (wd).frozen? ⟨wa.heap.size, 6, none⟩ = false := (HM.blk 2 rfl).frozen 6
      have mtlt : wa.heap.size < (wd).heap.size := HM.lt 2 rfl
      have ne_oc_tk : wb.heap.size ≠ wb.heap.size + 1 := HM.ne 4 5 rfl rfl (by decide)
      have ne_oc_mt : wb.heap.size ≠ wa.heap.size := HM.ne 4 2 rfl rfl (by decide)
      have ne_tk_oc : wb.heap.size + 1 ≠ wb.heap.size := HM.ne 5 4 rfl rfl (by decide)
      have ne_tk_mt : wb.heap.size + 1 ≠ wa.heap.size := HM.ne 5 2 rfl rfl (by decide)
      have ne_mt_oc : wa.heap.size ≠ wb.heap.size := HM.ne 2 4 rfl rfl (by decide)
      have ne_mt_tk : wa.heap.size ≠ wb.heap.size + 1 := HM.ne 2 5 rfl rfl (by decide)
      clear hbd hps2
      go_wp2_with fail
      obtain ⟨We, hWe⟩ : ∃ We, (wd).alloc (.cells #[.int .i64 (me : Int), .int .i64 (rev : Int), .int .i64 (x : Int), .int .i64 (y1 : Int), .int .u64 (y2 : Int), .int .i64 0, .int .i64 0] 26) = We := ⟨_, rfl⟩
      replace HM : Mem (w) [] _ [.blk (w.heap.size) 37 #[.int .i64 a, .int .i64 b, .int .i64 c, .int .i64 d], .blk (w.heap.size + 1) 38 #[.int .i64 (cls : Int), .int .i64 f, .int .i64 g, .int .i64 h], .blk (wa.heap.size) 26 #[.int .i64 (me : Int), .int .i64 (rev : Int), .int .i64 (cr : Int), .int .i64 0, .int .u64 0, .int .i64 (bad : Int), .int .i64 0], .row (Wb.heap.size) (75) (4) (.slice A l2.length cc) (l2.length) (prs l2), .blk (wb.heap.size) 29 #[.slice A l2.length cc], .blk (wb.heap.size + 1) 31 #[.int .i64 (cls : Int), .int .i64 (id : Int), .int .i64 (am : Int), .int .i64 (t2 : Int)], .blk (wd.heap.size) 26 #[.int .i64 (me : Int), .int .i64 (rev : Int), .int .i64 (x : Int), .int .i64 (y1 : Int), .int .u64 (y2 : Int), .int .i64 0, .int .i64 0]] := Mem.alloc HM (wd.heap.size) (by first | (simp; done) | (simp; omega)) #[.int .i64 (me : Int), .int .i64 (rev : Int), .int .i64 (x : Int), .int .i64 (y1 : Int), .int .u64 (y2 : Int), .int .i64 0, .int .i64 0] 26
      rw [hWe] at HM ⊢
      clear hWe
      refine (hps3 _ (hps _ (HM.own_ 3 rfl))).mono ?_
      rintro e1 wf ⟨rfl, hbf⟩
      replace HM : Mem (w) [] (wf) [.blk (w.heap.size) 37 #[.int .i64 a, .int .i64 b, .int .i64 c, .int .i64 d], .blk (w.heap.size + 1) 38 #[.int .i64 (cls : Int), .int .i64 f, .int .i64 g, .int .i64 h], .blk (wa.heap.size) 26 #[.int .i64 (me : Int), .int .i64 (rev : Int), .int .i64 (cr : Int), .int .i64 0, .int .u64 0, .int .i64 (bad : Int), .int .i64 0], .row (Wb.heap.size) (75) (4) (.slice A l2.length cc) (l2.length) (prs l2), .blk (wb.heap.size) 29 #[.slice A l2.length cc], .blk (wb.heap.size + 1) 31 #[.int .i64 (cls : Int), .int .i64 (id : Int), .int .i64 (am : Int), .int .i64 (t2 : Int)], .blk (wd.heap.size) 26 #[.int .i64 (me : Int), .int .i64 (rev : Int), .int .i64 (x : Int), .int .i64 (y1 : Int), .int .u64 (y2 : Int), .int .i64 0, .int .i64 0]] := Mem.call HM hbf
      clear oc0 ocf0 oclt tk0 tkf0 tk1 tkf1 tk2 tkf2 tk3 tkf3 tklt mt0 mtf0 mt1 mtf1 mt2 mtf2 mt3 mtf3 mt4 mtf4 mt5 mtf5 mt6 mtf6 mtlt ne_oc_tk ne_oc_mt ne_tk_oc ne_tk_mt ne_mt_oc ne_mt_tk
      have oc0 : (wf).cell? ⟨wb.heap.size, 0, none⟩ = some (.slice A l2.length cc) := (HM.blk 4 rfl).cell 0
      have ocf0 : (wf).frozen? ⟨wb.heap.size, 0, none⟩ = false := (HM.blk 4 rfl).frozen 0
      have oclt : wb.heap.size < (wf).heap.size := HM.lt 4 rfl
      have tk0 : (wf).cell? ⟨wb.heap.size + 1, 0, none⟩ = some (.int .i64 (cls : Int)) := (HM.blk 5 rfl).cell 0
      have tkf0 : (wf).frozen? ⟨wb.heap.size + 1, 0, none⟩ = false := (HM.blk 5 rfl).frozen 0
      have tk1 : (wf).cell? ⟨wb.heap.size + 1, 1, none⟩ = some (.int .i64 (id : Int)) := (HM.blk 5 rfl).cell 1
      have tkf1 : (wf).frozen? ⟨wb.heap.size + 1, 1, none⟩ = false := (HM.blk 5 rfl).frozen 1
      have tk2 : (wf).cell? ⟨wb.heap.size + 1, 2, none⟩ = some (.int .i64 (am : Int)) := (HM.blk 5 rfl).cell 2
      have tkf2 : (wf).frozen? ⟨wb.heap.size + 1, 2, none⟩ = false := (HM.blk 5 rfl).frozen 2
      have tk3 : (wf).cell? ⟨wb.heap.size + 1, 3, none⟩ = some (.int .i64 (t2 : Int)) := (HM.blk 5 rfl).cell 3
      have tkf3 : (wf).frozen? ⟨wb.heap.size + 1, 3, none⟩ = false := (HM.blk 5 rfl).frozen 3
      have tklt : wb.heap.size + 1 < (wf).heap.size := HM.lt 5 rfl
      have mt0 : (wf).cell? ⟨wa.heap.size, 0, none⟩ = some (.int .i64 (me : Int)) := (HM.blk 2 rfl).cell 0
      have mtf0 : (wf).frozen? ⟨wa.heap.size, 0, none⟩ = false := (HM.blk 2 rfl).frozen 0
      have mt1 : (wf).cell? ⟨wa.heap.size, 1, none⟩ = some (.int .i64 (rev : Int)) := (HM.blk 2 rfl).cell 1
      have mtf1 : (wf).frozen? ⟨wa.heap.size, 1, none⟩ = false := (HM.blk 2 rfl).frozen 1
      have mt2 : (wf).cell? ⟨wa.heap.size, 2, none⟩ = some (.int .i64 (cr : Int)) := (HM.blk 2 rfl).cell 2
      have mtf2 : (wf).frozen? ⟨wa.heap.size, 2, none⟩ = false := (HM.blk 2 rfl).frozen 2
      have mt3 : (wf).cell? ⟨wa.heap.size, 3, none⟩ = some (.int .i64 0) := (HM.blk 2 rfl).cell 3
      have mtf3 : (wf).frozen? ⟨wa.heap.size, 3, none⟩ = false := (HM.blk 2 rfl).frozen 3
      have mt4 : (wf).cell? ⟨wa.heap.size, 4, none⟩ = some (.int .u64 0) := (HM.blk 2 rfl).cell 4
      have mtf4 : (wf).frozen? ⟨wa.heap.size, 4, none⟩ = false := (HM.blk 2 rfl).frozen 4
      have mt5 : (wf).cell? ⟨wa.heap.size, 5, none⟩ = some (.int .i64 (bad : Int)) := (HM.blk 2 rfl).cell 5
      have mtf5 : (wf).frozen? ⟨wa.heap.size, 5, none⟩ = false := (HM.blk 2 rfl).frozen 5
      have mt6 : (wf).cell? ⟨wa.heap.size, 6, none⟩ = some (.int .i64 0) := (HM.blk 2 rfl).cell 6
      have mtf6 : (wf).frozen? ⟨wa.heap.size, 6, none⟩ = false := (HM.blk 2 rfl).frozen 6
      have mtlt : wa.heap.size < (wf).heap.size := HM.lt 2 rfl
      have aa0 : (wf).cell? ⟨wd.heap.size, 0, none⟩ = some (.int .i64 (me : Int)) := (HM.blk 6 rfl).cell 0
      have aaf0 : (wf).frozen? ⟨wd.heap.size, 0, none⟩ = false := (HM.blk 6 rfl).frozen 0
      have aa1 : (wf).cell? ⟨wd.heap.size, 1, none⟩ = some (.int .i64 (rev : Int)) := (HM.blk 6 rfl).cell 1
      have aaf1 : (wf).frozen? ⟨wd.heap.size, 1, none⟩ = false := (HM.blk 6 rfl).frozen 1
      have aa2 : (wf).cell? ⟨wd.heap.size, 2, none⟩ = some (.int .i64 (x : Int)) := (HM.blk 6 rfl).cell 2
      have aaf2 : (wf).frozen? ⟨wd.heap.size, 2, none⟩ = false := (HM.blk 6 rfl).frozen 2
      have aa3 : (wf).cell? ⟨wd.heap.size, 3, none⟩ = some (.int .i64 (y1 : Int)) := (HM.blk 6 rfl).cell 3
      have aaf3 : (wf).frozen? ⟨wd.heap.size, 3, none⟩ = false := (HM.blk 6 rfl).frozen 3
      have aa4 : (wf).cell? ⟨wd.heap.size, 4, none⟩ = some (.int .u64 (y2 : Int)) := (HM.blk 6 rfl).cell 4
      have aaf4 : (wf).frozen? ⟨wd.heap.size, 4, none⟩ = false := (HM.blk 6 rfl).frozen 4
      have aa5 : (wf).cell? ⟨wd.heap.size, 5, none⟩ = some (.int .i64 0) := (HM.blk 6 rfl).cell 5
      have aaf5 : (wf).frozen? ⟨wd.heap.size, 5, none⟩ = false := (HM.blk 6 rfl).frozen 5
      have aa6 : (wf).cell? ⟨wd.heap.size, 6, none⟩ = some (.int .i64 0) := (HM.blk 6 rfl).cell 6
      have aaf6 : (wf).frozen? ⟨wd.heap.size, 6, none⟩ = false := (HM.blk 6 rfl).frozen 6
      have aalt : wd.heap.size < (wf).heap.size := HM.lt 6 rfl
      have ne_oc_tk : wb.heap.size ≠ wb.heap.size + 1 := HM.ne 4 5 rfl rfl (by decide)
      have ne_oc_mt : wb.heap.size ≠ wa.heap.size := HM.ne 4 2 rfl rfl (by decide)
      have ne_oc_aa : wb.heap.size ≠ wd.heap.size := HM.ne 4 6 rfl rfl (by decide)
      have ne_tk_oc : wb.heap.size + 1 ≠ wb.heap.size := HM.ne 5 4 rfl rfl (by decide)
      have ne_tk_mt : wb.heap.size + 1 ≠ wa.heap.size := HM.ne 5 2 rfl rfl (by decide)
      have ne_tk_aa : wb.heap.size + 1 ≠ wd.heap.size := HM.ne 5 6 rfl rfl (by decide)
      have ne_mt_oc : wa.heap.size ≠ wb.heap.size := HM.ne 2 4 rfl rfl (by decide)
      have ne_mt_tk : wa.heap.size ≠ wb.heap.size + 1 := HM.ne 2 5 rfl rfl (by decide)
      have ne_mt_aa : wa.heap.size ≠ wd.heap.size := HM.ne 2 6 rfl rfl (by decide)
      have ne_aa_oc : wd.heap.size ≠ wb.heap.size := HM.ne 6 4 rfl rfl (by decide)
      have ne_aa_tk : wd.heap.size ≠ wb.heap.size + 1 := HM.ne 6 5 rfl rfl (by decide)
      have ne_aa_mt : wd.heap.size ≠ wa.heap.size := HM.ne 6 2 rfl rfl (by decide)
      clear hbf hps hO2 hwfP hps3 m1 m2 m3 m4 hwu
      go_wp2
      go_ret
      exact ⟨rfl, HM.call (below_a1 _ _) |>.below⟩
  · skip
    have hcb : ((cls : Int) == 0) = false := by simp; omega
    rw [if_neg (by omega), if_pos (by omega)] at hKS
    have hKS2 := keyS_own (l := l2) (me := me) (rev := rev) (cr := 0) (H := y1) (B := y2) (bad := 0) (cls := cls) (id := id) (am := am) (tag := t2) (by omega) hlk
    unfold takeS at hKS2
    rw [hju, if_pos (by omega)] at hKS2
    have hmm2 : mmay (me : Int) (rev : Int) ((0 : Nat) : Int) (y1 : Int) y2 ((0 : Nat) : Int) ((0 : Nat) : Int) = true := mmay_of (H := y1) (lock := 0) (bad := 0) (cr := 0) (by omega) (by omega) (by omega) (by omega) (by omega) (by omega) hwu
    have hps2 := fun W h => hKey _ _ _ _ _ _ _ _ _ _ _ _ W h (by decide) hmm (Lib.hid hKS)
    have hps3 := fun W h => hKey _ _ _ _ _ _ _ _ _ _ _ _ W h hwu.lt hmm2 (Lib.hid hKS2)
    have hEq := fun W => meter_same (me : Int) (rev : Int) 0 (y1 : Int) (y2 : Int) 0 0 W
    clear hc0 hc2 hKey hKS hKS2 hk4 hk2 hk3 ham hju hmm hmm2
    refine (hps2 _ (hps _ (HM.own_ 3 rfl))).mono ?_
    rintro e1 wd ⟨rfl, hbd⟩
    replace HM : Mem (w) [] (wd) [.blk (w.heap.size) 37 #[.int .i64 a, .int .i64 b, .int .i64 c, .int .i64 d], .blk (w.heap.size + 1) 38 #[.int .i64 (cls : Int), .int .i64 f, .int .i64 g, .int .i64 h], .blk (wa.heap.size) 26 #[.int .i64 (me : Int), .int .i64 (rev : Int), .int .i64 (cr : Int), .int .i64 0, .int .u64 0, .int .i64 (bad : Int), .int .i64 0], .row (Wb.heap.size) (75) (4) (.slice A l2.length cc) (l2.length) (prs l2), .blk (wb.heap.size) 29 #[.slice A l2.length cc], .blk (wb.heap.size + 1) 31 #[.int .i64 (cls : Int), .int .i64 (id : Int), .int .i64 (am : Int), .int .i64 (t2 : Int)]] := Mem.call HM hbd
    clear mt0 mtf0 mt1 mtf1 mt2 mtf2 mt3 mtf3 mt4 mtf4 mt5 mtf5 mt6 mtf6 mtlt
    have oc0 : (wd).cell? ⟨wb.heap.size, 0, none⟩ = some (.slice A l2.length cc) := (HM.blk 4 rfl).cell 0
    have ocf0 : (wd).frozen? ⟨wb.heap.size, 0, none⟩ = false := (HM.blk 4 rfl).frozen 0
    have oclt : wb.heap.size < (wd).heap.size := HM.lt 4 rfl
    have tk0 : (wd).cell? ⟨wb.heap.size + 1, 0, none⟩ = some (.int .i64 (cls : Int)) := (HM.blk 5 rfl).cell 0
    have tkf0 : (wd).frozen? ⟨wb.heap.size + 1, 0, none⟩ = false := (HM.blk 5 rfl).frozen 0
    have tk1 : (wd).cell? ⟨wb.heap.size + 1, 1, none⟩ = some (.int .i64 (id : Int)) := (HM.blk 5 rfl).cell 1
    have tkf1 : (wd).frozen? ⟨wb.heap.size + 1, 1, none⟩ = false := (HM.blk 5 rfl).frozen 1
    have tk2 : (wd).cell? ⟨wb.heap.size + 1, 2, none⟩ = some (.int .i64 (am : Int)) := (HM.blk 5 rfl).cell 2
    have tkf2 : (wd).frozen? ⟨wb.heap.size + 1, 2, none⟩ = false := (HM.blk 5 rfl).frozen 2
    have tk3 : (wd).cell? ⟨wb.heap.size + 1, 3, none⟩ = some (.int .i64 (t2 : Int)) := (HM.blk 5 rfl).cell 3
    have tkf3 : (wd).frozen? ⟨wb.heap.size + 1, 3, none⟩ = false := (HM.blk 5 rfl).frozen 3
    have tklt : wb.heap.size + 1 < (wd).heap.size := HM.lt 5 rfl
    have mt0 : (wd).cell? ⟨wa.heap.size, 0, none⟩ = some (.int .i64 (me : Int)) := (HM.blk 2 rfl).cell 0
    have mtf0 : (wd).frozen? ⟨wa.heap.size, 0, none⟩ = false := (HM.blk 2 rfl).frozen 0
    have mt1 : (wd).cell? ⟨wa.heap.size, 1, none⟩ = some (.int .i64 (rev : Int)) := (HM.blk 2 rfl).cell 1
    have mtf1 : (wd).frozen? ⟨wa.heap.size, 1, none⟩ = false := (HM.blk 2 rfl).frozen 1
    have mt2 : (wd).cell? ⟨wa.heap.size, 2, none⟩ = some (.int .i64 (cr : Int)) := (HM.blk 2 rfl).cell 2
    have mtf2 : (wd).frozen? ⟨wa.heap.size, 2, none⟩ = false := (HM.blk 2 rfl).frozen 2
    have mt3 : (wd).cell? ⟨wa.heap.size, 3, none⟩ = some (.int .i64 0) := (HM.blk 2 rfl).cell 3
    have mtf3 : (wd).frozen? ⟨wa.heap.size, 3, none⟩ = false := (HM.blk 2 rfl).frozen 3
    have mt4 : (wd).cell? ⟨wa.heap.size, 4, none⟩ = some (.int .u64 0) := (HM.blk 2 rfl).cell 4
    have mtf4 : (wd).frozen? ⟨wa.heap.size, 4, none⟩ = false := (HM.blk 2 rfl).frozen 4
    have mt5 : (wd).cell? ⟨wa.heap.size, 5, none⟩ = some (.int .i64 (bad : Int)) := (HM.blk 2 rfl).cell 5
    have mtf5 : (wd).frozen? ⟨wa.heap.size, 5, none⟩ = false := (HM.blk 2 rfl).frozen 5
    have mt6 : (wd).cell? ⟨wa.heap.size, 6, none⟩ = some (.int .i64 0) := (HM.blk 2 rfl).cell 6
    have mtf6 : (wd).frozen? ⟨wa.heap.size, 6, none⟩ = false := (HM.blk 2 rfl).frozen 6
    have mtlt : wa.heap.size < (wd).heap.size := HM.lt 2 rfl
    have ne_oc_tk : wb.heap.size ≠ wb.heap.size + 1 := HM.ne 4 5 rfl rfl (by decide)
    have ne_oc_mt : wb.heap.size ≠ wa.heap.size := HM.ne 4 2 rfl rfl (by decide)
    have ne_tk_oc : wb.heap.size + 1 ≠ wb.heap.size := HM.ne 5 4 rfl rfl (by decide)
    have ne_tk_mt : wb.heap.size + 1 ≠ wa.heap.size := HM.ne 5 2 rfl rfl (by decide)
    have ne_mt_oc : wa.heap.size ≠ wb.heap.size := HM.ne 2 4 rfl rfl (by decide)
    have ne_mt_tk : wa.heap.size ≠ wb.heap.size + 1 := HM.ne 2 5 rfl rfl (by decide)
    clear hbd hps2
    go_wp2_with fail
    obtain ⟨We, hWe⟩ : ∃ We, (wd).alloc (.cells #[.int .i64 (me : Int), .int .i64 (rev : Int), .int .i64 0, .int .i64 (y1 : Int), .int .u64 (y2 : Int), .int .i64 0, .int .i64 0] 26) = We := ⟨_, rfl⟩
    replace HM : Mem (w) [] _ [.blk (w.heap.size) 37 #[.int .i64 a, .int .i64 b, .int .i64 c, .int .i64 d], .blk (w.heap.size + 1) 38 #[.int .i64 (cls : Int), .int .i64 f, .int .i64 g, .int .i64 h], .blk (wa.heap.size) 26 #[.int .i64 (me : Int), .int .i64 (rev : Int), .int .i64 (cr : Int), .int .i64 0, .int .u64 0, .int .i64 (bad : Int), .int .i64 0], .row (Wb.heap.size) (75) (4) (.slice A l2.length cc) (l2.length) (prs l2), .blk (wb.heap.size) 29 #[.slice A l2.length cc], .blk (wb.heap.size + 1) 31 #[.int .i64 (cls : Int), .int .i64 (id : Int), .int .i64 (am : Int), .int .i64 (t2 : Int)], .blk (wd.heap.size) 26 #[.int .i64 (me : Int), .int .i64 (rev : Int), .int .i64 0, .int .i64 (y1 : Int), .int .u64 (y2 : Int), .int .i64 0, .int .i64 0]] := Mem.alloc HM (wd.heap.size) (by first | (simp; done) | (simp; omega)) #[.int .i64 (me : Int), .int .i64 (rev : Int), .int .i64 0, .int .i64 (y1 : Int), .int .u64 (y2 : Int), .int .i64 0, .int .i64 0] 26
    rw [hWe] at HM ⊢
    clear hWe
    refine (hps3 _ (hps _ (HM.own_ 3 rfl))).mono ?_
    rintro e1 wf ⟨rfl, hbf⟩
    replace HM : Mem (w) [] (wf) [.blk (w.heap.size) 37 #[.int .i64 a, .int .i64 b, .int .i64 c, .int .i64 d], .blk (w.heap.size + 1) 38 #[.int .i64 (cls : Int), .int .i64 f, .int .i64 g, .int .i64 h], .blk (wa.heap.size) 26 #[.int .i64 (me : Int), .int .i64 (rev : Int), .int .i64 (cr : Int), .int .i64 0, .int .u64 0, .int .i64 (bad : Int), .int .i64 0], .row (Wb.heap.size) (75) (4) (.slice A l2.length cc) (l2.length) (prs l2), .blk (wb.heap.size) 29 #[.slice A l2.length cc], .blk (wb.heap.size + 1) 31 #[.int .i64 (cls : Int), .int .i64 (id : Int), .int .i64 (am : Int), .int .i64 (t2 : Int)], .blk (wd.heap.size) 26 #[.int .i64 (me : Int), .int .i64 (rev : Int), .int .i64 0, .int .i64 (y1 : Int), .int .u64 (y2 : Int), .int .i64 0, .int .i64 0]] := Mem.call HM hbf
    clear oc0 ocf0 oclt tk0 tkf0 tk1 tkf1 tk2 tkf2 tk3 tkf3 tklt mt0 mtf0 mt1 mtf1 mt2 mtf2 mt3 mtf3 mt4 mtf4 mt5 mtf5 mt6 mtf6 mtlt ne_oc_tk ne_oc_mt ne_tk_oc ne_tk_mt ne_mt_oc ne_mt_tk
    have oc0 : (wf).cell? ⟨wb.heap.size, 0, none⟩ = some (.slice A l2.length cc) := (HM.blk 4 rfl).cell 0
    have ocf0 : (wf).frozen? ⟨wb.heap.size, 0, none⟩ = false := (HM.blk 4 rfl).frozen 0
    have oclt : wb.heap.size < (wf).heap.size := HM.lt 4 rfl
    have tk0 : (wf).cell? ⟨wb.heap.size + 1, 0, none⟩ = some (.int .i64 (cls : Int)) := (HM.blk 5 rfl).cell 0
    have tkf0 : (wf).frozen? ⟨wb.heap.size + 1, 0, none⟩ = false := (HM.blk 5 rfl).frozen 0
    have tk1 : (wf).cell? ⟨wb.heap.size + 1, 1, none⟩ = some (.int .i64 (id : Int)) := (HM.blk 5 rfl).cell 1
    have tkf1 : (wf).frozen? ⟨wb.heap.size + 1, 1, none⟩ = false := (HM.blk 5 rfl).frozen 1
    have tk2 : (wf).cell? ⟨wb.heap.size + 1, 2, none⟩ = some (.int .i64 (am : Int)) := (HM.blk 5 rfl).cell 2
    have tkf2 : (wf).frozen? ⟨wb.heap.size + 1, 2, none⟩ = false := (HM.blk 5 rfl).frozen 2
    have tk3 : (wf).cell? ⟨wb.heap.size + 1, 3, none⟩ = some (.int .i64 (t2 : Int)) := (HM.blk 5 rfl).cell 3
    have tkf3 : (wf).frozen? ⟨wb.heap.size + 1, 3, none⟩ = false := (HM.blk 5 rfl).frozen 3
    have tklt : wb.heap.size + 1 < (wf).heap.size := HM.lt 5 rfl
    have mt0 : (wf).cell? ⟨wa.heap.size, 0, none⟩ = some (.int .i64 (me : Int)) := (HM.blk 2 rfl).cell 0
    have mtf0 : (wf).frozen? ⟨wa.heap.size, 0, none⟩ = false := (HM.blk 2 rfl).frozen 0
    have mt1 : (wf).cell? ⟨wa.heap.size, 1, none⟩ = some (.int .i64 (rev : Int)) := (HM.blk 2 rfl).cell 1
    have mtf1 : (wf).frozen? ⟨wa.heap.size, 1, none⟩ = false := (HM.blk 2 rfl).frozen 1
    have mt2 : (wf).cell? ⟨wa.heap.size, 2, none⟩ = some (.int .i64 (cr : Int)) := (HM.blk 2 rfl).cell 2
    have mtf2 : (wf).frozen? ⟨wa.heap.size, 2, none⟩ = false := (HM.blk 2 rfl).frozen 2
    have mt3 : (wf).cell? ⟨wa.heap.size, 3, none⟩ = some (.int .i64 0) := (HM.blk 2 rfl).cell 3
    have mtf3 : (wf).frozen? ⟨wa.heap.size, 3, none⟩ = false := (HM.blk 2 rfl).frozen 3
    have mt4 : (wf).cell? ⟨wa.heap.size, 4, none⟩ = some (.int .u64 0) := (HM.blk 2 rfl).cell 4
    have mtf4 : (wf).frozen? ⟨wa.heap.size, 4, none⟩ = false := (HM.blk 2 rfl).frozen 4
    have mt5 : (wf).cell? ⟨wa.heap.size, 5, none⟩ = some (.int .i64 (bad : Int)) := (HM.blk 2 rfl).cell 5
    have mtf5 : (wf).frozen? ⟨wa.heap.size, 5, none⟩ = false := (HM.blk 2 rfl).frozen 5
    have mt6 : (wf).cell? ⟨wa.heap.size, 6, none⟩ = some (.int .i64 0) := (HM.blk 2 rfl).cell 6
    have mtf6 : (wf).frozen? ⟨wa.heap.size, 6, none⟩ = false := (HM.blk 2 rfl).frozen 6
    have mtlt : wa.heap.size < (wf).heap.size := HM.lt 2 rfl
    have aa0 : (wf).cell? ⟨wd.heap.size, 0, none⟩ = some (.int .i64 (me : Int)) := (HM.blk 6 rfl).cell 0
    have aaf0 : (wf).frozen? ⟨wd.heap.size, 0, none⟩ = false := (HM.blk 6 rfl).frozen 0
    have aa1 : (wf).cell? ⟨wd.heap.size, 1, none⟩ = some (.int .i64 (rev : Int)) := (HM.blk 6 rfl).cell 1
    have aaf1 : (wf).frozen? ⟨wd.heap.size, 1, none⟩ = false := (HM.blk 6 rfl).frozen 1
    have aa2 : (wf).cell? ⟨wd.heap.size, 2, none⟩ = some (.int .i64 0) := (HM.blk 6 rfl).cell 2
    have aaf2 : (wf).frozen? ⟨wd.heap.size, 2, none⟩ = false := (HM.blk 6 rfl).frozen 2
    have aa3 : (wf).cell? ⟨wd.heap.size, 3, none⟩ = some (.int .i64 (y1 : Int)) := (HM.blk 6 rfl).cell 3
    have aaf3 : (wf).frozen? ⟨wd.heap.size, 3, none⟩ = false := (HM.blk 6 rfl).frozen 3
    have aa4 : (wf).cell? ⟨wd.heap.size, 4, none⟩ = some (.int .u64 (y2 : Int)) := (HM.blk 6 rfl).cell 4
    have aaf4 : (wf).frozen? ⟨wd.heap.size, 4, none⟩ = false := (HM.blk 6 rfl).frozen 4
    have aa5 : (wf).cell? ⟨wd.heap.size, 5, none⟩ = some (.int .i64 0) := (HM.blk 6 rfl).cell 5
    have aaf5 : (wf).frozen? ⟨wd.heap.size, 5, none⟩ = false := (HM.blk 6 rfl).frozen 5
    have aa6 : (wf).cell? ⟨wd.heap.size, 6, none⟩ = some (.int .i64 0) := (HM.blk 6 rfl).cell 6
    have aaf6 : (wf).frozen? ⟨wd.heap.size, 6, none⟩ = false := (HM.blk 6 rfl).frozen 6
    have aalt : wd.heap.size < (wf).heap.size := HM.lt 6 rfl
    have ne_oc_tk : wb.heap.size ≠ wb.heap.size + 1 := HM.ne 4 5 rfl rfl (by decide)
    have ne_oc_mt : wb.heap.size ≠ wa.heap.size := HM.ne 4 2 rfl rfl (by decide)
    have ne_oc_aa : wb.heap.size ≠ wd.heap.size := HM.ne 4 6 rfl rfl (by decide)
    have ne_tk_oc : wb.heap.size + 1 ≠ wb.heap.size := HM.ne 5 4 rfl rfl (by decide)
    have ne_tk_mt : wb.heap.size + 1 ≠ wa.heap.size := HM.ne 5 2 rfl rfl (by decide)
    have ne_tk_aa : wb.heap.size + 1 ≠ wd.heap.size := HM.ne 5 6 rfl rfl (by decide)
    have ne_mt_oc : wa.heap.size ≠ wb.heap.size := HM.ne 2 4 rfl rfl (by decide)
    have ne_mt_tk : wa.heap.size ≠ wb.heap.size + 1 := HM.ne 2 5 rfl rfl (by decide)
    have ne_mt_aa : wa.heap.size ≠ wd.heap.size := HM.ne 2 6 rfl rfl (by decide)
    have ne_aa_oc : wd.heap.size ≠ wb.heap.size := HM.ne 6 4 rfl rfl (by decide)
    have ne_aa_tk : wd.heap.size ≠ wb.heap.size + 1 := HM.ne 6 5 rfl rfl (by decide)
    have ne_aa_mt : wd.heap.size ≠ wa.heap.size := HM.ne 6 2 rfl rfl (by decide)
    clear hbf hps hO2 hwfP hps3 m1 m2 m3 m4 hwu
    go_wp2
    go_ret
    exact ⟨rfl, HM.call (below_a1 _ _) |>.below⟩
end Go.Proofs.Ytjdbgpkadfnfiaa

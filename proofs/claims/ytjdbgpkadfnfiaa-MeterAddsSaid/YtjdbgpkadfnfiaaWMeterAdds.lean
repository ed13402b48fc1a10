/- The walk of the law MeterAdds. -/
import Derived.Test.YtjdbgpkadfnfiaaMet
namespace Go.Proofs.Ytjdbgpkadfnfiaa
open Go.RowKit
set_option linter.unusedVariables false
set_option maxRecDepth 100000 in
set_option maxHeartbeats 4000000 in
theorem walk_meterAdds (w : World) (a0 : Value) (w0 : Fit Try.prog w 37 a0) (a1 : Value) (w1 : Fit Try.prog w 38 a1) :
    Calls Try.prog 4 #[a0, a1] w fun e w' => e = .returned (.bool true) ∧ Below w.heap.size w w' := by
  obtain ⟨a, b, c, d, rfl, wa, wb, wc, wd⟩ := new_fit w0
  obtain ⟨me, hme, m1⟩ := pk_natI a 50 (by omega)
  obtain ⟨rev, hrev, m2⟩ := pk_natI b 16 (by omega)
  obtain ⟨cr, hcr, m3⟩ := pk_natI c 100000000 (by omega)
  obtain ⟨bad, hbad, m4⟩ := pk_natI d 5 (by omega)
  have hnew := fun W => newm_ok a b c d W (me : Int) (rev : Int) (cr : Int) (bad : Int) wa wb wc wd hme hrev hcr hbad
  unfold mtr at hnew
  obtain ⟨e, f, g, h, rfl, we, wf, wg, wh⟩ := raw_fits w1
  clear w0 w1 hme hrev hcr hbad
  have hS := fun W => vsold_ok (.slice none 0 0) [] me rev (cr : Int) 0 0 (bad : Int) 0 0 f g h 0 W (isps_nil W) ook_nil (by simp) (by omega) (by omega) (by decide) wf wg wh pk_zero4
  have HM := Mem.init w
  obtain ⟨W0, hW0⟩ : ∃ W0, ((w).alloc (.cells #[.int .i64 a, .int .i64 b, .int .i64 c, .int .i64 d] 37)).alloc (.cells #[.int .i64 e, .int .i64 f, .int .i64 g, .int .i64 h] 38) = W0 := ⟨_, rfl⟩
  replace HM : Mem (w) [] _ [.blk (w.heap.size) 37 #[.int .i64 a, .int .i64 b, .int .i64 c, .int .i64 d]] := Mem.alloc HM (w.heap.size) (by first | (simp; done) | (simp; omega)) #[.int .i64 a, .int .i64 b, .int .i64 c, .int .i64 d] 37
  replace HM : Mem (w) [] _ [.blk (w.heap.size) 37 #[.int .i64 a, .int .i64 b, .int .i64 c, .int .i64 d], .blk (w.heap.size + 1) 38 #[.int .i64 e, .int .i64 f, .int .i64 g, .int .i64 h]] := Mem.alloc HM (w.heap.size + 1) (by first | (simp; done) | (simp; omega)) #[.int .i64 e, .int .i64 f, .int .i64 g, .int .i64 h] 38
  rw [hW0] at HM
  have nx0 : (W0).cell? ⟨w.heap.size, 0, none⟩ = some (.int .i64 a) := (HM.blk 0 rfl).cell 0
  have nxf0 : (W0).frozen? ⟨w.heap.size, 0, none⟩ = false := (HM.blk 0 rfl).frozen 0
  have nx1 : (W0).cell? ⟨w.heap.size, 1, none⟩ = some (.int .i64 b) := (HM.blk 0 rfl).cell 1
  have nxf1 : (W0).frozen? ⟨w.heap.size, 1, none⟩ = false := (HM.blk 0 rfl).frozen 1
  have nx2 : (W0).cell? ⟨w.heap.size, 2, none⟩ = some (.int .i64 c) := (HM.blk 0 rfl).cell 2
  have nxf2 : (W0).frozen? ⟨w.heap.size, 2, none⟩ = false := (HM.blk 0 rfl).frozen 2
  have nx3 : (W0).cell? ⟨w.heap.size, 3, none⟩ = some (.int .i64 d) := (HM.blk 0 rfl).cell 3
  have nxf3 : (W0).frozen? ⟨w.heap.size, 3, none⟩ = false := (HM.blk 0 rfl).frozen 3
  have nxlt : w.heap.size < (W0).heap.size := HM.lt 0 rfl
  have rx0 : (W0).cell? ⟨w.heap.size + 1, 0, none⟩ = some (.int .i64 e) := (HM.blk 1 rfl).cell 0
  have rxf0 : (W0).frozen? ⟨w.heap.size + 1, 0, none⟩ = false := (HM.blk 1 rfl).frozen 0
  have rx1 : (W0).cell? ⟨w.heap.size + 1, 1, none⟩ = some (.int .i64 f) := (HM.blk 1 rfl).cell 1
  have rxf1 : (W0).frozen? ⟨w.heap.size + 1, 1, none⟩ = false := (HM.blk 1 rfl).frozen 1
  have rx2 : (W0).cell? ⟨w.heap.size + 1, 2, none⟩ = some (.int .i64 g) := (HM.blk 1 rfl).cell 2
  have rxf2 : (W0).frozen? ⟨w.heap.size + 1, 2, none⟩ = false := (HM.blk 1 rfl).frozen 2
  have rx3 : (W0).cell? ⟨w.heap.size + 1, 3, none⟩ = some (.int .i64 h) := (HM.blk 1 rfl).cell 3
  have rxf3 : (W0).frozen? ⟨w.heap.size + 1, 3, none⟩ = false := (HM.blk 1 rfl).frozen 3
  have rxlt : w.heap.size + 1 < (W0).heap.size := HM.lt 1 rfl
  have ne_nx_rx : w.heap.size ≠ w.heap.size + 1 := HM.ne 0 1 rfl rfl (by decide)
  have ne_rx_nx : w.heap.size + 1 ≠ w.heap.size := HM.ne 1 0 rfl rfl (by decide)
  go_enter Try.func4, Try.ntmps4
  go_wp2_with fail
  refine (hnew _).mono ?_
  rintro e1 wa ⟨rfl, hba⟩
  replace HM : Mem (w) [] (wa) [.blk (w.heap.size) 37 #[.int .i64 a, .int .i64 b, .int .i64 c, .int .i64 d], .blk (w.heap.size + 1) 38 #[.int .i64 e, .int .i64 f, .int .i64 g, .int .i64 h]] := Mem.call HM hba
  clear nx0 nxf0 nx1 nxf1 nx2 nxf2 nx3 nxf3 nxlt rx0 rxf0 rx1 rxf1 rx2 rxf2 rx3 rxf3 rxlt ne_nx_rx ne_rx_nx
  have rx0 : (wa).cell? ⟨w.heap.size + 1, 0, none⟩ = some (.int .i64 e) := (HM.blk 1 rfl).cell 0
  have rxf0 : (wa).frozen? ⟨w.heap.size + 1, 0, none⟩ = false := (HM.blk 1 rfl).frozen 0
  have rx1 : (wa).cell? ⟨w.heap.size + 1, 1, none⟩ = some (.int .i64 f) := (HM.blk 1 rfl).cell 1
  have rxf1 : (wa).frozen? ⟨w.heap.size + 1, 1, none⟩ = false := (HM.blk 1 rfl).frozen 1
  have rx2 : (wa).cell? ⟨w.heap.size + 1, 2, none⟩ = some (.int .i64 g) := (HM.blk 1 rfl).cell 2
  have rxf2 : (wa).frozen? ⟨w.heap.size + 1, 2, none⟩ = false := (HM.blk 1 rfl).frozen 2
  have rx3 : (wa).cell? ⟨w.heap.size + 1, 3, none⟩ = some (.int .i64 h) := (HM.blk 1 rfl).cell 3
  have rxf3 : (wa).frozen? ⟨w.heap.size + 1, 3, none⟩ = false := (HM.blk 1 rfl).frozen 3
  have rxlt : w.heap.size + 1 < (wa).heap.size := HM.lt 1 rfl
  clear hba hnew hW0
  go_wp2_with fail
  obtain ⟨Wb, hWb⟩ : ∃ Wb, ((wa).setCell ⟨w.heap.size + 1, 0, none⟩ (.int .i64 0)).alloc (.cells #[.int .i64 (me : Int), .int .i64 (rev : Int), .int .i64 (cr : Int), .int .i64 0, .int .u64 0, .int .i64 (bad : Int), .int .i64 0] 26) = Wb := ⟨_, rfl⟩
  replace HM : Mem (w) [] _ [.blk (w.heap.size) 37 #[.int .i64 a, .int .i64 b, .int .i64 c, .int .i64 d], .blk (w.heap.size + 1) 38 #[.int .i64 0, .int .i64 f, .int .i64 g, .int .i64 h]] := Mem.set 1 HM rfl 0 (.int .i64 0)
  replace HM : Mem (w) [] _ [.blk (w.heap.size) 37 #[.int .i64 a, .int .i64 b, .int .i64 c, .int .i64 d], .blk (w.heap.size + 1) 38 #[.int .i64 0, .int .i64 f, .int .i64 g, .int .i64 h], .blk (wa.heap.size) 26 #[.int .i64 (me : Int), .int .i64 (rev : Int), .int .i64 (cr : Int), .int .i64 0, .int .u64 0, .int .i64 (bad : Int), .int .i64 0]] := Mem.alloc HM (wa.heap.size) (by first | (simp; done) | (simp; omega)) #[.int .i64 (me : Int), .int .i64 (rev : Int), .int .i64 (cr : Int), .int .i64 0, .int .u64 0, .int .i64 (bad : Int), .int .i64 0] 26
  rw [hWb] at HM ⊢
  clear hWb
  refine (hS _).mono ?_
  rintro e1 wb ⟨id, am, tag, t2, l2, A, cc, rfl, hk, hl2, ht2, hO2, hown, hbb⟩
  replace HM : Mem (w) [] (wb) [.blk (w.heap.size) 37 #[.int .i64 a, .int .i64 b, .int .i64 c, .int .i64 d], .blk (w.heap.size + 1) 38 #[.int .i64 0, .int .i64 f, .int .i64 g, .int .i64 h], .blk (wa.heap.size) 26 #[.int .i64 (me : Int), .int .i64 (rev : Int), .int .i64 (cr : Int), .int .i64 0, .int .u64 0, .int .i64 (bad : Int), .int .i64 0], .row (Wb.heap.size) (75) (4) (.slice A l2.length cc) (l2.length) (prs l2)] := Mem.row HM hbb hown (Nat.le_refl _)
  clear rx0 rxf0 rx1 rxf1 rx2 rxf2 rx3 rxf3 rxlt
  have mt0 : (wb).cell? ⟨wa.heap.size, 0, none⟩ = some (.int .i64 (me : Int)) := (HM.blk 2 rfl).cell 0
  have mtf0 : (wb).frozen? ⟨wa.heap.size, 0, none⟩ = false := (HM.blk 2 rfl).frozen 0
  have mt1 : (wb).cell? ⟨wa.heap.size, 1, none⟩ = some (.int .i64 (rev : Int)) := (HM.blk 2 rfl).cell 1
  have mtf1 : (wb).frozen? ⟨wa.heap.size, 1, none⟩ = false := (HM.blk 2 rfl).frozen 1
  have mt2 : (wb).cell? ⟨wa.heap.size, 2, none⟩ = some (.int .i64 (cr : Int)) := (HM.blk 2 rfl).cell 2
  have mtf2 : (wb).frozen? ⟨wa.heap.size, 2, none⟩ = false := (HM.blk 2 rfl).frozen 2
  have mt3 : (wb).cell? ⟨wa.heap.size, 3, none⟩ = some (.int .i64 0) := (HM.blk 2 rfl).cell 3
  have mtf3 : (wb).frozen? ⟨wa.heap.size, 3, none⟩ = false := (HM.blk 2 rfl).frozen 3
  have mt4 : (wb).cell? ⟨wa.heap.size, 4, none⟩ = some (.int .u64 0) := (HM.blk 2 rfl).cell 4
  have mtf4 : (wb).frozen? ⟨wa.heap.size, 4, none⟩ = false := (HM.blk 2 rfl).frozen 4
  have mt5 : (wb).cell? ⟨wa.heap.size, 5, none⟩ = some (.int .i64 (bad : Int)) := (HM.blk 2 rfl).cell 5
  have mtf5 : (wb).frozen? ⟨wa.heap.size, 5, none⟩ = false := (HM.blk 2 rfl).frozen 5
  have mt6 : (wb).cell? ⟨wa.heap.size, 6, none⟩ = some (.int .i64 0) := (HM.blk 2 rfl).cell 6
  have mtf6 : (wb).frozen? ⟨wa.heap.size, 6, none⟩ = false := (HM.blk 2 rfl).frozen 6
  have mtlt : wa.heap.size < (wb).heap.size := HM.lt 2 rfl
  clear hS hbb hown
  have hlk := look_iss [] (me : Int) (rev : Int) ((tbody 0 id am : Nat) : Int) (tag : Int)
  rw [hl2, ht2] at hlk
  have hKS := keyS_own (l := l2) (me := me) (rev := rev) (cr := cr) (H := 0) (B := 0) (bad := bad) (cls := 0) (id := id) (am := am) (tag := t2) (by omega) hlk
  have hj := judge_new hk.h2
  have ham := hk.am
  have h1am : 1 ≤ am := by have := hk.h4; omega
  obtain ⟨x, hx⟩ : ∃ x : Nat, (cr : Int) + (am : Int) = (x : Int) := ⟨cr + am, by omega⟩
  have hxn : cr + am = x := by omega
  have hxw : IntKind.i64.wrap ((cr : Int) + (am : Int)) = (x : Int) := by rw [hx]; exact IntWalk.i64_in _ (by omega)
  have hmm : mmay (me : Int) (rev : Int) (cr : Int) ((0 : Nat) : Int) 0 (bad : Int) ((0 : Nat) : Int) = true := mmay_of (H := 0) (lock := 0) (by omega) (by omega) (by omega) (by omega) (by omega) (by omega) wmay_new
  have hwfP := ook_wf hO2
  have hps := fun (W : World) (h : W.ownsRow Wb.heap.size 75 4 (.slice A l2.length cc) l2.length (prs l2)) => isps_own rfl hwfP h
  have hKey := fun r2 c2 h2 b2 d2 k2 ad E W h hR => key_ok (.slice A l2.length cc) l2 me rev cr 0 0 bad 0 0 id am t2 r2 c2 h2 b2 d2 k2 ad E W h hO2 (by decide) hmm hk hR
  obtain ⟨y1, y2, hy⟩ : ∃ y1 y2, wtake 0 0 id = (y1, y2) := ⟨_, _, rfl⟩
  unfold takeS at hKS
  rw [hj, if_neg (by omega), if_pos rfl, hxn, hy] at hKS
  clear hk hl2 ht2 hlk hj hmm hx hxn hy
  go_wp2_with fail
  obtain ⟨Wc, hWc⟩ : ∃ Wc, ((wb).alloc (.cells #[.slice A l2.length cc] 29)).alloc (.cells #[.int .i64 0, .int .i64 (id : Int), .int .i64 (am : Int), .int .i64 (t2 : Int)] 31) = Wc := ⟨_, rfl⟩
  replace HM : Mem (w) [] _ [.blk (w.heap.size) 37 #[.int .i64 a, .int .i64 b, .int .i64 c, .int .i64 d], .blk (w.heap.size + 1) 38 #[.int .i64 0, .int .i64 f, .int .i64 g, .int .i64 h], .blk (wa.heap.size) 26 #[.int .i64 (me : Int), .int .i64 (rev : Int), .int .i64 (cr : Int), .int .i64 0, .int .u64 0, .int .i64 (bad : Int), .int .i64 0], .row (Wb.heap.size) (75) (4) (.slice A l2.length cc) (l2.length) (prs l2), .blk (wb.heap.size) 29 #[.slice A l2.length cc]] := Mem.alloc HM (wb.heap.size) (by first | (simp; done) | (simp; omega)) #[.slice A l2.length cc] 29
  replace HM : Mem (w) [] _ [.blk (w.heap.size) 37 #[.int .i64 a, .int .i64 b, .int .i64 c, .int .i64 d], .blk (w.heap.size + 1) 38 #[.int .i64 0, .int .i64 f, .int .i64 g, .int .i64 h], .blk (wa.heap.size) 26 #[.int .i64 (me : Int), .int .i64 (rev : Int), .int .i64 (cr : Int), .int .i64 0, .int .u64 0, .int .i64 (bad : Int), .int .i64 0], .row (Wb.heap.size) (75) (4) (.slice A l2.length cc) (l2.length) (prs l2), .blk (wb.heap.size) 29 #[.slice A l2.length cc], .blk (wb.heap.size + 1) 31 #[.int .i64 0, .int .i64 (id : Int), .int .i64 (am : Int), .int .i64 (t2 : Int)]] := Mem.alloc HM (wb.heap.size + 1) (by first | (simp; done) | (simp; omega)) #[.int .i64 0, .int .i64 (id : Int), .int .i64 (am : Int), .int .i64 (t2 : Int)] 31
  rw [hWc] at HM ⊢
  clear hWc

  by_cases hov : 99999999 < x
  · rw [if_pos hov] at hKS
    have hovI : 99999999 < (x : Int) := by omega
    have hEq := fun W => meter_same (me : Int) (rev : Int) (cr : Int) 0 0 (bad : Int) 0 W
    refine (hKey _ _ _ _ _ _ _ _ _ (hps _ (HM.own_ 3 rfl)) (Lib.hid hKS)).mono ?_
    rintro e1 wd ⟨rfl, hbd⟩
    replace HM : Mem (w) [] (wd) [.blk (w.heap.size) 37 #[.int .i64 a, .int .i64 b, .int .i64 c, .int .i64 d], .blk (w.heap.size + 1) 38 #[.int .i64 0, .int .i64 f, .int .i64 g, .int .i64 h], .blk (wa.heap.size) 26 #[.int .i64 (me : Int), .int .i64 (rev : Int), .int .i64 (cr : Int), .int .i64 0, .int .u64 0, .int .i64 (bad : Int), .int .i64 0], .row (Wb.heap.size) (75) (4) (.slice A l2.length cc) (l2.length) (prs l2), .blk (wb.heap.size) 29 #[.slice A l2.length cc], .blk (wb.heap.size + 1) 31 #[.int .i64 0, .int .i64 (id : Int), .int .i64 (am : Int), .int .i64 (t2 : Int)]] := Mem.call HM hbd
    clear mt0 mtf0 mt1 mtf1 mt2 mtf2 mt3 mtf3 mt4 mtf4 mt5 mtf5 mt6 mtf6 mtlt
    have mt0 : (wd).cell? ⟨wa.heap.size, 0, none⟩ = some (.int .i64 (me : Int)) := (HM.blk 2 rfl).cell 0
    have mtf0 : (wd).frozen? ⟨wa.heap.size, 0, none⟩ = false := (HM.blk 2 rfl).frozen 0
    have mt1 : (wd).cell? ⟨wa.heap.size, 1, none⟩ = some (.int .i64 (rev : Int)) := (HM.blk 2 rfl).cell 1
    have mtf1 : (wd).frozen? ⟨wa.heap.size, 1, none⟩ = false := (HM.blk 2 rfl).frozen 1
    have mt2 : (wd).cell? ⟨wa.heap.size, 2, none⟩ = some (.int .i64 (cr : Int)) := (HM.blk 2 rfl).cell 2
    have mtf2 : (wd).frozen? ⟨wa.heap.size, 2, none⟩ = false := (HM.blk 2 rfl).frozen 2
    have mt3 : (wd).cell? ⟨wa.heap.size, 3, none⟩ = some (.int .i64 0) := (HM.blk 2 rfl).cell 3
    have mtf3 : (wd).frozen? ⟨wa.heap.size, 3, none⟩ = false := (HM.blk 2 rfl).frozen 3
    have mt4 : (wd).cell? ⟨wa.heap.size, 4, none⟩ = some (.int .u64 0) := (HM.blk 2 rfl).cell 4
    have mtf4 : (wd).frozen? ⟨wa.heap.size, 4, none⟩ = false := (HM.blk 2 rfl).frozen 4
    have mt5 : (wd).cell? ⟨wa.heap.size, 5, none⟩ = some (.int .i64 (bad : Int)) := (HM.blk 2 rfl).cell 5
    have mtf5 : (wd).frozen? ⟨wa.heap.size, 5, none⟩ = false := (HM.blk 2 rfl).frozen 5
    have mt6 : (wd).cell? ⟨wa.heap.size, 6, none⟩ = some (.int .i64 0) := (HM.blk 2 rfl).cell 6
    have mtf6 : (wd).frozen? ⟨wa.heap.size, 6, none⟩ = false := (HM.blk 2 rfl).frozen 6
    have mtlt : wa.heap.size < (wd).heap.size := HM.lt 2 rfl
    have tk0 : (wd).cell? ⟨wb.heap.size + 1, 0, none⟩ = some (.int .i64 0) := (HM.blk 5 rfl).cell 0
    have tkf0 : (wd).frozen? ⟨wb.heap.size + 1, 0, none⟩ = false := (HM.blk 5 rfl).frozen 0
    have tk1 : (wd).cell? ⟨wb.heap.size + 1, 1, none⟩ = some (.int .i64 (id : Int)) := (HM.blk 5 rfl).cell 1
    have tkf1 : (wd).frozen? ⟨wb.heap.size + 1, 1, none⟩ = false := (HM.blk 5 rfl).frozen 1
    have tk2 : (wd).cell? ⟨wb.heap.size + 1, 2, none⟩ = some (.int .i64 (am : Int)) := (HM.blk 5 rfl).cell 2
    have tkf2 : (wd).frozen? ⟨wb.heap.size + 1, 2, none⟩ = false := (HM.blk 5 rfl).frozen 2
    have tk3 : (wd).cell? ⟨wb.heap.size + 1, 3, none⟩ = some (.int .i64 (t2 : Int)) := (HM.blk 5 rfl).cell 3
    have tkf3 : (wd).frozen? ⟨wb.heap.size + 1, 3, none⟩ = false := (HM.blk 5 rfl).frozen 3
    have tklt : wb.heap.size + 1 < (wd).heap.size := HM.lt 5 rfl
    have ne_mt_tk : wa.heap.size ≠ wb.heap.size + 1 := HM.ne 2 5 rfl rfl (by decide)
    have ne_tk_mt : wb.heap.size + 1 ≠ wa.heap.size := HM.ne 5 2 rfl rfl (by decide)
    clear hbd hKey hKS hps hO2 hwfP
    go_wp2
    go_ret
    exact ⟨rfl, HM.call (below_a1 _ _) |>.below⟩
  · skip
    rw [if_neg hov] at hKS
    have hovI : (x : Int) ≤ 99999999 := by omega
    refine (hKey _ _ _ _ _ _ _ _ _ (hps _ (HM.own_ 3 rfl)) (Lib.hid hKS)).mono ?_
    rintro e1 wd ⟨rfl, hbd⟩
    replace HM : Mem (w) [] (wd) [.blk (w.heap.size) 37 #[.int .i64 a, .int .i64 b, .int .i64 c, .int .i64 d], .blk (w.heap.size + 1) 38 #[.int .i64 0, .int .i64 f, .int .i64 g, .int .i64 h], .blk (wa.heap.size) 26 #[.int .i64 (me : Int), .int .i64 (rev : Int), .int .i64 (cr : Int), .int .i64 0, .int .u64 0, .int .i64 (bad : Int), .int .i64 0], .row (Wb.heap.size) (75) (4) (.slice A l2.length cc) (l2.length) (prs l2), .blk (wb.heap.size) 29 #[.slice A l2.length cc], .blk (wb.heap.size + 1) 31 #[.int .i64 0, .int .i64 (id : Int), .int .i64 (am : Int), .int .i64 (t2 : Int)]] := Mem.call HM hbd
    clear mt0 mtf0 mt1 mtf1 mt2 mtf2 mt3 mtf3 mt4 mtf4 mt5 mtf5 mt6 mtf6 mtlt
    have mt0 : (wd).cell? ⟨wa.heap.size, 0, none⟩ = some (.int .i64 (me : Int)) := (HM.blk 2 rfl).cell 0
    have mtf0 : (wd).frozen? ⟨wa.heap.size, 0, none⟩ = false := (HM.blk 2 rfl).frozen 0
    have mt1 : (wd).cell? ⟨wa.heap.size, 1, none⟩ = some (.int .i64 (rev : Int)) := (HM.blk 2 rfl).cell 1
    have mtf1 : (wd).frozen? ⟨wa.heap.size, 1, none⟩ = false := (HM.blk 2 rfl).frozen 1
    have mt2 : (wd).cell? ⟨wa.heap.size, 2, none⟩ = some (.int .i64 (cr : Int)) := (HM.blk 2 rfl).cell 2
    have mtf2 : (wd).frozen? ⟨wa.heap.size, 2, none⟩ = false := (HM.blk 2 rfl).frozen 2
    have mt3 : (wd).cell? ⟨wa.heap.size, 3, none⟩ = some (.int .i64 0) := (HM.blk 2 rfl).cell 3
    have mtf3 : (wd).frozen? ⟨wa.heap.size, 3, none⟩ = false := (HM.blk 2 rfl).frozen 3
    have mt4 : (wd).cell? ⟨wa.heap.size, 4, none⟩ = some (.int .u64 0) := (HM.blk 2 rfl).cell 4
    have mtf4 : (wd).frozen? ⟨wa.heap.size, 4, none⟩ = false := (HM.blk 2 rfl).frozen 4
    have mt5 : (wd).cell? ⟨wa.heap.size, 5, none⟩ = some (.int .i64 (bad : Int)) := (HM.blk 2 rfl).cell 5
    have mtf5 : (wd).frozen? ⟨wa.heap.size, 5, none⟩ = false := (HM.blk 2 rfl).frozen 5
    have mt6 : (wd).cell? ⟨wa.heap.size, 6, none⟩ = some (.int .i64 0) := (HM.blk 2 rfl).cell 6
    have mtf6 : (wd).frozen? ⟨wa.heap.size, 6, none⟩ = false := (HM.blk 2 rfl).frozen 6
    have mtlt : wa.heap.size < (wd).heap.size := HM.lt 2 rfl
    have tk0 : (wd).cell? ⟨wb.heap.size + 1, 0, none⟩ = some (.int .i64 0) := (HM.blk 5 rfl).cell 0
    have tkf0 : (wd).frozen? ⟨wb.heap.size + 1, 0, none⟩ = false := (HM.blk 5 rfl).frozen 0
    have tk1 : (wd).cell? ⟨wb.heap.size + 1, 1, none⟩ = some (.int .i64 (id : Int)) := (HM.blk 5 rfl).cell 1
    have tkf1 : (wd).frozen? ⟨wb.heap.size + 1, 1, none⟩ = false := (HM.blk 5 rfl).frozen 1
    have tk2 : (wd).cell? ⟨wb.heap.size + 1, 2, none⟩ = some (.int .i64 (am : Int)) := (HM.blk 5 rfl).cell 2
    have tkf2 : (wd).frozen? ⟨wb.heap.size + 1, 2, none⟩ = false := (HM.blk 5 rfl).frozen 2
    have tk3 : (wd).cell? ⟨wb.heap.size + 1, 3, none⟩ = some (.int .i64 (t2 : Int)) := (HM.blk 5 rfl).cell 3
    have tkf3 : (wd).frozen? ⟨wb.heap.size + 1, 3, none⟩ = false := (HM.blk 5 rfl).frozen 3
    have tklt : wb.heap.size + 1 < (wd).heap.size := HM.lt 5 rfl
    have ne_mt_tk : wa.heap.size ≠ wb.heap.size + 1 := HM.ne 2 5 rfl rfl (by decide)
    have ne_tk_mt : wb.heap.size + 1 ≠ wa.heap.size := HM.ne 5 2 rfl rfl (by decide)
    clear hbd hKey hKS hps hO2 hwfP m1 m2 m3 m4 hov ham h1am
    go_wp2
    go_ret
    exact ⟨rfl, HM.call (below_a1 _ _) |>.below⟩
end Go.Proofs.Ytjdbgpkadfnfiaa

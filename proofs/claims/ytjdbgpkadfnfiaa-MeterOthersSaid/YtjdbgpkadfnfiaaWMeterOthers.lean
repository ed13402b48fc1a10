/- The walk of the law MeterOthers. -/
import Derived.Test.YtjdbgpkadfnfiaaMet
import Derived.Deep.RegionWith
namespace Go.Proofs.Ytjdbgpkadfnfiaa
open Go.RowKit
set_option linter.unusedVariables false
set_option maxRecDepth 100000 in
set_option maxHeartbeats 4000000 in
theorem walk_meterOthers (w : World) (a0 : Value) (w0 : Fit Try.prog w 37 a0) (a1 : Int) (w1 : (Lit.int .i64 a1).wf = true) (a2 : Value) (w2 : Fit Try.prog w 38 a2) :
    Calls Try.prog 6 #[a0, .int .i64 a1, a2] w fun e w' => e = .returned (.bool true) ∧ Below w.heap.size w w' := by
  obtain ⟨a, b, c, d, rfl, wa, wb, wc, wd⟩ := new_fit w0
  obtain ⟨me, hme, m1⟩ := pk_natI a 50 (by omega)
  obtain ⟨rev, hrev, m2⟩ := pk_natI b 16 (by omega)
  obtain ⟨cr, hcr, m3⟩ := pk_natI c 100000000 (by omega)
  obtain ⟨bad, hbad, m4⟩ := pk_natI d 5 (by omega)
  have hnew := fun W => newm_ok a b c d W (me : Int) (rev : Int) (cr : Int) (bad : Int) wa wb wc wd hme hrev hcr hbad
  unfold mtr at hnew
  obtain ⟨e, f, g, h, rfl, we, wf, wg, wh⟩ := raw_fits w2
  obtain ⟨cls, hcls, hc2⟩ := pk_natI e 3 (by omega)
  obtain ⟨ot, hot, ho2⟩ := pk_natI a1 49 (by omega)
  clear w0 w2 hme hrev hcr hbad
  have hcI : (cls : Int) < 4 := by omega
  obtain ⟨far, hfar⟩ : ∃ far : Nat, ((me : Int) + 1 + (ot : Int)) % 50 = (far : Int) := ⟨((me : Int) + 1 + (ot : Int)).toNat % 50, by omega⟩
  have hfar2 : ((me : Int) + 1 + (ot : Int)).tmod 50 = (far : Int) := by rw [Int.tmod_eq_emod_of_nonneg (by omega)]; exact hfar
  have hne : far ≠ me := by omega
  have hf50 : far < 50 := by omega
  obtain ⟨me1, hme1⟩ : ∃ k : Nat, (me : Int) + 1 = (k : Int) := ⟨me + 1, by omega⟩
  obtain ⟨me2, hme2⟩ : ∃ k : Nat, (me1 : Int) + (ot : Int) = (k : Int) := ⟨me1 + ot, by omega⟩
  rw [hme1, hme2] at hfar2
  have g1 : IntKind.i64.wrap ((me : Int) + 1) = (me1 : Int) := by rw [hme1]; exact IntWalk.i64_in _ (by omega)
  have g2 : IntKind.i64.wrap ((me1 : Int) + (ot : Int)) = (me2 : Int) := by rw [hme2]; exact IntWalk.i64_in _ (by omega)
  have g3 : IntKind.i64.wrap (((me2 : Int)).tmod 50) = (far : Int) := by rw [hfar2]; exact IntWalk.i64_in _ (by omega)
  clear hme1 hme2 hfar
  have hS := fun W => vsold_ok (.slice none 0 0) [] far rev (cr : Int) 0 0 (bad : Int) 0 (cls : Int) f g h cls W (isps_nil W) ook_nil (by simp) hf50 (by omega) (WalkArith.wf_i64 (by omega)) wf wg wh (Lib.hid (pk_self hcI))
  have hc2n : cls ≤ 2 := by omega
  clear hcI
  have HM := Mem.init w
  obtain ⟨W0, hW0⟩ : ∃ W0, ((w).alloc (.cells #[.int .i64 a, .int .i64 b, .int .i64 c, .int .i64 d] 37)).alloc (.cells #[.int .i64 e, .int .i64 f, .int .i64 g, .int .i64 h] 38) = W0 := ⟨_, rfl⟩
  replace HM : Mem (w) [] _ [.blk (w.heap.size) 37 #[.int .i64 a, .int .i64 b, .int .i64 c, .int .i64 d]] := Mem.alloc HM (w.heap.size) (by first | (simp; done) | (simp; omega)) #[.int .i64 a, .int .i64 b, .int .i64 c, .int .i64 d] 37
  replace HM : Mem (w) [] _ [.blk (w.heap.size) 37 #[.int .i64 a, .int .i64 b, .int .i64 c, .int .i64 d], .blk (w.heap.size + 1) 38 #[.int .i64 e, .int .i64 f, .int .i64 g, .int .i64 h]] := Mem.alloc HM (w.heap.size + 1) (by first | (simp; done) | (simp; omega)) #[.int .i64 e, .int .i64 f, .int .i64 g, .int .i64 h] 38
  rw [hW0] at HM
  have nx0 : (W0).cell? ⟨w.heap.size, 0, none⟩ = some (.int .i64 a) := (HM.blk 0 rfl).cell 0
  have nxf0 : (W0).frozen? ⟨w.heap.size, 0, none⟩ = false := (HM.blk 0 rfl).frozen 0
  have nx1 : (W0).cell? ⟨w.heap.size, 1, none⟩ = some (.int .i64 b) := (HM.blk 0 rfl).cell 1
  have nxf1 : (W0).frozen? ⟨w.heap.size, 1, none⟩ = false := (HM.blk 0 rfl).frozen 1
  have nx2 : (W0).cell? ⟨w.heap.size, 2, none⟩ = some (.int .i64 c) := (HM.blk 0 rfl).cell 2
  have nxf2 : (W0).frozen? ⟨w.heap.size, 2, none⟩ = false := (HM.blk 0 rfl).frozen 2
  have nx3 : (W0).cell? ⟨w.heap.size, 3, none⟩ = some (.int .i64 d) := (HM.blk 0 rfl).cell 3
  have nxf3 : (W0).frozen? ⟨w.heap.size, 3, none⟩ = false := (HM.blk 0 rfl).frozen 3
  have nxlt : w.heap.size < (W0).heap.size := HM.lt 0 rfl
  have rx0 : (W0).cell? ⟨w.heap.size + 1, 0, none⟩ = some (.int .i64 e) := (HM.blk 1 rfl).cell 0
  have rxf0 : (W0).frozen? ⟨w.heap.size + 1, 0, none⟩ = false := (HM.blk 1 rfl).frozen 0
  have rx1 : (W0).cell? ⟨w.heap.size + 1, 1, none⟩ = some (.int .i64 f) := (HM.blk 1 rfl).cell 1
  have rxf1 : (W0).frozen? ⟨w.heap.size + 1, 1, none⟩ = false := (HM.blk 1 rfl).frozen 1
  have rx2 : (W0).cell? ⟨w.heap.size + 1, 2, none⟩ = some (.int .i64 g) := (HM.blk 1 rfl).cell 2
  have rxf2 : (W0).frozen? ⟨w.heap.size + 1, 2, none⟩ = false := (HM.blk 1 rfl).frozen 2
  have rx3 : (W0).cell? ⟨w.heap.size + 1, 3, none⟩ = some (.int .i64 h) := (HM.blk 1 rfl).cell 3
  have rxf3 : (W0).frozen? ⟨w.heap.size + 1, 3, none⟩ = false := (HM.blk 1 rfl).frozen 3
  have rxlt : w.heap.size + 1 < (W0).heap.size := HM.lt 1 rfl
  have ne_nx_rx : w.heap.size ≠ w.heap.size + 1 := HM.ne 0 1 rfl rfl (by decide)
  have ne_rx_nx : w.heap.size + 1 ≠ w.heap.size := HM.ne 1 0 rfl rfl (by decide)
  go_enter Try.func6, Try.ntmps6
  go_wp2_with fail
  refine (hnew _).mono ?_
  rintro e1 wa ⟨rfl, hba⟩
  replace HM : Mem (w) [] (wa) [.blk (w.heap.size) 37 #[.int .i64 a, .int .i64 b, .int .i64 c, .int .i64 d], .blk (w.heap.size + 1) 38 #[.int .i64 e, .int .i64 f, .int .i64 g, .int .i64 h]] := Mem.call HM hba
  clear hba hnew hW0
  go_wp2_with fail
  obtain ⟨Wb, hWb⟩ : ∃ Wb, ((wa).alloc (.cells #[.int .i64 (me : Int), .int .i64 (rev : Int), .int .i64 (cr : Int), .int .i64 0, .int .u64 0, .int .i64 (bad : Int), .int .i64 0] 26)).alloc (.cells #[.int .i64 (me : Int), .int .i64 (rev : Int), .int .i64 (cr : Int), .int .i64 0, .int .u64 0, .int .i64 (bad : Int), .int .i64 0] 26) = Wb := ⟨_, rfl⟩
  replace HM : Mem (w) [] _ [.blk (w.heap.size) 37 #[.int .i64 a, .int .i64 b, .int .i64 c, .int .i64 d], .blk (w.heap.size + 1) 38 #[.int .i64 e, .int .i64 f, .int .i64 g, .int .i64 h], .blk (wa.heap.size) 26 #[.int .i64 (me : Int), .int .i64 (rev : Int), .int .i64 (cr : Int), .int .i64 0, .int .u64 0, .int .i64 (bad : Int), .int .i64 0]] := Mem.alloc HM (wa.heap.size) (by first | (simp; done) | (simp; omega)) #[.int .i64 (me : Int), .int .i64 (rev : Int), .int .i64 (cr : Int), .int .i64 0, .int .u64 0, .int .i64 (bad : Int), .int .i64 0] 26
  replace HM : Mem (w) [] _ [.blk (w.heap.size) 37 #[.int .i64 a, .int .i64 b, .int .i64 c, .int .i64 d], .blk (w.heap.size + 1) 38 #[.int .i64 e, .int .i64 f, .int .i64 g, .int .i64 h], .blk (wa.heap.size) 26 #[.int .i64 (me : Int), .int .i64 (rev : Int), .int .i64 (cr : Int), .int .i64 0, .int .u64 0, .int .i64 (bad : Int), .int .i64 0], .blk (wa.heap.size + 1) 26 #[.int .i64 (me : Int), .int .i64 (rev : Int), .int .i64 (cr : Int), .int .i64 0, .int .u64 0, .int .i64 (bad : Int), .int .i64 0]] := Mem.alloc HM (wa.heap.size + 1) (by first | (simp; done) | (simp; omega)) #[.int .i64 (me : Int), .int .i64 (rev : Int), .int .i64 (cr : Int), .int .i64 0, .int .u64 0, .int .i64 (bad : Int), .int .i64 0] 26
  rw [hWb] at HM ⊢
  clear hWb
  clear nx0 nxf0 nx1 nxf1 nx2 nxf2 nx3 nxf3 nxlt rx0 rxf0 rx1 rxf1 rx2 rxf2 rx3 rxf3 rxlt ne_nx_rx ne_rx_nx
  have rx0 : (Wb).cell? ⟨w.heap.size + 1, 0, none⟩ = some (.int .i64 e) := (HM.blk 1 rfl).cell 0
  have rxf0 : (Wb).frozen? ⟨w.heap.size + 1, 0, none⟩ = false := (HM.blk 1 rfl).frozen 0
  have rx1 : (Wb).cell? ⟨w.heap.size + 1, 1, none⟩ = some (.int .i64 f) := (HM.blk 1 rfl).cell 1
  have rxf1 : (Wb).frozen? ⟨w.heap.size + 1, 1, none⟩ = false := (HM.blk 1 rfl).frozen 1
  have rx2 : (Wb).cell? ⟨w.heap.size + 1, 2, none⟩ = some (.int .i64 g) := (HM.blk 1 rfl).cell 2
  have rxf2 : (Wb).frozen? ⟨w.heap.size + 1, 2, none⟩ = false := (HM.blk 1 rfl).frozen 2
  have rx3 : (Wb).cell? ⟨w.heap.size + 1, 3, none⟩ = some (.int .i64 h) := (HM.blk 1 rfl).cell 3
  have rxf3 : (Wb).frozen? ⟨w.heap.size + 1, 3, none⟩ = false := (HM.blk 1 rfl).frozen 3
  have rxlt : w.heap.size + 1 < (Wb).heap.size := HM.lt 1 rfl
  have mt0 : (Wb).cell? ⟨wa.heap.size, 0, none⟩ = some (.int .i64 (me : Int)) := (HM.blk 2 rfl).cell 0
  have mtf0 : (Wb).frozen? ⟨wa.heap.size, 0, none⟩ = false := (HM.blk 2 rfl).frozen 0
  have mt1 : (Wb).cell? ⟨wa.heap.size, 1, none⟩ = some (.int .i64 (rev : Int)) := (HM.blk 2 rfl).cell 1
  have mtf1 : (Wb).frozen? ⟨wa.heap.size, 1, none⟩ = false := (HM.blk 2 rfl).frozen 1
  have mt2 : (Wb).cell? ⟨wa.heap.size, 2, none⟩ = some (.int .i64 (cr : Int)) := (HM.blk 2 rfl).cell 2
  have mtf2 : (Wb).frozen? ⟨wa.heap.size, 2, none⟩ = false := (HM.blk 2 rfl).frozen 2
  have mt3 : (Wb).cell? ⟨wa.heap.size, 3, none⟩ = some (.int .i64 0) := (HM.blk 2 rfl).cell 3
  have mtf3 : (Wb).frozen? ⟨wa.heap.size, 3, none⟩ = false := (HM.blk 2 rfl).frozen 3
  have mt4 : (Wb).cell? ⟨wa.heap.size, 4, none⟩ = some (.int .u64 0) := (HM.blk 2 rfl).cell 4
  have mtf4 : (Wb).frozen? ⟨wa.heap.size, 4, none⟩ = false := (HM.blk 2 rfl).frozen 4
  have mt5 : (Wb).cell? ⟨wa.heap.size, 5, none⟩ = some (.int .i64 (bad : Int)) := (HM.blk 2 rfl).cell 5
  have mtf5 : (Wb).frozen? ⟨wa.heap.size, 5, none⟩ = false := (HM.blk 2 rfl).frozen 5
  have mt6 : (Wb).cell? ⟨wa.heap.size, 6, none⟩ = some (.int .i64 0) := (HM.blk 2 rfl).cell 6
  have mtf6 : (Wb).frozen? ⟨wa.heap.size, 6, none⟩ = false := (HM.blk 2 rfl).frozen 6
  have mtlt : wa.heap.size < (Wb).heap.size := HM.lt 2 rfl
  have mf0 : (Wb).cell? ⟨wa.heap.size + 1, 0, none⟩ = some (.int .i64 (me : Int)) := (HM.blk 3 rfl).cell 0
  have mff0 : (Wb).frozen? ⟨wa.heap.size + 1, 0, none⟩ = false := (HM.blk 3 rfl).frozen 0
  have mf1 : (Wb).cell? ⟨wa.heap.size + 1, 1, none⟩ = some (.int .i64 (rev : Int)) := (HM.blk 3 rfl).cell 1
  have mff1 : (Wb).frozen? ⟨wa.heap.size + 1, 1, none⟩ = false := (HM.blk 3 rfl).frozen 1
  have mf2 : (Wb).cell? ⟨wa.heap.size + 1, 2, none⟩ = some (.int .i64 (cr : Int)) := (HM.blk 3 rfl).cell 2
  have mff2 : (Wb).frozen? ⟨wa.heap.size + 1, 2, none⟩ = false := (HM.blk 3 rfl).frozen 2
  have mf3 : (Wb).cell? ⟨wa.heap.size + 1, 3, none⟩ = some (.int .i64 0) := (HM.blk 3 rfl).cell 3
  have mff3 : (Wb).frozen? ⟨wa.heap.size + 1, 3, none⟩ = false := (HM.blk 3 rfl).frozen 3
  have mf4 : (Wb).cell? ⟨wa.heap.size + 1, 4, none⟩ = some (.int .u64 0) := (HM.blk 3 rfl).cell 4
  have mff4 : (Wb).frozen? ⟨wa.heap.size + 1, 4, none⟩ = false := (HM.blk 3 rfl).frozen 4
  have mf5 : (Wb).cell? ⟨wa.heap.size + 1, 5, none⟩ = some (.int .i64 (bad : Int)) := (HM.blk 3 rfl).cell 5
  have mff5 : (Wb).frozen? ⟨wa.heap.size + 1, 5, none⟩ = false := (HM.blk 3 rfl).frozen 5
  have mf6 : (Wb).cell? ⟨wa.heap.size + 1, 6, none⟩ = some (.int .i64 0) := (HM.blk 3 rfl).cell 6
  have mff6 : (Wb).frozen? ⟨wa.heap.size + 1, 6, none⟩ = false := (HM.blk 3 rfl).frozen 6
  have mflt : wa.heap.size + 1 < (Wb).heap.size := HM.lt 3 rfl
  have ne_rx_mt : w.heap.size + 1 ≠ wa.heap.size := HM.ne 1 2 rfl rfl (by decide)
  have ne_rx_mf : w.heap.size + 1 ≠ wa.heap.size + 1 := HM.ne 1 3 rfl rfl (by decide)
  have ne_mt_rx : wa.heap.size ≠ w.heap.size + 1 := HM.ne 2 1 rfl rfl (by decide)
  have ne_mt_mf : wa.heap.size ≠ wa.heap.size + 1 := HM.ne 2 3 rfl rfl (by decide)
  have ne_mf_rx : wa.heap.size + 1 ≠ w.heap.size + 1 := HM.ne 3 1 rfl rfl (by decide)
  have ne_mf_mt : wa.heap.size + 1 ≠ wa.heap.size := HM.ne 3 2 rfl rfl (by decide)
  go_region_with ((go_at_call 13; (with_reducible refine (picked_is _ hot w1 (by omega) (by omega)).mono ?_); rintro e w' ⟨rfl, rfl⟩))
  all_goals
    obtain ⟨Wc, hWc⟩ : ∃ Wc, ((Wb).setCell ⟨wa.heap.size + 1, 0, none⟩ (.int .i64 (far : Int))).drew = Wc := ⟨_, rfl⟩
    replace HM : Mem (w) [] _ [.blk (w.heap.size) 37 #[.int .i64 a, .int .i64 b, .int .i64 c, .int .i64 d], .blk (w.heap.size + 1) 38 #[.int .i64 e, .int .i64 f, .int .i64 g, .int .i64 h], .blk (wa.heap.size) 26 #[.int .i64 (me : Int), .int .i64 (rev : Int), .int .i64 (cr : Int), .int .i64 0, .int .u64 0, .int .i64 (bad : Int), .int .i64 0], .blk (wa.heap.size + 1) 26 #[.int .i64 (far : Int), .int .i64 (rev : Int), .int .i64 (cr : Int), .int .i64 0, .int .u64 0, .int .i64 (bad : Int), .int .i64 0]] := Mem.set 3 HM rfl 0 (.int .i64 (far : Int))
    replace HM := HM.drew
    rw [hWc] at HM ⊢
    clear hWc
    clear rx0 rxf0 rx1 rxf1 rx2 rxf2 rx3 rxf3 rxlt mt0 mtf0 mt1 mtf1 mt2 mtf2 mt3 mtf3 mt4 mtf4 mt5 mtf5 mt6 mtf6 mtlt mf0 mff0 mf1 mff1 mf2 mff2 mf3 mff3 mf4 mff4 mf5 mff5 mf6 mff6 mflt ne_rx_mt ne_rx_mf ne_mt_rx ne_mt_mf ne_mf_rx ne_mf_mt
    have rx0 : (Wc).cell? ⟨w.heap.size + 1, 0, none⟩ = some (.int .i64 e) := (HM.blk 1 rfl).cell 0
    have rxf0 : (Wc).frozen? ⟨w.heap.size + 1, 0, none⟩ = false := (HM.blk 1 rfl).frozen 0
    have rx1 : (Wc).cell? ⟨w.heap.size + 1, 1, none⟩ = some (.int .i64 f) := (HM.blk 1 rfl).cell 1
    have rxf1 : (Wc).frozen? ⟨w.heap.size + 1, 1, none⟩ = false := (HM.blk 1 rfl).frozen 1
    have rx2 : (Wc).cell? ⟨w.heap.size + 1, 2, none⟩ = some (.int .i64 g) := (HM.blk 1 rfl).cell 2
    have rxf2 : (Wc).frozen? ⟨w.heap.size + 1, 2, none⟩ = false := (HM.blk 1 rfl).frozen 2
    have rx3 : (Wc).cell? ⟨w.heap.size + 1, 3, none⟩ = some (.int .i64 h) := (HM.blk 1 rfl).cell 3
    have rxf3 : (Wc).frozen? ⟨w.heap.size + 1, 3, none⟩ = false := (HM.blk 1 rfl).frozen 3
    have rxlt : w.heap.size + 1 < (Wc).heap.size := HM.lt 1 rfl
    have mt0 : (Wc).cell? ⟨wa.heap.size, 0, none⟩ = some (.int .i64 (me : Int)) := (HM.blk 2 rfl).cell 0
    have mtf0 : (Wc).frozen? ⟨wa.heap.size, 0, none⟩ = false := (HM.blk 2 rfl).frozen 0
    have mt1 : (Wc).cell? ⟨wa.heap.size, 1, none⟩ = some (.int .i64 (rev : Int)) := (HM.blk 2 rfl).cell 1
    have mtf1 : (Wc).frozen? ⟨wa.heap.size, 1, none⟩ = false := (HM.blk 2 rfl).frozen 1
    have mt2 : (Wc).cell? ⟨wa.heap.size, 2, none⟩ = some (.int .i64 (cr : Int)) := (HM.blk 2 rfl).cell 2
    have mtf2 : (Wc).frozen? ⟨wa.heap.size, 2, none⟩ = false := (HM.blk 2 rfl).frozen 2
    have mt3 : (Wc).cell? ⟨wa.heap.size, 3, none⟩ = some (.int .i64 0) := (HM.blk 2 rfl).cell 3
    have mtf3 : (Wc).frozen? ⟨wa.heap.size, 3, none⟩ = false := (HM.blk 2 rfl).frozen 3
    have mt4 : (Wc).cell? ⟨wa.heap.size, 4, none⟩ = some (.int .u64 0) := (HM.blk 2 rfl).cell 4
    have mtf4 : (Wc).frozen? ⟨wa.heap.size, 4, none⟩ = false := (HM.blk 2 rfl).frozen 4
    have mt5 : (Wc).cell? ⟨wa.heap.size, 5, none⟩ = some (.int .i64 (bad : Int)) := (HM.blk 2 rfl).cell 5
    have mtf5 : (Wc).frozen? ⟨wa.heap.size, 5, none⟩ = false := (HM.blk 2 rfl).frozen 5
    have mt6 : (Wc).cell? ⟨wa.heap.size, 6, none⟩ = some (.int .i64 0) := (HM.blk 2 rfl).cell 6
    have mtf6 : (Wc).frozen? ⟨wa.heap.size, 6, none⟩ = false := (HM.blk 2 rfl).frozen 6
    have mtlt : wa.heap.size < (Wc).heap.size := HM.lt 2 rfl
    have mf0 : (Wc).cell? ⟨wa.heap.size + 1, 0, none⟩ = some (.int .i64 (far : Int)) := (HM.blk 3 rfl).cell 0
    have mff0 : (Wc).frozen? ⟨wa.heap.size + 1, 0, none⟩ = false := (HM.blk 3 rfl).frozen 0
    have mf1 : (Wc).cell? ⟨wa.heap.size + 1, 1, none⟩ = some (.int .i64 (rev : Int)) := (HM.blk 3 rfl).cell 1
    have mff1 : (Wc).frozen? ⟨wa.heap.size + 1, 1, none⟩ = false := (HM.blk 3 rfl).frozen 1
    have mf2 : (Wc).cell? ⟨wa.heap.size + 1, 2, none⟩ = some (.int .i64 (cr : Int)) := (HM.blk 3 rfl).cell 2
    have mff2 : (Wc).frozen? ⟨wa.heap.size + 1, 2, none⟩ = false := (HM.blk 3 rfl).frozen 2
    have mf3 : (Wc).cell? ⟨wa.heap.size + 1, 3, none⟩ = some (.int .i64 0) := (HM.blk 3 rfl).cell 3
    have mff3 : (Wc).frozen? ⟨wa.heap.size + 1, 3, none⟩ = false := (HM.blk 3 rfl).frozen 3
    have mf4 : (Wc).cell? ⟨wa.heap.size + 1, 4, none⟩ = some (.int .u64 0) := (HM.blk 3 rfl).cell 4
    have mff4 : (Wc).frozen? ⟨wa.heap.size + 1, 4, none⟩ = false := (HM.blk 3 rfl).frozen 4
    have mf5 : (Wc).cell? ⟨wa.heap.size + 1, 5, none⟩ = some (.int .i64 (bad : Int)) := (HM.blk 3 rfl).cell 5
    have mff5 : (Wc).frozen? ⟨wa.heap.size + 1, 5, none⟩ = false := (HM.blk 3 rfl).frozen 5
    have mf6 : (Wc).cell? ⟨wa.heap.size + 1, 6, none⟩ = some (.int .i64 0) := (HM.blk 3 rfl).cell 6
    have mff6 : (Wc).frozen? ⟨wa.heap.size + 1, 6, none⟩ = false := (HM.blk 3 rfl).frozen 6
    have mflt : wa.heap.size + 1 < (Wc).heap.size := HM.lt 3 rfl
    have ne_rx_mt : w.heap.size + 1 ≠ wa.heap.size := HM.ne 1 2 rfl rfl (by decide)
    have ne_rx_mf : w.heap.size + 1 ≠ wa.heap.size + 1 := HM.ne 1 3 rfl rfl (by decide)
    have ne_mt_rx : wa.heap.size ≠ w.heap.size + 1 := HM.ne 2 1 rfl rfl (by decide)
    have ne_mt_mf : wa.heap.size ≠ wa.heap.size + 1 := HM.ne 2 3 rfl rfl (by decide)
    have ne_mf_rx : wa.heap.size + 1 ≠ w.heap.size + 1 := HM.ne 3 1 rfl rfl (by decide)
    have ne_mf_mt : wa.heap.size + 1 ≠ wa.heap.size := HM.ne 3 2 rfl rfl (by decide)
    clear g1 g2 g3 hfar2
    go_wp2_with (go_at_call 13; (with_reducible refine (picked_is _ hcls we (by omega) (by omega)).mono ?_); rintro e w' ⟨rfl, rfl⟩)
    obtain ⟨Wd, hWd⟩ : ∃ Wd, (Wc).setCell ⟨w.heap.size + 1, 0, none⟩ (.int .i64 (cls : Int)) = Wd := ⟨_, rfl⟩
    replace HM : Mem (w) [] _ [.blk (w.heap.size) 37 #[.int .i64 a, .int .i64 b, .int .i64 c, .int .i64 d], .blk (w.heap.size + 1) 38 #[.int .i64 (cls : Int), .int .i64 f, .int .i64 g, .int .i64 h], .blk (wa.heap.size) 26 #[.int .i64 (me : Int), .int .i64 (rev : Int), .int .i64 (cr : Int), .int .i64 0, .int .u64 0, .int .i64 (bad : Int), .int .i64 0], .blk (wa.heap.size + 1) 26 #[.int .i64 (far : Int), .int .i64 (rev : Int), .int .i64 (cr : Int), .int .i64 0, .int .u64 0, .int .i64 (bad : Int), .int .i64 0]] := Mem.set 1 HM rfl 0 (.int .i64 (cls : Int))
    rw [hWd] at HM ⊢
    clear hWd
    refine (hS _).mono ?_
    rintro e1 wb ⟨id, am, tag, t2, l2, A, cc, rfl, hk, hl2, ht2, hO2, hown, hbb⟩
    replace HM : Mem (w) [] (wb) [.blk (w.heap.size) 37 #[.int .i64 a, .int .i64 b, .int .i64 c, .int .i64 d], .blk (w.heap.size + 1) 38 #[.int .i64 (cls : Int), .int .i64 f, .int .i64 g, .int .i64 h], .blk (wa.heap.size) 26 #[.int .i64 (me : Int), .int .i64 (rev : Int), .int .i64 (cr : Int), .int .i64 0, .int .u64 0, .int .i64 (bad : Int), .int .i64 0], .blk (wa.heap.size + 1) 26 #[.int .i64 (far : Int), .int .i64 (rev : Int), .int .i64 (cr : Int), .int .i64 0, .int .u64 0, .int .i64 (bad : Int), .int .i64 0], .row (Wd.heap.size) (75) (4) (.slice A l2.length cc) (l2.length) (prs l2)] := Mem.row HM hbb hown (Nat.le_refl _)
    clear rx0 rxf0 rx1 rxf1 rx2 rxf2 rx3 rxf3 rxlt mt0 mtf0 mt1 mtf1 mt2 mtf2 mt3 mtf3 mt4 mtf4 mt5 mtf5 mt6 mtf6 mtlt mf0 mff0 mf1 mff1 mf2 mff2 mf3 mff3 mf4 mff4 mf5 mff5 mf6 mff6 mflt ne_rx_mt ne_rx_mf ne_mt_rx ne_mt_mf ne_mf_rx ne_mf_mt
    have mt0 : (wb).cell? ⟨wa.heap.size, 0, none⟩ = some (.int .i64 (me : Int)) := (HM.blk 2 rfl).cell 0
    have mtf0 : (wb).frozen? ⟨wa.heap.size, 0, none⟩ = false := (HM.blk 2 rfl).frozen 0
    have mt1 : (wb).cell? ⟨wa.heap.size, 1, none⟩ = some (.int .i64 (rev : Int)) := (HM.blk 2 rfl).cell 1
    have mtf1 : (wb).frozen? ⟨wa.heap.size, 1, none⟩ = false := (HM.blk 2 rfl).frozen 1
    have mt2 : (wb).cell? ⟨wa.heap.size, 2, none⟩ = some (.int .i64 (cr : Int)) := (HM.blk 2 rfl).cell 2
    have mtf2 : (wb).frozen? ⟨wa.heap.size, 2, none⟩ = false := (HM.blk 2 rfl).frozen 2
    have mt3 : (wb).cell? ⟨wa.heap.size, 3, none⟩ = some (.int .i64 0) := (HM.blk 2 rfl).cell 3
    have mtf3 : (wb).frozen? ⟨wa.heap.size, 3, none⟩ = false := (HM.blk 2 rfl).frozen 3
    have mt4 : (wb).cell? ⟨wa.heap.size, 4, none⟩ = some (.int .u64 0) := (HM.blk 2 rfl).cell 4
    have mtf4 : (wb).frozen? ⟨wa.heap.size, 4, none⟩ = false := (HM.blk 2 rfl).frozen 4
    have mt5 : (wb).cell? ⟨wa.heap.size, 5, none⟩ = some (.int .i64 (bad : Int)) := (HM.blk 2 rfl).cell 5
    have mtf5 : (wb).frozen? ⟨wa.heap.size, 5, none⟩ = false := (HM.blk 2 rfl).frozen 5
    have mt6 : (wb).cell? ⟨wa.heap.size, 6, none⟩ = some (.int .i64 0) := (HM.blk 2 rfl).cell 6
    have mtf6 : (wb).frozen? ⟨wa.heap.size, 6, none⟩ = false := (HM.blk 2 rfl).frozen 6
    have mtlt : wa.heap.size < (wb).heap.size := HM.lt 2 rfl
    clear hS hbb hown
    have hno : ∀ r : Nat, r < rev + 1 → look l2 ((me : Int), (r : Int), ((tbody cls id am : Nat) : Int)) ≠ some (t2 : Int) := fun r _ => by
      rw [← hl2, issL_look, if_neg (fun h => by injection h with h1 _; exact hne (by omega))]
      simp [look]
    have hKS := keyS_none (l := l2) (me := me) (rev := rev) (cr := cr) (H := 0) (B := 0) (bad := bad) (cls := cls) (id := id) (am := am) (tag := t2) hc2n hno
    obtain ⟨bd, lk, hbd⟩ : ∃ bd lk, badS 12 bad 0 = (bd, lk) := ⟨_, _, rfl⟩
    rw [hbd] at hKS
    have hmm : mmay (me : Int) (rev : Int) (cr : Int) ((0 : Nat) : Int) 0 (bad : Int) ((0 : Nat) : Int) = true := mmay_of (H := 0) (lock := 0) (by omega) (by omega) (by omega) (by omega) (by omega) (by omega) wmay_new
    have hwfP := ook_wf hO2
    have hps := fun (W : World) (h : W.ownsRow Wd.heap.size 75 4 (.slice A l2.length cc) l2.length (prs l2)) => isps_own rfl hwfP h
    have hKey := fun W h => key_ok (.slice A l2.length cc) l2 me rev cr 0 0 bad 0 cls id am t2 rev cr 0 0 bd lk 0 12 W h hO2 (by decide) hmm hk (Lib.hid hKS)
    have hEq := fun W => win_eql 0 0 0 0 W
    simp only [beq_self_eq_true, Bool.and_self] at hEq
    clear hk hl2 ht2 hno hKS hbd hmm hc2n hc2 ho2 hne hf50 m1 m2 m3 m4
    go_wp2_with fail
    obtain ⟨We, hWe⟩ : ∃ We, ((wb).alloc (.cells #[.slice A l2.length cc] 29)).alloc (.cells #[.int .i64 (cls : Int), .int .i64 (id : Int), .int .i64 (am : Int), .int .i64 (t2 : Int)] 31) = We := ⟨_, rfl⟩
    replace HM : Mem (w) [] _ [.blk (w.heap.size) 37 #[.int .i64 a, .int .i64 b, .int .i64 c, .int .i64 d], .blk (w.heap.size + 1) 38 #[.int .i64 (cls : Int), .int .i64 f, .int .i64 g, .int .i64 h], .blk (wa.heap.size) 26 #[.int .i64 (me : Int), .int .i64 (rev : Int), .int .i64 (cr : Int), .int .i64 0, .int .u64 0, .int .i64 (bad : Int), .int .i64 0], .blk (wa.heap.size + 1) 26 #[.int .i64 (far : Int), .int .i64 (rev : Int), .int .i64 (cr : Int), .int .i64 0, .int .u64 0, .int .i64 (bad : Int), .int .i64 0], .row (Wd.heap.size) (75) (4) (.slice A l2.length cc) (l2.length) (prs l2), .blk (wb.heap.size) 29 #[.slice A l2.length cc]] := Mem.alloc HM (wb.heap.size) (by first | (simp; done) | (simp; omega)) #[.slice A l2.length cc] 29
    replace HM : Mem (w) [] _ [.blk (w.heap.size) 37 #[.int .i64 a, .int .i64 b, .int .i64 c, .int .i64 d], .blk (w.heap.size + 1) 38 #[.int .i64 (cls : Int), .int .i64 f, .int .i64 g, .int .i64 h], .blk (wa.heap.size) 26 #[.int .i64 (me : Int), .int .i64 (rev : Int), .int .i64 (cr : Int), .int .i64 0, .int .u64 0, .int .i64 (bad : Int), .int .i64 0], .blk (wa.heap.size + 1) 26 #[.int .i64 (far : Int), .int .i64 (rev : Int), .int .i64 (cr : Int), .int .i64 0, .int .u64 0, .int .i64 (bad : Int), .int .i64 0], .row (Wd.heap.size) (75) (4) (.slice A l2.length cc) (l2.length) (prs l2), .blk (wb.heap.size) 29 #[.slice A l2.length cc], .blk (wb.heap.size + 1) 31 #[.int .i64 (cls : Int), .int .i64 (id : Int), .int .i64 (am : Int), .int .i64 (t2 : Int)]] := Mem.alloc HM (wb.heap.size + 1) (by first | (simp; done) | (simp; omega)) #[.int .i64 (cls : Int), .int .i64 (id : Int), .int .i64 (am : Int), .int .i64 (t2 : Int)] 31
    rw [hWe] at HM ⊢
    clear hWe
    refine (hKey _ (hps _ (HM.own_ 4 rfl))).mono ?_
    rintro e1 wf ⟨rfl, hbf⟩
    replace HM : Mem (w) [] (wf) [.blk (w.heap.size) 37 #[.int .i64 a, .int .i64 b, .int .i64 c, .int .i64 d], .blk (w.heap.size + 1) 38 #[.int .i64 (cls : Int), .int .i64 f, .int .i64 g, .int .i64 h], .blk (wa.heap.size) 26 #[.int .i64 (me : Int), .int .i64 (rev : Int), .int .i64 (cr : Int), .int .i64 0, .int .u64 0, .int .i64 (bad : Int), .int .i64 0], .blk (wa.heap.size + 1) 26 #[.int .i64 (far : Int), .int .i64 (rev : Int), .int .i64 (cr : Int), .int .i64 0, .int .u64 0, .int .i64 (bad : Int), .int .i64 0], .row (Wd.heap.size) (75) (4) (.slice A l2.length cc) (l2.length) (prs l2), .blk (wb.heap.size) 29 #[.slice A l2.length cc], .blk (wb.heap.size + 1) 31 #[.int .i64 (cls : Int), .int .i64 (id : Int), .int .i64 (am : Int), .int .i64 (t2 : Int)]] := Mem.call HM hbf
    clear mt0 mtf0 mt1 mtf1 mt2 mtf2 mt3 mtf3 mt4 mtf4 mt5 mtf5 mt6 mtf6 mtlt
    have mt0 : (wf).cell? ⟨wa.heap.size, 0, none⟩ = some (.int .i64 (me : Int)) := (HM.blk 2 rfl).cell 0
    have mtf0 : (wf).frozen? ⟨wa.heap.size, 0, none⟩ = false := (HM.blk 2 rfl).frozen 0
    have mt1 : (wf).cell? ⟨wa.heap.size, 1, none⟩ = some (.int .i64 (rev : Int)) := (HM.blk 2 rfl).cell 1
    have mtf1 : (wf).frozen? ⟨wa.heap.size, 1, none⟩ = false := (HM.blk 2 rfl).frozen 1
    have mt2 : (wf).cell? ⟨wa.heap.size, 2, none⟩ = some (.int .i64 (cr : Int)) := (HM.blk 2 rfl).cell 2
    have mtf2 : (wf).frozen? ⟨wa.heap.size, 2, none⟩ = false := (HM.blk 2 rfl).frozen 2
    have mt3 : (wf).cell? ⟨wa.heap.size, 3, none⟩ = some (.int .i64 0) := (HM.blk 2 rfl).cell 3
    have mtf3 : (wf).frozen? ⟨wa.heap.size, 3, none⟩ = false := (HM.blk 2 rfl).frozen 3
    have mt4 : (wf).cell? ⟨wa.heap.size, 4, none⟩ = some (.int .u64 0) := (HM.blk 2 rfl).cell 4
    have mtf4 : (wf).frozen? ⟨wa.heap.size, 4, none⟩ = false := (HM.blk 2 rfl).frozen 4
    have mt5 : (wf).cell? ⟨wa.heap.size, 5, none⟩ = some (.int .i64 (bad : Int)) := (HM.blk 2 rfl).cell 5
    have mtf5 : (wf).frozen? ⟨wa.heap.size, 5, none⟩ = false := (HM.blk 2 rfl).frozen 5
    have mt6 : (wf).cell? ⟨wa.heap.size, 6, none⟩ = some (.int .i64 0) := (HM.blk 2 rfl).cell 6
    have mtf6 : (wf).frozen? ⟨wa.heap.size, 6, none⟩ = false := (HM.blk 2 rfl).frozen 6
    have mtlt : wa.heap.size < (wf).heap.size := HM.lt 2 rfl
    clear hbf hKey hps hO2 hwfP
    go_wp2
    go_ret
    exact ⟨rfl, HM.call (below_a1 _ _) |>.below⟩
end Go.Proofs.Ytjdbgpkadfnfiaa

/- The walk of the law MeterTurns. -/
import Derived.Test.YtjdbgpkadfnfiaaMet
import Derived.Deep.RegionWith
namespace Go.Proofs.Ytjdbgpkadfnfiaa
open Go.RowKit
set_option linter.unusedVariables false
set_option maxRecDepth 100000 in
set_option maxHeartbeats 4000000 in
theorem walk_meterTurns (w : World) (a0 : Value) (w0 : Fit Try.prog w 37 a0) (a1 : Int) (w1 : (Lit.int .i64 a1).wf = true) (a2 : Value) (w2 : Fit Try.prog w 38 a2) (a3 : Value) (w3 : Fit Try.prog w 38 a3) :
    Calls Try.prog 7 #[a0, .int .i64 a1, a2, a3] w fun e w' => e = .returned (.bool true) ∧ Below w.heap.size w w' := by
  obtain ⟨a, b, c, d, rfl, wa, wb, wc, wd⟩ := new_fit w0
  obtain ⟨me, hme, m1⟩ := pk_natI a 50 (by omega)
  obtain ⟨rv0, hrev0, m20⟩ := pk_natI b 16 (by omega)
  obtain ⟨cr, hcr, m3⟩ := pk_natI c 100000000 (by omega)
  obtain ⟨bad, hbad, m4⟩ := pk_natI d 5 (by omega)
  have hnew := fun W => newm_ok a b c d W (me : Int) (rv0 : Int) (cr : Int) (bad : Int) wa wb wc wd hme hrev0 hcr hbad
  unfold mtr at hnew
  obtain ⟨rev, hrev, m2⟩ := pk_natI b 15 (by omega)
  obtain ⟨e, f, g, h, rfl, we, wf, wg, wh⟩ := raw_fits w2
  obtain ⟨e2, f2, g2, h2, rfl, we2, wf2, wg2, wh2⟩ := raw_fits w3
  have hMd1 := fun W => made_ok 0 f g h 0 W (by decide) wf wg wh pk_zero4
  have hMd2 := fun W => made_ok 0 f2 g2 h2 0 W (by decide) wf2 wg2 wh2 pk_zero4
  obtain ⟨K, hK⟩ : ∃ K : Int, (15 : Int) - (rev : Int) = K := ⟨_, rfl⟩
  obtain ⟨p, hp, hp1⟩ := pk_natI a1 K (by omega)
  obtain ⟨rv1, hrv1⟩ : ∃ k : Nat, (rev : Int) + 1 = (k : Int) := ⟨rev + 1, by omega⟩
  obtain ⟨R, hR⟩ : ∃ k : Nat, (rv1 : Int) + (p : Int) = (k : Int) := ⟨rv1 + p, by omega⟩
  have K1 : (1 : Int) ≤ K := by omega
  have K2 : K ≤ 9223372036854775807 := by omega
  have K3 : IntKind.i64.wrap ((rev : Int) + 1) = (rv1 : Int) := by rw [hrv1]; exact IntWalk.i64_in _ (by omega)
  have K4 : IntKind.i64.wrap ((15 : Int) - (rev : Int)) = K := by rw [hK]; exact IntWalk.i64_in _ (by omega)
  have K5 : IntKind.i64.wrap ((rv1 : Int) + (p : Int)) = (R : Int) := by rw [hR]; exact IntWalk.i64_in _ (by omega)
  have hRr : Hid (rev < R ∧ R ≤ 15 ∧ rev ≤ 14 ∧ me < 50 ∧ bad < 5) := by show _ ∧ _; omega
  clear w0 w2 w3 hme hcr hbad hrev0 hK hrv1 hR hp1 m1 m20 m3 m4 m2
  have HM := Mem.init w
  obtain ⟨W0, hW0⟩ : ∃ W0, (((w).alloc (.cells #[.int .i64 a, .int .i64 b, .int .i64 c, .int .i64 d] 37)).alloc (.cells #[.int .i64 e, .int .i64 f, .int .i64 g, .int .i64 h] 38)).alloc (.cells #[.int .i64 e2, .int .i64 f2, .int .i64 g2, .int .i64 h2] 38) = W0 := ⟨_, rfl⟩
  replace HM : Mem (w) [] _ [.blk (w.heap.size) 37 #[.int .i64 a, .int .i64 b, .int .i64 c, .int .i64 d]] := Mem.alloc HM (w.heap.size) (by first | (simp; done) | (simp; omega)) #[.int .i64 a, .int .i64 b, .int .i64 c, .int .i64 d] 37
  replace HM : Mem (w) [] _ [.blk (w.heap.size) 37 #[.int .i64 a, .int .i64 b, .int .i64 c, .int .i64 d], .blk (w.heap.size + 1) 38 #[.int .i64 e, .int .i64 f, .int .i64 g, .int .i64 h]] := Mem.alloc HM (w.heap.size + 1) (by first | (simp; done) | (simp; omega)) #[.int .i64 e, .int .i64 f, .int .i64 g, .int .i64 h] 38
  replace HM : Mem (w) [] _ [.blk (w.heap.size) 37 #[.int .i64 a, .int .i64 b, .int .i64 c, .int .i64 d], .blk (w.heap.size + 1) 38 #[.int .i64 e, .int .i64 f, .int .i64 g, .int .i64 h], .blk (w.heap.size + 1 + 1) 38 #[.int .i64 e2, .int .i64 f2, .int .i64 g2, .int .i64 h2]] := Mem.alloc HM (w.heap.size + 1 + 1) (by first | (simp; done) | (simp; omega)) #[.int .i64 e2, .int .i64 f2, .int .i64 g2, .int .i64 h2] 38
  rw [hW0] at HM
  have nx0 : (W0).cell? ⟨w.heap.size, 0, none⟩ = some (.int .i64 a) := (HM.blk 0 rfl).cell 0
  have nxf0 : (W0).frozen? ⟨w.heap.size, 0, none⟩ = false := (HM.blk 0 rfl).frozen 0
  have nx1 : (W0).cell? ⟨w.heap.size, 1, none⟩ = some (.int .i64 b) := (HM.blk 0 rfl).cell 1
  have nxf1 : (W0).frozen? ⟨w.heap.size, 1, none⟩ = false := (HM.blk 0 rfl).frozen 1
  have nx2 : (W0).cell? ⟨w.heap.size, 2, none⟩ = some (.int .i64 c) := (HM.blk 0 rfl).cell 2
  have nxf2 : (W0).frozen? ⟨w.heap.size, 2, none⟩ = false := (HM.blk 0 rfl).frozen 2
  have nx3 : (W0).cell? ⟨w.heap.size, 3, none⟩ = some (.int .i64 d) := (HM.blk 0 rfl).cell 3
  have nxf3 : (W0).frozen? ⟨w.heap.size, 3, none⟩ = false := (HM.blk 0 rfl).frozen 3
  have nxlt : w.heap.size < (W0).heap.size := HM.lt 0 rfl
  have rx0 : (W0).cell? ⟨w.heap.size + 1, 0, none⟩ = some (.int .i64 e) := (HM.blk 1 rfl).cell 0
  have rxf0 : (W0).frozen? ⟨w.heap.size + 1, 0, none⟩ = false := (HM.blk 1 rfl).frozen 0
  have rx1 : (W0).cell? ⟨w.heap.size + 1, 1, none⟩ = some (.int .i64 f) := (HM.blk 1 rfl).cell 1
  have rxf1 : (W0).frozen? ⟨w.heap.size + 1, 1, none⟩ = false := (HM.blk 1 rfl).frozen 1
  have rx2 : (W0).cell? ⟨w.heap.size + 1, 2, none⟩ = some (.int .i64 g) := (HM.blk 1 rfl).cell 2
  have rxf2 : (W0).frozen? ⟨w.heap.size + 1, 2, none⟩ = false := (HM.blk 1 rfl).frozen 2
  have rx3 : (W0).cell? ⟨w.heap.size + 1, 3, none⟩ = some (.int .i64 h) := (HM.blk 1 rfl).cell 3
  have rxf3 : (W0).frozen? ⟨w.heap.size + 1, 3, none⟩ = false := (HM.blk 1 rfl).frozen 3
  have rxlt : w.heap.size + 1 < (W0).heap.size := HM.lt 1 rfl
  have ry0 : (W0).cell? ⟨w.heap.size + 1 + 1, 0, none⟩ = some (.int .i64 e2) := (HM.blk 2 rfl).cell 0
  have ryf0 : (W0).frozen? ⟨w.heap.size + 1 + 1, 0, none⟩ = false := (HM.blk 2 rfl).frozen 0
  have ry1 : (W0).cell? ⟨w.heap.size + 1 + 1, 1, none⟩ = some (.int .i64 f2) := (HM.blk 2 rfl).cell 1
  have ryf1 : (W0).frozen? ⟨w.heap.size + 1 + 1, 1, none⟩ = false := (HM.blk 2 rfl).frozen 1
  have ry2 : (W0).cell? ⟨w.heap.size + 1 + 1, 2, none⟩ = some (.int .i64 g2) := (HM.blk 2 rfl).cell 2
  have ryf2 : (W0).frozen? ⟨w.heap.size + 1 + 1, 2, none⟩ = false := (HM.blk 2 rfl).frozen 2
  have ry3 : (W0).cell? ⟨w.heap.size + 1 + 1, 3, none⟩ = some (.int .i64 h2) := (HM.blk 2 rfl).cell 3
  have ryf3 : (W0).frozen? ⟨w.heap.size + 1 + 1, 3, none⟩ = false := (HM.blk 2 rfl).frozen 3
  have rylt : w.heap.size + 1 + 1 < (W0).heap.size := HM.lt 2 rfl
  have ne_nx_rx : w.heap.size ≠ w.heap.size + 1 := HM.ne 0 1 rfl rfl (by decide)
  have ne_nx_ry : w.heap.size ≠ w.heap.size + 1 + 1 := HM.ne 0 2 rfl rfl (by decide)
  have ne_rx_nx : w.heap.size + 1 ≠ w.heap.size := HM.ne 1 0 rfl rfl (by decide)
  have ne_rx_ry : w.heap.size + 1 ≠ w.heap.size + 1 + 1 := HM.ne 1 2 rfl rfl (by decide)
  have ne_ry_nx : w.heap.size + 1 + 1 ≠ w.heap.size := HM.ne 2 0 rfl rfl (by decide)
  have ne_ry_rx : w.heap.size + 1 + 1 ≠ w.heap.size + 1 := HM.ne 2 1 rfl rfl (by decide)
  go_enter Try.func7, Try.ntmps7
  go_wp2_with fail
  refine (hnew _).mono ?_
  rintro e1 wa ⟨rfl, hba⟩
  replace HM : Mem (w) [] (wa) [.blk (w.heap.size) 37 #[.int .i64 a, .int .i64 b, .int .i64 c, .int .i64 d], .blk (w.heap.size + 1) 38 #[.int .i64 e, .int .i64 f, .int .i64 g, .int .i64 h], .blk (w.heap.size + 1 + 1) 38 #[.int .i64 e2, .int .i64 f2, .int .i64 g2, .int .i64 h2]] := Mem.call HM hba
  clear nx0 nxf0 nx1 nxf1 nx2 nxf2 nx3 nxf3 nxlt rx0 rxf0 rx1 rxf1 rx2 rxf2 rx3 rxf3 rxlt ry0 ryf0 ry1 ryf1 ry2 ryf2 ry3 ryf3 rylt ne_nx_rx ne_nx_ry ne_rx_nx ne_rx_ry ne_ry_nx ne_ry_rx
  have nx0 : (wa).cell? ⟨w.heap.size, 0, none⟩ = some (.int .i64 a) := (HM.blk 0 rfl).cell 0
  have nxf0 : (wa).frozen? ⟨w.heap.size, 0, none⟩ = false := (HM.blk 0 rfl).frozen 0
  have nx1 : (wa).cell? ⟨w.heap.size, 1, none⟩ = some (.int .i64 b) := (HM.blk 0 rfl).cell 1
  have nxf1 : (wa).frozen? ⟨w.heap.size, 1, none⟩ = false := (HM.blk 0 rfl).frozen 1
  have nx2 : (wa).cell? ⟨w.heap.size, 2, none⟩ = some (.int .i64 c) := (HM.blk 0 rfl).cell 2
  have nxf2 : (wa).frozen? ⟨w.heap.size, 2, none⟩ = false := (HM.blk 0 rfl).frozen 2
  have nx3 : (wa).cell? ⟨w.heap.size, 3, none⟩ = some (.int .i64 d) := (HM.blk 0 rfl).cell 3
  have nxf3 : (wa).frozen? ⟨w.heap.size, 3, none⟩ = false := (HM.blk 0 rfl).frozen 3
  have nxlt : w.heap.size < (wa).heap.size := HM.lt 0 rfl
  have rx0 : (wa).cell? ⟨w.heap.size + 1, 0, none⟩ = some (.int .i64 e) := (HM.blk 1 rfl).cell 0
  have rxf0 : (wa).frozen? ⟨w.heap.size + 1, 0, none⟩ = false := (HM.blk 1 rfl).frozen 0
  have rx1 : (wa).cell? ⟨w.heap.size + 1, 1, none⟩ = some (.int .i64 f) := (HM.blk 1 rfl).cell 1
  have rxf1 : (wa).frozen? ⟨w.heap.size + 1, 1, none⟩ = false := (HM.blk 1 rfl).frozen 1
  have rx2 : (wa).cell? ⟨w.heap.size + 1, 2, none⟩ = some (.int .i64 g) := (HM.blk 1 rfl).cell 2
  have rxf2 : (wa).frozen? ⟨w.heap.size + 1, 2, none⟩ = false := (HM.blk 1 rfl).frozen 2
  have rx3 : (wa).cell? ⟨w.heap.size + 1, 3, none⟩ = some (.int .i64 h) := (HM.blk 1 rfl).cell 3
  have rxf3 : (wa).frozen? ⟨w.heap.size + 1, 3, none⟩ = false := (HM.blk 1 rfl).frozen 3
  have rxlt : w.heap.size + 1 < (wa).heap.size := HM.lt 1 rfl
  have ry0 : (wa).cell? ⟨w.heap.size + 1 + 1, 0, none⟩ = some (.int .i64 e2) := (HM.blk 2 rfl).cell 0
  have ryf0 : (wa).frozen? ⟨w.heap.size + 1 + 1, 0, none⟩ = false := (HM.blk 2 rfl).frozen 0
  have ry1 : (wa).cell? ⟨w.heap.size + 1 + 1, 1, none⟩ = some (.int .i64 f2) := (HM.blk 2 rfl).cell 1
  have ryf1 : (wa).frozen? ⟨w.heap.size + 1 + 1, 1, none⟩ = false := (HM.blk 2 rfl).frozen 1
  have ry2 : (wa).cell? ⟨w.heap.size + 1 + 1, 2, none⟩ = some (.int .i64 g2) := (HM.blk 2 rfl).cell 2
  have ryf2 : (wa).frozen? ⟨w.heap.size + 1 + 1, 2, none⟩ = false := (HM.blk 2 rfl).frozen 2
  have ry3 : (wa).cell? ⟨w.heap.size + 1 + 1, 3, none⟩ = some (.int .i64 h2) := (HM.blk 2 rfl).cell 3
  have ryf3 : (wa).frozen? ⟨w.heap.size + 1 + 1, 3, none⟩ = false := (HM.blk 2 rfl).frozen 3
  have rylt : w.heap.size + 1 + 1 < (wa).heap.size := HM.lt 2 rfl
  have ne_nx_rx : w.heap.size ≠ w.heap.size + 1 := HM.ne 0 1 rfl rfl (by decide)
  have ne_nx_ry : w.heap.size ≠ w.heap.size + 1 + 1 := HM.ne 0 2 rfl rfl (by decide)
  have ne_rx_nx : w.heap.size + 1 ≠ w.heap.size := HM.ne 1 0 rfl rfl (by decide)
  have ne_rx_ry : w.heap.size + 1 ≠ w.heap.size + 1 + 1 := HM.ne 1 2 rfl rfl (by decide)
  have ne_ry_nx : w.heap.size + 1 + 1 ≠ w.heap.size := HM.ne 2 0 rfl rfl (by decide)
  have ne_ry_rx : w.heap.size + 1 + 1 ≠ w.heap.size + 1 := HM.ne 2 1 rfl rfl (by decide)
  clear hba hnew hW0
  go_wp2_with (go_at_call 13; (with_reducible refine (picked_is _ hrev wb (by omega) (by omega)).mono ?_); rintro e w' ⟨rfl, rfl⟩)
  obtain ⟨Wb, hWb⟩ : ∃ Wb, (wa).alloc (.cells #[.int .i64 (me : Int), .int .i64 (rev : Int), .int .i64 0, .int .i64 0, .int .u64 0, .int .i64 (bad : Int), .int .i64 0] 26) = Wb := ⟨_, rfl⟩
  replace HM : Mem (w) [] _ [.blk (w.heap.size) 37 #[.int .i64 a, .int .i64 b, .int .i64 c, .int .i64 d], .blk (w.heap.size + 1) 38 #[.int .i64 e, .int .i64 f, .int .i64 g, .int .i64 h], .blk (w.heap.size + 1 + 1) 38 #[.int .i64 e2, .int .i64 f2, .int .i64 g2, .int .i64 h2], .blk (wa.heap.size) 26 #[.int .i64 (me : Int), .int .i64 (rev : Int), .int .i64 0, .int .i64 0, .int .u64 0, .int .i64 (bad : Int), .int .i64 0]] := Mem.alloc HM (wa.heap.size) (by first | (simp; done) | (simp; omega)) #[.int .i64 (me : Int), .int .i64 (rev : Int), .int .i64 0, .int .i64 0, .int .u64 0, .int .i64 (bad : Int), .int .i64 0] 26
  rw [hWb] at HM ⊢
  clear hWb
  clear nx0 nxf0 nx1 nxf1 nx2 nxf2 nx3 nxf3 nxlt rx0 rxf0 rx1 rxf1 rx2 rxf2 rx3 rxf3 rxlt ry0 ryf0 ry1 ryf1 ry2 ryf2 ry3 ryf3 rylt ne_nx_rx ne_nx_ry ne_rx_nx ne_rx_ry ne_ry_nx ne_ry_rx
  have rx0 : (Wb).cell? ⟨w.heap.size + 1, 0, none⟩ = some (.int .i64 e) := (HM.blk 1 rfl).cell 0
  have rxf0 : (Wb).frozen? ⟨w.heap.size + 1, 0, none⟩ = false := (HM.blk 1 rfl).frozen 0
  have rx1 : (Wb).cell? ⟨w.heap.size + 1, 1, none⟩ = some (.int .i64 f) := (HM.blk 1 rfl).cell 1
  have rxf1 : (Wb).frozen? ⟨w.heap.size + 1, 1, none⟩ = false := (HM.blk 1 rfl).frozen 1
  have rx2 : (Wb).cell? ⟨w.heap.size + 1, 2, none⟩ = some (.int .i64 g) := (HM.blk 1 rfl).cell 2
  have rxf2 : (Wb).frozen? ⟨w.heap.size + 1, 2, none⟩ = false := (HM.blk 1 rfl).frozen 2
  have rx3 : (Wb).cell? ⟨w.heap.size + 1, 3, none⟩ = some (.int .i64 h) := (HM.blk 1 rfl).cell 3
  have rxf3 : (Wb).frozen? ⟨w.heap.size + 1, 3, none⟩ = false := (HM.blk 1 rfl).frozen 3
  have rxlt : w.heap.size + 1 < (Wb).heap.size := HM.lt 1 rfl
  have ry0 : (Wb).cell? ⟨w.heap.size + 1 + 1, 0, none⟩ = some (.int .i64 e2) := (HM.blk 2 rfl).cell 0
  have ryf0 : (Wb).frozen? ⟨w.heap.size + 1 + 1, 0, none⟩ = false := (HM.blk 2 rfl).frozen 0
  have ry1 : (Wb).cell? ⟨w.heap.size + 1 + 1, 1, none⟩ = some (.int .i64 f2) := (HM.blk 2 rfl).cell 1
  have ryf1 : (Wb).frozen? ⟨w.heap.size + 1 + 1, 1, none⟩ = false := (HM.blk 2 rfl).frozen 1
  have ry2 : (Wb).cell? ⟨w.heap.size + 1 + 1, 2, none⟩ = some (.int .i64 g2) := (HM.blk 2 rfl).cell 2
  have ryf2 : (Wb).frozen? ⟨w.heap.size + 1 + 1, 2, none⟩ = false := (HM.blk 2 rfl).frozen 2
  have ry3 : (Wb).cell? ⟨w.heap.size + 1 + 1, 3, none⟩ = some (.int .i64 h2) := (HM.blk 2 rfl).cell 3
  have ryf3 : (Wb).frozen? ⟨w.heap.size + 1 + 1, 3, none⟩ = false := (HM.blk 2 rfl).frozen 3
  have rylt : w.heap.size + 1 + 1 < (Wb).heap.size := HM.lt 2 rfl
  have mt0 : (Wb).cell? ⟨wa.heap.size, 0, none⟩ = some (.int .i64 (me : Int)) := (HM.blk 3 rfl).cell 0
  have mtf0 : (Wb).frozen? ⟨wa.heap.size, 0, none⟩ = false := (HM.blk 3 rfl).frozen 0
  have mt1 : (Wb).cell? ⟨wa.heap.size, 1, none⟩ = some (.int .i64 (rev : Int)) := (HM.blk 3 rfl).cell 1
  have mtf1 : (Wb).frozen? ⟨wa.heap.size, 1, none⟩ = false := (HM.blk 3 rfl).frozen 1
  have mt2 : (Wb).cell? ⟨wa.heap.size, 2, none⟩ = some (.int .i64 0) := (HM.blk 3 rfl).cell 2
  have mtf2 : (Wb).frozen? ⟨wa.heap.size, 2, none⟩ = false := (HM.blk 3 rfl).frozen 2
  have mt3 : (Wb).cell? ⟨wa.heap.size, 3, none⟩ = some (.int .i64 0) := (HM.blk 3 rfl).cell 3
  have mtf3 : (Wb).frozen? ⟨wa.heap.size, 3, none⟩ = false := (HM.blk 3 rfl).frozen 3
  have mt4 : (Wb).cell? ⟨wa.heap.size, 4, none⟩ = some (.int .u64 0) := (HM.blk 3 rfl).cell 4
  have mtf4 : (Wb).frozen? ⟨wa.heap.size, 4, none⟩ = false := (HM.blk 3 rfl).frozen 4
  have mt5 : (Wb).cell? ⟨wa.heap.size, 5, none⟩ = some (.int .i64 (bad : Int)) := (HM.blk 3 rfl).cell 5
  have mtf5 : (Wb).frozen? ⟨wa.heap.size, 5, none⟩ = false := (HM.blk 3 rfl).frozen 5
  have mt6 : (Wb).cell? ⟨wa.heap.size, 6, none⟩ = some (.int .i64 0) := (HM.blk 3 rfl).cell 6
  have mtf6 : (Wb).frozen? ⟨wa.heap.size, 6, none⟩ = false := (HM.blk 3 rfl).frozen 6
  have mtlt : wa.heap.size < (Wb).heap.size := HM.lt 3 rfl
  have ne_rx_ry : w.heap.size + 1 ≠ w.heap.size + 1 + 1 := HM.ne 1 2 rfl rfl (by decide)
  have ne_rx_mt : w.heap.size + 1 ≠ wa.heap.size := HM.ne 1 3 rfl rfl (by decide)
  have ne_ry_rx : w.heap.size + 1 + 1 ≠ w.heap.size + 1 := HM.ne 2 1 rfl rfl (by decide)
  have ne_ry_mt : w.heap.size + 1 + 1 ≠ wa.heap.size := HM.ne 2 3 rfl rfl (by decide)
  have ne_mt_rx : wa.heap.size ≠ w.heap.size + 1 := HM.ne 3 1 rfl rfl (by decide)
  have ne_mt_ry : wa.heap.size ≠ w.heap.size + 1 + 1 := HM.ne 3 2 rfl rfl (by decide)
  go_quiet ((go_at_call 13; exact Calls.quiet_of_same ((picked_is _ hp w1 K1 K2).mono fun _ _ h => ⟨h.1, h.2.symm⟩)))
  obtain ⟨Wc, hWc⟩ : ∃ Wc, (Wb).drewN nq = Wc := ⟨_, rfl⟩
  replace HM := HM.drewN nq
  rw [hWc] at HM ⊢
  clear hWc
  clear rx0 rxf0 rx1 rxf1 rx2 rxf2 rx3 rxf3 rxlt ry0 ryf0 ry1 ryf1 ry2 ryf2 ry3 ryf3 rylt mt0 mtf0 mt1 mtf1 mt2 mtf2 mt3 mtf3 mt4 mtf4 mt5 mtf5 mt6 mtf6 mtlt ne_rx_ry ne_rx_mt ne_ry_rx ne_ry_mt ne_mt_rx ne_mt_ry
  have rx0 : (Wc).cell? ⟨w.heap.size + 1, 0, none⟩ = some (.int .i64 e) := (HM.blk 1 rfl).cell 0
  have rxf0 : (Wc).frozen? ⟨w.heap.size + 1, 0, none⟩ = false := (HM.blk 1 rfl).frozen 0
  have rx1 : (Wc).cell? ⟨w.heap.size + 1, 1, none⟩ = some (.int .i64 f) := (HM.blk 1 rfl).cell 1
  have rxf1 : (Wc).frozen? ⟨w.heap.size + 1, 1, none⟩ = false := (HM.blk 1 rfl).frozen 1
  have rx2 : (Wc).cell? ⟨w.heap.size + 1, 2, none⟩ = some (.int .i64 g) := (HM.blk 1 rfl).cell 2
  have rxf2 : (Wc).frozen? ⟨w.heap.size + 1, 2, none⟩ = false := (HM.blk 1 rfl).frozen 2
  have rx3 : (Wc).cell? ⟨w.heap.size + 1, 3, none⟩ = some (.int .i64 h) := (HM.blk 1 rfl).cell 3
  have rxf3 : (Wc).frozen? ⟨w.heap.size + 1, 3, none⟩ = false := (HM.blk 1 rfl).frozen 3
  have rxlt : w.heap.size + 1 < (Wc).heap.size := HM.lt 1 rfl
  have ry0 : (Wc).cell? ⟨w.heap.size + 1 + 1, 0, none⟩ = some (.int .i64 e2) := (HM.blk 2 rfl).cell 0
  have ryf0 : (Wc).frozen? ⟨w.heap.size + 1 + 1, 0, none⟩ = false := (HM.blk 2 rfl).frozen 0
  have ry1 : (Wc).cell? ⟨w.heap.size + 1 + 1, 1, none⟩ = some (.int .i64 f2) := (HM.blk 2 rfl).cell 1
  have ryf1 : (Wc).frozen? ⟨w.heap.size + 1 + 1, 1, none⟩ = false := (HM.blk 2 rfl).frozen 1
  have ry2 : (Wc).cell? ⟨w.heap.size + 1 + 1, 2, none⟩ = some (.int .i64 g2) := (HM.blk 2 rfl).cell 2
  have ryf2 : (Wc).frozen? ⟨w.heap.size + 1 + 1, 2, none⟩ = false := (HM.blk 2 rfl).frozen 2
  have ry3 : (Wc).cell? ⟨w.heap.size + 1 + 1, 3, none⟩ = some (.int .i64 h2) := (HM.blk 2 rfl).cell 3
  have ryf3 : (Wc).frozen? ⟨w.heap.size + 1 + 1, 3, none⟩ = false := (HM.blk 2 rfl).frozen 3
  have rylt : w.heap.size + 1 + 1 < (Wc).heap.size := HM.lt 2 rfl
  have mt0 : (Wc).cell? ⟨wa.heap.size, 0, none⟩ = some (.int .i64 (me : Int)) := (HM.blk 3 rfl).cell 0
  have mtf0 : (Wc).frozen? ⟨wa.heap.size, 0, none⟩ = false := (HM.blk 3 rfl).frozen 0
  have mt1 : (Wc).cell? ⟨wa.heap.size, 1, none⟩ = some (.int .i64 (rev : Int)) := (HM.blk 3 rfl).cell 1
  have mtf1 : (Wc).frozen? ⟨wa.heap.size, 1, none⟩ = false := (HM.blk 3 rfl).frozen 1
  have mt2 : (Wc).cell? ⟨wa.heap.size, 2, none⟩ = some (.int .i64 0) := (HM.blk 3 rfl).cell 2
  have mtf2 : (Wc).frozen? ⟨wa.heap.size, 2, none⟩ = false := (HM.blk 3 rfl).frozen 2
  have mt3 : (Wc).cell? ⟨wa.heap.size, 3, none⟩ = some (.int .i64 0) := (HM.blk 3 rfl).cell 3
  have mtf3 : (Wc).frozen? ⟨wa.heap.size, 3, none⟩ = false := (HM.blk 3 rfl).frozen 3
  have mt4 : (Wc).cell? ⟨wa.heap.size, 4, none⟩ = some (.int .u64 0) := (HM.blk 3 rfl).cell 4
  have mtf4 : (Wc).frozen? ⟨wa.heap.size, 4, none⟩ = false := (HM.blk 3 rfl).frozen 4
  have mt5 : (Wc).cell? ⟨wa.heap.size, 5, none⟩ = some (.int .i64 (bad : Int)) := (HM.blk 3 rfl).cell 5
  have mtf5 : (Wc).frozen? ⟨wa.heap.size, 5, none⟩ = false := (HM.blk 3 rfl).frozen 5
  have mt6 : (Wc).cell? ⟨wa.heap.size, 6, none⟩ = some (.int .i64 0) := (HM.blk 3 rfl).cell 6
  have mtf6 : (Wc).frozen? ⟨wa.heap.size, 6, none⟩ = false := (HM.blk 3 rfl).frozen 6
  have mtlt : wa.heap.size < (Wc).heap.size := HM.lt 3 rfl
  have ne_rx_ry : w.heap.size + 1 ≠ w.heap.size + 1 + 1 := HM.ne 1 2 rfl rfl (by decide)
  have ne_rx_mt : w.heap.size + 1 ≠ wa.heap.size := HM.ne 1 3 rfl rfl (by decide)
  have ne_ry_rx : w.heap.size + 1 + 1 ≠ w.heap.size + 1 := HM.ne 2 1 rfl rfl (by decide)
  have ne_ry_mt : w.heap.size + 1 + 1 ≠ wa.heap.size := HM.ne 2 3 rfl rfl (by decide)
  have ne_mt_rx : wa.heap.size ≠ w.heap.size + 1 := HM.ne 3 1 rfl rfl (by decide)
  have ne_mt_ry : wa.heap.size ≠ w.heap.size + 1 + 1 := HM.ne 3 2 rfl rfl (by decide)
  clear K1 K2 K3 K4 K5
  go_wp2_with fail
  obtain ⟨Wd, hWd⟩ : ∃ Wd, ((Wc).setCell ⟨w.heap.size + 1, 0, none⟩ (.int .i64 0)).setCell ⟨w.heap.size + 1 + 1, 0, none⟩ (.int .i64 0) = Wd := ⟨_, rfl⟩
  replace HM : Mem (w) [] _ [.blk (w.heap.size) 37 #[.int .i64 a, .int .i64 b, .int .i64 c, .int .i64 d], .blk (w.heap.size + 1) 38 #[.int .i64 0, .int .i64 f, .int .i64 g, .int .i64 h], .blk (w.heap.size + 1 + 1) 38 #[.int .i64 e2, .int .i64 f2, .int .i64 g2, .int .i64 h2], .blk (wa.heap.size) 26 #[.int .i64 (me : Int), .int .i64 (rev : Int), .int .i64 0, .int .i64 0, .int .u64 0, .int .i64 (bad : Int), .int .i64 0]] := Mem.set 1 HM rfl 0 (.int .i64 0)
  replace HM : Mem (w) [] _ [.blk (w.heap.size) 37 #[.int .i64 a, .int .i64 b, .int .i64 c, .int .i64 d], .blk (w.heap.size + 1) 38 #[.int .i64 0, .int .i64 f, .int .i64 g, .int .i64 h], .blk (w.heap.size + 1 + 1) 38 #[.int .i64 0, .int .i64 f2, .int .i64 g2, .int .i64 h2], .blk (wa.heap.size) 26 #[.int .i64 (me : Int), .int .i64 (rev : Int), .int .i64 0, .int .i64 0, .int .u64 0, .int .i64 (bad : Int), .int .i64 0]] := Mem.set 2 HM rfl 0 (.int .i64 0)
  rw [hWd] at HM ⊢
  clear hWd
  refine (hMd1 _).mono ?_
  rintro e1 wq1 ⟨id, am, tag, rfl, hk, hb1⟩
  replace HM : Mem (w) [] (wq1) [.blk (w.heap.size) 37 #[.int .i64 a, .int .i64 b, .int .i64 c, .int .i64 d], .blk (w.heap.size + 1) 38 #[.int .i64 0, .int .i64 f, .int .i64 g, .int .i64 h], .blk (w.heap.size + 1 + 1) 38 #[.int .i64 0, .int .i64 f2, .int .i64 g2, .int .i64 h2], .blk (wa.heap.size) 26 #[.int .i64 (me : Int), .int .i64 (rev : Int), .int .i64 0, .int .i64 0, .int .u64 0, .int .i64 (bad : Int), .int .i64 0]] := Mem.call HM hb1
  clear rx0 rxf0 rx1 rxf1 rx2 rxf2 rx3 rxf3 rxlt ry0 ryf0 ry1 ryf1 ry2 ryf2 ry3 ryf3 rylt mt0 mtf0 mt1 mtf1 mt2 mtf2 mt3 mtf3 mt4 mtf4 mt5 mtf5 mt6 mtf6 mtlt ne_rx_ry ne_rx_mt ne_ry_rx ne_ry_mt ne_mt_rx ne_mt_ry
  have ry0 : (wq1).cell? ⟨w.heap.size + 1 + 1, 0, none⟩ = some (.int .i64 0) := (HM.blk 2 rfl).cell 0
  have ryf0 : (wq1).frozen? ⟨w.heap.size + 1 + 1, 0, none⟩ = false := (HM.blk 2 rfl).frozen 0
  have ry1 : (wq1).cell? ⟨w.heap.size + 1 + 1, 1, none⟩ = some (.int .i64 f2) := (HM.blk 2 rfl).cell 1
  have ryf1 : (wq1).frozen? ⟨w.heap.size + 1 + 1, 1, none⟩ = false := (HM.blk 2 rfl).frozen 1
  have ry2 : (wq1).cell? ⟨w.heap.size + 1 + 1, 2, none⟩ = some (.int .i64 g2) := (HM.blk 2 rfl).cell 2
  have ryf2 : (wq1).frozen? ⟨w.heap.size + 1 + 1, 2, none⟩ = false := (HM.blk 2 rfl).frozen 2
  have ry3 : (wq1).cell? ⟨w.heap.size + 1 + 1, 3, none⟩ = some (.int .i64 h2) := (HM.blk 2 rfl).cell 3
  have ryf3 : (wq1).frozen? ⟨w.heap.size + 1 + 1, 3, none⟩ = false := (HM.blk 2 rfl).frozen 3
  have rylt : w.heap.size + 1 + 1 < (wq1).heap.size := HM.lt 2 rfl
  clear hb1 hMd1
  go_wp2_with fail
  obtain ⟨We, hWe⟩ : ∃ We, (wq1).alloc (.cells #[.int .i64 0, .int .i64 (id : Int), .int .i64 (am : Int), .int .i64 (tag : Int)] 31) = We := ⟨_, rfl⟩
  replace HM : Mem (w) [] _ [.blk (w.heap.size) 37 #[.int .i64 a, .int .i64 b, .int .i64 c, .int .i64 d], .blk (w.heap.size + 1) 38 #[.int .i64 0, .int .i64 f, .int .i64 g, .int .i64 h], .blk (w.heap.size + 1 + 1) 38 #[.int .i64 0, .int .i64 f2, .int .i64 g2, .int .i64 h2], .blk (wa.heap.size) 26 #[.int .i64 (me : Int), .int .i64 (rev : Int), .int .i64 0, .int .i64 0, .int .u64 0, .int .i64 (bad : Int), .int .i64 0], .blk (wq1.heap.size) 31 #[.int .i64 0, .int .i64 (id : Int), .int .i64 (am : Int), .int .i64 (tag : Int)]] := Mem.alloc HM (wq1.heap.size) (by first | (simp; done) | (simp; omega)) #[.int .i64 0, .int .i64 (id : Int), .int .i64 (am : Int), .int .i64 (tag : Int)] 31
  rw [hWe] at HM ⊢
  clear hWe
  refine (hMd2 _).mono ?_
  rintro e1 wq2 ⟨id2, am2, tag2, rfl, hk2, hb2⟩
  replace HM : Mem (w) [] (wq2) [.blk (w.heap.size) 37 #[.int .i64 a, .int .i64 b, .int .i64 c, .int .i64 d], .blk (w.heap.size + 1) 38 #[.int .i64 0, .int .i64 f, .int .i64 g, .int .i64 h], .blk (w.heap.size + 1 + 1) 38 #[.int .i64 0, .int .i64 f2, .int .i64 g2, .int .i64 h2], .blk (wa.heap.size) 26 #[.int .i64 (me : Int), .int .i64 (rev : Int), .int .i64 0, .int .i64 0, .int .u64 0, .int .i64 (bad : Int), .int .i64 0], .blk (wq1.heap.size) 31 #[.int .i64 0, .int .i64 (id : Int), .int .i64 (am : Int), .int .i64 (tag : Int)]] := Mem.call HM hb2
  clear ry0 ryf0 ry1 ryf1 ry2 ryf2 ry3 ryf3 rylt
  have to0 : (wq2).cell? ⟨wq1.heap.size, 0, none⟩ = some (.int .i64 0) := (HM.blk 4 rfl).cell 0
  have tof0 : (wq2).frozen? ⟨wq1.heap.size, 0, none⟩ = false := (HM.blk 4 rfl).frozen 0
  have to1 : (wq2).cell? ⟨wq1.heap.size, 1, none⟩ = some (.int .i64 (id : Int)) := (HM.blk 4 rfl).cell 1
  have tof1 : (wq2).frozen? ⟨wq1.heap.size, 1, none⟩ = false := (HM.blk 4 rfl).frozen 1
  have to2 : (wq2).cell? ⟨wq1.heap.size, 2, none⟩ = some (.int .i64 (am : Int)) := (HM.blk 4 rfl).cell 2
  have tof2 : (wq2).frozen? ⟨wq1.heap.size, 2, none⟩ = false := (HM.blk 4 rfl).frozen 2
  have to3 : (wq2).cell? ⟨wq1.heap.size, 3, none⟩ = some (.int .i64 (tag : Int)) := (HM.blk 4 rfl).cell 3
  have tof3 : (wq2).frozen? ⟨wq1.heap.size, 3, none⟩ = false := (HM.blk 4 rfl).frozen 3
  have tolt : wq1.heap.size < (wq2).heap.size := HM.lt 4 rfl
  clear hb2 hMd2
  go_wp2_with fail
  obtain ⟨Wf, hWf⟩ : ∃ Wf, (((wq2).setCell ⟨wq1.heap.size, 1, none⟩ (.int .i64 2)).alloc (.cells #[.int .i64 0, .int .i64 3, .int .i64 (am2 : Int), .int .i64 (tag2 : Int)] 31)).alloc (.cells #[.int .i64 2, .int .i64 1, .int .i64 (R : Int), .int .i64 0] 31) = Wf := ⟨_, rfl⟩
  replace HM : Mem (w) [] _ [.blk (w.heap.size) 37 #[.int .i64 a, .int .i64 b, .int .i64 c, .int .i64 d], .blk (w.heap.size + 1) 38 #[.int .i64 0, .int .i64 f, .int .i64 g, .int .i64 h], .blk (w.heap.size + 1 + 1) 38 #[.int .i64 0, .int .i64 f2, .int .i64 g2, .int .i64 h2], .blk (wa.heap.size) 26 #[.int .i64 (me : Int), .int .i64 (rev : Int), .int .i64 0, .int .i64 0, .int .u64 0, .int .i64 (bad : Int), .int .i64 0], .blk (wq1.heap.size) 31 #[.int .i64 0, .int .i64 2, .int .i64 (am : Int), .int .i64 (tag : Int)]] := Mem.set 4 HM rfl 1 (.int .i64 2)
  replace HM : Mem (w) [] _ [.blk (w.heap.size) 37 #[.int .i64 a, .int .i64 b, .int .i64 c, .int .i64 d], .blk (w.heap.size + 1) 38 #[.int .i64 0, .int .i64 f, .int .i64 g, .int .i64 h], .blk (w.heap.size + 1 + 1) 38 #[.int .i64 0, .int .i64 f2, .int .i64 g2, .int .i64 h2], .blk (wa.heap.size) 26 #[.int .i64 (me : Int), .int .i64 (rev : Int), .int .i64 0, .int .i64 0, .int .u64 0, .int .i64 (bad : Int), .int .i64 0], .blk (wq1.heap.size) 31 #[.int .i64 0, .int .i64 2, .int .i64 (am : Int), .int .i64 (tag : Int)], .blk (wq2.heap.size) 31 #[.int .i64 0, .int .i64 3, .int .i64 (am2 : Int), .int .i64 (tag2 : Int)]] := Mem.alloc HM (wq2.heap.size) (by first | (simp; done) | (simp; omega)) #[.int .i64 0, .int .i64 3, .int .i64 (am2 : Int), .int .i64 (tag2 : Int)] 31
  replace HM : Mem (w) [] _ [.blk (w.heap.size) 37 #[.int .i64 a, .int .i64 b, .int .i64 c, .int .i64 d], .blk (w.heap.size + 1) 38 #[.int .i64 0, .int .i64 f, .int .i64 g, .int .i64 h], .blk (w.heap.size + 1 + 1) 38 #[.int .i64 0, .int .i64 f2, .int .i64 g2, .int .i64 h2], .blk (wa.heap.size) 26 #[.int .i64 (me : Int), .int .i64 (rev : Int), .int .i64 0, .int .i64 0, .int .u64 0, .int .i64 (bad : Int), .int .i64 0], .blk (wq1.heap.size) 31 #[.int .i64 0, .int .i64 2, .int .i64 (am : Int), .int .i64 (tag : Int)], .blk (wq2.heap.size) 31 #[.int .i64 0, .int .i64 3, .int .i64 (am2 : Int), .int .i64 (tag2 : Int)], .blk (wq2.heap.size + 1) 31 #[.int .i64 2, .int .i64 1, .int .i64 (R : Int), .int .i64 0]] := Mem.alloc HM (wq2.heap.size + 1) (by first | (simp; done) | (simp; omega)) #[.int .i64 2, .int .i64 1, .int .i64 (R : Int), .int .i64 0] 31
  rw [hWf] at HM ⊢
  clear hWf
  obtain ⟨r1, r2, r3, r4, r5⟩ := hRr.out
  have hkA : TkOk 0 2 am tag := ⟨by omega, by omega, by omega, hk.h4, hk.h5⟩
  have hkC : TkOk 0 3 am2 tag2 := ⟨by omega, by omega, by omega, hk2.h4, hk2.h5⟩
  have hkB : TkOk 2 1 R 0 := ⟨by omega, by omega, by omega, .inr (.inr (.inl ⟨rfl, by omega, by omega⟩)), by omega⟩
  have hkB5 : TkOk 2 1 R 5 := ⟨by omega, by omega, by omega, .inr (.inr (.inl ⟨rfl, by omega, by omega⟩)), by omega⟩
  have nAB : tbody 0 2 am ≠ tbody 2 1 R := fun h => by have := (tbody_inj hkA hkB h).1; omega
  have nAC : tbody 0 2 am ≠ tbody 0 3 am2 := fun h => by have := (tbody_inj hkA hkC h).2.1; omega
  have nBC : tbody 2 1 R ≠ tbody 0 3 am2 := fun h => by have := (tbody_inj hkB hkC h).1; omega
  have bA := tbody_le hkA
  have bB := tbody_le hkB
  have bC := tbody_le hkC
  obtain ⟨A, hA⟩ : ∃ A, tbody 0 2 am = A := ⟨_, rfl⟩
  obtain ⟨B, hB⟩ : ∃ A, tbody 2 1 R = A := ⟨_, rfl⟩
  obtain ⟨C, hC⟩ : ∃ A, tbody 0 3 am2 = A := ⟨_, rfl⟩
  rw [hA] at nAB nAC bA
  rw [hB] at nAB nBC bB
  rw [hC] at nAC nBC bC
  have hB1 := fun W => tbody_ok 0 2 am tag A W hkA (Lib.hid hA)
  have hB2 := fun W => tbody_ok 2 1 R 0 B W hkB (Lib.hid hB)
  have hB3 := fun W => tbody_ok 0 3 am2 tag2 C W hkC (Lib.hid hC)
  have q5 := hk.h5
  have q6 := hk2.h5
  have amA := hk.am
  have amC := hk2.am
  have mk : ∀ (r X : Nat), r ≤ 15 → X ≤ 8796093022207 → mayK ((me : Int), (r : Int), (X : Int)) := fun r X _ _ => by unfold mayK; dsimp only; omega
  have wk3 : ∀ (r X : Nat), r ≤ 15 → X ≤ 8796093022207 → wf3 (me : Int) (r : Int) (X : Int) := fun r X _ _ => ⟨WalkArith.wf_i64 (by omega), WalkArith.wf_i64 (by omega), WalkArith.wf_i64 (by omega)⟩
  obtain ⟨l1, hl1⟩ : ∃ l1, issL [] (me : Int) (rev : Int) (A : Int) (tag : Int) = l1 := ⟨_, rfl⟩
  have t1 : issT [] (me : Int) (rev : Int) (A : Int) (tag : Int) = (tag : Int) := issT_new _ (look_nil _)
  have look1 : ∀ k, look l1 k = if k = ((me : Int), (rev : Int), (A : Int)) then some (tag : Int) else none := fun k => by rw [← hl1, issL_look, t1]; rfl
  have hO1 : OOk l1 := by rw [← hl1]; exact issL_ok ook_nil (mk rev A (by omega) (by omega)) (by omega) (by omega) (by simp)
  have len1 := issL_len [] (me : Int) (rev : Int) (A : Int) (tag : Int)
  rw [hl1] at len1
  obtain ⟨l2, hl2⟩ : ∃ l2, issL l1 (me : Int) (rev : Int) (B : Int) 5 = l2 := ⟨_, rfl⟩
  have n2 : look l1 ((me : Int), (rev : Int), (B : Int)) = none := by rw [look1, if_neg (fun h => by injection h with _ h; injection h with _ h; exact nAB (by omega))]
  have t2 : issT l1 (me : Int) (rev : Int) (B : Int) 5 = 5 := issT_new _ n2
  have look2 : ∀ k, look l2 k = if k = ((me : Int), (rev : Int), (B : Int)) then some 5 else look l1 k := fun k => by rw [← hl2, issL_look, t2]
  have hO2 : OOk l2 := by rw [← hl2]; exact issL_ok hO1 (mk rev B (by omega) (by omega)) (by omega) (by omega) (by simp at len1; omega)
  have len2 := issL_len l1 (me : Int) (rev : Int) (B : Int) 5
  rw [hl2] at len2
  obtain ⟨l3, hl3⟩ : ∃ l3, issL l2 (me : Int) (R : Int) (C : Int) (tag2 : Int) = l3 := ⟨_, rfl⟩
  have noC : ∀ r : Nat, look l2 ((me : Int), (r : Int), (C : Int)) = none := fun r => by
    rw [look2, if_neg (fun h => by injection h with _ h; injection h with _ h; exact nBC (by omega)), look1, if_neg (fun h => by injection h with _ h; injection h with _ h; exact nAC (by omega))]
  have t3 : issT l2 (me : Int) (R : Int) (C : Int) (tag2 : Int) = (tag2 : Int) := issT_new _ (noC R)
  have look3 : ∀ k, look l3 k = if k = ((me : Int), (R : Int), (C : Int)) then some (tag2 : Int) else look l2 k := fun k => by rw [← hl3, issL_look, t3]
  have hO3 : OOk l3 := by rw [← hl3]; exact issL_ok hO2 (mk R C (by omega) (by omega)) (by omega) (by omega) (by simp at len1; omega)
  have hI1 := fun W => issue_ok (.slice none 0 0) [] l1 (me : Int) (rev : Int) (A : Int) (tag : Int) (tag : Int) W (isps_nil W) ook_nil (mk rev A (by omega) (by omega)) (wk3 rev A (by omega) (by omega)) (by omega) (by omega) (by simp) (Lib.hid hl1) (Lib.hid t1)
  have hI2 := fun v W h => issue_ok v l1 l2 (me : Int) (rev : Int) (B : Int) 5 5 W h hO1 (mk rev B (by omega) (by omega)) (wk3 rev B (by omega) (by omega)) (by omega) (by omega) (by simp at len1; omega) (Lib.hid hl2) (Lib.hid t2)
  have hI3 := fun v W h => issue_ok v l2 l3 (me : Int) (R : Int) (C : Int) (tag2 : Int) (tag2 : Int) W h hO2 (mk R C (by omega) (by omega)) (wk3 R C (by omega) (by omega)) (by omega) (by omega) (by simp at len1; omega) (Lib.hid hl3) (Lib.hid t3)
  obtain ⟨bd, lk, hbd⟩ : ∃ bd lk, badS 12 bad 0 = (bd, lk) := ⟨_, _, rfl⟩
  have E1 := keyS_none (l := l3) (me := me) (rev := rev) (cr := 0) (H := 0) (B := 0) (bad := bad) (cls := 0) (id := 3) (am := am2) (tag := tag2) (by omega) (fun r hr => by
    rw [hC, look3, if_neg (fun h => by injection h with _ h; injection h with h _; omega), noC]; simp)
  rw [hbd] at E1
  have E2 := keyS_own (l := l3) (me := me) (rev := rev) (cr := 0) (H := 0) (B := 0) (bad := bad) (cls := 2) (id := 1) (am := R) (tag := 5) (by omega) (by
    rw [hB, look3, if_neg (fun h => by injection h with _ h; injection h with h _; omega), look2, if_pos rfl]; rfl)
  unfold takeS at E2
  rw [judge_new (by omega), if_neg (by omega), if_neg (by omega), if_neg (by omega), if_neg (by omega), wtake_one] at E2
  have E3 := keyS_old (l := l3) (me := me) (rev := R) (r0 := rev) (cr := 0) (H := 1) (B := 1) (bad := 0) (cls := 0) (id := 2) (am := am) (tag := tag) (by omega) r1 (by
    rw [hA, look3, if_neg (fun h => by injection h with _ h; injection h with h _; omega), look2, if_neg (fun h => by injection h with _ h; injection h with _ h; exact nAB (by omega)), look1, if_pos rfl]) (by
    rw [hA, look3, if_neg (fun h => by injection h with _ h; injection h with _ h; exact nAC (by omega)), look2, if_neg (fun h => by injection h with _ h; injection h with h _; omega), look1, if_neg (fun h => by injection h with _ h; injection h with h _; omega)]; simp)
  obtain ⟨y1, y2, hy⟩ : ∃ y1 y2, wtake 1 1 3 = (y1, y2) := ⟨_, _, rfl⟩
  have E4 := keyS_own (l := l3) (me := me) (rev := R) (cr := 0) (H := 1) (B := 1) (bad := 0) (cls := 0) (id := 3) (am := am2) (tag := tag2) (by omega) (by
    rw [hC, look3, if_pos rfl])
  unfold takeS at E4
  rw [judge_one (by omega), if_neg (by omega), if_pos rfl, if_neg (by omega), hy, Nat.zero_add] at E4
  have hmA : mmay (me : Int) (rev : Int) ((0 : Nat) : Int) ((0 : Nat) : Int) 0 (bad : Int) ((0 : Nat) : Int) = true := mmay_of (cr := 0) (H := 0) (lock := 0) (by omega) (by omega) (by omega) (by omega) (by omega) (by omega) wmay_new
  have hmB : mmay (me : Int) (R : Int) ((0 : Nat) : Int) ((1 : Nat) : Int) 1 ((0 : Nat) : Int) ((0 : Nat) : Int) = true := mmay_of (cr := 0) (H := 1) (lock := 0) (bad := 0) (by omega) (by omega) (by omega) (by omega) (by omega) (by omega) wmay_one
  have hQ1 := fun v W h => key_ok v l3 me rev 0 0 0 bad 0 0 3 am2 tag2 _ _ _ _ _ _ _ _ W h hO3 (by decide) hmA hkC (Lib.hid E1)
  have hQ2 := fun v W h => key_ok v l3 me rev 0 0 0 bad 0 2 1 R 5 _ _ _ _ _ _ _ _ W h hO3 (by decide) hmA hkB5 (Lib.hid E2)
  have hQ3 := fun v W h => key_ok v l3 me R 0 1 1 0 0 0 2 am tag _ _ _ _ _ _ _ _ W h hO3 (by decide) hmB hkA (Lib.hid E3)
  have hQ4 := fun v W h => key_ok v l3 me R 0 1 1 0 0 0 3 am2 tag2 _ _ _ _ _ _ _ _ W h hO3 (by decide) hmB hkC (Lib.hid E4)
  have hwf1 := ook_wf hO1
  have hwf2 := ook_wf hO2
  have hwf3 := ook_wf hO3
  clear hkA hkB hkB5 hkC hk hk2 nAB nAC nBC mk wk3 hl1 t1 look1 hO1 len1 hl2 n2 t2 look2 hO2 len2 hl3 noC t3 look3 hO3 hbd E1 E2 E3 E4 hy hmA hmB hA hB hC r1 r2 r3 r4 r5 bA bB bC q5 q6 amA
  clear to0 tof0 to1 tof1 to2 tof2 to3 tof3 tolt
  have to0 : (Wf).cell? ⟨wq1.heap.size, 0, none⟩ = some (.int .i64 0) := (HM.blk 4 rfl).cell 0
  have tof0 : (Wf).frozen? ⟨wq1.heap.size, 0, none⟩ = false := (HM.blk 4 rfl).frozen 0
  have to1 : (Wf).cell? ⟨wq1.heap.size, 1, none⟩ = some (.int .i64 2) := (HM.blk 4 rfl).cell 1
  have tof1 : (Wf).frozen? ⟨wq1.heap.size, 1, none⟩ = false := (HM.blk 4 rfl).frozen 1
  have to2 : (Wf).cell? ⟨wq1.heap.size, 2, none⟩ = some (.int .i64 (am : Int)) := (HM.blk 4 rfl).cell 2
  have tof2 : (Wf).frozen? ⟨wq1.heap.size, 2, none⟩ = false := (HM.blk 4 rfl).frozen 2
  have to3 : (Wf).cell? ⟨wq1.heap.size, 3, none⟩ = some (.int .i64 (tag : Int)) := (HM.blk 4 rfl).cell 3
  have tof3 : (Wf).frozen? ⟨wq1.heap.size, 3, none⟩ = false := (HM.blk 4 rfl).frozen 3
  have tolt : wq1.heap.size < (Wf).heap.size := HM.lt 4 rfl
  have tf0 : (Wf).cell? ⟨wq2.heap.size, 0, none⟩ = some (.int .i64 0) := (HM.blk 5 rfl).cell 0
  have tff0 : (Wf).frozen? ⟨wq2.heap.size, 0, none⟩ = false := (HM.blk 5 rfl).frozen 0
  have tf1 : (Wf).cell? ⟨wq2.heap.size, 1, none⟩ = some (.int .i64 3) := (HM.blk 5 rfl).cell 1
  have tff1 : (Wf).frozen? ⟨wq2.heap.size, 1, none⟩ = false := (HM.blk 5 rfl).frozen 1
  have tf2 : (Wf).cell? ⟨wq2.heap.size, 2, none⟩ = some (.int .i64 (am2 : Int)) := (HM.blk 5 rfl).cell 2
  have tff2 : (Wf).frozen? ⟨wq2.heap.size, 2, none⟩ = false := (HM.blk 5 rfl).frozen 2
  have tf3 : (Wf).cell? ⟨wq2.heap.size, 3, none⟩ = some (.int .i64 (tag2 : Int)) := (HM.blk 5 rfl).cell 3
  have tff3 : (Wf).frozen? ⟨wq2.heap.size, 3, none⟩ = false := (HM.blk 5 rfl).frozen 3
  have tflt : wq2.heap.size < (Wf).heap.size := HM.lt 5 rfl
  have tc0 : (Wf).cell? ⟨wq2.heap.size + 1, 0, none⟩ = some (.int .i64 2) := (HM.blk 6 rfl).cell 0
  have tcf0 : (Wf).frozen? ⟨wq2.heap.size + 1, 0, none⟩ = false := (HM.blk 6 rfl).frozen 0
  have tc1 : (Wf).cell? ⟨wq2.heap.size + 1, 1, none⟩ = some (.int .i64 1) := (HM.blk 6 rfl).cell 1
  have tcf1 : (Wf).frozen? ⟨wq2.heap.size + 1, 1, none⟩ = false := (HM.blk 6 rfl).frozen 1
  have tc2 : (Wf).cell? ⟨wq2.heap.size + 1, 2, none⟩ = some (.int .i64 (R : Int)) := (HM.blk 6 rfl).cell 2
  have tcf2 : (Wf).frozen? ⟨wq2.heap.size + 1, 2, none⟩ = false := (HM.blk 6 rfl).frozen 2
  have tc3 : (Wf).cell? ⟨wq2.heap.size + 1, 3, none⟩ = some (.int .i64 0) := (HM.blk 6 rfl).cell 3
  have tcf3 : (Wf).frozen? ⟨wq2.heap.size + 1, 3, none⟩ = false := (HM.blk 6 rfl).frozen 3
  have tclt : wq2.heap.size + 1 < (Wf).heap.size := HM.lt 6 rfl
  have ne_to_tf : wq1.heap.size ≠ wq2.heap.size := HM.ne 4 5 rfl rfl (by decide)
  have ne_to_tc : wq1.heap.size ≠ wq2.heap.size + 1 := HM.ne 4 6 rfl rfl (by decide)
  have ne_tf_to : wq2.heap.size ≠ wq1.heap.size := HM.ne 5 4 rfl rfl (by decide)
  have ne_tf_tc : wq2.heap.size ≠ wq2.heap.size + 1 := HM.ne 5 6 rfl rfl (by decide)
  have ne_tc_to : wq2.heap.size + 1 ≠ wq1.heap.size := HM.ne 6 4 rfl rfl (by decide)
  have ne_tc_tf : wq2.heap.size + 1 ≠ wq2.heap.size := HM.ne 6 5 rfl rfl (by decide)
  refine (hB1 _).mono ?_
  rintro e1 wg1 ⟨rfl, hb1⟩
  replace HM : Mem (w) [] (wg1) [.blk (w.heap.size) 37 #[.int .i64 a, .int .i64 b, .int .i64 c, .int .i64 d], .blk (w.heap.size + 1) 38 #[.int .i64 0, .int .i64 f, .int .i64 g, .int .i64 h], .blk (w.heap.size + 1 + 1) 38 #[.int .i64 0, .int .i64 f2, .int .i64 g2, .int .i64 h2], .blk (wa.heap.size) 26 #[.int .i64 (me : Int), .int .i64 (rev : Int), .int .i64 0, .int .i64 0, .int .u64 0, .int .i64 (bad : Int), .int .i64 0], .blk (wq1.heap.size) 31 #[.int .i64 0, .int .i64 2, .int .i64 (am : Int), .int .i64 (tag : Int)], .blk (wq2.heap.size) 31 #[.int .i64 0, .int .i64 3, .int .i64 (am2 : Int), .int .i64 (tag2 : Int)], .blk (wq2.heap.size + 1) 31 #[.int .i64 2, .int .i64 1, .int .i64 (R : Int), .int .i64 0]] := Mem.call HM hb1
  clear to0 tof0 to1 tof1 to2 tof2 to3 tof3 tolt tf0 tff0 tf1 tff1 tf2 tff2 tf3 tff3 tflt tc0 tcf0 tc1 tcf1 tc2 tcf2 tc3 tcf3 tclt ne_to_tf ne_to_tc ne_tf_to ne_tf_tc ne_tc_to ne_tc_tf
  have tf0 : (wg1).cell? ⟨wq2.heap.size, 0, none⟩ = some (.int .i64 0) := (HM.blk 5 rfl).cell 0
  have tff0 : (wg1).frozen? ⟨wq2.heap.size, 0, none⟩ = false := (HM.blk 5 rfl).frozen 0
  have tf1 : (wg1).cell? ⟨wq2.heap.size, 1, none⟩ = some (.int .i64 3) := (HM.blk 5 rfl).cell 1
  have tff1 : (wg1).frozen? ⟨wq2.heap.size, 1, none⟩ = false := (HM.blk 5 rfl).frozen 1
  have tf2 : (wg1).cell? ⟨wq2.heap.size, 2, none⟩ = some (.int .i64 (am2 : Int)) := (HM.blk 5 rfl).cell 2
  have tff2 : (wg1).frozen? ⟨wq2.heap.size, 2, none⟩ = false := (HM.blk 5 rfl).frozen 2
  have tf3 : (wg1).cell? ⟨wq2.heap.size, 3, none⟩ = some (.int .i64 (tag2 : Int)) := (HM.blk 5 rfl).cell 3
  have tff3 : (wg1).frozen? ⟨wq2.heap.size, 3, none⟩ = false := (HM.blk 5 rfl).frozen 3
  have tflt : wq2.heap.size < (wg1).heap.size := HM.lt 5 rfl
  have tc0 : (wg1).cell? ⟨wq2.heap.size + 1, 0, none⟩ = some (.int .i64 2) := (HM.blk 6 rfl).cell 0
  have tcf0 : (wg1).frozen? ⟨wq2.heap.size + 1, 0, none⟩ = false := (HM.blk 6 rfl).frozen 0
  have tc1 : (wg1).cell? ⟨wq2.heap.size + 1, 1, none⟩ = some (.int .i64 1) := (HM.blk 6 rfl).cell 1
  have tcf1 : (wg1).frozen? ⟨wq2.heap.size + 1, 1, none⟩ = false := (HM.blk 6 rfl).frozen 1
  have tc2 : (wg1).cell? ⟨wq2.heap.size + 1, 2, none⟩ = some (.int .i64 (R : Int)) := (HM.blk 6 rfl).cell 2
  have tcf2 : (wg1).frozen? ⟨wq2.heap.size + 1, 2, none⟩ = false := (HM.blk 6 rfl).frozen 2
  have tc3 : (wg1).cell? ⟨wq2.heap.size + 1, 3, none⟩ = some (.int .i64 0) := (HM.blk 6 rfl).cell 3
  have tcf3 : (wg1).frozen? ⟨wq2.heap.size + 1, 3, none⟩ = false := (HM.blk 6 rfl).frozen 3
  have tclt : wq2.heap.size + 1 < (wg1).heap.size := HM.lt 6 rfl
  have ne_tf_tc : wq2.heap.size ≠ wq2.heap.size + 1 := HM.ne 5 6 rfl rfl (by decide)
  have ne_tc_tf : wq2.heap.size + 1 ≠ wq2.heap.size := HM.ne 6 5 rfl rfl (by decide)
  clear hb1 hB1
  go_wp2_with fail
  refine (hB2 _).mono ?_
  rintro e1 wg2 ⟨rfl, hb1⟩
  replace HM : Mem (w) [] (wg2) [.blk (w.heap.size) 37 #[.int .i64 a, .int .i64 b, .int .i64 c, .int .i64 d], .blk (w.heap.size + 1) 38 #[.int .i64 0, .int .i64 f, .int .i64 g, .int .i64 h], .blk (w.heap.size + 1 + 1) 38 #[.int .i64 0, .int .i64 f2, .int .i64 g2, .int .i64 h2], .blk (wa.heap.size) 26 #[.int .i64 (me : Int), .int .i64 (rev : Int), .int .i64 0, .int .i64 0, .int .u64 0, .int .i64 (bad : Int), .int .i64 0], .blk (wq1.heap.size) 31 #[.int .i64 0, .int .i64 2, .int .i64 (am : Int), .int .i64 (tag : Int)], .blk (wq2.heap.size) 31 #[.int .i64 0, .int .i64 3, .int .i64 (am2 : Int), .int .i64 (tag2 : Int)], .blk (wq2.heap.size + 1) 31 #[.int .i64 2, .int .i64 1, .int .i64 (R : Int), .int .i64 0]] := Mem.call HM hb1
  clear tf0 tff0 tf1 tff1 tf2 tff2 tf3 tff3 tflt tc0 tcf0 tc1 tcf1 tc2 tcf2 tc3 tcf3 tclt ne_tf_tc ne_tc_tf
  have tf0 : (wg2).cell? ⟨wq2.heap.size, 0, none⟩ = some (.int .i64 0) := (HM.blk 5 rfl).cell 0
  have tff0 : (wg2).frozen? ⟨wq2.heap.size, 0, none⟩ = false := (HM.blk 5 rfl).frozen 0
  have tf1 : (wg2).cell? ⟨wq2.heap.size, 1, none⟩ = some (.int .i64 3) := (HM.blk 5 rfl).cell 1
  have tff1 : (wg2).frozen? ⟨wq2.heap.size, 1, none⟩ = false := (HM.blk 5 rfl).frozen 1
  have tf2 : (wg2).cell? ⟨wq2.heap.size, 2, none⟩ = some (.int .i64 (am2 : Int)) := (HM.blk 5 rfl).cell 2
  have tff2 : (wg2).frozen? ⟨wq2.heap.size, 2, none⟩ = false := (HM.blk 5 rfl).frozen 2
  have tf3 : (wg2).cell? ⟨wq2.heap.size, 3, none⟩ = some (.int .i64 (tag2 : Int)) := (HM.blk 5 rfl).cell 3
  have tff3 : (wg2).frozen? ⟨wq2.heap.size, 3, none⟩ = false := (HM.blk 5 rfl).frozen 3
  have tflt : wq2.heap.size < (wg2).heap.size := HM.lt 5 rfl
  clear hb1 hB2
  go_wp2_with fail
  refine (hB3 _).mono ?_
  rintro e1 wg3 ⟨rfl, hb1⟩
  replace HM : Mem (w) [] (wg3) [.blk (w.heap.size) 37 #[.int .i64 a, .int .i64 b, .int .i64 c, .int .i64 d], .blk (w.heap.size + 1) 38 #[.int .i64 0, .int .i64 f, .int .i64 g, .int .i64 h], .blk (w.heap.size + 1 + 1) 38 #[.int .i64 0, .int .i64 f2, .int .i64 g2, .int .i64 h2], .blk (wa.heap.size) 26 #[.int .i64 (me : Int), .int .i64 (rev : Int), .int .i64 0, .int .i64 0, .int .u64 0, .int .i64 (bad : Int), .int .i64 0], .blk (wq1.heap.size) 31 #[.int .i64 0, .int .i64 2, .int .i64 (am : Int), .int .i64 (tag : Int)], .blk (wq2.heap.size) 31 #[.int .i64 0, .int .i64 3, .int .i64 (am2 : Int), .int .i64 (tag2 : Int)], .blk (wq2.heap.size + 1) 31 #[.int .i64 2, .int .i64 1, .int .i64 (R : Int), .int .i64 0]] := Mem.call HM hb1
  clear tf0 tff0 tf1 tff1 tf2 tff2 tf3 tff3 tflt
  have mt0 : (wg3).cell? ⟨wa.heap.size, 0, none⟩ = some (.int .i64 (me : Int)) := (HM.blk 3 rfl).cell 0
  have mtf0 : (wg3).frozen? ⟨wa.heap.size, 0, none⟩ = false := (HM.blk 3 rfl).frozen 0
  have mt1 : (wg3).cell? ⟨wa.heap.size, 1, none⟩ = some (.int .i64 (rev : Int)) := (HM.blk 3 rfl).cell 1
  have mtf1 : (wg3).frozen? ⟨wa.heap.size, 1, none⟩ = false := (HM.blk 3 rfl).frozen 1
  have mt2 : (wg3).cell? ⟨wa.heap.size, 2, none⟩ = some (.int .i64 0) := (HM.blk 3 rfl).cell 2
  have mtf2 : (wg3).frozen? ⟨wa.heap.size, 2, none⟩ = false := (HM.blk 3 rfl).frozen 2
  have mt3 : (wg3).cell? ⟨wa.heap.size, 3, none⟩ = some (.int .i64 0) := (HM.blk 3 rfl).cell 3
  have mtf3 : (wg3).frozen? ⟨wa.heap.size, 3, none⟩ = false := (HM.blk 3 rfl).frozen 3
  have mt4 : (wg3).cell? ⟨wa.heap.size, 4, none⟩ = some (.int .u64 0) := (HM.blk 3 rfl).cell 4
  have mtf4 : (wg3).frozen? ⟨wa.heap.size, 4, none⟩ = false := (HM.blk 3 rfl).frozen 4
  have mt5 : (wg3).cell? ⟨wa.heap.size, 5, none⟩ = some (.int .i64 (bad : Int)) := (HM.blk 3 rfl).cell 5
  have mtf5 : (wg3).frozen? ⟨wa.heap.size, 5, none⟩ = false := (HM.blk 3 rfl).frozen 5
  have mt6 : (wg3).cell? ⟨wa.heap.size, 6, none⟩ = some (.int .i64 0) := (HM.blk 3 rfl).cell 6
  have mtf6 : (wg3).frozen? ⟨wa.heap.size, 6, none⟩ = false := (HM.blk 3 rfl).frozen 6
  have mtlt : wa.heap.size < (wg3).heap.size := HM.lt 3 rfl
  have to0 : (wg3).cell? ⟨wq1.heap.size, 0, none⟩ = some (.int .i64 0) := (HM.blk 4 rfl).cell 0
  have tof0 : (wg3).frozen? ⟨wq1.heap.size, 0, none⟩ = false := (HM.blk 4 rfl).frozen 0
  have to1 : (wg3).cell? ⟨wq1.heap.size, 1, none⟩ = some (.int .i64 2) := (HM.blk 4 rfl).cell 1
  have tof1 : (wg3).frozen? ⟨wq1.heap.size, 1, none⟩ = false := (HM.blk 4 rfl).frozen 1
  have to2 : (wg3).cell? ⟨wq1.heap.size, 2, none⟩ = some (.int .i64 (am : Int)) := (HM.blk 4 rfl).cell 2
  have tof2 : (wg3).frozen? ⟨wq1.heap.size, 2, none⟩ = false := (HM.blk 4 rfl).frozen 2
  have to3 : (wg3).cell? ⟨wq1.heap.size, 3, none⟩ = some (.int .i64 (tag : Int)) := (HM.blk 4 rfl).cell 3
  have tof3 : (wg3).frozen? ⟨wq1.heap.size, 3, none⟩ = false := (HM.blk 4 rfl).frozen 3
  have tolt : wq1.heap.size < (wg3).heap.size := HM.lt 4 rfl
  have ne_mt_to : wa.heap.size ≠ wq1.heap.size := HM.ne 3 4 rfl rfl (by decide)
  have ne_to_mt : wq1.heap.size ≠ wa.heap.size := HM.ne 4 3 rfl rfl (by decide)
  clear hb1 hB3
  go_wp2_with fail
  refine (hI1 _).mono ?_
  rintro e1 wi1 ⟨A1, c1, rfl, _, hw1, hb1⟩
  replace HM : Mem (w) [] (wi1) [.blk (w.heap.size) 37 #[.int .i64 a, .int .i64 b, .int .i64 c, .int .i64 d], .blk (w.heap.size + 1) 38 #[.int .i64 0, .int .i64 f, .int .i64 g, .int .i64 h], .blk (w.heap.size + 1 + 1) 38 #[.int .i64 0, .int .i64 f2, .int .i64 g2, .int .i64 h2], .blk (wa.heap.size) 26 #[.int .i64 (me : Int), .int .i64 (rev : Int), .int .i64 0, .int .i64 0, .int .u64 0, .int .i64 (bad : Int), .int .i64 0], .blk (wq1.heap.size) 31 #[.int .i64 0, .int .i64 2, .int .i64 (am : Int), .int .i64 (tag : Int)], .blk (wq2.heap.size) 31 #[.int .i64 0, .int .i64 3, .int .i64 (am2 : Int), .int .i64 (tag2 : Int)], .blk (wq2.heap.size + 1) 31 #[.int .i64 2, .int .i64 1, .int .i64 (R : Int), .int .i64 0], .row (wg3.heap.size) (75) (4) (.slice A1 l1.length c1) (l1.length) (prs l1)] := Mem.row HM hb1 hw1 (Nat.le_refl _)
  clear mt0 mtf0 mt1 mtf1 mt2 mtf2 mt3 mtf3 mt4 mtf4 mt5 mtf5 mt6 mtf6 mtlt to0 tof0 to1 tof1 to2 tof2 to3 tof3 tolt ne_mt_to ne_to_mt
  have mt0 : (wi1).cell? ⟨wa.heap.size, 0, none⟩ = some (.int .i64 (me : Int)) := (HM.blk 3 rfl).cell 0
  have mtf0 : (wi1).frozen? ⟨wa.heap.size, 0, none⟩ = false := (HM.blk 3 rfl).frozen 0
  have mt1 : (wi1).cell? ⟨wa.heap.size, 1, none⟩ = some (.int .i64 (rev : Int)) := (HM.blk 3 rfl).cell 1
  have mtf1 : (wi1).frozen? ⟨wa.heap.size, 1, none⟩ = false := (HM.blk 3 rfl).frozen 1
  have mt2 : (wi1).cell? ⟨wa.heap.size, 2, none⟩ = some (.int .i64 0) := (HM.blk 3 rfl).cell 2
  have mtf2 : (wi1).frozen? ⟨wa.heap.size, 2, none⟩ = false := (HM.blk 3 rfl).frozen 2
  have mt3 : (wi1).cell? ⟨wa.heap.size, 3, none⟩ = some (.int .i64 0) := (HM.blk 3 rfl).cell 3
  have mtf3 : (wi1).frozen? ⟨wa.heap.size, 3, none⟩ = false := (HM.blk 3 rfl).frozen 3
  have mt4 : (wi1).cell? ⟨wa.heap.size, 4, none⟩ = some (.int .u64 0) := (HM.blk 3 rfl).cell 4
  have mtf4 : (wi1).frozen? ⟨wa.heap.size, 4, none⟩ = false := (HM.blk 3 rfl).frozen 4
  have mt5 : (wi1).cell? ⟨wa.heap.size, 5, none⟩ = some (.int .i64 (bad : Int)) := (HM.blk 3 rfl).cell 5
  have mtf5 : (wi1).frozen? ⟨wa.heap.size, 5, none⟩ = false := (HM.blk 3 rfl).frozen 5
  have mt6 : (wi1).cell? ⟨wa.heap.size, 6, none⟩ = some (.int .i64 0) := (HM.blk 3 rfl).cell 6
  have mtf6 : (wi1).frozen? ⟨wa.heap.size, 6, none⟩ = false := (HM.blk 3 rfl).frozen 6
  have mtlt : wa.heap.size < (wi1).heap.size := HM.lt 3 rfl
  clear hb1 hw1 hI1
  go_wp2_with fail
  obtain ⟨Wg, hWg⟩ : ∃ Wg, (wi1).alloc (.cells #[.slice A1 l1.length c1] 29) = Wg := ⟨_, rfl⟩
  replace HM : Mem (w) [] _ [.blk (w.heap.size) 37 #[.int .i64 a, .int .i64 b, .int .i64 c, .int .i64 d], .blk (w.heap.size + 1) 38 #[.int .i64 0, .int .i64 f, .int .i64 g, .int .i64 h], .blk (w.heap.size + 1 + 1) 38 #[.int .i64 0, .int .i64 f2, .int .i64 g2, .int .i64 h2], .blk (wa.heap.size) 26 #[.int .i64 (me : Int), .int .i64 (rev : Int), .int .i64 0, .int .i64 0, .int .u64 0, .int .i64 (bad : Int), .int .i64 0], .blk (wq1.heap.size) 31 #[.int .i64 0, .int .i64 2, .int .i64 (am : Int), .int .i64 (tag : Int)], .blk (wq2.heap.size) 31 #[.int .i64 0, .int .i64 3, .int .i64 (am2 : Int), .int .i64 (tag2 : Int)], .blk (wq2.heap.size + 1) 31 #[.int .i64 2, .int .i64 1, .int .i64 (R : Int), .int .i64 0], .row (wg3.heap.size) (75) (4) (.slice A1 l1.length c1) (l1.length) (prs l1), .blk (wi1.heap.size) 29 #[.slice A1 l1.length c1]] := Mem.alloc HM (wi1.heap.size) (by first | (simp; done) | (simp; omega)) #[.slice A1 l1.length c1] 29
  rw [hWg] at HM ⊢
  clear hWg
  refine (hI2 _ _ (isps_own rfl hwf1 (HM.own_ 7 rfl))).mono ?_
  rintro e1 wi2 ⟨A2, c2, rfl, _, hw1, hb1⟩
  replace HM : Mem (w) [] (wi2) [.blk (w.heap.size) 37 #[.int .i64 a, .int .i64 b, .int .i64 c, .int .i64 d], .blk (w.heap.size + 1) 38 #[.int .i64 0, .int .i64 f, .int .i64 g, .int .i64 h], .blk (w.heap.size + 1 + 1) 38 #[.int .i64 0, .int .i64 f2, .int .i64 g2, .int .i64 h2], .blk (wa.heap.size) 26 #[.int .i64 (me : Int), .int .i64 (rev : Int), .int .i64 0, .int .i64 0, .int .u64 0, .int .i64 (bad : Int), .int .i64 0], .blk (wq1.heap.size) 31 #[.int .i64 0, .int .i64 2, .int .i64 (am : Int), .int .i64 (tag : Int)], .blk (wq2.heap.size) 31 #[.int .i64 0, .int .i64 3, .int .i64 (am2 : Int), .int .i64 (tag2 : Int)], .blk (wq2.heap.size + 1) 31 #[.int .i64 2, .int .i64 1, .int .i64 (R : Int), .int .i64 0], .row (wg3.heap.size) (75) (4) (.slice A1 l1.length c1) (l1.length) (prs l1), .blk (wi1.heap.size) 29 #[.slice A1 l1.length c1], .row (Wg.heap.size) (75) (4) (.slice A2 l2.length c2) (l2.length) (prs l2)] := Mem.row HM hb1 hw1 (Nat.le_refl _)
  clear mt0 mtf0 mt1 mtf1 mt2 mtf2 mt3 mtf3 mt4 mtf4 mt5 mtf5 mt6 mtf6 mtlt
  have mt0 : (wi2).cell? ⟨wa.heap.size, 0, none⟩ = some (.int .i64 (me : Int)) := (HM.blk 3 rfl).cell 0
  have mtf0 : (wi2).frozen? ⟨wa.heap.size, 0, none⟩ = false := (HM.blk 3 rfl).frozen 0
  have mt1 : (wi2).cell? ⟨wa.heap.size, 1, none⟩ = some (.int .i64 (rev : Int)) := (HM.blk 3 rfl).cell 1
  have mtf1 : (wi2).frozen? ⟨wa.heap.size, 1, none⟩ = false := (HM.blk 3 rfl).frozen 1
  have mt2 : (wi2).cell? ⟨wa.heap.size, 2, none⟩ = some (.int .i64 0) := (HM.blk 3 rfl).cell 2
  have mtf2 : (wi2).frozen? ⟨wa.heap.size, 2, none⟩ = false := (HM.blk 3 rfl).frozen 2
  have mt3 : (wi2).cell? ⟨wa.heap.size, 3, none⟩ = some (.int .i64 0) := (HM.blk 3 rfl).cell 3
  have mtf3 : (wi2).frozen? ⟨wa.heap.size, 3, none⟩ = false := (HM.blk 3 rfl).frozen 3
  have mt4 : (wi2).cell? ⟨wa.heap.size, 4, none⟩ = some (.int .u64 0) := (HM.blk 3 rfl).cell 4
  have mtf4 : (wi2).frozen? ⟨wa.heap.size, 4, none⟩ = false := (HM.blk 3 rfl).frozen 4
  have mt5 : (wi2).cell? ⟨wa.heap.size, 5, none⟩ = some (.int .i64 (bad : Int)) := (HM.blk 3 rfl).cell 5
  have mtf5 : (wi2).frozen? ⟨wa.heap.size, 5, none⟩ = false := (HM.blk 3 rfl).frozen 5
  have mt6 : (wi2).cell? ⟨wa.heap.size, 6, none⟩ = some (.int .i64 0) := (HM.blk 3 rfl).cell 6
  have mtf6 : (wi2).frozen? ⟨wa.heap.size, 6, none⟩ = false := (HM.blk 3 rfl).frozen 6
  have mtlt : wa.heap.size < (wi2).heap.size := HM.lt 3 rfl
  have oc0 : (wi2).cell? ⟨wi1.heap.size, 0, none⟩ = some (.slice A1 l1.length c1) := (HM.blk 8 rfl).cell 0
  have ocf0 : (wi2).frozen? ⟨wi1.heap.size, 0, none⟩ = false := (HM.blk 8 rfl).frozen 0
  have oclt : wi1.heap.size < (wi2).heap.size := HM.lt 8 rfl
  have tf0 : (wi2).cell? ⟨wq2.heap.size, 0, none⟩ = some (.int .i64 0) := (HM.blk 5 rfl).cell 0
  have tff0 : (wi2).frozen? ⟨wq2.heap.size, 0, none⟩ = false := (HM.blk 5 rfl).frozen 0
  have tf1 : (wi2).cell? ⟨wq2.heap.size, 1, none⟩ = some (.int .i64 3) := (HM.blk 5 rfl).cell 1
  have tff1 : (wi2).frozen? ⟨wq2.heap.size, 1, none⟩ = false := (HM.blk 5 rfl).frozen 1
  have tf2 : (wi2).cell? ⟨wq2.heap.size, 2, none⟩ = some (.int .i64 (am2 : Int)) := (HM.blk 5 rfl).cell 2
  have tff2 : (wi2).frozen? ⟨wq2.heap.size, 2, none⟩ = false := (HM.blk 5 rfl).frozen 2
  have tf3 : (wi2).cell? ⟨wq2.heap.size, 3, none⟩ = some (.int .i64 (tag2 : Int)) := (HM.blk 5 rfl).cell 3
  have tff3 : (wi2).frozen? ⟨wq2.heap.size, 3, none⟩ = false := (HM.blk 5 rfl).frozen 3
  have tflt : wq2.heap.size < (wi2).heap.size := HM.lt 5 rfl
  have ne_mt_oc : wa.heap.size ≠ wi1.heap.size := HM.ne 3 8 rfl rfl (by decide)
  have ne_mt_tf : wa.heap.size ≠ wq2.heap.size := HM.ne 3 5 rfl rfl (by decide)
  have ne_oc_mt : wi1.heap.size ≠ wa.heap.size := HM.ne 8 3 rfl rfl (by decide)
  have ne_oc_tf : wi1.heap.size ≠ wq2.heap.size := HM.ne 8 5 rfl rfl (by decide)
  have ne_tf_mt : wq2.heap.size ≠ wa.heap.size := HM.ne 5 3 rfl rfl (by decide)
  have ne_tf_oc : wq2.heap.size ≠ wi1.heap.size := HM.ne 5 8 rfl rfl (by decide)
  clear hb1 hw1 hI2
  go_wp2_with fail
  obtain ⟨Wh, hWh⟩ : ∃ Wh, (wi2).setCell ⟨wi1.heap.size, 0, none⟩ (.slice A2 l2.length c2) = Wh := ⟨_, rfl⟩
  replace HM : Mem (w) [] _ [.blk (w.heap.size) 37 #[.int .i64 a, .int .i64 b, .int .i64 c, .int .i64 d], .blk (w.heap.size + 1) 38 #[.int .i64 0, .int .i64 f, .int .i64 g, .int .i64 h], .blk (w.heap.size + 1 + 1) 38 #[.int .i64 0, .int .i64 f2, .int .i64 g2, .int .i64 h2], .blk (wa.heap.size) 26 #[.int .i64 (me : Int), .int .i64 (rev : Int), .int .i64 0, .int .i64 0, .int .u64 0, .int .i64 (bad : Int), .int .i64 0], .blk (wq1.heap.size) 31 #[.int .i64 0, .int .i64 2, .int .i64 (am : Int), .int .i64 (tag : Int)], .blk (wq2.heap.size) 31 #[.int .i64 0, .int .i64 3, .int .i64 (am2 : Int), .int .i64 (tag2 : Int)], .blk (wq2.heap.size + 1) 31 #[.int .i64 2, .int .i64 1, .int .i64 (R : Int), .int .i64 0], .row (wg3.heap.size) (75) (4) (.slice A1 l1.length c1) (l1.length) (prs l1), .blk (wi1.heap.size) 29 #[.slice A2 l2.length c2], .row (Wg.heap.size) (75) (4) (.slice A2 l2.length c2) (l2.length) (prs l2)] := Mem.set 8 HM rfl 0 (.slice A2 l2.length c2)
  rw [hWh] at HM ⊢
  clear hWh
  refine (hI3 _ _ (isps_own rfl hwf2 (HM.own_ 9 rfl))).mono ?_
  rintro e1 wi3 ⟨A3, c3, rfl, _, hw1, hb1⟩
  replace HM : Mem (w) [] (wi3) [.blk (w.heap.size) 37 #[.int .i64 a, .int .i64 b, .int .i64 c, .int .i64 d], .blk (w.heap.size + 1) 38 #[.int .i64 0, .int .i64 f, .int .i64 g, .int .i64 h], .blk (w.heap.size + 1 + 1) 38 #[.int .i64 0, .int .i64 f2, .int .i64 g2, .int .i64 h2], .blk (wa.heap.size) 26 #[.int .i64 (me : Int), .int .i64 (rev : Int), .int .i64 0, .int .i64 0, .int .u64 0, .int .i64 (bad : Int), .int .i64 0], .blk (wq1.heap.size) 31 #[.int .i64 0, .int .i64 2, .int .i64 (am : Int), .int .i64 (tag : Int)], .blk (wq2.heap.size) 31 #[.int .i64 0, .int .i64 3, .int .i64 (am2 : Int), .int .i64 (tag2 : Int)], .blk (wq2.heap.size + 1) 31 #[.int .i64 2, .int .i64 1, .int .i64 (R : Int), .int .i64 0], .row (wg3.heap.size) (75) (4) (.slice A1 l1.length c1) (l1.length) (prs l1), .blk (wi1.heap.size) 29 #[.slice A2 l2.length c2], .row (Wg.heap.size) (75) (4) (.slice A2 l2.length c2) (l2.length) (prs l2), .row (Wh.heap.size) (75) (4) (.slice A3 l3.length c3) (l3.length) (prs l3)] := Mem.row HM hb1 hw1 (Nat.le_refl _)
  clear mt0 mtf0 mt1 mtf1 mt2 mtf2 mt3 mtf3 mt4 mtf4 mt5 mtf5 mt6 mtf6 mtlt oc0 ocf0 oclt tf0 tff0 tf1 tff1 tf2 tff2 tf3 tff3 tflt ne_mt_oc ne_mt_tf ne_oc_mt ne_oc_tf ne_tf_mt ne_tf_oc
  have mt0 : (wi3).cell? ⟨wa.heap.size, 0, none⟩ = some (.int .i64 (me : Int)) := (HM.blk 3 rfl).cell 0
  have mtf0 : (wi3).frozen? ⟨wa.heap.size, 0, none⟩ = false := (HM.blk 3 rfl).frozen 0
  have mt1 : (wi3).cell? ⟨wa.heap.size, 1, none⟩ = some (.int .i64 (rev : Int)) := (HM.blk 3 rfl).cell 1
  have mtf1 : (wi3).frozen? ⟨wa.heap.size, 1, none⟩ = false := (HM.blk 3 rfl).frozen 1
  have mt2 : (wi3).cell? ⟨wa.heap.size, 2, none⟩ = some (.int .i64 0) := (HM.blk 3 rfl).cell 2
  have mtf2 : (wi3).frozen? ⟨wa.heap.size, 2, none⟩ = false := (HM.blk 3 rfl).frozen 2
  have mt3 : (wi3).cell? ⟨wa.heap.size, 3, none⟩ = some (.int .i64 0) := (HM.blk 3 rfl).cell 3
  have mtf3 : (wi3).frozen? ⟨wa.heap.size, 3, none⟩ = false := (HM.blk 3 rfl).frozen 3
  have mt4 : (wi3).cell? ⟨wa.heap.size, 4, none⟩ = some (.int .u64 0) := (HM.blk 3 rfl).cell 4
  have mtf4 : (wi3).frozen? ⟨wa.heap.size, 4, none⟩ = false := (HM.blk 3 rfl).frozen 4
  have mt5 : (wi3).cell? ⟨wa.heap.size, 5, none⟩ = some (.int .i64 (bad : Int)) := (HM.blk 3 rfl).cell 5
  have mtf5 : (wi3).frozen? ⟨wa.heap.size, 5, none⟩ = false := (HM.blk 3 rfl).frozen 5
  have mt6 : (wi3).cell? ⟨wa.heap.size, 6, none⟩ = some (.int .i64 0) := (HM.blk 3 rfl).cell 6
  have mtf6 : (wi3).frozen? ⟨wa.heap.size, 6, none⟩ = false := (HM.blk 3 rfl).frozen 6
  have mtlt : wa.heap.size < (wi3).heap.size := HM.lt 3 rfl
  have oc0 : (wi3).cell? ⟨wi1.heap.size, 0, none⟩ = some (.slice A2 l2.length c2) := (HM.blk 8 rfl).cell 0
  have ocf0 : (wi3).frozen? ⟨wi1.heap.size, 0, none⟩ = false := (HM.blk 8 rfl).frozen 0
  have oclt : wi1.heap.size < (wi3).heap.size := HM.lt 8 rfl
  have to0 : (wi3).cell? ⟨wq1.heap.size, 0, none⟩ = some (.int .i64 0) := (HM.blk 4 rfl).cell 0
  have tof0 : (wi3).frozen? ⟨wq1.heap.size, 0, none⟩ = false := (HM.blk 4 rfl).frozen 0
  have to1 : (wi3).cell? ⟨wq1.heap.size, 1, none⟩ = some (.int .i64 2) := (HM.blk 4 rfl).cell 1
  have tof1 : (wi3).frozen? ⟨wq1.heap.size, 1, none⟩ = false := (HM.blk 4 rfl).frozen 1
  have to2 : (wi3).cell? ⟨wq1.heap.size, 2, none⟩ = some (.int .i64 (am : Int)) := (HM.blk 4 rfl).cell 2
  have tof2 : (wi3).frozen? ⟨wq1.heap.size, 2, none⟩ = false := (HM.blk 4 rfl).frozen 2
  have to3 : (wi3).cell? ⟨wq1.heap.size, 3, none⟩ = some (.int .i64 (tag : Int)) := (HM.blk 4 rfl).cell 3
  have tof3 : (wi3).frozen? ⟨wq1.heap.size, 3, none⟩ = false := (HM.blk 4 rfl).frozen 3
  have tolt : wq1.heap.size < (wi3).heap.size := HM.lt 4 rfl
  have tf0 : (wi3).cell? ⟨wq2.heap.size, 0, none⟩ = some (.int .i64 0) := (HM.blk 5 rfl).cell 0
  have tff0 : (wi3).frozen? ⟨wq2.heap.size, 0, none⟩ = false := (HM.blk 5 rfl).frozen 0
  have tf1 : (wi3).cell? ⟨wq2.heap.size, 1, none⟩ = some (.int .i64 3) := (HM.blk 5 rfl).cell 1
  have tff1 : (wi3).frozen? ⟨wq2.heap.size, 1, none⟩ = false := (HM.blk 5 rfl).frozen 1
  have tf2 : (wi3).cell? ⟨wq2.heap.size, 2, none⟩ = some (.int .i64 (am2 : Int)) := (HM.blk 5 rfl).cell 2
  have tff2 : (wi3).frozen? ⟨wq2.heap.size, 2, none⟩ = false := (HM.blk 5 rfl).frozen 2
  have tf3 : (wi3).cell? ⟨wq2.heap.size, 3, none⟩ = some (.int .i64 (tag2 : Int)) := (HM.blk 5 rfl).cell 3
  have tff3 : (wi3).frozen? ⟨wq2.heap.size, 3, none⟩ = false := (HM.blk 5 rfl).frozen 3
  have tflt : wq2.heap.size < (wi3).heap.size := HM.lt 5 rfl
  have tc0 : (wi3).cell? ⟨wq2.heap.size + 1, 0, none⟩ = some (.int .i64 2) := (HM.blk 6 rfl).cell 0
  have tcf0 : (wi3).frozen? ⟨wq2.heap.size + 1, 0, none⟩ = false := (HM.blk 6 rfl).frozen 0
  have tc1 : (wi3).cell? ⟨wq2.heap.size + 1, 1, none⟩ = some (.int .i64 1) := (HM.blk 6 rfl).cell 1
  have tcf1 : (wi3).frozen? ⟨wq2.heap.size + 1, 1, none⟩ = false := (HM.blk 6 rfl).frozen 1
  have tc2 : (wi3).cell? ⟨wq2.heap.size + 1, 2, none⟩ = some (.int .i64 (R : Int)) := (HM.blk 6 rfl).cell 2
  have tcf2 : (wi3).frozen? ⟨wq2.heap.size + 1, 2, none⟩ = false := (HM.blk 6 rfl).frozen 2
  have tc3 : (wi3).cell? ⟨wq2.heap.size + 1, 3, none⟩ = some (.int .i64 0) := (HM.blk 6 rfl).cell 3
  have tcf3 : (wi3).frozen? ⟨wq2.heap.size + 1, 3, none⟩ = false := (HM.blk 6 rfl).frozen 3
  have tclt : wq2.heap.size + 1 < (wi3).heap.size := HM.lt 6 rfl
  have ne_mt_oc : wa.heap.size ≠ wi1.heap.size := HM.ne 3 8 rfl rfl (by decide)
  have ne_mt_to : wa.heap.size ≠ wq1.heap.size := HM.ne 3 4 rfl rfl (by decide)
  have ne_mt_tf : wa.heap.size ≠ wq2.heap.size := HM.ne 3 5 rfl rfl (by decide)
  have ne_mt_tc : wa.heap.size ≠ wq2.heap.size + 1 := HM.ne 3 6 rfl rfl (by decide)
  have ne_oc_mt : wi1.heap.size ≠ wa.heap.size := HM.ne 8 3 rfl rfl (by decide)
  have ne_oc_to : wi1.heap.size ≠ wq1.heap.size := HM.ne 8 4 rfl rfl (by decide)
  have ne_oc_tf : wi1.heap.size ≠ wq2.heap.size := HM.ne 8 5 rfl rfl (by decide)
  have ne_oc_tc : wi1.heap.size ≠ wq2.heap.size + 1 := HM.ne 8 6 rfl rfl (by decide)
  have ne_to_mt : wq1.heap.size ≠ wa.heap.size := HM.ne 4 3 rfl rfl (by decide)
  have ne_to_oc : wq1.heap.size ≠ wi1.heap.size := HM.ne 4 8 rfl rfl (by decide)
  have ne_to_tf : wq1.heap.size ≠ wq2.heap.size := HM.ne 4 5 rfl rfl (by decide)
  have ne_to_tc : wq1.heap.size ≠ wq2.heap.size + 1 := HM.ne 4 6 rfl rfl (by decide)
  have ne_tf_mt : wq2.heap.size ≠ wa.heap.size := HM.ne 5 3 rfl rfl (by decide)
  have ne_tf_oc : wq2.heap.size ≠ wi1.heap.size := HM.ne 5 8 rfl rfl (by decide)
  have ne_tf_to : wq2.heap.size ≠ wq1.heap.size := HM.ne 5 4 rfl rfl (by decide)
  have ne_tf_tc : wq2.heap.size ≠ wq2.heap.size + 1 := HM.ne 5 6 rfl rfl (by decide)
  have ne_tc_mt : wq2.heap.size + 1 ≠ wa.heap.size := HM.ne 6 3 rfl rfl (by decide)
  have ne_tc_oc : wq2.heap.size + 1 ≠ wi1.heap.size := HM.ne 6 8 rfl rfl (by decide)
  have ne_tc_to : wq2.heap.size + 1 ≠ wq1.heap.size := HM.ne 6 4 rfl rfl (by decide)
  have ne_tc_tf : wq2.heap.size + 1 ≠ wq2.heap.size := HM.ne 6 5 rfl rfl (by decide)
  clear hb1 hw1 hI3
  go_wp2_with fail
  obtain ⟨Wi, hWi⟩ : ∃ Wi, ((((wi3).setCell ⟨wi1.heap.size, 0, none⟩ (.slice A3 l3.length c3)).setCell ⟨wq1.heap.size, 3, none⟩ (.int .i64 (tag : Int))).setCell ⟨wq2.heap.size + 1, 3, none⟩ (.int .i64 5)).setCell ⟨wq2.heap.size, 3, none⟩ (.int .i64 (tag2 : Int)) = Wi := ⟨_, rfl⟩
  replace HM : Mem (w) [] _ [.blk (w.heap.size) 37 #[.int .i64 a, .int .i64 b, .int .i64 c, .int .i64 d], .blk (w.heap.size + 1) 38 #[.int .i64 0, .int .i64 f, .int .i64 g, .int .i64 h], .blk (w.heap.size + 1 + 1) 38 #[.int .i64 0, .int .i64 f2, .int .i64 g2, .int .i64 h2], .blk (wa.heap.size) 26 #[.int .i64 (me : Int), .int .i64 (rev : Int), .int .i64 0, .int .i64 0, .int .u64 0, .int .i64 (bad : Int), .int .i64 0], .blk (wq1.heap.size) 31 #[.int .i64 0, .int .i64 2, .int .i64 (am : Int), .int .i64 (tag : Int)], .blk (wq2.heap.size) 31 #[.int .i64 0, .int .i64 3, .int .i64 (am2 : Int), .int .i64 (tag2 : Int)], .blk (wq2.heap.size + 1) 31 #[.int .i64 2, .int .i64 1, .int .i64 (R : Int), .int .i64 0], .row (wg3.heap.size) (75) (4) (.slice A1 l1.length c1) (l1.length) (prs l1), .blk (wi1.heap.size) 29 #[.slice A3 l3.length c3], .row (Wg.heap.size) (75) (4) (.slice A2 l2.length c2) (l2.length) (prs l2), .row (Wh.heap.size) (75) (4) (.slice A3 l3.length c3) (l3.length) (prs l3)] := Mem.set 8 HM rfl 0 (.slice A3 l3.length c3)
  replace HM : Mem (w) [] _ [.blk (w.heap.size) 37 #[.int .i64 a, .int .i64 b, .int .i64 c, .int .i64 d], .blk (w.heap.size + 1) 38 #[.int .i64 0, .int .i64 f, .int .i64 g, .int .i64 h], .blk (w.heap.size + 1 + 1) 38 #[.int .i64 0, .int .i64 f2, .int .i64 g2, .int .i64 h2], .blk (wa.heap.size) 26 #[.int .i64 (me : Int), .int .i64 (rev : Int), .int .i64 0, .int .i64 0, .int .u64 0, .int .i64 (bad : Int), .int .i64 0], .blk (wq1.heap.size) 31 #[.int .i64 0, .int .i64 2, .int .i64 (am : Int), .int .i64 (tag : Int)], .blk (wq2.heap.size) 31 #[.int .i64 0, .int .i64 3, .int .i64 (am2 : Int), .int .i64 (tag2 : Int)], .blk (wq2.heap.size + 1) 31 #[.int .i64 2, .int .i64 1, .int .i64 (R : Int), .int .i64 0], .row (wg3.heap.size) (75) (4) (.slice A1 l1.length c1) (l1.length) (prs l1), .blk (wi1.heap.size) 29 #[.slice A3 l3.length c3], .row (Wg.heap.size) (75) (4) (.slice A2 l2.length c2) (l2.length) (prs l2), .row (Wh.heap.size) (75) (4) (.slice A3 l3.length c3) (l3.length) (prs l3)] := Mem.set 4 HM rfl 3 (.int .i64 (tag : Int))
  replace HM : Mem (w) [] _ [.blk (w.heap.size) 37 #[.int .i64 a, .int .i64 b, .int .i64 c, .int .i64 d], .blk (w.heap.size + 1) 38 #[.int .i64 0, .int .i64 f, .int .i64 g, .int .i64 h], .blk (w.heap.size + 1 + 1) 38 #[.int .i64 0, .int .i64 f2, .int .i64 g2, .int .i64 h2], .blk (wa.heap.size) 26 #[.int .i64 (me : Int), .int .i64 (rev : Int), .int .i64 0, .int .i64 0, .int .u64 0, .int .i64 (bad : Int), .int .i64 0], .blk (wq1.heap.size) 31 #[.int .i64 0, .int .i64 2, .int .i64 (am : Int), .int .i64 (tag : Int)], .blk (wq2.heap.size) 31 #[.int .i64 0, .int .i64 3, .int .i64 (am2 : Int), .int .i64 (tag2 : Int)], .blk (wq2.heap.size + 1) 31 #[.int .i64 2, .int .i64 1, .int .i64 (R : Int), .int .i64 5], .row (wg3.heap.size) (75) (4) (.slice A1 l1.length c1) (l1.length) (prs l1), .blk (wi1.heap.size) 29 #[.slice A3 l3.length c3], .row (Wg.heap.size) (75) (4) (.slice A2 l2.length c2) (l2.length) (prs l2), .row (Wh.heap.size) (75) (4) (.slice A3 l3.length c3) (l3.length) (prs l3)] := Mem.set 6 HM rfl 3 (.int .i64 5)
  replace HM : Mem (w) [] _ [.blk (w.heap.size) 37 #[.int .i64 a, .int .i64 b, .int .i64 c, .int .i64 d], .blk (w.heap.size + 1) 38 #[.int .i64 0, .int .i64 f, .int .i64 g, .int .i64 h], .blk (w.heap.size + 1 + 1) 38 #[.int .i64 0, .int .i64 f2, .int .i64 g2, .int .i64 h2], .blk (wa.heap.size) 26 #[.int .i64 (me : Int), .int .i64 (rev : Int), .int .i64 0, .int .i64 0, .int .u64 0, .int .i64 (bad : Int), .int .i64 0], .blk (wq1.heap.size) 31 #[.int .i64 0, .int .i64 2, .int .i64 (am : Int), .int .i64 (tag : Int)], .blk (wq2.heap.size) 31 #[.int .i64 0, .int .i64 3, .int .i64 (am2 : Int), .int .i64 (tag2 : Int)], .blk (wq2.heap.size + 1) 31 #[.int .i64 2, .int .i64 1, .int .i64 (R : Int), .int .i64 5], .row (wg3.heap.size) (75) (4) (.slice A1 l1.length c1) (l1.length) (prs l1), .blk (wi1.heap.size) 29 #[.slice A3 l3.length c3], .row (Wg.heap.size) (75) (4) (.slice A2 l2.length c2) (l2.length) (prs l2), .row (Wh.heap.size) (75) (4) (.slice A3 l3.length c3) (l3.length) (prs l3)] := Mem.set 5 HM rfl 3 (.int .i64 (tag2 : Int))
  rw [hWi] at HM ⊢
  clear hWi
  refine (hQ1 _ _ (isps_own rfl hwf3 (HM.own_ 10 rfl))).mono ?_
  rintro e1 wk1 ⟨rfl, hb1⟩
  replace HM : Mem (w) [] (wk1) [.blk (w.heap.size) 37 #[.int .i64 a, .int .i64 b, .int .i64 c, .int .i64 d], .blk (w.heap.size + 1) 38 #[.int .i64 0, .int .i64 f, .int .i64 g, .int .i64 h], .blk (w.heap.size + 1 + 1) 38 #[.int .i64 0, .int .i64 f2, .int .i64 g2, .int .i64 h2], .blk (wa.heap.size) 26 #[.int .i64 (me : Int), .int .i64 (rev : Int), .int .i64 0, .int .i64 0, .int .u64 0, .int .i64 (bad : Int), .int .i64 0], .blk (wq1.heap.size) 31 #[.int .i64 0, .int .i64 2, .int .i64 (am : Int), .int .i64 (tag : Int)], .blk (wq2.heap.size) 31 #[.int .i64 0, .int .i64 3, .int .i64 (am2 : Int), .int .i64 (tag2 : Int)], .blk (wq2.heap.size + 1) 31 #[.int .i64 2, .int .i64 1, .int .i64 (R : Int), .int .i64 5], .row (wg3.heap.size) (75) (4) (.slice A1 l1.length c1) (l1.length) (prs l1), .blk (wi1.heap.size) 29 #[.slice A3 l3.length c3], .row (Wg.heap.size) (75) (4) (.slice A2 l2.length c2) (l2.length) (prs l2), .row (Wh.heap.size) (75) (4) (.slice A3 l3.length c3) (l3.length) (prs l3)] := Mem.call HM hb1
  clear mt0 mtf0 mt1 mtf1 mt2 mtf2 mt3 mtf3 mt4 mtf4 mt5 mtf5 mt6 mtf6 mtlt oc0 ocf0 oclt to0 tof0 to1 tof1 to2 tof2 to3 tof3 tolt tf0 tff0 tf1 tff1 tf2 tff2 tf3 tff3 tflt tc0 tcf0 tc1 tcf1 tc2 tcf2 tc3 tcf3 tclt ne_mt_oc ne_mt_to ne_mt_tf ne_mt_tc ne_oc_mt ne_oc_to ne_oc_tf ne_oc_tc ne_to_mt ne_to_oc ne_to_tf ne_to_tc ne_tf_mt ne_tf_oc ne_tf_to ne_tf_tc ne_tc_mt ne_tc_oc ne_tc_to ne_tc_tf
  have mt0 : (wk1).cell? ⟨wa.heap.size, 0, none⟩ = some (.int .i64 (me : Int)) := (HM.blk 3 rfl).cell 0
  have mtf0 : (wk1).frozen? ⟨wa.heap.size, 0, none⟩ = false := (HM.blk 3 rfl).frozen 0
  have mt1 : (wk1).cell? ⟨wa.heap.size, 1, none⟩ = some (.int .i64 (rev : Int)) := (HM.blk 3 rfl).cell 1
  have mtf1 : (wk1).frozen? ⟨wa.heap.size, 1, none⟩ = false := (HM.blk 3 rfl).frozen 1
  have mt2 : (wk1).cell? ⟨wa.heap.size, 2, none⟩ = some (.int .i64 0) := (HM.blk 3 rfl).cell 2
  have mtf2 : (wk1).frozen? ⟨wa.heap.size, 2, none⟩ = false := (HM.blk 3 rfl).frozen 2
  have mt3 : (wk1).cell? ⟨wa.heap.size, 3, none⟩ = some (.int .i64 0) := (HM.blk 3 rfl).cell 3
  have mtf3 : (wk1).frozen? ⟨wa.heap.size, 3, none⟩ = false := (HM.blk 3 rfl).frozen 3
  have mt4 : (wk1).cell? ⟨wa.heap.size, 4, none⟩ = some (.int .u64 0) := (HM.blk 3 rfl).cell 4
  have mtf4 : (wk1).frozen? ⟨wa.heap.size, 4, none⟩ = false := (HM.blk 3 rfl).frozen 4
  have mt5 : (wk1).cell? ⟨wa.heap.size, 5, none⟩ = some (.int .i64 (bad : Int)) := (HM.blk 3 rfl).cell 5
  have mtf5 : (wk1).frozen? ⟨wa.heap.size, 5, none⟩ = false := (HM.blk 3 rfl).frozen 5
  have mt6 : (wk1).cell? ⟨wa.heap.size, 6, none⟩ = some (.int .i64 0) := (HM.blk 3 rfl).cell 6
  have mtf6 : (wk1).frozen? ⟨wa.heap.size, 6, none⟩ = false := (HM.blk 3 rfl).frozen 6
  have mtlt : wa.heap.size < (wk1).heap.size := HM.lt 3 rfl
  have oc0 : (wk1).cell? ⟨wi1.heap.size, 0, none⟩ = some (.slice A3 l3.length c3) := (HM.blk 8 rfl).cell 0
  have ocf0 : (wk1).frozen? ⟨wi1.heap.size, 0, none⟩ = false := (HM.blk 8 rfl).frozen 0
  have oclt : wi1.heap.size < (wk1).heap.size := HM.lt 8 rfl
  have tc0 : (wk1).cell? ⟨wq2.heap.size + 1, 0, none⟩ = some (.int .i64 2) := (HM.blk 6 rfl).cell 0
  have tcf0 : (wk1).frozen? ⟨wq2.heap.size + 1, 0, none⟩ = false := (HM.blk 6 rfl).frozen 0
  have tc1 : (wk1).cell? ⟨wq2.heap.size + 1, 1, none⟩ = some (.int .i64 1) := (HM.blk 6 rfl).cell 1
  have tcf1 : (wk1).frozen? ⟨wq2.heap.size + 1, 1, none⟩ = false := (HM.blk 6 rfl).frozen 1
  have tc2 : (wk1).cell? ⟨wq2.heap.size + 1, 2, none⟩ = some (.int .i64 (R : Int)) := (HM.blk 6 rfl).cell 2
  have tcf2 : (wk1).frozen? ⟨wq2.heap.size + 1, 2, none⟩ = false := (HM.blk 6 rfl).frozen 2
  have tc3 : (wk1).cell? ⟨wq2.heap.size + 1, 3, none⟩ = some (.int .i64 5) := (HM.blk 6 rfl).cell 3
  have tcf3 : (wk1).frozen? ⟨wq2.heap.size + 1, 3, none⟩ = false := (HM.blk 6 rfl).frozen 3
  have tclt : wq2.heap.size + 1 < (wk1).heap.size := HM.lt 6 rfl
  have ne_mt_oc : wa.heap.size ≠ wi1.heap.size := HM.ne 3 8 rfl rfl (by decide)
  have ne_mt_tc : wa.heap.size ≠ wq2.heap.size + 1 := HM.ne 3 6 rfl rfl (by decide)
  have ne_oc_mt : wi1.heap.size ≠ wa.heap.size := HM.ne 8 3 rfl rfl (by decide)
  have ne_oc_tc : wi1.heap.size ≠ wq2.heap.size + 1 := HM.ne 8 6 rfl rfl (by decide)
  have ne_tc_mt : wq2.heap.size + 1 ≠ wa.heap.size := HM.ne 6 3 rfl rfl (by decide)
  have ne_tc_oc : wq2.heap.size + 1 ≠ wi1.heap.size := HM.ne 6 8 rfl rfl (by decide)
  clear hb1 hQ1
  go_wp2_with fail
  obtain ⟨Wk1, hWk1⟩ : ∃ Wk1, (wk1).alloc (.cells #[.int .i64 (me : Int), .int .i64 (rev : Int), .int .i64 0, .int .i64 0, .int .u64 0, .int .i64 (bd : Int), .int .i64 (lk : Int)] 26) = Wk1 := ⟨_, rfl⟩
  replace HM : Mem (w) [] _ [.blk (w.heap.size) 37 #[.int .i64 a, .int .i64 b, .int .i64 c, .int .i64 d], .blk (w.heap.size + 1) 38 #[.int .i64 0, .int .i64 f, .int .i64 g, .int .i64 h], .blk (w.heap.size + 1 + 1) 38 #[.int .i64 0, .int .i64 f2, .int .i64 g2, .int .i64 h2], .blk (wa.heap.size) 26 #[.int .i64 (me : Int), .int .i64 (rev : Int), .int .i64 0, .int .i64 0, .int .u64 0, .int .i64 (bad : Int), .int .i64 0], .blk (wq1.heap.size) 31 #[.int .i64 0, .int .i64 2, .int .i64 (am : Int), .int .i64 (tag : Int)], .blk (wq2.heap.size) 31 #[.int .i64 0, .int .i64 3, .int .i64 (am2 : Int), .int .i64 (tag2 : Int)], .blk (wq2.heap.size + 1) 31 #[.int .i64 2, .int .i64 1, .int .i64 (R : Int), .int .i64 5], .row (wg3.heap.size) (75) (4) (.slice A1 l1.length c1) (l1.length) (prs l1), .blk (wi1.heap.size) 29 #[.slice A3 l3.length c3], .row (Wg.heap.size) (75) (4) (.slice A2 l2.length c2) (l2.length) (prs l2), .row (Wh.heap.size) (75) (4) (.slice A3 l3.length c3) (l3.length) (prs l3), .blk (wk1.heap.size) 26 #[.int .i64 (me : Int), .int .i64 (rev : Int), .int .i64 0, .int .i64 0, .int .u64 0, .int .i64 (bd : Int), .int .i64 (lk : Int)]] := Mem.alloc HM (wk1.heap.size) (by first | (simp; done) | (simp; omega)) #[.int .i64 (me : Int), .int .i64 (rev : Int), .int .i64 0, .int .i64 0, .int .u64 0, .int .i64 (bd : Int), .int .i64 (lk : Int)] 26
  rw [hWk1] at HM ⊢
  clear hWk1
  refine (hQ2 _ _ (isps_own rfl hwf3 (HM.own_ 10 rfl))).mono ?_
  rintro e1 wk2 ⟨rfl, hb1⟩
  replace HM : Mem (w) [] (wk2) [.blk (w.heap.size) 37 #[.int .i64 a, .int .i64 b, .int .i64 c, .int .i64 d], .blk (w.heap.size + 1) 38 #[.int .i64 0, .int .i64 f, .int .i64 g, .int .i64 h], .blk (w.heap.size + 1 + 1) 38 #[.int .i64 0, .int .i64 f2, .int .i64 g2, .int .i64 h2], .blk (wa.heap.size) 26 #[.int .i64 (me : Int), .int .i64 (rev : Int), .int .i64 0, .int .i64 0, .int .u64 0, .int .i64 (bad : Int), .int .i64 0], .blk (wq1.heap.size) 31 #[.int .i64 0, .int .i64 2, .int .i64 (am : Int), .int .i64 (tag : Int)], .blk (wq2.heap.size) 31 #[.int .i64 0, .int .i64 3, .int .i64 (am2 : Int), .int .i64 (tag2 : Int)], .blk (wq2.heap.size + 1) 31 #[.int .i64 2, .int .i64 1, .int .i64 (R : Int), .int .i64 5], .row (wg3.heap.size) (75) (4) (.slice A1 l1.length c1) (l1.length) (prs l1), .blk (wi1.heap.size) 29 #[.slice A3 l3.length c3], .row (Wg.heap.size) (75) (4) (.slice A2 l2.length c2) (l2.length) (prs l2), .row (Wh.heap.size) (75) (4) (.slice A3 l3.length c3) (l3.length) (prs l3), .blk (wk1.heap.size) 26 #[.int .i64 (me : Int), .int .i64 (rev : Int), .int .i64 0, .int .i64 0, .int .u64 0, .int .i64 (bd : Int), .int .i64 (lk : Int)]] := Mem.call HM hb1
  clear mt0 mtf0 mt1 mtf1 mt2 mtf2 mt3 mtf3 mt4 mtf4 mt5 mtf5 mt6 mtf6 mtlt oc0 ocf0 oclt tc0 tcf0 tc1 tcf1 tc2 tcf2 tc3 tcf3 tclt ne_mt_oc ne_mt_tc ne_oc_mt ne_oc_tc ne_tc_mt ne_tc_oc
  have oc0 : (wk2).cell? ⟨wi1.heap.size, 0, none⟩ = some (.slice A3 l3.length c3) := (HM.blk 8 rfl).cell 0
  have ocf0 : (wk2).frozen? ⟨wi1.heap.size, 0, none⟩ = false := (HM.blk 8 rfl).frozen 0
  have oclt : wi1.heap.size < (wk2).heap.size := HM.lt 8 rfl
  have to0 : (wk2).cell? ⟨wq1.heap.size, 0, none⟩ = some (.int .i64 0) := (HM.blk 4 rfl).cell 0
  have tof0 : (wk2).frozen? ⟨wq1.heap.size, 0, none⟩ = false := (HM.blk 4 rfl).frozen 0
  have to1 : (wk2).cell? ⟨wq1.heap.size, 1, none⟩ = some (.int .i64 2) := (HM.blk 4 rfl).cell 1
  have tof1 : (wk2).frozen? ⟨wq1.heap.size, 1, none⟩ = false := (HM.blk 4 rfl).frozen 1
  have to2 : (wk2).cell? ⟨wq1.heap.size, 2, none⟩ = some (.int .i64 (am : Int)) := (HM.blk 4 rfl).cell 2
  have tof2 : (wk2).frozen? ⟨wq1.heap.size, 2, none⟩ = false := (HM.blk 4 rfl).frozen 2
  have to3 : (wk2).cell? ⟨wq1.heap.size, 3, none⟩ = some (.int .i64 (tag : Int)) := (HM.blk 4 rfl).cell 3
  have tof3 : (wk2).frozen? ⟨wq1.heap.size, 3, none⟩ = false := (HM.blk 4 rfl).frozen 3
  have tolt : wq1.heap.size < (wk2).heap.size := HM.lt 4 rfl
  have ne_oc_to : wi1.heap.size ≠ wq1.heap.size := HM.ne 8 4 rfl rfl (by decide)
  have ne_to_oc : wq1.heap.size ≠ wi1.heap.size := HM.ne 4 8 rfl rfl (by decide)
  clear hb1 hQ2
  go_wp2_with fail
  obtain ⟨Wk2, hWk2⟩ : ∃ Wk2, (wk2).alloc (.cells #[.int .i64 (me : Int), .int .i64 (R : Int), .int .i64 0, .int .i64 1, .int .u64 1, .int .i64 0, .int .i64 0] 26) = Wk2 := ⟨_, rfl⟩
  replace HM : Mem (w) [] _ [.blk (w.heap.size) 37 #[.int .i64 a, .int .i64 b, .int .i64 c, .int .i64 d], .blk (w.heap.size + 1) 38 #[.int .i64 0, .int .i64 f, .int .i64 g, .int .i64 h], .blk (w.heap.size + 1 + 1) 38 #[.int .i64 0, .int .i64 f2, .int .i64 g2, .int .i64 h2], .blk (wa.heap.size) 26 #[.int .i64 (me : Int), .int .i64 (rev : Int), .int .i64 0, .int .i64 0, .int .u64 0, .int .i64 (bad : Int), .int .i64 0], .blk (wq1.heap.size) 31 #[.int .i64 0, .int .i64 2, .int .i64 (am : Int), .int .i64 (tag : Int)], .blk (wq2.heap.size) 31 #[.int .i64 0, .int .i64 3, .int .i64 (am2 : Int), .int .i64 (tag2 : Int)], .blk (wq2.heap.size + 1) 31 #[.int .i64 2, .int .i64 1, .int .i64 (R : Int), .int .i64 5], .row (wg3.heap.size) (75) (4) (.slice A1 l1.length c1) (l1.length) (prs l1), .blk (wi1.heap.size) 29 #[.slice A3 l3.length c3], .row (Wg.heap.size) (75) (4) (.slice A2 l2.length c2) (l2.length) (prs l2), .row (Wh.heap.size) (75) (4) (.slice A3 l3.length c3) (l3.length) (prs l3), .blk (wk1.heap.size) 26 #[.int .i64 (me : Int), .int .i64 (rev : Int), .int .i64 0, .int .i64 0, .int .u64 0, .int .i64 (bd : Int), .int .i64 (lk : Int)], .blk (wk2.heap.size) 26 #[.int .i64 (me : Int), .int .i64 (R : Int), .int .i64 0, .int .i64 1, .int .u64 1, .int .i64 0, .int .i64 0]] := Mem.alloc HM (wk2.heap.size) (by first | (simp; done) | (simp; omega)) #[.int .i64 (me : Int), .int .i64 (R : Int), .int .i64 0, .int .i64 1, .int .u64 1, .int .i64 0, .int .i64 0] 26
  rw [hWk2] at HM ⊢
  clear hWk2
  refine (hQ3 _ _ (isps_own rfl hwf3 (HM.own_ 10 rfl))).mono ?_
  rintro e1 wk3 ⟨rfl, hb1⟩
  replace HM : Mem (w) [] (wk3) [.blk (w.heap.size) 37 #[.int .i64 a, .int .i64 b, .int .i64 c, .int .i64 d], .blk (w.heap.size + 1) 38 #[.int .i64 0, .int .i64 f, .int .i64 g, .int .i64 h], .blk (w.heap.size + 1 + 1) 38 #[.int .i64 0, .int .i64 f2, .int .i64 g2, .int .i64 h2], .blk (wa.heap.size) 26 #[.int .i64 (me : Int), .int .i64 (rev : Int), .int .i64 0, .int .i64 0, .int .u64 0, .int .i64 (bad : Int), .int .i64 0], .blk (wq1.heap.size) 31 #[.int .i64 0, .int .i64 2, .int .i64 (am : Int), .int .i64 (tag : Int)], .blk (wq2.heap.size) 31 #[.int .i64 0, .int .i64 3, .int .i64 (am2 : Int), .int .i64 (tag2 : Int)], .blk (wq2.heap.size + 1) 31 #[.int .i64 2, .int .i64 1, .int .i64 (R : Int), .int .i64 5], .row (wg3.heap.size) (75) (4) (.slice A1 l1.length c1) (l1.length) (prs l1), .blk (wi1.heap.size) 29 #[.slice A3 l3.length c3], .row (Wg.heap.size) (75) (4) (.slice A2 l2.length c2) (l2.length) (prs l2), .row (Wh.heap.size) (75) (4) (.slice A3 l3.length c3) (l3.length) (prs l3), .blk (wk1.heap.size) 26 #[.int .i64 (me : Int), .int .i64 (rev : Int), .int .i64 0, .int .i64 0, .int .u64 0, .int .i64 (bd : Int), .int .i64 (lk : Int)], .blk (wk2.heap.size) 26 #[.int .i64 (me : Int), .int .i64 (R : Int), .int .i64 0, .int .i64 1, .int .u64 1, .int .i64 0, .int .i64 0]] := Mem.call HM hb1
  clear oc0 ocf0 oclt to0 tof0 to1 tof1 to2 tof2 to3 tof3 tolt ne_oc_to ne_to_oc
  have oc0 : (wk3).cell? ⟨wi1.heap.size, 0, none⟩ = some (.slice A3 l3.length c3) := (HM.blk 8 rfl).cell 0
  have ocf0 : (wk3).frozen? ⟨wi1.heap.size, 0, none⟩ = false := (HM.blk 8 rfl).frozen 0
  have oclt : wi1.heap.size < (wk3).heap.size := HM.lt 8 rfl
  have tf0 : (wk3).cell? ⟨wq2.heap.size, 0, none⟩ = some (.int .i64 0) := (HM.blk 5 rfl).cell 0
  have tff0 : (wk3).frozen? ⟨wq2.heap.size, 0, none⟩ = false := (HM.blk 5 rfl).frozen 0
  have tf1 : (wk3).cell? ⟨wq2.heap.size, 1, none⟩ = some (.int .i64 3) := (HM.blk 5 rfl).cell 1
  have tff1 : (wk3).frozen? ⟨wq2.heap.size, 1, none⟩ = false := (HM.blk 5 rfl).frozen 1
  have tf2 : (wk3).cell? ⟨wq2.heap.size, 2, none⟩ = some (.int .i64 (am2 : Int)) := (HM.blk 5 rfl).cell 2
  have tff2 : (wk3).frozen? ⟨wq2.heap.size, 2, none⟩ = false := (HM.blk 5 rfl).frozen 2
  have tf3 : (wk3).cell? ⟨wq2.heap.size, 3, none⟩ = some (.int .i64 (tag2 : Int)) := (HM.blk 5 rfl).cell 3
  have tff3 : (wk3).frozen? ⟨wq2.heap.size, 3, none⟩ = false := (HM.blk 5 rfl).frozen 3
  have tflt : wq2.heap.size < (wk3).heap.size := HM.lt 5 rfl
  have tu0 : (wk3).cell? ⟨wk2.heap.size, 0, none⟩ = some (.int .i64 (me : Int)) := (HM.blk 12 rfl).cell 0
  have tuf0 : (wk3).frozen? ⟨wk2.heap.size, 0, none⟩ = false := (HM.blk 12 rfl).frozen 0
  have tu1 : (wk3).cell? ⟨wk2.heap.size, 1, none⟩ = some (.int .i64 (R : Int)) := (HM.blk 12 rfl).cell 1
  have tuf1 : (wk3).frozen? ⟨wk2.heap.size, 1, none⟩ = false := (HM.blk 12 rfl).frozen 1
  have tu2 : (wk3).cell? ⟨wk2.heap.size, 2, none⟩ = some (.int .i64 0) := (HM.blk 12 rfl).cell 2
  have tuf2 : (wk3).frozen? ⟨wk2.heap.size, 2, none⟩ = false := (HM.blk 12 rfl).frozen 2
  have tu3 : (wk3).cell? ⟨wk2.heap.size, 3, none⟩ = some (.int .i64 1) := (HM.blk 12 rfl).cell 3
  have tuf3 : (wk3).frozen? ⟨wk2.heap.size, 3, none⟩ = false := (HM.blk 12 rfl).frozen 3
  have tu4 : (wk3).cell? ⟨wk2.heap.size, 4, none⟩ = some (.int .u64 1) := (HM.blk 12 rfl).cell 4
  have tuf4 : (wk3).frozen? ⟨wk2.heap.size, 4, none⟩ = false := (HM.blk 12 rfl).frozen 4
  have tu5 : (wk3).cell? ⟨wk2.heap.size, 5, none⟩ = some (.int .i64 0) := (HM.blk 12 rfl).cell 5
  have tuf5 : (wk3).frozen? ⟨wk2.heap.size, 5, none⟩ = false := (HM.blk 12 rfl).frozen 5
  have tu6 : (wk3).cell? ⟨wk2.heap.size, 6, none⟩ = some (.int .i64 0) := (HM.blk 12 rfl).cell 6
  have tuf6 : (wk3).frozen? ⟨wk2.heap.size, 6, none⟩ = false := (HM.blk 12 rfl).frozen 6
  have tult : wk2.heap.size < (wk3).heap.size := HM.lt 12 rfl
  have ne_oc_tf : wi1.heap.size ≠ wq2.heap.size := HM.ne 8 5 rfl rfl (by decide)
  have ne_oc_tu : wi1.heap.size ≠ wk2.heap.size := HM.ne 8 12 rfl rfl (by decide)
  have ne_tf_oc : wq2.heap.size ≠ wi1.heap.size := HM.ne 5 8 rfl rfl (by decide)
  have ne_tf_tu : wq2.heap.size ≠ wk2.heap.size := HM.ne 5 12 rfl rfl (by decide)
  have ne_tu_oc : wk2.heap.size ≠ wi1.heap.size := HM.ne 12 8 rfl rfl (by decide)
  have ne_tu_tf : wk2.heap.size ≠ wq2.heap.size := HM.ne 12 5 rfl rfl (by decide)
  clear hb1 hQ3
  go_wp2_with fail
  obtain ⟨Wk3, hWk3⟩ : ∃ Wk3, (wk3).alloc (.cells #[.int .i64 (me : Int), .int .i64 (R : Int), .int .i64 0, .int .i64 1, .int .u64 1, .int .i64 0, .int .i64 0] 26) = Wk3 := ⟨_, rfl⟩
  replace HM : Mem (w) [] _ [.blk (w.heap.size) 37 #[.int .i64 a, .int .i64 b, .int .i64 c, .int .i64 d], .blk (w.heap.size + 1) 38 #[.int .i64 0, .int .i64 f, .int .i64 g, .int .i64 h], .blk (w.heap.size + 1 + 1) 38 #[.int .i64 0, .int .i64 f2, .int .i64 g2, .int .i64 h2], .blk (wa.heap.size) 26 #[.int .i64 (me : Int), .int .i64 (rev : Int), .int .i64 0, .int .i64 0, .int .u64 0, .int .i64 (bad : Int), .int .i64 0], .blk (wq1.heap.size) 31 #[.int .i64 0, .int .i64 2, .int .i64 (am : Int), .int .i64 (tag : Int)], .blk (wq2.heap.size) 31 #[.int .i64 0, .int .i64 3, .int .i64 (am2 : Int), .int .i64 (tag2 : Int)], .blk (wq2.heap.size + 1) 31 #[.int .i64 2, .int .i64 1, .int .i64 (R : Int), .int .i64 5], .row (wg3.heap.size) (75) (4) (.slice A1 l1.length c1) (l1.length) (prs l1), .blk (wi1.heap.size) 29 #[.slice A3 l3.length c3], .row (Wg.heap.size) (75) (4) (.slice A2 l2.length c2) (l2.length) (prs l2), .row (Wh.heap.size) (75) (4) (.slice A3 l3.length c3) (l3.length) (prs l3), .blk (wk1.heap.size) 26 #[.int .i64 (me : Int), .int .i64 (rev : Int), .int .i64 0, .int .i64 0, .int .u64 0, .int .i64 (bd : Int), .int .i64 (lk : Int)], .blk (wk2.heap.size) 26 #[.int .i64 (me : Int), .int .i64 (R : Int), .int .i64 0, .int .i64 1, .int .u64 1, .int .i64 0, .int .i64 0], .blk (wk3.heap.size) 26 #[.int .i64 (me : Int), .int .i64 (R : Int), .int .i64 0, .int .i64 1, .int .u64 1, .int .i64 0, .int .i64 0]] := Mem.alloc HM (wk3.heap.size) (by first | (simp; done) | (simp; omega)) #[.int .i64 (me : Int), .int .i64 (R : Int), .int .i64 0, .int .i64 1, .int .u64 1, .int .i64 0, .int .i64 0] 26
  rw [hWk3] at HM ⊢
  clear hWk3
  refine (hQ4 _ _ (isps_own rfl hwf3 (HM.own_ 10 rfl))).mono ?_
  rintro e1 wk4 ⟨rfl, hb1⟩
  replace HM : Mem (w) [] (wk4) [.blk (w.heap.size) 37 #[.int .i64 a, .int .i64 b, .int .i64 c, .int .i64 d], .blk (w.heap.size + 1) 38 #[.int .i64 0, .int .i64 f, .int .i64 g, .int .i64 h], .blk (w.heap.size + 1 + 1) 38 #[.int .i64 0, .int .i64 f2, .int .i64 g2, .int .i64 h2], .blk (wa.heap.size) 26 #[.int .i64 (me : Int), .int .i64 (rev : Int), .int .i64 0, .int .i64 0, .int .u64 0, .int .i64 (bad : Int), .int .i64 0], .blk (wq1.heap.size) 31 #[.int .i64 0, .int .i64 2, .int .i64 (am : Int), .int .i64 (tag : Int)], .blk (wq2.heap.size) 31 #[.int .i64 0, .int .i64 3, .int .i64 (am2 : Int), .int .i64 (tag2 : Int)], .blk (wq2.heap.size + 1) 31 #[.int .i64 2, .int .i64 1, .int .i64 (R : Int), .int .i64 5], .row (wg3.heap.size) (75) (4) (.slice A1 l1.length c1) (l1.length) (prs l1), .blk (wi1.heap.size) 29 #[.slice A3 l3.length c3], .row (Wg.heap.size) (75) (4) (.slice A2 l2.length c2) (l2.length) (prs l2), .row (Wh.heap.size) (75) (4) (.slice A3 l3.length c3) (l3.length) (prs l3), .blk (wk1.heap.size) 26 #[.int .i64 (me : Int), .int .i64 (rev : Int), .int .i64 0, .int .i64 0, .int .u64 0, .int .i64 (bd : Int), .int .i64 (lk : Int)], .blk (wk2.heap.size) 26 #[.int .i64 (me : Int), .int .i64 (R : Int), .int .i64 0, .int .i64 1, .int .u64 1, .int .i64 0, .int .i64 0], .blk (wk3.heap.size) 26 #[.int .i64 (me : Int), .int .i64 (R : Int), .int .i64 0, .int .i64 1, .int .u64 1, .int .i64 0, .int .i64 0]] := Mem.call HM hb1
  clear oc0 ocf0 oclt tf0 tff0 tf1 tff1 tf2 tff2 tf3 tff3 tflt tu0 tuf0 tu1 tuf1 tu2 tuf2 tu3 tuf3 tu4 tuf4 tu5 tuf5 tu6 tuf6 tult ne_oc_tf ne_oc_tu ne_tf_oc ne_tf_tu ne_tu_oc ne_tu_tf
  have tf0 : (wk4).cell? ⟨wq2.heap.size, 0, none⟩ = some (.int .i64 0) := (HM.blk 5 rfl).cell 0
  have tff0 : (wk4).frozen? ⟨wq2.heap.size, 0, none⟩ = false := (HM.blk 5 rfl).frozen 0
  have tf1 : (wk4).cell? ⟨wq2.heap.size, 1, none⟩ = some (.int .i64 3) := (HM.blk 5 rfl).cell 1
  have tff1 : (wk4).frozen? ⟨wq2.heap.size, 1, none⟩ = false := (HM.blk 5 rfl).frozen 1
  have tf2 : (wk4).cell? ⟨wq2.heap.size, 2, none⟩ = some (.int .i64 (am2 : Int)) := (HM.blk 5 rfl).cell 2
  have tff2 : (wk4).frozen? ⟨wq2.heap.size, 2, none⟩ = false := (HM.blk 5 rfl).frozen 2
  have tf3 : (wk4).cell? ⟨wq2.heap.size, 3, none⟩ = some (.int .i64 (tag2 : Int)) := (HM.blk 5 rfl).cell 3
  have tff3 : (wk4).frozen? ⟨wq2.heap.size, 3, none⟩ = false := (HM.blk 5 rfl).frozen 3
  have tflt : wq2.heap.size < (wk4).heap.size := HM.lt 5 rfl
  have tu0 : (wk4).cell? ⟨wk2.heap.size, 0, none⟩ = some (.int .i64 (me : Int)) := (HM.blk 12 rfl).cell 0
  have tuf0 : (wk4).frozen? ⟨wk2.heap.size, 0, none⟩ = false := (HM.blk 12 rfl).frozen 0
  have tu1 : (wk4).cell? ⟨wk2.heap.size, 1, none⟩ = some (.int .i64 (R : Int)) := (HM.blk 12 rfl).cell 1
  have tuf1 : (wk4).frozen? ⟨wk2.heap.size, 1, none⟩ = false := (HM.blk 12 rfl).frozen 1
  have tu2 : (wk4).cell? ⟨wk2.heap.size, 2, none⟩ = some (.int .i64 0) := (HM.blk 12 rfl).cell 2
  have tuf2 : (wk4).frozen? ⟨wk2.heap.size, 2, none⟩ = false := (HM.blk 12 rfl).frozen 2
  have tu3 : (wk4).cell? ⟨wk2.heap.size, 3, none⟩ = some (.int .i64 1) := (HM.blk 12 rfl).cell 3
  have tuf3 : (wk4).frozen? ⟨wk2.heap.size, 3, none⟩ = false := (HM.blk 12 rfl).frozen 3
  have tu4 : (wk4).cell? ⟨wk2.heap.size, 4, none⟩ = some (.int .u64 1) := (HM.blk 12 rfl).cell 4
  have tuf4 : (wk4).frozen? ⟨wk2.heap.size, 4, none⟩ = false := (HM.blk 12 rfl).frozen 4
  have tu5 : (wk4).cell? ⟨wk2.heap.size, 5, none⟩ = some (.int .i64 0) := (HM.blk 12 rfl).cell 5
  have tuf5 : (wk4).frozen? ⟨wk2.heap.size, 5, none⟩ = false := (HM.blk 12 rfl).frozen 5
  have tu6 : (wk4).cell? ⟨wk2.heap.size, 6, none⟩ = some (.int .i64 0) := (HM.blk 12 rfl).cell 6
  have tuf6 : (wk4).frozen? ⟨wk2.heap.size, 6, none⟩ = false := (HM.blk 12 rfl).frozen 6
  have tult : wk2.heap.size < (wk4).heap.size := HM.lt 12 rfl
  have ne_tf_tu : wq2.heap.size ≠ wk2.heap.size := HM.ne 5 12 rfl rfl (by decide)
  have ne_tu_tf : wk2.heap.size ≠ wq2.heap.size := HM.ne 12 5 rfl rfl (by decide)
  clear hb1 hQ4 hwf1 hwf2 hwf3 amC hRr
  go_wp2
  go_ret
  exact ⟨rfl, HM.call (below_a1 _ _) |>.below⟩
end Go.Proofs.Ytjdbgpkadfnfiaa

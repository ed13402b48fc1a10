/- token: Words: the walk. -/
import Derived.Test.YtopnlkhepjbjkaaDoorG21
namespace Go.Proofs.YtopnlkhepjbjkaaDoor
open Go.RowKit
set_option linter.unusedVariables false
theorem tw_c {x c n : Nat} (h : x + c * 79228162514264337593543950336 = n * 97) (hn : n < 576460752303423488) : x = n * 97 := by omega
theorem tw_1 {n tag : Nat} (h : n = putN 0 0 16 tag) : n = tag := by rw [h, put_top (by decide)]; simp
theorem tw_2 {n V tag am : Nat} (h : n = putN V 16 21 am) (hV : V = tag) (ht : tag ≤ 65535) : n = tag + am * 65536 := by
  rw [h, put_top (by omega), hV]; omega
theorem tw_3 {n V tag am id : Nat} (h : n = putN V 37 20 id) (hV : V = tag + am * 65536) (ht : tag ≤ 65535) (ha : am ≤ 2097151) : n = tag + am * 65536 + id * 137438953472 := by
  rw [h, put_top (by omega), hV]; omega
theorem tw_4 {n V tag am id cls : Nat} (h : n = putN V 57 2 cls) (hV : V = tag + am * 65536 + id * 137438953472) (ht : tag ≤ 65535) (ha : am ≤ 2097151) (hi : id ≤ 1048575) : n = tokN cls id am tag := by
  rw [h, put_top (by omega), hV]; unfold tokN; omega
set_option maxRecDepth 100000 in
set_option maxHeartbeats 2000000 in
theorem twords_ok (cls id am tag : Nat) (w : World) (hk : TkOk cls id am tag) :
    Calls Tryd.prog 30 #[.agg #[.int .i64 (cls : Int), .int .i64 (id : Int), .int .i64 (am : Int), .int .i64 (tag : Int)]] w (IsWide2 (tokN cls id am tag * 97) w) := by
  have hF := fun W => fault_is (Lib.hid (tfault_ok hk)) W
  have HT := Lib.hid (tokN_lt hk)
  have ham := hk.am
  obtain ⟨k1, k2, k3, k4, k5⟩ := hk
  have b1 : (cls : Int) ≤ 3 := by omega
  have b2 : (id : Int) ≤ 1048575 := by omega
  have b3 : (am : Int) ≤ 2097151 := by omega
  have b4 : (tag : Int) ≤ 65535 := by omega
  have i0 : ∀ W, (Instr.index 119 (.agg #[.int .i64 16, .int .i64 (tag : Int), .int .i64 21, .int .i64 (am : Int), .int .i64 20, .int .i64 (id : Int), .int .i64 2, .int .i64 (cls : Int)]) (.int .i64 0)).run Tryd.prog W = .ok (.agg #[.int .i64 16, .int .i64 (tag : Int)]) W := fun _ => by kernel_rfl
  have i1 : ∀ W, (Instr.index 119 (.agg #[.int .i64 16, .int .i64 (tag : Int), .int .i64 21, .int .i64 (am : Int), .int .i64 20, .int .i64 (id : Int), .int .i64 2, .int .i64 (cls : Int)]) (.int .i64 1)).run Tryd.prog W = .ok (.agg #[.int .i64 21, .int .i64 (am : Int)]) W := fun _ => by kernel_rfl
  have i2 : ∀ W, (Instr.index 119 (.agg #[.int .i64 16, .int .i64 (tag : Int), .int .i64 21, .int .i64 (am : Int), .int .i64 20, .int .i64 (id : Int), .int .i64 2, .int .i64 (cls : Int)]) (.int .i64 2)).run Tryd.prog W = .ok (.agg #[.int .i64 20, .int .i64 (id : Int)]) W := fun _ => by kernel_rfl
  have i3 : ∀ W, (Instr.index 119 (.agg #[.int .i64 16, .int .i64 (tag : Int), .int .i64 21, .int .i64 (am : Int), .int .i64 20, .int .i64 (id : Int), .int .i64 2, .int .i64 (cls : Int)]) (.int .i64 3)).run Tryd.prog W = .ok (.agg #[.int .i64 2, .int .i64 (cls : Int)]) W := fun _ => by kernel_rfl
  have K := Lib.hid (show cls ≤ 3 ∧ id ≤ 1048575 ∧ am ≤ 2097151 ∧ tag ≤ 65535 from ⟨k1, k3, ham, k5⟩)
  clear k1 k2 k3 k4 k5 ham
  have H := Mem.init w
  obtain ⟨W0, hW0⟩ : ∃ W0, ((w).alloc (.cells #[.int .i64 (cls : Int), .int .i64 (id : Int), .int .i64 (am : Int), .int .i64 (tag : Int)] 48)).alloc (.cells #[.int .u32 0, .int .u32 0, .int .u32 0] 78) = W0 := ⟨_, rfl⟩
  replace H : Mem (w) [] _ [.blk (w.heap.size) 48 #[.int .i64 (cls : Int), .int .i64 (id : Int), .int .i64 (am : Int), .int .i64 (tag : Int)]] := Mem.alloc H (w.heap.size) (by first | (simp; done) | (simp; omega)) #[.int .i64 (cls : Int), .int .i64 (id : Int), .int .i64 (am : Int), .int .i64 (tag : Int)] 48
  replace H : Mem (w) [] _ [.blk (w.heap.size) 48 #[.int .i64 (cls : Int), .int .i64 (id : Int), .int .i64 (am : Int), .int .i64 (tag : Int)], .blk (w.heap.size + 1) 78 #[.int .u32 0, .int .u32 0, .int .u32 0]] := Mem.alloc H (w.heap.size + 1) (by first | (simp; done) | (simp; omega)) #[.int .u32 0, .int .u32 0, .int .u32 0] 78
  rw [hW0] at H
  have tk0 : (W0).cell? ⟨w.heap.size, 0, none⟩ = some (.int .i64 (cls : Int)) := (H.blk 0 rfl).cell 0
  have tkf0 : (W0).frozen? ⟨w.heap.size, 0, none⟩ = false := (H.blk 0 rfl).frozen 0
  have tk1 : (W0).cell? ⟨w.heap.size, 1, none⟩ = some (.int .i64 (id : Int)) := (H.blk 0 rfl).cell 1
  have tkf1 : (W0).frozen? ⟨w.heap.size, 1, none⟩ = false := (H.blk 0 rfl).frozen 1
  have tk2 : (W0).cell? ⟨w.heap.size, 2, none⟩ = some (.int .i64 (am : Int)) := (H.blk 0 rfl).cell 2
  have tkf2 : (W0).frozen? ⟨w.heap.size, 2, none⟩ = false := (H.blk 0 rfl).frozen 2
  have tk3 : (W0).cell? ⟨w.heap.size, 3, none⟩ = some (.int .i64 (tag : Int)) := (H.blk 0 rfl).cell 3
  have tkf3 : (W0).frozen? ⟨w.heap.size, 3, none⟩ = false := (H.blk 0 rfl).frozen 3
  have tklt : w.heap.size < (W0).heap.size := H.lt 0 rfl
  go_enter Tryd.func30, Tryd.ntmps30
  go_wp2_with fail
  refine (hF _).mono ?_
  rintro e wa ⟨rfl, hba⟩
  replace H : Mem (w) [] (wa) [.blk (w.heap.size) 48 #[.int .i64 (cls : Int), .int .i64 (id : Int), .int .i64 (am : Int), .int .i64 (tag : Int)], .blk (w.heap.size + 1) 78 #[.int .u32 0, .int .u32 0, .int .u32 0]] := Mem.call H hba
  clear tk0 tkf0 tk1 tkf1 tk2 tkf2 tk3 tkf3 tklt
  have tk0 : (wa).cell? ⟨w.heap.size, 0, none⟩ = some (.int .i64 (cls : Int)) := (H.blk 0 rfl).cell 0
  have tkf0 : (wa).frozen? ⟨w.heap.size, 0, none⟩ = false := (H.blk 0 rfl).frozen 0
  have tk1 : (wa).cell? ⟨w.heap.size, 1, none⟩ = some (.int .i64 (id : Int)) := (H.blk 0 rfl).cell 1
  have tkf1 : (wa).frozen? ⟨w.heap.size, 1, none⟩ = false := (H.blk 0 rfl).frozen 1
  have tk2 : (wa).cell? ⟨w.heap.size, 2, none⟩ = some (.int .i64 (am : Int)) := (H.blk 0 rfl).cell 2
  have tkf2 : (wa).frozen? ⟨w.heap.size, 2, none⟩ = false := (H.blk 0 rfl).frozen 2
  have tk3 : (wa).cell? ⟨w.heap.size, 3, none⟩ = some (.int .i64 (tag : Int)) := (H.blk 0 rfl).cell 3
  have tkf3 : (wa).frozen? ⟨w.heap.size, 3, none⟩ = false := (H.blk 0 rfl).frozen 3
  have tklt : w.heap.size < (wa).heap.size := H.lt 0 rfl
  have rs0 : (wa).cell? ⟨w.heap.size + 1, 0, none⟩ = some (.int .u32 0) := (H.blk 1 rfl).cell 0
  have rsf0 : (wa).frozen? ⟨w.heap.size + 1, 0, none⟩ = false := (H.blk 1 rfl).frozen 0
  have rs1 : (wa).cell? ⟨w.heap.size + 1, 1, none⟩ = some (.int .u32 0) := (H.blk 1 rfl).cell 1
  have rsf1 : (wa).frozen? ⟨w.heap.size + 1, 1, none⟩ = false := (H.blk 1 rfl).frozen 1
  have rs2 : (wa).cell? ⟨w.heap.size + 1, 2, none⟩ = some (.int .u32 0) := (H.blk 1 rfl).cell 2
  have rsf2 : (wa).frozen? ⟨w.heap.size + 1, 2, none⟩ = false := (H.blk 1 rfl).frozen 2
  have rslt : w.heap.size + 1 < (wa).heap.size := H.lt 1 rfl
  have ne_tk_rs : w.heap.size ≠ w.heap.size + 1 := H.ne 0 1 rfl rfl (by decide)
  have ne_rs_tk : w.heap.size + 1 ≠ w.heap.size := H.ne 1 0 rfl rfl (by decide)
  clear hba hF hW0
  go_wp2
  obtain ⟨wb, hwb⟩ : ∃ wb, (wa).alloc (.cells #[.int .u32 0, .int .u32 0, .int .u32 0] 78) = wb := ⟨_, rfl⟩
  replace H : Mem (w) [] _ [.blk (w.heap.size) 48 #[.int .i64 (cls : Int), .int .i64 (id : Int), .int .i64 (am : Int), .int .i64 (tag : Int)], .blk (w.heap.size + 1) 78 #[.int .u32 0, .int .u32 0, .int .u32 0], .blk (wa.heap.size) 78 #[.int .u32 0, .int .u32 0, .int .u32 0]] := Mem.alloc H (wa.heap.size) (by first | (simp; done) | (simp; omega)) #[.int .u32 0, .int .u32 0, .int .u32 0] 78
  rw [hwb] at H ⊢
  clear hwb
  clear tk0 tkf0 tk1 tkf1 tk2 tkf2 tk3 tkf3 tklt rs0 rsf0 rs1 rsf1 rs2 rsf2 rslt ne_tk_rs ne_rs_tk
  have tk0 : (wb).cell? ⟨w.heap.size, 0, none⟩ = some (.int .i64 (cls : Int)) := (H.blk 0 rfl).cell 0
  have tkf0 : (wb).frozen? ⟨w.heap.size, 0, none⟩ = false := (H.blk 0 rfl).frozen 0
  have tk1 : (wb).cell? ⟨w.heap.size, 1, none⟩ = some (.int .i64 (id : Int)) := (H.blk 0 rfl).cell 1
  have tkf1 : (wb).frozen? ⟨w.heap.size, 1, none⟩ = false := (H.blk 0 rfl).frozen 1
  have tk2 : (wb).cell? ⟨w.heap.size, 2, none⟩ = some (.int .i64 (am : Int)) := (H.blk 0 rfl).cell 2
  have tkf2 : (wb).frozen? ⟨w.heap.size, 2, none⟩ = false := (H.blk 0 rfl).frozen 2
  have tk3 : (wb).cell? ⟨w.heap.size, 3, none⟩ = some (.int .i64 (tag : Int)) := (H.blk 0 rfl).cell 3
  have tkf3 : (wb).frozen? ⟨w.heap.size, 3, none⟩ = false := (H.blk 0 rfl).frozen 3
  have tklt : w.heap.size < (wb).heap.size := H.lt 0 rfl
  have rs0 : (wb).cell? ⟨w.heap.size + 1, 0, none⟩ = some (.int .u32 0) := (H.blk 1 rfl).cell 0
  have rsf0 : (wb).frozen? ⟨w.heap.size + 1, 0, none⟩ = false := (H.blk 1 rfl).frozen 0
  have rs1 : (wb).cell? ⟨w.heap.size + 1, 1, none⟩ = some (.int .u32 0) := (H.blk 1 rfl).cell 1
  have rsf1 : (wb).frozen? ⟨w.heap.size + 1, 1, none⟩ = false := (H.blk 1 rfl).frozen 1
  have rs2 : (wb).cell? ⟨w.heap.size + 1, 2, none⟩ = some (.int .u32 0) := (H.blk 1 rfl).cell 2
  have rsf2 : (wb).frozen? ⟨w.heap.size + 1, 2, none⟩ = false := (H.blk 1 rfl).frozen 2
  have rslt : w.heap.size + 1 < (wb).heap.size := H.lt 1 rfl
  have wd0 : (wb).cell? ⟨wa.heap.size, 0, none⟩ = some (.int .u32 0) := (H.blk 2 rfl).cell 0
  have wdf0 : (wb).frozen? ⟨wa.heap.size, 0, none⟩ = false := (H.blk 2 rfl).frozen 0
  have wd1 : (wb).cell? ⟨wa.heap.size, 1, none⟩ = some (.int .u32 0) := (H.blk 2 rfl).cell 1
  have wdf1 : (wb).frozen? ⟨wa.heap.size, 1, none⟩ = false := (H.blk 2 rfl).frozen 1
  have wd2 : (wb).cell? ⟨wa.heap.size, 2, none⟩ = some (.int .u32 0) := (H.blk 2 rfl).cell 2
  have wdf2 : (wb).frozen? ⟨wa.heap.size, 2, none⟩ = false := (H.blk 2 rfl).frozen 2
  have wdlt : wa.heap.size < (wb).heap.size := H.lt 2 rfl
  have ne_tk_rs : w.heap.size ≠ w.heap.size + 1 := H.ne 0 1 rfl rfl (by decide)
  have ne_tk_wd : w.heap.size ≠ wa.heap.size := H.ne 0 2 rfl rfl (by decide)
  have ne_rs_tk : w.heap.size + 1 ≠ w.heap.size := H.ne 1 0 rfl rfl (by decide)
  have ne_rs_wd : w.heap.size + 1 ≠ wa.heap.size := H.ne 1 2 rfl rfl (by decide)
  have ne_wd_tk : wa.heap.size ≠ w.heap.size := H.ne 2 0 rfl rfl (by decide)
  have ne_wd_rs : wa.heap.size ≠ w.heap.size + 1 := H.ne 2 1 rfl rfl (by decide)
  refine wp_loop_rounds 5 ?_
  rw [rounds_succ]
  have hP := fun W => put_ok 0 0 0 0 16 tag W (by omega) (by omega) (by omega) (by omega) (by omega) (by omega) (by have := K.out; omega)
  go_wp2_with fail
  obtain ⟨wx0, hwx0⟩ : ∃ wx0, (wb).alloc (.cells #[.int .i64 16, .int .i64 (tag : Int)] 118) = wx0 := ⟨_, rfl⟩
  replace H : Mem (w) [] _ [.blk (w.heap.size) 48 #[.int .i64 (cls : Int), .int .i64 (id : Int), .int .i64 (am : Int), .int .i64 (tag : Int)], .blk (w.heap.size + 1) 78 #[.int .u32 0, .int .u32 0, .int .u32 0], .blk (wa.heap.size) 78 #[.int .u32 0, .int .u32 0, .int .u32 0], .blk (wb.heap.size) 118 #[.int .i64 16, .int .i64 (tag : Int)]] := Mem.alloc H (wb.heap.size) (by first | (simp; done) | (simp; omega)) #[.int .i64 16, .int .i64 (tag : Int)] 118
  rw [hwx0] at H ⊢
  clear hwx0
  refine (hP _).mono ?_
  rintro e wc0 ⟨p00, p01, p02, rfl, l00, l01, l02, hv0, hb⟩
  replace H : Mem (w) [] (wc0) [.blk (w.heap.size) 48 #[.int .i64 (cls : Int), .int .i64 (id : Int), .int .i64 (am : Int), .int .i64 (tag : Int)], .blk (w.heap.size + 1) 78 #[.int .u32 0, .int .u32 0, .int .u32 0], .blk (wa.heap.size) 78 #[.int .u32 0, .int .u32 0, .int .u32 0], .blk (wb.heap.size) 118 #[.int .i64 16, .int .i64 (tag : Int)]] := Mem.call H hb
  clear tk0 tkf0 tk1 tkf1 tk2 tkf2 tk3 tkf3 tklt rs0 rsf0 rs1 rsf1 rs2 rsf2 rslt wd0 wdf0 wd1 wdf1 wd2 wdf2 wdlt ne_tk_rs ne_tk_wd ne_rs_tk ne_rs_wd ne_wd_tk ne_wd_rs
  have tk0 : (wc0).cell? ⟨w.heap.size, 0, none⟩ = some (.int .i64 (cls : Int)) := (H.blk 0 rfl).cell 0
  have tkf0 : (wc0).frozen? ⟨w.heap.size, 0, none⟩ = false := (H.blk 0 rfl).frozen 0
  have tk1 : (wc0).cell? ⟨w.heap.size, 1, none⟩ = some (.int .i64 (id : Int)) := (H.blk 0 rfl).cell 1
  have tkf1 : (wc0).frozen? ⟨w.heap.size, 1, none⟩ = false := (H.blk 0 rfl).frozen 1
  have tk2 : (wc0).cell? ⟨w.heap.size, 2, none⟩ = some (.int .i64 (am : Int)) := (H.blk 0 rfl).cell 2
  have tkf2 : (wc0).frozen? ⟨w.heap.size, 2, none⟩ = false := (H.blk 0 rfl).frozen 2
  have tk3 : (wc0).cell? ⟨w.heap.size, 3, none⟩ = some (.int .i64 (tag : Int)) := (H.blk 0 rfl).cell 3
  have tkf3 : (wc0).frozen? ⟨w.heap.size, 3, none⟩ = false := (H.blk 0 rfl).frozen 3
  have tklt : w.heap.size < (wc0).heap.size := H.lt 0 rfl
  have rs0 : (wc0).cell? ⟨w.heap.size + 1, 0, none⟩ = some (.int .u32 0) := (H.blk 1 rfl).cell 0
  have rsf0 : (wc0).frozen? ⟨w.heap.size + 1, 0, none⟩ = false := (H.blk 1 rfl).frozen 0
  have rs1 : (wc0).cell? ⟨w.heap.size + 1, 1, none⟩ = some (.int .u32 0) := (H.blk 1 rfl).cell 1
  have rsf1 : (wc0).frozen? ⟨w.heap.size + 1, 1, none⟩ = false := (H.blk 1 rfl).frozen 1
  have rs2 : (wc0).cell? ⟨w.heap.size + 1, 2, none⟩ = some (.int .u32 0) := (H.blk 1 rfl).cell 2
  have rsf2 : (wc0).frozen? ⟨w.heap.size + 1, 2, none⟩ = false := (H.blk 1 rfl).frozen 2
  have rslt : w.heap.size + 1 < (wc0).heap.size := H.lt 1 rfl
  have wd0 : (wc0).cell? ⟨wa.heap.size, 0, none⟩ = some (.int .u32 0) := (H.blk 2 rfl).cell 0
  have wdf0 : (wc0).frozen? ⟨wa.heap.size, 0, none⟩ = false := (H.blk 2 rfl).frozen 0
  have wd1 : (wc0).cell? ⟨wa.heap.size, 1, none⟩ = some (.int .u32 0) := (H.blk 2 rfl).cell 1
  have wdf1 : (wc0).frozen? ⟨wa.heap.size, 1, none⟩ = false := (H.blk 2 rfl).frozen 1
  have wd2 : (wc0).cell? ⟨wa.heap.size, 2, none⟩ = some (.int .u32 0) := (H.blk 2 rfl).cell 2
  have wdf2 : (wc0).frozen? ⟨wa.heap.size, 2, none⟩ = false := (H.blk 2 rfl).frozen 2
  have wdlt : wa.heap.size < (wc0).heap.size := H.lt 2 rfl
  have f00 : (wc0).cell? ⟨wb.heap.size, 0, none⟩ = some (.int .i64 16) := (H.blk 3 rfl).cell 0
  have f0f0 : (wc0).frozen? ⟨wb.heap.size, 0, none⟩ = false := (H.blk 3 rfl).frozen 0
  have f01 : (wc0).cell? ⟨wb.heap.size, 1, none⟩ = some (.int .i64 (tag : Int)) := (H.blk 3 rfl).cell 1
  have f0f1 : (wc0).frozen? ⟨wb.heap.size, 1, none⟩ = false := (H.blk 3 rfl).frozen 1
  have f0lt : wb.heap.size < (wc0).heap.size := H.lt 3 rfl
  have ne_tk_rs : w.heap.size ≠ w.heap.size + 1 := H.ne 0 1 rfl rfl (by decide)
  have ne_tk_wd : w.heap.size ≠ wa.heap.size := H.ne 0 2 rfl rfl (by decide)
  have ne_tk_f0 : w.heap.size ≠ wb.heap.size := H.ne 0 3 rfl rfl (by decide)
  have ne_rs_tk : w.heap.size + 1 ≠ w.heap.size := H.ne 1 0 rfl rfl (by decide)
  have ne_rs_wd : w.heap.size + 1 ≠ wa.heap.size := H.ne 1 2 rfl rfl (by decide)
  have ne_rs_f0 : w.heap.size + 1 ≠ wb.heap.size := H.ne 1 3 rfl rfl (by decide)
  have ne_wd_tk : wa.heap.size ≠ w.heap.size := H.ne 2 0 rfl rfl (by decide)
  have ne_wd_rs : wa.heap.size ≠ w.heap.size + 1 := H.ne 2 1 rfl rfl (by decide)
  have ne_wd_f0 : wa.heap.size ≠ wb.heap.size := H.ne 2 3 rfl rfl (by decide)
  have ne_f0_tk : wb.heap.size ≠ w.heap.size := H.ne 3 0 rfl rfl (by decide)
  have ne_f0_rs : wb.heap.size ≠ w.heap.size + 1 := H.ne 3 1 rfl rfl (by decide)
  have ne_f0_wd : wb.heap.size ≠ wa.heap.size := H.ne 3 2 rfl rfl (by decide)
  have V0 := Lib.hid (tw_1 (hv0.trans (by rfl)))
  clear hb hv0 hP i0
  go_wp2
  obtain ⟨wy0, hwy0⟩ : ∃ wy0, (((wc0).setCell ⟨wa.heap.size, 0, none⟩ (.int .u32 (p00 : Int))).setCell ⟨wa.heap.size, 1, none⟩ (.int .u32 (p01 : Int))).setCell ⟨wa.heap.size, 2, none⟩ (.int .u32 (p02 : Int)) = wy0 := ⟨_, rfl⟩
  replace H : Mem (w) [] _ [.blk (w.heap.size) 48 #[.int .i64 (cls : Int), .int .i64 (id : Int), .int .i64 (am : Int), .int .i64 (tag : Int)], .blk (w.heap.size + 1) 78 #[.int .u32 0, .int .u32 0, .int .u32 0], .blk (wa.heap.size) 78 #[.int .u32 (p00 : Int), .int .u32 0, .int .u32 0], .blk (wb.heap.size) 118 #[.int .i64 16, .int .i64 (tag : Int)]] := Mem.set 2 H rfl 0 (.int .u32 (p00 : Int))
  replace H : Mem (w) [] _ [.blk (w.heap.size) 48 #[.int .i64 (cls : Int), .int .i64 (id : Int), .int .i64 (am : Int), .int .i64 (tag : Int)], .blk (w.heap.size + 1) 78 #[.int .u32 0, .int .u32 0, .int .u32 0], .blk (wa.heap.size) 78 #[.int .u32 (p00 : Int), .int .u32 (p01 : Int), .int .u32 0], .blk (wb.heap.size) 118 #[.int .i64 16, .int .i64 (tag : Int)]] := Mem.set 2 H rfl 1 (.int .u32 (p01 : Int))
  replace H : Mem (w) [] _ [.blk (w.heap.size) 48 #[.int .i64 (cls : Int), .int .i64 (id : Int), .int .i64 (am : Int), .int .i64 (tag : Int)], .blk (w.heap.size + 1) 78 #[.int .u32 0, .int .u32 0, .int .u32 0], .blk (wa.heap.size) 78 #[.int .u32 (p00 : Int), .int .u32 (p01 : Int), .int .u32 (p02 : Int)], .blk (wb.heap.size) 118 #[.int .i64 16, .int .i64 (tag : Int)]] := Mem.set 2 H rfl 2 (.int .u32 (p02 : Int))
  rw [hwy0] at H ⊢
  clear hwy0
  clear tk0 tkf0 tk1 tkf1 tk2 tkf2 tk3 tkf3 tklt rs0 rsf0 rs1 rsf1 rs2 rsf2 rslt wd0 wdf0 wd1 wdf1 wd2 wdf2 wdlt f00 f0f0 f01 f0f1 f0lt ne_tk_rs ne_tk_wd ne_tk_f0 ne_rs_tk ne_rs_wd ne_rs_f0 ne_wd_tk ne_wd_rs ne_wd_f0 ne_f0_tk ne_f0_rs ne_f0_wd
  have tk0 : (wy0).cell? ⟨w.heap.size, 0, none⟩ = some (.int .i64 (cls : Int)) := (H.blk 0 rfl).cell 0
  have tkf0 : (wy0).frozen? ⟨w.heap.size, 0, none⟩ = false := (H.blk 0 rfl).frozen 0
  have tk1 : (wy0).cell? ⟨w.heap.size, 1, none⟩ = some (.int .i64 (id : Int)) := (H.blk 0 rfl).cell 1
  have tkf1 : (wy0).frozen? ⟨w.heap.size, 1, none⟩ = false := (H.blk 0 rfl).frozen 1
  have tk2 : (wy0).cell? ⟨w.heap.size, 2, none⟩ = some (.int .i64 (am : Int)) := (H.blk 0 rfl).cell 2
  have tkf2 : (wy0).frozen? ⟨w.heap.size, 2, none⟩ = false := (H.blk 0 rfl).frozen 2
  have tk3 : (wy0).cell? ⟨w.heap.size, 3, none⟩ = some (.int .i64 (tag : Int)) := (H.blk 0 rfl).cell 3
  have tkf3 : (wy0).frozen? ⟨w.heap.size, 3, none⟩ = false := (H.blk 0 rfl).frozen 3
  have tklt : w.heap.size < (wy0).heap.size := H.lt 0 rfl
  have rs0 : (wy0).cell? ⟨w.heap.size + 1, 0, none⟩ = some (.int .u32 0) := (H.blk 1 rfl).cell 0
  have rsf0 : (wy0).frozen? ⟨w.heap.size + 1, 0, none⟩ = false := (H.blk 1 rfl).frozen 0
  have rs1 : (wy0).cell? ⟨w.heap.size + 1, 1, none⟩ = some (.int .u32 0) := (H.blk 1 rfl).cell 1
  have rsf1 : (wy0).frozen? ⟨w.heap.size + 1, 1, none⟩ = false := (H.blk 1 rfl).frozen 1
  have rs2 : (wy0).cell? ⟨w.heap.size + 1, 2, none⟩ = some (.int .u32 0) := (H.blk 1 rfl).cell 2
  have rsf2 : (wy0).frozen? ⟨w.heap.size + 1, 2, none⟩ = false := (H.blk 1 rfl).frozen 2
  have rslt : w.heap.size + 1 < (wy0).heap.size := H.lt 1 rfl
  have wd0 : (wy0).cell? ⟨wa.heap.size, 0, none⟩ = some (.int .u32 (p00 : Int)) := (H.blk 2 rfl).cell 0
  have wdf0 : (wy0).frozen? ⟨wa.heap.size, 0, none⟩ = false := (H.blk 2 rfl).frozen 0
  have wd1 : (wy0).cell? ⟨wa.heap.size, 1, none⟩ = some (.int .u32 (p01 : Int)) := (H.blk 2 rfl).cell 1
  have wdf1 : (wy0).frozen? ⟨wa.heap.size, 1, none⟩ = false := (H.blk 2 rfl).frozen 1
  have wd2 : (wy0).cell? ⟨wa.heap.size, 2, none⟩ = some (.int .u32 (p02 : Int)) := (H.blk 2 rfl).cell 2
  have wdf2 : (wy0).frozen? ⟨wa.heap.size, 2, none⟩ = false := (H.blk 2 rfl).frozen 2
  have wdlt : wa.heap.size < (wy0).heap.size := H.lt 2 rfl
  have ne_tk_rs : w.heap.size ≠ w.heap.size + 1 := H.ne 0 1 rfl rfl (by decide)
  have ne_tk_wd : w.heap.size ≠ wa.heap.size := H.ne 0 2 rfl rfl (by decide)
  have ne_rs_tk : w.heap.size + 1 ≠ w.heap.size := H.ne 1 0 rfl rfl (by decide)
  have ne_rs_wd : w.heap.size + 1 ≠ wa.heap.size := H.ne 1 2 rfl rfl (by decide)
  have ne_wd_tk : wa.heap.size ≠ w.heap.size := H.ne 2 0 rfl rfl (by decide)
  have ne_wd_rs : wa.heap.size ≠ w.heap.size + 1 := H.ne 2 1 rfl rfl (by decide)
  rw [rounds_succ]
  have hP := fun W => put_ok p00 p01 p02 16 21 am W (by omega) (by omega) (by omega) (by omega) (by omega) (by omega) (by have := K.out; omega)
  go_wp2_with fail
  obtain ⟨wx1, hwx1⟩ : ∃ wx1, (wy0).alloc (.cells #[.int .i64 21, .int .i64 (am : Int)] 118) = wx1 := ⟨_, rfl⟩
  replace H : Mem (w) [] _ [.blk (w.heap.size) 48 #[.int .i64 (cls : Int), .int .i64 (id : Int), .int .i64 (am : Int), .int .i64 (tag : Int)], .blk (w.heap.size + 1) 78 #[.int .u32 0, .int .u32 0, .int .u32 0], .blk (wa.heap.size) 78 #[.int .u32 (p00 : Int), .int .u32 (p01 : Int), .int .u32 (p02 : Int)], .blk (wb.heap.size) 118 #[.int .i64 16, .int .i64 (tag : Int)], .blk (wy0.heap.size) 118 #[.int .i64 21, .int .i64 (am : Int)]] := Mem.alloc H (wy0.heap.size) (by first | (simp; done) | (simp; omega)) #[.int .i64 21, .int .i64 (am : Int)] 118
  rw [hwx1] at H ⊢
  clear hwx1
  refine (hP _).mono ?_
  rintro e wc1 ⟨p10, p11, p12, rfl, l10, l11, l12, hv1, hb⟩
  replace H : Mem (w) [] (wc1) [.blk (w.heap.size) 48 #[.int .i64 (cls : Int), .int .i64 (id : Int), .int .i64 (am : Int), .int .i64 (tag : Int)], .blk (w.heap.size + 1) 78 #[.int .u32 0, .int .u32 0, .int .u32 0], .blk (wa.heap.size) 78 #[.int .u32 (p00 : Int), .int .u32 (p01 : Int), .int .u32 (p02 : Int)], .blk (wb.heap.size) 118 #[.int .i64 16, .int .i64 (tag : Int)], .blk (wy0.heap.size) 118 #[.int .i64 21, .int .i64 (am : Int)]] := Mem.call H hb
  clear tk0 tkf0 tk1 tkf1 tk2 tkf2 tk3 tkf3 tklt rs0 rsf0 rs1 rsf1 rs2 rsf2 rslt wd0 wdf0 wd1 wdf1 wd2 wdf2 wdlt ne_tk_rs ne_tk_wd ne_rs_tk ne_rs_wd ne_wd_tk ne_wd_rs
  have tk0 : (wc1).cell? ⟨w.heap.size, 0, none⟩ = some (.int .i64 (cls : Int)) := (H.blk 0 rfl).cell 0
  have tkf0 : (wc1).frozen? ⟨w.heap.size, 0, none⟩ = false := (H.blk 0 rfl).frozen 0
  have tk1 : (wc1).cell? ⟨w.heap.size, 1, none⟩ = some (.int .i64 (id : Int)) := (H.blk 0 rfl).cell 1
  have tkf1 : (wc1).frozen? ⟨w.heap.size, 1, none⟩ = false := (H.blk 0 rfl).frozen 1
  have tk2 : (wc1).cell? ⟨w.heap.size, 2, none⟩ = some (.int .i64 (am : Int)) := (H.blk 0 rfl).cell 2
  have tkf2 : (wc1).frozen? ⟨w.heap.size, 2, none⟩ = false := (H.blk 0 rfl).frozen 2
  have tk3 : (wc1).cell? ⟨w.heap.size, 3, none⟩ = some (.int .i64 (tag : Int)) := (H.blk 0 rfl).cell 3
  have tkf3 : (wc1).frozen? ⟨w.heap.size, 3, none⟩ = false := (H.blk 0 rfl).frozen 3
  have tklt : w.heap.size < (wc1).heap.size := H.lt 0 rfl
  have rs0 : (wc1).cell? ⟨w.heap.size + 1, 0, none⟩ = some (.int .u32 0) := (H.blk 1 rfl).cell 0
  have rsf0 : (wc1).frozen? ⟨w.heap.size + 1, 0, none⟩ = false := (H.blk 1 rfl).frozen 0
  have rs1 : (wc1).cell? ⟨w.heap.size + 1, 1, none⟩ = some (.int .u32 0) := (H.blk 1 rfl).cell 1
  have rsf1 : (wc1).frozen? ⟨w.heap.size + 1, 1, none⟩ = false := (H.blk 1 rfl).frozen 1
  have rs2 : (wc1).cell? ⟨w.heap.size + 1, 2, none⟩ = some (.int .u32 0) := (H.blk 1 rfl).cell 2
  have rsf2 : (wc1).frozen? ⟨w.heap.size + 1, 2, none⟩ = false := (H.blk 1 rfl).frozen 2
  have rslt : w.heap.size + 1 < (wc1).heap.size := H.lt 1 rfl
  have wd0 : (wc1).cell? ⟨wa.heap.size, 0, none⟩ = some (.int .u32 (p00 : Int)) := (H.blk 2 rfl).cell 0
  have wdf0 : (wc1).frozen? ⟨wa.heap.size, 0, none⟩ = false := (H.blk 2 rfl).frozen 0
  have wd1 : (wc1).cell? ⟨wa.heap.size, 1, none⟩ = some (.int .u32 (p01 : Int)) := (H.blk 2 rfl).cell 1
  have wdf1 : (wc1).frozen? ⟨wa.heap.size, 1, none⟩ = false := (H.blk 2 rfl).frozen 1
  have wd2 : (wc1).cell? ⟨wa.heap.size, 2, none⟩ = some (.int .u32 (p02 : Int)) := (H.blk 2 rfl).cell 2
  have wdf2 : (wc1).frozen? ⟨wa.heap.size, 2, none⟩ = false := (H.blk 2 rfl).frozen 2
  have wdlt : wa.heap.size < (wc1).heap.size := H.lt 2 rfl
  have f10 : (wc1).cell? ⟨wy0.heap.size, 0, none⟩ = some (.int .i64 21) := (H.blk 4 rfl).cell 0
  have f1f0 : (wc1).frozen? ⟨wy0.heap.size, 0, none⟩ = false := (H.blk 4 rfl).frozen 0
  have f11 : (wc1).cell? ⟨wy0.heap.size, 1, none⟩ = some (.int .i64 (am : Int)) := (H.blk 4 rfl).cell 1
  have f1f1 : (wc1).frozen? ⟨wy0.heap.size, 1, none⟩ = false := (H.blk 4 rfl).frozen 1
  have f1lt : wy0.heap.size < (wc1).heap.size := H.lt 4 rfl
  have ne_tk_rs : w.heap.size ≠ w.heap.size + 1 := H.ne 0 1 rfl rfl (by decide)
  have ne_tk_wd : w.heap.size ≠ wa.heap.size := H.ne 0 2 rfl rfl (by decide)
  have ne_tk_f1 : w.heap.size ≠ wy0.heap.size := H.ne 0 4 rfl rfl (by decide)
  have ne_rs_tk : w.heap.size + 1 ≠ w.heap.size := H.ne 1 0 rfl rfl (by decide)
  have ne_rs_wd : w.heap.size + 1 ≠ wa.heap.size := H.ne 1 2 rfl rfl (by decide)
  have ne_rs_f1 : w.heap.size + 1 ≠ wy0.heap.size := H.ne 1 4 rfl rfl (by decide)
  have ne_wd_tk : wa.heap.size ≠ w.heap.size := H.ne 2 0 rfl rfl (by decide)
  have ne_wd_rs : wa.heap.size ≠ w.heap.size + 1 := H.ne 2 1 rfl rfl (by decide)
  have ne_wd_f1 : wa.heap.size ≠ wy0.heap.size := H.ne 2 4 rfl rfl (by decide)
  have ne_f1_tk : wy0.heap.size ≠ w.heap.size := H.ne 4 0 rfl rfl (by decide)
  have ne_f1_rs : wy0.heap.size ≠ w.heap.size + 1 := H.ne 4 1 rfl rfl (by decide)
  have ne_f1_wd : wy0.heap.size ≠ wa.heap.size := H.ne 4 2 rfl rfl (by decide)
  have V1 := Lib.hid (tw_2 hv1 V0.out K.out.2.2.2)
  clear hb hv1 hP i1
  go_wp2
  obtain ⟨wy1, hwy1⟩ : ∃ wy1, (((wc1).setCell ⟨wa.heap.size, 0, none⟩ (.int .u32 (p10 : Int))).setCell ⟨wa.heap.size, 1, none⟩ (.int .u32 (p11 : Int))).setCell ⟨wa.heap.size, 2, none⟩ (.int .u32 (p12 : Int)) = wy1 := ⟨_, rfl⟩
  replace H : Mem (w) [] _ [.blk (w.heap.size) 48 #[.int .i64 (cls : Int), .int .i64 (id : Int), .int .i64 (am : Int), .int .i64 (tag : Int)], .blk (w.heap.size + 1) 78 #[.int .u32 0, .int .u32 0, .int .u32 0], .blk (wa.heap.size) 78 #[.int .u32 (p10 : Int), .int .u32 (p01 : Int), .int .u32 (p02 : Int)], .blk (wb.heap.size) 118 #[.int .i64 16, .int .i64 (tag : Int)], .blk (wy0.heap.size) 118 #[.int .i64 21, .int .i64 (am : Int)]] := Mem.set 2 H rfl 0 (.int .u32 (p10 : Int))
  replace H : Mem (w) [] _ [.blk (w.heap.size) 48 #[.int .i64 (cls : Int), .int .i64 (id : Int), .int .i64 (am : Int), .int .i64 (tag : Int)], .blk (w.heap.size + 1) 78 #[.int .u32 0, .int .u32 0, .int .u32 0], .blk (wa.heap.size) 78 #[.int .u32 (p10 : Int), .int .u32 (p11 : Int), .int .u32 (p02 : Int)], .blk (wb.heap.size) 118 #[.int .i64 16, .int .i64 (tag : Int)], .blk (wy0.heap.size) 118 #[.int .i64 21, .int .i64 (am : Int)]] := Mem.set 2 H rfl 1 (.int .u32 (p11 : Int))
  replace H : Mem (w) [] _ [.blk (w.heap.size) 48 #[.int .i64 (cls : Int), .int .i64 (id : Int), .int .i64 (am : Int), .int .i64 (tag : Int)], .blk (w.heap.size + 1) 78 #[.int .u32 0, .int .u32 0, .int .u32 0], .blk (wa.heap.size) 78 #[.int .u32 (p10 : Int), .int .u32 (p11 : Int), .int .u32 (p12 : Int)], .blk (wb.heap.size) 118 #[.int .i64 16, .int .i64 (tag : Int)], .blk (wy0.heap.size) 118 #[.int .i64 21, .int .i64 (am : Int)]] := Mem.set 2 H rfl 2 (.int .u32 (p12 : Int))
  rw [hwy1] at H ⊢
  clear hwy1
  clear tk0 tkf0 tk1 tkf1 tk2 tkf2 tk3 tkf3 tklt rs0 rsf0 rs1 rsf1 rs2 rsf2 rslt wd0 wdf0 wd1 wdf1 wd2 wdf2 wdlt f10 f1f0 f11 f1f1 f1lt ne_tk_rs ne_tk_wd ne_tk_f1 ne_rs_tk ne_rs_wd ne_rs_f1 ne_wd_tk ne_wd_rs ne_wd_f1 ne_f1_tk ne_f1_rs ne_f1_wd
  have tk0 : (wy1).cell? ⟨w.heap.size, 0, none⟩ = some (.int .i64 (cls : Int)) := (H.blk 0 rfl).cell 0
  have tkf0 : (wy1).frozen? ⟨w.heap.size, 0, none⟩ = false := (H.blk 0 rfl).frozen 0
  have tk1 : (wy1).cell? ⟨w.heap.size, 1, none⟩ = some (.int .i64 (id : Int)) := (H.blk 0 rfl).cell 1
  have tkf1 : (wy1).frozen? ⟨w.heap.size, 1, none⟩ = false := (H.blk 0 rfl).frozen 1
  have tk2 : (wy1).cell? ⟨w.heap.size, 2, none⟩ = some (.int .i64 (am : Int)) := (H.blk 0 rfl).cell 2
  have tkf2 : (wy1).frozen? ⟨w.heap.size, 2, none⟩ = false := (H.blk 0 rfl).frozen 2
  have tk3 : (wy1).cell? ⟨w.heap.size, 3, none⟩ = some (.int .i64 (tag : Int)) := (H.blk 0 rfl).cell 3
  have tkf3 : (wy1).frozen? ⟨w.heap.size, 3, none⟩ = false := (H.blk 0 rfl).frozen 3
  have tklt : w.heap.size < (wy1).heap.size := H.lt 0 rfl
  have rs0 : (wy1).cell? ⟨w.heap.size + 1, 0, none⟩ = some (.int .u32 0) := (H.blk 1 rfl).cell 0
  have rsf0 : (wy1).frozen? ⟨w.heap.size + 1, 0, none⟩ = false := (H.blk 1 rfl).frozen 0
  have rs1 : (wy1).cell? ⟨w.heap.size + 1, 1, none⟩ = some (.int .u32 0) := (H.blk 1 rfl).cell 1
  have rsf1 : (wy1).frozen? ⟨w.heap.size + 1, 1, none⟩ = false := (H.blk 1 rfl).frozen 1
  have rs2 : (wy1).cell? ⟨w.heap.size + 1, 2, none⟩ = some (.int .u32 0) := (H.blk 1 rfl).cell 2
  have rsf2 : (wy1).frozen? ⟨w.heap.size + 1, 2, none⟩ = false := (H.blk 1 rfl).frozen 2
  have rslt : w.heap.size + 1 < (wy1).heap.size := H.lt 1 rfl
  have wd0 : (wy1).cell? ⟨wa.heap.size, 0, none⟩ = some (.int .u32 (p10 : Int)) := (H.blk 2 rfl).cell 0
  have wdf0 : (wy1).frozen? ⟨wa.heap.size, 0, none⟩ = false := (H.blk 2 rfl).frozen 0
  have wd1 : (wy1).cell? ⟨wa.heap.size, 1, none⟩ = some (.int .u32 (p11 : Int)) := (H.blk 2 rfl).cell 1
  have wdf1 : (wy1).frozen? ⟨wa.heap.size, 1, none⟩ = false := (H.blk 2 rfl).frozen 1
  have wd2 : (wy1).cell? ⟨wa.heap.size, 2, none⟩ = some (.int .u32 (p12 : Int)) := (H.blk 2 rfl).cell 2
  have wdf2 : (wy1).frozen? ⟨wa.heap.size, 2, none⟩ = false := (H.blk 2 rfl).frozen 2
  have wdlt : wa.heap.size < (wy1).heap.size := H.lt 2 rfl
  have ne_tk_rs : w.heap.size ≠ w.heap.size + 1 := H.ne 0 1 rfl rfl (by decide)
  have ne_tk_wd : w.heap.size ≠ wa.heap.size := H.ne 0 2 rfl rfl (by decide)
  have ne_rs_tk : w.heap.size + 1 ≠ w.heap.size := H.ne 1 0 rfl rfl (by decide)
  have ne_rs_wd : w.heap.size + 1 ≠ wa.heap.size := H.ne 1 2 rfl rfl (by decide)
  have ne_wd_tk : wa.heap.size ≠ w.heap.size := H.ne 2 0 rfl rfl (by decide)
  have ne_wd_rs : wa.heap.size ≠ w.heap.size + 1 := H.ne 2 1 rfl rfl (by decide)
  rw [rounds_succ]
  have hP := fun W => put_ok p10 p11 p12 37 20 id W (by omega) (by omega) (by omega) (by omega) (by omega) (by omega) (by have := K.out; omega)
  go_wp2_with fail
  obtain ⟨wx2, hwx2⟩ : ∃ wx2, (wy1).alloc (.cells #[.int .i64 20, .int .i64 (id : Int)] 118) = wx2 := ⟨_, rfl⟩
  replace H : Mem (w) [] _ [.blk (w.heap.size) 48 #[.int .i64 (cls : Int), .int .i64 (id : Int), .int .i64 (am : Int), .int .i64 (tag : Int)], .blk (w.heap.size + 1) 78 #[.int .u32 0, .int .u32 0, .int .u32 0], .blk (wa.heap.size) 78 #[.int .u32 (p10 : Int), .int .u32 (p11 : Int), .int .u32 (p12 : Int)], .blk (wb.heap.size) 118 #[.int .i64 16, .int .i64 (tag : Int)], .blk (wy0.heap.size) 118 #[.int .i64 21, .int .i64 (am : Int)], .blk (wy1.heap.size) 118 #[.int .i64 20, .int .i64 (id : Int)]] := Mem.alloc H (wy1.heap.size) (by first | (simp; done) | (simp; omega)) #[.int .i64 20, .int .i64 (id : Int)] 118
  rw [hwx2] at H ⊢
  clear hwx2
  refine (hP _).mono ?_
  rintro e wc2 ⟨p20, p21, p22, rfl, l20, l21, l22, hv2, hb⟩
  replace H : Mem (w) [] (wc2) [.blk (w.heap.size) 48 #[.int .i64 (cls : Int), .int .i64 (id : Int), .int .i64 (am : Int), .int .i64 (tag : Int)], .blk (w.heap.size + 1) 78 #[.int .u32 0, .int .u32 0, .int .u32 0], .blk (wa.heap.size) 78 #[.int .u32 (p10 : Int), .int .u32 (p11 : Int), .int .u32 (p12 : Int)], .blk (wb.heap.size) 118 #[.int .i64 16, .int .i64 (tag : Int)], .blk (wy0.heap.size) 118 #[.int .i64 21, .int .i64 (am : Int)], .blk (wy1.heap.size) 118 #[.int .i64 20, .int .i64 (id : Int)]] := Mem.call H hb
  clear tk0 tkf0 tk1 tkf1 tk2 tkf2 tk3 tkf3 tklt rs0 rsf0 rs1 rsf1 rs2 rsf2 rslt wd0 wdf0 wd1 wdf1 wd2 wdf2 wdlt ne_tk_rs ne_tk_wd ne_rs_tk ne_rs_wd ne_wd_tk ne_wd_rs
  have tk0 : (wc2).cell? ⟨w.heap.size, 0, none⟩ = some (.int .i64 (cls : Int)) := (H.blk 0 rfl).cell 0
  have tkf0 : (wc2).frozen? ⟨w.heap.size, 0, none⟩ = false := (H.blk 0 rfl).frozen 0
  have tk1 : (wc2).cell? ⟨w.heap.size, 1, none⟩ = some (.int .i64 (id : Int)) := (H.blk 0 rfl).cell 1
  have tkf1 : (wc2).frozen? ⟨w.heap.size, 1, none⟩ = false := (H.blk 0 rfl).frozen 1
  have tk2 : (wc2).cell? ⟨w.heap.size, 2, none⟩ = some (.int .i64 (am : Int)) := (H.blk 0 rfl).cell 2
  have tkf2 : (wc2).frozen? ⟨w.heap.size, 2, none⟩ = false := (H.blk 0 rfl).frozen 2
  have tk3 : (wc2).cell? ⟨w.heap.size, 3, none⟩ = some (.int .i64 (tag : Int)) := (H.blk 0 rfl).cell 3
  have tkf3 : (wc2).frozen? ⟨w.heap.size, 3, none⟩ = false := (H.blk 0 rfl).frozen 3
  have tklt : w.heap.size < (wc2).heap.size := H.lt 0 rfl
  have rs0 : (wc2).cell? ⟨w.heap.size + 1, 0, none⟩ = some (.int .u32 0) := (H.blk 1 rfl).cell 0
  have rsf0 : (wc2).frozen? ⟨w.heap.size + 1, 0, none⟩ = false := (H.blk 1 rfl).frozen 0
  have rs1 : (wc2).cell? ⟨w.heap.size + 1, 1, none⟩ = some (.int .u32 0) := (H.blk 1 rfl).cell 1
  have rsf1 : (wc2).frozen? ⟨w.heap.size + 1, 1, none⟩ = false := (H.blk 1 rfl).frozen 1
  have rs2 : (wc2).cell? ⟨w.heap.size + 1, 2, none⟩ = some (.int .u32 0) := (H.blk 1 rfl).cell 2
  have rsf2 : (wc2).frozen? ⟨w.heap.size + 1, 2, none⟩ = false := (H.blk 1 rfl).frozen 2
  have rslt : w.heap.size + 1 < (wc2).heap.size := H.lt 1 rfl
  have wd0 : (wc2).cell? ⟨wa.heap.size, 0, none⟩ = some (.int .u32 (p10 : Int)) := (H.blk 2 rfl).cell 0
  have wdf0 : (wc2).frozen? ⟨wa.heap.size, 0, none⟩ = false := (H.blk 2 rfl).frozen 0
  have wd1 : (wc2).cell? ⟨wa.heap.size, 1, none⟩ = some (.int .u32 (p11 : Int)) := (H.blk 2 rfl).cell 1
  have wdf1 : (wc2).frozen? ⟨wa.heap.size, 1, none⟩ = false := (H.blk 2 rfl).frozen 1
  have wd2 : (wc2).cell? ⟨wa.heap.size, 2, none⟩ = some (.int .u32 (p12 : Int)) := (H.blk 2 rfl).cell 2
  have wdf2 : (wc2).frozen? ⟨wa.heap.size, 2, none⟩ = false := (H.blk 2 rfl).frozen 2
  have wdlt : wa.heap.size < (wc2).heap.size := H.lt 2 rfl
  have f20 : (wc2).cell? ⟨wy1.heap.size, 0, none⟩ = some (.int .i64 20) := (H.blk 5 rfl).cell 0
  have f2f0 : (wc2).frozen? ⟨wy1.heap.size, 0, none⟩ = false := (H.blk 5 rfl).frozen 0
  have f21 : (wc2).cell? ⟨wy1.heap.size, 1, none⟩ = some (.int .i64 (id : Int)) := (H.blk 5 rfl).cell 1
  have f2f1 : (wc2).frozen? ⟨wy1.heap.size, 1, none⟩ = false := (H.blk 5 rfl).frozen 1
  have f2lt : wy1.heap.size < (wc2).heap.size := H.lt 5 rfl
  have ne_tk_rs : w.heap.size ≠ w.heap.size + 1 := H.ne 0 1 rfl rfl (by decide)
  have ne_tk_wd : w.heap.size ≠ wa.heap.size := H.ne 0 2 rfl rfl (by decide)
  have ne_tk_f2 : w.heap.size ≠ wy1.heap.size := H.ne 0 5 rfl rfl (by decide)
  have ne_rs_tk : w.heap.size + 1 ≠ w.heap.size := H.ne 1 0 rfl rfl (by decide)
  have ne_rs_wd : w.heap.size + 1 ≠ wa.heap.size := H.ne 1 2 rfl rfl (by decide)
  have ne_rs_f2 : w.heap.size + 1 ≠ wy1.heap.size := H.ne 1 5 rfl rfl (by decide)
  have ne_wd_tk : wa.heap.size ≠ w.heap.size := H.ne 2 0 rfl rfl (by decide)
  have ne_wd_rs : wa.heap.size ≠ w.heap.size + 1 := H.ne 2 1 rfl rfl (by decide)
  have ne_wd_f2 : wa.heap.size ≠ wy1.heap.size := H.ne 2 5 rfl rfl (by decide)
  have ne_f2_tk : wy1.heap.size ≠ w.heap.size := H.ne 5 0 rfl rfl (by decide)
  have ne_f2_rs : wy1.heap.size ≠ w.heap.size + 1 := H.ne 5 1 rfl rfl (by decide)
  have ne_f2_wd : wy1.heap.size ≠ wa.heap.size := H.ne 5 2 rfl rfl (by decide)
  have V2 := Lib.hid (tw_3 hv2 V1.out K.out.2.2.2 K.out.2.2.1)
  clear hb hv2 hP i2
  go_wp2
  obtain ⟨wy2, hwy2⟩ : ∃ wy2, (((wc2).setCell ⟨wa.heap.size, 0, none⟩ (.int .u32 (p20 : Int))).setCell ⟨wa.heap.size, 1, none⟩ (.int .u32 (p21 : Int))).setCell ⟨wa.heap.size, 2, none⟩ (.int .u32 (p22 : Int)) = wy2 := ⟨_, rfl⟩
  replace H : Mem (w) [] _ [.blk (w.heap.size) 48 #[.int .i64 (cls : Int), .int .i64 (id : Int), .int .i64 (am : Int), .int .i64 (tag : Int)], .blk (w.heap.size + 1) 78 #[.int .u32 0, .int .u32 0, .int .u32 0], .blk (wa.heap.size) 78 #[.int .u32 (p20 : Int), .int .u32 (p11 : Int), .int .u32 (p12 : Int)], .blk (wb.heap.size) 118 #[.int .i64 16, .int .i64 (tag : Int)], .blk (wy0.heap.size) 118 #[.int .i64 21, .int .i64 (am : Int)], .blk (wy1.heap.size) 118 #[.int .i64 20, .int .i64 (id : Int)]] := Mem.set 2 H rfl 0 (.int .u32 (p20 : Int))
  replace H : Mem (w) [] _ [.blk (w.heap.size) 48 #[.int .i64 (cls : Int), .int .i64 (id : Int), .int .i64 (am : Int), .int .i64 (tag : Int)], .blk (w.heap.size + 1) 78 #[.int .u32 0, .int .u32 0, .int .u32 0], .blk (wa.heap.size) 78 #[.int .u32 (p20 : Int), .int .u32 (p21 : Int), .int .u32 (p12 : Int)], .blk (wb.heap.size) 118 #[.int .i64 16, .int .i64 (tag : Int)], .blk (wy0.heap.size) 118 #[.int .i64 21, .int .i64 (am : Int)], .blk (wy1.heap.size) 118 #[.int .i64 20, .int .i64 (id : Int)]] := Mem.set 2 H rfl 1 (.int .u32 (p21 : Int))
  replace H : Mem (w) [] _ [.blk (w.heap.size) 48 #[.int .i64 (cls : Int), .int .i64 (id : Int), .int .i64 (am : Int), .int .i64 (tag : Int)], .blk (w.heap.size + 1) 78 #[.int .u32 0, .int .u32 0, .int .u32 0], .blk (wa.heap.size) 78 #[.int .u32 (p20 : Int), .int .u32 (p21 : Int), .int .u32 (p22 : Int)], .blk (wb.heap.size) 118 #[.int .i64 16, .int .i64 (tag : Int)], .blk (wy0.heap.size) 118 #[.int .i64 21, .int .i64 (am : Int)], .blk (wy1.heap.size) 118 #[.int .i64 20, .int .i64 (id : Int)]] := Mem.set 2 H rfl 2 (.int .u32 (p22 : Int))
  rw [hwy2] at H ⊢
  clear hwy2
  clear tk0 tkf0 tk1 tkf1 tk2 tkf2 tk3 tkf3 tklt rs0 rsf0 rs1 rsf1 rs2 rsf2 rslt wd0 wdf0 wd1 wdf1 wd2 wdf2 wdlt f20 f2f0 f21 f2f1 f2lt ne_tk_rs ne_tk_wd ne_tk_f2 ne_rs_tk ne_rs_wd ne_rs_f2 ne_wd_tk ne_wd_rs ne_wd_f2 ne_f2_tk ne_f2_rs ne_f2_wd
  have tk0 : (wy2).cell? ⟨w.heap.size, 0, none⟩ = some (.int .i64 (cls : Int)) := (H.blk 0 rfl).cell 0
  have tkf0 : (wy2).frozen? ⟨w.heap.size, 0, none⟩ = false := (H.blk 0 rfl).frozen 0
  have tk1 : (wy2).cell? ⟨w.heap.size, 1, none⟩ = some (.int .i64 (id : Int)) := (H.blk 0 rfl).cell 1
  have tkf1 : (wy2).frozen? ⟨w.heap.size, 1, none⟩ = false := (H.blk 0 rfl).frozen 1
  have tk2 : (wy2).cell? ⟨w.heap.size, 2, none⟩ = some (.int .i64 (am : Int)) := (H.blk 0 rfl).cell 2
  have tkf2 : (wy2).frozen? ⟨w.heap.size, 2, none⟩ = false := (H.blk 0 rfl).frozen 2
  have tk3 : (wy2).cell? ⟨w.heap.size, 3, none⟩ = some (.int .i64 (tag : Int)) := (H.blk 0 rfl).cell 3
  have tkf3 : (wy2).frozen? ⟨w.heap.size, 3, none⟩ = false := (H.blk 0 rfl).frozen 3
  have tklt : w.heap.size < (wy2).heap.size := H.lt 0 rfl
  have rs0 : (wy2).cell? ⟨w.heap.size + 1, 0, none⟩ = some (.int .u32 0) := (H.blk 1 rfl).cell 0
  have rsf0 : (wy2).frozen? ⟨w.heap.size + 1, 0, none⟩ = false := (H.blk 1 rfl).frozen 0
  have rs1 : (wy2).cell? ⟨w.heap.size + 1, 1, none⟩ = some (.int .u32 0) := (H.blk 1 rfl).cell 1
  have rsf1 : (wy2).frozen? ⟨w.heap.size + 1, 1, none⟩ = false := (H.blk 1 rfl).frozen 1
  have rs2 : (wy2).cell? ⟨w.heap.size + 1, 2, none⟩ = some (.int .u32 0) := (H.blk 1 rfl).cell 2
  have rsf2 : (wy2).frozen? ⟨w.heap.size + 1, 2, none⟩ = false := (H.blk 1 rfl).frozen 2
  have rslt : w.heap.size + 1 < (wy2).heap.size := H.lt 1 rfl
  have wd0 : (wy2).cell? ⟨wa.heap.size, 0, none⟩ = some (.int .u32 (p20 : Int)) := (H.blk 2 rfl).cell 0
  have wdf0 : (wy2).frozen? ⟨wa.heap.size, 0, none⟩ = false := (H.blk 2 rfl).frozen 0
  have wd1 : (wy2).cell? ⟨wa.heap.size, 1, none⟩ = some (.int .u32 (p21 : Int)) := (H.blk 2 rfl).cell 1
  have wdf1 : (wy2).frozen? ⟨wa.heap.size, 1, none⟩ = false := (H.blk 2 rfl).frozen 1
  have wd2 : (wy2).cell? ⟨wa.heap.size, 2, none⟩ = some (.int .u32 (p22 : Int)) := (H.blk 2 rfl).cell 2
  have wdf2 : (wy2).frozen? ⟨wa.heap.size, 2, none⟩ = false := (H.blk 2 rfl).frozen 2
  have wdlt : wa.heap.size < (wy2).heap.size := H.lt 2 rfl
  have ne_tk_rs : w.heap.size ≠ w.heap.size + 1 := H.ne 0 1 rfl rfl (by decide)
  have ne_tk_wd : w.heap.size ≠ wa.heap.size := H.ne 0 2 rfl rfl (by decide)
  have ne_rs_tk : w.heap.size + 1 ≠ w.heap.size := H.ne 1 0 rfl rfl (by decide)
  have ne_rs_wd : w.heap.size + 1 ≠ wa.heap.size := H.ne 1 2 rfl rfl (by decide)
  have ne_wd_tk : wa.heap.size ≠ w.heap.size := H.ne 2 0 rfl rfl (by decide)
  have ne_wd_rs : wa.heap.size ≠ w.heap.size + 1 := H.ne 2 1 rfl rfl (by decide)
  rw [rounds_succ]
  have hP := fun W => put_ok p20 p21 p22 57 2 cls W (by omega) (by omega) (by omega) (by omega) (by omega) (by omega) (by have := K.out; omega)
  go_wp2_with fail
  obtain ⟨wx3, hwx3⟩ : ∃ wx3, (wy2).alloc (.cells #[.int .i64 2, .int .i64 (cls : Int)] 118) = wx3 := ⟨_, rfl⟩
  replace H : Mem (w) [] _ [.blk (w.heap.size) 48 #[.int .i64 (cls : Int), .int .i64 (id : Int), .int .i64 (am : Int), .int .i64 (tag : Int)], .blk (w.heap.size + 1) 78 #[.int .u32 0, .int .u32 0, .int .u32 0], .blk (wa.heap.size) 78 #[.int .u32 (p20 : Int), .int .u32 (p21 : Int), .int .u32 (p22 : Int)], .blk (wb.heap.size) 118 #[.int .i64 16, .int .i64 (tag : Int)], .blk (wy0.heap.size) 118 #[.int .i64 21, .int .i64 (am : Int)], .blk (wy1.heap.size) 118 #[.int .i64 20, .int .i64 (id : Int)], .blk (wy2.heap.size) 118 #[.int .i64 2, .int .i64 (cls : Int)]] := Mem.alloc H (wy2.heap.size) (by first | (simp; done) | (simp; omega)) #[.int .i64 2, .int .i64 (cls : Int)] 118
  rw [hwx3] at H ⊢
  clear hwx3
  refine (hP _).mono ?_
  rintro e wc3 ⟨p30, p31, p32, rfl, l30, l31, l32, hv3, hb⟩
  replace H : Mem (w) [] (wc3) [.blk (w.heap.size) 48 #[.int .i64 (cls : Int), .int .i64 (id : Int), .int .i64 (am : Int), .int .i64 (tag : Int)], .blk (w.heap.size + 1) 78 #[.int .u32 0, .int .u32 0, .int .u32 0], .blk (wa.heap.size) 78 #[.int .u32 (p20 : Int), .int .u32 (p21 : Int), .int .u32 (p22 : Int)], .blk (wb.heap.size) 118 #[.int .i64 16, .int .i64 (tag : Int)], .blk (wy0.heap.size) 118 #[.int .i64 21, .int .i64 (am : Int)], .blk (wy1.heap.size) 118 #[.int .i64 20, .int .i64 (id : Int)], .blk (wy2.heap.size) 118 #[.int .i64 2, .int .i64 (cls : Int)]] := Mem.call H hb
  clear tk0 tkf0 tk1 tkf1 tk2 tkf2 tk3 tkf3 tklt rs0 rsf0 rs1 rsf1 rs2 rsf2 rslt wd0 wdf0 wd1 wdf1 wd2 wdf2 wdlt ne_tk_rs ne_tk_wd ne_rs_tk ne_rs_wd ne_wd_tk ne_wd_rs
  have tk0 : (wc3).cell? ⟨w.heap.size, 0, none⟩ = some (.int .i64 (cls : Int)) := (H.blk 0 rfl).cell 0
  have tkf0 : (wc3).frozen? ⟨w.heap.size, 0, none⟩ = false := (H.blk 0 rfl).frozen 0
  have tk1 : (wc3).cell? ⟨w.heap.size, 1, none⟩ = some (.int .i64 (id : Int)) := (H.blk 0 rfl).cell 1
  have tkf1 : (wc3).frozen? ⟨w.heap.size, 1, none⟩ = false := (H.blk 0 rfl).frozen 1
  have tk2 : (wc3).cell? ⟨w.heap.size, 2, none⟩ = some (.int .i64 (am : Int)) := (H.blk 0 rfl).cell 2
  have tkf2 : (wc3).frozen? ⟨w.heap.size, 2, none⟩ = false := (H.blk 0 rfl).frozen 2
  have tk3 : (wc3).cell? ⟨w.heap.size, 3, none⟩ = some (.int .i64 (tag : Int)) := (H.blk 0 rfl).cell 3
  have tkf3 : (wc3).frozen? ⟨w.heap.size, 3, none⟩ = false := (H.blk 0 rfl).frozen 3
  have tklt : w.heap.size < (wc3).heap.size := H.lt 0 rfl
  have rs0 : (wc3).cell? ⟨w.heap.size + 1, 0, none⟩ = some (.int .u32 0) := (H.blk 1 rfl).cell 0
  have rsf0 : (wc3).frozen? ⟨w.heap.size + 1, 0, none⟩ = false := (H.blk 1 rfl).frozen 0
  have rs1 : (wc3).cell? ⟨w.heap.size + 1, 1, none⟩ = some (.int .u32 0) := (H.blk 1 rfl).cell 1
  have rsf1 : (wc3).frozen? ⟨w.heap.size + 1, 1, none⟩ = false := (H.blk 1 rfl).frozen 1
  have rs2 : (wc3).cell? ⟨w.heap.size + 1, 2, none⟩ = some (.int .u32 0) := (H.blk 1 rfl).cell 2
  have rsf2 : (wc3).frozen? ⟨w.heap.size + 1, 2, none⟩ = false := (H.blk 1 rfl).frozen 2
  have rslt : w.heap.size + 1 < (wc3).heap.size := H.lt 1 rfl
  have wd0 : (wc3).cell? ⟨wa.heap.size, 0, none⟩ = some (.int .u32 (p20 : Int)) := (H.blk 2 rfl).cell 0
  have wdf0 : (wc3).frozen? ⟨wa.heap.size, 0, none⟩ = false := (H.blk 2 rfl).frozen 0
  have wd1 : (wc3).cell? ⟨wa.heap.size, 1, none⟩ = some (.int .u32 (p21 : Int)) := (H.blk 2 rfl).cell 1
  have wdf1 : (wc3).frozen? ⟨wa.heap.size, 1, none⟩ = false := (H.blk 2 rfl).frozen 1
  have wd2 : (wc3).cell? ⟨wa.heap.size, 2, none⟩ = some (.int .u32 (p22 : Int)) := (H.blk 2 rfl).cell 2
  have wdf2 : (wc3).frozen? ⟨wa.heap.size, 2, none⟩ = false := (H.blk 2 rfl).frozen 2
  have wdlt : wa.heap.size < (wc3).heap.size := H.lt 2 rfl
  have f30 : (wc3).cell? ⟨wy2.heap.size, 0, none⟩ = some (.int .i64 2) := (H.blk 6 rfl).cell 0
  have f3f0 : (wc3).frozen? ⟨wy2.heap.size, 0, none⟩ = false := (H.blk 6 rfl).frozen 0
  have f31 : (wc3).cell? ⟨wy2.heap.size, 1, none⟩ = some (.int .i64 (cls : Int)) := (H.blk 6 rfl).cell 1
  have f3f1 : (wc3).frozen? ⟨wy2.heap.size, 1, none⟩ = false := (H.blk 6 rfl).frozen 1
  have f3lt : wy2.heap.size < (wc3).heap.size := H.lt 6 rfl
  have ne_tk_rs : w.heap.size ≠ w.heap.size + 1 := H.ne 0 1 rfl rfl (by decide)
  have ne_tk_wd : w.heap.size ≠ wa.heap.size := H.ne 0 2 rfl rfl (by decide)
  have ne_tk_f3 : w.heap.size ≠ wy2.heap.size := H.ne 0 6 rfl rfl (by decide)
  have ne_rs_tk : w.heap.size + 1 ≠ w.heap.size := H.ne 1 0 rfl rfl (by decide)
  have ne_rs_wd : w.heap.size + 1 ≠ wa.heap.size := H.ne 1 2 rfl rfl (by decide)
  have ne_rs_f3 : w.heap.size + 1 ≠ wy2.heap.size := H.ne 1 6 rfl rfl (by decide)
  have ne_wd_tk : wa.heap.size ≠ w.heap.size := H.ne 2 0 rfl rfl (by decide)
  have ne_wd_rs : wa.heap.size ≠ w.heap.size + 1 := H.ne 2 1 rfl rfl (by decide)
  have ne_wd_f3 : wa.heap.size ≠ wy2.heap.size := H.ne 2 6 rfl rfl (by decide)
  have ne_f3_tk : wy2.heap.size ≠ w.heap.size := H.ne 6 0 rfl rfl (by decide)
  have ne_f3_rs : wy2.heap.size ≠ w.heap.size + 1 := H.ne 6 1 rfl rfl (by decide)
  have ne_f3_wd : wy2.heap.size ≠ wa.heap.size := H.ne 6 2 rfl rfl (by decide)
  have V3 := Lib.hid (tw_4 hv3 V2.out K.out.2.2.2 K.out.2.2.1 K.out.2.1)
  clear hb hv3 hP i3
  go_wp2
  obtain ⟨wy3, hwy3⟩ : ∃ wy3, (((wc3).setCell ⟨wa.heap.size, 0, none⟩ (.int .u32 (p30 : Int))).setCell ⟨wa.heap.size, 1, none⟩ (.int .u32 (p31 : Int))).setCell ⟨wa.heap.size, 2, none⟩ (.int .u32 (p32 : Int)) = wy3 := ⟨_, rfl⟩
  replace H : Mem (w) [] _ [.blk (w.heap.size) 48 #[.int .i64 (cls : Int), .int .i64 (id : Int), .int .i64 (am : Int), .int .i64 (tag : Int)], .blk (w.heap.size + 1) 78 #[.int .u32 0, .int .u32 0, .int .u32 0], .blk (wa.heap.size) 78 #[.int .u32 (p30 : Int), .int .u32 (p21 : Int), .int .u32 (p22 : Int)], .blk (wb.heap.size) 118 #[.int .i64 16, .int .i64 (tag : Int)], .blk (wy0.heap.size) 118 #[.int .i64 21, .int .i64 (am : Int)], .blk (wy1.heap.size) 118 #[.int .i64 20, .int .i64 (id : Int)], .blk (wy2.heap.size) 118 #[.int .i64 2, .int .i64 (cls : Int)]] := Mem.set 2 H rfl 0 (.int .u32 (p30 : Int))
  replace H : Mem (w) [] _ [.blk (w.heap.size) 48 #[.int .i64 (cls : Int), .int .i64 (id : Int), .int .i64 (am : Int), .int .i64 (tag : Int)], .blk (w.heap.size + 1) 78 #[.int .u32 0, .int .u32 0, .int .u32 0], .blk (wa.heap.size) 78 #[.int .u32 (p30 : Int), .int .u32 (p31 : Int), .int .u32 (p22 : Int)], .blk (wb.heap.size) 118 #[.int .i64 16, .int .i64 (tag : Int)], .blk (wy0.heap.size) 118 #[.int .i64 21, .int .i64 (am : Int)], .blk (wy1.heap.size) 118 #[.int .i64 20, .int .i64 (id : Int)], .blk (wy2.heap.size) 118 #[.int .i64 2, .int .i64 (cls : Int)]] := Mem.set 2 H rfl 1 (.int .u32 (p31 : Int))
  replace H : Mem (w) [] _ [.blk (w.heap.size) 48 #[.int .i64 (cls : Int), .int .i64 (id : Int), .int .i64 (am : Int), .int .i64 (tag : Int)], .blk (w.heap.size + 1) 78 #[.int .u32 0, .int .u32 0, .int .u32 0], .blk (wa.heap.size) 78 #[.int .u32 (p30 : Int), .int .u32 (p31 : Int), .int .u32 (p32 : Int)], .blk (wb.heap.size) 118 #[.int .i64 16, .int .i64 (tag : Int)], .blk (wy0.heap.size) 118 #[.int .i64 21, .int .i64 (am : Int)], .blk (wy1.heap.size) 118 #[.int .i64 20, .int .i64 (id : Int)], .blk (wy2.heap.size) 118 #[.int .i64 2, .int .i64 (cls : Int)]] := Mem.set 2 H rfl 2 (.int .u32 (p32 : Int))
  rw [hwy3] at H ⊢
  clear hwy3
  clear tk0 tkf0 tk1 tkf1 tk2 tkf2 tk3 tkf3 tklt rs0 rsf0 rs1 rsf1 rs2 rsf2 rslt wd0 wdf0 wd1 wdf1 wd2 wdf2 wdlt f30 f3f0 f31 f3f1 f3lt ne_tk_rs ne_tk_wd ne_tk_f3 ne_rs_tk ne_rs_wd ne_rs_f3 ne_wd_tk ne_wd_rs ne_wd_f3 ne_f3_tk ne_f3_rs ne_f3_wd
  have tk0 : (wy3).cell? ⟨w.heap.size, 0, none⟩ = some (.int .i64 (cls : Int)) := (H.blk 0 rfl).cell 0
  have tkf0 : (wy3).frozen? ⟨w.heap.size, 0, none⟩ = false := (H.blk 0 rfl).frozen 0
  have tk1 : (wy3).cell? ⟨w.heap.size, 1, none⟩ = some (.int .i64 (id : Int)) := (H.blk 0 rfl).cell 1
  have tkf1 : (wy3).frozen? ⟨w.heap.size, 1, none⟩ = false := (H.blk 0 rfl).frozen 1
  have tk2 : (wy3).cell? ⟨w.heap.size, 2, none⟩ = some (.int .i64 (am : Int)) := (H.blk 0 rfl).cell 2
  have tkf2 : (wy3).frozen? ⟨w.heap.size, 2, none⟩ = false := (H.blk 0 rfl).frozen 2
  have tk3 : (wy3).cell? ⟨w.heap.size, 3, none⟩ = some (.int .i64 (tag : Int)) := (H.blk 0 rfl).cell 3
  have tkf3 : (wy3).frozen? ⟨w.heap.size, 3, none⟩ = false := (H.blk 0 rfl).frozen 3
  have tklt : w.heap.size < (wy3).heap.size := H.lt 0 rfl
  have rs0 : (wy3).cell? ⟨w.heap.size + 1, 0, none⟩ = some (.int .u32 0) := (H.blk 1 rfl).cell 0
  have rsf0 : (wy3).frozen? ⟨w.heap.size + 1, 0, none⟩ = false := (H.blk 1 rfl).frozen 0
  have rs1 : (wy3).cell? ⟨w.heap.size + 1, 1, none⟩ = some (.int .u32 0) := (H.blk 1 rfl).cell 1
  have rsf1 : (wy3).frozen? ⟨w.heap.size + 1, 1, none⟩ = false := (H.blk 1 rfl).frozen 1
  have rs2 : (wy3).cell? ⟨w.heap.size + 1, 2, none⟩ = some (.int .u32 0) := (H.blk 1 rfl).cell 2
  have rsf2 : (wy3).frozen? ⟨w.heap.size + 1, 2, none⟩ = false := (H.blk 1 rfl).frozen 2
  have rslt : w.heap.size + 1 < (wy3).heap.size := H.lt 1 rfl
  have wd0 : (wy3).cell? ⟨wa.heap.size, 0, none⟩ = some (.int .u32 (p30 : Int)) := (H.blk 2 rfl).cell 0
  have wdf0 : (wy3).frozen? ⟨wa.heap.size, 0, none⟩ = false := (H.blk 2 rfl).frozen 0
  have wd1 : (wy3).cell? ⟨wa.heap.size, 1, none⟩ = some (.int .u32 (p31 : Int)) := (H.blk 2 rfl).cell 1
  have wdf1 : (wy3).frozen? ⟨wa.heap.size, 1, none⟩ = false := (H.blk 2 rfl).frozen 1
  have wd2 : (wy3).cell? ⟨wa.heap.size, 2, none⟩ = some (.int .u32 (p32 : Int)) := (H.blk 2 rfl).cell 2
  have wdf2 : (wy3).frozen? ⟨wa.heap.size, 2, none⟩ = false := (H.blk 2 rfl).frozen 2
  have wdlt : wa.heap.size < (wy3).heap.size := H.lt 2 rfl
  have ne_tk_rs : w.heap.size ≠ w.heap.size + 1 := H.ne 0 1 rfl rfl (by decide)
  have ne_tk_wd : w.heap.size ≠ wa.heap.size := H.ne 0 2 rfl rfl (by decide)
  have ne_rs_tk : w.heap.size + 1 ≠ w.heap.size := H.ne 1 0 rfl rfl (by decide)
  have ne_rs_wd : w.heap.size + 1 ≠ wa.heap.size := H.ne 1 2 rfl rfl (by decide)
  have ne_wd_tk : wa.heap.size ≠ w.heap.size := H.ne 2 0 rfl rfl (by decide)
  have ne_wd_rs : wa.heap.size ≠ w.heap.size + 1 := H.ne 2 1 rfl rfl (by decide)
  have hTi := fun W => times_is p30 p31 p32 97 W l30 l31 l32 (by omega)
  rw [V3.out] at hTi
  rw [rounds_succ]
  go_wp2_with fail
  refine (hTi _).mono ?_
  rintro e wz ⟨y0, y1, y2, c, m0, m1, m2, m3, hy, rfl, hbz⟩
  replace H : Mem (w) [] (wz) [.blk (w.heap.size) 48 #[.int .i64 (cls : Int), .int .i64 (id : Int), .int .i64 (am : Int), .int .i64 (tag : Int)], .blk (w.heap.size + 1) 78 #[.int .u32 0, .int .u32 0, .int .u32 0], .blk (wa.heap.size) 78 #[.int .u32 (p30 : Int), .int .u32 (p31 : Int), .int .u32 (p32 : Int)], .blk (wb.heap.size) 118 #[.int .i64 16, .int .i64 (tag : Int)], .blk (wy0.heap.size) 118 #[.int .i64 21, .int .i64 (am : Int)], .blk (wy1.heap.size) 118 #[.int .i64 20, .int .i64 (id : Int)], .blk (wy2.heap.size) 118 #[.int .i64 2, .int .i64 (cls : Int)]] := Mem.call H hbz
  clear tk0 tkf0 tk1 tkf1 tk2 tkf2 tk3 tkf3 tklt rs0 rsf0 rs1 rsf1 rs2 rsf2 rslt wd0 wdf0 wd1 wdf1 wd2 wdf2 wdlt ne_tk_rs ne_tk_wd ne_rs_tk ne_rs_wd ne_wd_tk ne_wd_rs
  have rs0 : (wz).cell? ⟨w.heap.size + 1, 0, none⟩ = some (.int .u32 0) := (H.blk 1 rfl).cell 0
  have rsf0 : (wz).frozen? ⟨w.heap.size + 1, 0, none⟩ = false := (H.blk 1 rfl).frozen 0
  have rs1 : (wz).cell? ⟨w.heap.size + 1, 1, none⟩ = some (.int .u32 0) := (H.blk 1 rfl).cell 1
  have rsf1 : (wz).frozen? ⟨w.heap.size + 1, 1, none⟩ = false := (H.blk 1 rfl).frozen 1
  have rs2 : (wz).cell? ⟨w.heap.size + 1, 2, none⟩ = some (.int .u32 0) := (H.blk 1 rfl).cell 2
  have rsf2 : (wz).frozen? ⟨w.heap.size + 1, 2, none⟩ = false := (H.blk 1 rfl).frozen 2
  have rslt : w.heap.size + 1 < (wz).heap.size := H.lt 1 rfl
  have wd0 : (wz).cell? ⟨wa.heap.size, 0, none⟩ = some (.int .u32 (p30 : Int)) := (H.blk 2 rfl).cell 0
  have wdf0 : (wz).frozen? ⟨wa.heap.size, 0, none⟩ = false := (H.blk 2 rfl).frozen 0
  have wd1 : (wz).cell? ⟨wa.heap.size, 1, none⟩ = some (.int .u32 (p31 : Int)) := (H.blk 2 rfl).cell 1
  have wdf1 : (wz).frozen? ⟨wa.heap.size, 1, none⟩ = false := (H.blk 2 rfl).frozen 1
  have wd2 : (wz).cell? ⟨wa.heap.size, 2, none⟩ = some (.int .u32 (p32 : Int)) := (H.blk 2 rfl).cell 2
  have wdf2 : (wz).frozen? ⟨wa.heap.size, 2, none⟩ = false := (H.blk 2 rfl).frozen 2
  have wdlt : wa.heap.size < (wz).heap.size := H.lt 2 rfl
  have ne_rs_wd : w.heap.size + 1 ≠ wa.heap.size := H.ne 1 2 rfl rfl (by decide)
  have ne_wd_rs : wa.heap.size ≠ w.heap.size + 1 := H.ne 2 1 rfl rfl (by decide)
  clear hbz hTi
  go_wp2
  obtain ⟨we, hwe⟩ : ∃ we, ((((((wz).setCell ⟨wa.heap.size, 0, none⟩ (.int .u32 (y0 : Int))).setCell ⟨wa.heap.size, 1, none⟩ (.int .u32 (y1 : Int))).setCell ⟨wa.heap.size, 2, none⟩ (.int .u32 (y2 : Int))).setCell ⟨w.heap.size + 1, 0, none⟩ (.int .u32 (y0 : Int))).setCell ⟨w.heap.size + 1, 1, none⟩ (.int .u32 (y1 : Int))).setCell ⟨w.heap.size + 1, 2, none⟩ (.int .u32 (y2 : Int)) = we := ⟨_, rfl⟩
  replace H : Mem (w) [] _ [.blk (w.heap.size) 48 #[.int .i64 (cls : Int), .int .i64 (id : Int), .int .i64 (am : Int), .int .i64 (tag : Int)], .blk (w.heap.size + 1) 78 #[.int .u32 0, .int .u32 0, .int .u32 0], .blk (wa.heap.size) 78 #[.int .u32 (y0 : Int), .int .u32 (p31 : Int), .int .u32 (p32 : Int)], .blk (wb.heap.size) 118 #[.int .i64 16, .int .i64 (tag : Int)], .blk (wy0.heap.size) 118 #[.int .i64 21, .int .i64 (am : Int)], .blk (wy1.heap.size) 118 #[.int .i64 20, .int .i64 (id : Int)], .blk (wy2.heap.size) 118 #[.int .i64 2, .int .i64 (cls : Int)]] := Mem.set 2 H rfl 0 (.int .u32 (y0 : Int))
  replace H : Mem (w) [] _ [.blk (w.heap.size) 48 #[.int .i64 (cls : Int), .int .i64 (id : Int), .int .i64 (am : Int), .int .i64 (tag : Int)], .blk (w.heap.size + 1) 78 #[.int .u32 0, .int .u32 0, .int .u32 0], .blk (wa.heap.size) 78 #[.int .u32 (y0 : Int), .int .u32 (y1 : Int), .int .u32 (p32 : Int)], .blk (wb.heap.size) 118 #[.int .i64 16, .int .i64 (tag : Int)], .blk (wy0.heap.size) 118 #[.int .i64 21, .int .i64 (am : Int)], .blk (wy1.heap.size) 118 #[.int .i64 20, .int .i64 (id : Int)], .blk (wy2.heap.size) 118 #[.int .i64 2, .int .i64 (cls : Int)]] := Mem.set 2 H rfl 1 (.int .u32 (y1 : Int))
  replace H : Mem (w) [] _ [.blk (w.heap.size) 48 #[.int .i64 (cls : Int), .int .i64 (id : Int), .int .i64 (am : Int), .int .i64 (tag : Int)], .blk (w.heap.size + 1) 78 #[.int .u32 0, .int .u32 0, .int .u32 0], .blk (wa.heap.size) 78 #[.int .u32 (y0 : Int), .int .u32 (y1 : Int), .int .u32 (y2 : Int)], .blk (wb.heap.size) 118 #[.int .i64 16, .int .i64 (tag : Int)], .blk (wy0.heap.size) 118 #[.int .i64 21, .int .i64 (am : Int)], .blk (wy1.heap.size) 118 #[.int .i64 20, .int .i64 (id : Int)], .blk (wy2.heap.size) 118 #[.int .i64 2, .int .i64 (cls : Int)]] := Mem.set 2 H rfl 2 (.int .u32 (y2 : Int))
  replace H : Mem (w) [] _ [.blk (w.heap.size) 48 #[.int .i64 (cls : Int), .int .i64 (id : Int), .int .i64 (am : Int), .int .i64 (tag : Int)], .blk (w.heap.size + 1) 78 #[.int .u32 (y0 : Int), .int .u32 0, .int .u32 0], .blk (wa.heap.size) 78 #[.int .u32 (y0 : Int), .int .u32 (y1 : Int), .int .u32 (y2 : Int)], .blk (wb.heap.size) 118 #[.int .i64 16, .int .i64 (tag : Int)], .blk (wy0.heap.size) 118 #[.int .i64 21, .int .i64 (am : Int)], .blk (wy1.heap.size) 118 #[.int .i64 20, .int .i64 (id : Int)], .blk (wy2.heap.size) 118 #[.int .i64 2, .int .i64 (cls : Int)]] := Mem.set 1 H rfl 0 (.int .u32 (y0 : Int))
  replace H : Mem (w) [] _ [.blk (w.heap.size) 48 #[.int .i64 (cls : Int), .int .i64 (id : Int), .int .i64 (am : Int), .int .i64 (tag : Int)], .blk (w.heap.size + 1) 78 #[.int .u32 (y0 : Int), .int .u32 (y1 : Int), .int .u32 0], .blk (wa.heap.size) 78 #[.int .u32 (y0 : Int), .int .u32 (y1 : Int), .int .u32 (y2 : Int)], .blk (wb.heap.size) 118 #[.int .i64 16, .int .i64 (tag : Int)], .blk (wy0.heap.size) 118 #[.int .i64 21, .int .i64 (am : Int)], .blk (wy1.heap.size) 118 #[.int .i64 20, .int .i64 (id : Int)], .blk (wy2.heap.size) 118 #[.int .i64 2, .int .i64 (cls : Int)]] := Mem.set 1 H rfl 1 (.int .u32 (y1 : Int))
  replace H : Mem (w) [] _ [.blk (w.heap.size) 48 #[.int .i64 (cls : Int), .int .i64 (id : Int), .int .i64 (am : Int), .int .i64 (tag : Int)], .blk (w.heap.size + 1) 78 #[.int .u32 (y0 : Int), .int .u32 (y1 : Int), .int .u32 (y2 : Int)], .blk (wa.heap.size) 78 #[.int .u32 (y0 : Int), .int .u32 (y1 : Int), .int .u32 (y2 : Int)], .blk (wb.heap.size) 118 #[.int .i64 16, .int .i64 (tag : Int)], .blk (wy0.heap.size) 118 #[.int .i64 21, .int .i64 (am : Int)], .blk (wy1.heap.size) 118 #[.int .i64 20, .int .i64 (id : Int)], .blk (wy2.heap.size) 118 #[.int .i64 2, .int .i64 (cls : Int)]] := Mem.set 1 H rfl 2 (.int .u32 (y2 : Int))
  rw [hwe] at H ⊢
  clear hwe
  clear rs0 rsf0 rs1 rsf1 rs2 rsf2 rslt wd0 wdf0 wd1 wdf1 wd2 wdf2 wdlt ne_rs_wd ne_wd_rs
  have rs0 : (we).cell? ⟨w.heap.size + 1, 0, none⟩ = some (.int .u32 (y0 : Int)) := (H.blk 1 rfl).cell 0
  have rsf0 : (we).frozen? ⟨w.heap.size + 1, 0, none⟩ = false := (H.blk 1 rfl).frozen 0
  have rs1 : (we).cell? ⟨w.heap.size + 1, 1, none⟩ = some (.int .u32 (y1 : Int)) := (H.blk 1 rfl).cell 1
  have rsf1 : (we).frozen? ⟨w.heap.size + 1, 1, none⟩ = false := (H.blk 1 rfl).frozen 1
  have rs2 : (we).cell? ⟨w.heap.size + 1, 2, none⟩ = some (.int .u32 (y2 : Int)) := (H.blk 1 rfl).cell 2
  have rsf2 : (we).frozen? ⟨w.heap.size + 1, 2, none⟩ = false := (H.blk 1 rfl).frozen 2
  have rslt : w.heap.size + 1 < (we).heap.size := H.lt 1 rfl
  refine bodyPost_ret (v := .tuple #[.agg #[.int .u32 (y0 : Int), .int .u32 (y1 : Int), .int .u32 (y2 : Int)], .int .i64 0]) (by simp [results, Tryd.results30, go_sem, rs0, rs1, rs2]; done) rfl ?_
  exact ⟨y0, y1, y2, rfl, m0, m1, m2, tw_c hy.out HT.out, H.below⟩
end Go.Proofs.YtopnlkhepjbjkaaDoor

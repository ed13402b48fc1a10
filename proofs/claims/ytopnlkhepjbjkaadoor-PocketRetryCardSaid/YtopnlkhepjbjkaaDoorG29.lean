/- meter: Key, where a state may not be or a token is wrong; what 'Key' does, as a law. -/
import Derived.Test.YtopnlkhepjbjkaaDoorG21
import Derived.Test.YtopnlkhepjbjkaaDoorG2
namespace Go.Proofs.YtopnlkhepjbjkaaDoor
open Go.RowKit Go.Maps Go.ChangeShapes Go.WideShapes
set_option linter.unusedVariables false
set_option maxRecDepth 100000 in
set_option maxHeartbeats 2000000 in
theorem key_state1 (v : Value) (l : List Pr) (me rev cr h : Int) (b : Nat) (bad lock cls id am tag : Int) (w : World) (hv : IsPs w v l) (w4 : (Lit.int .i64 h).wf = true) (hb : b < 2 ^ 64) (w5 : (Lit.int .i64 bad).wf = true) (w6 : (Lit.int .i64 lock).wf = true) (hm : mmay me rev cr h b bad lock = false) :
    Calls Tryd.prog 15 #[.agg #[.int .i64 me, .int .i64 rev, .int .i64 cr, .int .i64 h, .int .u64 (b : Int), .int .i64 bad, .int .i64 lock], .agg #[v], .agg #[.int .i64 cls, .int .i64 id, .int .i64 am, .int .i64 tag]] w fun e w' => e = .returned (.tuple #[.agg #[.int .i64 0, .int .i64 0, .int .i64 0, .int .i64 0, .int .u64 0, .int .i64 0, .int .i64 0], .int .i64 0, .int .i64 5]) ∧ Below w.heap.size w w' := by
  obtain ⟨A, c, rfl, _, _, _, _⟩ := hv
  have hM := fun W => mmay_is (Lib.hid hm) W w4 hb w5 w6
  have HM := Mem.init w
  obtain ⟨W0, hW0⟩ : ∃ W0, ((((w).alloc (.cells #[.int .i64 me, .int .i64 rev, .int .i64 cr, .int .i64 h, .int .u64 (b : Int), .int .i64 bad, .int .i64 lock] 39)).alloc (.cells #[.slice A l.length c] 33)).alloc (.cells #[.int .i64 cls, .int .i64 id, .int .i64 am, .int .i64 tag] 48)).alloc (.cells #[.int .i64 0, .int .i64 0, .int .i64 0, .int .i64 0, .int .u64 0, .int .i64 0, .int .i64 0] 39) = W0 := ⟨_, rfl⟩
  replace HM : Mem (w) [] _ [.blk (w.heap.size) 39 #[.int .i64 me, .int .i64 rev, .int .i64 cr, .int .i64 h, .int .u64 (b : Int), .int .i64 bad, .int .i64 lock]] := Mem.alloc HM (w.heap.size) (by first | (simp; done) | (simp; omega)) #[.int .i64 me, .int .i64 rev, .int .i64 cr, .int .i64 h, .int .u64 (b : Int), .int .i64 bad, .int .i64 lock] 39
  replace HM : Mem (w) [] _ [.blk (w.heap.size) 39 #[.int .i64 me, .int .i64 rev, .int .i64 cr, .int .i64 h, .int .u64 (b : Int), .int .i64 bad, .int .i64 lock], .blk (w.heap.size + 1) 33 #[.slice A l.length c]] := Mem.alloc HM (w.heap.size + 1) (by first | (simp; done) | (simp; omega)) #[.slice A l.length c] 33
  replace HM : Mem (w) [] _ [.blk (w.heap.size) 39 #[.int .i64 me, .int .i64 rev, .int .i64 cr, .int .i64 h, .int .u64 (b : Int), .int .i64 bad, .int .i64 lock], .blk (w.heap.size + 1) 33 #[.slice A l.length c], .blk (w.heap.size + 1 + 1) 48 #[.int .i64 cls, .int .i64 id, .int .i64 am, .int .i64 tag]] := Mem.alloc HM (w.heap.size + 1 + 1) (by first | (simp; done) | (simp; omega)) #[.int .i64 cls, .int .i64 id, .int .i64 am, .int .i64 tag] 48
  replace HM : Mem (w) [] _ [.blk (w.heap.size) 39 #[.int .i64 me, .int .i64 rev, .int .i64 cr, .int .i64 h, .int .u64 (b : Int), .int .i64 bad, .int .i64 lock], .blk (w.heap.size + 1) 33 #[.slice A l.length c], .blk (w.heap.size + 1 + 1) 48 #[.int .i64 cls, .int .i64 id, .int .i64 am, .int .i64 tag], .blk (w.heap.size + 1 + 1 + 1) 39 #[.int .i64 0, .int .i64 0, .int .i64 0, .int .i64 0, .int .u64 0, .int .i64 0, .int .i64 0]] := Mem.alloc HM (w.heap.size + 1 + 1 + 1) (by first | (simp; done) | (simp; omega)) #[.int .i64 0, .int .i64 0, .int .i64 0, .int .i64 0, .int .u64 0, .int .i64 0, .int .i64 0] 39
  rw [hW0] at HM
  have mt0 : (W0).cell? ⟨w.heap.size, 0, none⟩ = some (.int .i64 me) := (HM.blk 0 rfl).cell 0
  have mtf0 : (W0).frozen? ⟨w.heap.size, 0, none⟩ = false := (HM.blk 0 rfl).frozen 0
  have mt1 : (W0).cell? ⟨w.heap.size, 1, none⟩ = some (.int .i64 rev) := (HM.blk 0 rfl).cell 1
  have mtf1 : (W0).frozen? ⟨w.heap.size, 1, none⟩ = false := (HM.blk 0 rfl).frozen 1
  have mt2 : (W0).cell? ⟨w.heap.size, 2, none⟩ = some (.int .i64 cr) := (HM.blk 0 rfl).cell 2
  have mtf2 : (W0).frozen? ⟨w.heap.size, 2, none⟩ = false := (HM.blk 0 rfl).frozen 2
  have mt3 : (W0).cell? ⟨w.heap.size, 3, none⟩ = some (.int .i64 h) := (HM.blk 0 rfl).cell 3
  have mtf3 : (W0).frozen? ⟨w.heap.size, 3, none⟩ = false := (HM.blk 0 rfl).frozen 3
  have mt4 : (W0).cell? ⟨w.heap.size, 4, none⟩ = some (.int .u64 (b : Int)) := (HM.blk 0 rfl).cell 4
  have mtf4 : (W0).frozen? ⟨w.heap.size, 4, none⟩ = false := (HM.blk 0 rfl).frozen 4
  have mt5 : (W0).cell? ⟨w.heap.size, 5, none⟩ = some (.int .i64 bad) := (HM.blk 0 rfl).cell 5
  have mtf5 : (W0).frozen? ⟨w.heap.size, 5, none⟩ = false := (HM.blk 0 rfl).frozen 5
  have mt6 : (W0).cell? ⟨w.heap.size, 6, none⟩ = some (.int .i64 lock) := (HM.blk 0 rfl).cell 6
  have mtf6 : (W0).frozen? ⟨w.heap.size, 6, none⟩ = false := (HM.blk 0 rfl).frozen 6
  have mtlt : w.heap.size < (W0).heap.size := HM.lt 0 rfl
  have oc0 : (W0).cell? ⟨w.heap.size + 1, 0, none⟩ = some (.slice A l.length c) := (HM.blk 1 rfl).cell 0
  have ocf0 : (W0).frozen? ⟨w.heap.size + 1, 0, none⟩ = false := (HM.blk 1 rfl).frozen 0
  have oclt : w.heap.size + 1 < (W0).heap.size := HM.lt 1 rfl
  have tk0 : (W0).cell? ⟨w.heap.size + 1 + 1, 0, none⟩ = some (.int .i64 cls) := (HM.blk 2 rfl).cell 0
  have tkf0 : (W0).frozen? ⟨w.heap.size + 1 + 1, 0, none⟩ = false := (HM.blk 2 rfl).frozen 0
  have tk1 : (W0).cell? ⟨w.heap.size + 1 + 1, 1, none⟩ = some (.int .i64 id) := (HM.blk 2 rfl).cell 1
  have tkf1 : (W0).frozen? ⟨w.heap.size + 1 + 1, 1, none⟩ = false := (HM.blk 2 rfl).frozen 1
  have tk2 : (W0).cell? ⟨w.heap.size + 1 + 1, 2, none⟩ = some (.int .i64 am) := (HM.blk 2 rfl).cell 2
  have tkf2 : (W0).frozen? ⟨w.heap.size + 1 + 1, 2, none⟩ = false := (HM.blk 2 rfl).frozen 2
  have tk3 : (W0).cell? ⟨w.heap.size + 1 + 1, 3, none⟩ = some (.int .i64 tag) := (HM.blk 2 rfl).cell 3
  have tkf3 : (W0).frozen? ⟨w.heap.size + 1 + 1, 3, none⟩ = false := (HM.blk 2 rfl).frozen 3
  have tklt : w.heap.size + 1 + 1 < (W0).heap.size := HM.lt 2 rfl
  have ne_mt_oc : w.heap.size ≠ w.heap.size + 1 := HM.ne 0 1 rfl rfl (by decide)
  have ne_mt_tk : w.heap.size ≠ w.heap.size + 1 + 1 := HM.ne 0 2 rfl rfl (by decide)
  have ne_oc_mt : w.heap.size + 1 ≠ w.heap.size := HM.ne 1 0 rfl rfl (by decide)
  have ne_oc_tk : w.heap.size + 1 ≠ w.heap.size + 1 + 1 := HM.ne 1 2 rfl rfl (by decide)
  have ne_tk_mt : w.heap.size + 1 + 1 ≠ w.heap.size := HM.ne 2 0 rfl rfl (by decide)
  have ne_tk_oc : w.heap.size + 1 + 1 ≠ w.heap.size + 1 := HM.ne 2 1 rfl rfl (by decide)
  go_enter Tryd.func15, Tryd.ntmps15
  go_wp2_with fail
  refine (hM _).mono ?_
  rintro e wa ⟨rfl, hba⟩
  replace HM : Mem (w) [] (wa) [.blk (w.heap.size) 39 #[.int .i64 me, .int .i64 rev, .int .i64 cr, .int .i64 h, .int .u64 (b : Int), .int .i64 bad, .int .i64 lock], .blk (w.heap.size + 1) 33 #[.slice A l.length c], .blk (w.heap.size + 1 + 1) 48 #[.int .i64 cls, .int .i64 id, .int .i64 am, .int .i64 tag], .blk (w.heap.size + 1 + 1 + 1) 39 #[.int .i64 0, .int .i64 0, .int .i64 0, .int .i64 0, .int .u64 0, .int .i64 0, .int .i64 0]] := Mem.call HM hba
  clear mt0 mtf0 mt1 mtf1 mt2 mtf2 mt3 mtf3 mt4 mtf4 mt5 mtf5 mt6 mtf6 mtlt oc0 ocf0 oclt tk0 tkf0 tk1 tkf1 tk2 tkf2 tk3 tkf3 tklt ne_mt_oc ne_mt_tk ne_oc_mt ne_oc_tk ne_tk_mt ne_tk_oc
  have rs0 : (wa).cell? ⟨w.heap.size + 1 + 1 + 1, 0, none⟩ = some (.int .i64 0) := (HM.blk 3 rfl).cell 0
  have rsf0 : (wa).frozen? ⟨w.heap.size + 1 + 1 + 1, 0, none⟩ = false := (HM.blk 3 rfl).frozen 0
  have rs1 : (wa).cell? ⟨w.heap.size + 1 + 1 + 1, 1, none⟩ = some (.int .i64 0) := (HM.blk 3 rfl).cell 1
  have rsf1 : (wa).frozen? ⟨w.heap.size + 1 + 1 + 1, 1, none⟩ = false := (HM.blk 3 rfl).frozen 1
  have rs2 : (wa).cell? ⟨w.heap.size + 1 + 1 + 1, 2, none⟩ = some (.int .i64 0) := (HM.blk 3 rfl).cell 2
  have rsf2 : (wa).frozen? ⟨w.heap.size + 1 + 1 + 1, 2, none⟩ = false := (HM.blk 3 rfl).frozen 2
  have rs3 : (wa).cell? ⟨w.heap.size + 1 + 1 + 1, 3, none⟩ = some (.int .i64 0) := (HM.blk 3 rfl).cell 3
  have rsf3 : (wa).frozen? ⟨w.heap.size + 1 + 1 + 1, 3, none⟩ = false := (HM.blk 3 rfl).frozen 3
  have rs4 : (wa).cell? ⟨w.heap.size + 1 + 1 + 1, 4, none⟩ = some (.int .u64 0) := (HM.blk 3 rfl).cell 4
  have rsf4 : (wa).frozen? ⟨w.heap.size + 1 + 1 + 1, 4, none⟩ = false := (HM.blk 3 rfl).frozen 4
  have rs5 : (wa).cell? ⟨w.heap.size + 1 + 1 + 1, 5, none⟩ = some (.int .i64 0) := (HM.blk 3 rfl).cell 5
  have rsf5 : (wa).frozen? ⟨w.heap.size + 1 + 1 + 1, 5, none⟩ = false := (HM.blk 3 rfl).frozen 5
  have rs6 : (wa).cell? ⟨w.heap.size + 1 + 1 + 1, 6, none⟩ = some (.int .i64 0) := (HM.blk 3 rfl).cell 6
  have rsf6 : (wa).frozen? ⟨w.heap.size + 1 + 1 + 1, 6, none⟩ = false := (HM.blk 3 rfl).frozen 6
  have rslt : w.heap.size + 1 + 1 + 1 < (wa).heap.size := HM.lt 3 rfl
  clear hba hM hW0
  go_wp2
  obtain ⟨Wz, hWz⟩ : ∃ Wz, (((((((wa).setCell ⟨w.heap.size + 1 + 1 + 1, 0, none⟩ (.int .i64 0)).setCell ⟨w.heap.size + 1 + 1 + 1, 1, none⟩ (.int .i64 0)).setCell ⟨w.heap.size + 1 + 1 + 1, 2, none⟩ (.int .i64 0)).setCell ⟨w.heap.size + 1 + 1 + 1, 3, none⟩ (.int .i64 0)).setCell ⟨w.heap.size + 1 + 1 + 1, 4, none⟩ (.int .u64 0)).setCell ⟨w.heap.size + 1 + 1 + 1, 5, none⟩ (.int .i64 0)).setCell ⟨w.heap.size + 1 + 1 + 1, 6, none⟩ (.int .i64 0) = Wz := ⟨_, rfl⟩
  replace HM : Mem (w) [] _ [.blk (w.heap.size) 39 #[.int .i64 me, .int .i64 rev, .int .i64 cr, .int .i64 h, .int .u64 (b : Int), .int .i64 bad, .int .i64 lock], .blk (w.heap.size + 1) 33 #[.slice A l.length c], .blk (w.heap.size + 1 + 1) 48 #[.int .i64 cls, .int .i64 id, .int .i64 am, .int .i64 tag], .blk (w.heap.size + 1 + 1 + 1) 39 #[.int .i64 0, .int .i64 0, .int .i64 0, .int .i64 0, .int .u64 0, .int .i64 0, .int .i64 0]] := Mem.set 3 HM rfl 0 (.int .i64 0)
  replace HM : Mem (w) [] _ [.blk (w.heap.size) 39 #[.int .i64 me, .int .i64 rev, .int .i64 cr, .int .i64 h, .int .u64 (b : Int), .int .i64 bad, .int .i64 lock], .blk (w.heap.size + 1) 33 #[.slice A l.length c], .blk (w.heap.size + 1 + 1) 48 #[.int .i64 cls, .int .i64 id, .int .i64 am, .int .i64 tag], .blk (w.heap.size + 1 + 1 + 1) 39 #[.int .i64 0, .int .i64 0, .int .i64 0, .int .i64 0, .int .u64 0, .int .i64 0, .int .i64 0]] := Mem.set 3 HM rfl 1 (.int .i64 0)
  replace HM : Mem (w) [] _ [.blk (w.heap.size) 39 #[.int .i64 me, .int .i64 rev, .int .i64 cr, .int .i64 h, .int .u64 (b : Int), .int .i64 bad, .int .i64 lock], .blk (w.heap.size + 1) 33 #[.slice A l.length c], .blk (w.heap.size + 1 + 1) 48 #[.int .i64 cls, .int .i64 id, .int .i64 am, .int .i64 tag], .blk (w.heap.size + 1 + 1 + 1) 39 #[.int .i64 0, .int .i64 0, .int .i64 0, .int .i64 0, .int .u64 0, .int .i64 0, .int .i64 0]] := Mem.set 3 HM rfl 2 (.int .i64 0)
  replace HM : Mem (w) [] _ [.blk (w.heap.size) 39 #[.int .i64 me, .int .i64 rev, .int .i64 cr, .int .i64 h, .int .u64 (b : Int), .int .i64 bad, .int .i64 lock], .blk (w.heap.size + 1) 33 #[.slice A l.length c], .blk (w.heap.size + 1 + 1) 48 #[.int .i64 cls, .int .i64 id, .int .i64 am, .int .i64 tag], .blk (w.heap.size + 1 + 1 + 1) 39 #[.int .i64 0, .int .i64 0, .int .i64 0, .int .i64 0, .int .u64 0, .int .i64 0, .int .i64 0]] := Mem.set 3 HM rfl 3 (.int .i64 0)
  replace HM : Mem (w) [] _ [.blk (w.heap.size) 39 #[.int .i64 me, .int .i64 rev, .int .i64 cr, .int .i64 h, .int .u64 (b : Int), .int .i64 bad, .int .i64 lock], .blk (w.heap.size + 1) 33 #[.slice A l.length c], .blk (w.heap.size + 1 + 1) 48 #[.int .i64 cls, .int .i64 id, .int .i64 am, .int .i64 tag], .blk (w.heap.size + 1 + 1 + 1) 39 #[.int .i64 0, .int .i64 0, .int .i64 0, .int .i64 0, .int .u64 0, .int .i64 0, .int .i64 0]] := Mem.set 3 HM rfl 4 (.int .u64 0)
  replace HM : Mem (w) [] _ [.blk (w.heap.size) 39 #[.int .i64 me, .int .i64 rev, .int .i64 cr, .int .i64 h, .int .u64 (b : Int), .int .i64 bad, .int .i64 lock], .blk (w.heap.size + 1) 33 #[.slice A l.length c], .blk (w.heap.size + 1 + 1) 48 #[.int .i64 cls, .int .i64 id, .int .i64 am, .int .i64 tag], .blk (w.heap.size + 1 + 1 + 1) 39 #[.int .i64 0, .int .i64 0, .int .i64 0, .int .i64 0, .int .u64 0, .int .i64 0, .int .i64 0]] := Mem.set 3 HM rfl 5 (.int .i64 0)
  replace HM : Mem (w) [] _ [.blk (w.heap.size) 39 #[.int .i64 me, .int .i64 rev, .int .i64 cr, .int .i64 h, .int .u64 (b : Int), .int .i64 bad, .int .i64 lock], .blk (w.heap.size + 1) 33 #[.slice A l.length c], .blk (w.heap.size + 1 + 1) 48 #[.int .i64 cls, .int .i64 id, .int .i64 am, .int .i64 tag], .blk (w.heap.size + 1 + 1 + 1) 39 #[.int .i64 0, .int .i64 0, .int .i64 0, .int .i64 0, .int .u64 0, .int .i64 0, .int .i64 0]] := Mem.set 3 HM rfl 6 (.int .i64 0)
  rw [hWz] at HM ⊢
  clear hWz
  clear rs0 rsf0 rs1 rsf1 rs2 rsf2 rs3 rsf3 rs4 rsf4 rs5 rsf5 rs6 rsf6 rslt
  have rs0 : (Wz).cell? ⟨w.heap.size + 1 + 1 + 1, 0, none⟩ = some (.int .i64 0) := (HM.blk 3 rfl).cell 0
  have rsf0 : (Wz).frozen? ⟨w.heap.size + 1 + 1 + 1, 0, none⟩ = false := (HM.blk 3 rfl).frozen 0
  have rs1 : (Wz).cell? ⟨w.heap.size + 1 + 1 + 1, 1, none⟩ = some (.int .i64 0) := (HM.blk 3 rfl).cell 1
  have rsf1 : (Wz).frozen? ⟨w.heap.size + 1 + 1 + 1, 1, none⟩ = false := (HM.blk 3 rfl).frozen 1
  have rs2 : (Wz).cell? ⟨w.heap.size + 1 + 1 + 1, 2, none⟩ = some (.int .i64 0) := (HM.blk 3 rfl).cell 2
  have rsf2 : (Wz).frozen? ⟨w.heap.size + 1 + 1 + 1, 2, none⟩ = false := (HM.blk 3 rfl).frozen 2
  have rs3 : (Wz).cell? ⟨w.heap.size + 1 + 1 + 1, 3, none⟩ = some (.int .i64 0) := (HM.blk 3 rfl).cell 3
  have rsf3 : (Wz).frozen? ⟨w.heap.size + 1 + 1 + 1, 3, none⟩ = false := (HM.blk 3 rfl).frozen 3
  have rs4 : (Wz).cell? ⟨w.heap.size + 1 + 1 + 1, 4, none⟩ = some (.int .u64 0) := (HM.blk 3 rfl).cell 4
  have rsf4 : (Wz).frozen? ⟨w.heap.size + 1 + 1 + 1, 4, none⟩ = false := (HM.blk 3 rfl).frozen 4
  have rs5 : (Wz).cell? ⟨w.heap.size + 1 + 1 + 1, 5, none⟩ = some (.int .i64 0) := (HM.blk 3 rfl).cell 5
  have rsf5 : (Wz).frozen? ⟨w.heap.size + 1 + 1 + 1, 5, none⟩ = false := (HM.blk 3 rfl).frozen 5
  have rs6 : (Wz).cell? ⟨w.heap.size + 1 + 1 + 1, 6, none⟩ = some (.int .i64 0) := (HM.blk 3 rfl).cell 6
  have rsf6 : (Wz).frozen? ⟨w.heap.size + 1 + 1 + 1, 6, none⟩ = false := (HM.blk 3 rfl).frozen 6
  have rslt : w.heap.size + 1 + 1 + 1 < (Wz).heap.size := HM.lt 3 rfl
  refine bodyPost_ret (v := .tuple #[.agg #[.int .i64 0, .int .i64 0, .int .i64 0, .int .i64 0, .int .u64 0, .int .i64 0, .int .i64 0], .int .i64 0, .int .i64 5]) (by simp [results, Tryd.results15, go_sem, rs0, rs1, rs2, rs3, rs4, rs5, rs6]; done) rfl ?_
  exact ⟨rfl, HM.below⟩
set_option maxRecDepth 100000 in
set_option maxHeartbeats 2000000 in
theorem key_state2 (v : Value) (l : List Pr) (me rev cr h : Int) (b : Nat) (bad lock cls id am tag : Int) (w : World) (hv : IsPs w v l) (w4 : (Lit.int .i64 h).wf = true) (hb : b < 2 ^ 64) (w5 : (Lit.int .i64 bad).wf = true) (w6 : (Lit.int .i64 lock).wf = true) (hm : mmay me rev cr h b bad lock = true) (ho : ¬ OOk l) :
    Calls Tryd.prog 15 #[.agg #[.int .i64 me, .int .i64 rev, .int .i64 cr, .int .i64 h, .int .u64 (b : Int), .int .i64 bad, .int .i64 lock], .agg #[v], .agg #[.int .i64 cls, .int .i64 id, .int .i64 am, .int .i64 tag]] w fun e w' => e = .returned (.tuple #[.agg #[.int .i64 0, .int .i64 0, .int .i64 0, .int .i64 0, .int .u64 0, .int .i64 0, .int .i64 0], .int .i64 0, .int .i64 5]) ∧ Below w.heap.size w w' := by
  have hv0 := hv
  obtain ⟨A, c, rfl, _, _, _, _⟩ := hv
  have hM := fun W => mmay_is (Lib.hid hm) W w4 hb w5 w6
  have hO := fun W h => omay_any (.slice A l.length c) l W h
  have HM := Mem.init w
  obtain ⟨W0, hW0⟩ : ∃ W0, ((((w).alloc (.cells #[.int .i64 me, .int .i64 rev, .int .i64 cr, .int .i64 h, .int .u64 (b : Int), .int .i64 bad, .int .i64 lock] 39)).alloc (.cells #[.slice A l.length c] 33)).alloc (.cells #[.int .i64 cls, .int .i64 id, .int .i64 am, .int .i64 tag] 48)).alloc (.cells #[.int .i64 0, .int .i64 0, .int .i64 0, .int .i64 0, .int .u64 0, .int .i64 0, .int .i64 0] 39) = W0 := ⟨_, rfl⟩
  replace HM : Mem (w) [] _ [.blk (w.heap.size) 39 #[.int .i64 me, .int .i64 rev, .int .i64 cr, .int .i64 h, .int .u64 (b : Int), .int .i64 bad, .int .i64 lock]] := Mem.alloc HM (w.heap.size) (by first | (simp; done) | (simp; omega)) #[.int .i64 me, .int .i64 rev, .int .i64 cr, .int .i64 h, .int .u64 (b : Int), .int .i64 bad, .int .i64 lock] 39
  replace HM : Mem (w) [] _ [.blk (w.heap.size) 39 #[.int .i64 me, .int .i64 rev, .int .i64 cr, .int .i64 h, .int .u64 (b : Int), .int .i64 bad, .int .i64 lock], .blk (w.heap.size + 1) 33 #[.slice A l.length c]] := Mem.alloc HM (w.heap.size + 1) (by first | (simp; done) | (simp; omega)) #[.slice A l.length c] 33
  replace HM : Mem (w) [] _ [.blk (w.heap.size) 39 #[.int .i64 me, .int .i64 rev, .int .i64 cr, .int .i64 h, .int .u64 (b : Int), .int .i64 bad, .int .i64 lock], .blk (w.heap.size + 1) 33 #[.slice A l.length c], .blk (w.heap.size + 1 + 1) 48 #[.int .i64 cls, .int .i64 id, .int .i64 am, .int .i64 tag]] := Mem.alloc HM (w.heap.size + 1 + 1) (by first | (simp; done) | (simp; omega)) #[.int .i64 cls, .int .i64 id, .int .i64 am, .int .i64 tag] 48
  replace HM : Mem (w) [] _ [.blk (w.heap.size) 39 #[.int .i64 me, .int .i64 rev, .int .i64 cr, .int .i64 h, .int .u64 (b : Int), .int .i64 bad, .int .i64 lock], .blk (w.heap.size + 1) 33 #[.slice A l.length c], .blk (w.heap.size + 1 + 1) 48 #[.int .i64 cls, .int .i64 id, .int .i64 am, .int .i64 tag], .blk (w.heap.size + 1 + 1 + 1) 39 #[.int .i64 0, .int .i64 0, .int .i64 0, .int .i64 0, .int .u64 0, .int .i64 0, .int .i64 0]] := Mem.alloc HM (w.heap.size + 1 + 1 + 1) (by first | (simp; done) | (simp; omega)) #[.int .i64 0, .int .i64 0, .int .i64 0, .int .i64 0, .int .u64 0, .int .i64 0, .int .i64 0] 39
  rw [hW0] at HM
  have mt0 : (W0).cell? ⟨w.heap.size, 0, none⟩ = some (.int .i64 me) := (HM.blk 0 rfl).cell 0
  have mtf0 : (W0).frozen? ⟨w.heap.size, 0, none⟩ = false := (HM.blk 0 rfl).frozen 0
  have mt1 : (W0).cell? ⟨w.heap.size, 1, none⟩ = some (.int .i64 rev) := (HM.blk 0 rfl).cell 1
  have mtf1 : (W0).frozen? ⟨w.heap.size, 1, none⟩ = false := (HM.blk 0 rfl).frozen 1
  have mt2 : (W0).cell? ⟨w.heap.size, 2, none⟩ = some (.int .i64 cr) := (HM.blk 0 rfl).cell 2
  have mtf2 : (W0).frozen? ⟨w.heap.size, 2, none⟩ = false := (HM.blk 0 rfl).frozen 2
  have mt3 : (W0).cell? ⟨w.heap.size, 3, none⟩ = some (.int .i64 h) := (HM.blk 0 rfl).cell 3
  have mtf3 : (W0).frozen? ⟨w.heap.size, 3, none⟩ = false := (HM.blk 0 rfl).frozen 3
  have mt4 : (W0).cell? ⟨w.heap.size, 4, none⟩ = some (.int .u64 (b : Int)) := (HM.blk 0 rfl).cell 4
  have mtf4 : (W0).frozen? ⟨w.heap.size, 4, none⟩ = false := (HM.blk 0 rfl).frozen 4
  have mt5 : (W0).cell? ⟨w.heap.size, 5, none⟩ = some (.int .i64 bad) := (HM.blk 0 rfl).cell 5
  have mtf5 : (W0).frozen? ⟨w.heap.size, 5, none⟩ = false := (HM.blk 0 rfl).frozen 5
  have mt6 : (W0).cell? ⟨w.heap.size, 6, none⟩ = some (.int .i64 lock) := (HM.blk 0 rfl).cell 6
  have mtf6 : (W0).frozen? ⟨w.heap.size, 6, none⟩ = false := (HM.blk 0 rfl).frozen 6
  have mtlt : w.heap.size < (W0).heap.size := HM.lt 0 rfl
  have oc0 : (W0).cell? ⟨w.heap.size + 1, 0, none⟩ = some (.slice A l.length c) := (HM.blk 1 rfl).cell 0
  have ocf0 : (W0).frozen? ⟨w.heap.size + 1, 0, none⟩ = false := (HM.blk 1 rfl).frozen 0
  have oclt : w.heap.size + 1 < (W0).heap.size := HM.lt 1 rfl
  have tk0 : (W0).cell? ⟨w.heap.size + 1 + 1, 0, none⟩ = some (.int .i64 cls) := (HM.blk 2 rfl).cell 0
  have tkf0 : (W0).frozen? ⟨w.heap.size + 1 + 1, 0, none⟩ = false := (HM.blk 2 rfl).frozen 0
  have tk1 : (W0).cell? ⟨w.heap.size + 1 + 1, 1, none⟩ = some (.int .i64 id) := (HM.blk 2 rfl).cell 1
  have tkf1 : (W0).frozen? ⟨w.heap.size + 1 + 1, 1, none⟩ = false := (HM.blk 2 rfl).frozen 1
  have tk2 : (W0).cell? ⟨w.heap.size + 1 + 1, 2, none⟩ = some (.int .i64 am) := (HM.blk 2 rfl).cell 2
  have tkf2 : (W0).frozen? ⟨w.heap.size + 1 + 1, 2, none⟩ = false := (HM.blk 2 rfl).frozen 2
  have tk3 : (W0).cell? ⟨w.heap.size + 1 + 1, 3, none⟩ = some (.int .i64 tag) := (HM.blk 2 rfl).cell 3
  have tkf3 : (W0).frozen? ⟨w.heap.size + 1 + 1, 3, none⟩ = false := (HM.blk 2 rfl).frozen 3
  have tklt : w.heap.size + 1 + 1 < (W0).heap.size := HM.lt 2 rfl
  have ne_mt_oc : w.heap.size ≠ w.heap.size + 1 := HM.ne 0 1 rfl rfl (by decide)
  have ne_mt_tk : w.heap.size ≠ w.heap.size + 1 + 1 := HM.ne 0 2 rfl rfl (by decide)
  have ne_oc_mt : w.heap.size + 1 ≠ w.heap.size := HM.ne 1 0 rfl rfl (by decide)
  have ne_oc_tk : w.heap.size + 1 ≠ w.heap.size + 1 + 1 := HM.ne 1 2 rfl rfl (by decide)
  have ne_tk_mt : w.heap.size + 1 + 1 ≠ w.heap.size := HM.ne 2 0 rfl rfl (by decide)
  have ne_tk_oc : w.heap.size + 1 + 1 ≠ w.heap.size + 1 := HM.ne 2 1 rfl rfl (by decide)
  go_enter Tryd.func15, Tryd.ntmps15
  go_wp2_with fail
  refine (hM _).mono ?_
  rintro e wa ⟨rfl, hba⟩
  replace HM : Mem (w) [] (wa) [.blk (w.heap.size) 39 #[.int .i64 me, .int .i64 rev, .int .i64 cr, .int .i64 h, .int .u64 (b : Int), .int .i64 bad, .int .i64 lock], .blk (w.heap.size + 1) 33 #[.slice A l.length c], .blk (w.heap.size + 1 + 1) 48 #[.int .i64 cls, .int .i64 id, .int .i64 am, .int .i64 tag], .blk (w.heap.size + 1 + 1 + 1) 39 #[.int .i64 0, .int .i64 0, .int .i64 0, .int .i64 0, .int .u64 0, .int .i64 0, .int .i64 0]] := Mem.call HM hba
  clear mt0 mtf0 mt1 mtf1 mt2 mtf2 mt3 mtf3 mt4 mtf4 mt5 mtf5 mt6 mtf6 mtlt oc0 ocf0 oclt tk0 tkf0 tk1 tkf1 tk2 tkf2 tk3 tkf3 tklt ne_mt_oc ne_mt_tk ne_oc_mt ne_oc_tk ne_tk_mt ne_tk_oc
  have mt0 : (wa).cell? ⟨w.heap.size, 0, none⟩ = some (.int .i64 me) := (HM.blk 0 rfl).cell 0
  have mtf0 : (wa).frozen? ⟨w.heap.size, 0, none⟩ = false := (HM.blk 0 rfl).frozen 0
  have mt1 : (wa).cell? ⟨w.heap.size, 1, none⟩ = some (.int .i64 rev) := (HM.blk 0 rfl).cell 1
  have mtf1 : (wa).frozen? ⟨w.heap.size, 1, none⟩ = false := (HM.blk 0 rfl).frozen 1
  have mt2 : (wa).cell? ⟨w.heap.size, 2, none⟩ = some (.int .i64 cr) := (HM.blk 0 rfl).cell 2
  have mtf2 : (wa).frozen? ⟨w.heap.size, 2, none⟩ = false := (HM.blk 0 rfl).frozen 2
  have mt3 : (wa).cell? ⟨w.heap.size, 3, none⟩ = some (.int .i64 h) := (HM.blk 0 rfl).cell 3
  have mtf3 : (wa).frozen? ⟨w.heap.size, 3, none⟩ = false := (HM.blk 0 rfl).frozen 3
  have mt4 : (wa).cell? ⟨w.heap.size, 4, none⟩ = some (.int .u64 (b : Int)) := (HM.blk 0 rfl).cell 4
  have mtf4 : (wa).frozen? ⟨w.heap.size, 4, none⟩ = false := (HM.blk 0 rfl).frozen 4
  have mt5 : (wa).cell? ⟨w.heap.size, 5, none⟩ = some (.int .i64 bad) := (HM.blk 0 rfl).cell 5
  have mtf5 : (wa).frozen? ⟨w.heap.size, 5, none⟩ = false := (HM.blk 0 rfl).frozen 5
  have mt6 : (wa).cell? ⟨w.heap.size, 6, none⟩ = some (.int .i64 lock) := (HM.blk 0 rfl).cell 6
  have mtf6 : (wa).frozen? ⟨w.heap.size, 6, none⟩ = false := (HM.blk 0 rfl).frozen 6
  have mtlt : w.heap.size < (wa).heap.size := HM.lt 0 rfl
  have oc0 : (wa).cell? ⟨w.heap.size + 1, 0, none⟩ = some (.slice A l.length c) := (HM.blk 1 rfl).cell 0
  have ocf0 : (wa).frozen? ⟨w.heap.size + 1, 0, none⟩ = false := (HM.blk 1 rfl).frozen 0
  have oclt : w.heap.size + 1 < (wa).heap.size := HM.lt 1 rfl
  have tk0 : (wa).cell? ⟨w.heap.size + 1 + 1, 0, none⟩ = some (.int .i64 cls) := (HM.blk 2 rfl).cell 0
  have tkf0 : (wa).frozen? ⟨w.heap.size + 1 + 1, 0, none⟩ = false := (HM.blk 2 rfl).frozen 0
  have tk1 : (wa).cell? ⟨w.heap.size + 1 + 1, 1, none⟩ = some (.int .i64 id) := (HM.blk 2 rfl).cell 1
  have tkf1 : (wa).frozen? ⟨w.heap.size + 1 + 1, 1, none⟩ = false := (HM.blk 2 rfl).frozen 1
  have tk2 : (wa).cell? ⟨w.heap.size + 1 + 1, 2, none⟩ = some (.int .i64 am) := (HM.blk 2 rfl).cell 2
  have tkf2 : (wa).frozen? ⟨w.heap.size + 1 + 1, 2, none⟩ = false := (HM.blk 2 rfl).frozen 2
  have tk3 : (wa).cell? ⟨w.heap.size + 1 + 1, 3, none⟩ = some (.int .i64 tag) := (HM.blk 2 rfl).cell 3
  have tkf3 : (wa).frozen? ⟨w.heap.size + 1 + 1, 3, none⟩ = false := (HM.blk 2 rfl).frozen 3
  have tklt : w.heap.size + 1 + 1 < (wa).heap.size := HM.lt 2 rfl
  have ne_mt_oc : w.heap.size ≠ w.heap.size + 1 := HM.ne 0 1 rfl rfl (by decide)
  have ne_mt_tk : w.heap.size ≠ w.heap.size + 1 + 1 := HM.ne 0 2 rfl rfl (by decide)
  have ne_oc_mt : w.heap.size + 1 ≠ w.heap.size := HM.ne 1 0 rfl rfl (by decide)
  have ne_oc_tk : w.heap.size + 1 ≠ w.heap.size + 1 + 1 := HM.ne 1 2 rfl rfl (by decide)
  have ne_tk_mt : w.heap.size + 1 + 1 ≠ w.heap.size := HM.ne 2 0 rfl rfl (by decide)
  have ne_tk_oc : w.heap.size + 1 + 1 ≠ w.heap.size + 1 := HM.ne 2 1 rfl rfl (by decide)
  clear hba hM hW0
  have hva := hv0.below HM.below
  go_wp2_with fail
  refine (hO _ hva).mono ?_
  rintro e wb ⟨bb, rfl, hbt, _, hbb⟩
  obtain rfl : bb = false := by
    cases bb with
    | false => rfl
    | true => exact absurd (hbt rfl) ho
  replace HM : Mem (w) [] (wb) [.blk (w.heap.size) 39 #[.int .i64 me, .int .i64 rev, .int .i64 cr, .int .i64 h, .int .u64 (b : Int), .int .i64 bad, .int .i64 lock], .blk (w.heap.size + 1) 33 #[.slice A l.length c], .blk (w.heap.size + 1 + 1) 48 #[.int .i64 cls, .int .i64 id, .int .i64 am, .int .i64 tag], .blk (w.heap.size + 1 + 1 + 1) 39 #[.int .i64 0, .int .i64 0, .int .i64 0, .int .i64 0, .int .u64 0, .int .i64 0, .int .i64 0]] := Mem.call HM hbb
  clear mt0 mtf0 mt1 mtf1 mt2 mtf2 mt3 mtf3 mt4 mtf4 mt5 mtf5 mt6 mtf6 mtlt oc0 ocf0 oclt tk0 tkf0 tk1 tkf1 tk2 tkf2 tk3 tkf3 tklt ne_mt_oc ne_mt_tk ne_oc_mt ne_oc_tk ne_tk_mt ne_tk_oc
  have rs0 : (wb).cell? ⟨w.heap.size + 1 + 1 + 1, 0, none⟩ = some (.int .i64 0) := (HM.blk 3 rfl).cell 0
  have rsf0 : (wb).frozen? ⟨w.heap.size + 1 + 1 + 1, 0, none⟩ = false := (HM.blk 3 rfl).frozen 0
  have rs1 : (wb).cell? ⟨w.heap.size + 1 + 1 + 1, 1, none⟩ = some (.int .i64 0) := (HM.blk 3 rfl).cell 1
  have rsf1 : (wb).frozen? ⟨w.heap.size + 1 + 1 + 1, 1, none⟩ = false := (HM.blk 3 rfl).frozen 1
  have rs2 : (wb).cell? ⟨w.heap.size + 1 + 1 + 1, 2, none⟩ = some (.int .i64 0) := (HM.blk 3 rfl).cell 2
  have rsf2 : (wb).frozen? ⟨w.heap.size + 1 + 1 + 1, 2, none⟩ = false := (HM.blk 3 rfl).frozen 2
  have rs3 : (wb).cell? ⟨w.heap.size + 1 + 1 + 1, 3, none⟩ = some (.int .i64 0) := (HM.blk 3 rfl).cell 3
  have rsf3 : (wb).frozen? ⟨w.heap.size + 1 + 1 + 1, 3, none⟩ = false := (HM.blk 3 rfl).frozen 3
  have rs4 : (wb).cell? ⟨w.heap.size + 1 + 1 + 1, 4, none⟩ = some (.int .u64 0) := (HM.blk 3 rfl).cell 4
  have rsf4 : (wb).frozen? ⟨w.heap.size + 1 + 1 + 1, 4, none⟩ = false := (HM.blk 3 rfl).frozen 4
  have rs5 : (wb).cell? ⟨w.heap.size + 1 + 1 + 1, 5, none⟩ = some (.int .i64 0) := (HM.blk 3 rfl).cell 5
  have rsf5 : (wb).frozen? ⟨w.heap.size + 1 + 1 + 1, 5, none⟩ = false := (HM.blk 3 rfl).frozen 5
  have rs6 : (wb).cell? ⟨w.heap.size + 1 + 1 + 1, 6, none⟩ = some (.int .i64 0) := (HM.blk 3 rfl).cell 6
  have rsf6 : (wb).frozen? ⟨w.heap.size + 1 + 1 + 1, 6, none⟩ = false := (HM.blk 3 rfl).frozen 6
  have rslt : w.heap.size + 1 + 1 + 1 < (wb).heap.size := HM.lt 3 rfl
  clear hbb hO hbt ho hva hv0
  go_wp2
  obtain ⟨Wz, hWz⟩ : ∃ Wz, (((((((wb).setCell ⟨w.heap.size + 1 + 1 + 1, 0, none⟩ (.int .i64 0)).setCell ⟨w.heap.size + 1 + 1 + 1, 1, none⟩ (.int .i64 0)).setCell ⟨w.heap.size + 1 + 1 + 1, 2, none⟩ (.int .i64 0)).setCell ⟨w.heap.size + 1 + 1 + 1, 3, none⟩ (.int .i64 0)).setCell ⟨w.heap.size + 1 + 1 + 1, 4, none⟩ (.int .u64 0)).setCell ⟨w.heap.size + 1 + 1 + 1, 5, none⟩ (.int .i64 0)).setCell ⟨w.heap.size + 1 + 1 + 1, 6, none⟩ (.int .i64 0) = Wz := ⟨_, rfl⟩
  replace HM : Mem (w) [] _ [.blk (w.heap.size) 39 #[.int .i64 me, .int .i64 rev, .int .i64 cr, .int .i64 h, .int .u64 (b : Int), .int .i64 bad, .int .i64 lock], .blk (w.heap.size + 1) 33 #[.slice A l.length c], .blk (w.heap.size + 1 + 1) 48 #[.int .i64 cls, .int .i64 id, .int .i64 am, .int .i64 tag], .blk (w.heap.size + 1 + 1 + 1) 39 #[.int .i64 0, .int .i64 0, .int .i64 0, .int .i64 0, .int .u64 0, .int .i64 0, .int .i64 0]] := Mem.set 3 HM rfl 0 (.int .i64 0)
  replace HM : Mem (w) [] _ [.blk (w.heap.size) 39 #[.int .i64 me, .int .i64 rev, .int .i64 cr, .int .i64 h, .int .u64 (b : Int), .int .i64 bad, .int .i64 lock], .blk (w.heap.size + 1) 33 #[.slice A l.length c], .blk (w.heap.size + 1 + 1) 48 #[.int .i64 cls, .int .i64 id, .int .i64 am, .int .i64 tag], .blk (w.heap.size + 1 + 1 + 1) 39 #[.int .i64 0, .int .i64 0, .int .i64 0, .int .i64 0, .int .u64 0, .int .i64 0, .int .i64 0]] := Mem.set 3 HM rfl 1 (.int .i64 0)
  replace HM : Mem (w) [] _ [.blk (w.heap.size) 39 #[.int .i64 me, .int .i64 rev, .int .i64 cr, .int .i64 h, .int .u64 (b : Int), .int .i64 bad, .int .i64 lock], .blk (w.heap.size + 1) 33 #[.slice A l.length c], .blk (w.heap.size + 1 + 1) 48 #[.int .i64 cls, .int .i64 id, .int .i64 am, .int .i64 tag], .blk (w.heap.size + 1 + 1 + 1) 39 #[.int .i64 0, .int .i64 0, .int .i64 0, .int .i64 0, .int .u64 0, .int .i64 0, .int .i64 0]] := Mem.set 3 HM rfl 2 (.int .i64 0)
  replace HM : Mem (w) [] _ [.blk (w.heap.size) 39 #[.int .i64 me, .int .i64 rev, .int .i64 cr, .int .i64 h, .int .u64 (b : Int), .int .i64 bad, .int .i64 lock], .blk (w.heap.size + 1) 33 #[.slice A l.length c], .blk (w.heap.size + 1 + 1) 48 #[.int .i64 cls, .int .i64 id, .int .i64 am, .int .i64 tag], .blk (w.heap.size + 1 + 1 + 1) 39 #[.int .i64 0, .int .i64 0, .int .i64 0, .int .i64 0, .int .u64 0, .int .i64 0, .int .i64 0]] := Mem.set 3 HM rfl 3 (.int .i64 0)
  replace HM : Mem (w) [] _ [.blk (w.heap.size) 39 #[.int .i64 me, .int .i64 rev, .int .i64 cr, .int .i64 h, .int .u64 (b : Int), .int .i64 bad, .int .i64 lock], .blk (w.heap.size + 1) 33 #[.slice A l.length c], .blk (w.heap.size + 1 + 1) 48 #[.int .i64 cls, .int .i64 id, .int .i64 am, .int .i64 tag], .blk (w.heap.size + 1 + 1 + 1) 39 #[.int .i64 0, .int .i64 0, .int .i64 0, .int .i64 0, .int .u64 0, .int .i64 0, .int .i64 0]] := Mem.set 3 HM rfl 4 (.int .u64 0)
  replace HM : Mem (w) [] _ [.blk (w.heap.size) 39 #[.int .i64 me, .int .i64 rev, .int .i64 cr, .int .i64 h, .int .u64 (b : Int), .int .i64 bad, .int .i64 lock], .blk (w.heap.size + 1) 33 #[.slice A l.length c], .blk (w.heap.size + 1 + 1) 48 #[.int .i64 cls, .int .i64 id, .int .i64 am, .int .i64 tag], .blk (w.heap.size + 1 + 1 + 1) 39 #[.int .i64 0, .int .i64 0, .int .i64 0, .int .i64 0, .int .u64 0, .int .i64 0, .int .i64 0]] := Mem.set 3 HM rfl 5 (.int .i64 0)
  replace HM : Mem (w) [] _ [.blk (w.heap.size) 39 #[.int .i64 me, .int .i64 rev, .int .i64 cr, .int .i64 h, .int .u64 (b : Int), .int .i64 bad, .int .i64 lock], .blk (w.heap.size + 1) 33 #[.slice A l.length c], .blk (w.heap.size + 1 + 1) 48 #[.int .i64 cls, .int .i64 id, .int .i64 am, .int .i64 tag], .blk (w.heap.size + 1 + 1 + 1) 39 #[.int .i64 0, .int .i64 0, .int .i64 0, .int .i64 0, .int .u64 0, .int .i64 0, .int .i64 0]] := Mem.set 3 HM rfl 6 (.int .i64 0)
  rw [hWz] at HM ⊢
  clear hWz
  clear rs0 rsf0 rs1 rsf1 rs2 rsf2 rs3 rsf3 rs4 rsf4 rs5 rsf5 rs6 rsf6 rslt
  have rs0 : (Wz).cell? ⟨w.heap.size + 1 + 1 + 1, 0, none⟩ = some (.int .i64 0) := (HM.blk 3 rfl).cell 0
  have rsf0 : (Wz).frozen? ⟨w.heap.size + 1 + 1 + 1, 0, none⟩ = false := (HM.blk 3 rfl).frozen 0
  have rs1 : (Wz).cell? ⟨w.heap.size + 1 + 1 + 1, 1, none⟩ = some (.int .i64 0) := (HM.blk 3 rfl).cell 1
  have rsf1 : (Wz).frozen? ⟨w.heap.size + 1 + 1 + 1, 1, none⟩ = false := (HM.blk 3 rfl).frozen 1
  have rs2 : (Wz).cell? ⟨w.heap.size + 1 + 1 + 1, 2, none⟩ = some (.int .i64 0) := (HM.blk 3 rfl).cell 2
  have rsf2 : (Wz).frozen? ⟨w.heap.size + 1 + 1 + 1, 2, none⟩ = false := (HM.blk 3 rfl).frozen 2
  have rs3 : (Wz).cell? ⟨w.heap.size + 1 + 1 + 1, 3, none⟩ = some (.int .i64 0) := (HM.blk 3 rfl).cell 3
  have rsf3 : (Wz).frozen? ⟨w.heap.size + 1 + 1 + 1, 3, none⟩ = false := (HM.blk 3 rfl).frozen 3
  have rs4 : (Wz).cell? ⟨w.heap.size + 1 + 1 + 1, 4, none⟩ = some (.int .u64 0) := (HM.blk 3 rfl).cell 4
  have rsf4 : (Wz).frozen? ⟨w.heap.size + 1 + 1 + 1, 4, none⟩ = false := (HM.blk 3 rfl).frozen 4
  have rs5 : (Wz).cell? ⟨w.heap.size + 1 + 1 + 1, 5, none⟩ = some (.int .i64 0) := (HM.blk 3 rfl).cell 5
  have rsf5 : (Wz).frozen? ⟨w.heap.size + 1 + 1 + 1, 5, none⟩ = false := (HM.blk 3 rfl).frozen 5
  have rs6 : (Wz).cell? ⟨w.heap.size + 1 + 1 + 1, 6, none⟩ = some (.int .i64 0) := (HM.blk 3 rfl).cell 6
  have rsf6 : (Wz).frozen? ⟨w.heap.size + 1 + 1 + 1, 6, none⟩ = false := (HM.blk 3 rfl).frozen 6
  have rslt : w.heap.size + 1 + 1 + 1 < (Wz).heap.size := HM.lt 3 rfl
  refine bodyPost_ret (v := .tuple #[.agg #[.int .i64 0, .int .i64 0, .int .i64 0, .int .i64 0, .int .u64 0, .int .i64 0, .int .i64 0], .int .i64 0, .int .i64 5]) (by simp [results, Tryd.results15, go_sem, rs0, rs1, rs2, rs3, rs4, rs5, rs6]; done) rfl ?_
  exact ⟨rfl, HM.below⟩
set_option maxRecDepth 100000 in
set_option maxHeartbeats 2000000 in
theorem key_fault (v : Value) (l : List Pr) (me rev cr h : Int) (b : Nat) (bad lock cls id am tag f : Int) (w : World) (hv : IsPs w v l) (w4 : (Lit.int .i64 h).wf = true) (hb : b < 2 ^ 64) (w5 : (Lit.int .i64 bad).wf = true) (w6 : (Lit.int .i64 lock).wf = true) (hm : mmay me rev cr h b bad lock = true) (ho : OOk l) (hf : Hid (tfault cls id am tag = f)) (h0 : f ≠ 0) :
    Calls Tryd.prog 15 #[.agg #[.int .i64 me, .int .i64 rev, .int .i64 cr, .int .i64 h, .int .u64 (b : Int), .int .i64 bad, .int .i64 lock], .agg #[v], .agg #[.int .i64 cls, .int .i64 id, .int .i64 am, .int .i64 tag]] w fun e w' => e = .returned (.tuple #[.agg #[.int .i64 me, .int .i64 rev, .int .i64 cr, .int .i64 h, .int .u64 (b : Int), .int .i64 bad, .int .i64 lock], .int .i64 0, .int .i64 f]) ∧ Below w.heap.size w w' := by
  have hv0 := hv
  obtain ⟨A, c, rfl, _, _, _, _⟩ := hv
  have hM := fun W => mmay_is (Lib.hid hm) W w4 hb w5 w6
  have hO := fun W h => omay_ok (.slice A l.length c) l W h ho
  have hB := fun W => tbody_no cls id am tag f W hf h0
  have g0 : (f == 0) = false := by simp [h0]
  have HM := Mem.init w
  obtain ⟨W0, hW0⟩ : ∃ W0, ((((w).alloc (.cells #[.int .i64 me, .int .i64 rev, .int .i64 cr, .int .i64 h, .int .u64 (b : Int), .int .i64 bad, .int .i64 lock] 39)).alloc (.cells #[.slice A l.length c] 33)).alloc (.cells #[.int .i64 cls, .int .i64 id, .int .i64 am, .int .i64 tag] 48)).alloc (.cells #[.int .i64 0, .int .i64 0, .int .i64 0, .int .i64 0, .int .u64 0, .int .i64 0, .int .i64 0] 39) = W0 := ⟨_, rfl⟩
  replace HM : Mem (w) [] _ [.blk (w.heap.size) 39 #[.int .i64 me, .int .i64 rev, .int .i64 cr, .int .i64 h, .int .u64 (b : Int), .int .i64 bad, .int .i64 lock]] := Mem.alloc HM (w.heap.size) (by first | (simp; done) | (simp; omega)) #[.int .i64 me, .int .i64 rev, .int .i64 cr, .int .i64 h, .int .u64 (b : Int), .int .i64 bad, .int .i64 lock] 39
  replace HM : Mem (w) [] _ [.blk (w.heap.size) 39 #[.int .i64 me, .int .i64 rev, .int .i64 cr, .int .i64 h, .int .u64 (b : Int), .int .i64 bad, .int .i64 lock], .blk (w.heap.size + 1) 33 #[.slice A l.length c]] := Mem.alloc HM (w.heap.size + 1) (by first | (simp; done) | (simp; omega)) #[.slice A l.length c] 33
  replace HM : Mem (w) [] _ [.blk (w.heap.size) 39 #[.int .i64 me, .int .i64 rev, .int .i64 cr, .int .i64 h, .int .u64 (b : Int), .int .i64 bad, .int .i64 lock], .blk (w.heap.size + 1) 33 #[.slice A l.length c], .blk (w.heap.size + 1 + 1) 48 #[.int .i64 cls, .int .i64 id, .int .i64 am, .int .i64 tag]] := Mem.alloc HM (w.heap.size + 1 + 1) (by first | (simp; done) | (simp; omega)) #[.int .i64 cls, .int .i64 id, .int .i64 am, .int .i64 tag] 48
  replace HM : Mem (w) [] _ [.blk (w.heap.size) 39 #[.int .i64 me, .int .i64 rev, .int .i64 cr, .int .i64 h, .int .u64 (b : Int), .int .i64 bad, .int .i64 lock], .blk (w.heap.size + 1) 33 #[.slice A l.length c], .blk (w.heap.size + 1 + 1) 48 #[.int .i64 cls, .int .i64 id, .int .i64 am, .int .i64 tag], .blk (w.heap.size + 1 + 1 + 1) 39 #[.int .i64 0, .int .i64 0, .int .i64 0, .int .i64 0, .int .u64 0, .int .i64 0, .int .i64 0]] := Mem.alloc HM (w.heap.size + 1 + 1 + 1) (by first | (simp; done) | (simp; omega)) #[.int .i64 0, .int .i64 0, .int .i64 0, .int .i64 0, .int .u64 0, .int .i64 0, .int .i64 0] 39
  rw [hW0] at HM
  have mt0 : (W0).cell? ⟨w.heap.size, 0, none⟩ = some (.int .i64 me) := (HM.blk 0 rfl).cell 0
  have mtf0 : (W0).frozen? ⟨w.heap.size, 0, none⟩ = false := (HM.blk 0 rfl).frozen 0
  have mt1 : (W0).cell? ⟨w.heap.size, 1, none⟩ = some (.int .i64 rev) := (HM.blk 0 rfl).cell 1
  have mtf1 : (W0).frozen? ⟨w.heap.size, 1, none⟩ = false := (HM.blk 0 rfl).frozen 1
  have mt2 : (W0).cell? ⟨w.heap.size, 2, none⟩ = some (.int .i64 cr) := (HM.blk 0 rfl).cell 2
  have mtf2 : (W0).frozen? ⟨w.heap.size, 2, none⟩ = false := (HM.blk 0 rfl).frozen 2
  have mt3 : (W0).cell? ⟨w.heap.size, 3, none⟩ = some (.int .i64 h) := (HM.blk 0 rfl).cell 3
  have mtf3 : (W0).frozen? ⟨w.heap.size, 3, none⟩ = false := (HM.blk 0 rfl).frozen 3
  have mt4 : (W0).cell? ⟨w.heap.size, 4, none⟩ = some (.int .u64 (b : Int)) := (HM.blk 0 rfl).cell 4
  have mtf4 : (W0).frozen? ⟨w.heap.size, 4, none⟩ = false := (HM.blk 0 rfl).frozen 4
  have mt5 : (W0).cell? ⟨w.heap.size, 5, none⟩ = some (.int .i64 bad) := (HM.blk 0 rfl).cell 5
  have mtf5 : (W0).frozen? ⟨w.heap.size, 5, none⟩ = false := (HM.blk 0 rfl).frozen 5
  have mt6 : (W0).cell? ⟨w.heap.size, 6, none⟩ = some (.int .i64 lock) := (HM.blk 0 rfl).cell 6
  have mtf6 : (W0).frozen? ⟨w.heap.size, 6, none⟩ = false := (HM.blk 0 rfl).frozen 6
  have mtlt : w.heap.size < (W0).heap.size := HM.lt 0 rfl
  have oc0 : (W0).cell? ⟨w.heap.size + 1, 0, none⟩ = some (.slice A l.length c) := (HM.blk 1 rfl).cell 0
  have ocf0 : (W0).frozen? ⟨w.heap.size + 1, 0, none⟩ = false := (HM.blk 1 rfl).frozen 0
  have oclt : w.heap.size + 1 < (W0).heap.size := HM.lt 1 rfl
  have tk0 : (W0).cell? ⟨w.heap.size + 1 + 1, 0, none⟩ = some (.int .i64 cls) := (HM.blk 2 rfl).cell 0
  have tkf0 : (W0).frozen? ⟨w.heap.size + 1 + 1, 0, none⟩ = false := (HM.blk 2 rfl).frozen 0
  have tk1 : (W0).cell? ⟨w.heap.size + 1 + 1, 1, none⟩ = some (.int .i64 id) := (HM.blk 2 rfl).cell 1
  have tkf1 : (W0).frozen? ⟨w.heap.size + 1 + 1, 1, none⟩ = false := (HM.blk 2 rfl).frozen 1
  have tk2 : (W0).cell? ⟨w.heap.size + 1 + 1, 2, none⟩ = some (.int .i64 am) := (HM.blk 2 rfl).cell 2
  have tkf2 : (W0).frozen? ⟨w.heap.size + 1 + 1, 2, none⟩ = false := (HM.blk 2 rfl).frozen 2
  have tk3 : (W0).cell? ⟨w.heap.size + 1 + 1, 3, none⟩ = some (.int .i64 tag) := (HM.blk 2 rfl).cell 3
  have tkf3 : (W0).frozen? ⟨w.heap.size + 1 + 1, 3, none⟩ = false := (HM.blk 2 rfl).frozen 3
  have tklt : w.heap.size + 1 + 1 < (W0).heap.size := HM.lt 2 rfl
  have ne_mt_oc : w.heap.size ≠ w.heap.size + 1 := HM.ne 0 1 rfl rfl (by decide)
  have ne_mt_tk : w.heap.size ≠ w.heap.size + 1 + 1 := HM.ne 0 2 rfl rfl (by decide)
  have ne_oc_mt : w.heap.size + 1 ≠ w.heap.size := HM.ne 1 0 rfl rfl (by decide)
  have ne_oc_tk : w.heap.size + 1 ≠ w.heap.size + 1 + 1 := HM.ne 1 2 rfl rfl (by decide)
  have ne_tk_mt : w.heap.size + 1 + 1 ≠ w.heap.size := HM.ne 2 0 rfl rfl (by decide)
  have ne_tk_oc : w.heap.size + 1 + 1 ≠ w.heap.size + 1 := HM.ne 2 1 rfl rfl (by decide)
  go_enter Tryd.func15, Tryd.ntmps15
  go_wp2_with fail
  refine (hM _).mono ?_
  rintro e wa ⟨rfl, hba⟩
  replace HM : Mem (w) [] (wa) [.blk (w.heap.size) 39 #[.int .i64 me, .int .i64 rev, .int .i64 cr, .int .i64 h, .int .u64 (b : Int), .int .i64 bad, .int .i64 lock], .blk (w.heap.size + 1) 33 #[.slice A l.length c], .blk (w.heap.size + 1 + 1) 48 #[.int .i64 cls, .int .i64 id, .int .i64 am, .int .i64 tag], .blk (w.heap.size + 1 + 1 + 1) 39 #[.int .i64 0, .int .i64 0, .int .i64 0, .int .i64 0, .int .u64 0, .int .i64 0, .int .i64 0]] := Mem.call HM hba
  clear mt0 mtf0 mt1 mtf1 mt2 mtf2 mt3 mtf3 mt4 mtf4 mt5 mtf5 mt6 mtf6 mtlt oc0 ocf0 oclt tk0 tkf0 tk1 tkf1 tk2 tkf2 tk3 tkf3 tklt ne_mt_oc ne_mt_tk ne_oc_mt ne_oc_tk ne_tk_mt ne_tk_oc
  have mt0 : (wa).cell? ⟨w.heap.size, 0, none⟩ = some (.int .i64 me) := (HM.blk 0 rfl).cell 0
  have mtf0 : (wa).frozen? ⟨w.heap.size, 0, none⟩ = false := (HM.blk 0 rfl).frozen 0
  have mt1 : (wa).cell? ⟨w.heap.size, 1, none⟩ = some (.int .i64 rev) := (HM.blk 0 rfl).cell 1
  have mtf1 : (wa).frozen? ⟨w.heap.size, 1, none⟩ = false := (HM.blk 0 rfl).frozen 1
  have mt2 : (wa).cell? ⟨w.heap.size, 2, none⟩ = some (.int .i64 cr) := (HM.blk 0 rfl).cell 2
  have mtf2 : (wa).frozen? ⟨w.heap.size, 2, none⟩ = false := (HM.blk 0 rfl).frozen 2
  have mt3 : (wa).cell? ⟨w.heap.size, 3, none⟩ = some (.int .i64 h) := (HM.blk 0 rfl).cell 3
  have mtf3 : (wa).frozen? ⟨w.heap.size, 3, none⟩ = false := (HM.blk 0 rfl).frozen 3
  have mt4 : (wa).cell? ⟨w.heap.size, 4, none⟩ = some (.int .u64 (b : Int)) := (HM.blk 0 rfl).cell 4
  have mtf4 : (wa).frozen? ⟨w.heap.size, 4, none⟩ = false := (HM.blk 0 rfl).frozen 4
  have mt5 : (wa).cell? ⟨w.heap.size, 5, none⟩ = some (.int .i64 bad) := (HM.blk 0 rfl).cell 5
  have mtf5 : (wa).frozen? ⟨w.heap.size, 5, none⟩ = false := (HM.blk 0 rfl).frozen 5
  have mt6 : (wa).cell? ⟨w.heap.size, 6, none⟩ = some (.int .i64 lock) := (HM.blk 0 rfl).cell 6
  have mtf6 : (wa).frozen? ⟨w.heap.size, 6, none⟩ = false := (HM.blk 0 rfl).frozen 6
  have mtlt : w.heap.size < (wa).heap.size := HM.lt 0 rfl
  have oc0 : (wa).cell? ⟨w.heap.size + 1, 0, none⟩ = some (.slice A l.length c) := (HM.blk 1 rfl).cell 0
  have ocf0 : (wa).frozen? ⟨w.heap.size + 1, 0, none⟩ = false := (HM.blk 1 rfl).frozen 0
  have oclt : w.heap.size + 1 < (wa).heap.size := HM.lt 1 rfl
  have tk0 : (wa).cell? ⟨w.heap.size + 1 + 1, 0, none⟩ = some (.int .i64 cls) := (HM.blk 2 rfl).cell 0
  have tkf0 : (wa).frozen? ⟨w.heap.size + 1 + 1, 0, none⟩ = false := (HM.blk 2 rfl).frozen 0
  have tk1 : (wa).cell? ⟨w.heap.size + 1 + 1, 1, none⟩ = some (.int .i64 id) := (HM.blk 2 rfl).cell 1
  have tkf1 : (wa).frozen? ⟨w.heap.size + 1 + 1, 1, none⟩ = false := (HM.blk 2 rfl).frozen 1
  have tk2 : (wa).cell? ⟨w.heap.size + 1 + 1, 2, none⟩ = some (.int .i64 am) := (HM.blk 2 rfl).cell 2
  have tkf2 : (wa).frozen? ⟨w.heap.size + 1 + 1, 2, none⟩ = false := (HM.blk 2 rfl).frozen 2
  have tk3 : (wa).cell? ⟨w.heap.size + 1 + 1, 3, none⟩ = some (.int .i64 tag) := (HM.blk 2 rfl).cell 3
  have tkf3 : (wa).frozen? ⟨w.heap.size + 1 + 1, 3, none⟩ = false := (HM.blk 2 rfl).frozen 3
  have tklt : w.heap.size + 1 + 1 < (wa).heap.size := HM.lt 2 rfl
  have ne_mt_oc : w.heap.size ≠ w.heap.size + 1 := HM.ne 0 1 rfl rfl (by decide)
  have ne_mt_tk : w.heap.size ≠ w.heap.size + 1 + 1 := HM.ne 0 2 rfl rfl (by decide)
  have ne_oc_mt : w.heap.size + 1 ≠ w.heap.size := HM.ne 1 0 rfl rfl (by decide)
  have ne_oc_tk : w.heap.size + 1 ≠ w.heap.size + 1 + 1 := HM.ne 1 2 rfl rfl (by decide)
  have ne_tk_mt : w.heap.size + 1 + 1 ≠ w.heap.size := HM.ne 2 0 rfl rfl (by decide)
  have ne_tk_oc : w.heap.size + 1 + 1 ≠ w.heap.size + 1 := HM.ne 2 1 rfl rfl (by decide)
  clear hba hM hW0
  have hva := hv0.below HM.below
  go_wp2_with fail
  refine (hO _ hva).mono ?_
  rintro e wb ⟨rfl, hbb⟩
  replace HM : Mem (w) [] (wb) [.blk (w.heap.size) 39 #[.int .i64 me, .int .i64 rev, .int .i64 cr, .int .i64 h, .int .u64 (b : Int), .int .i64 bad, .int .i64 lock], .blk (w.heap.size + 1) 33 #[.slice A l.length c], .blk (w.heap.size + 1 + 1) 48 #[.int .i64 cls, .int .i64 id, .int .i64 am, .int .i64 tag], .blk (w.heap.size + 1 + 1 + 1) 39 #[.int .i64 0, .int .i64 0, .int .i64 0, .int .i64 0, .int .u64 0, .int .i64 0, .int .i64 0]] := Mem.call HM hbb
  clear mt0 mtf0 mt1 mtf1 mt2 mtf2 mt3 mtf3 mt4 mtf4 mt5 mtf5 mt6 mtf6 mtlt oc0 ocf0 oclt tk0 tkf0 tk1 tkf1 tk2 tkf2 tk3 tkf3 tklt ne_mt_oc ne_mt_tk ne_oc_mt ne_oc_tk ne_tk_mt ne_tk_oc
  have mt0 : (wb).cell? ⟨w.heap.size, 0, none⟩ = some (.int .i64 me) := (HM.blk 0 rfl).cell 0
  have mtf0 : (wb).frozen? ⟨w.heap.size, 0, none⟩ = false := (HM.blk 0 rfl).frozen 0
  have mt1 : (wb).cell? ⟨w.heap.size, 1, none⟩ = some (.int .i64 rev) := (HM.blk 0 rfl).cell 1
  have mtf1 : (wb).frozen? ⟨w.heap.size, 1, none⟩ = false := (HM.blk 0 rfl).frozen 1
  have mt2 : (wb).cell? ⟨w.heap.size, 2, none⟩ = some (.int .i64 cr) := (HM.blk 0 rfl).cell 2
  have mtf2 : (wb).frozen? ⟨w.heap.size, 2, none⟩ = false := (HM.blk 0 rfl).frozen 2
  have mt3 : (wb).cell? ⟨w.heap.size, 3, none⟩ = some (.int .i64 h) := (HM.blk 0 rfl).cell 3
  have mtf3 : (wb).frozen? ⟨w.heap.size, 3, none⟩ = false := (HM.blk 0 rfl).frozen 3
  have mt4 : (wb).cell? ⟨w.heap.size, 4, none⟩ = some (.int .u64 (b : Int)) := (HM.blk 0 rfl).cell 4
  have mtf4 : (wb).frozen? ⟨w.heap.size, 4, none⟩ = false := (HM.blk 0 rfl).frozen 4
  have mt5 : (wb).cell? ⟨w.heap.size, 5, none⟩ = some (.int .i64 bad) := (HM.blk 0 rfl).cell 5
  have mtf5 : (wb).frozen? ⟨w.heap.size, 5, none⟩ = false := (HM.blk 0 rfl).frozen 5
  have mt6 : (wb).cell? ⟨w.heap.size, 6, none⟩ = some (.int .i64 lock) := (HM.blk 0 rfl).cell 6
  have mtf6 : (wb).frozen? ⟨w.heap.size, 6, none⟩ = false := (HM.blk 0 rfl).frozen 6
  have mtlt : w.heap.size < (wb).heap.size := HM.lt 0 rfl
  have oc0 : (wb).cell? ⟨w.heap.size + 1, 0, none⟩ = some (.slice A l.length c) := (HM.blk 1 rfl).cell 0
  have ocf0 : (wb).frozen? ⟨w.heap.size + 1, 0, none⟩ = false := (HM.blk 1 rfl).frozen 0
  have oclt : w.heap.size + 1 < (wb).heap.size := HM.lt 1 rfl
  have tk0 : (wb).cell? ⟨w.heap.size + 1 + 1, 0, none⟩ = some (.int .i64 cls) := (HM.blk 2 rfl).cell 0
  have tkf0 : (wb).frozen? ⟨w.heap.size + 1 + 1, 0, none⟩ = false := (HM.blk 2 rfl).frozen 0
  have tk1 : (wb).cell? ⟨w.heap.size + 1 + 1, 1, none⟩ = some (.int .i64 id) := (HM.blk 2 rfl).cell 1
  have tkf1 : (wb).frozen? ⟨w.heap.size + 1 + 1, 1, none⟩ = false := (HM.blk 2 rfl).frozen 1
  have tk2 : (wb).cell? ⟨w.heap.size + 1 + 1, 2, none⟩ = some (.int .i64 am) := (HM.blk 2 rfl).cell 2
  have tkf2 : (wb).frozen? ⟨w.heap.size + 1 + 1, 2, none⟩ = false := (HM.blk 2 rfl).frozen 2
  have tk3 : (wb).cell? ⟨w.heap.size + 1 + 1, 3, none⟩ = some (.int .i64 tag) := (HM.blk 2 rfl).cell 3
  have tkf3 : (wb).frozen? ⟨w.heap.size + 1 + 1, 3, none⟩ = false := (HM.blk 2 rfl).frozen 3
  have tklt : w.heap.size + 1 + 1 < (wb).heap.size := HM.lt 2 rfl
  have ne_mt_oc : w.heap.size ≠ w.heap.size + 1 := HM.ne 0 1 rfl rfl (by decide)
  have ne_mt_tk : w.heap.size ≠ w.heap.size + 1 + 1 := HM.ne 0 2 rfl rfl (by decide)
  have ne_oc_mt : w.heap.size + 1 ≠ w.heap.size := HM.ne 1 0 rfl rfl (by decide)
  have ne_oc_tk : w.heap.size + 1 ≠ w.heap.size + 1 + 1 := HM.ne 1 2 rfl rfl (by decide)
  have ne_tk_mt : w.heap.size + 1 + 1 ≠ w.heap.size := HM.ne 2 0 rfl rfl (by decide)
  have ne_tk_oc : w.heap.size + 1 + 1 ≠ w.heap.size + 1 := HM.ne 2 1 rfl rfl (by decide)
  clear hbb hO ho hva hv0
  go_wp2_with fail
  refine (hB _).mono ?_
  rintro e wc ⟨rfl, hbc⟩
  replace HM : Mem (w) [] (wc) [.blk (w.heap.size) 39 #[.int .i64 me, .int .i64 rev, .int .i64 cr, .int .i64 h, .int .u64 (b : Int), .int .i64 bad, .int .i64 lock], .blk (w.heap.size + 1) 33 #[.slice A l.length c], .blk (w.heap.size + 1 + 1) 48 #[.int .i64 cls, .int .i64 id, .int .i64 am, .int .i64 tag], .blk (w.heap.size + 1 + 1 + 1) 39 #[.int .i64 0, .int .i64 0, .int .i64 0, .int .i64 0, .int .u64 0, .int .i64 0, .int .i64 0]] := Mem.call HM hbc
  clear mt0 mtf0 mt1 mtf1 mt2 mtf2 mt3 mtf3 mt4 mtf4 mt5 mtf5 mt6 mtf6 mtlt oc0 ocf0 oclt tk0 tkf0 tk1 tkf1 tk2 tkf2 tk3 tkf3 tklt ne_mt_oc ne_mt_tk ne_oc_mt ne_oc_tk ne_tk_mt ne_tk_oc
  have mt0 : (wc).cell? ⟨w.heap.size, 0, none⟩ = some (.int .i64 me) := (HM.blk 0 rfl).cell 0
  have mtf0 : (wc).frozen? ⟨w.heap.size, 0, none⟩ = false := (HM.blk 0 rfl).frozen 0
  have mt1 : (wc).cell? ⟨w.heap.size, 1, none⟩ = some (.int .i64 rev) := (HM.blk 0 rfl).cell 1
  have mtf1 : (wc).frozen? ⟨w.heap.size, 1, none⟩ = false := (HM.blk 0 rfl).frozen 1
  have mt2 : (wc).cell? ⟨w.heap.size, 2, none⟩ = some (.int .i64 cr) := (HM.blk 0 rfl).cell 2
  have mtf2 : (wc).frozen? ⟨w.heap.size, 2, none⟩ = false := (HM.blk 0 rfl).frozen 2
  have mt3 : (wc).cell? ⟨w.heap.size, 3, none⟩ = some (.int .i64 h) := (HM.blk 0 rfl).cell 3
  have mtf3 : (wc).frozen? ⟨w.heap.size, 3, none⟩ = false := (HM.blk 0 rfl).frozen 3
  have mt4 : (wc).cell? ⟨w.heap.size, 4, none⟩ = some (.int .u64 (b : Int)) := (HM.blk 0 rfl).cell 4
  have mtf4 : (wc).frozen? ⟨w.heap.size, 4, none⟩ = false := (HM.blk 0 rfl).frozen 4
  have mt5 : (wc).cell? ⟨w.heap.size, 5, none⟩ = some (.int .i64 bad) := (HM.blk 0 rfl).cell 5
  have mtf5 : (wc).frozen? ⟨w.heap.size, 5, none⟩ = false := (HM.blk 0 rfl).frozen 5
  have mt6 : (wc).cell? ⟨w.heap.size, 6, none⟩ = some (.int .i64 lock) := (HM.blk 0 rfl).cell 6
  have mtf6 : (wc).frozen? ⟨w.heap.size, 6, none⟩ = false := (HM.blk 0 rfl).frozen 6
  have mtlt : w.heap.size < (wc).heap.size := HM.lt 0 rfl
  have rs0 : (wc).cell? ⟨w.heap.size + 1 + 1 + 1, 0, none⟩ = some (.int .i64 0) := (HM.blk 3 rfl).cell 0
  have rsf0 : (wc).frozen? ⟨w.heap.size + 1 + 1 + 1, 0, none⟩ = false := (HM.blk 3 rfl).frozen 0
  have rs1 : (wc).cell? ⟨w.heap.size + 1 + 1 + 1, 1, none⟩ = some (.int .i64 0) := (HM.blk 3 rfl).cell 1
  have rsf1 : (wc).frozen? ⟨w.heap.size + 1 + 1 + 1, 1, none⟩ = false := (HM.blk 3 rfl).frozen 1
  have rs2 : (wc).cell? ⟨w.heap.size + 1 + 1 + 1, 2, none⟩ = some (.int .i64 0) := (HM.blk 3 rfl).cell 2
  have rsf2 : (wc).frozen? ⟨w.heap.size + 1 + 1 + 1, 2, none⟩ = false := (HM.blk 3 rfl).frozen 2
  have rs3 : (wc).cell? ⟨w.heap.size + 1 + 1 + 1, 3, none⟩ = some (.int .i64 0) := (HM.blk 3 rfl).cell 3
  have rsf3 : (wc).frozen? ⟨w.heap.size + 1 + 1 + 1, 3, none⟩ = false := (HM.blk 3 rfl).frozen 3
  have rs4 : (wc).cell? ⟨w.heap.size + 1 + 1 + 1, 4, none⟩ = some (.int .u64 0) := (HM.blk 3 rfl).cell 4
  have rsf4 : (wc).frozen? ⟨w.heap.size + 1 + 1 + 1, 4, none⟩ = false := (HM.blk 3 rfl).frozen 4
  have rs5 : (wc).cell? ⟨w.heap.size + 1 + 1 + 1, 5, none⟩ = some (.int .i64 0) := (HM.blk 3 rfl).cell 5
  have rsf5 : (wc).frozen? ⟨w.heap.size + 1 + 1 + 1, 5, none⟩ = false := (HM.blk 3 rfl).frozen 5
  have rs6 : (wc).cell? ⟨w.heap.size + 1 + 1 + 1, 6, none⟩ = some (.int .i64 0) := (HM.blk 3 rfl).cell 6
  have rsf6 : (wc).frozen? ⟨w.heap.size + 1 + 1 + 1, 6, none⟩ = false := (HM.blk 3 rfl).frozen 6
  have rslt : w.heap.size + 1 + 1 + 1 < (wc).heap.size := HM.lt 3 rfl
  have ne_mt_rs : w.heap.size ≠ w.heap.size + 1 + 1 + 1 := HM.ne 0 3 rfl rfl (by decide)
  have ne_rs_mt : w.heap.size + 1 + 1 + 1 ≠ w.heap.size := HM.ne 3 0 rfl rfl (by decide)
  clear hbc hB hf h0
  go_wp2
  obtain ⟨Wz, hWz⟩ : ∃ Wz, (((((((wc).setCell ⟨w.heap.size + 1 + 1 + 1, 0, none⟩ (.int .i64 me)).setCell ⟨w.heap.size + 1 + 1 + 1, 1, none⟩ (.int .i64 rev)).setCell ⟨w.heap.size + 1 + 1 + 1, 2, none⟩ (.int .i64 cr)).setCell ⟨w.heap.size + 1 + 1 + 1, 3, none⟩ (.int .i64 h)).setCell ⟨w.heap.size + 1 + 1 + 1, 4, none⟩ (.int .u64 (b : Int))).setCell ⟨w.heap.size + 1 + 1 + 1, 5, none⟩ (.int .i64 bad)).setCell ⟨w.heap.size + 1 + 1 + 1, 6, none⟩ (.int .i64 lock) = Wz := ⟨_, rfl⟩
  replace HM : Mem (w) [] _ [.blk (w.heap.size) 39 #[.int .i64 me, .int .i64 rev, .int .i64 cr, .int .i64 h, .int .u64 (b : Int), .int .i64 bad, .int .i64 lock], .blk (w.heap.size + 1) 33 #[.slice A l.length c], .blk (w.heap.size + 1 + 1) 48 #[.int .i64 cls, .int .i64 id, .int .i64 am, .int .i64 tag], .blk (w.heap.size + 1 + 1 + 1) 39 #[.int .i64 me, .int .i64 0, .int .i64 0, .int .i64 0, .int .u64 0, .int .i64 0, .int .i64 0]] := Mem.set 3 HM rfl 0 (.int .i64 me)
  replace HM : Mem (w) [] _ [.blk (w.heap.size) 39 #[.int .i64 me, .int .i64 rev, .int .i64 cr, .int .i64 h, .int .u64 (b : Int), .int .i64 bad, .int .i64 lock], .blk (w.heap.size + 1) 33 #[.slice A l.length c], .blk (w.heap.size + 1 + 1) 48 #[.int .i64 cls, .int .i64 id, .int .i64 am, .int .i64 tag], .blk (w.heap.size + 1 + 1 + 1) 39 #[.int .i64 me, .int .i64 rev, .int .i64 0, .int .i64 0, .int .u64 0, .int .i64 0, .int .i64 0]] := Mem.set 3 HM rfl 1 (.int .i64 rev)
  replace HM : Mem (w) [] _ [.blk (w.heap.size) 39 #[.int .i64 me, .int .i64 rev, .int .i64 cr, .int .i64 h, .int .u64 (b : Int), .int .i64 bad, .int .i64 lock], .blk (w.heap.size + 1) 33 #[.slice A l.length c], .blk (w.heap.size + 1 + 1) 48 #[.int .i64 cls, .int .i64 id, .int .i64 am, .int .i64 tag], .blk (w.heap.size + 1 + 1 + 1) 39 #[.int .i64 me, .int .i64 rev, .int .i64 cr, .int .i64 0, .int .u64 0, .int .i64 0, .int .i64 0]] := Mem.set 3 HM rfl 2 (.int .i64 cr)
  replace HM : Mem (w) [] _ [.blk (w.heap.size) 39 #[.int .i64 me, .int .i64 rev, .int .i64 cr, .int .i64 h, .int .u64 (b : Int), .int .i64 bad, .int .i64 lock], .blk (w.heap.size + 1) 33 #[.slice A l.length c], .blk (w.heap.size + 1 + 1) 48 #[.int .i64 cls, .int .i64 id, .int .i64 am, .int .i64 tag], .blk (w.heap.size + 1 + 1 + 1) 39 #[.int .i64 me, .int .i64 rev, .int .i64 cr, .int .i64 h, .int .u64 0, .int .i64 0, .int .i64 0]] := Mem.set 3 HM rfl 3 (.int .i64 h)
  replace HM : Mem (w) [] _ [.blk (w.heap.size) 39 #[.int .i64 me, .int .i64 rev, .int .i64 cr, .int .i64 h, .int .u64 (b : Int), .int .i64 bad, .int .i64 lock], .blk (w.heap.size + 1) 33 #[.slice A l.length c], .blk (w.heap.size + 1 + 1) 48 #[.int .i64 cls, .int .i64 id, .int .i64 am, .int .i64 tag], .blk (w.heap.size + 1 + 1 + 1) 39 #[.int .i64 me, .int .i64 rev, .int .i64 cr, .int .i64 h, .int .u64 (b : Int), .int .i64 0, .int .i64 0]] := Mem.set 3 HM rfl 4 (.int .u64 (b : Int))
  replace HM : Mem (w) [] _ [.blk (w.heap.size) 39 #[.int .i64 me, .int .i64 rev, .int .i64 cr, .int .i64 h, .int .u64 (b : Int), .int .i64 bad, .int .i64 lock], .blk (w.heap.size + 1) 33 #[.slice A l.length c], .blk (w.heap.size + 1 + 1) 48 #[.int .i64 cls, .int .i64 id, .int .i64 am, .int .i64 tag], .blk (w.heap.size + 1 + 1 + 1) 39 #[.int .i64 me, .int .i64 rev, .int .i64 cr, .int .i64 h, .int .u64 (b : Int), .int .i64 bad, .int .i64 0]] := Mem.set 3 HM rfl 5 (.int .i64 bad)
  replace HM : Mem (w) [] _ [.blk (w.heap.size) 39 #[.int .i64 me, .int .i64 rev, .int .i64 cr, .int .i64 h, .int .u64 (b : Int), .int .i64 bad, .int .i64 lock], .blk (w.heap.size + 1) 33 #[.slice A l.length c], .blk (w.heap.size + 1 + 1) 48 #[.int .i64 cls, .int .i64 id, .int .i64 am, .int .i64 tag], .blk (w.heap.size + 1 + 1 + 1) 39 #[.int .i64 me, .int .i64 rev, .int .i64 cr, .int .i64 h, .int .u64 (b : Int), .int .i64 bad, .int .i64 lock]] := Mem.set 3 HM rfl 6 (.int .i64 lock)
  rw [hWz] at HM ⊢
  clear hWz
  clear mt0 mtf0 mt1 mtf1 mt2 mtf2 mt3 mtf3 mt4 mtf4 mt5 mtf5 mt6 mtf6 mtlt rs0 rsf0 rs1 rsf1 rs2 rsf2 rs3 rsf3 rs4 rsf4 rs5 rsf5 rs6 rsf6 rslt ne_mt_rs ne_rs_mt
  have rs0 : (Wz).cell? ⟨w.heap.size + 1 + 1 + 1, 0, none⟩ = some (.int .i64 me) := (HM.blk 3 rfl).cell 0
  have rsf0 : (Wz).frozen? ⟨w.heap.size + 1 + 1 + 1, 0, none⟩ = false := (HM.blk 3 rfl).frozen 0
  have rs1 : (Wz).cell? ⟨w.heap.size + 1 + 1 + 1, 1, none⟩ = some (.int .i64 rev) := (HM.blk 3 rfl).cell 1
  have rsf1 : (Wz).frozen? ⟨w.heap.size + 1 + 1 + 1, 1, none⟩ = false := (HM.blk 3 rfl).frozen 1
  have rs2 : (Wz).cell? ⟨w.heap.size + 1 + 1 + 1, 2, none⟩ = some (.int .i64 cr) := (HM.blk 3 rfl).cell 2
  have rsf2 : (Wz).frozen? ⟨w.heap.size + 1 + 1 + 1, 2, none⟩ = false := (HM.blk 3 rfl).frozen 2
  have rs3 : (Wz).cell? ⟨w.heap.size + 1 + 1 + 1, 3, none⟩ = some (.int .i64 h) := (HM.blk 3 rfl).cell 3
  have rsf3 : (Wz).frozen? ⟨w.heap.size + 1 + 1 + 1, 3, none⟩ = false := (HM.blk 3 rfl).frozen 3
  have rs4 : (Wz).cell? ⟨w.heap.size + 1 + 1 + 1, 4, none⟩ = some (.int .u64 (b : Int)) := (HM.blk 3 rfl).cell 4
  have rsf4 : (Wz).frozen? ⟨w.heap.size + 1 + 1 + 1, 4, none⟩ = false := (HM.blk 3 rfl).frozen 4
  have rs5 : (Wz).cell? ⟨w.heap.size + 1 + 1 + 1, 5, none⟩ = some (.int .i64 bad) := (HM.blk 3 rfl).cell 5
  have rsf5 : (Wz).frozen? ⟨w.heap.size + 1 + 1 + 1, 5, none⟩ = false := (HM.blk 3 rfl).frozen 5
  have rs6 : (Wz).cell? ⟨w.heap.size + 1 + 1 + 1, 6, none⟩ = some (.int .i64 lock) := (HM.blk 3 rfl).cell 6
  have rsf6 : (Wz).frozen? ⟨w.heap.size + 1 + 1 + 1, 6, none⟩ = false := (HM.blk 3 rfl).frozen 6
  have rslt : w.heap.size + 1 + 1 + 1 < (Wz).heap.size := HM.lt 3 rfl
  refine bodyPost_ret (v := .tuple #[.agg #[.int .i64 me, .int .i64 rev, .int .i64 cr, .int .i64 h, .int .u64 (b : Int), .int .i64 bad, .int .i64 lock], .int .i64 0, .int .i64 f]) (by simp [results, Tryd.results15, go_sem, rs0, rs1, rs2, rs3, rs4, rs5, rs6]; done) rfl ?_
  exact ⟨rfl, HM.below⟩
theorem tfault_vals (cls id am tag : Int) : tfault cls id am tag = 0 ∨ tfault cls id am tag = 9 ∨ tfault cls id am tag = 2 := by
  unfold tfault
  by_cases h1 : (cb cls).2.2 = false
  · rw [if_pos h1]; exact .inr (.inl rfl)
  · rw [if_neg h1]
    by_cases h2 : id < 1 ∨ 1048575 < id ∨ am < (cb cls).1 ∨ (cb cls).2.1 < am ∨ tag < 0 ∨ 65535 < tag
    · rw [if_pos h2]; exact .inr (.inr rfl)
    · rw [if_neg h2]; exact .inl rfl
theorem judge_vals (H B j : Nat) : judge H B j = 0 ∨ judge H B j = 13 ∨ judge H B j = 14 := by
  unfold judge
  by_cases h1 : j + 64 ≤ H
  · rw [if_pos h1]; exact .inr (.inl rfl)
  · rw [if_neg h1]
    by_cases h2 : wk H B j = true
    · rw [if_pos h2]; exact .inr (.inr rfl)
    · rw [if_neg h2]; exact .inl rfl
/-- What a key does, in short. -/
theorem keyS_law {l : List Pr} {me rev cr H B bad lock cls id am tag r2 c2 h2 b2 d2 k2 ad E : Nat} (h : keyS l me rev cr H B bad lock cls id am tag = (r2, c2, h2, b2, d2, k2, ad, E)) (hk : TkOk cls id am tag) :
    (E = 0 ∧ rev ≤ r2 ∧ ((cr ≤ c2 ∧ ad + cr = c2) ∨ (c2 < cr ∧ ad = 0)) ∧ ((cls = 0 ∧ 0 < ad) ∨ (cls ≠ 0 ∧ ad = 0)) ∧ ad ≤ am) ∨
    (E ≠ 0 ∧ E ≠ 5 ∧ E ≠ 12 ∧ r2 = rev ∧ c2 = cr ∧ h2 = H ∧ b2 = B ∧ d2 = bad ∧ k2 = lock ∧ ad = 0) ∨
    (E = 12 ∧ ad = 0 ∧ r2 = rev ∧ c2 = cr ∧ h2 = H ∧ b2 = B ∧ ((bad = 4 ∧ d2 = 0 ∧ k2 = 30) ∨ (bad ≠ 4 ∧ d2 = bad + 1 ∧ k2 = lock))) := by
  obtain ⟨k1, k3, k4, k5, k6⟩ := hk
  have kill : ∀ {a b c d e f g i : Nat}, (a, b, c, d, e, f, g, i) = (r2, c2, h2, b2, d2, k2, ad, E) → a = r2 ∧ b = c2 ∧ c = h2 ∧ d = b2 ∧ e = d2 ∧ f = k2 ∧ g = ad ∧ i = E := fun h => by
    injection h with f1 h; injection h with f2 h; injection h with f3 h; injection h with f4 h; injection h with f5 h; injection h with f6 h; injection h with f7 f8
    exact ⟨f1, f2, f3, f4, f5, f6, f7, f8⟩
  unfold keyS at h
  by_cases g1 : 0 < lock
  · rw [if_pos g1] at h
    (try dsimp only at h); have := kill h
    exact .inr (.inl (by omega))
  · rw [if_neg g1] at h
    by_cases g2 : cls = 3
    · rw [if_pos g2] at h
      (try dsimp only at h); have := kill h
      exact .inl (by omega)
    · rw [if_neg g2] at h
      have hv := soldE_vals l me (tbody cls id am) rev tag (rev + 1)
      generalize soldE l me (tbody cls id am) rev tag (rev + 1) = Es at *
      by_cases g3 : Es = 0
      · rw [if_pos g3] at h
        have hj := judge_vals H B id
        unfold takeS at h
        by_cases g4 : judge H B id ≠ 0
        · rw [if_pos g4] at h
          (try dsimp only at h); have := kill h
          exact .inr (.inl (by omega))
        · rw [if_neg g4] at h
          by_cases g5 : cls = 0
          · rw [if_pos g5] at h
            by_cases g6 : 99999999 < cr + am
            · rw [if_pos g6] at h
              (try dsimp only at h); have := kill h
              exact .inr (.inl (by omega))
            · rw [if_neg g6] at h
              (try dsimp only at h); have := kill h
              exact .inl (by omega)
          · rw [if_neg g5] at h
            by_cases g6 : cls = 1
            · rw [if_pos g6] at h
              (try dsimp only at h); have := kill h
              exact .inl (by omega)
            · rw [if_neg g6] at h
              by_cases g7 : am ≤ rev
              · rw [if_pos g7] at h
                (try dsimp only at h); have := kill h
                exact .inr (.inl (by omega))
              · rw [if_neg g7] at h
                (try dsimp only at h); have := kill h
                exact .inl (by omega)
      · rw [if_neg g3] at h
        unfold badS at h
        by_cases g4 : Es = 12
        · rw [if_pos g4] at h
          by_cases g5 : bad + 1 = 5
          · rw [if_pos g5] at h
            (try dsimp only at h); have := kill h
            exact .inr (.inr (by omega))
          · rw [if_neg g5] at h
            (try dsimp only at h); have := kill h
            exact .inr (.inr (by omega))
        · rw [if_neg g4] at h
          (try dsimp only at h); have := kill h
          exact .inr (.inl (by omega))
set_option maxRecDepth 100000 in
/-- An oracle that came in. -/
theorem oracle_fit {v : Value} {w : World} (h : Fit Tryd.prog w 33 v) : ∃ (A : Option Addr) (c : Nat) (l : List Pr), v = .agg #[.slice A l.length c] ∧ IsPs w (.slice A l.length c) l := by
  obtain ⟨cs, rfl, hcf⟩ := h.struct Tryd.underlying33
  obtain ⟨hlen, hl⟩ := CFit.leaves 9 _ cs [31] (by kernel_rfl) hcf
  match cs, hlen with
  | [c0], _ =>
    obtain ⟨v', h3, h4⟩ := hl 0 _ rfl
    injection h3 with h3
    subst h3
    obtain ⟨A, n, c, rfl⟩ := h4.slice_val Tryd.underlying31
    obtain ⟨hn, hm, rows, hr, hw, hrd⟩ := h4.slice_ints (s := 4) (ks := [.i64, .i64, .i64, .i64]) Tryd.underlying31 (by kernel_rfl) (by decide) (by kernel_rfl)
    have key : ∀ rows : List (List Int), (∀ r ∈ rows, r.length = 4 ∧ ∀ (i : Nat) (k : IntKind) (m : Int), ([.i64, .i64, .i64, .i64] : List IntKind)[i]? = some k → r[i]? = some m → (Lit.int k m).wf = true) → ∃ l : List Pr, l.length = rows.length ∧ (∀ p ∈ l, wfP p) ∧ prs l = (rows.map (intsOf [.i64, .i64, .i64, .i64])).flatten := by
      intro rows
      induction rows with
      | nil => intro _; exact ⟨[], rfl, by simp, rfl⟩
      | cons r t ih =>
        intro hall
        obtain ⟨l, h1, h2, h3⟩ := ih (fun r hr => hall r (by simp [hr]))
        obtain ⟨h4, h5⟩ := hall r (by simp)
        match r, h4 with
        | [x, y, z, u], _ =>
          refine ⟨(x, y, z, u) :: l, by simp [h1], fun p hp => ?_, ?_⟩
          · rcases List.mem_cons.1 hp with rfl | hp
            · exact ⟨⟨h5 0 _ _ rfl rfl, h5 1 _ _ rfl rfl, h5 2 _ _ rfl rfl⟩, h5 3 _ _ rfl rfl⟩
            · exact h2 p hp
          · rw [List.map_cons, List.flatten_cons, ← h3]
            rfl
    obtain ⟨l, l1, l2, l3⟩ := key rows hw
    obtain rfl : n = l.length := by omega
    exact ⟨A, c, l, rfl, A, c, rfl, hn, hm, l2, by rw [l3]; exact hrd⟩
end Go.Proofs.YtopnlkhepjbjkaaDoor

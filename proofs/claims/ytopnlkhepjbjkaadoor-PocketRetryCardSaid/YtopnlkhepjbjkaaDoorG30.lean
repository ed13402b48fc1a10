/- A meter that is locked: Begin, Tick; keys that are no good; keys at a locked one. -/
import Derived.Test.YtopnlkhepjbjkaaDoorG21
import Derived.Test.YtopnlkhepjbjkaaDoorG29
namespace Go.Proofs.YtopnlkhepjbjkaaDoor
open Go.RowKit
set_option linter.unusedVariables false
theorem begin_ok (me : Nat) (w : World) (h : me < 50) : Calls Tryd.prog 17 #[.int .i64 (me : Int)] w fun e w' => e = .returned (.tuple #[.agg #[.int .i64 (me : Int), .int .i64 0, .int .i64 0, .int .i64 0, .int .u64 0, .int .i64 0, .int .i64 0], .int .i64 0]) ∧ Below w.heap.size w w' := by
  have hmm : mmay (me : Int) 0 0 0 0 0 0 = true := mmay_of (me := me) (rev := 0) (cr := 0) (H := 0) (B := 0) (bad := 0) (lock := 0) h (by omega) (by omega) (by omega) (by omega) (by omega) wmay_new
  have hM := fun W => mmay_is (Lib.hid hmm) W (by decide) (by omega) (by decide) (by decide)
  simp only [Int.cast_ofNat_Int] at hM
  clear hmm
  have HM := Mem.init w
  go_enter Tryd.func17, Tryd.ntmps17
  go_wp2_with fail
  obtain ⟨W0, hW0⟩ : ∃ W0, ((w).alloc (.cells #[.int .i64 0, .int .i64 0, .int .i64 0, .int .i64 0, .int .u64 0, .int .i64 0, .int .i64 0] 39)).alloc (.cells #[.int .i64 (me : Int), .int .i64 0, .int .i64 0, .int .i64 0, .int .u64 0, .int .i64 0, .int .i64 0] 39) = W0 := ⟨_, rfl⟩
  replace HM : Mem (w) [] _ [.blk (w.heap.size) 39 #[.int .i64 0, .int .i64 0, .int .i64 0, .int .i64 0, .int .u64 0, .int .i64 0, .int .i64 0]] := Mem.alloc HM (w.heap.size) (by first | (simp; done) | (simp; omega)) #[.int .i64 0, .int .i64 0, .int .i64 0, .int .i64 0, .int .u64 0, .int .i64 0, .int .i64 0] 39
  replace HM : Mem (w) [] _ [.blk (w.heap.size) 39 #[.int .i64 0, .int .i64 0, .int .i64 0, .int .i64 0, .int .u64 0, .int .i64 0, .int .i64 0], .blk (w.heap.size + 1) 39 #[.int .i64 (me : Int), .int .i64 0, .int .i64 0, .int .i64 0, .int .u64 0, .int .i64 0, .int .i64 0]] := Mem.alloc HM (w.heap.size + 1) (by first | (simp; done) | (simp; omega)) #[.int .i64 (me : Int), .int .i64 0, .int .i64 0, .int .i64 0, .int .u64 0, .int .i64 0, .int .i64 0] 39
  rw [hW0] at HM ⊢
  clear hW0
  refine (hM _).mono ?_
  rintro e wa ⟨rfl, hba⟩
  replace HM : Mem (w) [] (wa) [.blk (w.heap.size) 39 #[.int .i64 0, .int .i64 0, .int .i64 0, .int .i64 0, .int .u64 0, .int .i64 0, .int .i64 0], .blk (w.heap.size + 1) 39 #[.int .i64 (me : Int), .int .i64 0, .int .i64 0, .int .i64 0, .int .u64 0, .int .i64 0, .int .i64 0]] := Mem.call HM hba
  have rs0 : (wa).cell? ⟨w.heap.size, 0, none⟩ = some (.int .i64 0) := (HM.blk 0 rfl).cell 0
  have rsf0 : (wa).frozen? ⟨w.heap.size, 0, none⟩ = false := (HM.blk 0 rfl).frozen 0
  have rs1 : (wa).cell? ⟨w.heap.size, 1, none⟩ = some (.int .i64 0) := (HM.blk 0 rfl).cell 1
  have rsf1 : (wa).frozen? ⟨w.heap.size, 1, none⟩ = false := (HM.blk 0 rfl).frozen 1
  have rs2 : (wa).cell? ⟨w.heap.size, 2, none⟩ = some (.int .i64 0) := (HM.blk 0 rfl).cell 2
  have rsf2 : (wa).frozen? ⟨w.heap.size, 2, none⟩ = false := (HM.blk 0 rfl).frozen 2
  have rs3 : (wa).cell? ⟨w.heap.size, 3, none⟩ = some (.int .i64 0) := (HM.blk 0 rfl).cell 3
  have rsf3 : (wa).frozen? ⟨w.heap.size, 3, none⟩ = false := (HM.blk 0 rfl).frozen 3
  have rs4 : (wa).cell? ⟨w.heap.size, 4, none⟩ = some (.int .u64 0) := (HM.blk 0 rfl).cell 4
  have rsf4 : (wa).frozen? ⟨w.heap.size, 4, none⟩ = false := (HM.blk 0 rfl).frozen 4
  have rs5 : (wa).cell? ⟨w.heap.size, 5, none⟩ = some (.int .i64 0) := (HM.blk 0 rfl).cell 5
  have rsf5 : (wa).frozen? ⟨w.heap.size, 5, none⟩ = false := (HM.blk 0 rfl).frozen 5
  have rs6 : (wa).cell? ⟨w.heap.size, 6, none⟩ = some (.int .i64 0) := (HM.blk 0 rfl).cell 6
  have rsf6 : (wa).frozen? ⟨w.heap.size, 6, none⟩ = false := (HM.blk 0 rfl).frozen 6
  have rslt : w.heap.size < (wa).heap.size := HM.lt 0 rfl
  have mb0 : (wa).cell? ⟨w.heap.size + 1, 0, none⟩ = some (.int .i64 (me : Int)) := (HM.blk 1 rfl).cell 0
  have mbf0 : (wa).frozen? ⟨w.heap.size + 1, 0, none⟩ = false := (HM.blk 1 rfl).frozen 0
  have mb1 : (wa).cell? ⟨w.heap.size + 1, 1, none⟩ = some (.int .i64 0) := (HM.blk 1 rfl).cell 1
  have mbf1 : (wa).frozen? ⟨w.heap.size + 1, 1, none⟩ = false := (HM.blk 1 rfl).frozen 1
  have mb2 : (wa).cell? ⟨w.heap.size + 1, 2, none⟩ = some (.int .i64 0) := (HM.blk 1 rfl).cell 2
  have mbf2 : (wa).frozen? ⟨w.heap.size + 1, 2, none⟩ = false := (HM.blk 1 rfl).frozen 2
  have mb3 : (wa).cell? ⟨w.heap.size + 1, 3, none⟩ = some (.int .i64 0) := (HM.blk 1 rfl).cell 3
  have mbf3 : (wa).frozen? ⟨w.heap.size + 1, 3, none⟩ = false := (HM.blk 1 rfl).frozen 3
  have mb4 : (wa).cell? ⟨w.heap.size + 1, 4, none⟩ = some (.int .u64 0) := (HM.blk 1 rfl).cell 4
  have mbf4 : (wa).frozen? ⟨w.heap.size + 1, 4, none⟩ = false := (HM.blk 1 rfl).frozen 4
  have mb5 : (wa).cell? ⟨w.heap.size + 1, 5, none⟩ = some (.int .i64 0) := (HM.blk 1 rfl).cell 5
  have mbf5 : (wa).frozen? ⟨w.heap.size + 1, 5, none⟩ = false := (HM.blk 1 rfl).frozen 5
  have mb6 : (wa).cell? ⟨w.heap.size + 1, 6, none⟩ = some (.int .i64 0) := (HM.blk 1 rfl).cell 6
  have mbf6 : (wa).frozen? ⟨w.heap.size + 1, 6, none⟩ = false := (HM.blk 1 rfl).frozen 6
  have mblt : w.heap.size + 1 < (wa).heap.size := HM.lt 1 rfl
  have ne_rs_mb : w.heap.size ≠ w.heap.size + 1 := HM.ne 0 1 rfl rfl (by decide)
  have ne_mb_rs : w.heap.size + 1 ≠ w.heap.size := HM.ne 1 0 rfl rfl (by decide)
  clear hba hM
  go_wp2
  obtain ⟨wz, hwz⟩ : ∃ wz, (((((((wa).setCell ⟨w.heap.size, 0, none⟩ (.int .i64 (me : Int))).setCell ⟨w.heap.size, 1, none⟩ (.int .i64 0)).setCell ⟨w.heap.size, 2, none⟩ (.int .i64 0)).setCell ⟨w.heap.size, 3, none⟩ (.int .i64 0)).setCell ⟨w.heap.size, 4, none⟩ (.int .u64 0)).setCell ⟨w.heap.size, 5, none⟩ (.int .i64 0)).setCell ⟨w.heap.size, 6, none⟩ (.int .i64 0) = wz := ⟨_, rfl⟩
  replace HM : Mem (w) [] _ [.blk (w.heap.size) 39 #[.int .i64 (me : Int), .int .i64 0, .int .i64 0, .int .i64 0, .int .u64 0, .int .i64 0, .int .i64 0], .blk (w.heap.size + 1) 39 #[.int .i64 (me : Int), .int .i64 0, .int .i64 0, .int .i64 0, .int .u64 0, .int .i64 0, .int .i64 0]] := Mem.set 0 HM rfl 0 (.int .i64 (me : Int))
  replace HM : Mem (w) [] _ [.blk (w.heap.size) 39 #[.int .i64 (me : Int), .int .i64 0, .int .i64 0, .int .i64 0, .int .u64 0, .int .i64 0, .int .i64 0], .blk (w.heap.size + 1) 39 #[.int .i64 (me : Int), .int .i64 0, .int .i64 0, .int .i64 0, .int .u64 0, .int .i64 0, .int .i64 0]] := Mem.set 0 HM rfl 1 (.int .i64 0)
  replace HM : Mem (w) [] _ [.blk (w.heap.size) 39 #[.int .i64 (me : Int), .int .i64 0, .int .i64 0, .int .i64 0, .int .u64 0, .int .i64 0, .int .i64 0], .blk (w.heap.size + 1) 39 #[.int .i64 (me : Int), .int .i64 0, .int .i64 0, .int .i64 0, .int .u64 0, .int .i64 0, .int .i64 0]] := Mem.set 0 HM rfl 2 (.int .i64 0)
  replace HM : Mem (w) [] _ [.blk (w.heap.size) 39 #[.int .i64 (me : Int), .int .i64 0, .int .i64 0, .int .i64 0, .int .u64 0, .int .i64 0, .int .i64 0], .blk (w.heap.size + 1) 39 #[.int .i64 (me : Int), .int .i64 0, .int .i64 0, .int .i64 0, .int .u64 0, .int .i64 0, .int .i64 0]] := Mem.set 0 HM rfl 3 (.int .i64 0)
  replace HM : Mem (w) [] _ [.blk (w.heap.size) 39 #[.int .i64 (me : Int), .int .i64 0, .int .i64 0, .int .i64 0, .int .u64 0, .int .i64 0, .int .i64 0], .blk (w.heap.size + 1) 39 #[.int .i64 (me : Int), .int .i64 0, .int .i64 0, .int .i64 0, .int .u64 0, .int .i64 0, .int .i64 0]] := Mem.set 0 HM rfl 4 (.int .u64 0)
  replace HM : Mem (w) [] _ [.blk (w.heap.size) 39 #[.int .i64 (me : Int), .int .i64 0, .int .i64 0, .int .i64 0, .int .u64 0, .int .i64 0, .int .i64 0], .blk (w.heap.size + 1) 39 #[.int .i64 (me : Int), .int .i64 0, .int .i64 0, .int .i64 0, .int .u64 0, .int .i64 0, .int .i64 0]] := Mem.set 0 HM rfl 5 (.int .i64 0)
  replace HM : Mem (w) [] _ [.blk (w.heap.size) 39 #[.int .i64 (me : Int), .int .i64 0, .int .i64 0, .int .i64 0, .int .u64 0, .int .i64 0, .int .i64 0], .blk (w.heap.size + 1) 39 #[.int .i64 (me : Int), .int .i64 0, .int .i64 0, .int .i64 0, .int .u64 0, .int .i64 0, .int .i64 0]] := Mem.set 0 HM rfl 6 (.int .i64 0)
  rw [hwz] at HM ⊢
  clear hwz
  clear rs0 rsf0 rs1 rsf1 rs2 rsf2 rs3 rsf3 rs4 rsf4 rs5 rsf5 rs6 rsf6 rslt mb0 mbf0 mb1 mbf1 mb2 mbf2 mb3 mbf3 mb4 mbf4 mb5 mbf5 mb6 mbf6 mblt ne_rs_mb ne_mb_rs
  have rs0 : (wz).cell? ⟨w.heap.size, 0, none⟩ = some (.int .i64 (me : Int)) := (HM.blk 0 rfl).cell 0
  have rsf0 : (wz).frozen? ⟨w.heap.size, 0, none⟩ = false := (HM.blk 0 rfl).frozen 0
  have rs1 : (wz).cell? ⟨w.heap.size, 1, none⟩ = some (.int .i64 0) := (HM.blk 0 rfl).cell 1
  have rsf1 : (wz).frozen? ⟨w.heap.size, 1, none⟩ = false := (HM.blk 0 rfl).frozen 1
  have rs2 : (wz).cell? ⟨w.heap.size, 2, none⟩ = some (.int .i64 0) := (HM.blk 0 rfl).cell 2
  have rsf2 : (wz).frozen? ⟨w.heap.size, 2, none⟩ = false := (HM.blk 0 rfl).frozen 2
  have rs3 : (wz).cell? ⟨w.heap.size, 3, none⟩ = some (.int .i64 0) := (HM.blk 0 rfl).cell 3
  have rsf3 : (wz).frozen? ⟨w.heap.size, 3, none⟩ = false := (HM.blk 0 rfl).frozen 3
  have rs4 : (wz).cell? ⟨w.heap.size, 4, none⟩ = some (.int .u64 0) := (HM.blk 0 rfl).cell 4
  have rsf4 : (wz).frozen? ⟨w.heap.size, 4, none⟩ = false := (HM.blk 0 rfl).frozen 4
  have rs5 : (wz).cell? ⟨w.heap.size, 5, none⟩ = some (.int .i64 0) := (HM.blk 0 rfl).cell 5
  have rsf5 : (wz).frozen? ⟨w.heap.size, 5, none⟩ = false := (HM.blk 0 rfl).frozen 5
  have rs6 : (wz).cell? ⟨w.heap.size, 6, none⟩ = some (.int .i64 0) := (HM.blk 0 rfl).cell 6
  have rsf6 : (wz).frozen? ⟨w.heap.size, 6, none⟩ = false := (HM.blk 0 rfl).frozen 6
  have rslt : w.heap.size < (wz).heap.size := HM.lt 0 rfl
  refine bodyPost_ret (v := .tuple #[.agg #[.int .i64 (me : Int), .int .i64 0, .int .i64 0, .int .i64 0, .int .u64 0, .int .i64 0, .int .i64 0], .int .i64 0]) (by simp [results, Tryd.results17, go_sem, rs0, rs1, rs2, rs3, rs4, rs5, rs6]; done) rfl ?_
  exact ⟨rfl, HM.below⟩
end Go.Proofs.YtopnlkhepjbjkaaDoor

/- A meter in its words: pocket.Make, Boot, moved, Keyed, Ticked. -/
import Derived.Test.YtopnlkhepjbjkaaDoorG11
import Derived.Test.YtopnlkhepjbjkaaDoorG12
import Derived.Test.YtopnlkhepjbjkaaDoorG21
import Derived.Test.YtopnlkhepjbjkaaDoorG2
import Derived.Test.YtopnlkhepjbjkaaDoorG18
import Derived.Test.YtopnlkhepjbjkaaDoorG28
import Derived.Test.YtopnlkhepjbjkaaDoorG30
namespace Go.Proofs.YtopnlkhepjbjkaaDoor
open Go.RowKit
set_option linter.unusedVariables false
/-- The writes that make the meter another one. -/
def pkW (C : List Nat) (s me rev cr H B bad lock r2 c2 h2 b2 d2 k2 : Nat) : List (Nat × Nat) := if rev = r2 ∧ cr = c2 ∧ H = h2 ∧ B = b2 ∧ bad = d2 ∧ lock = k2 then [] else slW C 5 (mws me r2 c2 h2 b2 d2 k2) s
theorem pkW_same (C : List Nat) (s me r c h b d k : Nat) : pkW C s me r c h b d k r c h b d k = [] := by unfold pkW; rw [if_pos ⟨rfl, rfl, rfl, rfl, rfl, rfl⟩]
theorem pkW_diff {C : List Nat} {s me r c h b d k r2 c2 h2 b2 d2 k2 : Nat} (hn : ¬ (r = r2 ∧ c = c2 ∧ h = h2 ∧ b = b2 ∧ d = d2 ∧ k = k2)) : pkW C s me r c h b d k r2 c2 h2 b2 d2 k2 = slW C 5 (mws me r2 c2 h2 b2 d2 k2) s := by unfold pkW; rw [if_neg hn]
/-- The answer is writes. -/
def RetWrV (P : List (Nat × Nat)) (w : World) (e : Ending) (w' : World) : Prop := ∃ u, e = .returned u ∧ IsWr w' u P ∧ Below w.heap.size w w'
/-- The answer of Keyed, of Ticked. -/
def RetKeyed (P : List (Nat × Nat)) (ad E : Nat) (w : World) (e : Ending) (w' : World) : Prop := ∃ u, e = .returned (.tuple #[u, .int .i64 (ad : Int), .int .i64 (E : Int)]) ∧ IsWr w' u P ∧ Below w.heap.size w w'
theorem iswr_nil (w : World) : IsWr w (.slice none 0 0) [] := by
  exact ⟨none, 0, rfl, Nat.le_refl _, by unfold maxLen; omega, by simp, Rd.nil_⟩
theorem pmeter_eql (a b c d e f g a' b' c' d' e' f' g' : Int) (W : World) :
    (Op.equalIn 10000 39 (.agg #[.int .i64 a, .int .i64 b, .int .i64 c, .int .i64 d, .int .u64 e, .int .i64 f, .int .i64 g]) (.agg #[.int .i64 a', .int .i64 b', .int .i64 c', .int .i64 d', .int .u64 e', .int .i64 f', .int .i64 g'])).run Tryd.prog W = .ok (a == a' && (b == b' && (c == c' && (d == d' && (e == e' && (f == f' && g == g')))))) W := by
  have h := eq_is (P := Tryd.prog) (t := 39) [.int .i64 a, .int .i64 b, .int .i64 c, .int .i64 d, .int .u64 e, .int .i64 f, .int .i64 g] [.int .i64 a', .int .i64 b', .int .i64 c', .int .i64 d', .int .u64 e', .int .i64 f', .int .i64 g'] W (by kernel_rfl) (mkv_struct Tryd.underlying39)
  simpa [cellsEq, leafEq] using h
theorem pmeter_same (me r c h b d k r2 c2 h2 b2 d2 k2 : Nat) (v : Bool) (hv : decide (r = r2 ∧ c = c2 ∧ h = h2 ∧ b = b2 ∧ d = d2 ∧ k = k2) = v) (W : World) :
    (Op.equalIn 10000 39 (.agg #[.int .i64 (me : Int), .int .i64 (r : Int), .int .i64 (c : Int), .int .i64 (h : Int), .int .u64 (b : Int), .int .i64 (d : Int), .int .i64 (k : Int)]) (.agg #[.int .i64 (me : Int), .int .i64 (r2 : Int), .int .i64 (c2 : Int), .int .i64 (h2 : Int), .int .u64 (b2 : Int), .int .i64 (d2 : Int), .int .i64 (k2 : Int)])).run Tryd.prog W = .ok v W := by
  rw [pmeter_eql, ← hv]
  congr 1
  rw [Bool.eq_iff_iff]
  simp only [Bool.and_eq_true, beq_iff_eq, decide_eq_true_eq, Int.natCast_inj, true_and]
set_option maxRecDepth 100000 in
set_option maxHeartbeats 2000000 in
theorem boot_ok (v : Value) (C : List Nat) (me rev cr H b bad lock s : Nat) (w : World) (hv : IsWs w v C) (hsl : IsSl C 5 (mws me rev cr H b bad lock) s) (hb : b < 2 ^ 64) (hm : mmay me rev cr H b bad lock = true) :
    Calls Tryd.prog 11 #[v] w fun e w' => e = .returned (.tuple #[.agg #[.int .i64 (me : Int), .int .i64 (rev : Int), .int .i64 (cr : Int), .int .i64 (H : Int), .int .u64 (b : Int), .int .i64 (bad : Int), .int .i64 (lock : Int)], .int .i64 0]) ∧ Below w.heap.size w w' := by
  have hL := fun W h => load_ok v C _ 5 s W h hsl (by omega) (by omega)
  obtain ⟨q1, q2, q3, q4, q5⟩ := mws_back hb hm
  have hR := fun u W h => mread_ok u cr (lock * 16777216 + bad * 65536 + rev * 256 + me) H (b % 4294967296) (b / 4294967296) me rev b bad lock true W h q1 q2 q3 q4 q5 (Lib.hid hm)
  unfold RetMRead at hR
  simp only [if_true] at hR
  clear hsl hm q1 q2 q3 q4 q5
  have HV := Lib.hid hv
  clear hv
  have HM := Mem.init w
  go_enter Tryd.func11, Tryd.ntmps11
  go_wp2_with fail
  obtain ⟨W0, hW0⟩ : ∃ W0, (w).alloc (.cells #[.int .i64 0, .int .i64 0, .int .i64 0, .int .i64 0, .int .u64 0, .int .i64 0, .int .i64 0] 39) = W0 := ⟨_, rfl⟩
  replace HM : Mem (w) [] _ [.blk (w.heap.size) 39 #[.int .i64 0, .int .i64 0, .int .i64 0, .int .i64 0, .int .u64 0, .int .i64 0, .int .i64 0]] := Mem.alloc HM (w.heap.size) (by first | (simp; done) | (simp; omega)) #[.int .i64 0, .int .i64 0, .int .i64 0, .int .i64 0, .int .u64 0, .int .i64 0, .int .i64 0] 39
  rw [hW0] at HM ⊢
  clear hW0
  refine (hL _ (HV.out.below HM.below)).mono ?_
  rintro e wa ⟨u, rfl, hu, hba⟩
  replace HM : Mem (w) [] (wa) [.blk (w.heap.size) 39 #[.int .i64 0, .int .i64 0, .int .i64 0, .int .i64 0, .int .u64 0, .int .i64 0, .int .i64 0]] := Mem.call HM hba
  have rs0 : (wa).cell? ⟨w.heap.size, 0, none⟩ = some (.int .i64 0) := (HM.blk 0 rfl).cell 0
  have rsf0 : (wa).frozen? ⟨w.heap.size, 0, none⟩ = false := (HM.blk 0 rfl).frozen 0
  have rs1 : (wa).cell? ⟨w.heap.size, 1, none⟩ = some (.int .i64 0) := (HM.blk 0 rfl).cell 1
  have rsf1 : (wa).frozen? ⟨w.heap.size, 1, none⟩ = false := (HM.blk 0 rfl).frozen 1
  have rs2 : (wa).cell? ⟨w.heap.size, 2, none⟩ = some (.int .i64 0) := (HM.blk 0 rfl).cell 2
  have rsf2 : (wa).frozen? ⟨w.heap.size, 2, none⟩ = false := (HM.blk 0 rfl).frozen 2
  have rs3 : (wa).cell? ⟨w.heap.size, 3, none⟩ = some (.int .i64 0) := (HM.blk 0 rfl).cell 3
  have rsf3 : (wa).frozen? ⟨w.heap.size, 3, none⟩ = false := (HM.blk 0 rfl).frozen 3
  have rs4 : (wa).cell? ⟨w.heap.size, 4, none⟩ = some (.int .u64 0) := (HM.blk 0 rfl).cell 4
  have rsf4 : (wa).frozen? ⟨w.heap.size, 4, none⟩ = false := (HM.blk 0 rfl).frozen 4
  have rs5 : (wa).cell? ⟨w.heap.size, 5, none⟩ = some (.int .i64 0) := (HM.blk 0 rfl).cell 5
  have rsf5 : (wa).frozen? ⟨w.heap.size, 5, none⟩ = false := (HM.blk 0 rfl).frozen 5
  have rs6 : (wa).cell? ⟨w.heap.size, 6, none⟩ = some (.int .i64 0) := (HM.blk 0 rfl).cell 6
  have rsf6 : (wa).frozen? ⟨w.heap.size, 6, none⟩ = false := (HM.blk 0 rfl).frozen 6
  have rslt : w.heap.size < (wa).heap.size := HM.lt 0 rfl
  clear hba hL
  go_wp2_with fail
  refine (hR u _ hu).mono ?_
  rintro e wb ⟨rfl, hbb⟩
  replace HM : Mem (w) [] (wb) [.blk (w.heap.size) 39 #[.int .i64 0, .int .i64 0, .int .i64 0, .int .i64 0, .int .u64 0, .int .i64 0, .int .i64 0]] := Mem.call HM hbb
  clear rs0 rsf0 rs1 rsf1 rs2 rsf2 rs3 rsf3 rs4 rsf4 rs5 rsf5 rs6 rsf6 rslt
  have rs0 : (wb).cell? ⟨w.heap.size, 0, none⟩ = some (.int .i64 0) := (HM.blk 0 rfl).cell 0
  have rsf0 : (wb).frozen? ⟨w.heap.size, 0, none⟩ = false := (HM.blk 0 rfl).frozen 0
  have rs1 : (wb).cell? ⟨w.heap.size, 1, none⟩ = some (.int .i64 0) := (HM.blk 0 rfl).cell 1
  have rsf1 : (wb).frozen? ⟨w.heap.size, 1, none⟩ = false := (HM.blk 0 rfl).frozen 1
  have rs2 : (wb).cell? ⟨w.heap.size, 2, none⟩ = some (.int .i64 0) := (HM.blk 0 rfl).cell 2
  have rsf2 : (wb).frozen? ⟨w.heap.size, 2, none⟩ = false := (HM.blk 0 rfl).frozen 2
  have rs3 : (wb).cell? ⟨w.heap.size, 3, none⟩ = some (.int .i64 0) := (HM.blk 0 rfl).cell 3
  have rsf3 : (wb).frozen? ⟨w.heap.size, 3, none⟩ = false := (HM.blk 0 rfl).frozen 3
  have rs4 : (wb).cell? ⟨w.heap.size, 4, none⟩ = some (.int .u64 0) := (HM.blk 0 rfl).cell 4
  have rsf4 : (wb).frozen? ⟨w.heap.size, 4, none⟩ = false := (HM.blk 0 rfl).frozen 4
  have rs5 : (wb).cell? ⟨w.heap.size, 5, none⟩ = some (.int .i64 0) := (HM.blk 0 rfl).cell 5
  have rsf5 : (wb).frozen? ⟨w.heap.size, 5, none⟩ = false := (HM.blk 0 rfl).frozen 5
  have rs6 : (wb).cell? ⟨w.heap.size, 6, none⟩ = some (.int .i64 0) := (HM.blk 0 rfl).cell 6
  have rsf6 : (wb).frozen? ⟨w.heap.size, 6, none⟩ = false := (HM.blk 0 rfl).frozen 6
  have rslt : w.heap.size < (wb).heap.size := HM.lt 0 rfl
  clear hbb hR hu
  go_wp2
  obtain ⟨wz, hwz⟩ : ∃ wz, (((((((wb).setCell ⟨w.heap.size, 0, none⟩ (.int .i64 (me : Int))).setCell ⟨w.heap.size, 1, none⟩ (.int .i64 (rev : Int))).setCell ⟨w.heap.size, 2, none⟩ (.int .i64 (cr : Int))).setCell ⟨w.heap.size, 3, none⟩ (.int .i64 (H : Int))).setCell ⟨w.heap.size, 4, none⟩ (.int .u64 (b : Int))).setCell ⟨w.heap.size, 5, none⟩ (.int .i64 (bad : Int))).setCell ⟨w.heap.size, 6, none⟩ (.int .i64 (lock : Int)) = wz := ⟨_, rfl⟩
  replace HM : Mem (w) [] _ [.blk (w.heap.size) 39 #[.int .i64 (me : Int), .int .i64 0, .int .i64 0, .int .i64 0, .int .u64 0, .int .i64 0, .int .i64 0]] := Mem.set 0 HM rfl 0 (.int .i64 (me : Int))
  replace HM : Mem (w) [] _ [.blk (w.heap.size) 39 #[.int .i64 (me : Int), .int .i64 (rev : Int), .int .i64 0, .int .i64 0, .int .u64 0, .int .i64 0, .int .i64 0]] := Mem.set 0 HM rfl 1 (.int .i64 (rev : Int))
  replace HM : Mem (w) [] _ [.blk (w.heap.size) 39 #[.int .i64 (me : Int), .int .i64 (rev : Int), .int .i64 (cr : Int), .int .i64 0, .int .u64 0, .int .i64 0, .int .i64 0]] := Mem.set 0 HM rfl 2 (.int .i64 (cr : Int))
  replace HM : Mem (w) [] _ [.blk (w.heap.size) 39 #[.int .i64 (me : Int), .int .i64 (rev : Int), .int .i64 (cr : Int), .int .i64 (H : Int), .int .u64 0, .int .i64 0, .int .i64 0]] := Mem.set 0 HM rfl 3 (.int .i64 (H : Int))
  replace HM : Mem (w) [] _ [.blk (w.heap.size) 39 #[.int .i64 (me : Int), .int .i64 (rev : Int), .int .i64 (cr : Int), .int .i64 (H : Int), .int .u64 (b : Int), .int .i64 0, .int .i64 0]] := Mem.set 0 HM rfl 4 (.int .u64 (b : Int))
  replace HM : Mem (w) [] _ [.blk (w.heap.size) 39 #[.int .i64 (me : Int), .int .i64 (rev : Int), .int .i64 (cr : Int), .int .i64 (H : Int), .int .u64 (b : Int), .int .i64 (bad : Int), .int .i64 0]] := Mem.set 0 HM rfl 5 (.int .i64 (bad : Int))
  replace HM : Mem (w) [] _ [.blk (w.heap.size) 39 #[.int .i64 (me : Int), .int .i64 (rev : Int), .int .i64 (cr : Int), .int .i64 (H : Int), .int .u64 (b : Int), .int .i64 (bad : Int), .int .i64 (lock : Int)]] := Mem.set 0 HM rfl 6 (.int .i64 (lock : Int))
  rw [hwz] at HM ⊢
  clear hwz
  clear rs0 rsf0 rs1 rsf1 rs2 rsf2 rs3 rsf3 rs4 rsf4 rs5 rsf5 rs6 rsf6 rslt
  have rs0 : (wz).cell? ⟨w.heap.size, 0, none⟩ = some (.int .i64 (me : Int)) := (HM.blk 0 rfl).cell 0
  have rsf0 : (wz).frozen? ⟨w.heap.size, 0, none⟩ = false := (HM.blk 0 rfl).frozen 0
  have rs1 : (wz).cell? ⟨w.heap.size, 1, none⟩ = some (.int .i64 (rev : Int)) := (HM.blk 0 rfl).cell 1
  have rsf1 : (wz).frozen? ⟨w.heap.size, 1, none⟩ = false := (HM.blk 0 rfl).frozen 1
  have rs2 : (wz).cell? ⟨w.heap.size, 2, none⟩ = some (.int .i64 (cr : Int)) := (HM.blk 0 rfl).cell 2
  have rsf2 : (wz).frozen? ⟨w.heap.size, 2, none⟩ = false := (HM.blk 0 rfl).frozen 2
  have rs3 : (wz).cell? ⟨w.heap.size, 3, none⟩ = some (.int .i64 (H : Int)) := (HM.blk 0 rfl).cell 3
  have rsf3 : (wz).frozen? ⟨w.heap.size, 3, none⟩ = false := (HM.blk 0 rfl).frozen 3
  have rs4 : (wz).cell? ⟨w.heap.size, 4, none⟩ = some (.int .u64 (b : Int)) := (HM.blk 0 rfl).cell 4
  have rsf4 : (wz).frozen? ⟨w.heap.size, 4, none⟩ = false := (HM.blk 0 rfl).frozen 4
  have rs5 : (wz).cell? ⟨w.heap.size, 5, none⟩ = some (.int .i64 (bad : Int)) := (HM.blk 0 rfl).cell 5
  have rsf5 : (wz).frozen? ⟨w.heap.size, 5, none⟩ = false := (HM.blk 0 rfl).frozen 5
  have rs6 : (wz).cell? ⟨w.heap.size, 6, none⟩ = some (.int .i64 (lock : Int)) := (HM.blk 0 rfl).cell 6
  have rsf6 : (wz).frozen? ⟨w.heap.size, 6, none⟩ = false := (HM.blk 0 rfl).frozen 6
  have rslt : w.heap.size < (wz).heap.size := HM.lt 0 rfl
  refine bodyPost_ret (v := .tuple #[.agg #[.int .i64 (me : Int), .int .i64 (rev : Int), .int .i64 (cr : Int), .int .i64 (H : Int), .int .u64 (b : Int), .int .i64 (bad : Int), .int .i64 (lock : Int)], .int .i64 0]) (by simp [results, Tryd.results11, go_sem, rs0, rs1, rs2, rs3, rs4, rs5, rs6]; done) rfl ?_
  exact ⟨rfl, HM.below⟩
set_option maxRecDepth 100000 in
set_option maxHeartbeats 4000000 in
theorem moved_to (v : Value) (C old : List Nat) (me rev cr H B bad lock r2 c2 h2 b2 d2 k2 s : Nat) (w : World) (hv : IsWs w v C) (hsl : IsSl C 5 old s) (hb : b2 < 2 ^ 64) (hm : mmay me r2 c2 h2 b2 d2 k2 = true) :
    Calls Tryd.prog 21 #[v, .agg #[.int .i64 (me : Int), .int .i64 (rev : Int), .int .i64 (cr : Int), .int .i64 (H : Int), .int .u64 (B : Int), .int .i64 (bad : Int), .int .i64 (lock : Int)], .agg #[.int .i64 (me : Int), .int .i64 (r2 : Int), .int .i64 (c2 : Int), .int .i64 (h2 : Int), .int .u64 (b2 : Int), .int .i64 (d2 : Int), .int .i64 (k2 : Int)]] w (RetWrV (pkW C s me rev cr H B bad lock r2 c2 h2 b2 d2 k2) w) := by
  have hW := fun W => mwords_ok me r2 c2 h2 b2 d2 k2 W hb hm
  have hSt := fun u W h k => store_ok v u C (mws me r2 c2 h2 b2 d2 k2) old 5 s W h k hsl rfl (by omega) (by omega)
  have HV := Lib.hid hv
  clear hv hsl hm hb
  have HM := Mem.init w
  obtain ⟨W0, hW0⟩ : ∃ W0, ((w).alloc (.cells #[.int .i64 (me : Int), .int .i64 (rev : Int), .int .i64 (cr : Int), .int .i64 (H : Int), .int .u64 (B : Int), .int .i64 (bad : Int), .int .i64 (lock : Int)] 39)).alloc (.cells #[.int .i64 (me : Int), .int .i64 (r2 : Int), .int .i64 (c2 : Int), .int .i64 (h2 : Int), .int .u64 (b2 : Int), .int .i64 (d2 : Int), .int .i64 (k2 : Int)] 39) = W0 := ⟨_, rfl⟩
  replace HM : Mem (w) [] _ [.blk (w.heap.size) 39 #[.int .i64 (me : Int), .int .i64 (rev : Int), .int .i64 (cr : Int), .int .i64 (H : Int), .int .u64 (B : Int), .int .i64 (bad : Int), .int .i64 (lock : Int)]] := Mem.alloc HM (w.heap.size) (by first | (simp; done) | (simp; omega)) #[.int .i64 (me : Int), .int .i64 (rev : Int), .int .i64 (cr : Int), .int .i64 (H : Int), .int .u64 (B : Int), .int .i64 (bad : Int), .int .i64 (lock : Int)] 39
  replace HM : Mem (w) [] _ [.blk (w.heap.size) 39 #[.int .i64 (me : Int), .int .i64 (rev : Int), .int .i64 (cr : Int), .int .i64 (H : Int), .int .u64 (B : Int), .int .i64 (bad : Int), .int .i64 (lock : Int)], .blk (w.heap.size + 1) 39 #[.int .i64 (me : Int), .int .i64 (r2 : Int), .int .i64 (c2 : Int), .int .i64 (h2 : Int), .int .u64 (b2 : Int), .int .i64 (d2 : Int), .int .i64 (k2 : Int)]] := Mem.alloc HM (w.heap.size + 1) (by first | (simp; done) | (simp; omega)) #[.int .i64 (me : Int), .int .i64 (r2 : Int), .int .i64 (c2 : Int), .int .i64 (h2 : Int), .int .u64 (b2 : Int), .int .i64 (d2 : Int), .int .i64 (k2 : Int)] 39
  rw [hW0] at HM
  have ol0 : (W0).cell? ⟨w.heap.size, 0, none⟩ = some (.int .i64 (me : Int)) := (HM.blk 0 rfl).cell 0
  have olf0 : (W0).frozen? ⟨w.heap.size, 0, none⟩ = false := (HM.blk 0 rfl).frozen 0
  have ol1 : (W0).cell? ⟨w.heap.size, 1, none⟩ = some (.int .i64 (rev : Int)) := (HM.blk 0 rfl).cell 1
  have olf1 : (W0).frozen? ⟨w.heap.size, 1, none⟩ = false := (HM.blk 0 rfl).frozen 1
  have ol2 : (W0).cell? ⟨w.heap.size, 2, none⟩ = some (.int .i64 (cr : Int)) := (HM.blk 0 rfl).cell 2
  have olf2 : (W0).frozen? ⟨w.heap.size, 2, none⟩ = false := (HM.blk 0 rfl).frozen 2
  have ol3 : (W0).cell? ⟨w.heap.size, 3, none⟩ = some (.int .i64 (H : Int)) := (HM.blk 0 rfl).cell 3
  have olf3 : (W0).frozen? ⟨w.heap.size, 3, none⟩ = false := (HM.blk 0 rfl).frozen 3
  have ol4 : (W0).cell? ⟨w.heap.size, 4, none⟩ = some (.int .u64 (B : Int)) := (HM.blk 0 rfl).cell 4
  have olf4 : (W0).frozen? ⟨w.heap.size, 4, none⟩ = false := (HM.blk 0 rfl).frozen 4
  have ol5 : (W0).cell? ⟨w.heap.size, 5, none⟩ = some (.int .i64 (bad : Int)) := (HM.blk 0 rfl).cell 5
  have olf5 : (W0).frozen? ⟨w.heap.size, 5, none⟩ = false := (HM.blk 0 rfl).frozen 5
  have ol6 : (W0).cell? ⟨w.heap.size, 6, none⟩ = some (.int .i64 (lock : Int)) := (HM.blk 0 rfl).cell 6
  have olf6 : (W0).frozen? ⟨w.heap.size, 6, none⟩ = false := (HM.blk 0 rfl).frozen 6
  have ollt : w.heap.size < (W0).heap.size := HM.lt 0 rfl
  have nx0 : (W0).cell? ⟨w.heap.size + 1, 0, none⟩ = some (.int .i64 (me : Int)) := (HM.blk 1 rfl).cell 0
  have nxf0 : (W0).frozen? ⟨w.heap.size + 1, 0, none⟩ = false := (HM.blk 1 rfl).frozen 0
  have nx1 : (W0).cell? ⟨w.heap.size + 1, 1, none⟩ = some (.int .i64 (r2 : Int)) := (HM.blk 1 rfl).cell 1
  have nxf1 : (W0).frozen? ⟨w.heap.size + 1, 1, none⟩ = false := (HM.blk 1 rfl).frozen 1
  have nx2 : (W0).cell? ⟨w.heap.size + 1, 2, none⟩ = some (.int .i64 (c2 : Int)) := (HM.blk 1 rfl).cell 2
  have nxf2 : (W0).frozen? ⟨w.heap.size + 1, 2, none⟩ = false := (HM.blk 1 rfl).frozen 2
  have nx3 : (W0).cell? ⟨w.heap.size + 1, 3, none⟩ = some (.int .i64 (h2 : Int)) := (HM.blk 1 rfl).cell 3
  have nxf3 : (W0).frozen? ⟨w.heap.size + 1, 3, none⟩ = false := (HM.blk 1 rfl).frozen 3
  have nx4 : (W0).cell? ⟨w.heap.size + 1, 4, none⟩ = some (.int .u64 (b2 : Int)) := (HM.blk 1 rfl).cell 4
  have nxf4 : (W0).frozen? ⟨w.heap.size + 1, 4, none⟩ = false := (HM.blk 1 rfl).frozen 4
  have nx5 : (W0).cell? ⟨w.heap.size + 1, 5, none⟩ = some (.int .i64 (d2 : Int)) := (HM.blk 1 rfl).cell 5
  have nxf5 : (W0).frozen? ⟨w.heap.size + 1, 5, none⟩ = false := (HM.blk 1 rfl).frozen 5
  have nx6 : (W0).cell? ⟨w.heap.size + 1, 6, none⟩ = some (.int .i64 (k2 : Int)) := (HM.blk 1 rfl).cell 6
  have nxf6 : (W0).frozen? ⟨w.heap.size + 1, 6, none⟩ = false := (HM.blk 1 rfl).frozen 6
  have nxlt : w.heap.size + 1 < (W0).heap.size := HM.lt 1 rfl
  have ne_ol_nx : w.heap.size ≠ w.heap.size + 1 := HM.ne 0 1 rfl rfl (by decide)
  have ne_nx_ol : w.heap.size + 1 ≠ w.heap.size := HM.ne 1 0 rfl rfl (by decide)

  unfold pkW
  by_cases hq : rev = r2 ∧ cr = c2 ∧ H = h2 ∧ B = b2 ∧ bad = d2 ∧ lock = k2
  · rw [if_pos hq]
    have hE := fun W => pmeter_same me rev cr H B bad lock r2 c2 h2 b2 d2 k2 true (decide_eq_true hq) W
    clear hq hW hSt
    go_enter Tryd.func21, Tryd.ntmps21
    go_wp2
    go_ret
    exact ⟨_, rfl, iswr_nil _, HM.below⟩
  · skip
    rw [if_neg hq]
    have hE := fun W => pmeter_same me rev cr H B bad lock r2 c2 h2 b2 d2 k2 false (decide_eq_false hq) W
    clear hq
    go_enter Tryd.func21, Tryd.ntmps21
    go_wp2_with fail
    refine (hW _).mono ?_
    rintro e wa ⟨u, rfl, hu, hba⟩
    replace HM : Mem (w) [] (wa) [.blk (w.heap.size) 39 #[.int .i64 (me : Int), .int .i64 (rev : Int), .int .i64 (cr : Int), .int .i64 (H : Int), .int .u64 (B : Int), .int .i64 (bad : Int), .int .i64 (lock : Int)], .blk (w.heap.size + 1) 39 #[.int .i64 (me : Int), .int .i64 (r2 : Int), .int .i64 (c2 : Int), .int .i64 (h2 : Int), .int .u64 (b2 : Int), .int .i64 (d2 : Int), .int .i64 (k2 : Int)]] := Mem.call HM hba
    clear hba hW hW0
    go_wp2_with fail
    refine (hSt u _ (HV.out.below HM.below) hu).mono ?_
    rintro e wb ⟨y, rfl, hy, hbb⟩
    replace HM : Mem (w) [] (wb) [.blk (w.heap.size) 39 #[.int .i64 (me : Int), .int .i64 (rev : Int), .int .i64 (cr : Int), .int .i64 (H : Int), .int .u64 (B : Int), .int .i64 (bad : Int), .int .i64 (lock : Int)], .blk (w.heap.size + 1) 39 #[.int .i64 (me : Int), .int .i64 (r2 : Int), .int .i64 (c2 : Int), .int .i64 (h2 : Int), .int .u64 (b2 : Int), .int .i64 (d2 : Int), .int .i64 (k2 : Int)]] := Mem.call HM hbb
    have HY := Lib.hid hy
    clear hbb hSt hu hy
    go_wp2
    go_ret
    exact ⟨_, rfl, HY.out, HM.below⟩
set_option maxRecDepth 100000 in
set_option maxHeartbeats 4000000 in
theorem keyed_err (v o : Value) (C : List Nat) (S : ByteArray) (me rev cr H b bad lock s c i a t E : Nat) (w : World) (hv : IsWs w v C) (hsl : IsSl C 5 (mws me rev cr H b bad lock) s) (hb : b < 2 ^ 64) (hm : mmay me rev cr H b bad lock = true) (hE : E ≠ 0) (hP : ∀ W, Calls Tryd.prog 20 #[.string S] W (RetTok c i a t E W)) :
    Calls Tryd.prog 9 #[v, .agg #[o], .string S] w (RetKeyed [] 0 E w) := by
  have hB := fun W h => boot_ok v C me rev cr H b bad lock s W h hsl hb hm
  unfold RetTok at hP
  have hE0 : ((E : Int) == 0) = false := by rw [beq_eq_false_iff_ne]; omega
  have hE1 : ¬ (E : Int) = 0 := by omega
  have HV := Lib.hid hv
  clear hv hsl hm hb hE
  have HM := Mem.init w
  go_enter Tryd.func9, Tryd.ntmps9
  go_wp2_with fail
  obtain ⟨W0, hW0⟩ : ∃ W0, (w).alloc (.cells #[o] 33) = W0 := ⟨_, rfl⟩
  replace HM : Mem (w) [] _ [.blk (w.heap.size) 33 #[o]] := Mem.alloc HM (w.heap.size) (by first | (simp; done) | (simp; omega)) #[o] 33
  rw [hW0] at HM ⊢
  clear hW0
  refine (hB _ (HV.out.below HM.below)).mono ?_
  rintro e wa ⟨rfl, hba⟩
  replace HM : Mem (w) [] (wa) [.blk (w.heap.size) 33 #[o]] := Mem.call HM hba
  clear hba hB
  go_wp2_with fail
  obtain ⟨W1, hW1⟩ : ∃ W1, (wa).alloc (.cells #[.int .i64 (me : Int), .int .i64 (rev : Int), .int .i64 (cr : Int), .int .i64 (H : Int), .int .u64 (b : Int), .int .i64 (bad : Int), .int .i64 (lock : Int)] 39) = W1 := ⟨_, rfl⟩
  replace HM : Mem (w) [] _ [.blk (w.heap.size) 33 #[o], .blk (wa.heap.size) 39 #[.int .i64 (me : Int), .int .i64 (rev : Int), .int .i64 (cr : Int), .int .i64 (H : Int), .int .u64 (b : Int), .int .i64 (bad : Int), .int .i64 (lock : Int)]] := Mem.alloc HM (wa.heap.size) (by first | (simp; done) | (simp; omega)) #[.int .i64 (me : Int), .int .i64 (rev : Int), .int .i64 (cr : Int), .int .i64 (H : Int), .int .u64 (b : Int), .int .i64 (bad : Int), .int .i64 (lock : Int)] 39
  rw [hW1] at HM ⊢
  clear hW1
  refine (hP _).mono ?_
  rintro e wb ⟨rfl, hbb⟩
  replace HM : Mem (w) [] (wb) [.blk (w.heap.size) 33 #[o], .blk (wa.heap.size) 39 #[.int .i64 (me : Int), .int .i64 (rev : Int), .int .i64 (cr : Int), .int .i64 (H : Int), .int .u64 (b : Int), .int .i64 (bad : Int), .int .i64 (lock : Int)]] := Mem.call HM hbb
  clear hbb hP
  go_wp2
  obtain ⟨W2, hW2⟩ : ∃ W2, (wb).alloc (.cells #[.int .i64 (c : Int), .int .i64 (i : Int), .int .i64 (a : Int), .int .i64 (t : Int)] 48) = W2 := ⟨_, rfl⟩
  replace HM : Mem (w) [] _ [.blk (w.heap.size) 33 #[o], .blk (wa.heap.size) 39 #[.int .i64 (me : Int), .int .i64 (rev : Int), .int .i64 (cr : Int), .int .i64 (H : Int), .int .u64 (b : Int), .int .i64 (bad : Int), .int .i64 (lock : Int)], .blk (wb.heap.size) 48 #[.int .i64 (c : Int), .int .i64 (i : Int), .int .i64 (a : Int), .int .i64 (t : Int)]] := Mem.alloc HM (wb.heap.size) (by first | (simp; done) | (simp; omega)) #[.int .i64 (c : Int), .int .i64 (i : Int), .int .i64 (a : Int), .int .i64 (t : Int)] 48
  rw [hW2] at HM ⊢
  clear hW2
  go_ret3
  exact ⟨_, rfl, iswr_nil _, HM.below⟩
set_option maxRecDepth 100000 in
set_option maxHeartbeats 4000000 in
theorem keyed_ok (v o : Value) (C : List Nat) (l : List Pr) (S : ByteArray) (me rev cr H b bad lock s cls id am tag r2 c2 h2 b2 d2 k2 ad E : Nat) (w : World) (hv : IsWs w v C) (ho : IsPs w o l) (hO : OOk l) (hsl : IsSl C 5 (mws me rev cr H b bad lock) s) (hb : b < 2 ^ 64) (hm : mmay me rev cr H b bad lock = true) (hk : TkOk cls id am tag) (hP : ∀ W, Calls Tryd.prog 20 #[.string S] W (RetTok cls id am tag 0 W)) (hR : Hid (keyS l me rev cr H b bad lock cls id am tag = (r2, c2, h2, b2, d2, k2, ad, E))) (hE : E ≠ 5) :
    Calls Tryd.prog 9 #[v, .agg #[o], .string S] w (RetKeyed (pkW C s me rev cr H b bad lock r2 c2 h2 b2 d2 k2) ad E w) := by
  have hB := fun W h => boot_ok v C me rev cr H b bad lock s W h hsl hb hm
  have hK := fun W h => key_ok o l me rev cr H b bad lock cls id am tag r2 c2 h2 b2 d2 k2 ad E W h hO hb hm hk hR
  obtain ⟨hm2, hb2⟩ := keyS_may hb hm hk hR.out
  have hMv := fun W h => moved_to v C (mws me rev cr H b bad lock) me rev cr H b bad lock r2 c2 h2 b2 d2 k2 s W h hsl hb2 hm2
  unfold RetTok at hP
  unfold RetWrV at hMv
  have hE0 : ((E : Int) == 5) = false := by rw [beq_eq_false_iff_ne]; omega
  have hE1 : ¬ (E : Int) = 5 := by omega
  have HV := Lib.hid hv
  have HO := Lib.hid ho
  clear hv ho hsl hm hb hE hO hk hR hm2 hb2
  obtain ⟨P, hPk⟩ : ∃ P, pkW C s me rev cr H b bad lock r2 c2 h2 b2 d2 k2 = P := ⟨_, rfl⟩
  rw [hPk] at hMv ⊢
  clear hPk
  have HM := Mem.init w
  go_enter Tryd.func9, Tryd.ntmps9
  go_wp2_with fail
  obtain ⟨W0, hW0⟩ : ∃ W0, (w).alloc (.cells #[o] 33) = W0 := ⟨_, rfl⟩
  replace HM : Mem (w) [] _ [.blk (w.heap.size) 33 #[o]] := Mem.alloc HM (w.heap.size) (by first | (simp; done) | (simp; omega)) #[o] 33
  rw [hW0] at HM ⊢
  clear hW0
  refine (hB _ (HV.out.below HM.below)).mono ?_
  rintro e wa ⟨rfl, hba⟩
  replace HM : Mem (w) [] (wa) [.blk (w.heap.size) 33 #[o]] := Mem.call HM hba
  clear hba hB
  go_wp2_with fail
  obtain ⟨W1, hW1⟩ : ∃ W1, (wa).alloc (.cells #[.int .i64 (me : Int), .int .i64 (rev : Int), .int .i64 (cr : Int), .int .i64 (H : Int), .int .u64 (b : Int), .int .i64 (bad : Int), .int .i64 (lock : Int)] 39) = W1 := ⟨_, rfl⟩
  replace HM : Mem (w) [] _ [.blk (w.heap.size) 33 #[o], .blk (wa.heap.size) 39 #[.int .i64 (me : Int), .int .i64 (rev : Int), .int .i64 (cr : Int), .int .i64 (H : Int), .int .u64 (b : Int), .int .i64 (bad : Int), .int .i64 (lock : Int)]] := Mem.alloc HM (wa.heap.size) (by first | (simp; done) | (simp; omega)) #[.int .i64 (me : Int), .int .i64 (rev : Int), .int .i64 (cr : Int), .int .i64 (H : Int), .int .u64 (b : Int), .int .i64 (bad : Int), .int .i64 (lock : Int)] 39
  rw [hW1] at HM ⊢
  clear hW1
  refine (hP _).mono ?_
  rintro e wb ⟨rfl, hbb⟩
  replace HM : Mem (w) [] (wb) [.blk (w.heap.size) 33 #[o], .blk (wa.heap.size) 39 #[.int .i64 (me : Int), .int .i64 (rev : Int), .int .i64 (cr : Int), .int .i64 (H : Int), .int .u64 (b : Int), .int .i64 (bad : Int), .int .i64 (lock : Int)]] := Mem.call HM hbb
  have oc0 : (wb).cell? ⟨w.heap.size, 0, none⟩ = some (o) := (HM.blk 0 rfl).cell 0
  have ocf0 : (wb).frozen? ⟨w.heap.size, 0, none⟩ = false := (HM.blk 0 rfl).frozen 0
  have oclt : w.heap.size < (wb).heap.size := HM.lt 0 rfl
  have ol0 : (wb).cell? ⟨wa.heap.size, 0, none⟩ = some (.int .i64 (me : Int)) := (HM.blk 1 rfl).cell 0
  have olf0 : (wb).frozen? ⟨wa.heap.size, 0, none⟩ = false := (HM.blk 1 rfl).frozen 0
  have ol1 : (wb).cell? ⟨wa.heap.size, 1, none⟩ = some (.int .i64 (rev : Int)) := (HM.blk 1 rfl).cell 1
  have olf1 : (wb).frozen? ⟨wa.heap.size, 1, none⟩ = false := (HM.blk 1 rfl).frozen 1
  have ol2 : (wb).cell? ⟨wa.heap.size, 2, none⟩ = some (.int .i64 (cr : Int)) := (HM.blk 1 rfl).cell 2
  have olf2 : (wb).frozen? ⟨wa.heap.size, 2, none⟩ = false := (HM.blk 1 rfl).frozen 2
  have ol3 : (wb).cell? ⟨wa.heap.size, 3, none⟩ = some (.int .i64 (H : Int)) := (HM.blk 1 rfl).cell 3
  have olf3 : (wb).frozen? ⟨wa.heap.size, 3, none⟩ = false := (HM.blk 1 rfl).frozen 3
  have ol4 : (wb).cell? ⟨wa.heap.size, 4, none⟩ = some (.int .u64 (b : Int)) := (HM.blk 1 rfl).cell 4
  have olf4 : (wb).frozen? ⟨wa.heap.size, 4, none⟩ = false := (HM.blk 1 rfl).frozen 4
  have ol5 : (wb).cell? ⟨wa.heap.size, 5, none⟩ = some (.int .i64 (bad : Int)) := (HM.blk 1 rfl).cell 5
  have olf5 : (wb).frozen? ⟨wa.heap.size, 5, none⟩ = false := (HM.blk 1 rfl).frozen 5
  have ol6 : (wb).cell? ⟨wa.heap.size, 6, none⟩ = some (.int .i64 (lock : Int)) := (HM.blk 1 rfl).cell 6
  have olf6 : (wb).frozen? ⟨wa.heap.size, 6, none⟩ = false := (HM.blk 1 rfl).frozen 6
  have ollt : wa.heap.size < (wb).heap.size := HM.lt 1 rfl
  have ne_oc_ol : w.heap.size ≠ wa.heap.size := HM.ne 0 1 rfl rfl (by decide)
  have ne_ol_oc : wa.heap.size ≠ w.heap.size := HM.ne 1 0 rfl rfl (by decide)
  clear hbb hP
  go_wp2_with fail
  obtain ⟨W2, hW2⟩ : ∃ W2, (wb).alloc (.cells #[.int .i64 (cls : Int), .int .i64 (id : Int), .int .i64 (am : Int), .int .i64 (tag : Int)] 48) = W2 := ⟨_, rfl⟩
  replace HM : Mem (w) [] _ [.blk (w.heap.size) 33 #[o], .blk (wa.heap.size) 39 #[.int .i64 (me : Int), .int .i64 (rev : Int), .int .i64 (cr : Int), .int .i64 (H : Int), .int .u64 (b : Int), .int .i64 (bad : Int), .int .i64 (lock : Int)], .blk (wb.heap.size) 48 #[.int .i64 (cls : Int), .int .i64 (id : Int), .int .i64 (am : Int), .int .i64 (tag : Int)]] := Mem.alloc HM (wb.heap.size) (by first | (simp; done) | (simp; omega)) #[.int .i64 (cls : Int), .int .i64 (id : Int), .int .i64 (am : Int), .int .i64 (tag : Int)] 48
  rw [hW2] at HM ⊢
  clear hW2
  refine (hK _ (HO.out.below HM.below)).mono ?_
  rintro e wd ⟨rfl, hbd⟩
  replace HM : Mem (w) [] (wd) [.blk (w.heap.size) 33 #[o], .blk (wa.heap.size) 39 #[.int .i64 (me : Int), .int .i64 (rev : Int), .int .i64 (cr : Int), .int .i64 (H : Int), .int .u64 (b : Int), .int .i64 (bad : Int), .int .i64 (lock : Int)], .blk (wb.heap.size) 48 #[.int .i64 (cls : Int), .int .i64 (id : Int), .int .i64 (am : Int), .int .i64 (tag : Int)]] := Mem.call HM hbd
  clear oc0 ocf0 oclt ol0 olf0 ol1 olf1 ol2 olf2 ol3 olf3 ol4 olf4 ol5 olf5 ol6 olf6 ollt ne_oc_ol ne_ol_oc
  have ol0 : (wd).cell? ⟨wa.heap.size, 0, none⟩ = some (.int .i64 (me : Int)) := (HM.blk 1 rfl).cell 0
  have olf0 : (wd).frozen? ⟨wa.heap.size, 0, none⟩ = false := (HM.blk 1 rfl).frozen 0
  have ol1 : (wd).cell? ⟨wa.heap.size, 1, none⟩ = some (.int .i64 (rev : Int)) := (HM.blk 1 rfl).cell 1
  have olf1 : (wd).frozen? ⟨wa.heap.size, 1, none⟩ = false := (HM.blk 1 rfl).frozen 1
  have ol2 : (wd).cell? ⟨wa.heap.size, 2, none⟩ = some (.int .i64 (cr : Int)) := (HM.blk 1 rfl).cell 2
  have olf2 : (wd).frozen? ⟨wa.heap.size, 2, none⟩ = false := (HM.blk 1 rfl).frozen 2
  have ol3 : (wd).cell? ⟨wa.heap.size, 3, none⟩ = some (.int .i64 (H : Int)) := (HM.blk 1 rfl).cell 3
  have olf3 : (wd).frozen? ⟨wa.heap.size, 3, none⟩ = false := (HM.blk 1 rfl).frozen 3
  have ol4 : (wd).cell? ⟨wa.heap.size, 4, none⟩ = some (.int .u64 (b : Int)) := (HM.blk 1 rfl).cell 4
  have olf4 : (wd).frozen? ⟨wa.heap.size, 4, none⟩ = false := (HM.blk 1 rfl).frozen 4
  have ol5 : (wd).cell? ⟨wa.heap.size, 5, none⟩ = some (.int .i64 (bad : Int)) := (HM.blk 1 rfl).cell 5
  have olf5 : (wd).frozen? ⟨wa.heap.size, 5, none⟩ = false := (HM.blk 1 rfl).frozen 5
  have ol6 : (wd).cell? ⟨wa.heap.size, 6, none⟩ = some (.int .i64 (lock : Int)) := (HM.blk 1 rfl).cell 6
  have olf6 : (wd).frozen? ⟨wa.heap.size, 6, none⟩ = false := (HM.blk 1 rfl).frozen 6
  have ollt : wa.heap.size < (wd).heap.size := HM.lt 1 rfl
  clear hbd hK
  go_wp2_with fail
  obtain ⟨W3, hW3⟩ : ∃ W3, (wd).alloc (.cells #[.int .i64 (me : Int), .int .i64 (r2 : Int), .int .i64 (c2 : Int), .int .i64 (h2 : Int), .int .u64 (b2 : Int), .int .i64 (d2 : Int), .int .i64 (k2 : Int)] 39) = W3 := ⟨_, rfl⟩
  replace HM : Mem (w) [] _ [.blk (w.heap.size) 33 #[o], .blk (wa.heap.size) 39 #[.int .i64 (me : Int), .int .i64 (rev : Int), .int .i64 (cr : Int), .int .i64 (H : Int), .int .u64 (b : Int), .int .i64 (bad : Int), .int .i64 (lock : Int)], .blk (wb.heap.size) 48 #[.int .i64 (cls : Int), .int .i64 (id : Int), .int .i64 (am : Int), .int .i64 (tag : Int)], .blk (wd.heap.size) 39 #[.int .i64 (me : Int), .int .i64 (r2 : Int), .int .i64 (c2 : Int), .int .i64 (h2 : Int), .int .u64 (b2 : Int), .int .i64 (d2 : Int), .int .i64 (k2 : Int)]] := Mem.alloc HM (wd.heap.size) (by first | (simp; done) | (simp; omega)) #[.int .i64 (me : Int), .int .i64 (r2 : Int), .int .i64 (c2 : Int), .int .i64 (h2 : Int), .int .u64 (b2 : Int), .int .i64 (d2 : Int), .int .i64 (k2 : Int)] 39
  rw [hW3] at HM ⊢
  clear hW3
  refine (hMv _ (HV.out.below HM.below)).mono ?_
  rintro e we ⟨u, rfl, hu, hbe⟩
  replace HM : Mem (w) [] (we) [.blk (w.heap.size) 33 #[o], .blk (wa.heap.size) 39 #[.int .i64 (me : Int), .int .i64 (rev : Int), .int .i64 (cr : Int), .int .i64 (H : Int), .int .u64 (b : Int), .int .i64 (bad : Int), .int .i64 (lock : Int)], .blk (wb.heap.size) 48 #[.int .i64 (cls : Int), .int .i64 (id : Int), .int .i64 (am : Int), .int .i64 (tag : Int)], .blk (wd.heap.size) 39 #[.int .i64 (me : Int), .int .i64 (r2 : Int), .int .i64 (c2 : Int), .int .i64 (h2 : Int), .int .u64 (b2 : Int), .int .i64 (d2 : Int), .int .i64 (k2 : Int)]] := Mem.call HM hbe
  have HU := Lib.hid hu
  clear hbe hMv hu
  go_wp2
  go_ret3
  exact ⟨_, rfl, HU.out, HM.below⟩
set_option maxRecDepth 100000 in
set_option maxHeartbeats 2000000 in
theorem tick_all (me rev cr H b bad lock load u z k2 : Nat) (w : World) (hb : b < 2 ^ 64) (hm : mmay me rev cr H b bad lock = true) (hl : load ≤ 1000) (hu : min load cr = u) (hz : cr - u = z) (hk : lock - 1 = k2) : Calls Tryd.prog 37 #[.agg #[.int .i64 (me : Int), .int .i64 (rev : Int), .int .i64 (cr : Int), .int .i64 (H : Int), .int .u64 (b : Int), .int .i64 (bad : Int), .int .i64 (lock : Int)], .int .i64 (load : Int)] w fun e w' => e = .returned (.tuple #[.agg #[.int .i64 (me : Int), .int .i64 (rev : Int), .int .i64 (z : Int), .int .i64 (H : Int), .int .u64 (b : Int), .int .i64 (bad : Int), .int .i64 (k2 : Int)], .int .i64 (u : Int), .int .i64 0]) ∧ Below w.heap.size w w' := by
  obtain ⟨a1, a2, a3, a4, a5, a6, hW⟩ := may_bounds hb hm
  have hH := hW.le
  have hM := fun W => mmay_is (Lib.hid hm) W (WalkArith.wf_i64 (by omega)) hb (WalkArith.wf_i64 (by omega)) (WalkArith.wf_i64 (by omega))
  obtain ⟨y, hy⟩ : ∃ y : Int, (lock : Int) - 1 = y := ⟨_, rfl⟩
  have hwy : wrap64 y = y := by unfold wrap64; omega
  have hmy : max y 0 = (k2 : Int) := by omega
  have hml : min (load : Int) (cr : Int) = (u : Int) := by omega
  have hzI : (cr : Int) - (u : Int) = (z : Int) := by omega
  have hwz : wrap64 (z : Int) = (z : Int) := by unfold wrap64; omega
  have hzn : z ≤ 99999999 := by rw [← hz]; exact Nat.le_trans (Nat.sub_le _ _) a3
  have hz0 : (0 : Int) ≤ (z : Int) ∧ (z : Int) ≤ 99999999 := ⟨Int.natCast_nonneg _, Int.ofNat_le.2 hzn⟩
  have hiz : IntKind.i64.wrap (z : Int) = (z : Int) := by generalize (z : Int) = z' at hz0; exact IntWalk.i64_in _ (by omega)
  have hiy : IntKind.i64.wrap y = y := IntWalk.i64_in _ (by omega)
  have hl1 : (load : Int) ≤ 1000 := by omega
  have hl0 : (0 : Int) ≤ (load : Int) := by omega
  clear a1 a2 a3 a4 a5 a6 hW hH hm hb hl hu hz hk
  have HM := Mem.init w
  go_enter Tryd.func37, Tryd.ntmps37
  go_wp2_with fail
  obtain ⟨W0, hW0⟩ : ∃ W0, ((w).alloc (.cells #[.int .i64 (me : Int), .int .i64 (rev : Int), .int .i64 (cr : Int), .int .i64 (H : Int), .int .u64 (b : Int), .int .i64 (bad : Int), .int .i64 (lock : Int)] 39)).alloc (.cells #[.int .i64 0, .int .i64 0, .int .i64 0, .int .i64 0, .int .u64 0, .int .i64 0, .int .i64 0] 39) = W0 := ⟨_, rfl⟩
  replace HM : Mem (w) [] _ [.blk (w.heap.size) 39 #[.int .i64 (me : Int), .int .i64 (rev : Int), .int .i64 (cr : Int), .int .i64 (H : Int), .int .u64 (b : Int), .int .i64 (bad : Int), .int .i64 (lock : Int)]] := Mem.alloc HM (w.heap.size) (by first | (simp; done) | (simp; omega)) #[.int .i64 (me : Int), .int .i64 (rev : Int), .int .i64 (cr : Int), .int .i64 (H : Int), .int .u64 (b : Int), .int .i64 (bad : Int), .int .i64 (lock : Int)] 39
  replace HM : Mem (w) [] _ [.blk (w.heap.size) 39 #[.int .i64 (me : Int), .int .i64 (rev : Int), .int .i64 (cr : Int), .int .i64 (H : Int), .int .u64 (b : Int), .int .i64 (bad : Int), .int .i64 (lock : Int)], .blk (w.heap.size + 1) 39 #[.int .i64 0, .int .i64 0, .int .i64 0, .int .i64 0, .int .u64 0, .int .i64 0, .int .i64 0]] := Mem.alloc HM (w.heap.size + 1) (by first | (simp; done) | (simp; omega)) #[.int .i64 0, .int .i64 0, .int .i64 0, .int .i64 0, .int .u64 0, .int .i64 0, .int .i64 0] 39
  rw [hW0] at HM ⊢
  clear hW0
  refine (hM _).mono ?_
  rintro e wa ⟨rfl, hba⟩
  replace HM : Mem (w) [] (wa) [.blk (w.heap.size) 39 #[.int .i64 (me : Int), .int .i64 (rev : Int), .int .i64 (cr : Int), .int .i64 (H : Int), .int .u64 (b : Int), .int .i64 (bad : Int), .int .i64 (lock : Int)], .blk (w.heap.size + 1) 39 #[.int .i64 0, .int .i64 0, .int .i64 0, .int .i64 0, .int .u64 0, .int .i64 0, .int .i64 0]] := Mem.call HM hba
  have rs0 : (wa).cell? ⟨w.heap.size + 1, 0, none⟩ = some (.int .i64 0) := (HM.blk 1 rfl).cell 0
  have rsf0 : (wa).frozen? ⟨w.heap.size + 1, 0, none⟩ = false := (HM.blk 1 rfl).frozen 0
  have rs1 : (wa).cell? ⟨w.heap.size + 1, 1, none⟩ = some (.int .i64 0) := (HM.blk 1 rfl).cell 1
  have rsf1 : (wa).frozen? ⟨w.heap.size + 1, 1, none⟩ = false := (HM.blk 1 rfl).frozen 1
  have rs2 : (wa).cell? ⟨w.heap.size + 1, 2, none⟩ = some (.int .i64 0) := (HM.blk 1 rfl).cell 2
  have rsf2 : (wa).frozen? ⟨w.heap.size + 1, 2, none⟩ = false := (HM.blk 1 rfl).frozen 2
  have rs3 : (wa).cell? ⟨w.heap.size + 1, 3, none⟩ = some (.int .i64 0) := (HM.blk 1 rfl).cell 3
  have rsf3 : (wa).frozen? ⟨w.heap.size + 1, 3, none⟩ = false := (HM.blk 1 rfl).frozen 3
  have rs4 : (wa).cell? ⟨w.heap.size + 1, 4, none⟩ = some (.int .u64 0) := (HM.blk 1 rfl).cell 4
  have rsf4 : (wa).frozen? ⟨w.heap.size + 1, 4, none⟩ = false := (HM.blk 1 rfl).frozen 4
  have rs5 : (wa).cell? ⟨w.heap.size + 1, 5, none⟩ = some (.int .i64 0) := (HM.blk 1 rfl).cell 5
  have rsf5 : (wa).frozen? ⟨w.heap.size + 1, 5, none⟩ = false := (HM.blk 1 rfl).frozen 5
  have rs6 : (wa).cell? ⟨w.heap.size + 1, 6, none⟩ = some (.int .i64 0) := (HM.blk 1 rfl).cell 6
  have rsf6 : (wa).frozen? ⟨w.heap.size + 1, 6, none⟩ = false := (HM.blk 1 rfl).frozen 6
  have rslt : w.heap.size + 1 < (wa).heap.size := HM.lt 1 rfl
  have mb0 : (wa).cell? ⟨w.heap.size, 0, none⟩ = some (.int .i64 (me : Int)) := (HM.blk 0 rfl).cell 0
  have mbf0 : (wa).frozen? ⟨w.heap.size, 0, none⟩ = false := (HM.blk 0 rfl).frozen 0
  have mb1 : (wa).cell? ⟨w.heap.size, 1, none⟩ = some (.int .i64 (rev : Int)) := (HM.blk 0 rfl).cell 1
  have mbf1 : (wa).frozen? ⟨w.heap.size, 1, none⟩ = false := (HM.blk 0 rfl).frozen 1
  have mb2 : (wa).cell? ⟨w.heap.size, 2, none⟩ = some (.int .i64 (cr : Int)) := (HM.blk 0 rfl).cell 2
  have mbf2 : (wa).frozen? ⟨w.heap.size, 2, none⟩ = false := (HM.blk 0 rfl).frozen 2
  have mb3 : (wa).cell? ⟨w.heap.size, 3, none⟩ = some (.int .i64 (H : Int)) := (HM.blk 0 rfl).cell 3
  have mbf3 : (wa).frozen? ⟨w.heap.size, 3, none⟩ = false := (HM.blk 0 rfl).frozen 3
  have mb4 : (wa).cell? ⟨w.heap.size, 4, none⟩ = some (.int .u64 (b : Int)) := (HM.blk 0 rfl).cell 4
  have mbf4 : (wa).frozen? ⟨w.heap.size, 4, none⟩ = false := (HM.blk 0 rfl).frozen 4
  have mb5 : (wa).cell? ⟨w.heap.size, 5, none⟩ = some (.int .i64 (bad : Int)) := (HM.blk 0 rfl).cell 5
  have mbf5 : (wa).frozen? ⟨w.heap.size, 5, none⟩ = false := (HM.blk 0 rfl).frozen 5
  have mb6 : (wa).cell? ⟨w.heap.size, 6, none⟩ = some (.int .i64 (lock : Int)) := (HM.blk 0 rfl).cell 6
  have mbf6 : (wa).frozen? ⟨w.heap.size, 6, none⟩ = false := (HM.blk 0 rfl).frozen 6
  have mblt : w.heap.size < (wa).heap.size := HM.lt 0 rfl
  have ne_rs_mb : w.heap.size + 1 ≠ w.heap.size := HM.ne 1 0 rfl rfl (by decide)
  have ne_mb_rs : w.heap.size ≠ w.heap.size + 1 := HM.ne 0 1 rfl rfl (by decide)
  clear hba hM
  go_wp2
  obtain ⟨wz, hwz⟩ : ∃ wz, (((((((((wa).setCell ⟨w.heap.size, 2, none⟩ (.int .i64 (z : Int))).setCell ⟨w.heap.size, 6, none⟩ (.int .i64 (k2 : Int))).setCell ⟨w.heap.size + 1, 0, none⟩ (.int .i64 (me : Int))).setCell ⟨w.heap.size + 1, 1, none⟩ (.int .i64 (rev : Int))).setCell ⟨w.heap.size + 1, 2, none⟩ (.int .i64 (z : Int))).setCell ⟨w.heap.size + 1, 3, none⟩ (.int .i64 (H : Int))).setCell ⟨w.heap.size + 1, 4, none⟩ (.int .u64 (b : Int))).setCell ⟨w.heap.size + 1, 5, none⟩ (.int .i64 (bad : Int))).setCell ⟨w.heap.size + 1, 6, none⟩ (.int .i64 (k2 : Int)) = wz := ⟨_, rfl⟩
  replace HM : Mem (w) [] _ [.blk (w.heap.size) 39 #[.int .i64 (me : Int), .int .i64 (rev : Int), .int .i64 (z : Int), .int .i64 (H : Int), .int .u64 (b : Int), .int .i64 (bad : Int), .int .i64 (lock : Int)], .blk (w.heap.size + 1) 39 #[.int .i64 0, .int .i64 0, .int .i64 0, .int .i64 0, .int .u64 0, .int .i64 0, .int .i64 0]] := Mem.set 0 HM rfl 2 (.int .i64 (z : Int))
  replace HM : Mem (w) [] _ [.blk (w.heap.size) 39 #[.int .i64 (me : Int), .int .i64 (rev : Int), .int .i64 (z : Int), .int .i64 (H : Int), .int .u64 (b : Int), .int .i64 (bad : Int), .int .i64 (k2 : Int)], .blk (w.heap.size + 1) 39 #[.int .i64 0, .int .i64 0, .int .i64 0, .int .i64 0, .int .u64 0, .int .i64 0, .int .i64 0]] := Mem.set 0 HM rfl 6 (.int .i64 (k2 : Int))
  replace HM : Mem (w) [] _ [.blk (w.heap.size) 39 #[.int .i64 (me : Int), .int .i64 (rev : Int), .int .i64 (z : Int), .int .i64 (H : Int), .int .u64 (b : Int), .int .i64 (bad : Int), .int .i64 (k2 : Int)], .blk (w.heap.size + 1) 39 #[.int .i64 (me : Int), .int .i64 0, .int .i64 0, .int .i64 0, .int .u64 0, .int .i64 0, .int .i64 0]] := Mem.set 1 HM rfl 0 (.int .i64 (me : Int))
  replace HM : Mem (w) [] _ [.blk (w.heap.size) 39 #[.int .i64 (me : Int), .int .i64 (rev : Int), .int .i64 (z : Int), .int .i64 (H : Int), .int .u64 (b : Int), .int .i64 (bad : Int), .int .i64 (k2 : Int)], .blk (w.heap.size + 1) 39 #[.int .i64 (me : Int), .int .i64 (rev : Int), .int .i64 0, .int .i64 0, .int .u64 0, .int .i64 0, .int .i64 0]] := Mem.set 1 HM rfl 1 (.int .i64 (rev : Int))
  replace HM : Mem (w) [] _ [.blk (w.heap.size) 39 #[.int .i64 (me : Int), .int .i64 (rev : Int), .int .i64 (z : Int), .int .i64 (H : Int), .int .u64 (b : Int), .int .i64 (bad : Int), .int .i64 (k2 : Int)], .blk (w.heap.size + 1) 39 #[.int .i64 (me : Int), .int .i64 (rev : Int), .int .i64 (z : Int), .int .i64 0, .int .u64 0, .int .i64 0, .int .i64 0]] := Mem.set 1 HM rfl 2 (.int .i64 (z : Int))
  replace HM : Mem (w) [] _ [.blk (w.heap.size) 39 #[.int .i64 (me : Int), .int .i64 (rev : Int), .int .i64 (z : Int), .int .i64 (H : Int), .int .u64 (b : Int), .int .i64 (bad : Int), .int .i64 (k2 : Int)], .blk (w.heap.size + 1) 39 #[.int .i64 (me : Int), .int .i64 (rev : Int), .int .i64 (z : Int), .int .i64 (H : Int), .int .u64 0, .int .i64 0, .int .i64 0]] := Mem.set 1 HM rfl 3 (.int .i64 (H : Int))
  replace HM : Mem (w) [] _ [.blk (w.heap.size) 39 #[.int .i64 (me : Int), .int .i64 (rev : Int), .int .i64 (z : Int), .int .i64 (H : Int), .int .u64 (b : Int), .int .i64 (bad : Int), .int .i64 (k2 : Int)], .blk (w.heap.size + 1) 39 #[.int .i64 (me : Int), .int .i64 (rev : Int), .int .i64 (z : Int), .int .i64 (H : Int), .int .u64 (b : Int), .int .i64 0, .int .i64 0]] := Mem.set 1 HM rfl 4 (.int .u64 (b : Int))
  replace HM : Mem (w) [] _ [.blk (w.heap.size) 39 #[.int .i64 (me : Int), .int .i64 (rev : Int), .int .i64 (z : Int), .int .i64 (H : Int), .int .u64 (b : Int), .int .i64 (bad : Int), .int .i64 (k2 : Int)], .blk (w.heap.size + 1) 39 #[.int .i64 (me : Int), .int .i64 (rev : Int), .int .i64 (z : Int), .int .i64 (H : Int), .int .u64 (b : Int), .int .i64 (bad : Int), .int .i64 0]] := Mem.set 1 HM rfl 5 (.int .i64 (bad : Int))
  replace HM : Mem (w) [] _ [.blk (w.heap.size) 39 #[.int .i64 (me : Int), .int .i64 (rev : Int), .int .i64 (z : Int), .int .i64 (H : Int), .int .u64 (b : Int), .int .i64 (bad : Int), .int .i64 (k2 : Int)], .blk (w.heap.size + 1) 39 #[.int .i64 (me : Int), .int .i64 (rev : Int), .int .i64 (z : Int), .int .i64 (H : Int), .int .u64 (b : Int), .int .i64 (bad : Int), .int .i64 (k2 : Int)]] := Mem.set 1 HM rfl 6 (.int .i64 (k2 : Int))
  rw [hwz] at HM ⊢
  clear hwz
  clear rs0 rsf0 rs1 rsf1 rs2 rsf2 rs3 rsf3 rs4 rsf4 rs5 rsf5 rs6 rsf6 rslt mb0 mbf0 mb1 mbf1 mb2 mbf2 mb3 mbf3 mb4 mbf4 mb5 mbf5 mb6 mbf6 mblt ne_rs_mb ne_mb_rs
  have rs0 : (wz).cell? ⟨w.heap.size + 1, 0, none⟩ = some (.int .i64 (me : Int)) := (HM.blk 1 rfl).cell 0
  have rsf0 : (wz).frozen? ⟨w.heap.size + 1, 0, none⟩ = false := (HM.blk 1 rfl).frozen 0
  have rs1 : (wz).cell? ⟨w.heap.size + 1, 1, none⟩ = some (.int .i64 (rev : Int)) := (HM.blk 1 rfl).cell 1
  have rsf1 : (wz).frozen? ⟨w.heap.size + 1, 1, none⟩ = false := (HM.blk 1 rfl).frozen 1
  have rs2 : (wz).cell? ⟨w.heap.size + 1, 2, none⟩ = some (.int .i64 (z : Int)) := (HM.blk 1 rfl).cell 2
  have rsf2 : (wz).frozen? ⟨w.heap.size + 1, 2, none⟩ = false := (HM.blk 1 rfl).frozen 2
  have rs3 : (wz).cell? ⟨w.heap.size + 1, 3, none⟩ = some (.int .i64 (H : Int)) := (HM.blk 1 rfl).cell 3
  have rsf3 : (wz).frozen? ⟨w.heap.size + 1, 3, none⟩ = false := (HM.blk 1 rfl).frozen 3
  have rs4 : (wz).cell? ⟨w.heap.size + 1, 4, none⟩ = some (.int .u64 (b : Int)) := (HM.blk 1 rfl).cell 4
  have rsf4 : (wz).frozen? ⟨w.heap.size + 1, 4, none⟩ = false := (HM.blk 1 rfl).frozen 4
  have rs5 : (wz).cell? ⟨w.heap.size + 1, 5, none⟩ = some (.int .i64 (bad : Int)) := (HM.blk 1 rfl).cell 5
  have rsf5 : (wz).frozen? ⟨w.heap.size + 1, 5, none⟩ = false := (HM.blk 1 rfl).frozen 5
  have rs6 : (wz).cell? ⟨w.heap.size + 1, 6, none⟩ = some (.int .i64 (k2 : Int)) := (HM.blk 1 rfl).cell 6
  have rsf6 : (wz).frozen? ⟨w.heap.size + 1, 6, none⟩ = false := (HM.blk 1 rfl).frozen 6
  have rslt : w.heap.size + 1 < (wz).heap.size := HM.lt 1 rfl
  refine bodyPost_ret (v := .tuple #[.agg #[.int .i64 (me : Int), .int .i64 (rev : Int), .int .i64 (z : Int), .int .i64 (H : Int), .int .u64 (b : Int), .int .i64 (bad : Int), .int .i64 (k2 : Int)], .int .i64 (u : Int), .int .i64 0]) (by simp [results, Tryd.results37, go_sem, rs0, rs1, rs2, rs3, rs4, rs5, rs6]; done) rfl ?_
  exact ⟨rfl, HM.below⟩
set_option maxRecDepth 100000 in
set_option maxHeartbeats 4000000 in
theorem ticked_ok (v : Value) (C : List Nat) (me rev cr H b bad lock load u z k2 s : Nat) (w : World) (hv : IsWs w v C) (hsl : IsSl C 5 (mws me rev cr H b bad lock) s) (hb : b < 2 ^ 64) (hm : mmay me rev cr H b bad lock = true) (hl : load ≤ 1000) (hu : min load cr = u) (hz : cr - u = z) (hk : lock - 1 = k2) :
    Calls Tryd.prog 16 #[v, .int .i64 (load : Int)] w (RetKeyed (pkW C s me rev cr H b bad lock rev z H b bad k2) u 0 w) := by
  have hB := fun W h => boot_ok v C me rev cr H b bad lock s W h hsl hb hm
  have hT := fun W => tick_all me rev cr H b bad lock load u z k2 W hb hm hl hu hz hk
  obtain ⟨a1, a2, a3, a4, a5, a6, hW⟩ := may_bounds hb hm
  have hm2 : mmay me rev z H b bad k2 = true := may_of a1 a2 (by omega) a4 (by omega) (by omega) hW
  have hMv := fun W h => moved_to v C (mws me rev cr H b bad lock) me rev cr H b bad lock rev z H b bad k2 s W h hsl hb hm2
  unfold RetWrV at hMv
  have HV := Lib.hid hv
  clear a1 a2 a3 a4 a5 a6 hW hm2 hv hsl hm hb hl hu hz hk
  obtain ⟨P, hPk⟩ : ∃ P, pkW C s me rev cr H b bad lock rev z H b bad k2 = P := ⟨_, rfl⟩
  rw [hPk] at hMv ⊢
  clear hPk
  have HM := Mem.init w
  go_enter Tryd.func16, Tryd.ntmps16
  go_wp2_with fail
  refine (hB _ (HV.out.below HM.below)).mono ?_
  rintro e wa ⟨rfl, hba⟩
  replace HM : Mem (w) [] (wa) [] := Mem.call HM hba
  clear hba hB
  go_wp2_with fail
  obtain ⟨W1, hW1⟩ : ∃ W1, (wa).alloc (.cells #[.int .i64 (me : Int), .int .i64 (rev : Int), .int .i64 (cr : Int), .int .i64 (H : Int), .int .u64 (b : Int), .int .i64 (bad : Int), .int .i64 (lock : Int)] 39) = W1 := ⟨_, rfl⟩
  replace HM : Mem (w) [] _ [.blk (wa.heap.size) 39 #[.int .i64 (me : Int), .int .i64 (rev : Int), .int .i64 (cr : Int), .int .i64 (H : Int), .int .u64 (b : Int), .int .i64 (bad : Int), .int .i64 (lock : Int)]] := Mem.alloc HM (wa.heap.size) (by first | (simp; done) | (simp; omega)) #[.int .i64 (me : Int), .int .i64 (rev : Int), .int .i64 (cr : Int), .int .i64 (H : Int), .int .u64 (b : Int), .int .i64 (bad : Int), .int .i64 (lock : Int)] 39
  rw [hW1] at HM ⊢
  clear hW1
  refine (hT _).mono ?_
  rintro e wb ⟨rfl, hbb⟩
  replace HM : Mem (w) [] (wb) [.blk (wa.heap.size) 39 #[.int .i64 (me : Int), .int .i64 (rev : Int), .int .i64 (cr : Int), .int .i64 (H : Int), .int .u64 (b : Int), .int .i64 (bad : Int), .int .i64 (lock : Int)]] := Mem.call HM hbb
  have ol0 : (wb).cell? ⟨wa.heap.size, 0, none⟩ = some (.int .i64 (me : Int)) := (HM.blk 0 rfl).cell 0
  have olf0 : (wb).frozen? ⟨wa.heap.size, 0, none⟩ = false := (HM.blk 0 rfl).frozen 0
  have ol1 : (wb).cell? ⟨wa.heap.size, 1, none⟩ = some (.int .i64 (rev : Int)) := (HM.blk 0 rfl).cell 1
  have olf1 : (wb).frozen? ⟨wa.heap.size, 1, none⟩ = false := (HM.blk 0 rfl).frozen 1
  have ol2 : (wb).cell? ⟨wa.heap.size, 2, none⟩ = some (.int .i64 (cr : Int)) := (HM.blk 0 rfl).cell 2
  have olf2 : (wb).frozen? ⟨wa.heap.size, 2, none⟩ = false := (HM.blk 0 rfl).frozen 2
  have ol3 : (wb).cell? ⟨wa.heap.size, 3, none⟩ = some (.int .i64 (H : Int)) := (HM.blk 0 rfl).cell 3
  have olf3 : (wb).frozen? ⟨wa.heap.size, 3, none⟩ = false := (HM.blk 0 rfl).frozen 3
  have ol4 : (wb).cell? ⟨wa.heap.size, 4, none⟩ = some (.int .u64 (b : Int)) := (HM.blk 0 rfl).cell 4
  have olf4 : (wb).frozen? ⟨wa.heap.size, 4, none⟩ = false := (HM.blk 0 rfl).frozen 4
  have ol5 : (wb).cell? ⟨wa.heap.size, 5, none⟩ = some (.int .i64 (bad : Int)) := (HM.blk 0 rfl).cell 5
  have olf5 : (wb).frozen? ⟨wa.heap.size, 5, none⟩ = false := (HM.blk 0 rfl).frozen 5
  have ol6 : (wb).cell? ⟨wa.heap.size, 6, none⟩ = some (.int .i64 (lock : Int)) := (HM.blk 0 rfl).cell 6
  have olf6 : (wb).frozen? ⟨wa.heap.size, 6, none⟩ = false := (HM.blk 0 rfl).frozen 6
  have ollt : wa.heap.size < (wb).heap.size := HM.lt 0 rfl
  clear hbb hT
  go_wp2_with fail
  obtain ⟨W3, hW3⟩ : ∃ W3, (wb).alloc (.cells #[.int .i64 (me : Int), .int .i64 (rev : Int), .int .i64 (z : Int), .int .i64 (H : Int), .int .u64 (b : Int), .int .i64 (bad : Int), .int .i64 (k2 : Int)] 39) = W3 := ⟨_, rfl⟩
  replace HM : Mem (w) [] _ [.blk (wa.heap.size) 39 #[.int .i64 (me : Int), .int .i64 (rev : Int), .int .i64 (cr : Int), .int .i64 (H : Int), .int .u64 (b : Int), .int .i64 (bad : Int), .int .i64 (lock : Int)], .blk (wb.heap.size) 39 #[.int .i64 (me : Int), .int .i64 (rev : Int), .int .i64 (z : Int), .int .i64 (H : Int), .int .u64 (b : Int), .int .i64 (bad : Int), .int .i64 (k2 : Int)]] := Mem.alloc HM (wb.heap.size) (by first | (simp; done) | (simp; omega)) #[.int .i64 (me : Int), .int .i64 (rev : Int), .int .i64 (z : Int), .int .i64 (H : Int), .int .u64 (b : Int), .int .i64 (bad : Int), .int .i64 (k2 : Int)] 39
  rw [hW3] at HM ⊢
  clear hW3
  refine (hMv _ (HV.out.below HM.below)).mono ?_
  rintro e we ⟨q, rfl, hq, hbe⟩
  replace HM : Mem (w) [] (we) [.blk (wa.heap.size) 39 #[.int .i64 (me : Int), .int .i64 (rev : Int), .int .i64 (cr : Int), .int .i64 (H : Int), .int .u64 (b : Int), .int .i64 (bad : Int), .int .i64 (lock : Int)], .blk (wb.heap.size) 39 #[.int .i64 (me : Int), .int .i64 (rev : Int), .int .i64 (z : Int), .int .i64 (H : Int), .int .u64 (b : Int), .int .i64 (bad : Int), .int .i64 (k2 : Int)]] := Mem.call HM hbe
  have HU := Lib.hid hq
  clear hbe hMv hq
  go_wp2
  go_ret3
  exact ⟨_, rfl, HU.out, HM.below⟩
end Go.Proofs.YtopnlkhepjbjkaaDoor

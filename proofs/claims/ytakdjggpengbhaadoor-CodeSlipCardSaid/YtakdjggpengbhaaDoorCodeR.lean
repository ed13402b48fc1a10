/- What a meter shows: readback.Read. -/
import Derived.Test.YtakdjggpengbhaaDoorCode
namespace Go.Proofs.YtakdjggpengbhaaDoor
open Go.RowKit
set_option linter.unusedVariables false
set_option maxRecDepth 100000 in
set_option maxHeartbeats 2000000 in
theorem codeRead_bad (l : List Nat) (w : World) (hl : ∀ d ∈ l, d ≤ 9) (h18 : l.length = 18) (hz : ¬ rest97 l = 0) : Calls Tryd.prog 16 #[.string (dstr l)] w fun e w' => e = .returned (.tuple #[.agg #[.int .i64 0, .int .i64 0, .int .i64 0], .int .i64 8]) ∧ Below w.heap.size w w' := by
  have hR := fun W => rest_ok l W hl (by omega) (by omega)
  have hsz := dstr_size l
  rw [h18] at hsz
  obtain ⟨S, hS⟩ : ∃ s, dstr l = s := ⟨_, rfl⟩
  obtain ⟨r, hr⟩ : ∃ r, rest97 l = r := ⟨_, rfl⟩
  rw [hS] at hR hsz ⊢
  rw [hr] at hR hz
  have hzI : ((r : Int) == 0) = false := by rw [beq_eq_false_iff_ne]; omega
  have hzN : ¬ (r : Int) = 0 := by omega
  clear hS hz h18 hl hr
  have HM := Mem.init w
  go_enter Tryd.func16, Tryd.ntmps16
  go_wp2_with fail
  obtain ⟨W0, hW0⟩ : ∃ W0, (w).alloc (.cells #[.int .i64 0, .int .i64 0, .int .i64 0] 40) = W0 := ⟨_, rfl⟩
  replace HM : Mem (w) [] _ [.blk (w.heap.size) 40 #[.int .i64 0, .int .i64 0, .int .i64 0]] := Mem.alloc HM (w.heap.size) (by first | (simp; done) | (simp; omega)) #[.int .i64 0, .int .i64 0, .int .i64 0] 40
  rw [hW0] at HM ⊢
  clear hW0
  refine (hR _).mono ?_
  rintro e wa ⟨rfl, hba⟩
  replace HM : Mem (w) [] (wa) [.blk (w.heap.size) 40 #[.int .i64 0, .int .i64 0, .int .i64 0]] := Mem.call HM hba
  have rs0 : (wa).cell? ⟨w.heap.size, 0, none⟩ = some (.int .i64 0) := (HM.blk 0 rfl).cell 0
  have rsf0 : (wa).frozen? ⟨w.heap.size, 0, none⟩ = false := (HM.blk 0 rfl).frozen 0
  have rs1 : (wa).cell? ⟨w.heap.size, 1, none⟩ = some (.int .i64 0) := (HM.blk 0 rfl).cell 1
  have rsf1 : (wa).frozen? ⟨w.heap.size, 1, none⟩ = false := (HM.blk 0 rfl).frozen 1
  have rs2 : (wa).cell? ⟨w.heap.size, 2, none⟩ = some (.int .i64 0) := (HM.blk 0 rfl).cell 2
  have rsf2 : (wa).frozen? ⟨w.heap.size, 2, none⟩ = false := (HM.blk 0 rfl).frozen 2
  have rslt : w.heap.size < (wa).heap.size := HM.lt 0 rfl
  clear hba hR
  go_wp2
  obtain ⟨wz, hwz⟩ : ∃ wz, (((wa).setCell ⟨w.heap.size, 0, none⟩ (.int .i64 0)).setCell ⟨w.heap.size, 1, none⟩ (.int .i64 0)).setCell ⟨w.heap.size, 2, none⟩ (.int .i64 0) = wz := ⟨_, rfl⟩
  replace HM : Mem (w) [] _ [.blk (w.heap.size) 40 #[.int .i64 0, .int .i64 0, .int .i64 0]] := Mem.set 0 HM rfl 0 (.int .i64 0)
  replace HM : Mem (w) [] _ [.blk (w.heap.size) 40 #[.int .i64 0, .int .i64 0, .int .i64 0]] := Mem.set 0 HM rfl 1 (.int .i64 0)
  replace HM : Mem (w) [] _ [.blk (w.heap.size) 40 #[.int .i64 0, .int .i64 0, .int .i64 0]] := Mem.set 0 HM rfl 2 (.int .i64 0)
  rw [hwz] at HM ⊢
  clear hwz
  clear rs0 rsf0 rs1 rsf1 rs2 rsf2 rslt
  have rs0 : (wz).cell? ⟨w.heap.size, 0, none⟩ = some (.int .i64 0) := (HM.blk 0 rfl).cell 0
  have rsf0 : (wz).frozen? ⟨w.heap.size, 0, none⟩ = false := (HM.blk 0 rfl).frozen 0
  have rs1 : (wz).cell? ⟨w.heap.size, 1, none⟩ = some (.int .i64 0) := (HM.blk 0 rfl).cell 1
  have rsf1 : (wz).frozen? ⟨w.heap.size, 1, none⟩ = false := (HM.blk 0 rfl).frozen 1
  have rs2 : (wz).cell? ⟨w.heap.size, 2, none⟩ = some (.int .i64 0) := (HM.blk 0 rfl).cell 2
  have rsf2 : (wz).frozen? ⟨w.heap.size, 2, none⟩ = false := (HM.blk 0 rfl).frozen 2
  have rslt : w.heap.size < (wz).heap.size := HM.lt 0 rfl
  refine bodyPost_ret (v := .tuple #[.agg #[.int .i64 0, .int .i64 0, .int .i64 0], .int .i64 8]) (by simp [results, Tryd.results16, go_sem, rs0, rs1, rs2]; done) rfl ?_
  exact ⟨rfl, HM.below⟩
set_option maxRecDepth 100000 in
set_option maxHeartbeats 2000000 in
theorem codeRead_good (l : List Nat) (me cr H : Nat) (w : World) (h1 : me < 50) (h2 : cr ≤ 99999999) (h3 : H ≤ 1048575) (hl : ∀ d ∈ l, d ≤ 9) (h18 : l.length = 18) (hv : val10 l = codeV me cr H) : Calls Tryd.prog 16 #[.string (dstr l)] w fun e w' => e = .returned (.tuple #[.agg #[.int .i64 (me : Int), .int .i64 (cr : Int), .int .i64 (H : Int)], .int .i64 0]) ∧ Below w.heap.size w w' := by
  have hR := fun W => rest_ok l W hl (by omega) (by omega)
  have hz : rest97 l = 0 := by rw [rest_num, hv]; unfold codeV; omega
  have hlt := code_lt h1 h2 h3
  have hP := fun W => Tryd.strconv_ParseInt_10_at64_ok (dstr l) (by rw [dstr_size]; omega) (val10 l : Int) (parseI_dig hl (by omega) (by rw [hv]; omega)) W
  rw [hz] at hR
  rw [hv] at hP
  have hsz := dstr_size l
  rw [h18] at hsz
  obtain ⟨S, hS⟩ : ∃ s, dstr l = s := ⟨_, rfl⟩
  rw [hS] at hR hsz hP ⊢
  obtain ⟨u, hu⟩ : ∃ u, codeV me cr H = u := ⟨_, rfl⟩
  rw [hu] at hP hlt
  obtain ⟨o, ho⟩ : ∃ o, cr * 1048576 + H = o := ⟨_, rfl⟩
  obtain ⟨p, hp⟩ : ∃ p, o * 50 + me = p := ⟨_, rfl⟩
  have hup : p * 97 = u := by rw [← hu, ← hp, ← ho]; rfl
  have d1 : (u : Int) / 97 = (p : Int) := by omega
  have d2 : (p : Int) / 50 = (o : Int) := by omega
  have d3 : (p : Int) % 50 = (me : Int) := by omega
  have d4 : (o : Int) / 1048576 = (cr : Int) := by omega
  have d5 : (o : Int) % 1048576 = (H : Int) := by omega
  have u0 : 0 ≤ (u : Int) := by omega
  have p0 : 0 ≤ (p : Int) := by omega
  have o0 : 0 ≤ (o : Int) := by omega
  have i1 : IntKind.i64.wrap (p : Int) = (p : Int) := IntWalk.i64_in _ (by omega)
  have i2 : IntKind.i64.wrap (o : Int) = (o : Int) := IntWalk.i64_in _ (by omega)
  have i3 : IntKind.i64.wrap (cr : Int) = (cr : Int) := IntWalk.i64_in _ (by omega)
  have hc : (cr : Int) ≤ 99999999 := by omega
  clear hS hz h18 hl hu hv ho hp hup hlt
  have HM := Mem.init w
  go_enter Tryd.func16, Tryd.ntmps16
  go_wp2_with fail
  obtain ⟨W0, hW0⟩ : ∃ W0, (w).alloc (.cells #[.int .i64 0, .int .i64 0, .int .i64 0] 40) = W0 := ⟨_, rfl⟩
  replace HM : Mem (w) [] _ [.blk (w.heap.size) 40 #[.int .i64 0, .int .i64 0, .int .i64 0]] := Mem.alloc HM (w.heap.size) (by first | (simp; done) | (simp; omega)) #[.int .i64 0, .int .i64 0, .int .i64 0] 40
  rw [hW0] at HM ⊢
  clear hW0
  refine (hR _).mono ?_
  rintro e wa ⟨rfl, hba⟩
  replace HM : Mem (w) [] (wa) [.blk (w.heap.size) 40 #[.int .i64 0, .int .i64 0, .int .i64 0]] := Mem.call HM hba
  have rs0 : (wa).cell? ⟨w.heap.size, 0, none⟩ = some (.int .i64 0) := (HM.blk 0 rfl).cell 0
  have rsf0 : (wa).frozen? ⟨w.heap.size, 0, none⟩ = false := (HM.blk 0 rfl).frozen 0
  have rs1 : (wa).cell? ⟨w.heap.size, 1, none⟩ = some (.int .i64 0) := (HM.blk 0 rfl).cell 1
  have rsf1 : (wa).frozen? ⟨w.heap.size, 1, none⟩ = false := (HM.blk 0 rfl).frozen 1
  have rs2 : (wa).cell? ⟨w.heap.size, 2, none⟩ = some (.int .i64 0) := (HM.blk 0 rfl).cell 2
  have rsf2 : (wa).frozen? ⟨w.heap.size, 2, none⟩ = false := (HM.blk 0 rfl).frozen 2
  have rslt : w.heap.size < (wa).heap.size := HM.lt 0 rfl
  clear hba hR
  go_wp2_with fail
  refine (hP _).mono ?_
  rintro e wb ⟨rfl, hw⟩
  have hbb : Below wa.heap.size wa wb := by
    rcases hw with rfl | ⟨t, rfl⟩
    · exact Below.refl _ _
    · exact Lib.bytesWorld_below _ _ _
  replace HM : Mem (w) [] (wb) [.blk (w.heap.size) 40 #[.int .i64 0, .int .i64 0, .int .i64 0]] := Mem.call HM hbb
  clear rs0 rsf0 rs1 rsf1 rs2 rsf2 rslt
  have rs0 : (wb).cell? ⟨w.heap.size, 0, none⟩ = some (.int .i64 0) := (HM.blk 0 rfl).cell 0
  have rsf0 : (wb).frozen? ⟨w.heap.size, 0, none⟩ = false := (HM.blk 0 rfl).frozen 0
  have rs1 : (wb).cell? ⟨w.heap.size, 1, none⟩ = some (.int .i64 0) := (HM.blk 0 rfl).cell 1
  have rsf1 : (wb).frozen? ⟨w.heap.size, 1, none⟩ = false := (HM.blk 0 rfl).frozen 1
  have rs2 : (wb).cell? ⟨w.heap.size, 2, none⟩ = some (.int .i64 0) := (HM.blk 0 rfl).cell 2
  have rsf2 : (wb).frozen? ⟨w.heap.size, 2, none⟩ = false := (HM.blk 0 rfl).frozen 2
  have rslt : w.heap.size < (wb).heap.size := HM.lt 0 rfl
  clear hbb hP hw
  go_wp2
  obtain ⟨wz, hwz⟩ : ∃ wz, ((((wb).setCell ⟨w.heap.size, 0, none⟩ (.int .i64 (me : Int))).setCell ⟨w.heap.size, 1, none⟩ (.int .i64 (cr : Int))).setCell ⟨w.heap.size, 2, none⟩ (.int .i64 (H : Int))).alloc (.cells #[.int .i64 (me : Int), .int .i64 (cr : Int), .int .i64 (H : Int)] 40) = wz := ⟨_, rfl⟩
  replace HM : Mem (w) [] _ [.blk (w.heap.size) 40 #[.int .i64 (me : Int), .int .i64 0, .int .i64 0]] := Mem.set 0 HM rfl 0 (.int .i64 (me : Int))
  replace HM : Mem (w) [] _ [.blk (w.heap.size) 40 #[.int .i64 (me : Int), .int .i64 (cr : Int), .int .i64 0]] := Mem.set 0 HM rfl 1 (.int .i64 (cr : Int))
  replace HM : Mem (w) [] _ [.blk (w.heap.size) 40 #[.int .i64 (me : Int), .int .i64 (cr : Int), .int .i64 (H : Int)]] := Mem.set 0 HM rfl 2 (.int .i64 (H : Int))
  replace HM : Mem (w) [] _ [.blk (w.heap.size) 40 #[.int .i64 (me : Int), .int .i64 (cr : Int), .int .i64 (H : Int)], .blk (wb.heap.size) 40 #[.int .i64 (me : Int), .int .i64 (cr : Int), .int .i64 (H : Int)]] := Mem.alloc HM (wb.heap.size) (by first | (simp; done) | (simp; omega)) #[.int .i64 (me : Int), .int .i64 (cr : Int), .int .i64 (H : Int)] 40
  rw [hwz] at HM ⊢
  clear hwz
  clear rs0 rsf0 rs1 rsf1 rs2 rsf2 rslt
  have rs0 : (wz).cell? ⟨w.heap.size, 0, none⟩ = some (.int .i64 (me : Int)) := (HM.blk 0 rfl).cell 0
  have rsf0 : (wz).frozen? ⟨w.heap.size, 0, none⟩ = false := (HM.blk 0 rfl).frozen 0
  have rs1 : (wz).cell? ⟨w.heap.size, 1, none⟩ = some (.int .i64 (cr : Int)) := (HM.blk 0 rfl).cell 1
  have rsf1 : (wz).frozen? ⟨w.heap.size, 1, none⟩ = false := (HM.blk 0 rfl).frozen 1
  have rs2 : (wz).cell? ⟨w.heap.size, 2, none⟩ = some (.int .i64 (H : Int)) := (HM.blk 0 rfl).cell 2
  have rsf2 : (wz).frozen? ⟨w.heap.size, 2, none⟩ = false := (HM.blk 0 rfl).frozen 2
  have rslt : w.heap.size < (wz).heap.size := HM.lt 0 rfl
  refine bodyPost_ret (v := .tuple #[.agg #[.int .i64 (me : Int), .int .i64 (cr : Int), .int .i64 (H : Int)], .int .i64 0]) (by simp [results, Tryd.results16, go_sem, rs0, rs1, rs2]; done) rfl ?_
  exact ⟨rfl, HM.below⟩
end Go.Proofs.YtakdjggpengbhaaDoor

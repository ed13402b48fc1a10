/- keypad: may, Press; the law's scripts. -/
import Derived.Test.YthhbnmmhjfgpdaaDoorPadL
namespace Go.Proofs.YthhbnmmhjfgpdaaDoor
open Go.RowKit
set_option linter.unusedVariables false
def zero6 (k : Nat) : Int := [48, 1632, 1776, 2406, 2534, 65296].getD k 65296
theorem script_is (n : Int) (k : Nat) (w : World) (hk : Hid (pk n 6 = (k : Int))) (hk6 : k < 6) (hn : (Lit.int .i64 n).wf = true) : Calls Tryd.prog 11 #[.int .i64 n] w fun e w' => e = .returned (.int .i32 (zero6 k)) ∧ w = w' := by
  have hsp : k = 0 ∨ k = 1 ∨ k = 2 ∨ k = 3 ∨ k = 4 ∨ k = 5 := by omega
  rcases hsp with rfl | rfl | rfl | rfl | rfl | rfl
  all_goals
    go_enter Tryd.func11, Tryd.ntmps11
    go_wp2_with fail
    refine (picked_is _ hk hn (by omega) (by omega)).mono ?_
    rintro e w' ⟨rfl, rfl⟩
    go_wp2
    go_ret
    exact ⟨rfl, rfl⟩
theorem zero6_kv (k d : Nat) (hk : k < 6) (hd : d ≤ 9) : kv (zero6 k + (d : Int)) = d ∧ Utf8.valid (zero6 k + (d : Int)) = true ∧ 0 ≤ zero6 k + (d : Int) ∧ zero6 k + (d : Int) ≤ 70000 ∧ 48 ≤ zero6 k ∧ zero6 k ≤ 65296 := by
  have hsp : k = 0 ∨ k = 1 ∨ k = 2 ∨ k = 3 ∨ k = 4 ∨ k = 5 := by omega
  rcases hsp with rfl | rfl | rfl | rfl | rfl | rfl
  all_goals
    simp only [zero6, List.getD_cons_zero, List.getD_cons_succ]
    refine ⟨?_, ?_, by omega, by omega, by omega, by omega⟩
    · unfold kv
      repeat' split <;> try omega
    · unfold Utf8.valid
      simp
      omega
set_option maxRecDepth 100000 in
theorem may_pad (D : List Nat) (b : Bool) (w : World) (hl : D.length ≤ 30) (hd : ∀ d ∈ D, d ≤ 9) :
    Calls Tryd.prog 19 #[.agg #[.string (dstr D), .bool b]] w fun e w' => e = .returned (.bool true) ∧ Below w.heap.size w w' := by
  have hsz := dstr_size D
  have H := Mem.init w
  replace H : Mem (w) [] _ [.blk (w.heap.size) 26 #[.string (dstr D), .bool b]] := Mem.alloc H (w.heap.size) (by first | (simp; done) | (simp; omega)) #[.string (dstr D), .bool b] 26
  have px0 : ((w).alloc (.cells #[.string (dstr D), .bool b] 26)).cell? ⟨w.heap.size, 0, none⟩ = some (.string (dstr D)) := (H.blk 0 rfl).cell 0
  have pxf0 : ((w).alloc (.cells #[.string (dstr D), .bool b] 26)).frozen? ⟨w.heap.size, 0, none⟩ = false := (H.blk 0 rfl).frozen 0
  have px1 : ((w).alloc (.cells #[.string (dstr D), .bool b] 26)).cell? ⟨w.heap.size, 1, none⟩ = some (.bool b) := (H.blk 0 rfl).cell 1
  have pxf1 : ((w).alloc (.cells #[.string (dstr D), .bool b] 26)).frozen? ⟨w.heap.size, 1, none⟩ = false := (H.blk 0 rfl).frozen 1
  have pxlt : w.heap.size < ((w).alloc (.cells #[.string (dstr D), .bool b] 26)).heap.size := H.lt 0 rfl
  go_enter Tryd.func19, Tryd.ntmps19
  go_wp2
  replace H : Mem (w) [] _ [.blk (w.heap.size) 26 #[.string (dstr D), .bool b], .obj (w.heap.size + 1) (.stringIter (dstr D) 0)] := Mem.iter H (w.heap.size + 1) (by first | (simp; done) | (simp; omega)) (dstr D)
  clear px0 pxf0 px1 pxf1 pxlt
  go_loopw [] (fun wr => ∃ k : Nat, k ≤ D.length ∧ Mem w [] wr [.blk w.heap.size 26 #[.string (dstr D), .bool b], .obj (w.heap.size + 1) (.stringIter (dstr D) k)]) (fun wr => D.length - wr.iterPos (w.heap.size + 1))
  case atStart => exact ⟨0, by omega, H⟩
  case round =>
    obtain ⟨k, hk, HM⟩ := hrel
    clear H
    have H : Mem (w) [] (wr) [.blk (w.heap.size) 26 #[.string (dstr D), .bool b], .obj (w.heap.size + 1) (.stringIter (dstr D) k)] := HM
    clear HM
    have hit := H.obj_ 1 rfl

    by_cases hlt : k < D.length
    · have hb := dstr_byte hd k (by rw [hsz]; exact hlt)
      have h9 := hd _ (List.getElem_mem hlt)
      have hnx := fun ty => Lib.run_next_ascii_at (P := Tryd.prog) wr (w.heap.size + 1) (dstr D) k ty hit (by rw [hsz]; exact hlt) (by rw [hb]; omega)
      rw [hb] at hnx
      obtain ⟨d, hdd⟩ : ∃ d, D[k] = d := ⟨_, rfl⟩
      rw [hdd] at hnx h9
      have HIT := Lib.hid hit
      have g1 : (48 : Int) ≤ ((48 + d : Nat) : Int) := by omega
      have g2 : ((48 + d : Nat) : Int) ≤ 57 := by omega
      clear hb hdd hit hd h9
      replace H : Mem (w) [] _ [.blk (w.heap.size) 26 #[.string (dstr D), .bool b], .obj (w.heap.size + 1) (.stringIter (dstr D) (k + 1))] := Mem.next 1 H rfl (k + 1)
      go_wp2
      go_roundw
      case rel => exact ⟨k + 1, by omega, H⟩
      case measure =>
        have h9 := iterPos_of (H.obj_ 1 rfl)
        have h8 := iterPos_of HIT.out
        omega
    · skip
      have hnx := fun ty => Lib.run_next_end_at (P := Tryd.prog) wr (w.heap.size + 1) (dstr D) k ty hit (by rw [hsz]; exact hlt)
      clear hit
      go_wp2
      go_ret
      exact ⟨rfl, H.below⟩
theorem own_blk {w0 w : World} {L : List Chunk} {g i : Nat} {t : TypeId} {cs : Array Value} (H : Mem w0 [] w L) (hi : L[i]? = some (.blk g t cs)) (hm : 0 < cs.size) : w.ownsRow w0.heap.size t cs.size (.slice (some ⟨g, 0, none⟩) 1 1) 1 cs.toList :=
  ⟨by simp, .inr ⟨g, 1, cs, rfl, H.ge i hi, H.blk i hi, Nat.le_refl _, by unfold maxLen; omega, by simp, List.take_of_length_le (by simp)⟩⟩
/-- A new pad; the entry that ended, if one did. -/
def RetPressE (q : PadS) (o : Option EntS) (w : World) (e : Ending) (w' : World) : Prop :=
  ∃ (A : Option Addr) (c : Nat), e = .returned (.tuple #[.agg #[.string (dstr q.1), .bool q.2], .slice A o.toList.length c, .int .i64 0]) ∧ w'.ownsRow w.heap.size 31 2 (.slice A o.toList.length c) o.toList.length (entsV o.toList) ∧ Below w.heap.size w w'
set_option maxRecDepth 100000 in
set_option maxHeartbeats 1000000 in
theorem pressE_ok (D : List Nat) (b : Bool) (hp : PadOk (D, b)) (r : Int) (w : World) (h0 : 0 ≤ r) (h1 : r ≤ 2147483647) :
    Calls Tryd.prog 12 #[.agg #[.string (dstr D), .bool b], .int .i32 r] w (RetPressE (kpress (D, b) r).1 (kpress (D, b) r).2 w) := by
  have hM := fun W => may_pad D b W hp.1 hp.2
  have hP := fun W => press_at D b hp r W h0 h1
  obtain ⟨⟨D', b'⟩, hq⟩ : ∃ q, (kpress (D, b) r).1 = q := ⟨_, rfl⟩
  obtain ⟨o, ho⟩ : ∃ o, (kpress (D, b) r).2 = o := ⟨_, rfl⟩
  rw [hq, ho] at hP ⊢
  clear hq ho hp
  have hnil : dstr [] = ⟨#[]⟩ := rfl
  have H := Mem.init w
  obtain ⟨W0, hW0⟩ : ∃ W0, ((w).alloc (.cells #[.string (dstr D), .bool b] 26)).alloc (.cells #[.string ⟨#[]⟩, .bool false] 26) = W0 := ⟨_, rfl⟩
  replace H : Mem (w) [] _ [.blk (w.heap.size) 26 #[.string (dstr D), .bool b]] := Mem.alloc H (w.heap.size) (by first | (simp; done) | (simp; omega)) #[.string (dstr D), .bool b] 26
  replace H : Mem (w) [] _ [.blk (w.heap.size) 26 #[.string (dstr D), .bool b], .blk (w.heap.size + 1) 26 #[.string ⟨#[]⟩, .bool false]] := Mem.alloc H (w.heap.size + 1) (by first | (simp; done) | (simp; omega)) #[.string ⟨#[]⟩, .bool false] 26
  rw [hW0] at H
  have px0 : (W0).cell? ⟨w.heap.size, 0, none⟩ = some (.string (dstr D)) := (H.blk 0 rfl).cell 0
  have pxf0 : (W0).frozen? ⟨w.heap.size, 0, none⟩ = false := (H.blk 0 rfl).frozen 0
  have px1 : (W0).cell? ⟨w.heap.size, 1, none⟩ = some (.bool b) := (H.blk 0 rfl).cell 1
  have pxf1 : (W0).frozen? ⟨w.heap.size, 1, none⟩ = false := (H.blk 0 rfl).frozen 1
  have pxlt : w.heap.size < (W0).heap.size := H.lt 0 rfl
  have rs0 : (W0).cell? ⟨w.heap.size + 1, 0, none⟩ = some (.string ⟨#[]⟩) := (H.blk 1 rfl).cell 0
  have rsf0 : (W0).frozen? ⟨w.heap.size + 1, 0, none⟩ = false := (H.blk 1 rfl).frozen 0
  have rs1 : (W0).cell? ⟨w.heap.size + 1, 1, none⟩ = some (.bool false) := (H.blk 1 rfl).cell 1
  have rsf1 : (W0).frozen? ⟨w.heap.size + 1, 1, none⟩ = false := (H.blk 1 rfl).frozen 1
  have rslt : w.heap.size + 1 < (W0).heap.size := H.lt 1 rfl
  have ne_px_rs : w.heap.size ≠ w.heap.size + 1 := H.ne 0 1 rfl rfl (by decide)
  have ne_rs_px : w.heap.size + 1 ≠ w.heap.size := H.ne 1 0 rfl rfl (by decide)
  go_enter Tryd.func12, Tryd.ntmps12
  go_wp2_with fail
  refine (hM _).mono ?_
  rintro e wa ⟨rfl, hba⟩
  replace H : Mem (w) [] (wa) [.blk (w.heap.size) 26 #[.string (dstr D), .bool b], .blk (w.heap.size + 1) 26 #[.string ⟨#[]⟩, .bool false]] := Mem.call H hba
  clear px0 pxf0 px1 pxf1 pxlt rs0 rsf0 rs1 rsf1 rslt ne_px_rs ne_rs_px
  have px0 : (wa).cell? ⟨w.heap.size, 0, none⟩ = some (.string (dstr D)) := (H.blk 0 rfl).cell 0
  have pxf0 : (wa).frozen? ⟨w.heap.size, 0, none⟩ = false := (H.blk 0 rfl).frozen 0
  have px1 : (wa).cell? ⟨w.heap.size, 1, none⟩ = some (.bool b) := (H.blk 0 rfl).cell 1
  have pxf1 : (wa).frozen? ⟨w.heap.size, 1, none⟩ = false := (H.blk 0 rfl).frozen 1
  have pxlt : w.heap.size < (wa).heap.size := H.lt 0 rfl
  have rs0 : (wa).cell? ⟨w.heap.size + 1, 0, none⟩ = some (.string ⟨#[]⟩) := (H.blk 1 rfl).cell 0
  have rsf0 : (wa).frozen? ⟨w.heap.size + 1, 0, none⟩ = false := (H.blk 1 rfl).frozen 0
  have rs1 : (wa).cell? ⟨w.heap.size + 1, 1, none⟩ = some (.bool false) := (H.blk 1 rfl).cell 1
  have rsf1 : (wa).frozen? ⟨w.heap.size + 1, 1, none⟩ = false := (H.blk 1 rfl).frozen 1
  have rslt : w.heap.size + 1 < (wa).heap.size := H.lt 1 rfl
  have ne_px_rs : w.heap.size ≠ w.heap.size + 1 := H.ne 0 1 rfl rfl (by decide)
  have ne_rs_px : w.heap.size + 1 ≠ w.heap.size := H.ne 1 0 rfl rfl (by decide)
  clear hba hM hW0
  go_wp2_with fail
  refine (hP _).mono ?_

  cases o with
  | none =>
    intro e wb hx
    obtain ⟨rfl, hbb⟩ := retpress_none hx
    replace H : Mem (w) [] (wb) [.blk (w.heap.size) 26 #[.string (dstr D), .bool b], .blk (w.heap.size + 1) 26 #[.string ⟨#[]⟩, .bool false]] := Mem.call H hbb
    clear hbb hP hx
    replace H : Mem (w) [] _ [.blk (w.heap.size) 26 #[.string (dstr D), .bool b], .blk (w.heap.size + 1) 26 #[.string ⟨#[]⟩, .bool false], .blk (wb.heap.size) 26 #[.string (dstr D'), .bool b']] := Mem.alloc H (wb.heap.size) (by first | (simp; done) | (simp; omega)) #[.string (dstr D'), .bool b'] 26
    clear px0 pxf0 px1 pxf1 pxlt rs0 rsf0 rs1 rsf1 rslt ne_px_rs ne_rs_px
    have rs0 : ((wb).alloc (.cells #[.string (dstr D'), .bool b'] 26)).cell? ⟨w.heap.size + 1, 0, none⟩ = some (.string ⟨#[]⟩) := (H.blk 1 rfl).cell 0
    have rsf0 : ((wb).alloc (.cells #[.string (dstr D'), .bool b'] 26)).frozen? ⟨w.heap.size + 1, 0, none⟩ = false := (H.blk 1 rfl).frozen 0
    have rs1 : ((wb).alloc (.cells #[.string (dstr D'), .bool b'] 26)).cell? ⟨w.heap.size + 1, 1, none⟩ = some (.bool false) := (H.blk 1 rfl).cell 1
    have rsf1 : ((wb).alloc (.cells #[.string (dstr D'), .bool b'] 26)).frozen? ⟨w.heap.size + 1, 1, none⟩ = false := (H.blk 1 rfl).frozen 1
    have rslt : w.heap.size + 1 < ((wb).alloc (.cells #[.string (dstr D'), .bool b'] 26)).heap.size := H.lt 1 rfl
    have nq0 : ((wb).alloc (.cells #[.string (dstr D'), .bool b'] 26)).cell? ⟨wb.heap.size, 0, none⟩ = some (.string (dstr D')) := (H.blk 2 rfl).cell 0
    have nqf0 : ((wb).alloc (.cells #[.string (dstr D'), .bool b'] 26)).frozen? ⟨wb.heap.size, 0, none⟩ = false := (H.blk 2 rfl).frozen 0
    have nq1 : ((wb).alloc (.cells #[.string (dstr D'), .bool b'] 26)).cell? ⟨wb.heap.size, 1, none⟩ = some (.bool b') := (H.blk 2 rfl).cell 1
    have nqf1 : ((wb).alloc (.cells #[.string (dstr D'), .bool b'] 26)).frozen? ⟨wb.heap.size, 1, none⟩ = false := (H.blk 2 rfl).frozen 1
    have nqlt : wb.heap.size < ((wb).alloc (.cells #[.string (dstr D'), .bool b'] 26)).heap.size := H.lt 2 rfl
    have ne_rs_nq : w.heap.size + 1 ≠ wb.heap.size := H.ne 1 2 rfl rfl (by decide)
    have ne_nq_rs : wb.heap.size ≠ w.heap.size + 1 := H.ne 2 1 rfl rfl (by decide)
    go_wp2
    obtain ⟨wz, hwz⟩ : ∃ wz, (((wb).alloc (.cells #[.string (dstr D'), .bool b'] 26)).setCell ⟨w.heap.size + 1, 0, none⟩ (.string (dstr D'))).setCell ⟨w.heap.size + 1, 1, none⟩ (.bool b') = wz := ⟨_, rfl⟩
    replace H : Mem (w) [] _ [.blk (w.heap.size) 26 #[.string (dstr D), .bool b], .blk (w.heap.size + 1) 26 #[.string (dstr D'), .bool false], .blk (wb.heap.size) 26 #[.string (dstr D'), .bool b']] := Mem.set 1 H rfl 0 (.string (dstr D'))
    replace H : Mem (w) [] _ [.blk (w.heap.size) 26 #[.string (dstr D), .bool b], .blk (w.heap.size + 1) 26 #[.string (dstr D'), .bool b'], .blk (wb.heap.size) 26 #[.string (dstr D'), .bool b']] := Mem.set 1 H rfl 1 (.bool b')
    rw [hwz] at H ⊢
    clear hwz
    clear rs0 rsf0 rs1 rsf1 rslt nq0 nqf0 nq1 nqf1 nqlt ne_rs_nq ne_nq_rs
    have rs0 : (wz).cell? ⟨w.heap.size + 1, 0, none⟩ = some (.string (dstr D')) := (H.blk 1 rfl).cell 0
    have rsf0 : (wz).frozen? ⟨w.heap.size + 1, 0, none⟩ = false := (H.blk 1 rfl).frozen 0
    have rs1 : (wz).cell? ⟨w.heap.size + 1, 1, none⟩ = some (.bool b') := (H.blk 1 rfl).cell 1
    have rsf1 : (wz).frozen? ⟨w.heap.size + 1, 1, none⟩ = false := (H.blk 1 rfl).frozen 1
    have rslt : w.heap.size + 1 < (wz).heap.size := H.lt 1 rfl
    refine bodyPost_ret (v := .tuple #[.agg #[.string (dstr D'), .bool b'], .slice none 0 0, .int .i64 0]) (by simp [results, Tryd.results12, go_sem, rs0, rs1]; done) rfl ?_
    exact ⟨none, 0, rfl, World.ownsRow_nil _ _ _ _, H.below⟩
  | some en =>
    skip
    obtain ⟨T, cd⟩ := en
    intro e wb hx
    obtain ⟨g, rfl, hK⟩ := retpress_some hx
    replace H : Mem (w) [] (wb) [.blk (w.heap.size) 26 #[.string (dstr D), .bool b], .blk (w.heap.size + 1) 26 #[.string ⟨#[]⟩, .bool false], .blk (g) 31 #[.string (dstr T), .int .i64 (cd : Int)]] := Mem.join H hK
    clear hK hP hx
    go_wp2_with fail
    obtain ⟨wq, hwq⟩ : ∃ wq, (wb).alloc (.cells #[.string (dstr D'), .bool b'] 26) = wq := ⟨_, rfl⟩
    replace H : Mem (w) [] _ [.blk (w.heap.size) 26 #[.string (dstr D), .bool b], .blk (w.heap.size + 1) 26 #[.string ⟨#[]⟩, .bool false], .blk (g) 31 #[.string (dstr T), .int .i64 (cd : Int)], .blk (wb.heap.size) 26 #[.string (dstr D'), .bool b']] := Mem.alloc H (wb.heap.size) (by first | (simp; done) | (simp; omega)) #[.string (dstr D'), .bool b'] 26
    rw [hwq] at H ⊢
    clear hwq
    clear px0 pxf0 px1 pxf1 pxlt rs0 rsf0 rs1 rsf1 rslt ne_px_rs ne_rs_px
    have rs0 : (wq).cell? ⟨w.heap.size + 1, 0, none⟩ = some (.string ⟨#[]⟩) := (H.blk 1 rfl).cell 0
    have rsf0 : (wq).frozen? ⟨w.heap.size + 1, 0, none⟩ = false := (H.blk 1 rfl).frozen 0
    have rs1 : (wq).cell? ⟨w.heap.size + 1, 1, none⟩ = some (.bool false) := (H.blk 1 rfl).cell 1
    have rsf1 : (wq).frozen? ⟨w.heap.size + 1, 1, none⟩ = false := (H.blk 1 rfl).frozen 1
    have rslt : w.heap.size + 1 < (wq).heap.size := H.lt 1 rfl
    have en0 : (wq).cell? ⟨g, 0, none⟩ = some (.string (dstr T)) := (H.blk 2 rfl).cell 0
    have enf0 : (wq).frozen? ⟨g, 0, none⟩ = false := (H.blk 2 rfl).frozen 0
    have en1 : (wq).cell? ⟨g, 1, none⟩ = some (.int .i64 (cd : Int)) := (H.blk 2 rfl).cell 1
    have enf1 : (wq).frozen? ⟨g, 1, none⟩ = false := (H.blk 2 rfl).frozen 1
    have enlt : g < (wq).heap.size := H.lt 2 rfl
    have nq0 : (wq).cell? ⟨wb.heap.size, 0, none⟩ = some (.string (dstr D')) := (H.blk 3 rfl).cell 0
    have nqf0 : (wq).frozen? ⟨wb.heap.size, 0, none⟩ = false := (H.blk 3 rfl).frozen 0
    have nq1 : (wq).cell? ⟨wb.heap.size, 1, none⟩ = some (.bool b') := (H.blk 3 rfl).cell 1
    have nqf1 : (wq).frozen? ⟨wb.heap.size, 1, none⟩ = false := (H.blk 3 rfl).frozen 1
    have nqlt : wb.heap.size < (wq).heap.size := H.lt 3 rfl
    have ne_rs_en : w.heap.size + 1 ≠ g := H.ne 1 2 rfl rfl (by decide)
    have ne_rs_nq : w.heap.size + 1 ≠ wb.heap.size := H.ne 1 3 rfl rfl (by decide)
    have ne_en_rs : g ≠ w.heap.size + 1 := H.ne 2 1 rfl rfl (by decide)
    have ne_en_nq : g ≠ wb.heap.size := H.ne 2 3 rfl rfl (by decide)
    have ne_nq_rs : wb.heap.size ≠ w.heap.size + 1 := H.ne 3 1 rfl rfl (by decide)
    have ne_nq_en : wb.heap.size ≠ g := H.ne 3 2 rfl rfl (by decide)
    go_region
    go_wp2
    obtain ⟨wz, hwz⟩ : ∃ wz, ((((wq).setCell ⟨w.heap.size + 1, 0, none⟩ (.string (dstr D'))).setCell ⟨w.heap.size + 1, 1, none⟩ (.bool b')).alloc (.cells #[.string (dstr T), .int .i64 (cd : Int)] 31)).drew = wz := ⟨_, rfl⟩
    replace H : Mem (w) [] _ [.blk (w.heap.size) 26 #[.string (dstr D), .bool b], .blk (w.heap.size + 1) 26 #[.string (dstr D'), .bool false], .blk (g) 31 #[.string (dstr T), .int .i64 (cd : Int)], .blk (wb.heap.size) 26 #[.string (dstr D'), .bool b']] := Mem.set 1 H rfl 0 (.string (dstr D'))
    replace H : Mem (w) [] _ [.blk (w.heap.size) 26 #[.string (dstr D), .bool b], .blk (w.heap.size + 1) 26 #[.string (dstr D'), .bool b'], .blk (g) 31 #[.string (dstr T), .int .i64 (cd : Int)], .blk (wb.heap.size) 26 #[.string (dstr D'), .bool b']] := Mem.set 1 H rfl 1 (.bool b')
    replace H : Mem (w) [] _ [.blk (w.heap.size) 26 #[.string (dstr D), .bool b], .blk (w.heap.size + 1) 26 #[.string (dstr D'), .bool b'], .blk (g) 31 #[.string (dstr T), .int .i64 (cd : Int)], .blk (wb.heap.size) 26 #[.string (dstr D'), .bool b'], .blk (wq.heap.size) 31 #[.string (dstr T), .int .i64 (cd : Int)]] := Mem.alloc H (wq.heap.size) (by first | (simp; done) | (simp; omega)) #[.string (dstr T), .int .i64 (cd : Int)] 31
    replace H := H.drew
    rw [hwz] at H ⊢
    clear hwz
    clear rs0 rsf0 rs1 rsf1 rslt en0 enf0 en1 enf1 enlt nq0 nqf0 nq1 nqf1 nqlt ne_rs_en ne_rs_nq ne_en_rs ne_en_nq ne_nq_rs ne_nq_en
    have rs0 : (wz).cell? ⟨w.heap.size + 1, 0, none⟩ = some (.string (dstr D')) := (H.blk 1 rfl).cell 0
    have rsf0 : (wz).frozen? ⟨w.heap.size + 1, 0, none⟩ = false := (H.blk 1 rfl).frozen 0
    have rs1 : (wz).cell? ⟨w.heap.size + 1, 1, none⟩ = some (.bool b') := (H.blk 1 rfl).cell 1
    have rsf1 : (wz).frozen? ⟨w.heap.size + 1, 1, none⟩ = false := (H.blk 1 rfl).frozen 1
    have rslt : w.heap.size + 1 < (wz).heap.size := H.lt 1 rfl
    refine bodyPost_ret (v := .tuple #[.agg #[.string (dstr D'), .bool b'], .slice (some ⟨wq.heap.size, 0, none⟩) 1 1, .int .i64 0]) (by simp [results, Tryd.results12, go_sem, rs0, rs1]; done) rfl ?_
    exact ⟨_, 1, rfl, own_blk (cs := #[.string (dstr T), .int .i64 (cd : Int)]) H (i := 4) rfl (by simp), H.below⟩
end Go.Proofs.YthhbnmmhjfgpdaaDoor

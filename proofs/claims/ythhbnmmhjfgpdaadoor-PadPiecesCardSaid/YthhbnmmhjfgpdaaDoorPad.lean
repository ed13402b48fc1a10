/- keypad: zeros, value, press, Keys, may, Press. -/
import Derived.Test.YthhbnmmhjfgpdaaDoorPadD
import Derived.Test.YthhbnmmhjfgpdaaDoorPushM
import Derived.Test.YthhbnmmhjfgpdaaDoorFit
namespace Go.Proofs.YthhbnmmhjfgpdaaDoor
open Go.RowKit
set_option linter.unusedVariables false
theorem zeros_ok (w : World) : Calls Tryd.prog 32 #[] w fun e w' => e = .returned (.agg #[.int .i32 48, .int .i32 1632, .int .i32 1776, .int .i32 2406, .int .i32 2534, .int .i32 65296]) ∧ Below w.heap.size w w' := by
  go_enter Tryd.func32, Tryd.ntmps32
  go_wp2
  refine bodyPost_ret (v := .agg #[.int .i32 48, .int .i32 1632, .int .i32 1776, .int .i32 2406, .int .i32 2534, .int .i32 65296]) (by simp [results, Tryd.results32, go_sem]; done) rfl ?_
  exact ⟨rfl, below_a1 _ _⟩
def zr (k : Nat) : Int := [48, 1632, 1776, 2406, 2534, 65296].getD k 0
theorem zidx0 (W : World) : (Instr.index 64 (.agg #[.int .i32 48, .int .i32 1632, .int .i32 1776, .int .i32 2406, .int .i32 2534, .int .i32 65296]) (.int .i64 0)).run Tryd.prog W = .ok (.int .i32 48) W := by kernel_rfl
theorem zidx1 (W : World) : (Instr.index 64 (.agg #[.int .i32 48, .int .i32 1632, .int .i32 1776, .int .i32 2406, .int .i32 2534, .int .i32 65296]) (.int .i64 1)).run Tryd.prog W = .ok (.int .i32 1632) W := by kernel_rfl
theorem zidx2 (W : World) : (Instr.index 64 (.agg #[.int .i32 48, .int .i32 1632, .int .i32 1776, .int .i32 2406, .int .i32 2534, .int .i32 65296]) (.int .i64 2)).run Tryd.prog W = .ok (.int .i32 1776) W := by kernel_rfl
theorem zidx3 (W : World) : (Instr.index 64 (.agg #[.int .i32 48, .int .i32 1632, .int .i32 1776, .int .i32 2406, .int .i32 2534, .int .i32 65296]) (.int .i64 3)).run Tryd.prog W = .ok (.int .i32 2406) W := by kernel_rfl
theorem zidx4 (W : World) : (Instr.index 64 (.agg #[.int .i32 48, .int .i32 1632, .int .i32 1776, .int .i32 2406, .int .i32 2534, .int .i32 65296]) (.int .i64 4)).run Tryd.prog W = .ok (.int .i32 2534) W := by kernel_rfl
theorem zidx5 (W : World) : (Instr.index 64 (.agg #[.int .i32 48, .int .i32 1632, .int .i32 1776, .int .i32 2406, .int .i32 2534, .int .i32 65296]) (.int .i64 5)).run Tryd.prog W = .ok (.int .i32 65296) W := by kernel_rfl
set_option maxRecDepth 100000 in
theorem value_ok (r : Int) (w : World) (h0 : 0 ≤ r) (h1 : r ≤ 2147483647) : Calls Tryd.prog 26 #[.int .i32 r] w fun e w' => e = .returned (.int .i64 (kv r)) ∧ Below w.heap.size w w' := by
  have hz0 := zidx0
  have hz1 := zidx1
  have hz2 := zidx2
  have hz3 := zidx3
  have hz4 := zidx4
  have hz5 := zidx5
  go_enter Tryd.func26, Tryd.ntmps26
  go_wp2_with (go_at_call 32; (with_reducible refine (zeros_ok _).mono ?_); rintro e wa ⟨rfl, hb⟩)
  go_loopw [6] (fun i wr => ∃ k : Nat, k ≤ 6 ∧ i = .int .i64 k ∧ Hid (∀ j, j < k → ¬ (zr j ≤ r ∧ r < zr j + 10)) ∧ Below w.heap.size w wr) (fun i _ => 6 - (intOf i).toNat)
  case atStart => exact ⟨0, by omega, rfl, fun j hj => by omega, hb⟩
  case round =>
    obtain ⟨k, hk, rfl, hno, hb2⟩ := hrel
    clear hb
    have hsp : k = 6 ∨ k = 0 ∨ k = 1 ∨ k = 2 ∨ k = 3 ∨ k = 4 ∨ k = 5 := by omega
    clear hk
    rcases hsp with rfl | hsp
    · have e : kv r = -1 := by
        have n0 := hno.out 0 (by omega)
        have n1 := hno.out 1 (by omega)
        have n2 := hno.out 2 (by omega)
        have n3 := hno.out 3 (by omega)
        have n4 := hno.out 4 (by omega)
        have n5 := hno.out 5 (by omega)
        simp [zr] at n0 n1 n2 n3 n4 n5
        unfold kv
        repeat' split <;> try omega
      have E := Lib.hid e
      clear e hno
      go_wp2
      go_ret
      exact ⟨by rw [E.out]; rfl, hb2⟩
    · have hy : (zr k ≤ r ∧ r < zr k + 10) ∨ ¬ (zr k ≤ r ∧ r < zr k + 10) := Classical.em _
      rcases hy with hy | hy
      · have e : kv r = r - zr k := by
          have n0 := fun h => hno.out 0 h
          rcases hsp with rfl | rfl | rfl | rfl | rfl | rfl <;> (simp [zr] at hy ⊢; unfold kv; repeat' split <;> try omega)
        have E := Lib.hid e
        clear e hno
        rcases hsp with rfl | rfl | rfl | rfl | rfl | rfl <;> (simp only [zr, List.getD_cons_zero, List.getD_cons_succ, Int.reduceAdd] at hy; obtain ⟨g1, g2⟩ := hy; go_wp2; go_ret; exact ⟨by rw [E.out]; rfl, hb2⟩)
      · have hno' : Hid (∀ j, j < k + 1 → ¬ (zr j ≤ r ∧ r < zr j + 10)) := fun j hj => by
          by_cases h : j = k
          · rw [h]; exact hy
          · exact hno.out j (by omega)
        clear hno
        rcases hsp with rfl | rfl | rfl | rfl | rfl | rfl
        all_goals
          simp only [zr, List.getD_cons_zero, List.getD_cons_succ, not_and, Int.not_lt] at hy
          have hg : ∀ z : Int, (z ≤ r → z + 10 ≤ r) → (decide (z ≤ r) = false ∨ (decide (z ≤ r) = true ∧ decide (r < z + 10) = false)) := fun z hz => by
            by_cases h : z ≤ r
            · exact .inr ⟨by simp [h], by simp; exact hz h⟩
            · exact .inl (by simp; omega)
          have hy2 := hg _ hy
          simp only [Int.reduceAdd] at hy2
          clear hg hy
          rcases hy2 with g1 | ⟨g1, g2⟩
          all_goals
            go_wp2
            go_roundw
            case rel => refine ⟨_, ?_, ?_, hno', hb2⟩ <;> first | omega | rfl
            case measure => simp [intOf]
/-- A pad as a value. -/
def padv (p : PadS) : Value := .agg #[.string (dstr p.1), .bool p.2]
/-- A new pad; an entry in a block of its own, if one ended. -/
def RetPress (q : PadS) (o : Option EntS) (w : World) (e : Ending) (w' : World) : Prop :=
  match o with
  | none => e = .returned (.tuple #[padv q, .pointer none]) ∧ Below w.heap.size w w'
  | some n => ∃ g, e = .returned (.tuple #[padv q, .pointer (some ⟨g, 0, none⟩)]) ∧ Mem w [] w' [.blk g 31 #[.string (dstr n.1), .int .i64 (n.2 : Int)]]
theorem enc_digit {v : Nat} (h : v ≤ 9) : Utf8.encode (48 + (v : Int)) = dstr [v] := by
  have e : (48 + (v : Int)) = ((48 + v : Nat) : Int) := by omega
  rw [e, enc_ascii (by omega)]
  rfl
theorem last_nil (w : World) : Calls Tryd.prog 25 #[.string (dstr [])] w fun e w' => e = .returned (.tuple #[.int .i32 65533, .int .i64 0]) ∧ w = w' := by
  have hsz := dstr_size []
  go_enter Tryd.func25, Tryd.ntmps25
  go_wp2
  go_ret2
  exact ⟨rfl, rfl⟩
set_option maxRecDepth 100000 in
theorem last_ok (l : List Nat) (hl : ∀ d ∈ l, d ≤ 9) (h0 : 0 < l.length) (h1 : l.length ≤ 1000) (w : World) : Calls Tryd.prog 25 #[.string (dstr l)] w fun e w' => ∃ r : Int, e = .returned (.tuple #[.int .i32 r, .int .i64 1]) ∧ w = w' := by
  have hsz := dstr_size l
  have hb := dstr_byte hl (l.length - 1) (by omega)
  have hd := hl _ (List.getElem_mem (by omega : l.length - 1 < l.length))
  generalize l[l.length - 1] = d at *
  go_enter Tryd.func25, Tryd.ntmps25
  go_wp2
  go_ret2
  exact ⟨_, rfl, rfl⟩
set_option maxRecDepth 100000 in
theorem press_stay (D : List Nat) (b : Bool) (r : Int) (w : World) (hr : r = 32 ∨ r = 45 ∨ r = 160) :
    Calls Tryd.prog 18 #[padv (D, b), .int .i32 r] w (RetPress (D, b) none w) := by
  unfold padv
  dsimp only
  have H := Mem.init w
  replace H : Mem (w) [] _ [.blk (w.heap.size) 26 #[.string (dstr D), .bool b]] := Mem.alloc H (w.heap.size) (by first | (simp; done) | (simp; omega)) #[.string (dstr D), .bool b] 26
  replace H : Mem (w) [] _ [.blk (w.heap.size) 26 #[.string (dstr D), .bool b], .blk (w.heap.size + 1) 26 #[.string (dstr D), .bool b]] := Mem.alloc H (w.heap.size + 1) (by first | (simp; done) | (simp; omega)) #[.string (dstr D), .bool b] 26
  have rs0 : (((w).alloc (.cells #[.string (dstr D), .bool b] 26)).alloc (.cells #[.string (dstr D), .bool b] 26)).cell? ⟨w.heap.size + 1, 0, none⟩ = some (.string (dstr D)) := (H.blk 1 rfl).cell 0
  have rsf0 : (((w).alloc (.cells #[.string (dstr D), .bool b] 26)).alloc (.cells #[.string (dstr D), .bool b] 26)).frozen? ⟨w.heap.size + 1, 0, none⟩ = false := (H.blk 1 rfl).frozen 0
  have rs1 : (((w).alloc (.cells #[.string (dstr D), .bool b] 26)).alloc (.cells #[.string (dstr D), .bool b] 26)).cell? ⟨w.heap.size + 1, 1, none⟩ = some (.bool b) := (H.blk 1 rfl).cell 1
  have rsf1 : (((w).alloc (.cells #[.string (dstr D), .bool b] 26)).alloc (.cells #[.string (dstr D), .bool b] 26)).frozen? ⟨w.heap.size + 1, 1, none⟩ = false := (H.blk 1 rfl).frozen 1
  have rslt : w.heap.size + 1 < (((w).alloc (.cells #[.string (dstr D), .bool b] 26)).alloc (.cells #[.string (dstr D), .bool b] 26)).heap.size := H.lt 1 rfl
  rcases hr with rfl | rfl | rfl
  all_goals
    go_enter Tryd.func18, Tryd.ntmps18
    go_wp2
    refine bodyPost_ret (v := .tuple #[padv (D, b), .pointer none]) (by simp [results, Tryd.results18, go_sem, rs0, rs1, padv]; done) rfl ?_
    exact ⟨rfl, H.below⟩
theorem dstr_nil : dstr [] = ByteArray.empty := rfl
theorem mk_nil : (⟨#[]⟩ : ByteArray) = ByteArray.empty := rfl
theorem drop_str (D : List Nat) : (dstr D).extract 0 (D.length - 1) = dstr D.dropLast := by
  rw [dstr_extract, List.dropLast_eq_take]; rfl
set_option maxRecDepth 100000 in
theorem press_back (D : List Nat) (b : Bool) (w : World) (hD : ∀ d ∈ D, d ≤ 9) (hl : D.length ≤ 30) :
    Calls Tryd.prog 18 #[padv (D, b), .int .i32 42] w (RetPress (D.dropLast, b) none w) := by
  have hsz := dstr_size D
  unfold padv
  dsimp only
  have H := Mem.init w
  obtain ⟨W0, hW0⟩ : ∃ W0, ((w).alloc (.cells #[.string (dstr D), .bool b] 26)).alloc (.cells #[.string ⟨#[]⟩, .bool false] 26) = W0 := ⟨_, rfl⟩
  replace H : Mem (w) [] _ [.blk (w.heap.size) 26 #[.string (dstr D), .bool b]] := Mem.alloc H (w.heap.size) (by first | (simp; done) | (simp; omega)) #[.string (dstr D), .bool b] 26
  replace H : Mem (w) [] _ [.blk (w.heap.size) 26 #[.string (dstr D), .bool b], .blk (w.heap.size + 1) 26 #[.string ⟨#[]⟩, .bool false]] := Mem.alloc H (w.heap.size + 1) (by first | (simp; done) | (simp; omega)) #[.string ⟨#[]⟩, .bool false] 26
  rw [hW0] at H
  have px0 : (W0).cell? ⟨w.heap.size, 0, none⟩ = some (.string (dstr D)) := (H.blk 0 rfl).cell 0
  have pxf0 : (W0).frozen? ⟨w.heap.size, 0, none⟩ = false := (H.blk 0 rfl).frozen 0
  have px1 : (W0).cell? ⟨w.heap.size, 1, none⟩ = some (.bool b) := (H.blk 0 rfl).cell 1
  have pxf1 : (W0).frozen? ⟨w.heap.size, 1, none⟩ = false := (H.blk 0 rfl).frozen 1
  have pxlt : w.heap.size < (W0).heap.size := H.lt 0 rfl
  have rs0 : (W0).cell? ⟨w.heap.size + 1, 0, none⟩ = some (.string ⟨#[]⟩) := (H.blk 1 rfl).cell 0
  have rsf0 : (W0).frozen? ⟨w.heap.size + 1, 0, none⟩ = false := (H.blk 1 rfl).frozen 0
  have rs1 : (W0).cell? ⟨w.heap.size + 1, 1, none⟩ = some (.bool false) := (H.blk 1 rfl).cell 1
  have rsf1 : (W0).frozen? ⟨w.heap.size + 1, 1, none⟩ = false := (H.blk 1 rfl).frozen 1
  have rslt : w.heap.size + 1 < (W0).heap.size := H.lt 1 rfl
  have ne_px_rs : w.heap.size ≠ w.heap.size + 1 := H.ne 0 1 rfl rfl (by decide)
  have ne_rs_px : w.heap.size + 1 ≠ w.heap.size := H.ne 1 0 rfl rfl (by decide)

  by_cases h0 : D = []
  · subst h0
    go_enter Tryd.func18, Tryd.ntmps18
    go_wp2_with (go_at_call 25; (with_reducible refine (last_nil _).mono ?_); rintro e wa ⟨rfl, rfl⟩)
    obtain ⟨wb, hwb⟩ : ∃ wb, (((W0).setCell ⟨w.heap.size, 0, none⟩ (.string ByteArray.empty)).setCell ⟨w.heap.size + 1, 0, none⟩ (.string ByteArray.empty)).setCell ⟨w.heap.size + 1, 1, none⟩ (.bool b) = wb := ⟨_, rfl⟩
    replace H : Mem (w) [] _ [.blk (w.heap.size) 26 #[.string ByteArray.empty, .bool b], .blk (w.heap.size + 1) 26 #[.string ⟨#[]⟩, .bool false]] := Mem.set 0 H rfl 0 (.string ByteArray.empty)
    replace H : Mem (w) [] _ [.blk (w.heap.size) 26 #[.string ByteArray.empty, .bool b], .blk (w.heap.size + 1) 26 #[.string ByteArray.empty, .bool false]] := Mem.set 1 H rfl 0 (.string ByteArray.empty)
    replace H : Mem (w) [] _ [.blk (w.heap.size) 26 #[.string ByteArray.empty, .bool b], .blk (w.heap.size + 1) 26 #[.string ByteArray.empty, .bool b]] := Mem.set 1 H rfl 1 (.bool b)
    rw [hwb] at H ⊢
    clear hwb
    clear px0 pxf0 px1 pxf1 pxlt rs0 rsf0 rs1 rsf1 rslt ne_px_rs ne_rs_px
    have rs0 : (wb).cell? ⟨w.heap.size + 1, 0, none⟩ = some (.string ByteArray.empty) := (H.blk 1 rfl).cell 0
    have rsf0 : (wb).frozen? ⟨w.heap.size + 1, 0, none⟩ = false := (H.blk 1 rfl).frozen 0
    have rs1 : (wb).cell? ⟨w.heap.size + 1, 1, none⟩ = some (.bool b) := (H.blk 1 rfl).cell 1
    have rsf1 : (wb).frozen? ⟨w.heap.size + 1, 1, none⟩ = false := (H.blk 1 rfl).frozen 1
    have rslt : w.heap.size + 1 < (wb).heap.size := H.lt 1 rfl
    refine bodyPost_ret (v := .tuple #[padv ([].dropLast, b), .pointer none]) (by simp [results, Tryd.results18, go_sem, rs0, rs1, padv, dstr_nil]; done) rfl ?_
    exact ⟨rfl, H.below⟩
  · have hpos : 0 < D.length := by cases D <;> simp at h0 ⊢
    have hlI : (0 : Int) < D.length := by omega
    go_enter Tryd.func18, Tryd.ntmps18
    go_wp2_with (go_at_call 25; (with_reducible refine (last_ok D hD hpos (by omega) _).mono ?_); rintro e wa ⟨r, rfl, rfl⟩)
    rw [drop_str]
    skip
    obtain ⟨wb, hwb⟩ : ∃ wb, (((W0).setCell ⟨w.heap.size, 0, none⟩ (.string (dstr D.dropLast))).setCell ⟨w.heap.size + 1, 0, none⟩ (.string (dstr D.dropLast))).setCell ⟨w.heap.size + 1, 1, none⟩ (.bool b) = wb := ⟨_, rfl⟩
    replace H : Mem (w) [] _ [.blk (w.heap.size) 26 #[.string (dstr D.dropLast), .bool b], .blk (w.heap.size + 1) 26 #[.string ⟨#[]⟩, .bool false]] := Mem.set 0 H rfl 0 (.string (dstr D.dropLast))
    replace H : Mem (w) [] _ [.blk (w.heap.size) 26 #[.string (dstr D.dropLast), .bool b], .blk (w.heap.size + 1) 26 #[.string (dstr D.dropLast), .bool false]] := Mem.set 1 H rfl 0 (.string (dstr D.dropLast))
    replace H : Mem (w) [] _ [.blk (w.heap.size) 26 #[.string (dstr D.dropLast), .bool b], .blk (w.heap.size + 1) 26 #[.string (dstr D.dropLast), .bool b]] := Mem.set 1 H rfl 1 (.bool b)
    rw [hwb] at H ⊢
    clear hwb
    clear px0 pxf0 px1 pxf1 pxlt rs0 rsf0 rs1 rsf1 rslt ne_px_rs ne_rs_px
    have rs0 : (wb).cell? ⟨w.heap.size + 1, 0, none⟩ = some (.string (dstr D.dropLast)) := (H.blk 1 rfl).cell 0
    have rsf0 : (wb).frozen? ⟨w.heap.size + 1, 0, none⟩ = false := (H.blk 1 rfl).frozen 0
    have rs1 : (wb).cell? ⟨w.heap.size + 1, 1, none⟩ = some (.bool b) := (H.blk 1 rfl).cell 1
    have rsf1 : (wb).frozen? ⟨w.heap.size + 1, 1, none⟩ = false := (H.blk 1 rfl).frozen 1
    have rslt : w.heap.size + 1 < (wb).heap.size := H.lt 1 rfl
    refine bodyPost_ret (v := .tuple #[padv (D.dropLast, b), .pointer none]) (by simp [results, Tryd.results18, go_sem, rs0, rs1, padv]; done) rfl ?_
    exact ⟨rfl, H.below⟩
set_option maxRecDepth 100000 in
theorem press_end_bad (D : List Nat) (w : World) :
    Calls Tryd.prog 18 #[padv (D, true), .int .i32 35] w (RetPress ([], false) (some ([], 3)) w) := by
  have hsz := dstr_size D
  unfold padv
  dsimp only
  have H := Mem.init w
  obtain ⟨W0, hW0⟩ : ∃ W0, ((w).alloc (.cells #[.string (dstr D), .bool true] 26)).alloc (.cells #[.string ⟨#[]⟩, .bool false] 26) = W0 := ⟨_, rfl⟩
  replace H : Mem (w) [] _ [.blk (w.heap.size) 26 #[.string (dstr D), .bool true]] := Mem.alloc H (w.heap.size) (by first | (simp; done) | (simp; omega)) #[.string (dstr D), .bool true] 26
  replace H : Mem (w) [] _ [.blk (w.heap.size) 26 #[.string (dstr D), .bool true], .blk (w.heap.size + 1) 26 #[.string ⟨#[]⟩, .bool false]] := Mem.alloc H (w.heap.size + 1) (by first | (simp; done) | (simp; omega)) #[.string ⟨#[]⟩, .bool false] 26
  rw [hW0] at H
  have px0 : (W0).cell? ⟨w.heap.size, 0, none⟩ = some (.string (dstr D)) := (H.blk 0 rfl).cell 0
  have pxf0 : (W0).frozen? ⟨w.heap.size, 0, none⟩ = false := (H.blk 0 rfl).frozen 0
  have px1 : (W0).cell? ⟨w.heap.size, 1, none⟩ = some (.bool true) := (H.blk 0 rfl).cell 1
  have pxf1 : (W0).frozen? ⟨w.heap.size, 1, none⟩ = false := (H.blk 0 rfl).frozen 1
  have pxlt : w.heap.size < (W0).heap.size := H.lt 0 rfl
  have rs0 : (W0).cell? ⟨w.heap.size + 1, 0, none⟩ = some (.string ⟨#[]⟩) := (H.blk 1 rfl).cell 0
  have rsf0 : (W0).frozen? ⟨w.heap.size + 1, 0, none⟩ = false := (H.blk 1 rfl).frozen 0
  have rs1 : (W0).cell? ⟨w.heap.size + 1, 1, none⟩ = some (.bool false) := (H.blk 1 rfl).cell 1
  have rsf1 : (W0).frozen? ⟨w.heap.size + 1, 1, none⟩ = false := (H.blk 1 rfl).frozen 1
  have rslt : w.heap.size + 1 < (W0).heap.size := H.lt 1 rfl
  have ne_px_rs : w.heap.size ≠ w.heap.size + 1 := H.ne 0 1 rfl rfl (by decide)
  have ne_rs_px : w.heap.size + 1 ≠ w.heap.size := H.ne 1 0 rfl rfl (by decide)
  go_enter Tryd.func18, Tryd.ntmps18
  go_wp2
  obtain ⟨wb, hwb⟩ : ∃ wb, (((W0).setCell ⟨w.heap.size + 1, 0, none⟩ (.string ⟨#[]⟩)).setCell ⟨w.heap.size + 1, 1, none⟩ (.bool false)).alloc (.cells #[.string ⟨#[]⟩, .int .i64 3] 31) = wb := ⟨_, rfl⟩
  replace H : Mem (w) [] _ [.blk (w.heap.size) 26 #[.string (dstr D), .bool true], .blk (w.heap.size + 1) 26 #[.string ⟨#[]⟩, .bool false]] := Mem.set 1 H rfl 0 (.string ⟨#[]⟩)
  replace H : Mem (w) [] _ [.blk (w.heap.size) 26 #[.string (dstr D), .bool true], .blk (w.heap.size + 1) 26 #[.string ⟨#[]⟩, .bool false]] := Mem.set 1 H rfl 1 (.bool false)
  replace H : Mem (w) [] _ [.blk (w.heap.size) 26 #[.string (dstr D), .bool true], .blk (w.heap.size + 1) 26 #[.string ⟨#[]⟩, .bool false], .blk (W0.heap.size) 31 #[.string ⟨#[]⟩, .int .i64 3]] := Mem.alloc H (W0.heap.size) (by first | (simp; done) | (simp; omega)) #[.string ⟨#[]⟩, .int .i64 3] 31
  rw [hwb] at H ⊢
  clear hwb
  clear px0 pxf0 px1 pxf1 pxlt rs0 rsf0 rs1 rsf1 rslt ne_px_rs ne_rs_px
  have rs0 : (wb).cell? ⟨w.heap.size + 1, 0, none⟩ = some (.string ⟨#[]⟩) := (H.blk 1 rfl).cell 0
  have rsf0 : (wb).frozen? ⟨w.heap.size + 1, 0, none⟩ = false := (H.blk 1 rfl).frozen 0
  have rs1 : (wb).cell? ⟨w.heap.size + 1, 1, none⟩ = some (.bool false) := (H.blk 1 rfl).cell 1
  have rsf1 : (wb).frozen? ⟨w.heap.size + 1, 1, none⟩ = false := (H.blk 1 rfl).frozen 1
  have rslt : w.heap.size + 1 < (wb).heap.size := H.lt 1 rfl
  refine bodyPost_ret (v := .tuple #[padv ([], false), .pointer (some ⟨W0.heap.size, 0, none⟩)]) (by simp [results, Tryd.results18, go_sem, rs0, rs1, padv, dstr_nil, mk_nil]; done) rfl ?_
  exact ⟨_, rfl, Mem.drop_ 0 (Mem.drop_ 0 H)⟩
set_option maxRecDepth 100000 in
theorem press_end_none (D : List Nat) (hemp : (dstr D).toList.isEmpty = true) (w : World) :
    Calls Tryd.prog 18 #[padv (D, false), .int .i32 35] w (RetPress ([], false) (none) w) := by
  have hsz := dstr_size D
  unfold padv
  dsimp only
  have H := Mem.init w
  obtain ⟨W0, hW0⟩ : ∃ W0, ((w).alloc (.cells #[.string (dstr D), .bool false] 26)).alloc (.cells #[.string ⟨#[]⟩, .bool false] 26) = W0 := ⟨_, rfl⟩
  replace H : Mem (w) [] _ [.blk (w.heap.size) 26 #[.string (dstr D), .bool false]] := Mem.alloc H (w.heap.size) (by first | (simp; done) | (simp; omega)) #[.string (dstr D), .bool false] 26
  replace H : Mem (w) [] _ [.blk (w.heap.size) 26 #[.string (dstr D), .bool false], .blk (w.heap.size + 1) 26 #[.string ⟨#[]⟩, .bool false]] := Mem.alloc H (w.heap.size + 1) (by first | (simp; done) | (simp; omega)) #[.string ⟨#[]⟩, .bool false] 26
  rw [hW0] at H
  have px0 : (W0).cell? ⟨w.heap.size, 0, none⟩ = some (.string (dstr D)) := (H.blk 0 rfl).cell 0
  have pxf0 : (W0).frozen? ⟨w.heap.size, 0, none⟩ = false := (H.blk 0 rfl).frozen 0
  have px1 : (W0).cell? ⟨w.heap.size, 1, none⟩ = some (.bool false) := (H.blk 0 rfl).cell 1
  have pxf1 : (W0).frozen? ⟨w.heap.size, 1, none⟩ = false := (H.blk 0 rfl).frozen 1
  have pxlt : w.heap.size < (W0).heap.size := H.lt 0 rfl
  have rs0 : (W0).cell? ⟨w.heap.size + 1, 0, none⟩ = some (.string ⟨#[]⟩) := (H.blk 1 rfl).cell 0
  have rsf0 : (W0).frozen? ⟨w.heap.size + 1, 0, none⟩ = false := (H.blk 1 rfl).frozen 0
  have rs1 : (W0).cell? ⟨w.heap.size + 1, 1, none⟩ = some (.bool false) := (H.blk 1 rfl).cell 1
  have rsf1 : (W0).frozen? ⟨w.heap.size + 1, 1, none⟩ = false := (H.blk 1 rfl).frozen 1
  have rslt : w.heap.size + 1 < (W0).heap.size := H.lt 1 rfl
  have ne_px_rs : w.heap.size ≠ w.heap.size + 1 := H.ne 0 1 rfl rfl (by decide)
  have ne_rs_px : w.heap.size + 1 ≠ w.heap.size := H.ne 1 0 rfl rfl (by decide)
  go_enter Tryd.func18, Tryd.ntmps18
  go_wp2
  obtain ⟨wb, hwb⟩ : ∃ wb, ((W0).setCell ⟨w.heap.size + 1, 0, none⟩ (.string ⟨#[]⟩)).setCell ⟨w.heap.size + 1, 1, none⟩ (.bool false) = wb := ⟨_, rfl⟩
  replace H : Mem (w) [] _ [.blk (w.heap.size) 26 #[.string (dstr D), .bool false], .blk (w.heap.size + 1) 26 #[.string ⟨#[]⟩, .bool false]] := Mem.set 1 H rfl 0 (.string ⟨#[]⟩)
  replace H : Mem (w) [] _ [.blk (w.heap.size) 26 #[.string (dstr D), .bool false], .blk (w.heap.size + 1) 26 #[.string ⟨#[]⟩, .bool false]] := Mem.set 1 H rfl 1 (.bool false)
  rw [hwb] at H ⊢
  clear hwb
  clear px0 pxf0 px1 pxf1 pxlt rs0 rsf0 rs1 rsf1 rslt ne_px_rs ne_rs_px
  have rs0 : (wb).cell? ⟨w.heap.size + 1, 0, none⟩ = some (.string ⟨#[]⟩) := (H.blk 1 rfl).cell 0
  have rsf0 : (wb).frozen? ⟨w.heap.size + 1, 0, none⟩ = false := (H.blk 1 rfl).frozen 0
  have rs1 : (wb).cell? ⟨w.heap.size + 1, 1, none⟩ = some (.bool false) := (H.blk 1 rfl).cell 1
  have rsf1 : (wb).frozen? ⟨w.heap.size + 1, 1, none⟩ = false := (H.blk 1 rfl).frozen 1
  have rslt : w.heap.size + 1 < (wb).heap.size := H.lt 1 rfl
  refine bodyPost_ret (v := .tuple #[padv ([], false), .pointer none]) (by simp [results, Tryd.results18, go_sem, rs0, rs1, padv, dstr_nil, mk_nil]; done) rfl ?_
  exact ⟨rfl, H.below⟩
set_option maxRecDepth 100000 in
theorem press_end_some (D : List Nat) (h0 : 0 < D.length) (w : World) :
    Calls Tryd.prog 18 #[padv (D, false), .int .i32 35] w (RetPress ([], false) (some (D, 0)) w) := by
  have hsz := dstr_size D
  unfold padv
  dsimp only
  have H := Mem.init w
  obtain ⟨W0, hW0⟩ : ∃ W0, ((w).alloc (.cells #[.string (dstr D), .bool false] 26)).alloc (.cells #[.string ⟨#[]⟩, .bool false] 26) = W0 := ⟨_, rfl⟩
  replace H : Mem (w) [] _ [.blk (w.heap.size) 26 #[.string (dstr D), .bool false]] := Mem.alloc H (w.heap.size) (by first | (simp; done) | (simp; omega)) #[.string (dstr D), .bool false] 26
  replace H : Mem (w) [] _ [.blk (w.heap.size) 26 #[.string (dstr D), .bool false], .blk (w.heap.size + 1) 26 #[.string ⟨#[]⟩, .bool false]] := Mem.alloc H (w.heap.size + 1) (by first | (simp; done) | (simp; omega)) #[.string ⟨#[]⟩, .bool false] 26
  rw [hW0] at H
  have px0 : (W0).cell? ⟨w.heap.size, 0, none⟩ = some (.string (dstr D)) := (H.blk 0 rfl).cell 0
  have pxf0 : (W0).frozen? ⟨w.heap.size, 0, none⟩ = false := (H.blk 0 rfl).frozen 0
  have px1 : (W0).cell? ⟨w.heap.size, 1, none⟩ = some (.bool false) := (H.blk 0 rfl).cell 1
  have pxf1 : (W0).frozen? ⟨w.heap.size, 1, none⟩ = false := (H.blk 0 rfl).frozen 1
  have pxlt : w.heap.size < (W0).heap.size := H.lt 0 rfl
  have rs0 : (W0).cell? ⟨w.heap.size + 1, 0, none⟩ = some (.string ⟨#[]⟩) := (H.blk 1 rfl).cell 0
  have rsf0 : (W0).frozen? ⟨w.heap.size + 1, 0, none⟩ = false := (H.blk 1 rfl).frozen 0
  have rs1 : (W0).cell? ⟨w.heap.size + 1, 1, none⟩ = some (.bool false) := (H.blk 1 rfl).cell 1
  have rsf1 : (W0).frozen? ⟨w.heap.size + 1, 1, none⟩ = false := (H.blk 1 rfl).frozen 1
  have rslt : w.heap.size + 1 < (W0).heap.size := H.lt 1 rfl
  have ne_px_rs : w.heap.size ≠ w.heap.size + 1 := H.ne 0 1 rfl rfl (by decide)
  have ne_rs_px : w.heap.size + 1 ≠ w.heap.size := H.ne 1 0 rfl rfl (by decide)
  have hne := dstr_empty h0
  go_enter Tryd.func18, Tryd.ntmps18
  go_wp2
  go_region
  go_wp2
  obtain ⟨wb, hwb⟩ : ∃ wb, ((((W0).setCell ⟨w.heap.size + 1, 0, none⟩ (.string ⟨#[]⟩)).setCell ⟨w.heap.size + 1, 1, none⟩ (.bool false)).alloc (.cells #[.string (dstr D), .int .i64 0] 31)).drew = wb := ⟨_, rfl⟩
  replace H : Mem (w) [] _ [.blk (w.heap.size) 26 #[.string (dstr D), .bool false], .blk (w.heap.size + 1) 26 #[.string ⟨#[]⟩, .bool false]] := Mem.set 1 H rfl 0 (.string ⟨#[]⟩)
  replace H : Mem (w) [] _ [.blk (w.heap.size) 26 #[.string (dstr D), .bool false], .blk (w.heap.size + 1) 26 #[.string ⟨#[]⟩, .bool false]] := Mem.set 1 H rfl 1 (.bool false)
  replace H : Mem (w) [] _ [.blk (w.heap.size) 26 #[.string (dstr D), .bool false], .blk (w.heap.size + 1) 26 #[.string ⟨#[]⟩, .bool false], .blk (W0.heap.size) 31 #[.string (dstr D), .int .i64 0]] := Mem.alloc H (W0.heap.size) (by first | (simp; done) | (simp; omega)) #[.string (dstr D), .int .i64 0] 31
  replace H := H.drew
  rw [hwb] at H ⊢
  clear hwb
  clear px0 pxf0 px1 pxf1 pxlt rs0 rsf0 rs1 rsf1 rslt ne_px_rs ne_rs_px
  have rs0 : (wb).cell? ⟨w.heap.size + 1, 0, none⟩ = some (.string ⟨#[]⟩) := (H.blk 1 rfl).cell 0
  have rsf0 : (wb).frozen? ⟨w.heap.size + 1, 0, none⟩ = false := (H.blk 1 rfl).frozen 0
  have rs1 : (wb).cell? ⟨w.heap.size + 1, 1, none⟩ = some (.bool false) := (H.blk 1 rfl).cell 1
  have rsf1 : (wb).frozen? ⟨w.heap.size + 1, 1, none⟩ = false := (H.blk 1 rfl).frozen 1
  have rslt : w.heap.size + 1 < (wb).heap.size := H.lt 1 rfl
  refine bodyPost_ret (v := .tuple #[padv ([], false), .pointer (some ⟨W0.heap.size, 0, none⟩)]) (by simp [results, Tryd.results18, go_sem, rs0, rs1, padv, dstr_nil, mk_nil]; done) rfl ?_
  exact ⟨_, rfl, Mem.drop_ 0 (Mem.drop_ 0 H)⟩
theorem press_end (D : List Nat) (b : Bool) (w : World) :
    Calls Tryd.prog 18 #[padv (D, b), .int .i32 35] w (RetPress ([], false) (if b then some ([], 3) else if D = [] then none else some (D, 0)) w) := by
  cases b with
  | true => rw [if_pos rfl]; exact press_end_bad D w
  | false =>
    rw [if_neg (by simp)]
    by_cases h0 : D = []
    · rw [if_pos h0]; exact press_end_none D (by rw [h0, Lib.toList_data]; rfl) w
    · rw [if_neg h0]; exact press_end_some D (by cases D <;> simp at h0 ⊢) w
set_option maxRecDepth 100000 in
theorem press_bad (D : List Nat) (b : Bool) (r : Int) (w : World) (h0 : 0 ≤ r) (h1 : r ≤ 2147483647) (n1 : ¬ (r = 32 ∨ r = 45 ∨ r = 160)) (n2 : ¬ r = 42) (n3 : ¬ r = 35) (hb : kv r < 0 ∨ D.length = 30) (hl : D.length ≤ 30) :
    Calls Tryd.prog 18 #[padv (D, b), .int .i32 r] w (RetPress (D, true) none w) := by
  have hsz := dstr_size D
  have m1 : (r == 32) = false := by simp; omega
  have m2 : (r == 45) = false := by simp; omega
  have m3 : (r == 160) = false := by simp; omega
  have m4 : (r == 42) = false := by simp; omega
  have m5 : (r == 35) = false := by simp; omega
  have hv := fun W => value_ok r W h0 h1
  have hk := kv_bd r
  generalize kv r = v at *
  clear n1 n2 n3 h0 h1
  unfold padv
  dsimp only
  have H := Mem.init w
  obtain ⟨W0, hW0⟩ : ∃ W0, ((w).alloc (.cells #[.string (dstr D), .bool b] 26)).alloc (.cells #[.string ⟨#[]⟩, .bool false] 26) = W0 := ⟨_, rfl⟩
  replace H : Mem (w) [] _ [.blk (w.heap.size) 26 #[.string (dstr D), .bool b]] := Mem.alloc H (w.heap.size) (by first | (simp; done) | (simp; omega)) #[.string (dstr D), .bool b] 26
  replace H : Mem (w) [] _ [.blk (w.heap.size) 26 #[.string (dstr D), .bool b], .blk (w.heap.size + 1) 26 #[.string ⟨#[]⟩, .bool false]] := Mem.alloc H (w.heap.size + 1) (by first | (simp; done) | (simp; omega)) #[.string ⟨#[]⟩, .bool false] 26
  rw [hW0] at H
  have px0 : (W0).cell? ⟨w.heap.size, 0, none⟩ = some (.string (dstr D)) := (H.blk 0 rfl).cell 0
  have pxf0 : (W0).frozen? ⟨w.heap.size, 0, none⟩ = false := (H.blk 0 rfl).frozen 0
  have px1 : (W0).cell? ⟨w.heap.size, 1, none⟩ = some (.bool b) := (H.blk 0 rfl).cell 1
  have pxf1 : (W0).frozen? ⟨w.heap.size, 1, none⟩ = false := (H.blk 0 rfl).frozen 1
  have pxlt : w.heap.size < (W0).heap.size := H.lt 0 rfl
  have rs0 : (W0).cell? ⟨w.heap.size + 1, 0, none⟩ = some (.string ⟨#[]⟩) := (H.blk 1 rfl).cell 0
  have rsf0 : (W0).frozen? ⟨w.heap.size + 1, 0, none⟩ = false := (H.blk 1 rfl).frozen 0
  have rs1 : (W0).cell? ⟨w.heap.size + 1, 1, none⟩ = some (.bool false) := (H.blk 1 rfl).cell 1
  have rsf1 : (W0).frozen? ⟨w.heap.size + 1, 1, none⟩ = false := (H.blk 1 rfl).frozen 1
  have rslt : w.heap.size + 1 < (W0).heap.size := H.lt 1 rfl
  have ne_px_rs : w.heap.size ≠ w.heap.size + 1 := H.ne 0 1 rfl rfl (by decide)
  have ne_rs_px : w.heap.size + 1 ≠ w.heap.size := H.ne 1 0 rfl rfl (by decide)
  go_enter Tryd.func18, Tryd.ntmps18
  go_wp2_with fail
  with_reducible refine (hv _).mono ?_
  rintro e wa ⟨rfl, hba⟩
  replace H : Mem (w) [] (wa) [.blk (w.heap.size) 26 #[.string (dstr D), .bool b], .blk (w.heap.size + 1) 26 #[.string ⟨#[]⟩, .bool false]] := Mem.call H hba
  clear px0 pxf0 px1 pxf1 pxlt rs0 rsf0 rs1 rsf1 rslt ne_px_rs ne_rs_px
  have px0 : (wa).cell? ⟨w.heap.size, 0, none⟩ = some (.string (dstr D)) := (H.blk 0 rfl).cell 0
  have pxf0 : (wa).frozen? ⟨w.heap.size, 0, none⟩ = false := (H.blk 0 rfl).frozen 0
  have px1 : (wa).cell? ⟨w.heap.size, 1, none⟩ = some (.bool b) := (H.blk 0 rfl).cell 1
  have pxf1 : (wa).frozen? ⟨w.heap.size, 1, none⟩ = false := (H.blk 0 rfl).frozen 1
  have pxlt : w.heap.size < (wa).heap.size := H.lt 0 rfl
  have rs0 : (wa).cell? ⟨w.heap.size + 1, 0, none⟩ = some (.string ⟨#[]⟩) := (H.blk 1 rfl).cell 0
  have rsf0 : (wa).frozen? ⟨w.heap.size + 1, 0, none⟩ = false := (H.blk 1 rfl).frozen 0
  have rs1 : (wa).cell? ⟨w.heap.size + 1, 1, none⟩ = some (.bool false) := (H.blk 1 rfl).cell 1
  have rsf1 : (wa).frozen? ⟨w.heap.size + 1, 1, none⟩ = false := (H.blk 1 rfl).frozen 1
  have rslt : w.heap.size + 1 < (wa).heap.size := H.lt 1 rfl
  have ne_px_rs : w.heap.size ≠ w.heap.size + 1 := H.ne 0 1 rfl rfl (by decide)
  have ne_rs_px : w.heap.size + 1 ≠ w.heap.size := H.ne 1 0 rfl rfl (by decide)
  clear hba hv

  by_cases hv0 : v < 0
  · clear hb
    go_wp2
    obtain ⟨wb, hwb⟩ : ∃ wb, (((wa).setCell ⟨w.heap.size, 1, none⟩ (.bool true)).setCell ⟨w.heap.size + 1, 0, none⟩ (.string (dstr D))).setCell ⟨w.heap.size + 1, 1, none⟩ (.bool true) = wb := ⟨_, rfl⟩
    replace H : Mem (w) [] _ [.blk (w.heap.size) 26 #[.string (dstr D), .bool true], .blk (w.heap.size + 1) 26 #[.string ⟨#[]⟩, .bool false]] := Mem.set 0 H rfl 1 (.bool true)
    replace H : Mem (w) [] _ [.blk (w.heap.size) 26 #[.string (dstr D), .bool true], .blk (w.heap.size + 1) 26 #[.string (dstr D), .bool false]] := Mem.set 1 H rfl 0 (.string (dstr D))
    replace H : Mem (w) [] _ [.blk (w.heap.size) 26 #[.string (dstr D), .bool true], .blk (w.heap.size + 1) 26 #[.string (dstr D), .bool true]] := Mem.set 1 H rfl 1 (.bool true)
    rw [hwb] at H ⊢
    clear hwb
    clear px0 pxf0 px1 pxf1 pxlt rs0 rsf0 rs1 rsf1 rslt ne_px_rs ne_rs_px
    have rs0 : (wb).cell? ⟨w.heap.size + 1, 0, none⟩ = some (.string (dstr D)) := (H.blk 1 rfl).cell 0
    have rsf0 : (wb).frozen? ⟨w.heap.size + 1, 0, none⟩ = false := (H.blk 1 rfl).frozen 0
    have rs1 : (wb).cell? ⟨w.heap.size + 1, 1, none⟩ = some (.bool true) := (H.blk 1 rfl).cell 1
    have rsf1 : (wb).frozen? ⟨w.heap.size + 1, 1, none⟩ = false := (H.blk 1 rfl).frozen 1
    have rslt : w.heap.size + 1 < (wb).heap.size := H.lt 1 rfl
    refine bodyPost_ret (v := .tuple #[padv (D, true), .pointer none]) (by simp [results, Tryd.results18, go_sem, rs0, rs1, padv]; done) rfl ?_
    exact ⟨rfl, H.below⟩
  · skip
    have h30 : ((D.length : Int) == 30) = true := by simp; omega
    clear hb
    go_wp2
    obtain ⟨wb, hwb⟩ : ∃ wb, (((wa).setCell ⟨w.heap.size, 1, none⟩ (.bool true)).setCell ⟨w.heap.size + 1, 0, none⟩ (.string (dstr D))).setCell ⟨w.heap.size + 1, 1, none⟩ (.bool true) = wb := ⟨_, rfl⟩
    replace H : Mem (w) [] _ [.blk (w.heap.size) 26 #[.string (dstr D), .bool true], .blk (w.heap.size + 1) 26 #[.string ⟨#[]⟩, .bool false]] := Mem.set 0 H rfl 1 (.bool true)
    replace H : Mem (w) [] _ [.blk (w.heap.size) 26 #[.string (dstr D), .bool true], .blk (w.heap.size + 1) 26 #[.string (dstr D), .bool false]] := Mem.set 1 H rfl 0 (.string (dstr D))
    replace H : Mem (w) [] _ [.blk (w.heap.size) 26 #[.string (dstr D), .bool true], .blk (w.heap.size + 1) 26 #[.string (dstr D), .bool true]] := Mem.set 1 H rfl 1 (.bool true)
    rw [hwb] at H ⊢
    clear hwb
    clear px0 pxf0 px1 pxf1 pxlt rs0 rsf0 rs1 rsf1 rslt ne_px_rs ne_rs_px
    have rs0 : (wb).cell? ⟨w.heap.size + 1, 0, none⟩ = some (.string (dstr D)) := (H.blk 1 rfl).cell 0
    have rsf0 : (wb).frozen? ⟨w.heap.size + 1, 0, none⟩ = false := (H.blk 1 rfl).frozen 0
    have rs1 : (wb).cell? ⟨w.heap.size + 1, 1, none⟩ = some (.bool true) := (H.blk 1 rfl).cell 1
    have rsf1 : (wb).frozen? ⟨w.heap.size + 1, 1, none⟩ = false := (H.blk 1 rfl).frozen 1
    have rslt : w.heap.size + 1 < (wb).heap.size := H.lt 1 rfl
    refine bodyPost_ret (v := .tuple #[padv (D, true), .pointer none]) (by simp [results, Tryd.results18, go_sem, rs0, rs1, padv]; done) rfl ?_
    exact ⟨rfl, H.below⟩
set_option maxRecDepth 100000 in
theorem press_more (D : List Nat) (b : Bool) (r : Int) (w : World) (h0 : 0 ≤ r) (h1 : r ≤ 2147483647) (n1 : ¬ (r = 32 ∨ r = 45 ∨ r = 160)) (n2 : ¬ r = 42) (n3 : ¬ r = 35) (hv0 : 0 ≤ kv r) (hl : D.length < 30) :
    Calls Tryd.prog 18 #[padv (D, b), .int .i32 r] w (RetPress (D ++ [(kv r).toNat], b) none w) := by
  have hsz := dstr_size D
  have m1 : (r == 32) = false := by simp; omega
  have m2 : (r == 45) = false := by simp; omega
  have m3 : (r == 160) = false := by simp; omega
  have m4 : (r == 42) = false := by simp; omega
  have m5 : (r == 35) = false := by simp; omega
  have h30 : ((D.length : Int) == 30) = false := by simp; omega
  have hv := fun W => value_ok r W h0 h1
  have hk := kv_bd r
  obtain ⟨v, hvv⟩ : ∃ v : Nat, kv r = (v : Int) := ⟨(kv r).toNat, by omega⟩
  rw [hvv] at hv hk ⊢
  rw [show ((v : Int)).toNat = v by omega]
  have hk9 : v ≤ 9 := by omega
  have hen := enc_digit hk9
  have hcv := fun W => run_convert_int_string (P := Tryd.prog) W 21 9 .i32 (48 + (v : Int)) (by kernel_rfl) Tryd.underlying9
  rw [hen] at hcv
  clear n1 n2 n3 h0 h1 hvv hv0
  unfold padv
  dsimp only
  have H := Mem.init w
  obtain ⟨W0, hW0⟩ : ∃ W0, ((w).alloc (.cells #[.string (dstr D), .bool b] 26)).alloc (.cells #[.string ⟨#[]⟩, .bool false] 26) = W0 := ⟨_, rfl⟩
  replace H : Mem (w) [] _ [.blk (w.heap.size) 26 #[.string (dstr D), .bool b]] := Mem.alloc H (w.heap.size) (by first | (simp; done) | (simp; omega)) #[.string (dstr D), .bool b] 26
  replace H : Mem (w) [] _ [.blk (w.heap.size) 26 #[.string (dstr D), .bool b], .blk (w.heap.size + 1) 26 #[.string ⟨#[]⟩, .bool false]] := Mem.alloc H (w.heap.size + 1) (by first | (simp; done) | (simp; omega)) #[.string ⟨#[]⟩, .bool false] 26
  rw [hW0] at H
  have px0 : (W0).cell? ⟨w.heap.size, 0, none⟩ = some (.string (dstr D)) := (H.blk 0 rfl).cell 0
  have pxf0 : (W0).frozen? ⟨w.heap.size, 0, none⟩ = false := (H.blk 0 rfl).frozen 0
  have px1 : (W0).cell? ⟨w.heap.size, 1, none⟩ = some (.bool b) := (H.blk 0 rfl).cell 1
  have pxf1 : (W0).frozen? ⟨w.heap.size, 1, none⟩ = false := (H.blk 0 rfl).frozen 1
  have pxlt : w.heap.size < (W0).heap.size := H.lt 0 rfl
  have rs0 : (W0).cell? ⟨w.heap.size + 1, 0, none⟩ = some (.string ⟨#[]⟩) := (H.blk 1 rfl).cell 0
  have rsf0 : (W0).frozen? ⟨w.heap.size + 1, 0, none⟩ = false := (H.blk 1 rfl).frozen 0
  have rs1 : (W0).cell? ⟨w.heap.size + 1, 1, none⟩ = some (.bool false) := (H.blk 1 rfl).cell 1
  have rsf1 : (W0).frozen? ⟨w.heap.size + 1, 1, none⟩ = false := (H.blk 1 rfl).frozen 1
  have rslt : w.heap.size + 1 < (W0).heap.size := H.lt 1 rfl
  have ne_px_rs : w.heap.size ≠ w.heap.size + 1 := H.ne 0 1 rfl rfl (by decide)
  have ne_rs_px : w.heap.size + 1 ≠ w.heap.size := H.ne 1 0 rfl rfl (by decide)
  go_enter Tryd.func18, Tryd.ntmps18
  go_wp2_with fail
  with_reducible refine (hv _).mono ?_
  rintro e wa ⟨rfl, hba⟩
  replace H : Mem (w) [] (wa) [.blk (w.heap.size) 26 #[.string (dstr D), .bool b], .blk (w.heap.size + 1) 26 #[.string ⟨#[]⟩, .bool false]] := Mem.call H hba
  clear px0 pxf0 px1 pxf1 pxlt rs0 rsf0 rs1 rsf1 rslt ne_px_rs ne_rs_px
  have px0 : (wa).cell? ⟨w.heap.size, 0, none⟩ = some (.string (dstr D)) := (H.blk 0 rfl).cell 0
  have pxf0 : (wa).frozen? ⟨w.heap.size, 0, none⟩ = false := (H.blk 0 rfl).frozen 0
  have px1 : (wa).cell? ⟨w.heap.size, 1, none⟩ = some (.bool b) := (H.blk 0 rfl).cell 1
  have pxf1 : (wa).frozen? ⟨w.heap.size, 1, none⟩ = false := (H.blk 0 rfl).frozen 1
  have pxlt : w.heap.size < (wa).heap.size := H.lt 0 rfl
  have rs0 : (wa).cell? ⟨w.heap.size + 1, 0, none⟩ = some (.string ⟨#[]⟩) := (H.blk 1 rfl).cell 0
  have rsf0 : (wa).frozen? ⟨w.heap.size + 1, 0, none⟩ = false := (H.blk 1 rfl).frozen 0
  have rs1 : (wa).cell? ⟨w.heap.size + 1, 1, none⟩ = some (.bool false) := (H.blk 1 rfl).cell 1
  have rsf1 : (wa).frozen? ⟨w.heap.size + 1, 1, none⟩ = false := (H.blk 1 rfl).frozen 1
  have rslt : w.heap.size + 1 < (wa).heap.size := H.lt 1 rfl
  have ne_px_rs : w.heap.size ≠ w.heap.size + 1 := H.ne 0 1 rfl rfl (by decide)
  have ne_rs_px : w.heap.size + 1 ≠ w.heap.size := H.ne 1 0 rfl rfl (by decide)
  clear hba hv
  have hneg : decide ((v : Int) < 0) = false := by simp
  have hk9I : (v : Int) ≤ 9 := by omega
  clear hk9
  have hcap : ¬ 9223372036854775807 < D.length + (dstr [v]).size := by rw [dstr_size]; simp; omega
  clear hl hk
  go_wp2
  obtain ⟨wb, hwb⟩ : ∃ wb, (((wa).setCell ⟨w.heap.size, 0, none⟩ (.string (dstr D ++ dstr [v]))).setCell ⟨w.heap.size + 1, 0, none⟩ (.string (dstr D ++ dstr [v]))).setCell ⟨w.heap.size + 1, 1, none⟩ (.bool b) = wb := ⟨_, rfl⟩
  replace H : Mem (w) [] _ [.blk (w.heap.size) 26 #[.string (dstr D ++ dstr [v]), .bool b], .blk (w.heap.size + 1) 26 #[.string ⟨#[]⟩, .bool false]] := Mem.set 0 H rfl 0 (.string (dstr D ++ dstr [v]))
  replace H : Mem (w) [] _ [.blk (w.heap.size) 26 #[.string (dstr D ++ dstr [v]), .bool b], .blk (w.heap.size + 1) 26 #[.string (dstr D ++ dstr [v]), .bool false]] := Mem.set 1 H rfl 0 (.string (dstr D ++ dstr [v]))
  replace H : Mem (w) [] _ [.blk (w.heap.size) 26 #[.string (dstr D ++ dstr [v]), .bool b], .blk (w.heap.size + 1) 26 #[.string (dstr D ++ dstr [v]), .bool b]] := Mem.set 1 H rfl 1 (.bool b)
  rw [hwb] at H ⊢
  clear hwb
  clear px0 pxf0 px1 pxf1 pxlt rs0 rsf0 rs1 rsf1 rslt ne_px_rs ne_rs_px
  have rs0 : (wb).cell? ⟨w.heap.size + 1, 0, none⟩ = some (.string (dstr D ++ dstr [v])) := (H.blk 1 rfl).cell 0
  have rsf0 : (wb).frozen? ⟨w.heap.size + 1, 0, none⟩ = false := (H.blk 1 rfl).frozen 0
  have rs1 : (wb).cell? ⟨w.heap.size + 1, 1, none⟩ = some (.bool b) := (H.blk 1 rfl).cell 1
  have rsf1 : (wb).frozen? ⟨w.heap.size + 1, 1, none⟩ = false := (H.blk 1 rfl).frozen 1
  have rslt : w.heap.size + 1 < (wb).heap.size := H.lt 1 rfl
  refine bodyPost_ret (v := .tuple #[padv (D ++ [v], b), .pointer none]) (by simp [results, Tryd.results18, go_sem, rs0, rs1, padv, dstr_append]; done) rfl ?_
  exact ⟨rfl, H.below⟩
theorem press_ok (p : PadS) (hp : PadOk p) (r : Int) (w : World) (h0 : 0 ≤ r) (h1 : r ≤ 2147483647) :
    Calls Tryd.prog 18 #[padv p, .int .i32 r] w (RetPress (kpress p r).1 (kpress p r).2 w) := by
  obtain ⟨D, b⟩ := p
  obtain ⟨hl, hD⟩ := hp
  unfold kpress
  by_cases n1 : r = 32 ∨ r = 45 ∨ r = 160
  · rw [if_pos n1]; exact press_stay D b r w n1
  · rw [if_neg n1]
    by_cases n2 : r = 42
    · rw [if_pos n2, n2]; exact press_back D b w hD hl
    · rw [if_neg n2]
      by_cases n3 : r = 35
      · rw [if_pos n3, n3]; exact press_end D b w
      · rw [if_neg n3]
        by_cases n4 : kv r < 0 ∨ D.length = 30
        · rw [if_pos n4]; exact press_bad D b r w h0 h1 n1 n2 n3 n4 hl
        · rw [if_neg n4]; exact press_more D b r w h0 h1 n1 n2 n3 (by omega) (by simp at hl; omega)
end Go.Proofs.YthhbnmmhjfgpdaaDoor

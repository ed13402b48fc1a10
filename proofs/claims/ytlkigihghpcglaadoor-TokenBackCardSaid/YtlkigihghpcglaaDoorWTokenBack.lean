/- The walk of the law TokenBack. -/
import Derived.Test.YtlkigihghpcglaaDoorTokL
namespace Go.Proofs.YtlkigihghpcglaaDoor
open Go.RowKit
set_option linter.unusedVariables false
set_option maxRecDepth 100000 in
set_option maxHeartbeats 2000000 in
theorem walk_tokenBack (w : World) (a0 : Value) (w0 : Fit Tryd.prog w 51 a0) :
    Calls Tryd.prog 8 #[a0] w fun e w' => e = .returned (.bool true) ∧ Below w.heap.size w w' := by
  obtain ⟨e, f, g, h, rfl, we, wf, wg, wh⟩ := raw_open w0
  obtain ⟨cls, hcls, hc4⟩ := pk_natI e 4 (by omega)
  have hM := fun W => made_ok e f g h cls W we wf wg wh hcls
  clear w0 hc4
  have H := Mem.init w
  obtain ⟨W0, hW0⟩ : ∃ W0, (w).alloc (.cells #[.int .i64 e, .int .i64 f, .int .i64 g, .int .i64 h] 51) = W0 := ⟨_, rfl⟩
  replace H : Mem (w) [] _ [.blk (w.heap.size) 51 #[.int .i64 e, .int .i64 f, .int .i64 g, .int .i64 h]] := Mem.alloc H (w.heap.size) (by first | (simp; done) | (simp; omega)) #[.int .i64 e, .int .i64 f, .int .i64 g, .int .i64 h] 51
  rw [hW0] at H
  have rx0 : (W0).cell? ⟨w.heap.size, 0, none⟩ = some (.int .i64 e) := (H.blk 0 rfl).cell 0
  have rxf0 : (W0).frozen? ⟨w.heap.size, 0, none⟩ = false := (H.blk 0 rfl).frozen 0
  have rx1 : (W0).cell? ⟨w.heap.size, 1, none⟩ = some (.int .i64 f) := (H.blk 0 rfl).cell 1
  have rxf1 : (W0).frozen? ⟨w.heap.size, 1, none⟩ = false := (H.blk 0 rfl).frozen 1
  have rx2 : (W0).cell? ⟨w.heap.size, 2, none⟩ = some (.int .i64 g) := (H.blk 0 rfl).cell 2
  have rxf2 : (W0).frozen? ⟨w.heap.size, 2, none⟩ = false := (H.blk 0 rfl).frozen 2
  have rx3 : (W0).cell? ⟨w.heap.size, 3, none⟩ = some (.int .i64 h) := (H.blk 0 rfl).cell 3
  have rxf3 : (W0).frozen? ⟨w.heap.size, 3, none⟩ = false := (H.blk 0 rfl).frozen 3
  have rxlt : w.heap.size < (W0).heap.size := H.lt 0 rfl
  go_enter Tryd.func8, Tryd.ntmps8
  go_wp2_with fail
  refine (hM _).mono ?_
  rintro e1 wa ⟨id, am, tag, rfl, hk, hba⟩
  replace H : Mem (w) [] (wa) [.blk (w.heap.size) 51 #[.int .i64 e, .int .i64 f, .int .i64 g, .int .i64 h]] := Mem.call H hba
  clear rx0 rxf0 rx1 rxf1 rx2 rxf2 rx3 rxf3 rxlt
  have rx0 : (wa).cell? ⟨w.heap.size, 0, none⟩ = some (.int .i64 e) := (H.blk 0 rfl).cell 0
  have rxf0 : (wa).frozen? ⟨w.heap.size, 0, none⟩ = false := (H.blk 0 rfl).frozen 0
  have rx1 : (wa).cell? ⟨w.heap.size, 1, none⟩ = some (.int .i64 f) := (H.blk 0 rfl).cell 1
  have rxf1 : (wa).frozen? ⟨w.heap.size, 1, none⟩ = false := (H.blk 0 rfl).frozen 1
  have rx2 : (wa).cell? ⟨w.heap.size, 2, none⟩ = some (.int .i64 g) := (H.blk 0 rfl).cell 2
  have rxf2 : (wa).frozen? ⟨w.heap.size, 2, none⟩ = false := (H.blk 0 rfl).frozen 2
  have rx3 : (wa).cell? ⟨w.heap.size, 3, none⟩ = some (.int .i64 h) := (H.blk 0 rfl).cell 3
  have rxf3 : (wa).frozen? ⟨w.heap.size, 3, none⟩ = false := (H.blk 0 rfl).frozen 3
  have rxlt : w.heap.size < (wa).heap.size := H.lt 0 rfl
  clear hba hW0
  have hF := fun W => format_ok cls id am tag W hk
  have hP := fun W => parse_ok (tokD cls id am tag) W (tokD_le _ _ _ _) (tokD_len hk) cls id am tag 0 (Lib.hid (by rw [val_tokD]; exact parseS_tok hk))
  have hsz := dstr_size (tokD cls id am tag)
  rw [tokD_len hk] at hsz
  obtain ⟨l, hl⟩ : ∃ l, tokD cls id am tag = l := ⟨_, rfl⟩
  rw [hl] at hF hP hsz
  have hEq := fun W => tok_same (cls : Int) (id : Int) (am : Int) (tag : Int) W
  clear hl hk hM
  go_wp2_with fail
  obtain ⟨wb, hwb⟩ : ∃ wb, (wa).alloc (.cells #[.int .i64 (cls : Int), .int .i64 (id : Int), .int .i64 (am : Int), .int .i64 (tag : Int)] 52) = wb := ⟨_, rfl⟩
  replace H : Mem (w) [] _ [.blk (w.heap.size) 51 #[.int .i64 e, .int .i64 f, .int .i64 g, .int .i64 h], .blk (wa.heap.size) 52 #[.int .i64 (cls : Int), .int .i64 (id : Int), .int .i64 (am : Int), .int .i64 (tag : Int)]] := Mem.alloc H (wa.heap.size) (by first | (simp; done) | (simp; omega)) #[.int .i64 (cls : Int), .int .i64 (id : Int), .int .i64 (am : Int), .int .i64 (tag : Int)] 52
  rw [hwb] at H ⊢
  clear hwb
  refine (hF _).mono ?_
  rintro e1 wc ⟨rfl, hbc⟩
  replace H : Mem (w) [] (wc) [.blk (w.heap.size) 51 #[.int .i64 e, .int .i64 f, .int .i64 g, .int .i64 h], .blk (wa.heap.size) 52 #[.int .i64 (cls : Int), .int .i64 (id : Int), .int .i64 (am : Int), .int .i64 (tag : Int)]] := Mem.call H hbc
  clear rx0 rxf0 rx1 rxf1 rx2 rxf2 rx3 rxf3 rxlt
  have tk0 : (wc).cell? ⟨wa.heap.size, 0, none⟩ = some (.int .i64 (cls : Int)) := (H.blk 1 rfl).cell 0
  have tkf0 : (wc).frozen? ⟨wa.heap.size, 0, none⟩ = false := (H.blk 1 rfl).frozen 0
  have tk1 : (wc).cell? ⟨wa.heap.size, 1, none⟩ = some (.int .i64 (id : Int)) := (H.blk 1 rfl).cell 1
  have tkf1 : (wc).frozen? ⟨wa.heap.size, 1, none⟩ = false := (H.blk 1 rfl).frozen 1
  have tk2 : (wc).cell? ⟨wa.heap.size, 2, none⟩ = some (.int .i64 (am : Int)) := (H.blk 1 rfl).cell 2
  have tkf2 : (wc).frozen? ⟨wa.heap.size, 2, none⟩ = false := (H.blk 1 rfl).frozen 2
  have tk3 : (wc).cell? ⟨wa.heap.size, 3, none⟩ = some (.int .i64 (tag : Int)) := (H.blk 1 rfl).cell 3
  have tkf3 : (wc).frozen? ⟨wa.heap.size, 3, none⟩ = false := (H.blk 1 rfl).frozen 3
  have tklt : wa.heap.size < (wc).heap.size := H.lt 1 rfl
  clear hbc hF
  go_wp2_with fail
  refine (hP _).mono ?_
  rintro e1 wd ⟨rfl, hbd⟩
  replace H : Mem (w) [] (wd) [.blk (w.heap.size) 51 #[.int .i64 e, .int .i64 f, .int .i64 g, .int .i64 h], .blk (wa.heap.size) 52 #[.int .i64 (cls : Int), .int .i64 (id : Int), .int .i64 (am : Int), .int .i64 (tag : Int)]] := Mem.call H hbd
  clear tk0 tkf0 tk1 tkf1 tk2 tkf2 tk3 tkf3 tklt
  have tk0 : (wd).cell? ⟨wa.heap.size, 0, none⟩ = some (.int .i64 (cls : Int)) := (H.blk 1 rfl).cell 0
  have tkf0 : (wd).frozen? ⟨wa.heap.size, 0, none⟩ = false := (H.blk 1 rfl).frozen 0
  have tk1 : (wd).cell? ⟨wa.heap.size, 1, none⟩ = some (.int .i64 (id : Int)) := (H.blk 1 rfl).cell 1
  have tkf1 : (wd).frozen? ⟨wa.heap.size, 1, none⟩ = false := (H.blk 1 rfl).frozen 1
  have tk2 : (wd).cell? ⟨wa.heap.size, 2, none⟩ = some (.int .i64 (am : Int)) := (H.blk 1 rfl).cell 2
  have tkf2 : (wd).frozen? ⟨wa.heap.size, 2, none⟩ = false := (H.blk 1 rfl).frozen 2
  have tk3 : (wd).cell? ⟨wa.heap.size, 3, none⟩ = some (.int .i64 (tag : Int)) := (H.blk 1 rfl).cell 3
  have tkf3 : (wd).frozen? ⟨wa.heap.size, 3, none⟩ = false := (H.blk 1 rfl).frozen 3
  have tklt : wa.heap.size < (wd).heap.size := H.lt 1 rfl
  clear hbd hP
  go_wp2
  go_ret
  exact ⟨rfl, H.call (below_a1 _ _) |>.below⟩
end Go.Proofs.YtlkigihghpcglaaDoor

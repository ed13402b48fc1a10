/- The walk of the law EventBack. -/
import Derived.Test.YthhbnmmhjfgpdaaDec
namespace Go.Proofs.Ythhbnmmhjfgpdaa
open Go.RowKit
set_option linter.unusedVariables false
set_option maxRecDepth 100000 in
theorem ev_open {v : Value} {w : World} (h : Fit Try.prog w 27 v) : ∃ k me mo id te de fe pr ch un tg ow bp : Int, v = .agg #[.int .i64 k, .int .i64 me, .int .i64 mo, .int .i64 id, .int .i64 te, .int .i64 de, .int .i64 fe, .int .i64 pr, .int .i64 ch, .int .i64 un, .int .i64 tg, .int .i64 ow, .int .i64 bp] := by
  obtain ⟨cs, rfl, hcf⟩ := h.struct Try.underlying27
  obtain ⟨ns, hl, rfl, hw⟩ := hcf.ints (ks := [.i64, .i64, .i64, .i64, .i64, .i64, .i64, .i64, .i64, .i64, .i64, .i64, .i64]) (by kernel_rfl)
  match ns, hl with
  | [k, me, mo, id, te, de, fe, pr, ch, un, tg, ow, bp], _ => exact ⟨k, me, mo, id, te, de, fe, pr, ch, un, tg, ow, bp, rfl⟩
theorem ev_refl (k me mo id te de fe pr ch un tg ow bp : Int) (W : World) : (Op.equalIn 10000 27 (.agg #[.int .i64 k, .int .i64 me, .int .i64 mo, .int .i64 id, .int .i64 te, .int .i64 de, .int .i64 fe, .int .i64 pr, .int .i64 ch, .int .i64 un, .int .i64 tg, .int .i64 ow, .int .i64 bp]) (.agg #[.int .i64 k, .int .i64 me, .int .i64 mo, .int .i64 id, .int .i64 te, .int .i64 de, .int .i64 fe, .int .i64 pr, .int .i64 ch, .int .i64 un, .int .i64 tg, .int .i64 ow, .int .i64 bp])).run Try.prog W = .ok true W := by
  have h := eq_is (P := Try.prog) (t := 27) [.int .i64 k, .int .i64 me, .int .i64 mo, .int .i64 id, .int .i64 te, .int .i64 de, .int .i64 fe, .int .i64 pr, .int .i64 ch, .int .i64 un, .int .i64 tg, .int .i64 ow, .int .i64 bp] [.int .i64 k, .int .i64 me, .int .i64 mo, .int .i64 id, .int .i64 te, .int .i64 de, .int .i64 fe, .int .i64 pr, .int .i64 ch, .int .i64 un, .int .i64 tg, .int .i64 ow, .int .i64 bp] W (by kernel_rfl) (mkv_struct Try.underlying27)
  simpa [cellsEq, leafEq] using h
set_option maxRecDepth 100000 in
set_option maxHeartbeats 4000000 in
theorem walk_eventBack (w : World) (a0 : Value) (w0 : Fit Try.prog w 27 a0) :
    Calls Try.prog 3 #[a0] w fun e w' => e = .returned (.bool true) ∧ Below w.heap.size w w' := by
  obtain ⟨k, me, mo, id, te, de, fe, pr, ch, un, tg, ow, bp, rfl⟩ := ev_open w0
  clear w0
  have hE := ev_refl k me mo id te de fe pr ch un tg ow bp
  have hN := fun W => encode_ok k me mo id te de fe pr ch un tg ow bp W
  have H := Mem.init w
  obtain ⟨W0, hW0⟩ : ∃ W0, (w).alloc (.cells #[.int .i64 k, .int .i64 me, .int .i64 mo, .int .i64 id, .int .i64 te, .int .i64 de, .int .i64 fe, .int .i64 pr, .int .i64 ch, .int .i64 un, .int .i64 tg, .int .i64 ow, .int .i64 bp] 27) = W0 := ⟨_, rfl⟩
  replace H : Mem (w) [] _ [.blk (w.heap.size) 27 #[.int .i64 k, .int .i64 me, .int .i64 mo, .int .i64 id, .int .i64 te, .int .i64 de, .int .i64 fe, .int .i64 pr, .int .i64 ch, .int .i64 un, .int .i64 tg, .int .i64 ow, .int .i64 bp]] := Mem.alloc H (w.heap.size) (by first | (simp; done) | (simp; omega)) #[.int .i64 k, .int .i64 me, .int .i64 mo, .int .i64 id, .int .i64 te, .int .i64 de, .int .i64 fe, .int .i64 pr, .int .i64 ch, .int .i64 un, .int .i64 tg, .int .i64 ow, .int .i64 bp] 27
  rw [hW0] at H
  have ev0 : (W0).cell? ⟨w.heap.size, 0, none⟩ = some (.int .i64 k) := (H.blk 0 rfl).cell 0
  have evf0 : (W0).frozen? ⟨w.heap.size, 0, none⟩ = false := (H.blk 0 rfl).frozen 0
  have ev1 : (W0).cell? ⟨w.heap.size, 1, none⟩ = some (.int .i64 me) := (H.blk 0 rfl).cell 1
  have evf1 : (W0).frozen? ⟨w.heap.size, 1, none⟩ = false := (H.blk 0 rfl).frozen 1
  have ev2 : (W0).cell? ⟨w.heap.size, 2, none⟩ = some (.int .i64 mo) := (H.blk 0 rfl).cell 2
  have evf2 : (W0).frozen? ⟨w.heap.size, 2, none⟩ = false := (H.blk 0 rfl).frozen 2
  have ev3 : (W0).cell? ⟨w.heap.size, 3, none⟩ = some (.int .i64 id) := (H.blk 0 rfl).cell 3
  have evf3 : (W0).frozen? ⟨w.heap.size, 3, none⟩ = false := (H.blk 0 rfl).frozen 3
  have ev4 : (W0).cell? ⟨w.heap.size, 4, none⟩ = some (.int .i64 te) := (H.blk 0 rfl).cell 4
  have evf4 : (W0).frozen? ⟨w.heap.size, 4, none⟩ = false := (H.blk 0 rfl).frozen 4
  have ev5 : (W0).cell? ⟨w.heap.size, 5, none⟩ = some (.int .i64 de) := (H.blk 0 rfl).cell 5
  have evf5 : (W0).frozen? ⟨w.heap.size, 5, none⟩ = false := (H.blk 0 rfl).frozen 5
  have ev6 : (W0).cell? ⟨w.heap.size, 6, none⟩ = some (.int .i64 fe) := (H.blk 0 rfl).cell 6
  have evf6 : (W0).frozen? ⟨w.heap.size, 6, none⟩ = false := (H.blk 0 rfl).frozen 6
  have ev7 : (W0).cell? ⟨w.heap.size, 7, none⟩ = some (.int .i64 pr) := (H.blk 0 rfl).cell 7
  have evf7 : (W0).frozen? ⟨w.heap.size, 7, none⟩ = false := (H.blk 0 rfl).frozen 7
  have ev8 : (W0).cell? ⟨w.heap.size, 8, none⟩ = some (.int .i64 ch) := (H.blk 0 rfl).cell 8
  have evf8 : (W0).frozen? ⟨w.heap.size, 8, none⟩ = false := (H.blk 0 rfl).frozen 8
  have ev9 : (W0).cell? ⟨w.heap.size, 9, none⟩ = some (.int .i64 un) := (H.blk 0 rfl).cell 9
  have evf9 : (W0).frozen? ⟨w.heap.size, 9, none⟩ = false := (H.blk 0 rfl).frozen 9
  have ev10 : (W0).cell? ⟨w.heap.size, 10, none⟩ = some (.int .i64 tg) := (H.blk 0 rfl).cell 10
  have evf10 : (W0).frozen? ⟨w.heap.size, 10, none⟩ = false := (H.blk 0 rfl).frozen 10
  have ev11 : (W0).cell? ⟨w.heap.size, 11, none⟩ = some (.int .i64 ow) := (H.blk 0 rfl).cell 11
  have evf11 : (W0).frozen? ⟨w.heap.size, 11, none⟩ = false := (H.blk 0 rfl).frozen 11
  have ev12 : (W0).cell? ⟨w.heap.size, 12, none⟩ = some (.int .i64 bp) := (H.blk 0 rfl).cell 12
  have evf12 : (W0).frozen? ⟨w.heap.size, 12, none⟩ = false := (H.blk 0 rfl).frozen 12
  have evlt : w.heap.size < (W0).heap.size := H.lt 0 rfl
  go_enter Try.func3, Try.ntmps3
  go_wp2_with fail
  refine (hN _).mono ?_
  clear hW0 hN

  rintro e wa (⟨hok, A, c, rfl, hown, hba⟩ | ⟨hno, rfl, hba⟩)
  · replace H : Mem (w) [] (wa) [.blk (w.heap.size) 27 #[.int .i64 k, .int .i64 me, .int .i64 mo, .int .i64 id, .int .i64 te, .int .i64 de, .int .i64 fe, .int .i64 pr, .int .i64 ch, .int .i64 un, .int .i64 tg, .int .i64 ow, .int .i64 bp]] := Mem.call H hba
    clear ev0 evf0 ev1 evf1 ev2 evf2 ev3 evf3 ev4 evf4 ev5 evf5 ev6 evf6 ev7 evf7 ev8 evf8 ev9 evf9 ev10 evf10 ev11 evf11 ev12 evf12 evlt
    have ev0 : (wa).cell? ⟨w.heap.size, 0, none⟩ = some (.int .i64 k) := (H.blk 0 rfl).cell 0
    have evf0 : (wa).frozen? ⟨w.heap.size, 0, none⟩ = false := (H.blk 0 rfl).frozen 0
    have ev1 : (wa).cell? ⟨w.heap.size, 1, none⟩ = some (.int .i64 me) := (H.blk 0 rfl).cell 1
    have evf1 : (wa).frozen? ⟨w.heap.size, 1, none⟩ = false := (H.blk 0 rfl).frozen 1
    have ev2 : (wa).cell? ⟨w.heap.size, 2, none⟩ = some (.int .i64 mo) := (H.blk 0 rfl).cell 2
    have evf2 : (wa).frozen? ⟨w.heap.size, 2, none⟩ = false := (H.blk 0 rfl).frozen 2
    have ev3 : (wa).cell? ⟨w.heap.size, 3, none⟩ = some (.int .i64 id) := (H.blk 0 rfl).cell 3
    have evf3 : (wa).frozen? ⟨w.heap.size, 3, none⟩ = false := (H.blk 0 rfl).frozen 3
    have ev4 : (wa).cell? ⟨w.heap.size, 4, none⟩ = some (.int .i64 te) := (H.blk 0 rfl).cell 4
    have evf4 : (wa).frozen? ⟨w.heap.size, 4, none⟩ = false := (H.blk 0 rfl).frozen 4
    have ev5 : (wa).cell? ⟨w.heap.size, 5, none⟩ = some (.int .i64 de) := (H.blk 0 rfl).cell 5
    have evf5 : (wa).frozen? ⟨w.heap.size, 5, none⟩ = false := (H.blk 0 rfl).frozen 5
    have ev6 : (wa).cell? ⟨w.heap.size, 6, none⟩ = some (.int .i64 fe) := (H.blk 0 rfl).cell 6
    have evf6 : (wa).frozen? ⟨w.heap.size, 6, none⟩ = false := (H.blk 0 rfl).frozen 6
    have ev7 : (wa).cell? ⟨w.heap.size, 7, none⟩ = some (.int .i64 pr) := (H.blk 0 rfl).cell 7
    have evf7 : (wa).frozen? ⟨w.heap.size, 7, none⟩ = false := (H.blk 0 rfl).frozen 7
    have ev8 : (wa).cell? ⟨w.heap.size, 8, none⟩ = some (.int .i64 ch) := (H.blk 0 rfl).cell 8
    have evf8 : (wa).frozen? ⟨w.heap.size, 8, none⟩ = false := (H.blk 0 rfl).frozen 8
    have ev9 : (wa).cell? ⟨w.heap.size, 9, none⟩ = some (.int .i64 un) := (H.blk 0 rfl).cell 9
    have evf9 : (wa).frozen? ⟨w.heap.size, 9, none⟩ = false := (H.blk 0 rfl).frozen 9
    have ev10 : (wa).cell? ⟨w.heap.size, 10, none⟩ = some (.int .i64 tg) := (H.blk 0 rfl).cell 10
    have evf10 : (wa).frozen? ⟨w.heap.size, 10, none⟩ = false := (H.blk 0 rfl).frozen 10
    have ev11 : (wa).cell? ⟨w.heap.size, 11, none⟩ = some (.int .i64 ow) := (H.blk 0 rfl).cell 11
    have evf11 : (wa).frozen? ⟨w.heap.size, 11, none⟩ = false := (H.blk 0 rfl).frozen 11
    have ev12 : (wa).cell? ⟨w.heap.size, 12, none⟩ = some (.int .i64 bp) := (H.blk 0 rfl).cell 12
    have evf12 : (wa).frozen? ⟨w.heap.size, 12, none⟩ = false := (H.blk 0 rfl).frozen 12
    have evlt : w.heap.size < (wa).heap.size := H.lt 0 rfl
    have hbd := hok.bd
    have HOK := Lib.hid hok
    have hD := decode_ev k me mo id te de fe pr ch un tg ow bp A c wa (fun z hz => by
      simp only [evL, List.mem_cons, List.not_mem_nil, or_false] at hz
      rcases hz with rfl | rfl | rfl | rfl | rfl | rfl | rfl | rfl | rfl | rfl | rfl | rfl | rfl <;> omega) ((Rd.of_own hown).more (Nat.le_refl _))
    clear hba hbd hok hown
    go_wp2_with fail
    refine hD.mono ?_
    rintro e wb (⟨_, rfl, hbb⟩ | ⟨hno, _⟩)
    · replace H : Mem (w) [] (wb) [.blk (w.heap.size) 27 #[.int .i64 k, .int .i64 me, .int .i64 mo, .int .i64 id, .int .i64 te, .int .i64 de, .int .i64 fe, .int .i64 pr, .int .i64 ch, .int .i64 un, .int .i64 tg, .int .i64 ow, .int .i64 bp]] := Mem.call H hbb
      clear hbb hD
      replace H : Mem (w) [] _ [.blk (w.heap.size) 27 #[.int .i64 k, .int .i64 me, .int .i64 mo, .int .i64 id, .int .i64 te, .int .i64 de, .int .i64 fe, .int .i64 pr, .int .i64 ch, .int .i64 un, .int .i64 tg, .int .i64 ow, .int .i64 bp], .blk (wb.heap.size) 27 #[.int .i64 k, .int .i64 me, .int .i64 mo, .int .i64 id, .int .i64 te, .int .i64 de, .int .i64 fe, .int .i64 pr, .int .i64 ch, .int .i64 un, .int .i64 tg, .int .i64 ow, .int .i64 bp]] := Mem.alloc H (wb.heap.size) (by first | (simp; done) | (simp; omega)) #[.int .i64 k, .int .i64 me, .int .i64 mo, .int .i64 id, .int .i64 te, .int .i64 de, .int .i64 fe, .int .i64 pr, .int .i64 ch, .int .i64 un, .int .i64 tg, .int .i64 ow, .int .i64 bp] 27
      clear ev0 evf0 ev1 evf1 ev2 evf2 ev3 evf3 ev4 evf4 ev5 evf5 ev6 evf6 ev7 evf7 ev8 evf8 ev9 evf9 ev10 evf10 ev11 evf11 ev12 evf12 evlt
      have ev0 : ((wb).alloc (.cells #[.int .i64 k, .int .i64 me, .int .i64 mo, .int .i64 id, .int .i64 te, .int .i64 de, .int .i64 fe, .int .i64 pr, .int .i64 ch, .int .i64 un, .int .i64 tg, .int .i64 ow, .int .i64 bp] 27)).cell? ⟨w.heap.size, 0, none⟩ = some (.int .i64 k) := (H.blk 0 rfl).cell 0
      have evf0 : ((wb).alloc (.cells #[.int .i64 k, .int .i64 me, .int .i64 mo, .int .i64 id, .int .i64 te, .int .i64 de, .int .i64 fe, .int .i64 pr, .int .i64 ch, .int .i64 un, .int .i64 tg, .int .i64 ow, .int .i64 bp] 27)).frozen? ⟨w.heap.size, 0, none⟩ = false := (H.blk 0 rfl).frozen 0
      have ev1 : ((wb).alloc (.cells #[.int .i64 k, .int .i64 me, .int .i64 mo, .int .i64 id, .int .i64 te, .int .i64 de, .int .i64 fe, .int .i64 pr, .int .i64 ch, .int .i64 un, .int .i64 tg, .int .i64 ow, .int .i64 bp] 27)).cell? ⟨w.heap.size, 1, none⟩ = some (.int .i64 me) := (H.blk 0 rfl).cell 1
      have evf1 : ((wb).alloc (.cells #[.int .i64 k, .int .i64 me, .int .i64 mo, .int .i64 id, .int .i64 te, .int .i64 de, .int .i64 fe, .int .i64 pr, .int .i64 ch, .int .i64 un, .int .i64 tg, .int .i64 ow, .int .i64 bp] 27)).frozen? ⟨w.heap.size, 1, none⟩ = false := (H.blk 0 rfl).frozen 1
      have ev2 : ((wb).alloc (.cells #[.int .i64 k, .int .i64 me, .int .i64 mo, .int .i64 id, .int .i64 te, .int .i64 de, .int .i64 fe, .int .i64 pr, .int .i64 ch, .int .i64 un, .int .i64 tg, .int .i64 ow, .int .i64 bp] 27)).cell? ⟨w.heap.size, 2, none⟩ = some (.int .i64 mo) := (H.blk 0 rfl).cell 2
      have evf2 : ((wb).alloc (.cells #[.int .i64 k, .int .i64 me, .int .i64 mo, .int .i64 id, .int .i64 te, .int .i64 de, .int .i64 fe, .int .i64 pr, .int .i64 ch, .int .i64 un, .int .i64 tg, .int .i64 ow, .int .i64 bp] 27)).frozen? ⟨w.heap.size, 2, none⟩ = false := (H.blk 0 rfl).frozen 2
      have ev3 : ((wb).alloc (.cells #[.int .i64 k, .int .i64 me, .int .i64 mo, .int .i64 id, .int .i64 te, .int .i64 de, .int .i64 fe, .int .i64 pr, .int .i64 ch, .int .i64 un, .int .i64 tg, .int .i64 ow, .int .i64 bp] 27)).cell? ⟨w.heap.size, 3, none⟩ = some (.int .i64 id) := (H.blk 0 rfl).cell 3
      have evf3 : ((wb).alloc (.cells #[.int .i64 k, .int .i64 me, .int .i64 mo, .int .i64 id, .int .i64 te, .int .i64 de, .int .i64 fe, .int .i64 pr, .int .i64 ch, .int .i64 un, .int .i64 tg, .int .i64 ow, .int .i64 bp] 27)).frozen? ⟨w.heap.size, 3, none⟩ = false := (H.blk 0 rfl).frozen 3
      have ev4 : ((wb).alloc (.cells #[.int .i64 k, .int .i64 me, .int .i64 mo, .int .i64 id, .int .i64 te, .int .i64 de, .int .i64 fe, .int .i64 pr, .int .i64 ch, .int .i64 un, .int .i64 tg, .int .i64 ow, .int .i64 bp] 27)).cell? ⟨w.heap.size, 4, none⟩ = some (.int .i64 te) := (H.blk 0 rfl).cell 4
      have evf4 : ((wb).alloc (.cells #[.int .i64 k, .int .i64 me, .int .i64 mo, .int .i64 id, .int .i64 te, .int .i64 de, .int .i64 fe, .int .i64 pr, .int .i64 ch, .int .i64 un, .int .i64 tg, .int .i64 ow, .int .i64 bp] 27)).frozen? ⟨w.heap.size, 4, none⟩ = false := (H.blk 0 rfl).frozen 4
      have ev5 : ((wb).alloc (.cells #[.int .i64 k, .int .i64 me, .int .i64 mo, .int .i64 id, .int .i64 te, .int .i64 de, .int .i64 fe, .int .i64 pr, .int .i64 ch, .int .i64 un, .int .i64 tg, .int .i64 ow, .int .i64 bp] 27)).cell? ⟨w.heap.size, 5, none⟩ = some (.int .i64 de) := (H.blk 0 rfl).cell 5
      have evf5 : ((wb).alloc (.cells #[.int .i64 k, .int .i64 me, .int .i64 mo, .int .i64 id, .int .i64 te, .int .i64 de, .int .i64 fe, .int .i64 pr, .int .i64 ch, .int .i64 un, .int .i64 tg, .int .i64 ow, .int .i64 bp] 27)).frozen? ⟨w.heap.size, 5, none⟩ = false := (H.blk 0 rfl).frozen 5
      have ev6 : ((wb).alloc (.cells #[.int .i64 k, .int .i64 me, .int .i64 mo, .int .i64 id, .int .i64 te, .int .i64 de, .int .i64 fe, .int .i64 pr, .int .i64 ch, .int .i64 un, .int .i64 tg, .int .i64 ow, .int .i64 bp] 27)).cell? ⟨w.heap.size, 6, none⟩ = some (.int .i64 fe) := (H.blk 0 rfl).cell 6
      have evf6 : ((wb).alloc (.cells #[.int .i64 k, .int .i64 me, .int .i64 mo, .int .i64 id, .int .i64 te, .int .i64 de, .int .i64 fe, .int .i64 pr, .int .i64 ch, .int .i64 un, .int .i64 tg, .int .i64 ow, .int .i64 bp] 27)).frozen? ⟨w.heap.size, 6, none⟩ = false := (H.blk 0 rfl).frozen 6
      have ev7 : ((wb).alloc (.cells #[.int .i64 k, .int .i64 me, .int .i64 mo, .int .i64 id, .int .i64 te, .int .i64 de, .int .i64 fe, .int .i64 pr, .int .i64 ch, .int .i64 un, .int .i64 tg, .int .i64 ow, .int .i64 bp] 27)).cell? ⟨w.heap.size, 7, none⟩ = some (.int .i64 pr) := (H.blk 0 rfl).cell 7
      have evf7 : ((wb).alloc (.cells #[.int .i64 k, .int .i64 me, .int .i64 mo, .int .i64 id, .int .i64 te, .int .i64 de, .int .i64 fe, .int .i64 pr, .int .i64 ch, .int .i64 un, .int .i64 tg, .int .i64 ow, .int .i64 bp] 27)).frozen? ⟨w.heap.size, 7, none⟩ = false := (H.blk 0 rfl).frozen 7
      have ev8 : ((wb).alloc (.cells #[.int .i64 k, .int .i64 me, .int .i64 mo, .int .i64 id, .int .i64 te, .int .i64 de, .int .i64 fe, .int .i64 pr, .int .i64 ch, .int .i64 un, .int .i64 tg, .int .i64 ow, .int .i64 bp] 27)).cell? ⟨w.heap.size, 8, none⟩ = some (.int .i64 ch) := (H.blk 0 rfl).cell 8
      have evf8 : ((wb).alloc (.cells #[.int .i64 k, .int .i64 me, .int .i64 mo, .int .i64 id, .int .i64 te, .int .i64 de, .int .i64 fe, .int .i64 pr, .int .i64 ch, .int .i64 un, .int .i64 tg, .int .i64 ow, .int .i64 bp] 27)).frozen? ⟨w.heap.size, 8, none⟩ = false := (H.blk 0 rfl).frozen 8
      have ev9 : ((wb).alloc (.cells #[.int .i64 k, .int .i64 me, .int .i64 mo, .int .i64 id, .int .i64 te, .int .i64 de, .int .i64 fe, .int .i64 pr, .int .i64 ch, .int .i64 un, .int .i64 tg, .int .i64 ow, .int .i64 bp] 27)).cell? ⟨w.heap.size, 9, none⟩ = some (.int .i64 un) := (H.blk 0 rfl).cell 9
      have evf9 : ((wb).alloc (.cells #[.int .i64 k, .int .i64 me, .int .i64 mo, .int .i64 id, .int .i64 te, .int .i64 de, .int .i64 fe, .int .i64 pr, .int .i64 ch, .int .i64 un, .int .i64 tg, .int .i64 ow, .int .i64 bp] 27)).frozen? ⟨w.heap.size, 9, none⟩ = false := (H.blk 0 rfl).frozen 9
      have ev10 : ((wb).alloc (.cells #[.int .i64 k, .int .i64 me, .int .i64 mo, .int .i64 id, .int .i64 te, .int .i64 de, .int .i64 fe, .int .i64 pr, .int .i64 ch, .int .i64 un, .int .i64 tg, .int .i64 ow, .int .i64 bp] 27)).cell? ⟨w.heap.size, 10, none⟩ = some (.int .i64 tg) := (H.blk 0 rfl).cell 10
      have evf10 : ((wb).alloc (.cells #[.int .i64 k, .int .i64 me, .int .i64 mo, .int .i64 id, .int .i64 te, .int .i64 de, .int .i64 fe, .int .i64 pr, .int .i64 ch, .int .i64 un, .int .i64 tg, .int .i64 ow, .int .i64 bp] 27)).frozen? ⟨w.heap.size, 10, none⟩ = false := (H.blk 0 rfl).frozen 10
      have ev11 : ((wb).alloc (.cells #[.int .i64 k, .int .i64 me, .int .i64 mo, .int .i64 id, .int .i64 te, .int .i64 de, .int .i64 fe, .int .i64 pr, .int .i64 ch, .int .i64 un, .int .i64 tg, .int .i64 ow, .int .i64 bp] 27)).cell? ⟨w.heap.size, 11, none⟩ = some (.int .i64 ow) := (H.blk 0 rfl).cell 11
      have evf11 : ((wb).alloc (.cells #[.int .i64 k, .int .i64 me, .int .i64 mo, .int .i64 id, .int .i64 te, .int .i64 de, .int .i64 fe, .int .i64 pr, .int .i64 ch, .int .i64 un, .int .i64 tg, .int .i64 ow, .int .i64 bp] 27)).frozen? ⟨w.heap.size, 11, none⟩ = false := (H.blk 0 rfl).frozen 11
      have ev12 : ((wb).alloc (.cells #[.int .i64 k, .int .i64 me, .int .i64 mo, .int .i64 id, .int .i64 te, .int .i64 de, .int .i64 fe, .int .i64 pr, .int .i64 ch, .int .i64 un, .int .i64 tg, .int .i64 ow, .int .i64 bp] 27)).cell? ⟨w.heap.size, 12, none⟩ = some (.int .i64 bp) := (H.blk 0 rfl).cell 12
      have evf12 : ((wb).alloc (.cells #[.int .i64 k, .int .i64 me, .int .i64 mo, .int .i64 id, .int .i64 te, .int .i64 de, .int .i64 fe, .int .i64 pr, .int .i64 ch, .int .i64 un, .int .i64 tg, .int .i64 ow, .int .i64 bp] 27)).frozen? ⟨w.heap.size, 12, none⟩ = false := (H.blk 0 rfl).frozen 12
      have evlt : w.heap.size < ((wb).alloc (.cells #[.int .i64 k, .int .i64 me, .int .i64 mo, .int .i64 id, .int .i64 te, .int .i64 de, .int .i64 fe, .int .i64 pr, .int .i64 ch, .int .i64 un, .int .i64 tg, .int .i64 ow, .int .i64 bp] 27)).heap.size := H.lt 0 rfl
      have bk0 : ((wb).alloc (.cells #[.int .i64 k, .int .i64 me, .int .i64 mo, .int .i64 id, .int .i64 te, .int .i64 de, .int .i64 fe, .int .i64 pr, .int .i64 ch, .int .i64 un, .int .i64 tg, .int .i64 ow, .int .i64 bp] 27)).cell? ⟨wb.heap.size, 0, none⟩ = some (.int .i64 k) := (H.blk 1 rfl).cell 0
      have bkf0 : ((wb).alloc (.cells #[.int .i64 k, .int .i64 me, .int .i64 mo, .int .i64 id, .int .i64 te, .int .i64 de, .int .i64 fe, .int .i64 pr, .int .i64 ch, .int .i64 un, .int .i64 tg, .int .i64 ow, .int .i64 bp] 27)).frozen? ⟨wb.heap.size, 0, none⟩ = false := (H.blk 1 rfl).frozen 0
      have bk1 : ((wb).alloc (.cells #[.int .i64 k, .int .i64 me, .int .i64 mo, .int .i64 id, .int .i64 te, .int .i64 de, .int .i64 fe, .int .i64 pr, .int .i64 ch, .int .i64 un, .int .i64 tg, .int .i64 ow, .int .i64 bp] 27)).cell? ⟨wb.heap.size, 1, none⟩ = some (.int .i64 me) := (H.blk 1 rfl).cell 1
      have bkf1 : ((wb).alloc (.cells #[.int .i64 k, .int .i64 me, .int .i64 mo, .int .i64 id, .int .i64 te, .int .i64 de, .int .i64 fe, .int .i64 pr, .int .i64 ch, .int .i64 un, .int .i64 tg, .int .i64 ow, .int .i64 bp] 27)).frozen? ⟨wb.heap.size, 1, none⟩ = false := (H.blk 1 rfl).frozen 1
      have bk2 : ((wb).alloc (.cells #[.int .i64 k, .int .i64 me, .int .i64 mo, .int .i64 id, .int .i64 te, .int .i64 de, .int .i64 fe, .int .i64 pr, .int .i64 ch, .int .i64 un, .int .i64 tg, .int .i64 ow, .int .i64 bp] 27)).cell? ⟨wb.heap.size, 2, none⟩ = some (.int .i64 mo) := (H.blk 1 rfl).cell 2
      have bkf2 : ((wb).alloc (.cells #[.int .i64 k, .int .i64 me, .int .i64 mo, .int .i64 id, .int .i64 te, .int .i64 de, .int .i64 fe, .int .i64 pr, .int .i64 ch, .int .i64 un, .int .i64 tg, .int .i64 ow, .int .i64 bp] 27)).frozen? ⟨wb.heap.size, 2, none⟩ = false := (H.blk 1 rfl).frozen 2
      have bk3 : ((wb).alloc (.cells #[.int .i64 k, .int .i64 me, .int .i64 mo, .int .i64 id, .int .i64 te, .int .i64 de, .int .i64 fe, .int .i64 pr, .int .i64 ch, .int .i64 un, .int .i64 tg, .int .i64 ow, .int .i64 bp] 27)).cell? ⟨wb.heap.size, 3, none⟩ = some (.int .i64 id) := (H.blk 1 rfl).cell 3
      have bkf3 : ((wb).alloc (.cells #[.int .i64 k, .int .i64 me, .int .i64 mo, .int .i64 id, .int .i64 te, .int .i64 de, .int .i64 fe, .int .i64 pr, .int .i64 ch, .int .i64 un, .int .i64 tg, .int .i64 ow, .int .i64 bp] 27)).frozen? ⟨wb.heap.size, 3, none⟩ = false := (H.blk 1 rfl).frozen 3
      have bk4 : ((wb).alloc (.cells #[.int .i64 k, .int .i64 me, .int .i64 mo, .int .i64 id, .int .i64 te, .int .i64 de, .int .i64 fe, .int .i64 pr, .int .i64 ch, .int .i64 un, .int .i64 tg, .int .i64 ow, .int .i64 bp] 27)).cell? ⟨wb.heap.size, 4, none⟩ = some (.int .i64 te) := (H.blk 1 rfl).cell 4
      have bkf4 : ((wb).alloc (.cells #[.int .i64 k, .int .i64 me, .int .i64 mo, .int .i64 id, .int .i64 te, .int .i64 de, .int .i64 fe, .int .i64 pr, .int .i64 ch, .int .i64 un, .int .i64 tg, .int .i64 ow, .int .i64 bp] 27)).frozen? ⟨wb.heap.size, 4, none⟩ = false := (H.blk 1 rfl).frozen 4
      have bk5 : ((wb).alloc (.cells #[.int .i64 k, .int .i64 me, .int .i64 mo, .int .i64 id, .int .i64 te, .int .i64 de, .int .i64 fe, .int .i64 pr, .int .i64 ch, .int .i64 un, .int .i64 tg, .int .i64 ow, .int .i64 bp] 27)).cell? ⟨wb.heap.size, 5, none⟩ = some (.int .i64 de) := (H.blk 1 rfl).cell 5
      have bkf5 : ((wb).alloc (.cells #[.int .i64 k, .int .i64 me, .int .i64 mo, .int .i64 id, .int .i64 te, .int .i64 de, .int .i64 fe, .int .i64 pr, .int .i64 ch, .int .i64 un, .int .i64 tg, .int .i64 ow, .int .i64 bp] 27)).frozen? ⟨wb.heap.size, 5, none⟩ = false := (H.blk 1 rfl).frozen 5
      have bk6 : ((wb).alloc (.cells #[.int .i64 k, .int .i64 me, .int .i64 mo, .int .i64 id, .int .i64 te, .int .i64 de, .int .i64 fe, .int .i64 pr, .int .i64 ch, .int .i64 un, .int .i64 tg, .int .i64 ow, .int .i64 bp] 27)).cell? ⟨wb.heap.size, 6, none⟩ = some (.int .i64 fe) := (H.blk 1 rfl).cell 6
      have bkf6 : ((wb).alloc (.cells #[.int .i64 k, .int .i64 me, .int .i64 mo, .int .i64 id, .int .i64 te, .int .i64 de, .int .i64 fe, .int .i64 pr, .int .i64 ch, .int .i64 un, .int .i64 tg, .int .i64 ow, .int .i64 bp] 27)).frozen? ⟨wb.heap.size, 6, none⟩ = false := (H.blk 1 rfl).frozen 6
      have bk7 : ((wb).alloc (.cells #[.int .i64 k, .int .i64 me, .int .i64 mo, .int .i64 id, .int .i64 te, .int .i64 de, .int .i64 fe, .int .i64 pr, .int .i64 ch, .int .i64 un, .int .i64 tg, .int .i64 ow, .int .i64 bp] 27)).cell? ⟨wb.heap.size, 7, none⟩ = some (.int .i64 pr) := (H.blk 1 rfl).cell 7
      have bkf7 : ((wb).alloc (.cells #[.int .i64 k, .int .i64 me, .int .i64 mo, .int .i64 id, .int .i64 te, .int .i64 de, .int .i64 fe, .int .i64 pr, .int .i64 ch, .int .i64 un, .int .i64 tg, .int .i64 ow, .int .i64 bp] 27)).frozen? ⟨wb.heap.size, 7, none⟩ = false := (H.blk 1 rfl).frozen 7
      have bk8 : ((wb).alloc (.cells #[.int .i64 k, .int .i64 me, .int .i64 mo, .int .i64 id, .int .i64 te, .int .i64 de, .int .i64 fe, .int .i64 pr, .int .i64 ch, .int .i64 un, .int .i64 tg, .int .i64 ow, .int .i64 bp] 27)).cell? ⟨wb.heap.size, 8, none⟩ = some (.int .i64 ch) := (H.blk 1 rfl).cell 8
      have bkf8 : ((wb).alloc (.cells #[.int .i64 k, .int .i64 me, .int .i64 mo, .int .i64 id, .int .i64 te, .int .i64 de, .int .i64 fe, .int .i64 pr, .int .i64 ch, .int .i64 un, .int .i64 tg, .int .i64 ow, .int .i64 bp] 27)).frozen? ⟨wb.heap.size, 8, none⟩ = false := (H.blk 1 rfl).frozen 8
      have bk9 : ((wb).alloc (.cells #[.int .i64 k, .int .i64 me, .int .i64 mo, .int .i64 id, .int .i64 te, .int .i64 de, .int .i64 fe, .int .i64 pr, .int .i64 ch, .int .i64 un, .int .i64 tg, .int .i64 ow, .int .i64 bp] 27)).cell? ⟨wb.heap.size, 9, none⟩ = some (.int .i64 un) := (H.blk 1 rfl).cell 9
      have bkf9 : ((wb).alloc (.cells #[.int .i64 k, .int .i64 me, .int .i64 mo, .int .i64 id, .int .i64 te, .int .i64 de, .int .i64 fe, .int .i64 pr, .int .i64 ch, .int .i64 un, .int .i64 tg, .int .i64 ow, .int .i64 bp] 27)).frozen? ⟨wb.heap.size, 9, none⟩ = false := (H.blk 1 rfl).frozen 9
      have bk10 : ((wb).alloc (.cells #[.int .i64 k, .int .i64 me, .int .i64 mo, .int .i64 id, .int .i64 te, .int .i64 de, .int .i64 fe, .int .i64 pr, .int .i64 ch, .int .i64 un, .int .i64 tg, .int .i64 ow, .int .i64 bp] 27)).cell? ⟨wb.heap.size, 10, none⟩ = some (.int .i64 tg) := (H.blk 1 rfl).cell 10
      have bkf10 : ((wb).alloc (.cells #[.int .i64 k, .int .i64 me, .int .i64 mo, .int .i64 id, .int .i64 te, .int .i64 de, .int .i64 fe, .int .i64 pr, .int .i64 ch, .int .i64 un, .int .i64 tg, .int .i64 ow, .int .i64 bp] 27)).frozen? ⟨wb.heap.size, 10, none⟩ = false := (H.blk 1 rfl).frozen 10
      have bk11 : ((wb).alloc (.cells #[.int .i64 k, .int .i64 me, .int .i64 mo, .int .i64 id, .int .i64 te, .int .i64 de, .int .i64 fe, .int .i64 pr, .int .i64 ch, .int .i64 un, .int .i64 tg, .int .i64 ow, .int .i64 bp] 27)).cell? ⟨wb.heap.size, 11, none⟩ = some (.int .i64 ow) := (H.blk 1 rfl).cell 11
      have bkf11 : ((wb).alloc (.cells #[.int .i64 k, .int .i64 me, .int .i64 mo, .int .i64 id, .int .i64 te, .int .i64 de, .int .i64 fe, .int .i64 pr, .int .i64 ch, .int .i64 un, .int .i64 tg, .int .i64 ow, .int .i64 bp] 27)).frozen? ⟨wb.heap.size, 11, none⟩ = false := (H.blk 1 rfl).frozen 11
      have bk12 : ((wb).alloc (.cells #[.int .i64 k, .int .i64 me, .int .i64 mo, .int .i64 id, .int .i64 te, .int .i64 de, .int .i64 fe, .int .i64 pr, .int .i64 ch, .int .i64 un, .int .i64 tg, .int .i64 ow, .int .i64 bp] 27)).cell? ⟨wb.heap.size, 12, none⟩ = some (.int .i64 bp) := (H.blk 1 rfl).cell 12
      have bkf12 : ((wb).alloc (.cells #[.int .i64 k, .int .i64 me, .int .i64 mo, .int .i64 id, .int .i64 te, .int .i64 de, .int .i64 fe, .int .i64 pr, .int .i64 ch, .int .i64 un, .int .i64 tg, .int .i64 ow, .int .i64 bp] 27)).frozen? ⟨wb.heap.size, 12, none⟩ = false := (H.blk 1 rfl).frozen 12
      have bklt : wb.heap.size < ((wb).alloc (.cells #[.int .i64 k, .int .i64 me, .int .i64 mo, .int .i64 id, .int .i64 te, .int .i64 de, .int .i64 fe, .int .i64 pr, .int .i64 ch, .int .i64 un, .int .i64 tg, .int .i64 ow, .int .i64 bp] 27)).heap.size := H.lt 1 rfl
      have ne_ev_bk : w.heap.size ≠ wb.heap.size := H.ne 0 1 rfl rfl (by decide)
      have ne_bk_ev : wb.heap.size ≠ w.heap.size := H.ne 1 0 rfl rfl (by decide)
      go_wp2
      go_ret
      exact ⟨rfl, H.below⟩
    · exact absurd HOK.out hno
  · skip
    clear hno
    replace H : Mem (w) [] (wa) [.blk (w.heap.size) 27 #[.int .i64 k, .int .i64 me, .int .i64 mo, .int .i64 id, .int .i64 te, .int .i64 de, .int .i64 fe, .int .i64 pr, .int .i64 ch, .int .i64 un, .int .i64 tg, .int .i64 ow, .int .i64 bp]] := Mem.call H hba
    clear ev0 evf0 ev1 evf1 ev2 evf2 ev3 evf3 ev4 evf4 ev5 evf5 ev6 evf6 ev7 evf7 ev8 evf8 ev9 evf9 ev10 evf10 ev11 evf11 ev12 evf12 evlt
    have ev0 : (wa).cell? ⟨w.heap.size, 0, none⟩ = some (.int .i64 k) := (H.blk 0 rfl).cell 0
    have evf0 : (wa).frozen? ⟨w.heap.size, 0, none⟩ = false := (H.blk 0 rfl).frozen 0
    have ev1 : (wa).cell? ⟨w.heap.size, 1, none⟩ = some (.int .i64 me) := (H.blk 0 rfl).cell 1
    have evf1 : (wa).frozen? ⟨w.heap.size, 1, none⟩ = false := (H.blk 0 rfl).frozen 1
    have ev2 : (wa).cell? ⟨w.heap.size, 2, none⟩ = some (.int .i64 mo) := (H.blk 0 rfl).cell 2
    have evf2 : (wa).frozen? ⟨w.heap.size, 2, none⟩ = false := (H.blk 0 rfl).frozen 2
    have ev3 : (wa).cell? ⟨w.heap.size, 3, none⟩ = some (.int .i64 id) := (H.blk 0 rfl).cell 3
    have evf3 : (wa).frozen? ⟨w.heap.size, 3, none⟩ = false := (H.blk 0 rfl).frozen 3
    have ev4 : (wa).cell? ⟨w.heap.size, 4, none⟩ = some (.int .i64 te) := (H.blk 0 rfl).cell 4
    have evf4 : (wa).frozen? ⟨w.heap.size, 4, none⟩ = false := (H.blk 0 rfl).frozen 4
    have ev5 : (wa).cell? ⟨w.heap.size, 5, none⟩ = some (.int .i64 de) := (H.blk 0 rfl).cell 5
    have evf5 : (wa).frozen? ⟨w.heap.size, 5, none⟩ = false := (H.blk 0 rfl).frozen 5
    have ev6 : (wa).cell? ⟨w.heap.size, 6, none⟩ = some (.int .i64 fe) := (H.blk 0 rfl).cell 6
    have evf6 : (wa).frozen? ⟨w.heap.size, 6, none⟩ = false := (H.blk 0 rfl).frozen 6
    have ev7 : (wa).cell? ⟨w.heap.size, 7, none⟩ = some (.int .i64 pr) := (H.blk 0 rfl).cell 7
    have evf7 : (wa).frozen? ⟨w.heap.size, 7, none⟩ = false := (H.blk 0 rfl).frozen 7
    have ev8 : (wa).cell? ⟨w.heap.size, 8, none⟩ = some (.int .i64 ch) := (H.blk 0 rfl).cell 8
    have evf8 : (wa).frozen? ⟨w.heap.size, 8, none⟩ = false := (H.blk 0 rfl).frozen 8
    have ev9 : (wa).cell? ⟨w.heap.size, 9, none⟩ = some (.int .i64 un) := (H.blk 0 rfl).cell 9
    have evf9 : (wa).frozen? ⟨w.heap.size, 9, none⟩ = false := (H.blk 0 rfl).frozen 9
    have ev10 : (wa).cell? ⟨w.heap.size, 10, none⟩ = some (.int .i64 tg) := (H.blk 0 rfl).cell 10
    have evf10 : (wa).frozen? ⟨w.heap.size, 10, none⟩ = false := (H.blk 0 rfl).frozen 10
    have ev11 : (wa).cell? ⟨w.heap.size, 11, none⟩ = some (.int .i64 ow) := (H.blk 0 rfl).cell 11
    have evf11 : (wa).frozen? ⟨w.heap.size, 11, none⟩ = false := (H.blk 0 rfl).frozen 11
    have ev12 : (wa).cell? ⟨w.heap.size, 12, none⟩ = some (.int .i64 bp) := (H.blk 0 rfl).cell 12
    have evf12 : (wa).frozen? ⟨w.heap.size, 12, none⟩ = false := (H.blk 0 rfl).frozen 12
    have evlt : w.heap.size < (wa).heap.size := H.lt 0 rfl
    clear hba
    go_wp2
    go_ret
    exact ⟨rfl, H.below⟩
end Go.Proofs.Ythhbnmmhjfgpdaa

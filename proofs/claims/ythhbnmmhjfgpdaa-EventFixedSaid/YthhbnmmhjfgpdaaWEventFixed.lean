/- The walk of the law EventFixed. -/
import Derived.Test.YthhbnmmhjfgpdaaWEventBack
namespace Go.Proofs.Ythhbnmmhjfgpdaa
open Go.RowKit
set_option linter.unusedVariables false
theorem ev_none (W : World) : (Op.equalIn 10000 27 (.agg #[.int .i64 0, .int .i64 0, .int .i64 0, .int .i64 0, .int .i64 0, .int .i64 0, .int .i64 0, .int .i64 0, .int .i64 0, .int .i64 0, .int .i64 0, .int .i64 0, .int .i64 0]) (.agg #[.int .i64 0, .int .i64 0, .int .i64 0, .int .i64 0, .int .i64 0, .int .i64 0, .int .i64 0, .int .i64 0, .int .i64 0, .int .i64 0, .int .i64 0, .int .i64 0, .int .i64 0])).run Try.prog W = .ok true W := ev_refl 0 0 0 0 0 0 0 0 0 0 0 0 0 W
theorem some13 {xs l : List Nat} (h : someN xs 20 = l) (hl : l.length = 13) : xs = l := by
  unfold someN at h
  split at h
  · subst h; simp at hl
  · subst h
    rw [List.length_take] at hl
    rw [List.take_of_length_le (by omega)]
set_option maxRecDepth 100000 in
set_option maxHeartbeats 4000000 in
theorem walk_eventFixed (w : World) (a0 : Value) (w0 : Fit Try.prog w 28 a0) :
    Calls Try.prog 4 #[a0] w fun e w' => e = .returned (.bool true) ∧ Below w.heap.size w w' := by
  obtain ⟨xs, hx⟩ := ws_fit w0
  clear w0
  have H := Mem.init w
  go_enter Try.func4, Try.ntmps4
  go_wp2_with fail
  refine (some_ok a0 xs 20 w hx (by omega)).mono ?_
  rintro e wa ⟨v, rfl, hv, hba⟩
  replace H : Mem (w) [] (wa) [] := Mem.call H hba
  have hx1 := hx.below hba
  clear hba hx
  obtain ⟨A, c, rfl, hc1, hc2, hlt, hr⟩ := hv
  obtain ⟨l, hl⟩ : ∃ l, someN xs 20 = l := ⟨_, rfl⟩
  rw [hl] at hlt hr ⊢
  have hE := ev_none

  by_cases h13 : l.length = 13
  · have hxl := some13 hl h13
    clear hl
    match l, h13 with
    | [x0, x1, x2, x3, x4, x5, x6, x7, x8, x9, x10, x11, x12], _ =>
      have hD := decode_ev (x0 : Int) (x1 : Int) (x2 : Int) (x3 : Int) (x4 : Int) (x5 : Int) (x6 : Int) (x7 : Int) (x8 : Int) (x9 : Int) (x10 : Int) (x11 : Int) (x12 : Int) A c wa (fun z hz => by
        simp only [evL, List.mem_cons, List.not_mem_nil, or_false] at hz
        simp only [List.mem_cons, List.not_mem_nil, or_false, forall_eq_or_imp, forall_eq] at hlt
        rcases hz with rfl | rfl | rfl | rfl | rfl | rfl | rfl | rfl | rfl | rfl | rfl | rfl | rfl <;> omega) hr
      clear hr hlt hc1 hc2
      go_wp2_with fail
      refine hD.mono ?_

      rintro e wb (⟨hok, rfl, hbb⟩ | ⟨hno, rfl, hbb⟩)
      · replace H : Mem (w) [] (wb) [] := Mem.call H hbb
        have hx2 := hx1.below hbb
        clear hbb hD hx1
        have hN := fun W => encode_ok (x0 : Int) (x1 : Int) (x2 : Int) (x3 : Int) (x4 : Int) (x5 : Int) (x6 : Int) (x7 : Int) (x8 : Int) (x9 : Int) (x10 : Int) (x11 : Int) (x12 : Int) W
        replace H : Mem (w) [] _ [.blk (wb.heap.size) 27 #[.int .i64 (x0 : Int), .int .i64 (x1 : Int), .int .i64 (x2 : Int), .int .i64 (x3 : Int), .int .i64 (x4 : Int), .int .i64 (x5 : Int), .int .i64 (x6 : Int), .int .i64 (x7 : Int), .int .i64 (x8 : Int), .int .i64 (x9 : Int), .int .i64 (x10 : Int), .int .i64 (x11 : Int), .int .i64 (x12 : Int)]] := Mem.alloc H (wb.heap.size) (by first | (simp; done) | (simp; omega)) #[.int .i64 (x0 : Int), .int .i64 (x1 : Int), .int .i64 (x2 : Int), .int .i64 (x3 : Int), .int .i64 (x4 : Int), .int .i64 (x5 : Int), .int .i64 (x6 : Int), .int .i64 (x7 : Int), .int .i64 (x8 : Int), .int .i64 (x9 : Int), .int .i64 (x10 : Int), .int .i64 (x11 : Int), .int .i64 (x12 : Int)] 27
        have bk0 : ((wb).alloc (.cells #[.int .i64 (x0 : Int), .int .i64 (x1 : Int), .int .i64 (x2 : Int), .int .i64 (x3 : Int), .int .i64 (x4 : Int), .int .i64 (x5 : Int), .int .i64 (x6 : Int), .int .i64 (x7 : Int), .int .i64 (x8 : Int), .int .i64 (x9 : Int), .int .i64 (x10 : Int), .int .i64 (x11 : Int), .int .i64 (x12 : Int)] 27)).cell? ⟨wb.heap.size, 0, none⟩ = some (.int .i64 (x0 : Int)) := (H.blk 0 rfl).cell 0
        have bkf0 : ((wb).alloc (.cells #[.int .i64 (x0 : Int), .int .i64 (x1 : Int), .int .i64 (x2 : Int), .int .i64 (x3 : Int), .int .i64 (x4 : Int), .int .i64 (x5 : Int), .int .i64 (x6 : Int), .int .i64 (x7 : Int), .int .i64 (x8 : Int), .int .i64 (x9 : Int), .int .i64 (x10 : Int), .int .i64 (x11 : Int), .int .i64 (x12 : Int)] 27)).frozen? ⟨wb.heap.size, 0, none⟩ = false := (H.blk 0 rfl).frozen 0
        have bk1 : ((wb).alloc (.cells #[.int .i64 (x0 : Int), .int .i64 (x1 : Int), .int .i64 (x2 : Int), .int .i64 (x3 : Int), .int .i64 (x4 : Int), .int .i64 (x5 : Int), .int .i64 (x6 : Int), .int .i64 (x7 : Int), .int .i64 (x8 : Int), .int .i64 (x9 : Int), .int .i64 (x10 : Int), .int .i64 (x11 : Int), .int .i64 (x12 : Int)] 27)).cell? ⟨wb.heap.size, 1, none⟩ = some (.int .i64 (x1 : Int)) := (H.blk 0 rfl).cell 1
        have bkf1 : ((wb).alloc (.cells #[.int .i64 (x0 : Int), .int .i64 (x1 : Int), .int .i64 (x2 : Int), .int .i64 (x3 : Int), .int .i64 (x4 : Int), .int .i64 (x5 : Int), .int .i64 (x6 : Int), .int .i64 (x7 : Int), .int .i64 (x8 : Int), .int .i64 (x9 : Int), .int .i64 (x10 : Int), .int .i64 (x11 : Int), .int .i64 (x12 : Int)] 27)).frozen? ⟨wb.heap.size, 1, none⟩ = false := (H.blk 0 rfl).frozen 1
        have bk2 : ((wb).alloc (.cells #[.int .i64 (x0 : Int), .int .i64 (x1 : Int), .int .i64 (x2 : Int), .int .i64 (x3 : Int), .int .i64 (x4 : Int), .int .i64 (x5 : Int), .int .i64 (x6 : Int), .int .i64 (x7 : Int), .int .i64 (x8 : Int), .int .i64 (x9 : Int), .int .i64 (x10 : Int), .int .i64 (x11 : Int), .int .i64 (x12 : Int)] 27)).cell? ⟨wb.heap.size, 2, none⟩ = some (.int .i64 (x2 : Int)) := (H.blk 0 rfl).cell 2
        have bkf2 : ((wb).alloc (.cells #[.int .i64 (x0 : Int), .int .i64 (x1 : Int), .int .i64 (x2 : Int), .int .i64 (x3 : Int), .int .i64 (x4 : Int), .int .i64 (x5 : Int), .int .i64 (x6 : Int), .int .i64 (x7 : Int), .int .i64 (x8 : Int), .int .i64 (x9 : Int), .int .i64 (x10 : Int), .int .i64 (x11 : Int), .int .i64 (x12 : Int)] 27)).frozen? ⟨wb.heap.size, 2, none⟩ = false := (H.blk 0 rfl).frozen 2
        have bk3 : ((wb).alloc (.cells #[.int .i64 (x0 : Int), .int .i64 (x1 : Int), .int .i64 (x2 : Int), .int .i64 (x3 : Int), .int .i64 (x4 : Int), .int .i64 (x5 : Int), .int .i64 (x6 : Int), .int .i64 (x7 : Int), .int .i64 (x8 : Int), .int .i64 (x9 : Int), .int .i64 (x10 : Int), .int .i64 (x11 : Int), .int .i64 (x12 : Int)] 27)).cell? ⟨wb.heap.size, 3, none⟩ = some (.int .i64 (x3 : Int)) := (H.blk 0 rfl).cell 3
        have bkf3 : ((wb).alloc (.cells #[.int .i64 (x0 : Int), .int .i64 (x1 : Int), .int .i64 (x2 : Int), .int .i64 (x3 : Int), .int .i64 (x4 : Int), .int .i64 (x5 : Int), .int .i64 (x6 : Int), .int .i64 (x7 : Int), .int .i64 (x8 : Int), .int .i64 (x9 : Int), .int .i64 (x10 : Int), .int .i64 (x11 : Int), .int .i64 (x12 : Int)] 27)).frozen? ⟨wb.heap.size, 3, none⟩ = false := (H.blk 0 rfl).frozen 3
        have bk4 : ((wb).alloc (.cells #[.int .i64 (x0 : Int), .int .i64 (x1 : Int), .int .i64 (x2 : Int), .int .i64 (x3 : Int), .int .i64 (x4 : Int), .int .i64 (x5 : Int), .int .i64 (x6 : Int), .int .i64 (x7 : Int), .int .i64 (x8 : Int), .int .i64 (x9 : Int), .int .i64 (x10 : Int), .int .i64 (x11 : Int), .int .i64 (x12 : Int)] 27)).cell? ⟨wb.heap.size, 4, none⟩ = some (.int .i64 (x4 : Int)) := (H.blk 0 rfl).cell 4
        have bkf4 : ((wb).alloc (.cells #[.int .i64 (x0 : Int), .int .i64 (x1 : Int), .int .i64 (x2 : Int), .int .i64 (x3 : Int), .int .i64 (x4 : Int), .int .i64 (x5 : Int), .int .i64 (x6 : Int), .int .i64 (x7 : Int), .int .i64 (x8 : Int), .int .i64 (x9 : Int), .int .i64 (x10 : Int), .int .i64 (x11 : Int), .int .i64 (x12 : Int)] 27)).frozen? ⟨wb.heap.size, 4, none⟩ = false := (H.blk 0 rfl).frozen 4
        have bk5 : ((wb).alloc (.cells #[.int .i64 (x0 : Int), .int .i64 (x1 : Int), .int .i64 (x2 : Int), .int .i64 (x3 : Int), .int .i64 (x4 : Int), .int .i64 (x5 : Int), .int .i64 (x6 : Int), .int .i64 (x7 : Int), .int .i64 (x8 : Int), .int .i64 (x9 : Int), .int .i64 (x10 : Int), .int .i64 (x11 : Int), .int .i64 (x12 : Int)] 27)).cell? ⟨wb.heap.size, 5, none⟩ = some (.int .i64 (x5 : Int)) := (H.blk 0 rfl).cell 5
        have bkf5 : ((wb).alloc (.cells #[.int .i64 (x0 : Int), .int .i64 (x1 : Int), .int .i64 (x2 : Int), .int .i64 (x3 : Int), .int .i64 (x4 : Int), .int .i64 (x5 : Int), .int .i64 (x6 : Int), .int .i64 (x7 : Int), .int .i64 (x8 : Int), .int .i64 (x9 : Int), .int .i64 (x10 : Int), .int .i64 (x11 : Int), .int .i64 (x12 : Int)] 27)).frozen? ⟨wb.heap.size, 5, none⟩ = false := (H.blk 0 rfl).frozen 5
        have bk6 : ((wb).alloc (.cells #[.int .i64 (x0 : Int), .int .i64 (x1 : Int), .int .i64 (x2 : Int), .int .i64 (x3 : Int), .int .i64 (x4 : Int), .int .i64 (x5 : Int), .int .i64 (x6 : Int), .int .i64 (x7 : Int), .int .i64 (x8 : Int), .int .i64 (x9 : Int), .int .i64 (x10 : Int), .int .i64 (x11 : Int), .int .i64 (x12 : Int)] 27)).cell? ⟨wb.heap.size, 6, none⟩ = some (.int .i64 (x6 : Int)) := (H.blk 0 rfl).cell 6
        have bkf6 : ((wb).alloc (.cells #[.int .i64 (x0 : Int), .int .i64 (x1 : Int), .int .i64 (x2 : Int), .int .i64 (x3 : Int), .int .i64 (x4 : Int), .int .i64 (x5 : Int), .int .i64 (x6 : Int), .int .i64 (x7 : Int), .int .i64 (x8 : Int), .int .i64 (x9 : Int), .int .i64 (x10 : Int), .int .i64 (x11 : Int), .int .i64 (x12 : Int)] 27)).frozen? ⟨wb.heap.size, 6, none⟩ = false := (H.blk 0 rfl).frozen 6
        have bk7 : ((wb).alloc (.cells #[.int .i64 (x0 : Int), .int .i64 (x1 : Int), .int .i64 (x2 : Int), .int .i64 (x3 : Int), .int .i64 (x4 : Int), .int .i64 (x5 : Int), .int .i64 (x6 : Int), .int .i64 (x7 : Int), .int .i64 (x8 : Int), .int .i64 (x9 : Int), .int .i64 (x10 : Int), .int .i64 (x11 : Int), .int .i64 (x12 : Int)] 27)).cell? ⟨wb.heap.size, 7, none⟩ = some (.int .i64 (x7 : Int)) := (H.blk 0 rfl).cell 7
        have bkf7 : ((wb).alloc (.cells #[.int .i64 (x0 : Int), .int .i64 (x1 : Int), .int .i64 (x2 : Int), .int .i64 (x3 : Int), .int .i64 (x4 : Int), .int .i64 (x5 : Int), .int .i64 (x6 : Int), .int .i64 (x7 : Int), .int .i64 (x8 : Int), .int .i64 (x9 : Int), .int .i64 (x10 : Int), .int .i64 (x11 : Int), .int .i64 (x12 : Int)] 27)).frozen? ⟨wb.heap.size, 7, none⟩ = false := (H.blk 0 rfl).frozen 7
        have bk8 : ((wb).alloc (.cells #[.int .i64 (x0 : Int), .int .i64 (x1 : Int), .int .i64 (x2 : Int), .int .i64 (x3 : Int), .int .i64 (x4 : Int), .int .i64 (x5 : Int), .int .i64 (x6 : Int), .int .i64 (x7 : Int), .int .i64 (x8 : Int), .int .i64 (x9 : Int), .int .i64 (x10 : Int), .int .i64 (x11 : Int), .int .i64 (x12 : Int)] 27)).cell? ⟨wb.heap.size, 8, none⟩ = some (.int .i64 (x8 : Int)) := (H.blk 0 rfl).cell 8
        have bkf8 : ((wb).alloc (.cells #[.int .i64 (x0 : Int), .int .i64 (x1 : Int), .int .i64 (x2 : Int), .int .i64 (x3 : Int), .int .i64 (x4 : Int), .int .i64 (x5 : Int), .int .i64 (x6 : Int), .int .i64 (x7 : Int), .int .i64 (x8 : Int), .int .i64 (x9 : Int), .int .i64 (x10 : Int), .int .i64 (x11 : Int), .int .i64 (x12 : Int)] 27)).frozen? ⟨wb.heap.size, 8, none⟩ = false := (H.blk 0 rfl).frozen 8
        have bk9 : ((wb).alloc (.cells #[.int .i64 (x0 : Int), .int .i64 (x1 : Int), .int .i64 (x2 : Int), .int .i64 (x3 : Int), .int .i64 (x4 : Int), .int .i64 (x5 : Int), .int .i64 (x6 : Int), .int .i64 (x7 : Int), .int .i64 (x8 : Int), .int .i64 (x9 : Int), .int .i64 (x10 : Int), .int .i64 (x11 : Int), .int .i64 (x12 : Int)] 27)).cell? ⟨wb.heap.size, 9, none⟩ = some (.int .i64 (x9 : Int)) := (H.blk 0 rfl).cell 9
        have bkf9 : ((wb).alloc (.cells #[.int .i64 (x0 : Int), .int .i64 (x1 : Int), .int .i64 (x2 : Int), .int .i64 (x3 : Int), .int .i64 (x4 : Int), .int .i64 (x5 : Int), .int .i64 (x6 : Int), .int .i64 (x7 : Int), .int .i64 (x8 : Int), .int .i64 (x9 : Int), .int .i64 (x10 : Int), .int .i64 (x11 : Int), .int .i64 (x12 : Int)] 27)).frozen? ⟨wb.heap.size, 9, none⟩ = false := (H.blk 0 rfl).frozen 9
        have bk10 : ((wb).alloc (.cells #[.int .i64 (x0 : Int), .int .i64 (x1 : Int), .int .i64 (x2 : Int), .int .i64 (x3 : Int), .int .i64 (x4 : Int), .int .i64 (x5 : Int), .int .i64 (x6 : Int), .int .i64 (x7 : Int), .int .i64 (x8 : Int), .int .i64 (x9 : Int), .int .i64 (x10 : Int), .int .i64 (x11 : Int), .int .i64 (x12 : Int)] 27)).cell? ⟨wb.heap.size, 10, none⟩ = some (.int .i64 (x10 : Int)) := (H.blk 0 rfl).cell 10
        have bkf10 : ((wb).alloc (.cells #[.int .i64 (x0 : Int), .int .i64 (x1 : Int), .int .i64 (x2 : Int), .int .i64 (x3 : Int), .int .i64 (x4 : Int), .int .i64 (x5 : Int), .int .i64 (x6 : Int), .int .i64 (x7 : Int), .int .i64 (x8 : Int), .int .i64 (x9 : Int), .int .i64 (x10 : Int), .int .i64 (x11 : Int), .int .i64 (x12 : Int)] 27)).frozen? ⟨wb.heap.size, 10, none⟩ = false := (H.blk 0 rfl).frozen 10
        have bk11 : ((wb).alloc (.cells #[.int .i64 (x0 : Int), .int .i64 (x1 : Int), .int .i64 (x2 : Int), .int .i64 (x3 : Int), .int .i64 (x4 : Int), .int .i64 (x5 : Int), .int .i64 (x6 : Int), .int .i64 (x7 : Int), .int .i64 (x8 : Int), .int .i64 (x9 : Int), .int .i64 (x10 : Int), .int .i64 (x11 : Int), .int .i64 (x12 : Int)] 27)).cell? ⟨wb.heap.size, 11, none⟩ = some (.int .i64 (x11 : Int)) := (H.blk 0 rfl).cell 11
        have bkf11 : ((wb).alloc (.cells #[.int .i64 (x0 : Int), .int .i64 (x1 : Int), .int .i64 (x2 : Int), .int .i64 (x3 : Int), .int .i64 (x4 : Int), .int .i64 (x5 : Int), .int .i64 (x6 : Int), .int .i64 (x7 : Int), .int .i64 (x8 : Int), .int .i64 (x9 : Int), .int .i64 (x10 : Int), .int .i64 (x11 : Int), .int .i64 (x12 : Int)] 27)).frozen? ⟨wb.heap.size, 11, none⟩ = false := (H.blk 0 rfl).frozen 11
        have bk12 : ((wb).alloc (.cells #[.int .i64 (x0 : Int), .int .i64 (x1 : Int), .int .i64 (x2 : Int), .int .i64 (x3 : Int), .int .i64 (x4 : Int), .int .i64 (x5 : Int), .int .i64 (x6 : Int), .int .i64 (x7 : Int), .int .i64 (x8 : Int), .int .i64 (x9 : Int), .int .i64 (x10 : Int), .int .i64 (x11 : Int), .int .i64 (x12 : Int)] 27)).cell? ⟨wb.heap.size, 12, none⟩ = some (.int .i64 (x12 : Int)) := (H.blk 0 rfl).cell 12
        have bkf12 : ((wb).alloc (.cells #[.int .i64 (x0 : Int), .int .i64 (x1 : Int), .int .i64 (x2 : Int), .int .i64 (x3 : Int), .int .i64 (x4 : Int), .int .i64 (x5 : Int), .int .i64 (x6 : Int), .int .i64 (x7 : Int), .int .i64 (x8 : Int), .int .i64 (x9 : Int), .int .i64 (x10 : Int), .int .i64 (x11 : Int), .int .i64 (x12 : Int)] 27)).frozen? ⟨wb.heap.size, 12, none⟩ = false := (H.blk 0 rfl).frozen 12
        have bklt : wb.heap.size < ((wb).alloc (.cells #[.int .i64 (x0 : Int), .int .i64 (x1 : Int), .int .i64 (x2 : Int), .int .i64 (x3 : Int), .int .i64 (x4 : Int), .int .i64 (x5 : Int), .int .i64 (x6 : Int), .int .i64 (x7 : Int), .int .i64 (x8 : Int), .int .i64 (x9 : Int), .int .i64 (x10 : Int), .int .i64 (x11 : Int), .int .i64 (x12 : Int)] 27)).heap.size := H.lt 0 rfl
        have hx3 := hx2.below (below_a1 wb (.cells #[.int .i64 (x0 : Int), .int .i64 (x1 : Int), .int .i64 (x2 : Int), .int .i64 (x3 : Int), .int .i64 (x4 : Int), .int .i64 (x5 : Int), .int .i64 (x6 : Int), .int .i64 (x7 : Int), .int .i64 (x8 : Int), .int .i64 (x9 : Int), .int .i64 (x10 : Int), .int .i64 (x11 : Int), .int .i64 (x12 : Int)] 27))
        clear hx2
        go_wp2_with fail
        refine (hN _).mono ?_
        rintro e wc (⟨_, A2, c2, rfl, hown, hbc⟩ | ⟨hno, _⟩)
        · replace H : Mem (w) [] (wc) [.blk (wb.heap.size) 27 #[.int .i64 (x0 : Int), .int .i64 (x1 : Int), .int .i64 (x2 : Int), .int .i64 (x3 : Int), .int .i64 (x4 : Int), .int .i64 (x5 : Int), .int .i64 (x6 : Int), .int .i64 (x7 : Int), .int .i64 (x8 : Int), .int .i64 (x9 : Int), .int .i64 (x10 : Int), .int .i64 (x11 : Int), .int .i64 (x12 : Int)]] := Mem.call H hbc
          have hx4 := hx3.below hbc
          clear hx3 hbc hN
          have hlt4 : ∀ x ∈ [x0, x1, x2, x3, x4, x5, x6, x7, x8, x9, x10, x11, x12], x < 4294967296 := by
            obtain ⟨_, _, _, _, _, h, _⟩ := hx4
            rw [hxl] at h
            exact h
          have hv4 := isws_own (xs := [x0, x1, x2, x3, x4, x5, x6, x7, x8, x9, x10, x11, x12]) rfl hlt4 hown
          have hS := same_ok _ _ _ _ wc hv4 hx4
          rw [decide_eq_true hxl.symm] at hS
          clear hv4 hx4 hlt4 hown
          go_wp2_with fail
          refine hS.mono ?_
          rintro e wd ⟨rfl, hbd⟩
          replace H : Mem (w) [] (wd) [.blk (wb.heap.size) 27 #[.int .i64 (x0 : Int), .int .i64 (x1 : Int), .int .i64 (x2 : Int), .int .i64 (x3 : Int), .int .i64 (x4 : Int), .int .i64 (x5 : Int), .int .i64 (x6 : Int), .int .i64 (x7 : Int), .int .i64 (x8 : Int), .int .i64 (x9 : Int), .int .i64 (x10 : Int), .int .i64 (x11 : Int), .int .i64 (x12 : Int)]] := Mem.call H hbd
          go_wp2
          go_ret
          exact ⟨rfl, H.below⟩
        · exact absurd hok hno
      · skip
        clear hno
        replace H : Mem (w) [] (wb) [] := Mem.call H hbb
        clear hbb hD
        replace H : Mem (w) [] _ [.blk (wb.heap.size) 27 #[.int .i64 0, .int .i64 0, .int .i64 0, .int .i64 0, .int .i64 0, .int .i64 0, .int .i64 0, .int .i64 0, .int .i64 0, .int .i64 0, .int .i64 0, .int .i64 0, .int .i64 0]] := Mem.alloc H (wb.heap.size) (by first | (simp; done) | (simp; omega)) #[.int .i64 0, .int .i64 0, .int .i64 0, .int .i64 0, .int .i64 0, .int .i64 0, .int .i64 0, .int .i64 0, .int .i64 0, .int .i64 0, .int .i64 0, .int .i64 0, .int .i64 0] 27
        have bk0 : ((wb).alloc (.cells #[.int .i64 0, .int .i64 0, .int .i64 0, .int .i64 0, .int .i64 0, .int .i64 0, .int .i64 0, .int .i64 0, .int .i64 0, .int .i64 0, .int .i64 0, .int .i64 0, .int .i64 0] 27)).cell? ⟨wb.heap.size, 0, none⟩ = some (.int .i64 0) := (H.blk 0 rfl).cell 0
        have bkf0 : ((wb).alloc (.cells #[.int .i64 0, .int .i64 0, .int .i64 0, .int .i64 0, .int .i64 0, .int .i64 0, .int .i64 0, .int .i64 0, .int .i64 0, .int .i64 0, .int .i64 0, .int .i64 0, .int .i64 0] 27)).frozen? ⟨wb.heap.size, 0, none⟩ = false := (H.blk 0 rfl).frozen 0
        have bk1 : ((wb).alloc (.cells #[.int .i64 0, .int .i64 0, .int .i64 0, .int .i64 0, .int .i64 0, .int .i64 0, .int .i64 0, .int .i64 0, .int .i64 0, .int .i64 0, .int .i64 0, .int .i64 0, .int .i64 0] 27)).cell? ⟨wb.heap.size, 1, none⟩ = some (.int .i64 0) := (H.blk 0 rfl).cell 1
        have bkf1 : ((wb).alloc (.cells #[.int .i64 0, .int .i64 0, .int .i64 0, .int .i64 0, .int .i64 0, .int .i64 0, .int .i64 0, .int .i64 0, .int .i64 0, .int .i64 0, .int .i64 0, .int .i64 0, .int .i64 0] 27)).frozen? ⟨wb.heap.size, 1, none⟩ = false := (H.blk 0 rfl).frozen 1
        have bk2 : ((wb).alloc (.cells #[.int .i64 0, .int .i64 0, .int .i64 0, .int .i64 0, .int .i64 0, .int .i64 0, .int .i64 0, .int .i64 0, .int .i64 0, .int .i64 0, .int .i64 0, .int .i64 0, .int .i64 0] 27)).cell? ⟨wb.heap.size, 2, none⟩ = some (.int .i64 0) := (H.blk 0 rfl).cell 2
        have bkf2 : ((wb).alloc (.cells #[.int .i64 0, .int .i64 0, .int .i64 0, .int .i64 0, .int .i64 0, .int .i64 0, .int .i64 0, .int .i64 0, .int .i64 0, .int .i64 0, .int .i64 0, .int .i64 0, .int .i64 0] 27)).frozen? ⟨wb.heap.size, 2, none⟩ = false := (H.blk 0 rfl).frozen 2
        have bk3 : ((wb).alloc (.cells #[.int .i64 0, .int .i64 0, .int .i64 0, .int .i64 0, .int .i64 0, .int .i64 0, .int .i64 0, .int .i64 0, .int .i64 0, .int .i64 0, .int .i64 0, .int .i64 0, .int .i64 0] 27)).cell? ⟨wb.heap.size, 3, none⟩ = some (.int .i64 0) := (H.blk 0 rfl).cell 3
        have bkf3 : ((wb).alloc (.cells #[.int .i64 0, .int .i64 0, .int .i64 0, .int .i64 0, .int .i64 0, .int .i64 0, .int .i64 0, .int .i64 0, .int .i64 0, .int .i64 0, .int .i64 0, .int .i64 0, .int .i64 0] 27)).frozen? ⟨wb.heap.size, 3, none⟩ = false := (H.blk 0 rfl).frozen 3
        have bk4 : ((wb).alloc (.cells #[.int .i64 0, .int .i64 0, .int .i64 0, .int .i64 0, .int .i64 0, .int .i64 0, .int .i64 0, .int .i64 0, .int .i64 0, .int .i64 0, .int .i64 0, .int .i64 0, .int .i64 0] 27)).cell? ⟨wb.heap.size, 4, none⟩ = some (.int .i64 0) := (H.blk 0 rfl).cell 4
        have bkf4 : ((wb).alloc (.cells #[.int .i64 0, .int .i64 0, .int .i64 0, .int .i64 0, .int .i64 0, .int .i64 0, .int .i64 0, .int .i64 0, .int .i64 0, .int .i64 0, .int .i64 0, .int .i64 0, .int .i64 0] 27)).frozen? ⟨wb.heap.size, 4, none⟩ = false := (H.blk 0 rfl).frozen 4
        have bk5 : ((wb).alloc (.cells #[.int .i64 0, .int .i64 0, .int .i64 0, .int .i64 0, .int .i64 0, .int .i64 0, .int .i64 0, .int .i64 0, .int .i64 0, .int .i64 0, .int .i64 0, .int .i64 0, .int .i64 0] 27)).cell? ⟨wb.heap.size, 5, none⟩ = some (.int .i64 0) := (H.blk 0 rfl).cell 5
        have bkf5 : ((wb).alloc (.cells #[.int .i64 0, .int .i64 0, .int .i64 0, .int .i64 0, .int .i64 0, .int .i64 0, .int .i64 0, .int .i64 0, .int .i64 0, .int .i64 0, .int .i64 0, .int .i64 0, .int .i64 0] 27)).frozen? ⟨wb.heap.size, 5, none⟩ = false := (H.blk 0 rfl).frozen 5
        have bk6 : ((wb).alloc (.cells #[.int .i64 0, .int .i64 0, .int .i64 0, .int .i64 0, .int .i64 0, .int .i64 0, .int .i64 0, .int .i64 0, .int .i64 0, .int .i64 0, .int .i64 0, .int .i64 0, .int .i64 0] 27)).cell? ⟨wb.heap.size, 6, none⟩ = some (.int .i64 0) := (H.blk 0 rfl).cell 6
        have bkf6 : ((wb).alloc (.cells #[.int .i64 0, .int .i64 0, .int .i64 0, .int .i64 0, .int .i64 0, .int .i64 0, .int .i64 0, .int .i64 0, .int .i64 0, .int .i64 0, .int .i64 0, .int .i64 0, .int .i64 0] 27)).frozen? ⟨wb.heap.size, 6, none⟩ = false := (H.blk 0 rfl).frozen 6
        have bk7 : ((wb).alloc (.cells #[.int .i64 0, .int .i64 0, .int .i64 0, .int .i64 0, .int .i64 0, .int .i64 0, .int .i64 0, .int .i64 0, .int .i64 0, .int .i64 0, .int .i64 0, .int .i64 0, .int .i64 0] 27)).cell? ⟨wb.heap.size, 7, none⟩ = some (.int .i64 0) := (H.blk 0 rfl).cell 7
        have bkf7 : ((wb).alloc (.cells #[.int .i64 0, .int .i64 0, .int .i64 0, .int .i64 0, .int .i64 0, .int .i64 0, .int .i64 0, .int .i64 0, .int .i64 0, .int .i64 0, .int .i64 0, .int .i64 0, .int .i64 0] 27)).frozen? ⟨wb.heap.size, 7, none⟩ = false := (H.blk 0 rfl).frozen 7
        have bk8 : ((wb).alloc (.cells #[.int .i64 0, .int .i64 0, .int .i64 0, .int .i64 0, .int .i64 0, .int .i64 0, .int .i64 0, .int .i64 0, .int .i64 0, .int .i64 0, .int .i64 0, .int .i64 0, .int .i64 0] 27)).cell? ⟨wb.heap.size, 8, none⟩ = some (.int .i64 0) := (H.blk 0 rfl).cell 8
        have bkf8 : ((wb).alloc (.cells #[.int .i64 0, .int .i64 0, .int .i64 0, .int .i64 0, .int .i64 0, .int .i64 0, .int .i64 0, .int .i64 0, .int .i64 0, .int .i64 0, .int .i64 0, .int .i64 0, .int .i64 0] 27)).frozen? ⟨wb.heap.size, 8, none⟩ = false := (H.blk 0 rfl).frozen 8
        have bk9 : ((wb).alloc (.cells #[.int .i64 0, .int .i64 0, .int .i64 0, .int .i64 0, .int .i64 0, .int .i64 0, .int .i64 0, .int .i64 0, .int .i64 0, .int .i64 0, .int .i64 0, .int .i64 0, .int .i64 0] 27)).cell? ⟨wb.heap.size, 9, none⟩ = some (.int .i64 0) := (H.blk 0 rfl).cell 9
        have bkf9 : ((wb).alloc (.cells #[.int .i64 0, .int .i64 0, .int .i64 0, .int .i64 0, .int .i64 0, .int .i64 0, .int .i64 0, .int .i64 0, .int .i64 0, .int .i64 0, .int .i64 0, .int .i64 0, .int .i64 0] 27)).frozen? ⟨wb.heap.size, 9, none⟩ = false := (H.blk 0 rfl).frozen 9
        have bk10 : ((wb).alloc (.cells #[.int .i64 0, .int .i64 0, .int .i64 0, .int .i64 0, .int .i64 0, .int .i64 0, .int .i64 0, .int .i64 0, .int .i64 0, .int .i64 0, .int .i64 0, .int .i64 0, .int .i64 0] 27)).cell? ⟨wb.heap.size, 10, none⟩ = some (.int .i64 0) := (H.blk 0 rfl).cell 10
        have bkf10 : ((wb).alloc (.cells #[.int .i64 0, .int .i64 0, .int .i64 0, .int .i64 0, .int .i64 0, .int .i64 0, .int .i64 0, .int .i64 0, .int .i64 0, .int .i64 0, .int .i64 0, .int .i64 0, .int .i64 0] 27)).frozen? ⟨wb.heap.size, 10, none⟩ = false := (H.blk 0 rfl).frozen 10
        have bk11 : ((wb).alloc (.cells #[.int .i64 0, .int .i64 0, .int .i64 0, .int .i64 0, .int .i64 0, .int .i64 0, .int .i64 0, .int .i64 0, .int .i64 0, .int .i64 0, .int .i64 0, .int .i64 0, .int .i64 0] 27)).cell? ⟨wb.heap.size, 11, none⟩ = some (.int .i64 0) := (H.blk 0 rfl).cell 11
        have bkf11 : ((wb).alloc (.cells #[.int .i64 0, .int .i64 0, .int .i64 0, .int .i64 0, .int .i64 0, .int .i64 0, .int .i64 0, .int .i64 0, .int .i64 0, .int .i64 0, .int .i64 0, .int .i64 0, .int .i64 0] 27)).frozen? ⟨wb.heap.size, 11, none⟩ = false := (H.blk 0 rfl).frozen 11
        have bk12 : ((wb).alloc (.cells #[.int .i64 0, .int .i64 0, .int .i64 0, .int .i64 0, .int .i64 0, .int .i64 0, .int .i64 0, .int .i64 0, .int .i64 0, .int .i64 0, .int .i64 0, .int .i64 0, .int .i64 0] 27)).cell? ⟨wb.heap.size, 12, none⟩ = some (.int .i64 0) := (H.blk 0 rfl).cell 12
        have bkf12 : ((wb).alloc (.cells #[.int .i64 0, .int .i64 0, .int .i64 0, .int .i64 0, .int .i64 0, .int .i64 0, .int .i64 0, .int .i64 0, .int .i64 0, .int .i64 0, .int .i64 0, .int .i64 0, .int .i64 0] 27)).frozen? ⟨wb.heap.size, 12, none⟩ = false := (H.blk 0 rfl).frozen 12
        have bklt : wb.heap.size < ((wb).alloc (.cells #[.int .i64 0, .int .i64 0, .int .i64 0, .int .i64 0, .int .i64 0, .int .i64 0, .int .i64 0, .int .i64 0, .int .i64 0, .int .i64 0, .int .i64 0, .int .i64 0, .int .i64 0] 27)).heap.size := H.lt 0 rfl
        go_wp2
        go_ret
        exact ⟨rfl, H.below⟩
  · skip
    have hD := decode_len A l.length c wa h13
    clear hr hlt
    go_wp2_with fail
    refine hD.mono ?_
    rintro e wb ⟨rfl, hbb⟩
    replace H : Mem (w) [] (wb) [] := Mem.call H hbb
    clear hbb hD
    replace H : Mem (w) [] _ [.blk (wb.heap.size) 27 #[.int .i64 0, .int .i64 0, .int .i64 0, .int .i64 0, .int .i64 0, .int .i64 0, .int .i64 0, .int .i64 0, .int .i64 0, .int .i64 0, .int .i64 0, .int .i64 0, .int .i64 0]] := Mem.alloc H (wb.heap.size) (by first | (simp; done) | (simp; omega)) #[.int .i64 0, .int .i64 0, .int .i64 0, .int .i64 0, .int .i64 0, .int .i64 0, .int .i64 0, .int .i64 0, .int .i64 0, .int .i64 0, .int .i64 0, .int .i64 0, .int .i64 0] 27
    have bk0 : ((wb).alloc (.cells #[.int .i64 0, .int .i64 0, .int .i64 0, .int .i64 0, .int .i64 0, .int .i64 0, .int .i64 0, .int .i64 0, .int .i64 0, .int .i64 0, .int .i64 0, .int .i64 0, .int .i64 0] 27)).cell? ⟨wb.heap.size, 0, none⟩ = some (.int .i64 0) := (H.blk 0 rfl).cell 0
    have bkf0 : ((wb).alloc (.cells #[.int .i64 0, .int .i64 0, .int .i64 0, .int .i64 0, .int .i64 0, .int .i64 0, .int .i64 0, .int .i64 0, .int .i64 0, .int .i64 0, .int .i64 0, .int .i64 0, .int .i64 0] 27)).frozen? ⟨wb.heap.size, 0, none⟩ = false := (H.blk 0 rfl).frozen 0
    have bk1 : ((wb).alloc (.cells #[.int .i64 0, .int .i64 0, .int .i64 0, .int .i64 0, .int .i64 0, .int .i64 0, .int .i64 0, .int .i64 0, .int .i64 0, .int .i64 0, .int .i64 0, .int .i64 0, .int .i64 0] 27)).cell? ⟨wb.heap.size, 1, none⟩ = some (.int .i64 0) := (H.blk 0 rfl).cell 1
    have bkf1 : ((wb).alloc (.cells #[.int .i64 0, .int .i64 0, .int .i64 0, .int .i64 0, .int .i64 0, .int .i64 0, .int .i64 0, .int .i64 0, .int .i64 0, .int .i64 0, .int .i64 0, .int .i64 0, .int .i64 0] 27)).frozen? ⟨wb.heap.size, 1, none⟩ = false := (H.blk 0 rfl).frozen 1
    have bk2 : ((wb).alloc (.cells #[.int .i64 0, .int .i64 0, .int .i64 0, .int .i64 0, .int .i64 0, .int .i64 0, .int .i64 0, .int .i64 0, .int .i64 0, .int .i64 0, .int .i64 0, .int .i64 0, .int .i64 0] 27)).cell? ⟨wb.heap.size, 2, none⟩ = some (.int .i64 0) := (H.blk 0 rfl).cell 2
    have bkf2 : ((wb).alloc (.cells #[.int .i64 0, .int .i64 0, .int .i64 0, .int .i64 0, .int .i64 0, .int .i64 0, .int .i64 0, .int .i64 0, .int .i64 0, .int .i64 0, .int .i64 0, .int .i64 0, .int .i64 0] 27)).frozen? ⟨wb.heap.size, 2, none⟩ = false := (H.blk 0 rfl).frozen 2
    have bk3 : ((wb).alloc (.cells #[.int .i64 0, .int .i64 0, .int .i64 0, .int .i64 0, .int .i64 0, .int .i64 0, .int .i64 0, .int .i64 0, .int .i64 0, .int .i64 0, .int .i64 0, .int .i64 0, .int .i64 0] 27)).cell? ⟨wb.heap.size, 3, none⟩ = some (.int .i64 0) := (H.blk 0 rfl).cell 3
    have bkf3 : ((wb).alloc (.cells #[.int .i64 0, .int .i64 0, .int .i64 0, .int .i64 0, .int .i64 0, .int .i64 0, .int .i64 0, .int .i64 0, .int .i64 0, .int .i64 0, .int .i64 0, .int .i64 0, .int .i64 0] 27)).frozen? ⟨wb.heap.size, 3, none⟩ = false := (H.blk 0 rfl).frozen 3
    have bk4 : ((wb).alloc (.cells #[.int .i64 0, .int .i64 0, .int .i64 0, .int .i64 0, .int .i64 0, .int .i64 0, .int .i64 0, .int .i64 0, .int .i64 0, .int .i64 0, .int .i64 0, .int .i64 0, .int .i64 0] 27)).cell? ⟨wb.heap.size, 4, none⟩ = some (.int .i64 0) := (H.blk 0 rfl).cell 4
    have bkf4 : ((wb).alloc (.cells #[.int .i64 0, .int .i64 0, .int .i64 0, .int .i64 0, .int .i64 0, .int .i64 0, .int .i64 0, .int .i64 0, .int .i64 0, .int .i64 0, .int .i64 0, .int .i64 0, .int .i64 0] 27)).frozen? ⟨wb.heap.size, 4, none⟩ = false := (H.blk 0 rfl).frozen 4
    have bk5 : ((wb).alloc (.cells #[.int .i64 0, .int .i64 0, .int .i64 0, .int .i64 0, .int .i64 0, .int .i64 0, .int .i64 0, .int .i64 0, .int .i64 0, .int .i64 0, .int .i64 0, .int .i64 0, .int .i64 0] 27)).cell? ⟨wb.heap.size, 5, none⟩ = some (.int .i64 0) := (H.blk 0 rfl).cell 5
    have bkf5 : ((wb).alloc (.cells #[.int .i64 0, .int .i64 0, .int .i64 0, .int .i64 0, .int .i64 0, .int .i64 0, .int .i64 0, .int .i64 0, .int .i64 0, .int .i64 0, .int .i64 0, .int .i64 0, .int .i64 0] 27)).frozen? ⟨wb.heap.size, 5, none⟩ = false := (H.blk 0 rfl).frozen 5
    have bk6 : ((wb).alloc (.cells #[.int .i64 0, .int .i64 0, .int .i64 0, .int .i64 0, .int .i64 0, .int .i64 0, .int .i64 0, .int .i64 0, .int .i64 0, .int .i64 0, .int .i64 0, .int .i64 0, .int .i64 0] 27)).cell? ⟨wb.heap.size, 6, none⟩ = some (.int .i64 0) := (H.blk 0 rfl).cell 6
    have bkf6 : ((wb).alloc (.cells #[.int .i64 0, .int .i64 0, .int .i64 0, .int .i64 0, .int .i64 0, .int .i64 0, .int .i64 0, .int .i64 0, .int .i64 0, .int .i64 0, .int .i64 0, .int .i64 0, .int .i64 0] 27)).frozen? ⟨wb.heap.size, 6, none⟩ = false := (H.blk 0 rfl).frozen 6
    have bk7 : ((wb).alloc (.cells #[.int .i64 0, .int .i64 0, .int .i64 0, .int .i64 0, .int .i64 0, .int .i64 0, .int .i64 0, .int .i64 0, .int .i64 0, .int .i64 0, .int .i64 0, .int .i64 0, .int .i64 0] 27)).cell? ⟨wb.heap.size, 7, none⟩ = some (.int .i64 0) := (H.blk 0 rfl).cell 7
    have bkf7 : ((wb).alloc (.cells #[.int .i64 0, .int .i64 0, .int .i64 0, .int .i64 0, .int .i64 0, .int .i64 0, .int .i64 0, .int .i64 0, .int .i64 0, .int .i64 0, .int .i64 0, .int .i64 0, .int .i64 0] 27)).frozen? ⟨wb.heap.size, 7, none⟩ = false := (H.blk 0 rfl).frozen 7
    have bk8 : ((wb).alloc (.cells #[.int .i64 0, .int .i64 0, .int .i64 0, .int .i64 0, .int .i64 0, .int .i64 0, .int .i64 0, .int .i64 0, .int .i64 0, .int .i64 0, .int .i64 0, .int .i64 0, .int .i64 0] 27)).cell? ⟨wb.heap.size, 8, none⟩ = some (.int .i64 0) := (H.blk 0 rfl).cell 8
    have bkf8 : ((wb).alloc (.cells #[.int .i64 0, .int .i64 0, .int .i64 0, .int .i64 0, .int .i64 0, .int .i64 0, .int .i64 0, .int .i64 0, .int .i64 0, .int .i64 0, .int .i64 0, .int .i64 0, .int .i64 0] 27)).frozen? ⟨wb.heap.size, 8, none⟩ = false := (H.blk 0 rfl).frozen 8
    have bk9 : ((wb).alloc (.cells #[.int .i64 0, .int .i64 0, .int .i64 0, .int .i64 0, .int .i64 0, .int .i64 0, .int .i64 0, .int .i64 0, .int .i64 0, .int .i64 0, .int .i64 0, .int .i64 0, .int .i64 0] 27)).cell? ⟨wb.heap.size, 9, none⟩ = some (.int .i64 0) := (H.blk 0 rfl).cell 9
    have bkf9 : ((wb).alloc (.cells #[.int .i64 0, .int .i64 0, .int .i64 0, .int .i64 0, .int .i64 0, .int .i64 0, .int .i64 0, .int .i64 0, .int .i64 0, .int .i64 0, .int .i64 0, .int .i64 0, .int .i64 0] 27)).frozen? ⟨wb.heap.size, 9, none⟩ = false := (H.blk 0 rfl).frozen 9
    have bk10 : ((wb).alloc (.cells #[.int .i64 0, .int .i64 0, .int .i64 0, .int .i64 0, .int .i64 0, .int .i64 0, .int .i64 0, .int .i64 0, .int .i64 0, .int .i64 0, .int .i64 0, .int .i64 0, .int .i64 0] 27)).cell? ⟨wb.heap.size, 10, none⟩ = some (.int .i64 0) := (H.blk 0 rfl).cell 10
    have bkf10 : ((wb).alloc (.cells #[.int .i64 0, .int .i64 0, .int .i64 0, .int .i64 0, .int .i64 0, .int .i64 0, .int .i64 0, .int .i64 0, .int .i64 0, .int .i64 0, .int .i64 0, .int .i64 0, .int .i64 0] 27)).frozen? ⟨wb.heap.size, 10, none⟩ = false := (H.blk 0 rfl).frozen 10
    have bk11 : ((wb).alloc (.cells #[.int .i64 0, .int .i64 0, .int .i64 0, .int .i64 0, .int .i64 0, .int .i64 0, .int .i64 0, .int .i64 0, .int .i64 0, .int .i64 0, .int .i64 0, .int .i64 0, .int .i64 0] 27)).cell? ⟨wb.heap.size, 11, none⟩ = some (.int .i64 0) := (H.blk 0 rfl).cell 11
    have bkf11 : ((wb).alloc (.cells #[.int .i64 0, .int .i64 0, .int .i64 0, .int .i64 0, .int .i64 0, .int .i64 0, .int .i64 0, .int .i64 0, .int .i64 0, .int .i64 0, .int .i64 0, .int .i64 0, .int .i64 0] 27)).frozen? ⟨wb.heap.size, 11, none⟩ = false := (H.blk 0 rfl).frozen 11
    have bk12 : ((wb).alloc (.cells #[.int .i64 0, .int .i64 0, .int .i64 0, .int .i64 0, .int .i64 0, .int .i64 0, .int .i64 0, .int .i64 0, .int .i64 0, .int .i64 0, .int .i64 0, .int .i64 0, .int .i64 0] 27)).cell? ⟨wb.heap.size, 12, none⟩ = some (.int .i64 0) := (H.blk 0 rfl).cell 12
    have bkf12 : ((wb).alloc (.cells #[.int .i64 0, .int .i64 0, .int .i64 0, .int .i64 0, .int .i64 0, .int .i64 0, .int .i64 0, .int .i64 0, .int .i64 0, .int .i64 0, .int .i64 0, .int .i64 0, .int .i64 0] 27)).frozen? ⟨wb.heap.size, 12, none⟩ = false := (H.blk 0 rfl).frozen 12
    have bklt : wb.heap.size < ((wb).alloc (.cells #[.int .i64 0, .int .i64 0, .int .i64 0, .int .i64 0, .int .i64 0, .int .i64 0, .int .i64 0, .int .i64 0, .int .i64 0, .int .i64 0, .int .i64 0, .int .i64 0, .int .i64 0] 27)).heap.size := H.lt 0 rfl
    go_wp2
    go_ret
    exact ⟨rfl, H.below⟩
end Go.Proofs.Ythhbnmmhjfgpdaa

/- book.Decode. -/
import Derived.Test.YthhbnmmhjfgpdaaEnc
namespace Go.Proofs.Ythhbnmmhjfgpdaa
open Go.RowKit
set_option linter.unusedVariables false
/-- The first q numbers are laid. -/
def evAt (q : Nat) (k me mo id te de fe pr ch un tg ow bp : Int) : Array Value := (((evL k me mo id te de fe pr ch un tg ow bp).take q ++ List.replicate (13 - q) 0).map (Value.int .i64)).toArray
theorem ev_at_cell (k me mo id te de fe pr ch un tg ow bp : Int) (q : Nat) (h : q < 13) : (evAt q k me mo id te de fe pr ch un tg ow bp)[q]? = some (.int .i64 0) := by
  rcases lt13 h with rfl | rfl | rfl | rfl | rfl | rfl | rfl | rfl | rfl | rfl | rfl | rfl | rfl <;> rfl
theorem ev_at_set (k me mo id te de fe pr ch un tg ow bp : Int) (q : Nat) (h : q < 13) : (evAt q k me mo id te de fe pr ch un tg ow bp).setIfInBounds q (.int .i64 ((evL k me mo id te de fe pr ch un tg ow bp).getD q 0)) = evAt (q + 1) k me mo id te de fe pr ch un tg ow bp := by
  rcases lt13 h with rfl | rfl | rfl | rfl | rfl | rfl | rfl | rfl | rfl | rfl | rfl | rfl | rfl <;> rfl
theorem ev_at_13 (k me mo id te de fe pr ch un tg ow bp : Int) : evAt 13 k me mo id te de fe pr ch un tg ow bp = #[.int .i64 k, .int .i64 me, .int .i64 mo, .int .i64 id, .int .i64 te, .int .i64 de, .int .i64 fe, .int .i64 pr, .int .i64 ch, .int .i64 un, .int .i64 tg, .int .i64 ow, .int .i64 bp] := rfl
theorem ev_at_0 (k me mo id te de fe pr ch un tg ow bp : Int) : evAt 0 k me mo id te de fe pr ch un tg ow bp = #[.int .i64 0, .int .i64 0, .int .i64 0, .int .i64 0, .int .i64 0, .int .i64 0, .int .i64 0, .int .i64 0, .int .i64 0, .int .i64 0, .int .i64 0, .int .i64 0, .int .i64 0] := rfl
theorem ev_u32 (k me mo id te de fe pr ch un tg ow bp : Int) (q : Nat) (h : q < 13) : ((evL k me mo id te de fe pr ch un tg ow bp).map (Value.int .u32))[q]? = some (.int .u32 ((evL k me mo id te de fe pr ch un tg ow bp).getD q 0)) := by
  rcases lt13 h with rfl | rfl | rfl | rfl | rfl | rfl | rfl | rfl | rfl | rfl | rfl | rfl | rfl <;> rfl
theorem ev_mem (k me mo id te de fe pr ch un tg ow bp : Int) (q : Nat) (h : q < 13) : (evL k me mo id te de fe pr ch un tg ow bp).getD q 0 ∈ evL k me mo id te de fe pr ch un tg ow bp := by
  rcases lt13 h with rfl | rfl | rfl | rfl | rfl | rfl | rfl | rfl | rfl | rfl | rfl | rfl | rfl <;> simp [evL]
/-- No event. -/
def RetNoEv (E : Int) (w : World) (e : Ending) (w' : World) : Prop := e = .returned (.tuple #[.agg #[.int .i64 0, .int .i64 0, .int .i64 0, .int .i64 0, .int .i64 0, .int .i64 0, .int .i64 0, .int .i64 0, .int .i64 0, .int .i64 0, .int .i64 0, .int .i64 0, .int .i64 0], .int .i64 E]) ∧ Below w.heap.size w w'
set_option maxRecDepth 100000 in
set_option maxHeartbeats 2000000 in
theorem decode_len (A : Option Addr) (m c : Nat) (w : World) (hm : ¬ m = 13) : Calls Try.prog 10 #[.slice A m c] w (RetNoEv 1 w) := by
  have hmf := mk_info
  have hmI : ((m : Int) == 13) = false := by simp; omega
  have H := Mem.init w
  obtain ⟨W0, hW0⟩ : ∃ W0, ((w).alloc (.cells #[.int .i64 0, .int .i64 0, .int .i64 0, .int .i64 0, .int .i64 0, .int .i64 0, .int .i64 0, .int .i64 0, .int .i64 0, .int .i64 0, .int .i64 0, .int .i64 0, .int .i64 0] 27)).alloc (.cells #[.int .i64 0] 29) = W0 := ⟨_, rfl⟩
  replace H : Mem (w) [] _ [.blk (w.heap.size) 27 #[.int .i64 0, .int .i64 0, .int .i64 0, .int .i64 0, .int .i64 0, .int .i64 0, .int .i64 0, .int .i64 0, .int .i64 0, .int .i64 0, .int .i64 0, .int .i64 0, .int .i64 0]] := Mem.alloc H (w.heap.size) (by first | (simp; done) | (simp; omega)) #[.int .i64 0, .int .i64 0, .int .i64 0, .int .i64 0, .int .i64 0, .int .i64 0, .int .i64 0, .int .i64 0, .int .i64 0, .int .i64 0, .int .i64 0, .int .i64 0, .int .i64 0] 27
  replace H : Mem (w) [] _ [.blk (w.heap.size) 27 #[.int .i64 0, .int .i64 0, .int .i64 0, .int .i64 0, .int .i64 0, .int .i64 0, .int .i64 0, .int .i64 0, .int .i64 0, .int .i64 0, .int .i64 0, .int .i64 0, .int .i64 0], .blk (w.heap.size + 1) 29 #[.int .i64 0]] := Mem.alloc H (w.heap.size + 1) (by first | (simp; done) | (simp; omega)) #[.int .i64 0] 29
  rw [hW0] at H
  go_enter_defers Try.func10, Try.ntmps10
  go_wp2_with (go_at_call 26; refine (want_no 1 _).mono ?_; rintro e wa ⟨rfl, rfl⟩)
  have hl := dec_catch (i := 1) (j := 0) 1 (by decide) [] (.int .i64 0) (.int .i64 0) (.int .i64 0) (.int .i64 0) (.int .i64 0) (.int .i64 0) (.int .i64 0) (.int .i64 0) (.int .i64 0) (.int .i64 0) (.int .i64 0) (.int .i64 0) (.int .i64 0) H rfl rfl (by decide)
  refine leaves_cons (f := 25) (args := #[.pointer (some ⟨w.heap.size + 1, 0, none⟩), .pointer (some ⟨w.heap.size, 0, none⟩)]) (by simp) (by simp [go_sem]) ?_
  refine hl.mono ?_
  rintro e u' wy ⟨rfl, rfl, HY⟩
  have e0 : wy.cell? ⟨w.heap.size + 1, 0, none⟩ = some (.int .i64 1) := (HY.blk 1 rfl).cell 0
  have y0 : wy.cell? ⟨w.heap.size, 0, none⟩ = some (.int .i64 0) := (HY.blk 0 rfl).cell 0
  have y1 : wy.cell? ⟨w.heap.size, 1, none⟩ = some (.int .i64 0) := (HY.blk 0 rfl).cell 1
  have y2 : wy.cell? ⟨w.heap.size, 2, none⟩ = some (.int .i64 0) := (HY.blk 0 rfl).cell 2
  have y3 : wy.cell? ⟨w.heap.size, 3, none⟩ = some (.int .i64 0) := (HY.blk 0 rfl).cell 3
  have y4 : wy.cell? ⟨w.heap.size, 4, none⟩ = some (.int .i64 0) := (HY.blk 0 rfl).cell 4
  have y5 : wy.cell? ⟨w.heap.size, 5, none⟩ = some (.int .i64 0) := (HY.blk 0 rfl).cell 5
  have y6 : wy.cell? ⟨w.heap.size, 6, none⟩ = some (.int .i64 0) := (HY.blk 0 rfl).cell 6
  have y7 : wy.cell? ⟨w.heap.size, 7, none⟩ = some (.int .i64 0) := (HY.blk 0 rfl).cell 7
  have y8 : wy.cell? ⟨w.heap.size, 8, none⟩ = some (.int .i64 0) := (HY.blk 0 rfl).cell 8
  have y9 : wy.cell? ⟨w.heap.size, 9, none⟩ = some (.int .i64 0) := (HY.blk 0 rfl).cell 9
  have y10 : wy.cell? ⟨w.heap.size, 10, none⟩ = some (.int .i64 0) := (HY.blk 0 rfl).cell 10
  have y11 : wy.cell? ⟨w.heap.size, 11, none⟩ = some (.int .i64 0) := (HY.blk 0 rfl).cell 11
  have y12 : wy.cell? ⟨w.heap.size, 12, none⟩ = some (.int .i64 0) := (HY.blk 0 rfl).cell 12
  simp [Go.Leaves, settle, results, Try.results10, go_sem, e0, y0, y1, y2, y3, y4, y5, y6, y7, y8, y9, y10, y11, y12]
  exact ⟨rfl, HY.below⟩
/-- The event that words tell; or none. -/
def RetDec (ok : Prop) (k me mo id te de fe pr ch un tg ow bp : Int) (w : World) (e : Ending) (w' : World) : Prop :=
  (ok ∧ e = .returned (.tuple #[.agg #[.int .i64 k, .int .i64 me, .int .i64 mo, .int .i64 id, .int .i64 te, .int .i64 de, .int .i64 fe, .int .i64 pr, .int .i64 ch, .int .i64 un, .int .i64 tg, .int .i64 ow, .int .i64 bp], .int .i64 0]) ∧ Below w.heap.size w w') ∨ (¬ ok ∧ RetNoEv 5 w e w')
set_option maxRecDepth 100000 in
set_option maxHeartbeats 4000000 in
theorem decode_ev (k me mo id te de fe pr ch un tg ow bp : Int) (A : Option Addr) (c : Nat) (w : World) (hz : ∀ z ∈ evL k me mo id te de fe pr ch un tg ow bp, 0 ≤ z ∧ z ≤ 4294967295) (hr : Rd w w.heap.size 1 A 13 ((evL k me mo id te de fe pr ch un tg ow bp).map (Value.int .u32))) : Calls Try.prog 10 #[.slice A 13 c] w (RetDec (evOk k me mo id te de fe pr ch un tg ow bp) k me mo id te de fe pr ch un tg ow bp w) := by
  have hmf := mk_info
  obtain ⟨b, off, rfl, hB, hc⟩ := hr.at_ (by omega)
  have HC := Lib.hid hc
  clear hc hr
  have HZ := Lib.hid hz
  clear hz
  have H := Mem.init w
  obtain ⟨W0, hW0⟩ : ∃ W0, ((w).alloc (.cells #[.int .i64 0, .int .i64 0, .int .i64 0, .int .i64 0, .int .i64 0, .int .i64 0, .int .i64 0, .int .i64 0, .int .i64 0, .int .i64 0, .int .i64 0, .int .i64 0, .int .i64 0] 27)).alloc (.cells #[.int .i64 0] 29) = W0 := ⟨_, rfl⟩
  replace H : Mem (w) [] _ [.blk (w.heap.size) 27 #[.int .i64 0, .int .i64 0, .int .i64 0, .int .i64 0, .int .i64 0, .int .i64 0, .int .i64 0, .int .i64 0, .int .i64 0, .int .i64 0, .int .i64 0, .int .i64 0, .int .i64 0]] := Mem.alloc H (w.heap.size) (by first | (simp; done) | (simp; omega)) #[.int .i64 0, .int .i64 0, .int .i64 0, .int .i64 0, .int .i64 0, .int .i64 0, .int .i64 0, .int .i64 0, .int .i64 0, .int .i64 0, .int .i64 0, .int .i64 0, .int .i64 0] 27
  replace H : Mem (w) [] _ [.blk (w.heap.size) 27 #[.int .i64 0, .int .i64 0, .int .i64 0, .int .i64 0, .int .i64 0, .int .i64 0, .int .i64 0, .int .i64 0, .int .i64 0, .int .i64 0, .int .i64 0, .int .i64 0, .int .i64 0], .blk (w.heap.size + 1) 29 #[.int .i64 0]] := Mem.alloc H (w.heap.size + 1) (by first | (simp; done) | (simp; omega)) #[.int .i64 0] 29
  rw [hW0] at H
  go_enter_defers Try.func10, Try.ntmps10
  go_wp2_with (go_at_call 26; refine (want_ok 1 _).mono ?_; rintro e wa ⟨rfl, hww⟩)
  subst hww
  clear hmf
  go_wp2_with fail
  refine (fields_ok _ _).mono ?_
  rintro e wb ⟨rfl, hbb⟩
  replace H : Mem (w) [] (wb) [.blk (w.heap.size) 27 #[.int .i64 0, .int .i64 0, .int .i64 0, .int .i64 0, .int .i64 0, .int .i64 0, .int .i64 0, .int .i64 0, .int .i64 0, .int .i64 0, .int .i64 0, .int .i64 0, .int .i64 0], .blk (w.heap.size + 1) 29 #[.int .i64 0]] := Mem.call H hbb
  clear hbb hW0
  go_wp2
  go_loopw [12] (fun i wr => ∃ (q : Nat), q ≤ 13 ∧ i = .int .i64 (q : Int) ∧ Mem w [] wr [.blk w.heap.size 27 (evAt q k me mo id te de fe pr ch un tg ow bp), .blk (w.heap.size + 1) 29 #[.int .i64 0]]) (fun i _ => 13 - (intOf i).toNat)
  case atStart => exact ⟨0, by omega, rfl, by rw [ev_at_0]; exact H⟩
  case round =>
    obtain ⟨q, hq, rfl, HM⟩ := hrel
    clear H
    by_cases hlt : q < 13
    · have hp := fun W => pidx w.heap.size q hlt W
      have hcv : wr.cell? ⟨w.heap.size, q, none⟩ = some (.int .i64 0) := ((HM.blk 0 rfl).cell q).trans (ev_at_cell k me mo id te de fe pr ch un tg ow bp q hlt)
      have hfv : wr.frozen? ⟨w.heap.size, q, none⟩ = false := (HM.blk 0 rfl).frozen q
      have hcl : wr.cell? ⟨b, off + q, none⟩ = some (.int .u32 ((evL k me mo id te de fe pr ch un tg ow bp).getD q 0)) := (HM.below.cell (p := ⟨b, off + q, none⟩) hB).trans (HC.out q _ (ev_u32 k me mo id te de fe pr ch un tg ow bp q hlt))
      obtain ⟨x0, x1⟩ := HZ.out _ (ev_mem k me mo id te de fe pr ch un tg ow bp q hlt)
      have HS := Lib.hid (ev_at_set k me mo id te de fe pr ch un tg ow bp q hlt)
      obtain ⟨x, hx⟩ : ∃ x, (evL k me mo id te de fe pr ch un tg ow bp).getD q 0 = x := ⟨_, rfl⟩
      rw [hx] at hcl x0 x1 HS
      clear hx
      go_wp2
      go_roundw
      case rel =>
        refine ⟨q + 1, by omega, by go_num, ?_⟩
        rw [← HS.out]
        exact Mem.set 0 HM rfl q (.int .i64 x)
      case measure => simp [intOf]; omega
    · have hq13 : q = 13 := by omega
      have HM2 := HM
      rw [hq13, ev_at_13] at HM2
      clear HM
      have H : Mem (w) [] (wr) [.blk (w.heap.size) 27 #[.int .i64 k, .int .i64 me, .int .i64 mo, .int .i64 id, .int .i64 te, .int .i64 de, .int .i64 fe, .int .i64 pr, .int .i64 ch, .int .i64 un, .int .i64 tg, .int .i64 ow, .int .i64 bp], .blk (w.heap.size + 1) 29 #[.int .i64 0]] := HM2
      clear HM2 hq13
      have ev0 : (wr).cell? ⟨w.heap.size, 0, none⟩ = some (.int .i64 k) := (H.blk 0 rfl).cell 0
      have evf0 : (wr).frozen? ⟨w.heap.size, 0, none⟩ = false := (H.blk 0 rfl).frozen 0
      have ev1 : (wr).cell? ⟨w.heap.size, 1, none⟩ = some (.int .i64 me) := (H.blk 0 rfl).cell 1
      have evf1 : (wr).frozen? ⟨w.heap.size, 1, none⟩ = false := (H.blk 0 rfl).frozen 1
      have ev2 : (wr).cell? ⟨w.heap.size, 2, none⟩ = some (.int .i64 mo) := (H.blk 0 rfl).cell 2
      have evf2 : (wr).frozen? ⟨w.heap.size, 2, none⟩ = false := (H.blk 0 rfl).frozen 2
      have ev3 : (wr).cell? ⟨w.heap.size, 3, none⟩ = some (.int .i64 id) := (H.blk 0 rfl).cell 3
      have evf3 : (wr).frozen? ⟨w.heap.size, 3, none⟩ = false := (H.blk 0 rfl).frozen 3
      have ev4 : (wr).cell? ⟨w.heap.size, 4, none⟩ = some (.int .i64 te) := (H.blk 0 rfl).cell 4
      have evf4 : (wr).frozen? ⟨w.heap.size, 4, none⟩ = false := (H.blk 0 rfl).frozen 4
      have ev5 : (wr).cell? ⟨w.heap.size, 5, none⟩ = some (.int .i64 de) := (H.blk 0 rfl).cell 5
      have evf5 : (wr).frozen? ⟨w.heap.size, 5, none⟩ = false := (H.blk 0 rfl).frozen 5
      have ev6 : (wr).cell? ⟨w.heap.size, 6, none⟩ = some (.int .i64 fe) := (H.blk 0 rfl).cell 6
      have evf6 : (wr).frozen? ⟨w.heap.size, 6, none⟩ = false := (H.blk 0 rfl).frozen 6
      have ev7 : (wr).cell? ⟨w.heap.size, 7, none⟩ = some (.int .i64 pr) := (H.blk 0 rfl).cell 7
      have evf7 : (wr).frozen? ⟨w.heap.size, 7, none⟩ = false := (H.blk 0 rfl).frozen 7
      have ev8 : (wr).cell? ⟨w.heap.size, 8, none⟩ = some (.int .i64 ch) := (H.blk 0 rfl).cell 8
      have evf8 : (wr).frozen? ⟨w.heap.size, 8, none⟩ = false := (H.blk 0 rfl).frozen 8
      have ev9 : (wr).cell? ⟨w.heap.size, 9, none⟩ = some (.int .i64 un) := (H.blk 0 rfl).cell 9
      have evf9 : (wr).frozen? ⟨w.heap.size, 9, none⟩ = false := (H.blk 0 rfl).frozen 9
      have ev10 : (wr).cell? ⟨w.heap.size, 10, none⟩ = some (.int .i64 tg) := (H.blk 0 rfl).cell 10
      have evf10 : (wr).frozen? ⟨w.heap.size, 10, none⟩ = false := (H.blk 0 rfl).frozen 10
      have ev11 : (wr).cell? ⟨w.heap.size, 11, none⟩ = some (.int .i64 ow) := (H.blk 0 rfl).cell 11
      have evf11 : (wr).frozen? ⟨w.heap.size, 11, none⟩ = false := (H.blk 0 rfl).frozen 11
      have ev12 : (wr).cell? ⟨w.heap.size, 12, none⟩ = some (.int .i64 bp) := (H.blk 0 rfl).cell 12
      have evf12 : (wr).frozen? ⟨w.heap.size, 12, none⟩ = false := (H.blk 0 rfl).frozen 12
      have evlt : w.heap.size < (wr).heap.size := H.lt 0 rfl
      have er0 : (wr).cell? ⟨w.heap.size + 1, 0, none⟩ = some (.int .i64 0) := (H.blk 1 rfl).cell 0
      have erf0 : (wr).frozen? ⟨w.heap.size + 1, 0, none⟩ = false := (H.blk 1 rfl).frozen 0
      have erlt : w.heap.size + 1 < (wr).heap.size := H.lt 1 rfl
      have ne_ev_er : w.heap.size ≠ w.heap.size + 1 := H.ne 0 1 rfl rfl (by decide)
      have ne_er_ev : w.heap.size + 1 ≠ w.heap.size := H.ne 1 0 rfl rfl (by decide)
      go_wp2_with fail
      refine (check_is k me mo id te de fe pr ch un tg ow bp _).mono ?_

      rintro e wc ⟨⟨hok, rfl⟩ | ⟨hno, rfl⟩, hbc⟩
      · replace H : Mem (w) [] (wc) [.blk (w.heap.size) 27 #[.int .i64 k, .int .i64 me, .int .i64 mo, .int .i64 id, .int .i64 te, .int .i64 de, .int .i64 fe, .int .i64 pr, .int .i64 ch, .int .i64 un, .int .i64 tg, .int .i64 ow, .int .i64 bp], .blk (w.heap.size + 1) 29 #[.int .i64 0]] := Mem.call H hbc
        clear ev0 evf0 ev1 evf1 ev2 evf2 ev3 evf3 ev4 evf4 ev5 evf5 ev6 evf6 ev7 evf7 ev8 evf8 ev9 evf9 ev10 evf10 ev11 evf11 ev12 evf12 evlt er0 erf0 erlt ne_ev_er ne_er_ev
        have ev0 : (wc).cell? ⟨w.heap.size, 0, none⟩ = some (.int .i64 k) := (H.blk 0 rfl).cell 0
        have evf0 : (wc).frozen? ⟨w.heap.size, 0, none⟩ = false := (H.blk 0 rfl).frozen 0
        have ev1 : (wc).cell? ⟨w.heap.size, 1, none⟩ = some (.int .i64 me) := (H.blk 0 rfl).cell 1
        have evf1 : (wc).frozen? ⟨w.heap.size, 1, none⟩ = false := (H.blk 0 rfl).frozen 1
        have ev2 : (wc).cell? ⟨w.heap.size, 2, none⟩ = some (.int .i64 mo) := (H.blk 0 rfl).cell 2
        have evf2 : (wc).frozen? ⟨w.heap.size, 2, none⟩ = false := (H.blk 0 rfl).frozen 2
        have ev3 : (wc).cell? ⟨w.heap.size, 3, none⟩ = some (.int .i64 id) := (H.blk 0 rfl).cell 3
        have evf3 : (wc).frozen? ⟨w.heap.size, 3, none⟩ = false := (H.blk 0 rfl).frozen 3
        have ev4 : (wc).cell? ⟨w.heap.size, 4, none⟩ = some (.int .i64 te) := (H.blk 0 rfl).cell 4
        have evf4 : (wc).frozen? ⟨w.heap.size, 4, none⟩ = false := (H.blk 0 rfl).frozen 4
        have ev5 : (wc).cell? ⟨w.heap.size, 5, none⟩ = some (.int .i64 de) := (H.blk 0 rfl).cell 5
        have evf5 : (wc).frozen? ⟨w.heap.size, 5, none⟩ = false := (H.blk 0 rfl).frozen 5
        have ev6 : (wc).cell? ⟨w.heap.size, 6, none⟩ = some (.int .i64 fe) := (H.blk 0 rfl).cell 6
        have evf6 : (wc).frozen? ⟨w.heap.size, 6, none⟩ = false := (H.blk 0 rfl).frozen 6
        have ev7 : (wc).cell? ⟨w.heap.size, 7, none⟩ = some (.int .i64 pr) := (H.blk 0 rfl).cell 7
        have evf7 : (wc).frozen? ⟨w.heap.size, 7, none⟩ = false := (H.blk 0 rfl).frozen 7
        have ev8 : (wc).cell? ⟨w.heap.size, 8, none⟩ = some (.int .i64 ch) := (H.blk 0 rfl).cell 8
        have evf8 : (wc).frozen? ⟨w.heap.size, 8, none⟩ = false := (H.blk 0 rfl).frozen 8
        have ev9 : (wc).cell? ⟨w.heap.size, 9, none⟩ = some (.int .i64 un) := (H.blk 0 rfl).cell 9
        have evf9 : (wc).frozen? ⟨w.heap.size, 9, none⟩ = false := (H.blk 0 rfl).frozen 9
        have ev10 : (wc).cell? ⟨w.heap.size, 10, none⟩ = some (.int .i64 tg) := (H.blk 0 rfl).cell 10
        have evf10 : (wc).frozen? ⟨w.heap.size, 10, none⟩ = false := (H.blk 0 rfl).frozen 10
        have ev11 : (wc).cell? ⟨w.heap.size, 11, none⟩ = some (.int .i64 ow) := (H.blk 0 rfl).cell 11
        have evf11 : (wc).frozen? ⟨w.heap.size, 11, none⟩ = false := (H.blk 0 rfl).frozen 11
        have ev12 : (wc).cell? ⟨w.heap.size, 12, none⟩ = some (.int .i64 bp) := (H.blk 0 rfl).cell 12
        have evf12 : (wc).frozen? ⟨w.heap.size, 12, none⟩ = false := (H.blk 0 rfl).frozen 12
        have evlt : w.heap.size < (wc).heap.size := H.lt 0 rfl
        have er0 : (wc).cell? ⟨w.heap.size + 1, 0, none⟩ = some (.int .i64 0) := (H.blk 1 rfl).cell 0
        have erf0 : (wc).frozen? ⟨w.heap.size + 1, 0, none⟩ = false := (H.blk 1 rfl).frozen 0
        have erlt : w.heap.size + 1 < (wc).heap.size := H.lt 1 rfl
        have ne_ev_er : w.heap.size ≠ w.heap.size + 1 := H.ne 0 1 rfl rfl (by decide)
        have ne_er_ev : w.heap.size + 1 ≠ w.heap.size := H.ne 1 0 rfl rfl (by decide)
        have HOK := Lib.hid hok
        clear hbc hok
        go_wp2
        obtain ⟨wz, hwz⟩ : ∃ wz, ((((((((((((((wc).setCell ⟨w.heap.size, 0, none⟩ (.int .i64 k)).setCell ⟨w.heap.size, 1, none⟩ (.int .i64 me)).setCell ⟨w.heap.size, 2, none⟩ (.int .i64 mo)).setCell ⟨w.heap.size, 3, none⟩ (.int .i64 id)).setCell ⟨w.heap.size, 4, none⟩ (.int .i64 te)).setCell ⟨w.heap.size, 5, none⟩ (.int .i64 de)).setCell ⟨w.heap.size, 6, none⟩ (.int .i64 fe)).setCell ⟨w.heap.size, 7, none⟩ (.int .i64 pr)).setCell ⟨w.heap.size, 8, none⟩ (.int .i64 ch)).setCell ⟨w.heap.size, 9, none⟩ (.int .i64 un)).setCell ⟨w.heap.size, 10, none⟩ (.int .i64 tg)).setCell ⟨w.heap.size, 11, none⟩ (.int .i64 ow)).setCell ⟨w.heap.size, 12, none⟩ (.int .i64 bp)).setCell ⟨w.heap.size + 1, 0, none⟩ (.int .i64 0) = wz := ⟨_, rfl⟩
        replace H : Mem (w) [] _ [.blk (w.heap.size) 27 #[.int .i64 k, .int .i64 me, .int .i64 mo, .int .i64 id, .int .i64 te, .int .i64 de, .int .i64 fe, .int .i64 pr, .int .i64 ch, .int .i64 un, .int .i64 tg, .int .i64 ow, .int .i64 bp], .blk (w.heap.size + 1) 29 #[.int .i64 0]] := Mem.set 0 H rfl 0 (.int .i64 k)
        replace H : Mem (w) [] _ [.blk (w.heap.size) 27 #[.int .i64 k, .int .i64 me, .int .i64 mo, .int .i64 id, .int .i64 te, .int .i64 de, .int .i64 fe, .int .i64 pr, .int .i64 ch, .int .i64 un, .int .i64 tg, .int .i64 ow, .int .i64 bp], .blk (w.heap.size + 1) 29 #[.int .i64 0]] := Mem.set 0 H rfl 1 (.int .i64 me)
        replace H : Mem (w) [] _ [.blk (w.heap.size) 27 #[.int .i64 k, .int .i64 me, .int .i64 mo, .int .i64 id, .int .i64 te, .int .i64 de, .int .i64 fe, .int .i64 pr, .int .i64 ch, .int .i64 un, .int .i64 tg, .int .i64 ow, .int .i64 bp], .blk (w.heap.size + 1) 29 #[.int .i64 0]] := Mem.set 0 H rfl 2 (.int .i64 mo)
        replace H : Mem (w) [] _ [.blk (w.heap.size) 27 #[.int .i64 k, .int .i64 me, .int .i64 mo, .int .i64 id, .int .i64 te, .int .i64 de, .int .i64 fe, .int .i64 pr, .int .i64 ch, .int .i64 un, .int .i64 tg, .int .i64 ow, .int .i64 bp], .blk (w.heap.size + 1) 29 #[.int .i64 0]] := Mem.set 0 H rfl 3 (.int .i64 id)
        replace H : Mem (w) [] _ [.blk (w.heap.size) 27 #[.int .i64 k, .int .i64 me, .int .i64 mo, .int .i64 id, .int .i64 te, .int .i64 de, .int .i64 fe, .int .i64 pr, .int .i64 ch, .int .i64 un, .int .i64 tg, .int .i64 ow, .int .i64 bp], .blk (w.heap.size + 1) 29 #[.int .i64 0]] := Mem.set 0 H rfl 4 (.int .i64 te)
        replace H : Mem (w) [] _ [.blk (w.heap.size) 27 #[.int .i64 k, .int .i64 me, .int .i64 mo, .int .i64 id, .int .i64 te, .int .i64 de, .int .i64 fe, .int .i64 pr, .int .i64 ch, .int .i64 un, .int .i64 tg, .int .i64 ow, .int .i64 bp], .blk (w.heap.size + 1) 29 #[.int .i64 0]] := Mem.set 0 H rfl 5 (.int .i64 de)
        replace H : Mem (w) [] _ [.blk (w.heap.size) 27 #[.int .i64 k, .int .i64 me, .int .i64 mo, .int .i64 id, .int .i64 te, .int .i64 de, .int .i64 fe, .int .i64 pr, .int .i64 ch, .int .i64 un, .int .i64 tg, .int .i64 ow, .int .i64 bp], .blk (w.heap.size + 1) 29 #[.int .i64 0]] := Mem.set 0 H rfl 6 (.int .i64 fe)
        replace H : Mem (w) [] _ [.blk (w.heap.size) 27 #[.int .i64 k, .int .i64 me, .int .i64 mo, .int .i64 id, .int .i64 te, .int .i64 de, .int .i64 fe, .int .i64 pr, .int .i64 ch, .int .i64 un, .int .i64 tg, .int .i64 ow, .int .i64 bp], .blk (w.heap.size + 1) 29 #[.int .i64 0]] := Mem.set 0 H rfl 7 (.int .i64 pr)
        replace H : Mem (w) [] _ [.blk (w.heap.size) 27 #[.int .i64 k, .int .i64 me, .int .i64 mo, .int .i64 id, .int .i64 te, .int .i64 de, .int .i64 fe, .int .i64 pr, .int .i64 ch, .int .i64 un, .int .i64 tg, .int .i64 ow, .int .i64 bp], .blk (w.heap.size + 1) 29 #[.int .i64 0]] := Mem.set 0 H rfl 8 (.int .i64 ch)
        replace H : Mem (w) [] _ [.blk (w.heap.size) 27 #[.int .i64 k, .int .i64 me, .int .i64 mo, .int .i64 id, .int .i64 te, .int .i64 de, .int .i64 fe, .int .i64 pr, .int .i64 ch, .int .i64 un, .int .i64 tg, .int .i64 ow, .int .i64 bp], .blk (w.heap.size + 1) 29 #[.int .i64 0]] := Mem.set 0 H rfl 9 (.int .i64 un)
        replace H : Mem (w) [] _ [.blk (w.heap.size) 27 #[.int .i64 k, .int .i64 me, .int .i64 mo, .int .i64 id, .int .i64 te, .int .i64 de, .int .i64 fe, .int .i64 pr, .int .i64 ch, .int .i64 un, .int .i64 tg, .int .i64 ow, .int .i64 bp], .blk (w.heap.size + 1) 29 #[.int .i64 0]] := Mem.set 0 H rfl 10 (.int .i64 tg)
        replace H : Mem (w) [] _ [.blk (w.heap.size) 27 #[.int .i64 k, .int .i64 me, .int .i64 mo, .int .i64 id, .int .i64 te, .int .i64 de, .int .i64 fe, .int .i64 pr, .int .i64 ch, .int .i64 un, .int .i64 tg, .int .i64 ow, .int .i64 bp], .blk (w.heap.size + 1) 29 #[.int .i64 0]] := Mem.set 0 H rfl 11 (.int .i64 ow)
        replace H : Mem (w) [] _ [.blk (w.heap.size) 27 #[.int .i64 k, .int .i64 me, .int .i64 mo, .int .i64 id, .int .i64 te, .int .i64 de, .int .i64 fe, .int .i64 pr, .int .i64 ch, .int .i64 un, .int .i64 tg, .int .i64 ow, .int .i64 bp], .blk (w.heap.size + 1) 29 #[.int .i64 0]] := Mem.set 0 H rfl 12 (.int .i64 bp)
        replace H : Mem (w) [] _ [.blk (w.heap.size) 27 #[.int .i64 k, .int .i64 me, .int .i64 mo, .int .i64 id, .int .i64 te, .int .i64 de, .int .i64 fe, .int .i64 pr, .int .i64 ch, .int .i64 un, .int .i64 tg, .int .i64 ow, .int .i64 bp], .blk (w.heap.size + 1) 29 #[.int .i64 0]] := Mem.set 1 H rfl 0 (.int .i64 0)
        rw [hwz] at H ⊢
        clear hwz
        have hl := dec_idle (i := 1) (v := w.heap.size) H rfl
        refine leaves_cons (f := 25) (args := #[.pointer (some ⟨w.heap.size + 1, 0, none⟩), .pointer (some ⟨w.heap.size, 0, none⟩)]) (by simp) (by simp [go_sem]) ?_
        refine hl.mono ?_
        rintro e u' wy ⟨rfl, rfl, HY⟩
        have e0 : wy.cell? ⟨w.heap.size + 1, 0, none⟩ = some (.int .i64 0) := (HY.blk 1 rfl).cell 0
        have y0 : wy.cell? ⟨w.heap.size, 0, none⟩ = some (.int .i64 k) := (HY.blk 0 rfl).cell 0
        have y1 : wy.cell? ⟨w.heap.size, 1, none⟩ = some (.int .i64 me) := (HY.blk 0 rfl).cell 1
        have y2 : wy.cell? ⟨w.heap.size, 2, none⟩ = some (.int .i64 mo) := (HY.blk 0 rfl).cell 2
        have y3 : wy.cell? ⟨w.heap.size, 3, none⟩ = some (.int .i64 id) := (HY.blk 0 rfl).cell 3
        have y4 : wy.cell? ⟨w.heap.size, 4, none⟩ = some (.int .i64 te) := (HY.blk 0 rfl).cell 4
        have y5 : wy.cell? ⟨w.heap.size, 5, none⟩ = some (.int .i64 de) := (HY.blk 0 rfl).cell 5
        have y6 : wy.cell? ⟨w.heap.size, 6, none⟩ = some (.int .i64 fe) := (HY.blk 0 rfl).cell 6
        have y7 : wy.cell? ⟨w.heap.size, 7, none⟩ = some (.int .i64 pr) := (HY.blk 0 rfl).cell 7
        have y8 : wy.cell? ⟨w.heap.size, 8, none⟩ = some (.int .i64 ch) := (HY.blk 0 rfl).cell 8
        have y9 : wy.cell? ⟨w.heap.size, 9, none⟩ = some (.int .i64 un) := (HY.blk 0 rfl).cell 9
        have y10 : wy.cell? ⟨w.heap.size, 10, none⟩ = some (.int .i64 tg) := (HY.blk 0 rfl).cell 10
        have y11 : wy.cell? ⟨w.heap.size, 11, none⟩ = some (.int .i64 ow) := (HY.blk 0 rfl).cell 11
        have y12 : wy.cell? ⟨w.heap.size, 12, none⟩ = some (.int .i64 bp) := (HY.blk 0 rfl).cell 12
        simp [Go.Leaves, settle, results, Try.results10, go_sem, e0, y0, y1, y2, y3, y4, y5, y6, y7, y8, y9, y10, y11, y12]
        exact .inl ⟨HOK.out, rfl, HY.below⟩
      · skip
        replace H : Mem (w) [] (wc) [.blk (w.heap.size) 27 #[.int .i64 k, .int .i64 me, .int .i64 mo, .int .i64 id, .int .i64 te, .int .i64 de, .int .i64 fe, .int .i64 pr, .int .i64 ch, .int .i64 un, .int .i64 tg, .int .i64 ow, .int .i64 bp], .blk (w.heap.size + 1) 29 #[.int .i64 0]] := Mem.call H hbc
        have HNO := Lib.hid hno
        clear hbc hno
        go_wp2
        have hl := dec_catch (i := 1) (j := 0) 5 (by decide) [] (.int .i64 k) (.int .i64 me) (.int .i64 mo) (.int .i64 id) (.int .i64 te) (.int .i64 de) (.int .i64 fe) (.int .i64 pr) (.int .i64 ch) (.int .i64 un) (.int .i64 tg) (.int .i64 ow) (.int .i64 bp) H rfl rfl (by decide)
        refine leaves_cons (f := 25) (args := #[.pointer (some ⟨w.heap.size + 1, 0, none⟩), .pointer (some ⟨w.heap.size, 0, none⟩)]) (by simp) (by simp [go_sem]) ?_
        refine hl.mono ?_
        rintro e u' wy ⟨rfl, rfl, HY⟩
        have e0 : wy.cell? ⟨w.heap.size + 1, 0, none⟩ = some (.int .i64 5) := (HY.blk 1 rfl).cell 0
        have y0 : wy.cell? ⟨w.heap.size, 0, none⟩ = some (.int .i64 0) := (HY.blk 0 rfl).cell 0
        have y1 : wy.cell? ⟨w.heap.size, 1, none⟩ = some (.int .i64 0) := (HY.blk 0 rfl).cell 1
        have y2 : wy.cell? ⟨w.heap.size, 2, none⟩ = some (.int .i64 0) := (HY.blk 0 rfl).cell 2
        have y3 : wy.cell? ⟨w.heap.size, 3, none⟩ = some (.int .i64 0) := (HY.blk 0 rfl).cell 3
        have y4 : wy.cell? ⟨w.heap.size, 4, none⟩ = some (.int .i64 0) := (HY.blk 0 rfl).cell 4
        have y5 : wy.cell? ⟨w.heap.size, 5, none⟩ = some (.int .i64 0) := (HY.blk 0 rfl).cell 5
        have y6 : wy.cell? ⟨w.heap.size, 6, none⟩ = some (.int .i64 0) := (HY.blk 0 rfl).cell 6
        have y7 : wy.cell? ⟨w.heap.size, 7, none⟩ = some (.int .i64 0) := (HY.blk 0 rfl).cell 7
        have y8 : wy.cell? ⟨w.heap.size, 8, none⟩ = some (.int .i64 0) := (HY.blk 0 rfl).cell 8
        have y9 : wy.cell? ⟨w.heap.size, 9, none⟩ = some (.int .i64 0) := (HY.blk 0 rfl).cell 9
        have y10 : wy.cell? ⟨w.heap.size, 10, none⟩ = some (.int .i64 0) := (HY.blk 0 rfl).cell 10
        have y11 : wy.cell? ⟨w.heap.size, 11, none⟩ = some (.int .i64 0) := (HY.blk 0 rfl).cell 11
        have y12 : wy.cell? ⟨w.heap.size, 12, none⟩ = some (.int .i64 0) := (HY.blk 0 rfl).cell 12
        simp [Go.Leaves, settle, results, Try.results10, go_sem, e0, y0, y1, y2, y3, y4, y5, y6, y7, y8, y9, y10, y11, y12]
        exact .inr ⟨HNO.out, rfl, HY.below⟩
end Go.Proofs.Ythhbnmmhjfgpdaa

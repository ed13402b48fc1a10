/- book.Encode, book.Decode. -/
import Derived.Test.YthhbnmmhjfgpdaaEvC
import Derived.Test.YthhbnmmhjfgpdaaPushM
import Derived.Test.YthhbnmmhjfgpdaaCell
namespace Go.Proofs.Ythhbnmmhjfgpdaa
open Go.RowKit
set_option linter.unusedVariables false
theorem u32_of {x : Int} (h0 : 0 ≤ x) (h1 : x ≤ 1000000000) : IntKind.u32.wrap x = x := by
  simp [IntKind.wrap_u32]; omega
def evL (k me mo id te de fe pr ch un tg ow bp : Int) : List Int := [k, me, mo, id, te, de, fe, pr, ch, un, tg, ow, bp]
theorem mk_info (fn : Fn) (first cap : Array Value) (w : World) : (Instr.makeFunc fn first cap).run Try.prog w = .ok (.func fn first cap) w := rfl
theorem lt13 {q : Nat} (h : q < 13) : q = 0 ∨ q = 1 ∨ q = 2 ∨ q = 3 ∨ q = 4 ∨ q = 5 ∨ q = 6 ∨ q = 7 ∨ q = 8 ∨ q = 9 ∨ q = 10 ∨ q = 11 ∨ q = 12 := by omega
theorem pidx (g q : Nat) (h : q < 13) (W : World) : (Instr.index 68 (ptrs g) (.int .i64 (q : Int))).run Try.prog W = .ok (.pointer (some ⟨g, q, none⟩)) W := by
  rcases lt13 h with rfl | rfl | rfl | rfl | rfl | rfl | rfl | rfl | rfl | rfl | rfl | rfl | rfl <;> kernel_rfl
theorem ev_cell (k me mo id te de fe pr ch un tg ow bp : Int) (q : Nat) (h : q < 13) : (#[.int .i64 k, .int .i64 me, .int .i64 mo, .int .i64 id, .int .i64 te, .int .i64 de, .int .i64 fe, .int .i64 pr, .int .i64 ch, .int .i64 un, .int .i64 tg, .int .i64 ow, .int .i64 bp] : Array Value)[q]? = some (.int .i64 ((evL k me mo id te de fe pr ch un tg ow bp).getD q 0)) := by
  rcases lt13 h with rfl | rfl | rfl | rfl | rfl | rfl | rfl | rfl | rfl | rfl | rfl | rfl | rfl <;> rfl
theorem ev_bd {k me mo id te de fe pr ch un tg ow bp : Int} (h : evOk k me mo id te de fe pr ch un tg ow bp) (q : Nat) (hq : q < 13) : 0 ≤ (evL k me mo id te de fe pr ch un tg ow bp).getD q 0 ∧ (evL k me mo id te de fe pr ch un tg ow bp).getD q 0 ≤ 1000000000 := by
  have h := h.bd
  rcases lt13 hq with rfl | rfl | rfl | rfl | rfl | rfl | rfl | rfl | rfl | rfl | rfl | rfl | rfl <;> simp [evL] <;> omega
theorem ev_take (k me mo id te de fe pr ch un tg ow bp : Int) (q : Nat) (h : q < 13) : (evL k me mo id te de fe pr ch un tg ow bp).take (q + 1) = (evL k me mo id te de fe pr ch un tg ow bp).take q ++ [(evL k me mo id te de fe pr ch un tg ow bp).getD q 0] := by
  rcases lt13 h with rfl | rfl | rfl | rfl | rfl | rfl | rfl | rfl | rfl | rfl | rfl | rfl | rfl <;> rfl
/-- The words of an event; or it may not be. -/
def RetEnc (ok : Prop) (l : List Int) (w : World) (e : Ending) (w' : World) : Prop :=
  (ok ∧ ∃ (A : Option Addr) (c : Nat), e = .returned (.tuple #[.slice A 13 c, .int .i64 0]) ∧ w'.ownsRow w.heap.size 71 1 (.slice A 13 c) 13 (l.map (Value.int .u32)) ∧ Below w.heap.size w w') ∨
  (¬ ok ∧ e = .returned (.tuple #[.slice none 0 0, .int .i64 5]) ∧ Below w.heap.size w w')
set_option maxRecDepth 100000 in
set_option maxHeartbeats 2000000 in
theorem encode_ok (k me mo id te de fe pr ch un tg ow bp : Int) (w : World) : Calls Try.prog 9 #[.agg #[.int .i64 k, .int .i64 me, .int .i64 mo, .int .i64 id, .int .i64 te, .int .i64 de, .int .i64 fe, .int .i64 pr, .int .i64 ch, .int .i64 un, .int .i64 tg, .int .i64 ow, .int .i64 bp]] w (RetEnc (evOk k me mo id te de fe pr ch un tg ow bp) (evL k me mo id te de fe pr ch un tg ow bp) w) := by
  have hmf := mk_info
  have H := Mem.init w
  obtain ⟨W0, hW0⟩ : ∃ W0, ((w).alloc (.cells #[.int .i64 k, .int .i64 me, .int .i64 mo, .int .i64 id, .int .i64 te, .int .i64 de, .int .i64 fe, .int .i64 pr, .int .i64 ch, .int .i64 un, .int .i64 tg, .int .i64 ow, .int .i64 bp] 27)).alloc (.cells #[.int .i64 0] 29) = W0 := ⟨_, rfl⟩
  replace H : Mem (w) [] _ [.blk (w.heap.size) 27 #[.int .i64 k, .int .i64 me, .int .i64 mo, .int .i64 id, .int .i64 te, .int .i64 de, .int .i64 fe, .int .i64 pr, .int .i64 ch, .int .i64 un, .int .i64 tg, .int .i64 ow, .int .i64 bp]] := Mem.alloc H (w.heap.size) (by first | (simp; done) | (simp; omega)) #[.int .i64 k, .int .i64 me, .int .i64 mo, .int .i64 id, .int .i64 te, .int .i64 de, .int .i64 fe, .int .i64 pr, .int .i64 ch, .int .i64 un, .int .i64 tg, .int .i64 ow, .int .i64 bp] 27
  replace H : Mem (w) [] _ [.blk (w.heap.size) 27 #[.int .i64 k, .int .i64 me, .int .i64 mo, .int .i64 id, .int .i64 te, .int .i64 de, .int .i64 fe, .int .i64 pr, .int .i64 ch, .int .i64 un, .int .i64 tg, .int .i64 ow, .int .i64 bp], .blk (w.heap.size + 1) 29 #[.int .i64 0]] := Mem.alloc H (w.heap.size + 1) (by first | (simp; done) | (simp; omega)) #[.int .i64 0] 29
  rw [hW0] at H
  have ev0 : (W0).cell? ⟨w.heap.size, 0, none⟩ = some (.int .i64 k) := (H.blk 0 rfl).cell 0
  have evf0 : (W0).frozen? ⟨w.heap.size, 0, none⟩ = false := (H.blk 0 rfl).frozen 0
  have ev1 : (W0).cell? ⟨w.heap.size, 1, none⟩ = some (.int .i64 me) := (H.blk 0 rfl).cell 1
  have evf1 : (W0).frozen? ⟨w.heap.size, 1, none⟩ = false := (H.blk 0 rfl).frozen 1
  have ev2 : (W0).cell? ⟨w.heap.size, 2, none⟩ = some (.int .i64 mo) := (H.blk 0 rfl).cell 2
  have evf2 : (W0).frozen? ⟨w.heap.size, 2, none⟩ = false := (H.blk 0 rfl).frozen 2
  have ev3 : (W0).cell? ⟨w.heap.size, 3, none⟩ = some (.int .i64 id) := (H.blk 0 rfl).cell 3
  have evf3 : (W0).frozen? ⟨w.heap.size, 3, none⟩ = false := (H.blk 0 rfl).frozen 3
  have ev4 : (W0).cell? ⟨w.heap.size, 4, none⟩ = some (.int .i64 te) := (H.blk 0 rfl).cell 4
  have evf4 : (W0).frozen? ⟨w.heap.size, 4, none⟩ = false := (H.blk 0 rfl).frozen 4
  have ev5 : (W0).cell? ⟨w.heap.size, 5, none⟩ = some (.int .i64 de) := (H.blk 0 rfl).cell 5
  have evf5 : (W0).frozen? ⟨w.heap.size, 5, none⟩ = false := (H.blk 0 rfl).frozen 5
  have ev6 : (W0).cell? ⟨w.heap.size, 6, none⟩ = some (.int .i64 fe) := (H.blk 0 rfl).cell 6
  have evf6 : (W0).frozen? ⟨w.heap.size, 6, none⟩ = false := (H.blk 0 rfl).frozen 6
  have ev7 : (W0).cell? ⟨w.heap.size, 7, none⟩ = some (.int .i64 pr) := (H.blk 0 rfl).cell 7
  have evf7 : (W0).frozen? ⟨w.heap.size, 7, none⟩ = false := (H.blk 0 rfl).frozen 7
  have ev8 : (W0).cell? ⟨w.heap.size, 8, none⟩ = some (.int .i64 ch) := (H.blk 0 rfl).cell 8
  have evf8 : (W0).frozen? ⟨w.heap.size, 8, none⟩ = false := (H.blk 0 rfl).frozen 8
  have ev9 : (W0).cell? ⟨w.heap.size, 9, none⟩ = some (.int .i64 un) := (H.blk 0 rfl).cell 9
  have evf9 : (W0).frozen? ⟨w.heap.size, 9, none⟩ = false := (H.blk 0 rfl).frozen 9
  have ev10 : (W0).cell? ⟨w.heap.size, 10, none⟩ = some (.int .i64 tg) := (H.blk 0 rfl).cell 10
  have evf10 : (W0).frozen? ⟨w.heap.size, 10, none⟩ = false := (H.blk 0 rfl).frozen 10
  have ev11 : (W0).cell? ⟨w.heap.size, 11, none⟩ = some (.int .i64 ow) := (H.blk 0 rfl).cell 11
  have evf11 : (W0).frozen? ⟨w.heap.size, 11, none⟩ = false := (H.blk 0 rfl).frozen 11
  have ev12 : (W0).cell? ⟨w.heap.size, 12, none⟩ = some (.int .i64 bp) := (H.blk 0 rfl).cell 12
  have evf12 : (W0).frozen? ⟨w.heap.size, 12, none⟩ = false := (H.blk 0 rfl).frozen 12
  have evlt : w.heap.size < (W0).heap.size := H.lt 0 rfl
  have er0 : (W0).cell? ⟨w.heap.size + 1, 0, none⟩ = some (.int .i64 0) := (H.blk 1 rfl).cell 0
  have erf0 : (W0).frozen? ⟨w.heap.size + 1, 0, none⟩ = false := (H.blk 1 rfl).frozen 0
  have erlt : w.heap.size + 1 < (W0).heap.size := H.lt 1 rfl
  have ne_ev_er : w.heap.size ≠ w.heap.size + 1 := H.ne 0 1 rfl rfl (by decide)
  have ne_er_ev : w.heap.size + 1 ≠ w.heap.size := H.ne 1 0 rfl rfl (by decide)
  go_enter_defers Try.func9, Try.ntmps9
  go_wp2_with fail
  clear hmf
  refine (check_is k me mo id te de fe pr ch un tg ow bp _).mono ?_

  rintro e wa ⟨⟨hok, rfl⟩ | ⟨hno, rfl⟩, hba⟩
  · replace H : Mem (w) [] (wa) [.blk (w.heap.size) 27 #[.int .i64 k, .int .i64 me, .int .i64 mo, .int .i64 id, .int .i64 te, .int .i64 de, .int .i64 fe, .int .i64 pr, .int .i64 ch, .int .i64 un, .int .i64 tg, .int .i64 ow, .int .i64 bp], .blk (w.heap.size + 1) 29 #[.int .i64 0]] := Mem.call H hba
    clear ev0 evf0 ev1 evf1 ev2 evf2 ev3 evf3 ev4 evf4 ev5 evf5 ev6 evf6 ev7 evf7 ev8 evf8 ev9 evf9 ev10 evf10 ev11 evf11 ev12 evf12 evlt er0 erf0 erlt ne_ev_er ne_er_ev
    have ev0 : (wa).cell? ⟨w.heap.size, 0, none⟩ = some (.int .i64 k) := (H.blk 0 rfl).cell 0
    have evf0 : (wa).frozen? ⟨w.heap.size, 0, none⟩ = false := (H.blk 0 rfl).frozen 0
    have ev1 : (wa).cell? ⟨w.heap.size, 1, none⟩ = some (.int .i64 me) := (H.blk 0 rfl).cell 1
    have evf1 : (wa).frozen? ⟨w.heap.size, 1, none⟩ = false := (H.blk 0 rfl).frozen 1
    have ev2 : (wa).cell? ⟨w.heap.size, 2, none⟩ = some (.int .i64 mo) := (H.blk 0 rfl).cell 2
    have evf2 : (wa).frozen? ⟨w.heap.size, 2, none⟩ = false := (H.blk 0 rfl).frozen 2
    have ev3 : (wa).cell? ⟨w.heap.size, 3, none⟩ = some (.int .i64 id) := (H.blk 0 rfl).cell 3
    have evf3 : (wa).frozen? ⟨w.heap.size, 3, none⟩ = false := (H.blk 0 rfl).frozen 3
    have ev4 : (wa).cell? ⟨w.heap.size, 4, none⟩ = some (.int .i64 te) := (H.blk 0 rfl).cell 4
    have evf4 : (wa).frozen? ⟨w.heap.size, 4, none⟩ = false := (H.blk 0 rfl).frozen 4
    have ev5 : (wa).cell? ⟨w.heap.size, 5, none⟩ = some (.int .i64 de) := (H.blk 0 rfl).cell 5
    have evf5 : (wa).frozen? ⟨w.heap.size, 5, none⟩ = false := (H.blk 0 rfl).frozen 5
    have ev6 : (wa).cell? ⟨w.heap.size, 6, none⟩ = some (.int .i64 fe) := (H.blk 0 rfl).cell 6
    have evf6 : (wa).frozen? ⟨w.heap.size, 6, none⟩ = false := (H.blk 0 rfl).frozen 6
    have ev7 : (wa).cell? ⟨w.heap.size, 7, none⟩ = some (.int .i64 pr) := (H.blk 0 rfl).cell 7
    have evf7 : (wa).frozen? ⟨w.heap.size, 7, none⟩ = false := (H.blk 0 rfl).frozen 7
    have ev8 : (wa).cell? ⟨w.heap.size, 8, none⟩ = some (.int .i64 ch) := (H.blk 0 rfl).cell 8
    have evf8 : (wa).frozen? ⟨w.heap.size, 8, none⟩ = false := (H.blk 0 rfl).frozen 8
    have ev9 : (wa).cell? ⟨w.heap.size, 9, none⟩ = some (.int .i64 un) := (H.blk 0 rfl).cell 9
    have evf9 : (wa).frozen? ⟨w.heap.size, 9, none⟩ = false := (H.blk 0 rfl).frozen 9
    have ev10 : (wa).cell? ⟨w.heap.size, 10, none⟩ = some (.int .i64 tg) := (H.blk 0 rfl).cell 10
    have evf10 : (wa).frozen? ⟨w.heap.size, 10, none⟩ = false := (H.blk 0 rfl).frozen 10
    have ev11 : (wa).cell? ⟨w.heap.size, 11, none⟩ = some (.int .i64 ow) := (H.blk 0 rfl).cell 11
    have evf11 : (wa).frozen? ⟨w.heap.size, 11, none⟩ = false := (H.blk 0 rfl).frozen 11
    have ev12 : (wa).cell? ⟨w.heap.size, 12, none⟩ = some (.int .i64 bp) := (H.blk 0 rfl).cell 12
    have evf12 : (wa).frozen? ⟨w.heap.size, 12, none⟩ = false := (H.blk 0 rfl).frozen 12
    have evlt : w.heap.size < (wa).heap.size := H.lt 0 rfl
    have er0 : (wa).cell? ⟨w.heap.size + 1, 0, none⟩ = some (.int .i64 0) := (H.blk 1 rfl).cell 0
    have erf0 : (wa).frozen? ⟨w.heap.size + 1, 0, none⟩ = false := (H.blk 1 rfl).frozen 0
    have erlt : w.heap.size + 1 < (wa).heap.size := H.lt 1 rfl
    have ne_ev_er : w.heap.size ≠ w.heap.size + 1 := H.ne 0 1 rfl rfl (by decide)
    have ne_er_ev : w.heap.size + 1 ≠ w.heap.size := H.ne 1 0 rfl rfl (by decide)
    have HOK := Lib.hid hok
    clear hba hW0 hok
    go_wp2_with fail
    refine (fields_ok _ _).mono ?_
    rintro e wb ⟨rfl, hbb⟩
    replace H : Mem (w) [] (wb) [.blk (w.heap.size) 27 #[.int .i64 k, .int .i64 me, .int .i64 mo, .int .i64 id, .int .i64 te, .int .i64 de, .int .i64 fe, .int .i64 pr, .int .i64 ch, .int .i64 un, .int .i64 tg, .int .i64 ow, .int .i64 bp], .blk (w.heap.size + 1) 29 #[.int .i64 0]] := Mem.call H hbb
    clear ev0 evf0 ev1 evf1 ev2 evf2 ev3 evf3 ev4 evf4 ev5 evf5 ev6 evf6 ev7 evf7 ev8 evf8 ev9 evf9 ev10 evf10 ev11 evf11 ev12 evf12 evlt er0 erf0 erlt ne_ev_er ne_er_ev
    have ev0 : (wb).cell? ⟨w.heap.size, 0, none⟩ = some (.int .i64 k) := (H.blk 0 rfl).cell 0
    have evf0 : (wb).frozen? ⟨w.heap.size, 0, none⟩ = false := (H.blk 0 rfl).frozen 0
    have ev1 : (wb).cell? ⟨w.heap.size, 1, none⟩ = some (.int .i64 me) := (H.blk 0 rfl).cell 1
    have evf1 : (wb).frozen? ⟨w.heap.size, 1, none⟩ = false := (H.blk 0 rfl).frozen 1
    have ev2 : (wb).cell? ⟨w.heap.size, 2, none⟩ = some (.int .i64 mo) := (H.blk 0 rfl).cell 2
    have evf2 : (wb).frozen? ⟨w.heap.size, 2, none⟩ = false := (H.blk 0 rfl).frozen 2
    have ev3 : (wb).cell? ⟨w.heap.size, 3, none⟩ = some (.int .i64 id) := (H.blk 0 rfl).cell 3
    have evf3 : (wb).frozen? ⟨w.heap.size, 3, none⟩ = false := (H.blk 0 rfl).frozen 3
    have ev4 : (wb).cell? ⟨w.heap.size, 4, none⟩ = some (.int .i64 te) := (H.blk 0 rfl).cell 4
    have evf4 : (wb).frozen? ⟨w.heap.size, 4, none⟩ = false := (H.blk 0 rfl).frozen 4
    have ev5 : (wb).cell? ⟨w.heap.size, 5, none⟩ = some (.int .i64 de) := (H.blk 0 rfl).cell 5
    have evf5 : (wb).frozen? ⟨w.heap.size, 5, none⟩ = false := (H.blk 0 rfl).frozen 5
    have ev6 : (wb).cell? ⟨w.heap.size, 6, none⟩ = some (.int .i64 fe) := (H.blk 0 rfl).cell 6
    have evf6 : (wb).frozen? ⟨w.heap.size, 6, none⟩ = false := (H.blk 0 rfl).frozen 6
    have ev7 : (wb).cell? ⟨w.heap.size, 7, none⟩ = some (.int .i64 pr) := (H.blk 0 rfl).cell 7
    have evf7 : (wb).frozen? ⟨w.heap.size, 7, none⟩ = false := (H.blk 0 rfl).frozen 7
    have ev8 : (wb).cell? ⟨w.heap.size, 8, none⟩ = some (.int .i64 ch) := (H.blk 0 rfl).cell 8
    have evf8 : (wb).frozen? ⟨w.heap.size, 8, none⟩ = false := (H.blk 0 rfl).frozen 8
    have ev9 : (wb).cell? ⟨w.heap.size, 9, none⟩ = some (.int .i64 un) := (H.blk 0 rfl).cell 9
    have evf9 : (wb).frozen? ⟨w.heap.size, 9, none⟩ = false := (H.blk 0 rfl).frozen 9
    have ev10 : (wb).cell? ⟨w.heap.size, 10, none⟩ = some (.int .i64 tg) := (H.blk 0 rfl).cell 10
    have evf10 : (wb).frozen? ⟨w.heap.size, 10, none⟩ = false := (H.blk 0 rfl).frozen 10
    have ev11 : (wb).cell? ⟨w.heap.size, 11, none⟩ = some (.int .i64 ow) := (H.blk 0 rfl).cell 11
    have evf11 : (wb).frozen? ⟨w.heap.size, 11, none⟩ = false := (H.blk 0 rfl).frozen 11
    have ev12 : (wb).cell? ⟨w.heap.size, 12, none⟩ = some (.int .i64 bp) := (H.blk 0 rfl).cell 12
    have evf12 : (wb).frozen? ⟨w.heap.size, 12, none⟩ = false := (H.blk 0 rfl).frozen 12
    have evlt : w.heap.size < (wb).heap.size := H.lt 0 rfl
    have er0 : (wb).cell? ⟨w.heap.size + 1, 0, none⟩ = some (.int .i64 0) := (H.blk 1 rfl).cell 0
    have erf0 : (wb).frozen? ⟨w.heap.size + 1, 0, none⟩ = false := (H.blk 1 rfl).frozen 0
    have erlt : w.heap.size + 1 < (wb).heap.size := H.lt 1 rfl
    have ne_ev_er : w.heap.size ≠ w.heap.size + 1 := H.ne 0 1 rfl rfl (by decide)
    have ne_er_ev : w.heap.size + 1 ≠ w.heap.size := H.ne 1 0 rfl rfl (by decide)
    clear hbb

    go_wp2
    go_loopw [2, 10] (fun v i wr => ∃ (q : Nat) (A : Option Addr) (c : Nat), q ≤ 13 ∧ i = .int .i64 (q : Int) ∧ v = .slice A q c ∧ Mem w [] wr [.blk w.heap.size 27 #[.int .i64 k, .int .i64 me, .int .i64 mo, .int .i64 id, .int .i64 te, .int .i64 de, .int .i64 fe, .int .i64 pr, .int .i64 ch, .int .i64 un, .int .i64 tg, .int .i64 ow, .int .i64 bp], .blk (w.heap.size + 1) 29 #[.int .i64 0], .row w.heap.size 71 1 (.slice A q c) q (((evL k me mo id te de fe pr ch un tg ow bp).take q).map (Value.int .u32))]) (fun _ i _ => 13 - (intOf i).toNat)
    case atStart => exact ⟨0, none, 0, by omega, rfl, rfl, H.nilrow _ _ _⟩
    case round =>
      obtain ⟨q, A, c, hq, rfl, rfl, HM⟩ := hrel
      clear ev0 evf0 ev1 evf1 ev2 evf2 ev3 evf3 ev4 evf4 ev5 evf5 ev6 evf6 ev7 evf7 ev8 evf8 ev9 evf9 ev10 evf10 ev11 evf11 ev12 evf12 evlt er0 erf0 erlt ne_ev_er ne_er_ev
      clear H
      have H : Mem (w) [] (wr) [.blk (w.heap.size) 27 #[.int .i64 k, .int .i64 me, .int .i64 mo, .int .i64 id, .int .i64 te, .int .i64 de, .int .i64 fe, .int .i64 pr, .int .i64 ch, .int .i64 un, .int .i64 tg, .int .i64 ow, .int .i64 bp], .blk (w.heap.size + 1) 29 #[.int .i64 0], .row (w.heap.size) (71) (1) (.slice A q c) (q) (((evL k me mo id te de fe pr ch un tg ow bp).take q).map (Value.int .u32))] := HM
      clear HM

      by_cases hlt : q < 13
      · have hp := fun W => pidx w.heap.size q hlt W
        have hc : wr.cell? ⟨w.heap.size, q, none⟩ = some (.int .i64 ((evL k me mo id te de fe pr ch un tg ow bp).getD q 0)) := ((H.blk 0 rfl).cell q).trans (ev_cell k me mo id te de fe pr ch un tg ow bp q hlt)
        obtain ⟨x0, x1⟩ := ev_bd HOK.out q hlt
        have ht := ev_take k me mo id te de fe pr ch un tg ow bp q hlt
        obtain ⟨x, hx⟩ : ∃ x, (evL k me mo id te de fe pr ch un tg ow bp).getD q 0 = x := ⟨_, rfl⟩
        rw [hx] at hc x0 x1 ht
        have hw := u32_of x0 x1
        have HT := Lib.hid ht
        clear hx ht

        go_wp2_with (at_builtin; refine wpList_pushM el_u32 rfl (.tmp 13) (.tmp 18) rfl 2 H rfl rfl _ rfl rfl (news := [.int .u32 x]) rfl (fun u hu => by simp at hu; subst hu; rfl) (by omega) (by unfold maxLen; omega) H.keep.size ?_; intro A1 c1 w1 H1)
        replace H : Mem (w) [] (w1) [.blk (w.heap.size) 27 #[.int .i64 k, .int .i64 me, .int .i64 mo, .int .i64 id, .int .i64 te, .int .i64 de, .int .i64 fe, .int .i64 pr, .int .i64 ch, .int .i64 un, .int .i64 tg, .int .i64 ow, .int .i64 bp], .blk (w.heap.size + 1) 29 #[.int .i64 0], .row (w.heap.size) (71) (1) (.slice A1 (q + 1) c1) (q + 1) (((evL k me mo id te de fe pr ch un tg ow bp).take q).map (Value.int .u32) ++ [.int .u32 x])] := H1
        clear H1
        go_roundw
        case rel =>
          refine ⟨q + 1, A1, c1, by omega, by go_num, rfl, ?_⟩
          rw [HT.out, List.map_append]
          exact H
        case measure => simp [intOf]; omega
      · skip
        have er0 : (wr).cell? ⟨w.heap.size + 1, 0, none⟩ = some (.int .i64 0) := (H.blk 1 rfl).cell 0
        have erf0 : (wr).frozen? ⟨w.heap.size + 1, 0, none⟩ = false := (H.blk 1 rfl).frozen 0
        have erlt : w.heap.size + 1 < (wr).heap.size := H.lt 1 rfl
        go_wp2
        obtain ⟨wz, hwz⟩ : ∃ wz, (wr).setCell ⟨w.heap.size + 1, 0, none⟩ (.int .i64 0) = wz := ⟨_, rfl⟩
        replace H : Mem (w) [] _ [.blk (w.heap.size) 27 #[.int .i64 k, .int .i64 me, .int .i64 mo, .int .i64 id, .int .i64 te, .int .i64 de, .int .i64 fe, .int .i64 pr, .int .i64 ch, .int .i64 un, .int .i64 tg, .int .i64 ow, .int .i64 bp], .blk (w.heap.size + 1) 29 #[.int .i64 0], .row (w.heap.size) (71) (1) (.slice A q c) (q) (((evL k me mo id te de fe pr ch un tg ow bp).take q).map (Value.int .u32))] := Mem.set 1 H rfl 0 (.int .i64 0)
        rw [hwz] at H ⊢
        clear hwz
        have hl := enc_idle (i := 1) H rfl
        refine leaves_cons (f := 21) (args := #[.pointer (some ⟨w.heap.size + 1, 0, none⟩)]) (by simp) (by simp [go_sem]) ?_
        refine hl.mono ?_
        rintro e u' wy ⟨rfl, rfl, HY⟩
        have e0 : wy.cell? ⟨w.heap.size + 1, 0, none⟩ = some (.int .i64 0) := (HY.blk 1 rfl).cell 0
        obtain rfl : q = 13 := by omega
        simp [Go.Leaves, settle, results, Try.results9, go_sem, e0]
        exact .inl ⟨HOK.out, A, c, rfl, HY.ownb 2 rfl, HY.below⟩
  · skip
    replace H : Mem (w) [] (wa) [.blk (w.heap.size) 27 #[.int .i64 k, .int .i64 me, .int .i64 mo, .int .i64 id, .int .i64 te, .int .i64 de, .int .i64 fe, .int .i64 pr, .int .i64 ch, .int .i64 un, .int .i64 tg, .int .i64 ow, .int .i64 bp], .blk (w.heap.size + 1) 29 #[.int .i64 0]] := Mem.call H hba
    have HNO := Lib.hid hno
    clear hba hW0 hno
    go_wp2
    have hl := enc_catch (i := 1) 5 [] H rfl
    refine leaves_cons (f := 21) (args := #[.pointer (some ⟨w.heap.size + 1, 0, none⟩)]) (by simp) (by simp [go_sem]) ?_
    refine hl.mono ?_
    rintro e u' wy ⟨rfl, rfl, HY⟩
    have e0 : wy.cell? ⟨w.heap.size + 1, 0, none⟩ = some (.int .i64 5) := (HY.blk 1 rfl).cell 0
    simp [Go.Leaves, settle, results, Try.results9, go_sem, e0]
    exact .inr ⟨HNO.out, rfl, HY.below⟩
end Go.Proofs.Ythhbnmmhjfgpdaa

/- A new meter: newMeter, may, Used of the empty window, Tick. -/
import Derived.Test.YthhbnmmhjfgpdaaPicked
import Derived.Test.YthhbnmmhjfgpdaaFit
import Derived.StillTailTactics
import Derived.OwnWalk
namespace Go.Proofs.Ythhbnmmhjfgpdaa
open Go.RowKit
theorem still_tail_drew {P : Program} {id : Nat} {Q : Exit → Act → World → Prop} {a : Act} {w : World} {l : List Oper} (n : Nat) (hm : P.follows .mixedOrders = true) (hB : Region.lexTailB .any l.toArray n = true)
    (h : wpStill P l.toArray w.drew (fun a' => wpList P l.toArray Q (l.drop n) a' w.drew) (l.take n) a) : (Code.region id l.toArray true).wp P Q a w := wp_region_still_tail n hm hB h
theorem below_ad2 (w : World) (a b : Obj) : Below w.heap.size w ((w.alloc a).alloc b).drew := by
  have k := below_a2 w a b
  exact ⟨k.os, k.tape, k.output, k.size, k.block⟩
theorem cell_first (w : World) (A : Array Value) (t : TypeId) (o : Obj) (i : Nat) : ((w.alloc (.cells A t)).alloc o).cell? ⟨w.heap.size, i, none⟩ = A[i]? := by
  have h : ((w.alloc (.cells A t)).alloc o).heap[w.heap.size]? = some (.cells A t (0, 0)) := (Below.heap_alloc (w.alloc (.cells A t)) o w.heap.size (by simp)).trans (heap_alloc_new w _)
  rw [cell_of_row _ _ _ _ _ _ h]
theorem cell_second (w : World) (A : Array Value) (t : TypeId) (o : Obj) (i : Nat) : ((w.alloc o).alloc (.cells A t)).cell? ⟨w.heap.size + 1, i, none⟩ = A[i]? := by
  have h : ((w.alloc o).alloc (.cells A t)).heap[w.heap.size + 1]? = some (.cells A t (0, 0)) := by
    have := heap_alloc_new (w.alloc o) (.cells A t)
    simpa using this
  rw [cell_of_row _ _ _ _ _ _ h]
/-- A meter that took nothing yet. -/
def mtr (me rev cr bad : Int) : Value := .agg #[.int .i64 me, .int .i64 rev, .int .i64 cr, .int .i64 0, .int .u64 0, .int .i64 bad, .int .i64 0]
set_option maxHeartbeats 1000000 in
theorem winmay0 (w : World) : Calls Try.prog 51 #[.agg #[.int .i64 0, .int .u64 0]] w fun e w' => e = .returned (.bool true) ∧ Below w.heap.size w w' := by
  go_enter Try.func51, Try.ntmps51
  go_wp2
  go_ret
  exact ⟨rfl, below_a1 _ _⟩
set_option maxHeartbeats 1000000 in
theorem used0 (w : World) : Calls Try.prog 39 #[.agg #[.int .i64 0, .int .u64 0]] w fun e w' => e = .returned (.tuple #[.slice none 0 0, .int .i64 0]) ∧ Below w.heap.size w w' := by
  go_enter Try.func39, Try.ntmps39
  go_wp2_with fail
  refine (winmay0 _).mono ?_
  rintro e wa ⟨rfl, hb⟩
  have hs := hb.size
  simp at hs
  obtain ⟨c, f⟩ := bcell hb
  go_wp2
  refine wp_loop_rounds 1 ?_
  rw [rounds_succ]
  go_wp2
  go_ret2
  exact ⟨rfl, (below_a1 _ _).step hb⟩
set_option maxHeartbeats 1000000 in
theorem meterMay_ok (me rev cr bad : Nat) (w : World) (h1 : me < 50) (h2 : rev ≤ 15) (h3 : cr ≤ 99999999) (h4 : bad < 5) :
    Calls Try.prog 31 #[mtr me rev cr bad] w fun e w' => e = .returned (.bool true) ∧ Below w.heap.size w w' := by
  unfold mtr
  have hbad : decide (0 < bad) = true ∨ decide (0 < bad) = false := by cases decide (0 < bad) <;> simp
  rcases hbad with hbad | hbad
  all_goals
    go_enter Try.func31, Try.ntmps31
    go_wp2_with fail
    refine (used0 _).mono ?_
    rintro e wa ⟨rfl, hb⟩
    go_wp2
    go_ret
    exact ⟨rfl, (below_a1 _ _).step hb⟩
set_option maxHeartbeats 4000000 in
theorem tick_ok (me rev cr bad load b z : Nat) (w : World) (h1 : me < 50) (h2 : rev ≤ 15) (h3 : cr ≤ 99999999) (h4 : bad < 5) (h5 : load ≤ 1000) (hb : (load ≤ cr ∧ load = b) ∨ (cr < load ∧ cr = b)) (hz : (cr : Int) - (b : Int) = (z : Int)) :
    Calls Try.prog 20 #[mtr me rev cr bad, .int .i64 load] w fun e w' => e = .returned (.tuple #[mtr me rev z bad, .int .i64 b, .int .i64 0]) ∧ Below w.heap.size w w' := by
  have hM := fun W => meterMay_ok me rev cr bad W h1 h2 h3 h4
  unfold mtr at *
  rcases hb with ⟨hb, hbb⟩ | ⟨hb, hbb⟩
  · subst hbb
    go_enter Try.func20, Try.ntmps20
    go_wp2_with fail
    refine (hM _).mono ?_
    rintro e wa ⟨rfl, hba⟩
    have hs := hba.size
    simp at hs
    obtain ⟨c, f⟩ := bcell hba
    have n1 : w.heap.size < wa.heap.size := by omega
    have n2 : w.heap.size + 1 < wa.heap.size := by omega
    have r0 : wa.cell? ⟨w.heap.size, 0, none⟩ = some (.int .i64 me) := (c _ _ (by simp only [World.alloc, Array.size_push]; omega)).trans (cell_first _ _ _ _ _)
    have r1 : wa.cell? ⟨w.heap.size, 1, none⟩ = some (.int .i64 rev) := (c _ _ (by simp only [World.alloc, Array.size_push]; omega)).trans (cell_first _ _ _ _ _)
    have r2 : wa.cell? ⟨w.heap.size, 2, none⟩ = some (.int .i64 cr) := (c _ _ (by simp only [World.alloc, Array.size_push]; omega)).trans (cell_first _ _ _ _ _)
    have r3 : wa.cell? ⟨w.heap.size, 3, none⟩ = some (.int .i64 0) := (c _ _ (by simp only [World.alloc, Array.size_push]; omega)).trans (cell_first _ _ _ _ _)
    have r4 : wa.cell? ⟨w.heap.size, 4, none⟩ = some (.int .u64 0) := (c _ _ (by simp only [World.alloc, Array.size_push]; omega)).trans (cell_first _ _ _ _ _)
    have r5 : wa.cell? ⟨w.heap.size, 5, none⟩ = some (.int .i64 bad) := (c _ _ (by simp only [World.alloc, Array.size_push]; omega)).trans (cell_first _ _ _ _ _)
    have r6 : wa.cell? ⟨w.heap.size, 6, none⟩ = some (.int .i64 0) := (c _ _ (by simp only [World.alloc, Array.size_push]; omega)).trans (cell_first _ _ _ _ _)
    have t0 : wa.cell? ⟨w.heap.size + 1, 0, none⟩ = some (.int .i64 0) := (c _ _ (by simp only [World.alloc, Array.size_push]; omega)).trans (cell_second _ _ _ _ _)
    have t1 : wa.cell? ⟨w.heap.size + 1, 1, none⟩ = some (.int .i64 0) := (c _ _ (by simp only [World.alloc, Array.size_push]; omega)).trans (cell_second _ _ _ _ _)
    have t2 : wa.cell? ⟨w.heap.size + 1, 2, none⟩ = some (.int .i64 0) := (c _ _ (by simp only [World.alloc, Array.size_push]; omega)).trans (cell_second _ _ _ _ _)
    have t3 : wa.cell? ⟨w.heap.size + 1, 3, none⟩ = some (.int .i64 0) := (c _ _ (by simp only [World.alloc, Array.size_push]; omega)).trans (cell_second _ _ _ _ _)
    have t4 : wa.cell? ⟨w.heap.size + 1, 4, none⟩ = some (.int .u64 0) := (c _ _ (by simp only [World.alloc, Array.size_push]; omega)).trans (cell_second _ _ _ _ _)
    have t5 : wa.cell? ⟨w.heap.size + 1, 5, none⟩ = some (.int .i64 0) := (c _ _ (by simp only [World.alloc, Array.size_push]; omega)).trans (cell_second _ _ _ _ _)
    have t6 : wa.cell? ⟨w.heap.size + 1, 6, none⟩ = some (.int .i64 0) := (c _ _ (by simp only [World.alloc, Array.size_push]; omega)).trans (cell_second _ _ _ _ _)
    have bb := (below_a2 w _ _).step hba
    clear c hba
    go_wp2
    refine bodyPost_ret (v := .tuple #[.agg #[.int .i64 me, .int .i64 rev, .int .i64 z, .int .i64 0, .int .u64 0, .int .i64 bad, .int .i64 0], .int .i64 load, .int .i64 0]) (by simp [results, Try.results20, go_sem, t0, t1, t2, t3, t4, t5, t6]; done) rfl ⟨rfl, ?_⟩
    repeat (first | with_reducible exact bb | (with_reducible refine Below.setCell ?_ ?bd _; case bd => (show _ ≤ _; dsimp only; omega)))
  · subst hbb
    go_enter Try.func20, Try.ntmps20
    go_wp2_with fail
    refine (hM _).mono ?_
    rintro e wa ⟨rfl, hba⟩
    have hs := hba.size
    simp at hs
    obtain ⟨c, f⟩ := bcell hba
    have n1 : w.heap.size < wa.heap.size := by omega
    have n2 : w.heap.size + 1 < wa.heap.size := by omega
    have r0 : wa.cell? ⟨w.heap.size, 0, none⟩ = some (.int .i64 me) := (c _ _ (by simp only [World.alloc, Array.size_push]; omega)).trans (cell_first _ _ _ _ _)
    have r1 : wa.cell? ⟨w.heap.size, 1, none⟩ = some (.int .i64 rev) := (c _ _ (by simp only [World.alloc, Array.size_push]; omega)).trans (cell_first _ _ _ _ _)
    have r2 : wa.cell? ⟨w.heap.size, 2, none⟩ = some (.int .i64 cr) := (c _ _ (by simp only [World.alloc, Array.size_push]; omega)).trans (cell_first _ _ _ _ _)
    have r3 : wa.cell? ⟨w.heap.size, 3, none⟩ = some (.int .i64 0) := (c _ _ (by simp only [World.alloc, Array.size_push]; omega)).trans (cell_first _ _ _ _ _)
    have r4 : wa.cell? ⟨w.heap.size, 4, none⟩ = some (.int .u64 0) := (c _ _ (by simp only [World.alloc, Array.size_push]; omega)).trans (cell_first _ _ _ _ _)
    have r5 : wa.cell? ⟨w.heap.size, 5, none⟩ = some (.int .i64 bad) := (c _ _ (by simp only [World.alloc, Array.size_push]; omega)).trans (cell_first _ _ _ _ _)
    have r6 : wa.cell? ⟨w.heap.size, 6, none⟩ = some (.int .i64 0) := (c _ _ (by simp only [World.alloc, Array.size_push]; omega)).trans (cell_first _ _ _ _ _)
    have t0 : wa.cell? ⟨w.heap.size + 1, 0, none⟩ = some (.int .i64 0) := (c _ _ (by simp only [World.alloc, Array.size_push]; omega)).trans (cell_second _ _ _ _ _)
    have t1 : wa.cell? ⟨w.heap.size + 1, 1, none⟩ = some (.int .i64 0) := (c _ _ (by simp only [World.alloc, Array.size_push]; omega)).trans (cell_second _ _ _ _ _)
    have t2 : wa.cell? ⟨w.heap.size + 1, 2, none⟩ = some (.int .i64 0) := (c _ _ (by simp only [World.alloc, Array.size_push]; omega)).trans (cell_second _ _ _ _ _)
    have t3 : wa.cell? ⟨w.heap.size + 1, 3, none⟩ = some (.int .i64 0) := (c _ _ (by simp only [World.alloc, Array.size_push]; omega)).trans (cell_second _ _ _ _ _)
    have t4 : wa.cell? ⟨w.heap.size + 1, 4, none⟩ = some (.int .u64 0) := (c _ _ (by simp only [World.alloc, Array.size_push]; omega)).trans (cell_second _ _ _ _ _)
    have t5 : wa.cell? ⟨w.heap.size + 1, 5, none⟩ = some (.int .i64 0) := (c _ _ (by simp only [World.alloc, Array.size_push]; omega)).trans (cell_second _ _ _ _ _)
    have t6 : wa.cell? ⟨w.heap.size + 1, 6, none⟩ = some (.int .i64 0) := (c _ _ (by simp only [World.alloc, Array.size_push]; omega)).trans (cell_second _ _ _ _ _)
    have bb := (below_a2 w _ _).step hba
    clear c hba
    go_wp2
    refine bodyPost_ret (v := .tuple #[.agg #[.int .i64 me, .int .i64 rev, .int .i64 z, .int .i64 0, .int .u64 0, .int .i64 bad, .int .i64 0], .int .i64 cr, .int .i64 0]) (by simp [results, Try.results20, go_sem, t0, t1, t2, t3, t4, t5, t6]; done) rfl ⟨rfl, ?_⟩
    repeat (first | with_reducible exact bb | (with_reducible refine Below.setCell ?_ ?bd _; case bd => (show _ ≤ _; dsimp only; omega)))
end Go.Proofs.Ythhbnmmhjfgpdaa

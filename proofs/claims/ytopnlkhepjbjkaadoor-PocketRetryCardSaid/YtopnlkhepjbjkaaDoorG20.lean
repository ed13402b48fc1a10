/- A new meter: newMeter, may, Used of the empty window, Tick. -/
import Derived.Test.YtopnlkhepjbjkaaDoorG1
import Derived.Test.YtopnlkhepjbjkaaDoorG2
import Derived.StillTailTactics
import Derived.OwnWalk
import Derived.Test.YtopnlkhepjbjkaaDoorG11
namespace Go.Proofs.YtopnlkhepjbjkaaDoor
open Go.RowKit
theorem cell_first (w : World) (A : Array Value) (t : TypeId) (o : Obj) (i : Nat) : ((w.alloc (.cells A t)).alloc o).cell? ⟨w.heap.size, i, none⟩ = A[i]? := by
  have h : ((w.alloc (.cells A t)).alloc o).heap[w.heap.size]? = some (.cells A t (0, 0)) := (Below.heap_alloc (w.alloc (.cells A t)) o w.heap.size (by simp)).trans (heap_alloc_new w _)
  rw [cell_of_row _ _ _ _ _ _ h]
theorem cell_second (w : World) (A : Array Value) (t : TypeId) (o : Obj) (i : Nat) : ((w.alloc o).alloc (.cells A t)).cell? ⟨w.heap.size + 1, i, none⟩ = A[i]? := by
  have h : ((w.alloc o).alloc (.cells A t)).heap[w.heap.size + 1]? = some (.cells A t (0, 0)) := by
    have := heap_alloc_new (w.alloc o) (.cells A t)
    simpa using this
  rw [cell_of_row _ _ _ _ _ _ h]
/-- A meter that took nothing yet. -/
def mtr (me rev cr bad : Int) : Value := .agg #[.int .i64 me, .int .i64 rev, .int .i64 cr, .int .i64 0, .int .u64 0, .int .i64 bad, .int .i64 0]
set_option maxHeartbeats 1000000 in
theorem winmay0 (w : World) : Calls Tryd.prog 87 #[.agg #[.int .i64 0, .int .u64 0]] w fun e w' => e = .returned (.bool true) ∧ Below w.heap.size w w' := by
  go_enter Tryd.func87, Tryd.ntmps87
  go_wp2
  go_ret
  exact ⟨rfl, below_a1 _ _⟩
set_option maxHeartbeats 1000000 in
theorem used0 (w : World) : Calls Tryd.prog 61 #[.agg #[.int .i64 0, .int .u64 0]] w fun e w' => e = .returned (.tuple #[.slice none 0 0, .int .i64 0]) ∧ Below w.heap.size w w' := by
  go_enter Tryd.func61, Tryd.ntmps61
  go_wp2_with fail
  refine (winmay0 _).mono ?_
  rintro e wa ⟨rfl, hb⟩
  have hs := hb.size
  simp at hs
  obtain ⟨c, f⟩ := bcell hb
  go_wp2
  refine wp_loop_rounds 1 ?_
  rw [rounds_succ]
  go_wp2
  go_ret2
  exact ⟨rfl, (below_a1 _ _).step hb⟩
set_option maxHeartbeats 1000000 in
theorem meterMay_ok (me rev cr bad : Nat) (w : World) (h1 : me < 50) (h2 : rev ≤ 15) (h3 : cr ≤ 99999999) (h4 : bad < 5) :
    Calls Tryd.prog 33 #[mtr me rev cr bad] w fun e w' => e = .returned (.bool true) ∧ Below w.heap.size w w' := by
  unfold mtr
  have hbad : decide (0 < bad) = true ∨ decide (0 < bad) = false := by cases decide (0 < bad) <;> simp
  rcases hbad with hbad | hbad
  all_goals
    go_enter Tryd.func33, Tryd.ntmps33
    go_wp2_with fail
    refine (used0 _).mono ?_
    rintro e wa ⟨rfl, hb⟩
    go_wp2
    go_ret
    exact ⟨rfl, (below_a1 _ _).step hb⟩
end Go.Proofs.YtopnlkhepjbjkaaDoor

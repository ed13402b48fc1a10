/- A new meter: newMeter, may, Used of the empty window, Tick. -/
import Derived.Test.YtakdjggpengbhaaDoorPicked
import Derived.Test.YtakdjggpengbhaaDoorFit
import Derived.StillTailTactics
import Derived.OwnWalk
namespace Go.Proofs.YtakdjggpengbhaaDoor
open Go.RowKit
theorem still_tail_drew {P : Program} {id : Nat} {Q : Exit → Act → World → Prop} {a : Act} {w : World} {l : List Oper} (n : Nat) (hm : P.follows .mixedOrders = true) (hB : Region.lexTailB .any l.toArray n = true)
    (h : wpStill P l.toArray w.drew (fun a' => wpList P l.toArray Q (l.drop n) a' w.drew) (l.take n) a) : (Code.region id l.toArray true).wp P Q a w := wp_region_still_tail n hm hB h
theorem below_ad2 (w : World) (a b : Obj) : Below w.heap.size w ((w.alloc a).alloc b).drew := by
  have k := below_a2 w a b
  exact ⟨k.os, k.tape, k.output, k.size, k.block⟩
theorem cell_first (w : World) (A : Array Value) (t : TypeId) (o : Obj) (i : Nat) : ((w.alloc (.cells A t)).alloc o).cell? ⟨w.heap.size, i, none⟩ = A[i]? := by
  have h : ((w.alloc (.cells A t)).alloc o).heap[w.heap.size]? = some (.cells A t (0, 0)) := (Below.heap_alloc (w.alloc (.cells A t)) o w.heap.size (by simp)).trans (heap_alloc_new w _)
  rw [cell_of_row _ _ _ _ _ _ h]
theorem cell_second (w : World) (A : Array Value) (t : TypeId) (o : Obj) (i : Nat) : ((w.alloc o).alloc (.cells A t)).cell? ⟨w.heap.size + 1, i, none⟩ = A[i]? := by
  have h : ((w.alloc o).alloc (.cells A t)).heap[w.heap.size + 1]? = some (.cells A t (0, 0)) := by
    have := heap_alloc_new (w.alloc o) (.cells A t)
    simpa using this
  rw [cell_of_row _ _ _ _ _ _ h]
/-- A meter that took nothing yet. -/
def mtr (me rev cr bad : Int) : Value := .agg #[.int .i64 me, .int .i64 rev, .int .i64 cr, .int .i64 0, .int .u64 0, .int .i64 bad, .int .i64 0]
set_option maxHeartbeats 1000000 in
theorem winmay0 (w : World) : Calls Tryd.prog 105 #[.agg #[.int .i64 0, .int .u64 0]] w fun e w' => e = .returned (.bool true) ∧ Below w.heap.size w w' := by
  go_enter Tryd.func105, Tryd.ntmps105
  go_wp2
  go_ret
  exact ⟨rfl, below_a1 _ _⟩
set_option maxHeartbeats 1000000 in
theorem used0 (w : World) : Calls Tryd.prog 80 #[.agg #[.int .i64 0, .int .u64 0]] w fun e w' => e = .returned (.tuple #[.slice none 0 0, .int .i64 0]) ∧ Below w.heap.size w w' := by
  go_enter Tryd.func80, Tryd.ntmps80
  go_wp2_with fail
  refine (winmay0 _).mono ?_
  rintro e wa ⟨rfl, hb⟩
  have hs := hb.size
  simp at hs
  obtain ⟨c, f⟩ := bcell hb
  go_wp2
  refine wp_loop_rounds 1 ?_
  rw [rounds_succ]
  go_wp2
  go_ret2
  exact ⟨rfl, (below_a1 _ _).step hb⟩
set_option maxHeartbeats 1000000 in
theorem meterMay_ok (me rev cr bad : Nat) (w : World) (h1 : me < 50) (h2 : rev ≤ 15) (h3 : cr ≤ 99999999) (h4 : bad < 5) :
    Calls Tryd.prog 53 #[mtr me rev cr bad] w fun e w' => e = .returned (.bool true) ∧ Below w.heap.size w w' := by
  unfold mtr
  have hbad : decide (0 < bad) = true ∨ decide (0 < bad) = false := by cases decide (0 < bad) <;> simp
  rcases hbad with hbad | hbad
  all_goals
    go_enter Tryd.func53, Tryd.ntmps53
    go_wp2_with fail
    refine (used0 _).mono ?_
    rintro e wa ⟨rfl, hb⟩
    go_wp2
    go_ret
    exact ⟨rfl, (below_a1 _ _).step hb⟩
set_option maxRecDepth 100000 in
set_option maxHeartbeats 1000000 in
theorem newm_ok (a b c d : Int) (w : World) (me rev cr bad : Int) (wa : (Lit.int .i64 a).wf = true) (wb : (Lit.int .i64 b).wf = true) (wc : (Lit.int .i64 c).wf = true) (wd : (Lit.int .i64 d).wf = true)
    (ha : Hid (pk a 50 = me)) (hb : Hid (pk b 16 = rev)) (hc : Hid (pk c 100000000 = cr)) (hd : Hid (pk d 5 = bad)) :
    Calls Tryd.prog 14 #[.agg #[.int .i64 a, .int .i64 b, .int .i64 c, .int .i64 d]] w fun e w' => e = .returned (mtr me rev cr bad) ∧ Below w.heap.size w w' := by
  unfold mtr
  go_enter Tryd.func14, Tryd.ntmps14
  go_wp2_with fail
  refine still_tail_drew 13 (by kernel_rfl) (by kernel_rfl) ?_
  simp only [List.take_succ_cons, List.take_zero, List.drop_succ_cons, List.drop_zero]
  repeat still_step
  still_call ((picked_is _ ha wa (by omega) (by omega)).mono fun _ _ h => ⟨h.1, h.2.symm⟩)
  repeat still_step
  still_call ((picked_is _ hb wb (by omega) (by omega)).mono fun _ _ h => ⟨h.1, h.2.symm⟩)
  repeat still_step
  still_call ((picked_is _ hc wc (by omega) (by omega)).mono fun _ _ h => ⟨h.1, h.2.symm⟩)
  repeat still_step
  still_call ((picked_is _ hd wd (by omega) (by omega)).mono fun _ _ h => ⟨h.1, h.2.symm⟩)
  repeat still_step
  refine wpStill_nil ?_
  go_wp2
  exact bodyPost_ret (v := .agg #[.int .i64 me, .int .i64 rev, .int .i64 cr, .int .i64 0, .int .u64 0, .int .i64 bad, .int .i64 0]) (by simp [results, Tryd.results14, go_sem]; done) rfl ⟨rfl, below_ad2 w _ _⟩
end Go.Proofs.YtakdjggpengbhaaDoor

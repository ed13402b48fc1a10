/- words.Cmp: cmp.Compare, slices.Reverse of three cells, slices.Compare of three cells. -/
import Derived.Test.YtaobohhkoakecaaWords
import Derived.BigRegion
namespace Go.Proofs.Ytaobohhkoakecaa
open Go.RowKit
/-- How two numbers compare. -/
def cmpN (a b : Nat) : Int := if a < b then -1 else if b < a then 1 else 0
set_option maxHeartbeats 400000 in
theorem cmp_ok (a b : Nat) (w : World) : Calls Try.prog 67 #[.int .u32 a, .int .u32 b] w fun e w' => e = .returned (.int .i64 (cmpN a b)) ∧ w = w' := by
  rcases Nat.lt_trichotomy a b with h | h | h
  · have e : cmpN a b = -1 := by unfold cmpN; rw [if_pos h]
    have hi : (a : Int) < (b : Int) := by omega
    rw [e]
    go_enter Try.func67, Try.ntmps67
    go_wp2_with (go_at_call 74; go_in)
    go_ret
    exact ⟨rfl, rfl⟩
  · subst h
    have e : cmpN a a = 0 := by unfold cmpN; simp
    rw [e]
    go_enter Try.func67, Try.ntmps67
    go_wp2_with (go_at_call 74; go_in)
    go_ret
    exact ⟨rfl, rfl⟩
  · have e : cmpN a b = 1 := by unfold cmpN; rw [if_neg (by omega), if_pos h]
    have hi : (b : Int) < (a : Int) := by omega
    have hi2 : ¬ (a : Int) < (b : Int) := by omega
    rw [e]
    go_enter Try.func67, Try.ntmps67
    go_wp2_with (go_at_call 74; go_in)
    go_ret
    exact ⟨rfl, rfl⟩
/-- Three cells of a block have changed their order; nothing else has changed. -/
def IsRev (g : Nat) (a c : Value) (w : World) (e : Ending) (w' : World) : Prop := e = .returned (.tuple #[]) ∧ w' = ((w.setCell ⟨g, 0, none⟩ c).setCell ⟨g, 2, none⟩ a).drew
set_option maxHeartbeats 1000000 in
theorem rev_ok (g : Nat) (a c : Nat) (w : World) (h0 : w.cell? ⟨g, 0, none⟩ = some (.int .u32 a)) (h2 : w.cell? ⟨g, 2, none⟩ = some (.int .u32 c))
    (f0 : w.frozen? ⟨g, 0, none⟩ = false) (f2 : w.frozen? ⟨g, 2, none⟩ = false) :
    Calls Try.prog 46 #[.slice (some ⟨g, 0, none⟩) 3 3] w (IsRev g (.int .u32 a) (.int .u32 c) w) := by
  go_enter Try.func46, Try.ntmps46
  go_wp2
  refine wp_loop_rounds 2 ?_
  rw [rounds_succ]
  go_wp2
  go_region
  all_goals go_wp2
  all_goals rw [rounds_succ]
  all_goals go_wp2
  all_goals exact bodyPost_ret (v := .tuple #[]) (by simp [results, Try.results46]; done) rfl ⟨rfl, rfl⟩
theorem rev3_ok (g : Nat) (a b c : Nat) (w : World) (h0 : w.cell? ⟨g, 0, none⟩ = some (.int .u32 a)) (h1 : w.cell? ⟨g, 1, none⟩ = some (.int .u32 b)) (h2 : w.cell? ⟨g, 2, none⟩ = some (.int .u32 c))
    (f0 : w.frozen? ⟨g, 0, none⟩ = false) (f2 : w.frozen? ⟨g, 2, none⟩ = false) :
    Calls Try.prog 46 #[.slice (some ⟨g, 0, none⟩) 3 3] w fun e w' => e = .returned (.tuple #[]) ∧ w'.cell? ⟨g, 0, none⟩ = some (.int .u32 c) ∧ w'.cell? ⟨g, 1, none⟩ = some (.int .u32 b) ∧ w'.cell? ⟨g, 2, none⟩ = some (.int .u32 a) ∧
      (∀ k o, k ≠ g → w'.cell? ⟨k, o, none⟩ = w.cell? ⟨k, o, none⟩) ∧ (∀ k o, w'.frozen? ⟨k, o, none⟩ = w.frozen? ⟨k, o, none⟩) ∧ Below g w w' ∧ w'.heap.size = w.heap.size := by
  refine (rev_ok g a c w h0 h2 f0 f2).mono ?_
  rintro e w' ⟨rfl, rfl⟩
  have hb : Below g w ((w.setCell ⟨g, 0, none⟩ (.int .u32 c)).setCell ⟨g, 2, none⟩ (.int .u32 a)).drew := by
    have k := ((Below.refl g w).setCell (p := ⟨g, 0, none⟩) (Nat.le_refl _) (.int .u32 c)).setCell (p := ⟨g, 2, none⟩) (Nat.le_refl _) (.int .u32 a)
    exact ⟨k.os, k.tape, k.output, k.size, k.block⟩
  refine ⟨rfl, ?_, ?_, ?_, ?_, ?_, hb, ?_⟩
  · go_simp
  · go_simp
  · go_simp
  · intro k o hk; have hk' := Ne.symm hk; go_simp
  · intro k o; go_simp
  · go_simp
/-- Three cells against three cells, the first ones first. -/
def cmp3 (a0 a1 a2 b0 b1 b2 : Nat) : Int := if cmpN a0 b0 ≠ 0 then cmpN a0 b0 else if cmpN a1 b1 ≠ 0 then cmpN a1 b1 else cmpN a2 b2
theorem cmp3_val {x0 x1 x2 y0 y1 y2 : Nat} (h0 : x0 < 4294967296) (h1 : x1 < 4294967296) (k0 : y0 < 4294967296) (k1 : y1 < 4294967296) : cmp3 x2 x1 x0 y2 y1 y0 = cmpN (val3 x0 x1 x2) (val3 y0 y1 y2) := by
  unfold cmp3 cmpN val3
  repeat' split
  all_goals omega
theorem cmp_is {a b : Nat} {c : Int} (w : World) (h : Hid (cmpN a b = c)) : Calls Try.prog 67 #[.int .u32 a, .int .u32 b] w fun e w' => e = .returned (.int .i64 c) ∧ w = w' := by
  rw [← h.out]; exact cmp_ok a b w
theorem cmp_let (a b : Nat) : ∃ c : Int, Hid (cmpN a b = c) ∧ -1 ≤ c ∧ c ≤ 1 := ⟨cmpN a b, rfl, by unfold cmpN; split <;> (try split) <;> omega, by unfold cmpN; split <;> (try split) <;> omega⟩
set_option maxHeartbeats 1000000 in
theorem compare_ok (g h a0 a1 a2 b0 b1 b2 : Nat) (w : World) (p0 : w.cell? ⟨g, 0, none⟩ = some (.int .u32 a0)) (p1 : w.cell? ⟨g, 1, none⟩ = some (.int .u32 a1)) (p2 : w.cell? ⟨g, 2, none⟩ = some (.int .u32 a2))
    (q0 : w.cell? ⟨h, 0, none⟩ = some (.int .u32 b0)) (q1 : w.cell? ⟨h, 1, none⟩ = some (.int .u32 b1)) (q2 : w.cell? ⟨h, 2, none⟩ = some (.int .u32 b2)) :
    Calls Try.prog 47 #[.slice (some ⟨g, 0, none⟩) 3 3, .slice (some ⟨h, 0, none⟩) 3 3] w fun e w' => e = .returned (.int .i64 (cmp3 a0 a1 a2 b0 b1 b2)) ∧ w = w' := by
  obtain ⟨c0, hc0, l0, u0⟩ := cmp_let a0 b0
  obtain ⟨c1, hc1, l1, u1⟩ := cmp_let a1 b1
  obtain ⟨c2, hc2, l2, u2⟩ := cmp_let a2 b2
  have e : cmp3 a0 a1 a2 b0 b1 b2 = if c0 ≠ 0 then c0 else if c1 ≠ 0 then c1 else c2 := by unfold cmp3; rw [hc0.out, hc1.out, hc2.out]
  rw [e]
  clear e
  go_enter Try.func47, Try.ntmps47
  go_wp2
  refine wp_loop_rounds 4 ?_
  rw [rounds_succ]
  go_wp2_with fail
  refine (cmp_is _ hc0).mono ?_
  rintro e w' ⟨rfl, rfl⟩
  by_cases hz0 : c0 = 0
  · subst hz0
    go_wp2
    rw [rounds_succ]
    go_wp2_with fail
    refine (cmp_is _ hc1).mono ?_
    rintro e w' ⟨rfl, rfl⟩
    by_cases hz1 : c1 = 0
    · subst hz1
      go_wp2
      rw [rounds_succ]
      go_wp2_with fail
      refine (cmp_is _ hc2).mono ?_
      rintro e w' ⟨rfl, rfl⟩
      by_cases hz2 : c2 = 0
      · subst hz2
        go_wp2
        rw [rounds_succ]
        go_wp2
        go_ret
        exact ⟨rfl, rfl⟩
      · have g2 : (c2 != 0) = true := by simp; omega
        go_wp2
        go_ret
        exact ⟨rfl, rfl⟩
    · have g1 : (c1 != 0) = true := by simp; omega
      go_wp2
      go_ret
      exact ⟨by simp, rfl⟩
  · have g0 : (c0 != 0) = true := by simp; omega
    go_wp2
    go_ret
    exact ⟨by simp, rfl⟩
set_option maxHeartbeats 1000000 in
theorem wcmp_ok (x0 x1 x2 y0 y1 y2 : Nat) (w : World) (h0 : x0 < 4294967296) (h1 : x1 < 4294967296) (h2 : x2 < 4294967296) (k0 : y0 < 4294967296) (k1 : y1 < 4294967296) (k2 : y2 < 4294967296) :
    Calls Try.prog 23 #[.agg #[.int .u32 x0, .int .u32 x1, .int .u32 x2], .agg #[.int .u32 y0, .int .u32 y1, .int .u32 y2]] w fun e w' => e = .returned (.int .i64 (cmpN (val3 x0 x1 x2) (val3 y0 y1 y2))) ∧ Below w.heap.size w w' := by
  by_cases he : val3 x0 x1 x2 = val3 y0 y1 y2
  · obtain ⟨rfl, rfl, rfl⟩ := val3_inj h0 h1 h2 k0 k1 k2 he
    have e : cmpN (val3 x0 x1 x2) (val3 x0 x1 x2) = 0 := by unfold cmpN; simp
    have hq := fun W => wide_eql x0 x1 x2 x0 x1 x2 W
    rw [e]
    simp at hq
    clear e he
    go_enter Try.func23, Try.ntmps23
    go_wp2
    go_ret
    exact ⟨rfl, below_a2 _ _ _⟩
  · have hd : ((x0 : Int) == y0 && ((x1 : Int) == y1 && (x2 : Int) == y2)) = false := by
      by_cases a : x0 = y0
      · by_cases b : x1 = y1
        · by_cases c : x2 = y2
          · exact absurd (by rw [a, b, c]) he
          · simp; omega
        · simp; omega
      · simp; omega
    have hq := fun W => (wide_eql x0 x1 x2 y0 y1 y2 W).trans (by rw [hd])
    rw [← cmp3_val h0 h1 k0 k1]
    clear he h0 h1 h2 k0 k1 k2
    go_enter Try.func23, Try.ntmps23
    go_wp2
    go_region
    go_wp2_with fail
    refine (rev3_ok w.heap.size x0 x1 x2 _ (by simp) (by simp) (by simp) (by go_simp) (by go_simp)).mono ?_
    rintro e wa ⟨rfl, p0, p1, p2, pk, pf, hba, sa⟩
    have r0 : wa.cell? ⟨w.heap.size + 1, 0, none⟩ = some (.int .u32 y0) := (pk _ _ (by omega)).trans (by simp)
    have r1 : wa.cell? ⟨w.heap.size + 1, 1, none⟩ = some (.int .u32 y1) := (pk _ _ (by omega)).trans (by simp)
    have r2 : wa.cell? ⟨w.heap.size + 1, 2, none⟩ = some (.int .u32 y2) := (pk _ _ (by omega)).trans (by simp)
    have f0 : wa.frozen? ⟨w.heap.size + 1, 0, none⟩ = false := (pf _ _).trans (by go_simp)
    have f2 : wa.frozen? ⟨w.heap.size + 1, 2, none⟩ = false := (pf _ _).trans (by go_simp)
    have bb : Below w.heap.size w wa := by
      have k := below_a2 w (.cells #[.int .u32 x0, .int .u32 x1, .int .u32 x2] 47) (.cells #[.int .u32 y0, .int .u32 y1, .int .u32 y2] 47)
      have k2 : Below w.heap.size w ((w.alloc (.cells #[.int .u32 x0, .int .u32 x1, .int .u32 x2] 47)).alloc (.cells #[.int .u32 y0, .int .u32 y1, .int .u32 y2] 47)).drew := ⟨k.os, k.tape, k.output, k.size, k.block⟩
      exact k2.trans hba
    clear pk pf hba
    go_wp2_with fail
    refine (rev3_ok (w.heap.size + 1) y0 y1 y2 _ r0 r1 r2 f0 f2).mono ?_
    rintro e wb ⟨rfl, q0, q1, q2, qk, qf, hbb, sb⟩
    have p0 := (qk w.heap.size 0 (by omega)).trans p0
    have p1 := (qk w.heap.size 1 (by omega)).trans p1
    have p2 := (qk w.heap.size 2 (by omega)).trans p2
    clear qk qf
    go_wp2_with fail
    refine (compare_ok w.heap.size (w.heap.size + 1) x2 x1 x0 y2 y1 y0 wb p0 p1 p2 q0 q1 q2).mono ?_
    rintro e w' ⟨rfl, rfl⟩
    go_wp2
    go_ret
    exact ⟨rfl, bb.trans (hbb.mono (by omega))⟩
end Go.Proofs.Ytaobohhkoakecaa

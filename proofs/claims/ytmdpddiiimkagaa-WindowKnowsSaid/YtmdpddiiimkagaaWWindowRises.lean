/- The walk of the law WindowRises. -/
import Derived.Test.YtmdpddiiimkagaaWin
import Derived.Test.YtmdpddiiimkagaaFlat
import Derived.Test.YtmdpddiiimkagaaCellD
namespace Go.Proofs.Ytmdpddiiimkagaa
open Go.RowKit
theorem judge_new {H B j : Nat} (h : H < j) : judge H B j = 0 := by
  unfold judge wk
  rw [if_neg (by omega), decide_eq_false (by omega)]; rfl
theorem judge_taken {H B j : Nat} (hm : WMay H B) (h1 : 1 ≤ j) (h : H < j) : judge (wtake H B j).1 (wtake H B j).2 j = 14 := by
  have hw := take_wk hm h1 (judge_new h) j
  have hh := take_high H B j
  rw [show (decide (max H j < j + 64) && (decide (j = j) || wk H B j)) = true by simp; omega] at hw
  unfold judge
  rw [if_neg (by omega), if_pos hw]
/-- A slice of integers that came in. -/
theorem Fit.intRow {P : Program} {w : World} {t e : TypeId} {v : Value} (h : Fit P w t v) (hu : P.underlying t = some (.slice e)) (hs : P.cellsOf e = 1) (hl : leafInts P e = some [.i64]) : ∃ (n : Nat) (f : Nat → Nat → Int), IsRows w v [.i64] n f :=
  h.rows (ks := [.i64]) hu hs (by simp) hl
set_option maxRecDepth 100000 in
set_option maxHeartbeats 1000000 in
theorem walk_windowRises (w : World) (a0 : Value) (w0 : Fit Try.prog w 53 a0) :
    Calls Try.prog 7 #[a0] w fun e w' => e = .returned (.bool true) ∧ Below w.heap.size w w' := by
  obtain ⟨n, f, hv⟩ := w0.intRow Try.underlying53 (by kernel_rfl) (by kernel_rfl)
  clear w0
  obtain ⟨A, d, rfl, hL1, hL2, hwf, hcell⟩ := hv
  have hL : n ≤ 9223372036854775807 := by unfold maxLen at hL2; omega
  clear hL1 hL2
  go_enter Try.func7, Try.ntmps7
  go_wp2
  go_loopw [4, 5] (fun h i wr => ∃ (k H B : Nat), k ≤ n ∧ k ≤ 300 ∧ H ≤ 3000 * k ∧ h = .int .i64 H ∧ i = .int .i64 k ∧ WMay H B ∧ Blk wr w.heap.size 55 #[.int .i64 H, .int .u64 B] ∧ Below w.heap.size w wr) (fun _ i _ => 300 - (intOf i).toNat)
  case atStart => exact ⟨0, 0, 0, by omega, by omega, by omega, rfl, rfl, .inl ⟨rfl, rfl⟩, Blk.new _ _ _, below_a1 _ _⟩
  case round =>
    obtain ⟨k, H, B, hk, hk3, hH, rfl, rfl, hm, hblk, hb⟩ := hrel
    have hglt := hblk.lt
    by_cases hlt : k < n ∧ k < 300
    · obtain ⟨hlt, hlt3⟩ := hlt
      obtain ⟨b, off, rfl, hB, hc⟩ := hcell (by omega)
      have q1 : wr.cell? ⟨b, off + k, none⟩ = some (.int .i64 (f k 0)) := by
        have := (hb.cell (p := ⟨b, off + (k * 1 + 0), none⟩) hB).trans (hc k hlt 0 _ rfl)
        simpa using this
      have z1 := hwf k hlt 0 _ rfl
      clear hc hcell hwf
      generalize f k 0 = x at *
      obtain ⟨r, hr, hrl⟩ := pk_nat x 3000 (by omega)
      have hi2 : (k : Int) < (n : Int) := by omega
      have hi3 : (k : Int) < 300 := by omega
      obtain ⟨j, hj⟩ : ∃ j : Nat, (H : Int) + (1 + (r : Int)) = (j : Int) := ⟨H + (1 + r), by omega⟩
      have hjH : H < j := by omega
      have hJ := Lib.hid (judge_new (B := B) hjH)
      have hT := take_may hm (by omega) (by omega) hJ.out
      have hU := judge_taken hm (by omega) hjH
      have hh := take_high H B j
      rw [show max H j = j by omega] at hh
      have hTk := fun W => take_ok H B j W hm (by omega) (by omega) hJ.out
      rw [hh] at hT hU hTk
      generalize (wtake H B j).2 = B2 at *
      have hJk := fun W => judge_ok j B2 j W hT (by omega) (by omega)
      rw [hU] at hJk
      clear hh hU
      have r0 : wr.cell? ⟨w.heap.size, 0, none⟩ = some (.int .i64 H) := hblk.cell 0
      have rf0 : wr.frozen? ⟨w.heap.size, 0, none⟩ = false := hblk.frozen 0
      have r1 : wr.cell? ⟨w.heap.size, 1, none⟩ = some (.int .u64 B) := hblk.cell 1
      have rf1 : wr.frozen? ⟨w.heap.size, 1, none⟩ = false := hblk.frozen 1
      go_wp2_with fail
      refine (picked_is _ hr z1 (by omega) (by omega)).mono ?_
      rintro e w' ⟨rfl, rfl⟩
      go_wp2_with fail
      refine (hTk _).mono ?_
      rintro e wb ⟨rfl, hbb⟩
      have hblk2 := hblk.below hbb hblk.lt
      have hs := hbb.size
      go_wp2_with fail
      refine (hJk _).mono ?_
      rintro e wc ⟨rfl, hbc⟩
      have hs2 := hbc.size
      simp at hs2
      have hblk3 := (hblk2.alloc (.cells #[.int .i64 j, .int .u64 B2] 55)).below hbc (by simp; omega)
      have hblk4 := (Blk.new wb 55 #[.int .i64 j, .int .u64 B2]).below hbc (by simp)
      have n1 : w.heap.size < wb.heap.size := by omega
      have n2 : w.heap.size < wc.heap.size := by omega
      have n3 : wb.heap.size < wc.heap.size := by omega
      clear r0 rf0 r1 rf1
      have s0 : wc.cell? ⟨w.heap.size, 0, none⟩ = some (.int .i64 H) := hblk3.cell 0
      have sf0 : wc.frozen? ⟨w.heap.size, 0, none⟩ = false := hblk3.frozen 0
      have s1 : wc.cell? ⟨w.heap.size, 1, none⟩ = some (.int .u64 B) := hblk3.cell 1
      have sf1 : wc.frozen? ⟨w.heap.size, 1, none⟩ = false := hblk3.frozen 1
      have t0 : wc.cell? ⟨wb.heap.size, 0, none⟩ = some (.int .i64 j) := hblk4.cell 0
      have tf0 : wc.frozen? ⟨wb.heap.size, 0, none⟩ = false := hblk4.frozen 0
      have t1 : wc.cell? ⟨wb.heap.size, 1, none⟩ = some (.int .u64 B2) := hblk4.cell 1
      have tf1 : wc.frozen? ⟨wb.heap.size, 1, none⟩ = false := hblk4.frozen 1
      have bb := ((hb.trans (hbb.mono hb.size)).alloc (by omega) (.cells #[.int .i64 j, .int .u64 B2] 55)).trans (hbc.mono (by simp; omega))
      have hblk5 := (hblk3.set_ 0 (.int .i64 j)).set_ 1 (.int .u64 B2)
      clear hblk hblk2 hblk3 hblk4 hTk hJk
      go_wp2
      go_roundw
      case rel => exact ⟨k + 1, j, B2, by omega, by omega, by omega, rfl, by go_num, hT, hblk5, (bb.setCell (p := ⟨w.heap.size, 0, none⟩) (Nat.le_refl _) _).setCell (p := ⟨w.heap.size, 1, none⟩) (Nat.le_refl _) _⟩
      case measure => simp [intOf]; omega
    · have hlt1 : ((k : Int) < (n : Int) ∧ ¬ (k : Int) < 300) ∨ ¬ (k : Int) < (n : Int) := by omega
      clear hcell hwf
      rcases hlt1 with ⟨g1, g2⟩ | g1
      all_goals
        go_wp2
        go_ret
        exact ⟨rfl, hb⟩
end Go.Proofs.Ytmdpddiiimkagaa

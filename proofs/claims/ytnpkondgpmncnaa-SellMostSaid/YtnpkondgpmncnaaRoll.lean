/- account: roll, Roll. -/
import Derived.Test.YtnpkondgpmncnaaAcc
import Derived.Deep.RegionWith
import Derived.IntWalk
import Derived.Test.YtnpkondgpmncnaaSets
namespace Go.Proofs.Ytnpkondgpmncnaa
open Go.RowKit
set_option linter.unusedVariables false
/-- What a month's turn makes of the month's units and the debts. -/
def Rolled (m b : Nat) (l : List (Nat × Nat)) (m2 b2 : Nat) (l2 : List (Nat × Nat)) : Prop :=
  (m2 = m ∧ b2 = b ∧ l2 = l) ∨ (m < m2 ∧ b2 = 0 ∧ aged (m2 - m) l = l2)
theorem Rolled.len {m b : Nat} {l : List (Nat × Nat)} {m2 b2 : Nat} {l2 : List (Nat × Nat)} (h : Rolled m b l m2 b2 l2) : l2.length = l.length := by
  rcases h with ⟨_, _, rfl⟩ | ⟨_, _, rfl⟩
  · rfl
  · simp [aged]
theorem Rolled.ok {m b : Nat} {l : List (Nat × Nat)} {m2 b2 : Nat} {l2 : List (Nat × Nat)} (h : Rolled m b l m2 b2 l2) (hl : DOk l) : DOk l2 := by
  rcases h with ⟨_, _, rfl⟩ | ⟨_, _, rfl⟩
  · exact hl
  · exact aged_ok hl _
theorem rolled_ex (m b : Nat) (l : List (Nat × Nat)) (m2 : Nat) (h : m ≤ m2) : ∃ b2 l2, Rolled m b l m2 b2 l2 := by
  rcases Nat.lt_or_ge m m2 with h1 | h1
  · exact ⟨0, _, .inr ⟨h1, rfl, rfl⟩⟩
  · exact ⟨b, l, .inl ⟨by omega, rfl, rfl⟩⟩
set_option maxRecDepth 100000 in
set_option maxHeartbeats 1000000 in
theorem roll_ok (B g me rev next month bought : Nat) (free : Int) (l : List (Nat × Nat)) (At : Option Addr) (nt ct fx fb db al m2 b2 : Nat) (l2 : List (Nat × Nat)) (w : World) (hk : Ck B w g me rev next month bought free l At nt ct fx fb db al) (hl : DOk l) (hB : B ≤ w.heap.size)
    (hr : Rolled month bought l m2 b2 l2) (hm : m2 ≤ 2399) :
    Calls Try.prog 50 #[.pointer (some ⟨g, 0, none⟩), .int .i64 (m2 : Int)] w fun e w' => e = .returned (.int .i64 0) ∧ Ck B w' g me rev next m2 b2 free l2 At nt ct fx fb db al ∧ Below B w w' := by
  obtain ⟨hBg, A, c, hblk, hown⟩ := hk
  have k0 : w.cell? ⟨g, 0, none⟩ = some (.int .i64 (me : Int)) := hblk.cell 0
  have kf0 : w.frozen? ⟨g, 0, none⟩ = false := hblk.frozen 0
  have k1 : w.cell? ⟨g, 1, none⟩ = some (.int .i64 (rev : Int)) := hblk.cell 1
  have kf1 : w.frozen? ⟨g, 1, none⟩ = false := hblk.frozen 1
  have k2 : w.cell? ⟨g, 2, none⟩ = some (.int .i64 (next : Int)) := hblk.cell 2
  have kf2 : w.frozen? ⟨g, 2, none⟩ = false := hblk.frozen 2
  have k3 : w.cell? ⟨g, 3, none⟩ = some (.int .i64 (month : Int)) := hblk.cell 3
  have kf3 : w.frozen? ⟨g, 3, none⟩ = false := hblk.frozen 3
  have k4 : w.cell? ⟨g, 4, none⟩ = some (.int .i64 (bought : Int)) := hblk.cell 4
  have kf4 : w.frozen? ⟨g, 4, none⟩ = false := hblk.frozen 4
  have k5 : w.cell? ⟨g, 5, none⟩ = some (.int .i64 free) := hblk.cell 5
  have kf5 : w.frozen? ⟨g, 5, none⟩ = false := hblk.frozen 5
  have k6 : w.cell? ⟨g, 6, none⟩ = some (.slice A l.length c) := hblk.cell 6
  have kf6 : w.frozen? ⟨g, 6, none⟩ = false := hblk.frozen 6
  rcases hr with ⟨rfl, rfl, rfl⟩ | ⟨hlt, rfl, haged⟩
  · go_enter Try.func50, Try.ntmps50
    go_wp2_with (go_at_call 74; refine (within_yes _ _ _ _ (by omega) (by omega)).mono ?_; rintro e w' ⟨rfl, rfl⟩)
    go_ret
    exact ⟨rfl, ⟨hBg, A, c, hblk, hown⟩, Below.refl _ _⟩
  · have hA := fun W h => age_is (.slice A l.length c) l l2 ((m2 : Int) - (month : Int)) (m2 - month) W h hl (by omega) (by show _ = _; omega) (Lib.hid haged)
    have hv : IsDs w.drew (.slice A l.length c) l := isds_own (w := w.drew) rfl hown
    have hwr : IntKind.i64.wrap ((m2 : Int) - (month : Int)) = (m2 : Int) - (month : Int) := IntWalk.i64_in _ (by omega)
    clear haged
    have hgl := hblk.lt
    go_enter Try.func50, Try.ntmps50
    go_wp2_with (go_at_call 74; refine (within_yes _ _ _ _ (by omega) (by omega)).mono ?_; rintro e w' ⟨rfl, rfl⟩)
    go_region_with ((go_at_call 75; (with_reducible refine (hA _ hv).mono ?_); rintro e w1 ⟨A1, c1, rfl, hd1, hown1, hb1⟩; have hblk1 := Blk.below (w := w.drew) hblk hb1 hgl; have q6 := hblk1.cell 6; have qf6 := hblk1.frozen 6; have q3 := hblk1.cell 3))
    all_goals
      have hb2 : Blk (w1.setCell ⟨g, 6, none⟩ (.slice A1 l2.length c1)) g 120 #[.int .i64 (me : Int), .int .i64 (rev : Int), .int .i64 (next : Int), .int .i64 (month : Int), .int .i64 (bought : Int), .int .i64 free, .slice A1 l2.length c1, .slice At nt ct, .int .i64 (fx : Int), .int .i64 (fb : Int), .int .i64 (db : Int), .int .i64 (al : Int)] := hblk1.set_ 6 _
      have ho2 := own_far (p := ⟨g, 6, none⟩) hown1 hgl (.slice A1 l2.length c1)
      have hbB : Below B w (w1.setCell ⟨g, 6, none⟩ (.slice A1 l2.length c1)) := ((below_draws (Below.refl B w) 1).trans (hb1.mono (show B ≤ w.drew.heap.size from hB))).setCell (p := ⟨g, 6, none⟩) hBg _
      clear q6 qf6 q3 hblk1 hd1 hown1 hb1 hwr hv hA
      clear k0 k1 k2 k3 k4 k5 k6 kf0 kf1 kf2 kf3 kf4 kf5 kf6
      generalize w1.setCell ⟨g, 6, none⟩ (.slice A1 l2.length c1) = W2 at *
      have k3 := hb2.cell 3
      have k4 := hb2.cell 4
      have kf3 := hb2.frozen 3
      have kf4 := hb2.frozen 4
      go_wp2
      go_ret
      have hb3 := (hb2.set_ 3 (.int .i64 (m2 : Int))).set_ 4 (.int .i64 0)
      refine ⟨rfl, ⟨hBg, A1, c1, hb3, own_mono (own_far (p := ⟨g, 4, none⟩) (own_far (p := ⟨g, 3, none⟩) ho2 hgl _) hgl _) hB⟩, (hbB.setCell (p := ⟨g, 3, none⟩) hBg _).setCell (p := ⟨g, 4, none⟩) hBg _⟩
/-- The answer of 'Roll'. -/
def RetRoll (me rev next m2 b2 : Nat) (free : Int) (l2 : List (Nat × Nat)) (w : World) (e : Ending) (w' : World) : Prop :=
  ∃ (A : Option Addr) (c : Nat), e = .returned (.tuple #[.agg #[.int .i64 (me : Int), .int .i64 (rev : Int), .int .i64 (next : Int), .int .i64 (m2 : Int), .int .i64 (b2 : Int), .int .i64 free, .slice A l2.length c], .int .i64 0]) ∧ IsDs w' (.slice A l2.length c) l2 ∧ Below w.heap.size w w'
theorem tok_one : TOk [(10000000, 1)] := ⟨by simp, by simp, by simp, fun i h => by simp at h, fun h => by simp⟩
/-- The same, and the row of debts is the call's own. -/
def RetRollO (me rev next m2 b2 : Nat) (free : Int) (l2 : List (Nat × Nat)) (w : World) (e : Ending) (w' : World) : Prop :=
  ∃ (A : Option Addr) (c : Nat), e = .returned (.tuple #[.agg #[.int .i64 (me : Int), .int .i64 (rev : Int), .int .i64 (next : Int), .int .i64 (m2 : Int), .int .i64 (b2 : Int), .int .i64 free, .slice A l2.length c], .int .i64 0]) ∧ w'.ownsRow w.heap.size 25 2 (.slice A l2.length c) l2.length (drs l2) ∧ Below w.heap.size w w'
set_option maxRecDepth 100000 in
set_option maxHeartbeats 1000000 in
theorem rollX_own (me rev next month bought : Nat) (free : Int) (A : Option Addr) (n c : Nat) (l : List (Nat × Nat)) (m2 b2 : Nat) (l2 : List (Nat × Nat)) (w : World) (hv : IsDs w (.slice A n c) l) (hl : DOk l) (ha : AOk me rev next month bought free) (hr : Rolled month bought l m2 b2 l2) (hm : m2 ≤ 2399) :
    Calls Try.prog 24 #[.agg #[.int .i64 (me : Int), .int .i64 (rev : Int), .int .i64 (next : Int), .int .i64 (month : Int), .int .i64 (bought : Int), .int .i64 free, .slice A n c], .int .i64 (m2 : Int)] w (RetRollO me rev next m2 b2 free l2 w) := by
  have hO := fun At nt ct W h h2 => open_ok me rev next month bought free A n c l At nt ct 0 0 0 0 [(10000000, 1)] W h hl ha h2 tok_one ⟨by omega, by omega, by omega, by omega⟩
  have hR := fun B g At nt ct W hk hB => roll_ok B g me rev next month bought free l At nt ct 0 0 0 0 m2 b2 l2 W hk hl hB hr hm
  clear hr ha
  obtain ⟨W0, hW0⟩ : ∃ W0, ((w.alloc (.cells #[.int .i64 (me : Int), .int .i64 (rev : Int), .int .i64 (next : Int), .int .i64 (month : Int), .int .i64 (bought : Int), .int .i64 free, .slice A n c] 59)).alloc (.cells #[.int .i64 0, .int .i64 0, .int .i64 0, .int .i64 0, .int .i64 0, .int .i64 0, .slice none 0 0] 59)).alloc (.cells #[.int .i64 10000000, .int .i64 1] 122) = W0 := ⟨_, rfl⟩
  have hb0 : Below w.heap.size w W0 := by rw [← hW0]; exact below_a3 _ _ _ _
  have hv0 := hv.below hb0
  have hs0 : W0.heap.size = w.heap.size + 3 := by rw [← hW0]; simp
  have hst : IsDs W0 (.slice (some ⟨w.heap.size + 1 + 1, 0, none⟩) 1 1) [(10000000, 1)] := by
    refine ⟨_, 1, rfl, Nat.le_refl _, by unfold maxLen; omega, by simp [drs], fun _ => ⟨w.heap.size + 1 + 1, 0, rfl, by omega, fun j u hj => ?_⟩⟩
    have h := heap_alloc_new ((w.alloc (.cells #[.int .i64 (me : Int), .int .i64 (rev : Int), .int .i64 (next : Int), .int .i64 (month : Int), .int .i64 (bought : Int), .int .i64 free, .slice A n c] 59)).alloc (.cells #[.int .i64 0, .int .i64 0, .int .i64 0, .int .i64 0, .int .i64 0, .int .i64 0, .slice none 0 0] 59)) (.cells #[.int .i64 10000000, .int .i64 1] 122)
    rw [hW0] at h
    simp only [World.size_alloc] at h
    rw [cell_of_row _ _ _ _ _ _ h]
    simpa [drs] using hj
  have hX : Blk W0 (w.heap.size + 1) 59 #[.int .i64 0, .int .i64 0, .int .i64 0, .int .i64 0, .int .i64 0, .int .i64 0, .slice none 0 0] := by
    have := (Blk.new (w.alloc (.cells #[.int .i64 (me : Int), .int .i64 (rev : Int), .int .i64 (next : Int), .int .i64 (month : Int), .int .i64 (bought : Int), .int .i64 free, .slice A n c] 59)) 59 #[.int .i64 0, .int .i64 0, .int .i64 0, .int .i64 0, .int .i64 0, .int .i64 0, .slice none 0 0]).alloc (.cells #[.int .i64 10000000, .int .i64 1] 122)
    rw [hW0] at this
    simpa using this
  go_enter Try.func24, Try.ntmps24
  go_wp2_with fail
  refine (hO _ _ _ _ hv0 hst).mono ?_
  rintro e w1 ⟨g, rfl, hk, hb1⟩
  have hs1 := hb1.size
  have hX1 := hX.below hb1 (by omega)
  go_wp2_with fail
  refine (hR _ g _ _ _ _ hk hs1).mono ?_
  rintro e w2 ⟨rfl, ⟨hBg, A2, c2, hblk, hown⟩, hb2⟩
  have hs2 := hb2.size
  have hX2 := hX1.below hb2 (by omega)
  have k0 : w2.cell? ⟨g, 0, none⟩ = some (.int .i64 (me : Int)) := hblk.cell 0
  have kf0 : w2.frozen? ⟨g, 0, none⟩ = false := hblk.frozen 0
  have k1 : w2.cell? ⟨g, 1, none⟩ = some (.int .i64 (rev : Int)) := hblk.cell 1
  have kf1 : w2.frozen? ⟨g, 1, none⟩ = false := hblk.frozen 1
  have k2 : w2.cell? ⟨g, 2, none⟩ = some (.int .i64 (next : Int)) := hblk.cell 2
  have kf2 : w2.frozen? ⟨g, 2, none⟩ = false := hblk.frozen 2
  have k3 : w2.cell? ⟨g, 3, none⟩ = some (.int .i64 (m2 : Int)) := hblk.cell 3
  have kf3 : w2.frozen? ⟨g, 3, none⟩ = false := hblk.frozen 3
  have k4 : w2.cell? ⟨g, 4, none⟩ = some (.int .i64 (b2 : Int)) := hblk.cell 4
  have kf4 : w2.frozen? ⟨g, 4, none⟩ = false := hblk.frozen 4
  have k5 : w2.cell? ⟨g, 5, none⟩ = some (.int .i64 free) := hblk.cell 5
  have kf5 : w2.frozen? ⟨g, 5, none⟩ = false := hblk.frozen 5
  have k6 : w2.cell? ⟨g, 6, none⟩ = some (.slice A2 l2.length c2) := hblk.cell 6
  have kf6 : w2.frozen? ⟨g, 6, none⟩ = false := hblk.frozen 6
  have j0 : w2.cell? ⟨w.heap.size + 1, 0, none⟩ = some (.int .i64 0) := hX2.cell 0
  have jf0 : w2.frozen? ⟨w.heap.size + 1, 0, none⟩ = false := hX2.frozen 0
  have j1 : w2.cell? ⟨w.heap.size + 1, 1, none⟩ = some (.int .i64 0) := hX2.cell 1
  have jf1 : w2.frozen? ⟨w.heap.size + 1, 1, none⟩ = false := hX2.frozen 1
  have j2 : w2.cell? ⟨w.heap.size + 1, 2, none⟩ = some (.int .i64 0) := hX2.cell 2
  have jf2 : w2.frozen? ⟨w.heap.size + 1, 2, none⟩ = false := hX2.frozen 2
  have j3 : w2.cell? ⟨w.heap.size + 1, 3, none⟩ = some (.int .i64 0) := hX2.cell 3
  have jf3 : w2.frozen? ⟨w.heap.size + 1, 3, none⟩ = false := hX2.frozen 3
  have j4 : w2.cell? ⟨w.heap.size + 1, 4, none⟩ = some (.int .i64 0) := hX2.cell 4
  have jf4 : w2.frozen? ⟨w.heap.size + 1, 4, none⟩ = false := hX2.frozen 4
  have j5 : w2.cell? ⟨w.heap.size + 1, 5, none⟩ = some (.int .i64 0) := hX2.cell 5
  have jf5 : w2.frozen? ⟨w.heap.size + 1, 5, none⟩ = false := hX2.frozen 5
  have j6 : w2.cell? ⟨w.heap.size + 1, 6, none⟩ = some (.slice none 0 0) := hX2.cell 6
  have jf6 : w2.frozen? ⟨w.heap.size + 1, 6, none⟩ = false := hX2.frozen 6
  have hne : g ≠ w.heap.size + 1 := by omega
  clear hO hR hW0
  go_wp2
  obtain ⟨ps, hps⟩ : ∃ ps : List (Nat × Value), ps = [(0, .int .i64 (me : Int)), (1, .int .i64 (rev : Int)), (2, .int .i64 (next : Int)), (3, .int .i64 (m2 : Int)), (4, .int .i64 (b2 : Int)), (5, .int .i64 free), (6, .slice A2 l2.length c2)] := ⟨_, rfl⟩
  have hX3 := Blk.sets ps hX2
  have ho3 := own_sets (b := w.heap.size + 1) (by omega) ps hown
  have hb3 := below_sets (b := w.heap.size + 1) (by omega) ps ((hb0.step hb1).trans (hb2.mono (by omega : w.heap.size ≤ W0.heap.size)))
  subst hps
  have hX4 : Blk _ (w.heap.size + 1) 59 #[.int .i64 (me : Int), .int .i64 (rev : Int), .int .i64 (next : Int), .int .i64 (m2 : Int), .int .i64 (b2 : Int), .int .i64 free, .slice A2 l2.length c2] := hX3
  have r0 := hX4.cell 0
  have r1 := hX4.cell 1
  have r2 := hX4.cell 2
  have r3 := hX4.cell 3
  have r4 := hX4.cell 4
  have r5 := hX4.cell 5
  have r6 := hX4.cell 6
  simp only [sets, List.foldl_cons, List.foldl_nil] at r0 r1 r2 r3 r4 r5 r6
  refine bodyPost_ret (v := .tuple #[.agg #[.int .i64 (me : Int), .int .i64 (rev : Int), .int .i64 (next : Int), .int .i64 (m2 : Int), .int .i64 (b2 : Int), .int .i64 free, .slice A2 l2.length c2], .int .i64 0]) (by simp [results, Try.results24, go_sem, r0, r1, r2, r3, r4, r5, r6]; done) rfl ?_
  exact ⟨A2, c2, rfl, own_mono ho3 (by omega), hb3⟩
theorem rollX_ok (me rev next month bought : Nat) (free : Int) (A : Option Addr) (n c : Nat) (l : List (Nat × Nat)) (m2 b2 : Nat) (l2 : List (Nat × Nat)) (w : World) (hv : IsDs w (.slice A n c) l) (hl : DOk l) (ha : AOk me rev next month bought free) (hr : Rolled month bought l m2 b2 l2) (hm : m2 ≤ 2399) :
    Calls Try.prog 24 #[.agg #[.int .i64 (me : Int), .int .i64 (rev : Int), .int .i64 (next : Int), .int .i64 (month : Int), .int .i64 (bought : Int), .int .i64 free, .slice A n c], .int .i64 (m2 : Int)] w (RetRoll me rev next m2 b2 free l2 w) :=
  (rollX_own me rev next month bought free A n c l m2 b2 l2 w hv hl ha hr hm).mono fun _ _ ⟨A, c, h1, h2, h3⟩ => ⟨A, c, h1, isds_own rfl h2, h3⟩
end Go.Proofs.Ytnpkondgpmncnaa

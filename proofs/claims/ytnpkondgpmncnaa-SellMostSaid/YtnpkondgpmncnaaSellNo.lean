/- account: (clerk).sell, where the money buys nothing. -/
import Derived.Test.YtnpkondgpmncnaaRoll
import Derived.Test.YtnpkondgpmncnaaDebt
import Derived.Test.YtnpkondgpmncnaaRecov
import Derived.Test.YtnpkondgpmncnaaMost
import Derived.BigRegion
namespace Go.Proofs.Ytnpkondgpmncnaa
open Go.RowKit
set_option linter.unusedVariables false
/-- What the money comes to, where it buys nothing. -/
structure SaleN (l tl : List (Nat × Nat)) (bought fx fb db t S paid f0 F : Nat) (li : Int) (out : List (Nat × Nat)) : Prop where
  h1 : 1 ≤ t
  h2 : t ≤ 100000000
  h3 : (t : Int) * (db : Int) / 10000 = (S : Int)
  h4 : recov S l = (paid, out)
  h5 : (t : Int) * (fb : Int) / 10000 = (f0 : Int)
  h6 : F = fx + f0
  h7 : li = (t : Int) - (paid : Int) - (F : Int)
  h8 : li < 0 ∨ ∃ left : Nat, li = (left : Int) ∧ most (pcs tl bought) left 0 0 = (0, 0)
set_option maxRecDepth 100000 in
set_option maxHeartbeats 4000000 in
theorem sell_no (g me rev next month bought : Nat) (free : Int) (l : List (Nat × Nat)) (At : Option Addr) (nt ct fx fb db al : Nat) (tl : List (Nat × Nat)) (t S paid f0 F : Nat) (li : Int) (out : List (Nat × Nat)) (w0 w : World)
    (hk : Ck w0.heap.size w g me rev next month bought free l At nt ct fx fb db al) (hl : DOk l) (hw0 : Below w0.heap.size w0 w) (hvt : IsDs w0 (.slice At nt ct) tl) (hT : TOk tl) (htm : TmOk fx fb db al) (hbo : bought ≤ 10000000)
    (hS : SaleN l tl bought fx fb db t S paid f0 F li out) :
    Calls Try.prog 51 #[.pointer (some ⟨g, 0, none⟩), .int .i64 (t : Int)] w fun e w' =>
      e = .returned (.tuple #[.agg #[.int .i64 0, .int .i64 0, .int .i64 0, .int .i64 0, .int .i64 0, .int .i64 0, .int .i64 0], .int .i64 19]) ∧ Below w0.heap.size w0 w' := by
  obtain ⟨t1, t9, s1, s2, s3, s4, s5, s6⟩ := hS
  obtain ⟨hBg, A, c, hblk, hown⟩ := hk
  have hS2 : S ≤ 100000000 := by
    have h1 := htm.h3
    have : t * db ≤ 100000000 * 10000 := Nat.mul_le_mul t9 h1
    have h2 : (t : Int) * (db : Int) ≤ 100000000 * 10000 := by rw [← Int.natCast_mul]; omega
    omega
  have hR := fun W h => recover_own_is (.slice A l.length c) l t db S paid out W h hl t9 htm.h3 (Lib.hid s1) hS2 (Lib.hid s2)
  have hFe := fun W => part_is (a := (t : Int)) (b := (fb : Int)) (s := (f0 : Int)) W (Lib.hid s3) (by omega) (by omega) (by omega) (by have := htm.h2; omega)
  have hf9 : f0 ≤ 100000000 := by
    have h1 := htm.h2
    have : t * fb ≤ 100000000 * 10000 := Nat.mul_le_mul t9 h1
    have h2 : (t : Int) * (fb : Int) ≤ 100000000 * 10000 := by rw [← Int.natCast_mul]; omega
    omega
  have hpp : paid ≤ S := by
    have := (recov_inv S l (fun p hp => hl.2 p hp)).1
    rw [s2] at this
    exact this
  have hFF : Hid (F ≤ 100100000) := by have := htm.h1; show _ ≤ _; omega
  have hPP : Hid (paid ≤ 100000000) := by show _ ≤ _; omega
  have S6 := Lib.hid s6
  have S4 := Lib.hid s4
  have S5 := Lib.hid s5
  have hgl := hblk.lt
  have hs0 := hw0.size
  obtain ⟨W1, hW1⟩ : ∃ W1, (w.alloc (.cells #[.int .i64 0, .int .i64 0, .int .i64 0, .int .i64 0, .int .i64 0, .int .i64 0, .int .i64 0] 23)).alloc (.cells #[.int .i64 (next : Int), .int .i64 (t : Int), .int .i64 0, .int .i64 0, .int .i64 0, .int .i64 0, .int .i64 0] 23) = W1 := ⟨_, rfl⟩
  have k1 : Blk W1 g 120 #[.int .i64 (me : Int), .int .i64 (rev : Int), .int .i64 (next : Int), .int .i64 (month : Int), .int .i64 (bought : Int), .int .i64 free, .slice A l.length c, .slice At nt ct, .int .i64 (fx : Int), .int .i64 (fb : Int), .int .i64 (db : Int), .int .i64 (al : Int)] := by rw [← hW1]; exact (hblk.alloc _).alloc _
  have k2 : Blk W1 w.heap.size 23 #[.int .i64 0, .int .i64 0, .int .i64 0, .int .i64 0, .int .i64 0, .int .i64 0, .int .i64 0] := by rw [← hW1]; exact (Blk.new w _ _).alloc _
  have k3 : Blk W1 (w.heap.size + 1) 23 #[.int .i64 (next : Int), .int .i64 (t : Int), .int .i64 0, .int .i64 0, .int .i64 0, .int .i64 0, .int .i64 0] := by
    have := Blk.new (w.alloc (.cells #[.int .i64 0, .int .i64 0, .int .i64 0, .int .i64 0, .int .i64 0, .int .i64 0, .int .i64 0] 23)) 23 #[.int .i64 (next : Int), .int .i64 (t : Int), .int .i64 0, .int .i64 0, .int .i64 0, .int .i64 0, .int .i64 0]
    rw [hW1] at this
    simpa using this
  have k4 : W1.ownsRow w0.heap.size 25 2 (.slice A l.length c) l.length (drs l) := by rw [← hW1]; exact (hown.alloc _).alloc _
  have k5 : Below w0.heap.size w0 W1 := by rw [← hW1]; exact (hw0.alloc hs0 _).alloc (by simp; omega) _
  have hs1 : w.heap.size + 1 < W1.heap.size := k3.lt
  have hv : IsDs W1.drew (.slice A l.length c) l := isds_own (w := W1.drew) rfl k4
  have n0 : g ≠ w.heap.size + 1 := by omega
  have n9 : w.heap.size + 1 ≠ g := by omega
  clear s1 s2 s3 s4 s5 s6 hown
  have i0 : w.cell? ⟨g, 0, none⟩ = some (.int .i64 (me : Int)) := hblk.cell 0
  have if0 : w.frozen? ⟨g, 0, none⟩ = false := hblk.frozen 0
  have i1 : w.cell? ⟨g, 1, none⟩ = some (.int .i64 (rev : Int)) := hblk.cell 1
  have if1 : w.frozen? ⟨g, 1, none⟩ = false := hblk.frozen 1
  have i2 : w.cell? ⟨g, 2, none⟩ = some (.int .i64 (next : Int)) := hblk.cell 2
  have if2 : w.frozen? ⟨g, 2, none⟩ = false := hblk.frozen 2
  have i3 : w.cell? ⟨g, 3, none⟩ = some (.int .i64 (month : Int)) := hblk.cell 3
  have if3 : w.frozen? ⟨g, 3, none⟩ = false := hblk.frozen 3
  have i4 : w.cell? ⟨g, 4, none⟩ = some (.int .i64 (bought : Int)) := hblk.cell 4
  have if4 : w.frozen? ⟨g, 4, none⟩ = false := hblk.frozen 4
  have i5 : w.cell? ⟨g, 5, none⟩ = some (.int .i64 free) := hblk.cell 5
  have if5 : w.frozen? ⟨g, 5, none⟩ = false := hblk.frozen 5
  have i6 : w.cell? ⟨g, 6, none⟩ = some (.slice A l.length c) := hblk.cell 6
  have if6 : w.frozen? ⟨g, 6, none⟩ = false := hblk.frozen 6
  have i7 : w.cell? ⟨g, 7, none⟩ = some (.slice At nt ct) := hblk.cell 7
  have if7 : w.frozen? ⟨g, 7, none⟩ = false := hblk.frozen 7
  have i8 : w.cell? ⟨g, 8, none⟩ = some (.int .i64 (fx : Int)) := hblk.cell 8
  have if8 : w.frozen? ⟨g, 8, none⟩ = false := hblk.frozen 8
  have i9 : w.cell? ⟨g, 9, none⟩ = some (.int .i64 (fb : Int)) := hblk.cell 9
  have if9 : w.frozen? ⟨g, 9, none⟩ = false := hblk.frozen 9
  have i10 : w.cell? ⟨g, 10, none⟩ = some (.int .i64 (db : Int)) := hblk.cell 10
  have if10 : w.frozen? ⟨g, 10, none⟩ = false := hblk.frozen 10
  have i11 : w.cell? ⟨g, 11, none⟩ = some (.int .i64 (al : Int)) := hblk.cell 11
  have if11 : w.frozen? ⟨g, 11, none⟩ = false := hblk.frozen 11
  have HW1 := Lib.hid hW1
  clear hW1
  go_enter Try.func51, Try.ntmps51
  go_wp2_with (go_at_call 74; refine (within_yes _ _ _ _ (by omega) (by omega)).mono ?_; rintro e w' ⟨rfl, rfl⟩)
  rw [HW1.out]
  clear HW1 i0 i1 i2 i3 i4 i5 i6 i7 i8 i9 i10 i11 if0 if1 if2 if3 if4 if5 if6 if7 if8 if9 if10 if11 hblk
  have i0 : W1.cell? ⟨g, 0, none⟩ = some (.int .i64 (me : Int)) := k1.cell 0
  have if0 : W1.frozen? ⟨g, 0, none⟩ = false := k1.frozen 0
  have i1 : W1.cell? ⟨g, 1, none⟩ = some (.int .i64 (rev : Int)) := k1.cell 1
  have if1 : W1.frozen? ⟨g, 1, none⟩ = false := k1.frozen 1
  have i2 : W1.cell? ⟨g, 2, none⟩ = some (.int .i64 (next : Int)) := k1.cell 2
  have if2 : W1.frozen? ⟨g, 2, none⟩ = false := k1.frozen 2
  have i3 : W1.cell? ⟨g, 3, none⟩ = some (.int .i64 (month : Int)) := k1.cell 3
  have if3 : W1.frozen? ⟨g, 3, none⟩ = false := k1.frozen 3
  have i4 : W1.cell? ⟨g, 4, none⟩ = some (.int .i64 (bought : Int)) := k1.cell 4
  have if4 : W1.frozen? ⟨g, 4, none⟩ = false := k1.frozen 4
  have i5 : W1.cell? ⟨g, 5, none⟩ = some (.int .i64 free) := k1.cell 5
  have if5 : W1.frozen? ⟨g, 5, none⟩ = false := k1.frozen 5
  have i6 : W1.cell? ⟨g, 6, none⟩ = some (.slice A l.length c) := k1.cell 6
  have if6 : W1.frozen? ⟨g, 6, none⟩ = false := k1.frozen 6
  have i7 : W1.cell? ⟨g, 7, none⟩ = some (.slice At nt ct) := k1.cell 7
  have if7 : W1.frozen? ⟨g, 7, none⟩ = false := k1.frozen 7
  have i8 : W1.cell? ⟨g, 8, none⟩ = some (.int .i64 (fx : Int)) := k1.cell 8
  have if8 : W1.frozen? ⟨g, 8, none⟩ = false := k1.frozen 8
  have i9 : W1.cell? ⟨g, 9, none⟩ = some (.int .i64 (fb : Int)) := k1.cell 9
  have if9 : W1.frozen? ⟨g, 9, none⟩ = false := k1.frozen 9
  have i10 : W1.cell? ⟨g, 10, none⟩ = some (.int .i64 (db : Int)) := k1.cell 10
  have if10 : W1.frozen? ⟨g, 10, none⟩ = false := k1.frozen 10
  have i11 : W1.cell? ⟨g, 11, none⟩ = some (.int .i64 (al : Int)) := k1.cell 11
  have if11 : W1.frozen? ⟨g, 11, none⟩ = false := k1.frozen 11
  go_region_with ((go_at_call 76; (with_reducible refine (hR _ hv).mono ?_); rintro e w2 ⟨A1, c1, rfl, hown1, hb1⟩; have z1 := Blk.below (w := W1.drew) k1 hb1 (show g < W1.heap.size from k1.lt); have z2 := Blk.below (w := W1.drew) k2 hb1 (show w.heap.size < W1.heap.size from k2.lt); have z3 := Blk.below (w := W1.drew) k3 hb1 (show w.heap.size + 1 < W1.heap.size from k3.lt); have q6 := z1.cell 6; have qf6 := z1.frozen 6; have q2 := z3.cell 2; have qf2 := z3.frozen 2))
  all_goals
    obtain ⟨W2, hW2⟩ : ∃ W2, (w2.setCell ⟨g, 6, none⟩ (.slice A1 out.length c1)).setCell ⟨w.heap.size + 1, 2, none⟩ (.int .i64 (paid : Int)) = W2 := ⟨_, rfl⟩
    rw [hW2]
    have y1 : Blk W2 g 120 #[.int .i64 (me : Int), .int .i64 (rev : Int), .int .i64 (next : Int), .int .i64 (month : Int), .int .i64 (bought : Int), .int .i64 free, .slice A1 out.length c1, .slice At nt ct, .int .i64 (fx : Int), .int .i64 (fb : Int), .int .i64 (db : Int), .int .i64 (al : Int)] := by rw [← hW2]; exact (z1.set_ 6 (.slice A1 out.length c1)).far (p := ⟨w.heap.size + 1, 2, none⟩) n0 _
    have y2 : Blk W2 w.heap.size 23 #[.int .i64 0, .int .i64 0, .int .i64 0, .int .i64 0, .int .i64 0, .int .i64 0, .int .i64 0] := by rw [← hW2]; exact (z2.far (p := ⟨g, 6, none⟩) (by show w.heap.size ≠ g; omega) _).far (p := ⟨w.heap.size + 1, 2, none⟩) (by show w.heap.size ≠ w.heap.size + 1; omega) _
    have y3 : Blk W2 (w.heap.size + 1) 23 #[.int .i64 (next : Int), .int .i64 (t : Int), .int .i64 (paid : Int), .int .i64 0, .int .i64 0, .int .i64 0, .int .i64 0] := by rw [← hW2]; exact (z3.far (p := ⟨g, 6, none⟩) n9 _).set_ 2 (.int .i64 (paid : Int))
    have y4 : W2.ownsRow W1.heap.size 25 2 (.slice A1 out.length c1) out.length (drs out) := by
      rw [← hW2]
      exact own_far (p := ⟨w.heap.size + 1, 2, none⟩) (own_far (p := ⟨g, 6, none⟩) hown1 (show g < W1.heap.size from k1.lt) _) (show w.heap.size + 1 < W1.heap.size from k3.lt) _
    have y5 : Below w0.heap.size w0 W2 := by
      rw [← hW2]
      exact (((below_draws k5 1).trans (hb1.mono (show w0.heap.size ≤ W1.heap.size from k5.size))).setCell (p := ⟨g, 6, none⟩) hBg _).setCell (p := ⟨w.heap.size + 1, 2, none⟩) (by show w0.heap.size ≤ w.heap.size + 1; omega) _
    have hg1 : g < W1.heap.size := k1.lt
    have hF1 : (fx : Int) + (f0 : Int) = (F : Int) := by have := S4.out; omega
    have hF2 : (t : Int) - (paid : Int) - (F : Int) = li := S5.out.symm
    have hF3 : li ≤ 100000000 := by have := S5.out; omega
    have hF4 : (F : Int) ≤ 100100000 := by have := hFF.out; omega
    have hF5 : (paid : Int) ≤ 100000000 := by have := hPP.out; omega
    have hF6 : -200100000 ≤ li := by have := S5.out; omega
    clear q6 qf6 q2 qf2 i0 i1 i2 i3 i4 i5 i6 i7 i8 i9 i10 i11 if0 if1 if2 if3 if4 if5 if6 if7 if8 if9 if10 if11 z1 z2 z3 hown1 hb1 k1 k2 k3 k4 k5 hW2 hv hR
    have i0 : W2.cell? ⟨g, 0, none⟩ = some (.int .i64 (me : Int)) := y1.cell 0
    have if0 : W2.frozen? ⟨g, 0, none⟩ = false := y1.frozen 0
    have i1 : W2.cell? ⟨g, 1, none⟩ = some (.int .i64 (rev : Int)) := y1.cell 1
    have if1 : W2.frozen? ⟨g, 1, none⟩ = false := y1.frozen 1
    have i2 : W2.cell? ⟨g, 2, none⟩ = some (.int .i64 (next : Int)) := y1.cell 2
    have if2 : W2.frozen? ⟨g, 2, none⟩ = false := y1.frozen 2
    have i3 : W2.cell? ⟨g, 3, none⟩ = some (.int .i64 (month : Int)) := y1.cell 3
    have if3 : W2.frozen? ⟨g, 3, none⟩ = false := y1.frozen 3
    have i4 : W2.cell? ⟨g, 4, none⟩ = some (.int .i64 (bought : Int)) := y1.cell 4
    have if4 : W2.frozen? ⟨g, 4, none⟩ = false := y1.frozen 4
    have i5 : W2.cell? ⟨g, 5, none⟩ = some (.int .i64 free) := y1.cell 5
    have if5 : W2.frozen? ⟨g, 5, none⟩ = false := y1.frozen 5
    have i6 : W2.cell? ⟨g, 6, none⟩ = some (.slice A1 out.length c1) := y1.cell 6
    have if6 : W2.frozen? ⟨g, 6, none⟩ = false := y1.frozen 6
    have i7 : W2.cell? ⟨g, 7, none⟩ = some (.slice At nt ct) := y1.cell 7
    have if7 : W2.frozen? ⟨g, 7, none⟩ = false := y1.frozen 7
    have i8 : W2.cell? ⟨g, 8, none⟩ = some (.int .i64 (fx : Int)) := y1.cell 8
    have if8 : W2.frozen? ⟨g, 8, none⟩ = false := y1.frozen 8
    have i9 : W2.cell? ⟨g, 9, none⟩ = some (.int .i64 (fb : Int)) := y1.cell 9
    have if9 : W2.frozen? ⟨g, 9, none⟩ = false := y1.frozen 9
    have i10 : W2.cell? ⟨g, 10, none⟩ = some (.int .i64 (db : Int)) := y1.cell 10
    have if10 : W2.frozen? ⟨g, 10, none⟩ = false := y1.frozen 10
    have i11 : W2.cell? ⟨g, 11, none⟩ = some (.int .i64 (al : Int)) := y1.cell 11
    have if11 : W2.frozen? ⟨g, 11, none⟩ = false := y1.frozen 11
    have j0 : W2.cell? ⟨w.heap.size + 1, 0, none⟩ = some (.int .i64 (next : Int)) := y3.cell 0
    have jf0 : W2.frozen? ⟨w.heap.size + 1, 0, none⟩ = false := y3.frozen 0
    have j1 : W2.cell? ⟨w.heap.size + 1, 1, none⟩ = some (.int .i64 (t : Int)) := y3.cell 1
    have jf1 : W2.frozen? ⟨w.heap.size + 1, 1, none⟩ = false := y3.frozen 1
    have j2 : W2.cell? ⟨w.heap.size + 1, 2, none⟩ = some (.int .i64 (paid : Int)) := y3.cell 2
    have jf2 : W2.frozen? ⟨w.heap.size + 1, 2, none⟩ = false := y3.frozen 2
    have j3 : W2.cell? ⟨w.heap.size + 1, 3, none⟩ = some (.int .i64 0) := y3.cell 3
    have jf3 : W2.frozen? ⟨w.heap.size + 1, 3, none⟩ = false := y3.frozen 3
    have j4 : W2.cell? ⟨w.heap.size + 1, 4, none⟩ = some (.int .i64 0) := y3.cell 4
    have jf4 : W2.frozen? ⟨w.heap.size + 1, 4, none⟩ = false := y3.frozen 4
    have j5 : W2.cell? ⟨w.heap.size + 1, 5, none⟩ = some (.int .i64 0) := y3.cell 5
    have jf5 : W2.frozen? ⟨w.heap.size + 1, 5, none⟩ = false := y3.frozen 5
    have j6 : W2.cell? ⟨w.heap.size + 1, 6, none⟩ = some (.int .i64 0) := y3.cell 6
    have jf6 : W2.frozen? ⟨w.heap.size + 1, 6, none⟩ = false := y3.frozen 6
    rcases S6.out with hneg | ⟨left, hleft, hmo⟩
    · have gs : decide (0 ≤ li) = false := by simp; omega
      have k0 : W2.cell? ⟨w.heap.size, 0, none⟩ = some (.int .i64 0) := y2.cell 0
      have kf0 : W2.frozen? ⟨w.heap.size, 0, none⟩ = false := y2.frozen 0
      have k1 : W2.cell? ⟨w.heap.size, 1, none⟩ = some (.int .i64 0) := y2.cell 1
      have kf1 : W2.frozen? ⟨w.heap.size, 1, none⟩ = false := y2.frozen 1
      have k2 : W2.cell? ⟨w.heap.size, 2, none⟩ = some (.int .i64 0) := y2.cell 2
      have kf2 : W2.frozen? ⟨w.heap.size, 2, none⟩ = false := y2.frozen 2
      have k3 : W2.cell? ⟨w.heap.size, 3, none⟩ = some (.int .i64 0) := y2.cell 3
      have kf3 : W2.frozen? ⟨w.heap.size, 3, none⟩ = false := y2.frozen 3
      have k4 : W2.cell? ⟨w.heap.size, 4, none⟩ = some (.int .i64 0) := y2.cell 4
      have kf4 : W2.frozen? ⟨w.heap.size, 4, none⟩ = false := y2.frozen 4
      have k5 : W2.cell? ⟨w.heap.size, 5, none⟩ = some (.int .i64 0) := y2.cell 5
      have kf5 : W2.frozen? ⟨w.heap.size, 5, none⟩ = false := y2.frozen 5
      have k6 : W2.cell? ⟨w.heap.size, 6, none⟩ = some (.int .i64 0) := y2.cell 6
      have kf6 : W2.frozen? ⟨w.heap.size, 6, none⟩ = false := y2.frozen 6
      have nb : w.heap.size ≠ w.heap.size + 1 := by omega
      clear S6 hT htm hl hvt
      go_wp2_with (go_at_call 77; with_reducible refine (hFe _).mono ?_; rintro e w' ⟨rfl, rfl⟩)
      have hE1 := Blk.sets [(0, .int .i64 0), (1, .int .i64 0), (2, .int .i64 0), (3, .int .i64 0), (4, .int .i64 0), (5, .int .i64 0), (6, .int .i64 0)] (y2.far (p := ⟨w.heap.size + 1, 3, none⟩) nb (.int .i64 (F : Int)))
      have hE2 := below_sets (B := w0.heap.size) (b := w.heap.size) (by omega) [(0, .int .i64 0), (1, .int .i64 0), (2, .int .i64 0), (3, .int .i64 0), (4, .int .i64 0), (5, .int .i64 0), (6, .int .i64 0)] (y5.setCell (p := ⟨w.heap.size + 1, 3, none⟩) (by show w0.heap.size ≤ w.heap.size + 1; omega) (.int .i64 (F : Int)))
      obtain ⟨W8, hW8⟩ : ∃ W8, sets (W2.setCell ⟨w.heap.size + 1, 3, none⟩ (.int .i64 (F : Int))) w.heap.size [(0, .int .i64 0), (1, .int .i64 0), (2, .int .i64 0), (3, .int .i64 0), (4, .int .i64 0), (5, .int .i64 0), (6, .int .i64 0)] = W8 := ⟨_, rfl⟩
      rw [hW8] at hE1 hE2
      have hE1 : Blk W8 w.heap.size 23 #[.int .i64 0, .int .i64 0, .int .i64 0, .int .i64 0, .int .i64 0, .int .i64 0, .int .i64 0] := hE1
      simp only [sets, List.foldl_cons, List.foldl_nil] at hW8
      rw [hW8]
      have r0 := hE1.cell 0
      have r1 := hE1.cell 1
      have r2 := hE1.cell 2
      have r3 := hE1.cell 3
      have r4 := hE1.cell 4
      have r5 := hE1.cell 5
      have r6 := hE1.cell 6
      refine bodyPost_ret (v := .tuple #[.agg #[.int .i64 0, .int .i64 0, .int .i64 0, .int .i64 0, .int .i64 0, .int .i64 0, .int .i64 0], .int .i64 19]) (by simp [results, Try.results51, go_sem, r0, r1, r2, r3, r4, r5, r6]; done) rfl ?_
      exact ⟨rfl, hE2⟩
    · have hleft9 : left ≤ 100000000 := by omega
      have hM := fun W h => most_ok (.slice At nt ct) tl bought left 0 0 W h hT hbo (by omega) (Lib.hid hmo)
      clear S6 hmo
      subst hleft
      go_wp2_with (go_at_call 77; with_reducible refine (hFe _).mono ?_; rintro e w' ⟨rfl, rfl⟩)
      obtain ⟨W3, hW3⟩ : ∃ W3, W2.setCell ⟨w.heap.size + 1, 3, none⟩ (.int .i64 (F : Int)) = W3 := ⟨_, rfl⟩
      rw [hW3]
      have x1 : Blk W3 g 120 #[.int .i64 (me : Int), .int .i64 (rev : Int), .int .i64 (next : Int), .int .i64 (month : Int), .int .i64 (bought : Int), .int .i64 free, .slice A1 out.length c1, .slice At nt ct, .int .i64 (fx : Int), .int .i64 (fb : Int), .int .i64 (db : Int), .int .i64 (al : Int)] := by rw [← hW3]; exact y1.far (p := ⟨w.heap.size + 1, 3, none⟩) n0 _
      have x2 : Blk W3 w.heap.size 23 #[.int .i64 0, .int .i64 0, .int .i64 0, .int .i64 0, .int .i64 0, .int .i64 0, .int .i64 0] := by rw [← hW3]; exact y2.far (p := ⟨w.heap.size + 1, 3, none⟩) (by show w.heap.size ≠ w.heap.size + 1; omega) _
      have x3 : Blk W3 (w.heap.size + 1) 23 #[.int .i64 (next : Int), .int .i64 (t : Int), .int .i64 (paid : Int), .int .i64 (F : Int), .int .i64 0, .int .i64 0, .int .i64 0] := by rw [← hW3]; exact y3.set_ 3 (.int .i64 (F : Int))
      have x4 : W3.ownsRow W1.heap.size 25 2 (.slice A1 out.length c1) out.length (drs out) := by rw [← hW3]; exact own_far (p := ⟨w.heap.size + 1, 3, none⟩) y4 hs1 _
      have x5 : Below w0.heap.size w0 W3 := by rw [← hW3]; exact y5.setCell (p := ⟨w.heap.size + 1, 3, none⟩) (by show w0.heap.size ≤ w.heap.size + 1; omega) _
      clear i0 i1 i2 i3 i4 i5 i6 i7 i8 i9 i10 i11 if0 if1 if2 if3 if4 if5 if6 if7 if8 if9 if10 if11 j0 j1 j2 j3 j4 j5 j6 jf0 jf1 jf2 jf3 jf4 jf5 jf6 y1 y2 y3 y4 y5 hW3 hFe hF1 hF2
      have i0 : W3.cell? ⟨g, 0, none⟩ = some (.int .i64 (me : Int)) := x1.cell 0
      have if0 : W3.frozen? ⟨g, 0, none⟩ = false := x1.frozen 0
      have i1 : W3.cell? ⟨g, 1, none⟩ = some (.int .i64 (rev : Int)) := x1.cell 1
      have if1 : W3.frozen? ⟨g, 1, none⟩ = false := x1.frozen 1
      have i2 : W3.cell? ⟨g, 2, none⟩ = some (.int .i64 (next : Int)) := x1.cell 2
      have if2 : W3.frozen? ⟨g, 2, none⟩ = false := x1.frozen 2
      have i3 : W3.cell? ⟨g, 3, none⟩ = some (.int .i64 (month : Int)) := x1.cell 3
      have if3 : W3.frozen? ⟨g, 3, none⟩ = false := x1.frozen 3
      have i4 : W3.cell? ⟨g, 4, none⟩ = some (.int .i64 (bought : Int)) := x1.cell 4
      have if4 : W3.frozen? ⟨g, 4, none⟩ = false := x1.frozen 4
      have i5 : W3.cell? ⟨g, 5, none⟩ = some (.int .i64 free) := x1.cell 5
      have if5 : W3.frozen? ⟨g, 5, none⟩ = false := x1.frozen 5
      have i6 : W3.cell? ⟨g, 6, none⟩ = some (.slice A1 out.length c1) := x1.cell 6
      have if6 : W3.frozen? ⟨g, 6, none⟩ = false := x1.frozen 6
      have i7 : W3.cell? ⟨g, 7, none⟩ = some (.slice At nt ct) := x1.cell 7
      have if7 : W3.frozen? ⟨g, 7, none⟩ = false := x1.frozen 7
      have i8 : W3.cell? ⟨g, 8, none⟩ = some (.int .i64 (fx : Int)) := x1.cell 8
      have if8 : W3.frozen? ⟨g, 8, none⟩ = false := x1.frozen 8
      have i9 : W3.cell? ⟨g, 9, none⟩ = some (.int .i64 (fb : Int)) := x1.cell 9
      have if9 : W3.frozen? ⟨g, 9, none⟩ = false := x1.frozen 9
      have i10 : W3.cell? ⟨g, 10, none⟩ = some (.int .i64 (db : Int)) := x1.cell 10
      have if10 : W3.frozen? ⟨g, 10, none⟩ = false := x1.frozen 10
      have i11 : W3.cell? ⟨g, 11, none⟩ = some (.int .i64 (al : Int)) := x1.cell 11
      have if11 : W3.frozen? ⟨g, 11, none⟩ = false := x1.frozen 11
      have hvM : IsDs W3.drew (.slice At nt ct) tl := hvt.below (w' := W3.drew) (below_draws x5 1)
      go_region_with ((go_at_call 78; (with_reducible refine (hM _ hvM).mono ?_); rintro e w4 ⟨rfl, hb4⟩; have z2 := Blk.below (w := W3.drew) x2 hb4 (show w.heap.size < W3.heap.size from x2.lt); have z3 := Blk.below (w := W3.drew) x3 hb4 (show w.heap.size + 1 < W3.heap.size from x3.lt); have q6 := z3.cell 6; have qf6 := z3.frozen 6; have q4 := z3.cell 4; have qf4 := z3.frozen 4))
      all_goals
        obtain ⟨W5, hW5⟩ : ∃ W5, (w4.setCell ⟨w.heap.size + 1, 6, none⟩ (.int .i64 0)).setCell ⟨w.heap.size + 1, 4, none⟩ (.int .i64 0) = W5 := ⟨_, rfl⟩
        rw [hW5]
        have nb : w.heap.size ≠ w.heap.size + 1 := by omega
        have v2 : Blk W5 w.heap.size 23 #[.int .i64 0, .int .i64 0, .int .i64 0, .int .i64 0, .int .i64 0, .int .i64 0, .int .i64 0] := by rw [← hW5]; exact (z2.far (p := ⟨w.heap.size + 1, 6, none⟩) nb _).far (p := ⟨w.heap.size + 1, 4, none⟩) nb _
        have v3 : Blk W5 (w.heap.size + 1) 23 #[.int .i64 (next : Int), .int .i64 (t : Int), .int .i64 (paid : Int), .int .i64 (F : Int), .int .i64 0, .int .i64 0, .int .i64 0] := by rw [← hW5]; exact (z3.set_ 6 (.int .i64 0)).set_ 4 (.int .i64 0)
        have v5 : Below w0.heap.size w0 W5 := by
          rw [← hW5]
          exact (((below_draws x5 1).trans (hb4.mono (show w0.heap.size ≤ W3.heap.size from x5.size))).setCell (p := ⟨w.heap.size + 1, 6, none⟩) (by show w0.heap.size ≤ w.heap.size + 1; omega) _).setCell (p := ⟨w.heap.size + 1, 4, none⟩) (by show w0.heap.size ≤ w.heap.size + 1; omega) _
        clear q6 qf6 q4 qf4 i0 i1 i2 i3 i4 i5 i6 i7 i8 i9 i10 i11 if0 if1 if2 if3 if4 if5 if6 if7 if8 if9 if10 if11 z2 z3 hb4 x1 x2 x3 x4 x5 hW5 hvM hM
        have k0 : W5.cell? ⟨w.heap.size, 0, none⟩ = some (.int .i64 0) := v2.cell 0
        have kf0 : W5.frozen? ⟨w.heap.size, 0, none⟩ = false := v2.frozen 0
        have k1 : W5.cell? ⟨w.heap.size, 1, none⟩ = some (.int .i64 0) := v2.cell 1
        have kf1 : W5.frozen? ⟨w.heap.size, 1, none⟩ = false := v2.frozen 1
        have k2 : W5.cell? ⟨w.heap.size, 2, none⟩ = some (.int .i64 0) := v2.cell 2
        have kf2 : W5.frozen? ⟨w.heap.size, 2, none⟩ = false := v2.frozen 2
        have k3 : W5.cell? ⟨w.heap.size, 3, none⟩ = some (.int .i64 0) := v2.cell 3
        have kf3 : W5.frozen? ⟨w.heap.size, 3, none⟩ = false := v2.frozen 3
        have k4 : W5.cell? ⟨w.heap.size, 4, none⟩ = some (.int .i64 0) := v2.cell 4
        have kf4 : W5.frozen? ⟨w.heap.size, 4, none⟩ = false := v2.frozen 4
        have k5 : W5.cell? ⟨w.heap.size, 5, none⟩ = some (.int .i64 0) := v2.cell 5
        have kf5 : W5.frozen? ⟨w.heap.size, 5, none⟩ = false := v2.frozen 5
        have k6 : W5.cell? ⟨w.heap.size, 6, none⟩ = some (.int .i64 0) := v2.cell 6
        have kf6 : W5.frozen? ⟨w.heap.size, 6, none⟩ = false := v2.frozen 6
        have j0 : W5.cell? ⟨w.heap.size + 1, 0, none⟩ = some (.int .i64 (next : Int)) := v3.cell 0
        have jf0 : W5.frozen? ⟨w.heap.size + 1, 0, none⟩ = false := v3.frozen 0
        have j1 : W5.cell? ⟨w.heap.size + 1, 1, none⟩ = some (.int .i64 (t : Int)) := v3.cell 1
        have jf1 : W5.frozen? ⟨w.heap.size + 1, 1, none⟩ = false := v3.frozen 1
        have j2 : W5.cell? ⟨w.heap.size + 1, 2, none⟩ = some (.int .i64 (paid : Int)) := v3.cell 2
        have jf2 : W5.frozen? ⟨w.heap.size + 1, 2, none⟩ = false := v3.frozen 2
        have j3 : W5.cell? ⟨w.heap.size + 1, 3, none⟩ = some (.int .i64 (F : Int)) := v3.cell 3
        have jf3 : W5.frozen? ⟨w.heap.size + 1, 3, none⟩ = false := v3.frozen 3
        have j4 : W5.cell? ⟨w.heap.size + 1, 4, none⟩ = some (.int .i64 0) := v3.cell 4
        have jf4 : W5.frozen? ⟨w.heap.size + 1, 4, none⟩ = false := v3.frozen 4
        have j5 : W5.cell? ⟨w.heap.size + 1, 5, none⟩ = some (.int .i64 0) := v3.cell 5
        have jf5 : W5.frozen? ⟨w.heap.size + 1, 5, none⟩ = false := v3.frozen 5
        have j6 : W5.cell? ⟨w.heap.size + 1, 6, none⟩ = some (.int .i64 0) := v3.cell 6
        have jf6 : W5.frozen? ⟨w.heap.size + 1, 6, none⟩ = false := v3.frozen 6
        go_wp2
        have hE1 := Blk.sets [(0, .int .i64 0), (1, .int .i64 0), (2, .int .i64 0), (3, .int .i64 0), (4, .int .i64 0), (5, .int .i64 0), (6, .int .i64 0)] v2
        have hE2 := below_sets (B := w0.heap.size) (b := w.heap.size) (by omega) [(0, .int .i64 0), (1, .int .i64 0), (2, .int .i64 0), (3, .int .i64 0), (4, .int .i64 0), (5, .int .i64 0), (6, .int .i64 0)] v5
        obtain ⟨W8, hW8⟩ : ∃ W8, sets (W5) w.heap.size [(0, .int .i64 0), (1, .int .i64 0), (2, .int .i64 0), (3, .int .i64 0), (4, .int .i64 0), (5, .int .i64 0), (6, .int .i64 0)] = W8 := ⟨_, rfl⟩
        rw [hW8] at hE1 hE2
        have hE1 : Blk W8 w.heap.size 23 #[.int .i64 0, .int .i64 0, .int .i64 0, .int .i64 0, .int .i64 0, .int .i64 0, .int .i64 0] := hE1
        simp only [sets, List.foldl_cons, List.foldl_nil] at hW8
        rw [hW8]
        have r0 := hE1.cell 0
        have r1 := hE1.cell 1
        have r2 := hE1.cell 2
        have r3 := hE1.cell 3
        have r4 := hE1.cell 4
        have r5 := hE1.cell 5
        have r6 := hE1.cell 6
        refine bodyPost_ret (v := .tuple #[.agg #[.int .i64 0, .int .i64 0, .int .i64 0, .int .i64 0, .int .i64 0, .int .i64 0, .int .i64 0], .int .i64 19]) (by simp [results, Try.results51, go_sem, r0, r1, r2, r3, r4, r5, r6]; done) rfl ?_
        exact ⟨rfl, hE2⟩
end Go.Proofs.Ytnpkondgpmncnaa

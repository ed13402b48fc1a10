/- The walk of the law SellMost. -/
import Derived.Test.YtnpkondgpmncnaaSaleX
import Derived.Test.YtnpkondgpmncnaaPrice
import Derived.Test.YtnpkondgpmncnaaSellG
import Derived.Test.YtnpkondgpmncnaaEq
import Derived.Deep.RegionHeld3
import Derived.Deep.DeepCutAuto
namespace Go.Proofs.Ytnpkondgpmncnaa
open Go.RowKit
set_option linter.unusedVariables false
set_option maxRecDepth 100000 in
set_option maxHeartbeats 40000000 in
theorem walk_sellMost (w : World) (a0 : Value) (w0 : Fit Try.prog w 53 a0) (a1 : Value) (w1 : Fit Try.prog w 56 a1) (a2 : Int) (w2 : (Lit.int .i64 a2).wf = true) (a3 : Int) (w3 : (Lit.int .i64 a3).wf = true) :
    Calls Try.prog 11 #[a0, a1, .int .i64 a2, .int .i64 a3] w fun e w' => e = .returned (.bool true) ∧ Below w.heap.size w w' := by
  obtain ⟨x0, x1, x2, x3, x4, x5, A, n, m, g, rfl, v0, v1, v2, v3, v4, v5, hv⟩ := going_fit w0
  obtain ⟨D, n', m', g', y1, y2, y3, y4, rfl, u1, u2, u3, u4, hu⟩ := deal_fit w1
  clear w0 w1
  have H := Mem.init w
  obtain ⟨W0, hW0⟩ : ∃ W0, ((w).alloc (.cells #[.int .i64 x0, .int .i64 x1, .int .i64 x2, .int .i64 x3, .int .i64 x4, .int .i64 x5, .slice A n m] 53)).alloc (.cells #[.slice D n' m', .int .i64 y1, .int .i64 y2, .int .i64 y3, .int .i64 y4] 56) = W0 := ⟨_, rfl⟩
  replace H : Mem (w) [] _ [.blk (w.heap.size) 53 #[.int .i64 x0, .int .i64 x1, .int .i64 x2, .int .i64 x3, .int .i64 x4, .int .i64 x5, .slice A n m]] := Mem.alloc H (w.heap.size) (by first | (simp; done) | (simp; omega)) #[.int .i64 x0, .int .i64 x1, .int .i64 x2, .int .i64 x3, .int .i64 x4, .int .i64 x5, .slice A n m] 53
  replace H : Mem (w) [] _ [.blk (w.heap.size) 53 #[.int .i64 x0, .int .i64 x1, .int .i64 x2, .int .i64 x3, .int .i64 x4, .int .i64 x5, .slice A n m], .blk (w.heap.size + 1) 56 #[.slice D n' m', .int .i64 y1, .int .i64 y2, .int .i64 y3, .int .i64 y4]] := Mem.alloc H (w.heap.size + 1) (by first | (simp; done) | (simp; omega)) #[.slice D n' m', .int .i64 y1, .int .i64 y2, .int .i64 y3, .int .i64 y4] 56
  rw [hW0] at H
  have hG := gone_own x0 x1 x2 x3 x4 x5 A n m g W0 v0 v1 v2 v3 v4 v5 (hv.below H.below)
  have hAg := fun W h => agreed_own D n' m' g' y1 y2 y3 y4 W u1 u2 u3 u4 h
  clear hv
  have gi0 : (W0).cell? ⟨w.heap.size, 0, none⟩ = some (.int .i64 x0) := (H.blk 0 rfl).cell 0
  have gif0 : (W0).frozen? ⟨w.heap.size, 0, none⟩ = false := (H.blk 0 rfl).frozen 0
  have gi1 : (W0).cell? ⟨w.heap.size, 1, none⟩ = some (.int .i64 x1) := (H.blk 0 rfl).cell 1
  have gif1 : (W0).frozen? ⟨w.heap.size, 1, none⟩ = false := (H.blk 0 rfl).frozen 1
  have gi2 : (W0).cell? ⟨w.heap.size, 2, none⟩ = some (.int .i64 x2) := (H.blk 0 rfl).cell 2
  have gif2 : (W0).frozen? ⟨w.heap.size, 2, none⟩ = false := (H.blk 0 rfl).frozen 2
  have gi3 : (W0).cell? ⟨w.heap.size, 3, none⟩ = some (.int .i64 x3) := (H.blk 0 rfl).cell 3
  have gif3 : (W0).frozen? ⟨w.heap.size, 3, none⟩ = false := (H.blk 0 rfl).frozen 3
  have gi4 : (W0).cell? ⟨w.heap.size, 4, none⟩ = some (.int .i64 x4) := (H.blk 0 rfl).cell 4
  have gif4 : (W0).frozen? ⟨w.heap.size, 4, none⟩ = false := (H.blk 0 rfl).frozen 4
  have gi5 : (W0).cell? ⟨w.heap.size, 5, none⟩ = some (.int .i64 x5) := (H.blk 0 rfl).cell 5
  have gif5 : (W0).frozen? ⟨w.heap.size, 5, none⟩ = false := (H.blk 0 rfl).frozen 5
  have gi6 : (W0).cell? ⟨w.heap.size, 6, none⟩ = some (.slice A n m) := (H.blk 0 rfl).cell 6
  have gif6 : (W0).frozen? ⟨w.heap.size, 6, none⟩ = false := (H.blk 0 rfl).frozen 6
  have gilt : w.heap.size < (W0).heap.size := H.lt 0 rfl
  have dj0 : (W0).cell? ⟨w.heap.size + 1, 0, none⟩ = some (.slice D n' m') := (H.blk 1 rfl).cell 0
  have djf0 : (W0).frozen? ⟨w.heap.size + 1, 0, none⟩ = false := (H.blk 1 rfl).frozen 0
  have dj1 : (W0).cell? ⟨w.heap.size + 1, 1, none⟩ = some (.int .i64 y1) := (H.blk 1 rfl).cell 1
  have djf1 : (W0).frozen? ⟨w.heap.size + 1, 1, none⟩ = false := (H.blk 1 rfl).frozen 1
  have dj2 : (W0).cell? ⟨w.heap.size + 1, 2, none⟩ = some (.int .i64 y2) := (H.blk 1 rfl).cell 2
  have djf2 : (W0).frozen? ⟨w.heap.size + 1, 2, none⟩ = false := (H.blk 1 rfl).frozen 2
  have dj3 : (W0).cell? ⟨w.heap.size + 1, 3, none⟩ = some (.int .i64 y3) := (H.blk 1 rfl).cell 3
  have djf3 : (W0).frozen? ⟨w.heap.size + 1, 3, none⟩ = false := (H.blk 1 rfl).frozen 3
  have dj4 : (W0).cell? ⟨w.heap.size + 1, 4, none⟩ = some (.int .i64 y4) := (H.blk 1 rfl).cell 4
  have djf4 : (W0).frozen? ⟨w.heap.size + 1, 4, none⟩ = false := (H.blk 1 rfl).frozen 4
  have djlt : w.heap.size + 1 < (W0).heap.size := H.lt 1 rfl
  have ne_gi_dj : w.heap.size ≠ w.heap.size + 1 := H.ne 0 1 rfl rfl (by decide)
  have ne_dj_gi : w.heap.size + 1 ≠ w.heap.size := H.ne 1 0 rfl rfl (by decide)
  go_enter Try.func11, Try.ntmps11
  go_wp2_with fail
  refine hG.mono ?_
  rintro e wa ⟨me, rev, next, month, bought, free, l, A1, c1, rfl, hok, hn, hmo, hd, hds, hba⟩
  replace H : Mem (w) [] (wa) [.blk (w.heap.size) 53 #[.int .i64 x0, .int .i64 x1, .int .i64 x2, .int .i64 x3, .int .i64 x4, .int .i64 x5, .slice A n m], .blk (w.heap.size + 1) 56 #[.slice D n' m', .int .i64 y1, .int .i64 y2, .int .i64 y3, .int .i64 y4], .row (W0.heap.size) (25) (2) (.slice A1 l.length c1) (l.length) (drs l)] := Mem.row H hba hds (Nat.le_refl _)
  clear gi0 gif0 gi1 gif1 gi2 gif2 gi3 gif3 gi4 gif4 gi5 gif5 gi6 gif6 gilt dj0 djf0 dj1 djf1 dj2 djf2 dj3 djf3 dj4 djf4 djlt ne_gi_dj ne_dj_gi
  have gi0 : (wa).cell? ⟨w.heap.size, 0, none⟩ = some (.int .i64 x0) := (H.blk 0 rfl).cell 0
  have gif0 : (wa).frozen? ⟨w.heap.size, 0, none⟩ = false := (H.blk 0 rfl).frozen 0
  have gi1 : (wa).cell? ⟨w.heap.size, 1, none⟩ = some (.int .i64 x1) := (H.blk 0 rfl).cell 1
  have gif1 : (wa).frozen? ⟨w.heap.size, 1, none⟩ = false := (H.blk 0 rfl).frozen 1
  have gi2 : (wa).cell? ⟨w.heap.size, 2, none⟩ = some (.int .i64 x2) := (H.blk 0 rfl).cell 2
  have gif2 : (wa).frozen? ⟨w.heap.size, 2, none⟩ = false := (H.blk 0 rfl).frozen 2
  have gi3 : (wa).cell? ⟨w.heap.size, 3, none⟩ = some (.int .i64 x3) := (H.blk 0 rfl).cell 3
  have gif3 : (wa).frozen? ⟨w.heap.size, 3, none⟩ = false := (H.blk 0 rfl).frozen 3
  have gi4 : (wa).cell? ⟨w.heap.size, 4, none⟩ = some (.int .i64 x4) := (H.blk 0 rfl).cell 4
  have gif4 : (wa).frozen? ⟨w.heap.size, 4, none⟩ = false := (H.blk 0 rfl).frozen 4
  have gi5 : (wa).cell? ⟨w.heap.size, 5, none⟩ = some (.int .i64 x5) := (H.blk 0 rfl).cell 5
  have gif5 : (wa).frozen? ⟨w.heap.size, 5, none⟩ = false := (H.blk 0 rfl).frozen 5
  have gi6 : (wa).cell? ⟨w.heap.size, 6, none⟩ = some (.slice A n m) := (H.blk 0 rfl).cell 6
  have gif6 : (wa).frozen? ⟨w.heap.size, 6, none⟩ = false := (H.blk 0 rfl).frozen 6
  have gilt : w.heap.size < (wa).heap.size := H.lt 0 rfl
  have dj0 : (wa).cell? ⟨w.heap.size + 1, 0, none⟩ = some (.slice D n' m') := (H.blk 1 rfl).cell 0
  have djf0 : (wa).frozen? ⟨w.heap.size + 1, 0, none⟩ = false := (H.blk 1 rfl).frozen 0
  have dj1 : (wa).cell? ⟨w.heap.size + 1, 1, none⟩ = some (.int .i64 y1) := (H.blk 1 rfl).cell 1
  have djf1 : (wa).frozen? ⟨w.heap.size + 1, 1, none⟩ = false := (H.blk 1 rfl).frozen 1
  have dj2 : (wa).cell? ⟨w.heap.size + 1, 2, none⟩ = some (.int .i64 y2) := (H.blk 1 rfl).cell 2
  have djf2 : (wa).frozen? ⟨w.heap.size + 1, 2, none⟩ = false := (H.blk 1 rfl).frozen 2
  have dj3 : (wa).cell? ⟨w.heap.size + 1, 3, none⟩ = some (.int .i64 y3) := (H.blk 1 rfl).cell 3
  have djf3 : (wa).frozen? ⟨w.heap.size + 1, 3, none⟩ = false := (H.blk 1 rfl).frozen 3
  have dj4 : (wa).cell? ⟨w.heap.size + 1, 4, none⟩ = some (.int .i64 y4) := (H.blk 1 rfl).cell 4
  have djf4 : (wa).frozen? ⟨w.heap.size + 1, 4, none⟩ = false := (H.blk 1 rfl).frozen 4
  have djlt : w.heap.size + 1 < (wa).heap.size := H.lt 1 rfl
  have ne_gi_dj : w.heap.size ≠ w.heap.size + 1 := H.ne 0 1 rfl rfl (by decide)
  have ne_dj_gi : w.heap.size + 1 ≠ w.heap.size := H.ne 1 0 rfl rfl (by decide)
  clear hG hW0 hba hds
  have hu1 := hu.below H.below
  go_wp2_with fail
  obtain ⟨Wb, hWb⟩ : ∃ Wb, (wa).alloc (.cells #[.int .i64 (me : Int), .int .i64 (rev : Int), .int .i64 (next : Int), .int .i64 (month : Int), .int .i64 (bought : Int), .int .i64 free, .slice A1 l.length c1] 59) = Wb := ⟨_, rfl⟩
  replace H : Mem (w) [] _ [.blk (w.heap.size) 53 #[.int .i64 x0, .int .i64 x1, .int .i64 x2, .int .i64 x3, .int .i64 x4, .int .i64 x5, .slice A n m], .blk (w.heap.size + 1) 56 #[.slice D n' m', .int .i64 y1, .int .i64 y2, .int .i64 y3, .int .i64 y4], .row (W0.heap.size) (25) (2) (.slice A1 l.length c1) (l.length) (drs l), .blk (wa.heap.size) 59 #[.int .i64 (me : Int), .int .i64 (rev : Int), .int .i64 (next : Int), .int .i64 (month : Int), .int .i64 (bought : Int), .int .i64 free, .slice A1 l.length c1]] := Mem.alloc H (wa.heap.size) (by first | (simp; done) | (simp; omega)) #[.int .i64 (me : Int), .int .i64 (rev : Int), .int .i64 (next : Int), .int .i64 (month : Int), .int .i64 (bought : Int), .int .i64 free, .slice A1 l.length c1] 59
  rw [hWb] at H ⊢
  clear hWb
  refine (hAg _ (hu.below H.below)).mono ?_
  rintro e wb ⟨tl, At, ct, fx, fb, db, al, rfl, hT, hTm, hdt, hbb⟩
  replace H : Mem (w) [] (wb) [.blk (w.heap.size) 53 #[.int .i64 x0, .int .i64 x1, .int .i64 x2, .int .i64 x3, .int .i64 x4, .int .i64 x5, .slice A n m], .blk (w.heap.size + 1) 56 #[.slice D n' m', .int .i64 y1, .int .i64 y2, .int .i64 y3, .int .i64 y4], .row (W0.heap.size) (25) (2) (.slice A1 l.length c1) (l.length) (drs l), .blk (wa.heap.size) 59 #[.int .i64 (me : Int), .int .i64 (rev : Int), .int .i64 (next : Int), .int .i64 (month : Int), .int .i64 (bought : Int), .int .i64 free, .slice A1 l.length c1], .row (Wb.heap.size) (122) (2) (.slice At tl.length ct) (tl.length) (drs tl)] := Mem.row H hbb hdt (Nat.le_refl _)
  clear gi0 gif0 gi1 gif1 gi2 gif2 gi3 gif3 gi4 gif4 gi5 gif5 gi6 gif6 gilt dj0 djf0 dj1 djf1 dj2 djf2 dj3 djf3 dj4 djf4 djlt ne_gi_dj ne_dj_gi
  have gi0 : (wb).cell? ⟨w.heap.size, 0, none⟩ = some (.int .i64 x0) := (H.blk 0 rfl).cell 0
  have gif0 : (wb).frozen? ⟨w.heap.size, 0, none⟩ = false := (H.blk 0 rfl).frozen 0
  have gi1 : (wb).cell? ⟨w.heap.size, 1, none⟩ = some (.int .i64 x1) := (H.blk 0 rfl).cell 1
  have gif1 : (wb).frozen? ⟨w.heap.size, 1, none⟩ = false := (H.blk 0 rfl).frozen 1
  have gi2 : (wb).cell? ⟨w.heap.size, 2, none⟩ = some (.int .i64 x2) := (H.blk 0 rfl).cell 2
  have gif2 : (wb).frozen? ⟨w.heap.size, 2, none⟩ = false := (H.blk 0 rfl).frozen 2
  have gi3 : (wb).cell? ⟨w.heap.size, 3, none⟩ = some (.int .i64 x3) := (H.blk 0 rfl).cell 3
  have gif3 : (wb).frozen? ⟨w.heap.size, 3, none⟩ = false := (H.blk 0 rfl).frozen 3
  have gi4 : (wb).cell? ⟨w.heap.size, 4, none⟩ = some (.int .i64 x4) := (H.blk 0 rfl).cell 4
  have gif4 : (wb).frozen? ⟨w.heap.size, 4, none⟩ = false := (H.blk 0 rfl).frozen 4
  have gi5 : (wb).cell? ⟨w.heap.size, 5, none⟩ = some (.int .i64 x5) := (H.blk 0 rfl).cell 5
  have gif5 : (wb).frozen? ⟨w.heap.size, 5, none⟩ = false := (H.blk 0 rfl).frozen 5
  have gi6 : (wb).cell? ⟨w.heap.size, 6, none⟩ = some (.slice A n m) := (H.blk 0 rfl).cell 6
  have gif6 : (wb).frozen? ⟨w.heap.size, 6, none⟩ = false := (H.blk 0 rfl).frozen 6
  have gilt : w.heap.size < (wb).heap.size := H.lt 0 rfl
  have dj0 : (wb).cell? ⟨w.heap.size + 1, 0, none⟩ = some (.slice D n' m') := (H.blk 1 rfl).cell 0
  have djf0 : (wb).frozen? ⟨w.heap.size + 1, 0, none⟩ = false := (H.blk 1 rfl).frozen 0
  have dj1 : (wb).cell? ⟨w.heap.size + 1, 1, none⟩ = some (.int .i64 y1) := (H.blk 1 rfl).cell 1
  have djf1 : (wb).frozen? ⟨w.heap.size + 1, 1, none⟩ = false := (H.blk 1 rfl).frozen 1
  have dj2 : (wb).cell? ⟨w.heap.size + 1, 2, none⟩ = some (.int .i64 y2) := (H.blk 1 rfl).cell 2
  have djf2 : (wb).frozen? ⟨w.heap.size + 1, 2, none⟩ = false := (H.blk 1 rfl).frozen 2
  have dj3 : (wb).cell? ⟨w.heap.size + 1, 3, none⟩ = some (.int .i64 y3) := (H.blk 1 rfl).cell 3
  have djf3 : (wb).frozen? ⟨w.heap.size + 1, 3, none⟩ = false := (H.blk 1 rfl).frozen 3
  have dj4 : (wb).cell? ⟨w.heap.size + 1, 4, none⟩ = some (.int .i64 y4) := (H.blk 1 rfl).cell 4
  have djf4 : (wb).frozen? ⟨w.heap.size + 1, 4, none⟩ = false := (H.blk 1 rfl).frozen 4
  have djlt : w.heap.size + 1 < (wb).heap.size := H.lt 1 rfl
  have ac0 : (wb).cell? ⟨wa.heap.size, 0, none⟩ = some (.int .i64 (me : Int)) := (H.blk 3 rfl).cell 0
  have acf0 : (wb).frozen? ⟨wa.heap.size, 0, none⟩ = false := (H.blk 3 rfl).frozen 0
  have ac1 : (wb).cell? ⟨wa.heap.size, 1, none⟩ = some (.int .i64 (rev : Int)) := (H.blk 3 rfl).cell 1
  have acf1 : (wb).frozen? ⟨wa.heap.size, 1, none⟩ = false := (H.blk 3 rfl).frozen 1
  have ac2 : (wb).cell? ⟨wa.heap.size, 2, none⟩ = some (.int .i64 (next : Int)) := (H.blk 3 rfl).cell 2
  have acf2 : (wb).frozen? ⟨wa.heap.size, 2, none⟩ = false := (H.blk 3 rfl).frozen 2
  have ac3 : (wb).cell? ⟨wa.heap.size, 3, none⟩ = some (.int .i64 (month : Int)) := (H.blk 3 rfl).cell 3
  have acf3 : (wb).frozen? ⟨wa.heap.size, 3, none⟩ = false := (H.blk 3 rfl).frozen 3
  have ac4 : (wb).cell? ⟨wa.heap.size, 4, none⟩ = some (.int .i64 (bought : Int)) := (H.blk 3 rfl).cell 4
  have acf4 : (wb).frozen? ⟨wa.heap.size, 4, none⟩ = false := (H.blk 3 rfl).frozen 4
  have ac5 : (wb).cell? ⟨wa.heap.size, 5, none⟩ = some (.int .i64 free) := (H.blk 3 rfl).cell 5
  have acf5 : (wb).frozen? ⟨wa.heap.size, 5, none⟩ = false := (H.blk 3 rfl).frozen 5
  have ac6 : (wb).cell? ⟨wa.heap.size, 6, none⟩ = some (.slice A1 l.length c1) := (H.blk 3 rfl).cell 6
  have acf6 : (wb).frozen? ⟨wa.heap.size, 6, none⟩ = false := (H.blk 3 rfl).frozen 6
  have aclt : wa.heap.size < (wb).heap.size := H.lt 3 rfl
  have ne_gi_dj : w.heap.size ≠ w.heap.size + 1 := H.ne 0 1 rfl rfl (by decide)
  have ne_gi_ac : w.heap.size ≠ wa.heap.size := H.ne 0 3 rfl rfl (by decide)
  have ne_dj_gi : w.heap.size + 1 ≠ w.heap.size := H.ne 1 0 rfl rfl (by decide)
  have ne_dj_ac : w.heap.size + 1 ≠ wa.heap.size := H.ne 1 3 rfl rfl (by decide)
  have ne_ac_gi : wa.heap.size ≠ w.heap.size := H.ne 3 0 rfl rfl (by decide)
  have ne_ac_dj : wa.heap.size ≠ w.heap.size + 1 := H.ne 3 1 rfl rfl (by decide)
  clear hdt hbb hu hu1 hAg
  obtain ⟨p, hp, hp1⟩ := pk_lit a2 100000000 (by omega)
  obtain ⟨t, ht1⟩ : ∃ t : Nat, (1 : Int) + (p : Int) = (t : Int) := ⟨1 + p, by omega⟩
  have e3 : IntKind.i64.wrap (1 + (p : Int)) = (t : Int) := by rw [ht1]; exact IntWalk.i64_in _ (by omega)
  obtain ⟨b1', b2'⟩ : 1 ≤ t ∧ t ≤ 100000000 := by omega
  have hok' := hok
  obtain ⟨a1', a2', a3', a4', a5', a6', a7', a8'⟩ := hok'
  clear ht1 hp1
  obtain ⟨r1, hr1⟩ : ∃ r : Nat, (2399 : Int) - (month : Int) = (r : Int) := ⟨2399 - month, by omega⟩
  obtain ⟨K, hK⟩ : ∃ K : Int, (r1 : Int) + 1 = K := ⟨_, rfl⟩
  obtain ⟨f, hf, hf1⟩ := pk_lit a3 K (by omega)
  obtain ⟨m2, hm2⟩ : ∃ m2 : Nat, (month : Int) + (f : Int) = (m2 : Int) := ⟨month + f, by omega⟩
  have K1 : (1 : Int) ≤ K := by omega
  have K2 : K ≤ 9223372036854775807 := by omega
  have K3 : (r1 : Int) ≤ 2399 := by omega
  have K4 : IntKind.i64.wrap ((2399 : Int) - (month : Int)) = (r1 : Int) := by rw [hr1]; exact IntWalk.i64_in _ (by omega)
  have K5 : IntKind.i64.wrap ((r1 : Int) + 1) = K := by rw [hK]; exact IntWalk.i64_in _ (by omega)
  have K6 : IntKind.i64.wrap ((month : Int) + (f : Int)) = (m2 : Int) := by rw [hm2]; exact IntWalk.i64_in _ (by omega)
  have L1 : month ≤ m2 := by omega
  have L2 : m2 ≤ 2399 := by omega
  obtain ⟨b2, l2, R1⟩ := rolled_ex month bought l m2 L1
  have L3 : b2 ≤ 10000000 := by rcases R1 with ⟨_, rfl, _⟩ | ⟨_, rfl, _⟩ <;> omega
  have L4 := R1.ok hd
  have HM2 : Hid (month + f = m2) := by show _ = _; omega
  clear hr1 hK hm2 hf1
  go_wp2_with fail
  obtain ⟨Wc, hWc⟩ : ∃ Wc, (wb).alloc (.cells #[.slice At tl.length ct, .int .i64 (fx : Int), .int .i64 (fb : Int), .int .i64 (db : Int), .int .i64 (al : Int)] 63) = Wc := ⟨_, rfl⟩
  replace H : Mem (w) [] _ [.blk (w.heap.size) 53 #[.int .i64 x0, .int .i64 x1, .int .i64 x2, .int .i64 x3, .int .i64 x4, .int .i64 x5, .slice A n m], .blk (w.heap.size + 1) 56 #[.slice D n' m', .int .i64 y1, .int .i64 y2, .int .i64 y3, .int .i64 y4], .row (W0.heap.size) (25) (2) (.slice A1 l.length c1) (l.length) (drs l), .blk (wa.heap.size) 59 #[.int .i64 (me : Int), .int .i64 (rev : Int), .int .i64 (next : Int), .int .i64 (month : Int), .int .i64 (bought : Int), .int .i64 free, .slice A1 l.length c1], .row (Wb.heap.size) (122) (2) (.slice At tl.length ct) (tl.length) (drs tl), .blk (wb.heap.size) 63 #[.slice At tl.length ct, .int .i64 (fx : Int), .int .i64 (fb : Int), .int .i64 (db : Int), .int .i64 (al : Int)]] := Mem.alloc H (wb.heap.size) (by first | (simp; done) | (simp; omega)) #[.slice At tl.length ct, .int .i64 (fx : Int), .int .i64 (fb : Int), .int .i64 (db : Int), .int .i64 (al : Int)] 63
  rw [hWc] at H ⊢
  clear hWc
  clear gi0 gif0 gi1 gif1 gi2 gif2 gi3 gif3 gi4 gif4 gi5 gif5 gi6 gif6 gilt dj0 djf0 dj1 djf1 dj2 djf2 dj3 djf3 dj4 djf4 djlt ac0 acf0 ac1 acf1 ac2 acf2 ac3 acf3 ac4 acf4 ac5 acf5 ac6 acf6 aclt ne_gi_dj ne_gi_ac ne_dj_gi ne_dj_ac ne_ac_gi ne_ac_dj
  have ac0 : (Wc).cell? ⟨wa.heap.size, 0, none⟩ = some (.int .i64 (me : Int)) := (H.blk 3 rfl).cell 0
  have acf0 : (Wc).frozen? ⟨wa.heap.size, 0, none⟩ = false := (H.blk 3 rfl).frozen 0
  have ac1 : (Wc).cell? ⟨wa.heap.size, 1, none⟩ = some (.int .i64 (rev : Int)) := (H.blk 3 rfl).cell 1
  have acf1 : (Wc).frozen? ⟨wa.heap.size, 1, none⟩ = false := (H.blk 3 rfl).frozen 1
  have ac2 : (Wc).cell? ⟨wa.heap.size, 2, none⟩ = some (.int .i64 (next : Int)) := (H.blk 3 rfl).cell 2
  have acf2 : (Wc).frozen? ⟨wa.heap.size, 2, none⟩ = false := (H.blk 3 rfl).frozen 2
  have ac3 : (Wc).cell? ⟨wa.heap.size, 3, none⟩ = some (.int .i64 (month : Int)) := (H.blk 3 rfl).cell 3
  have acf3 : (Wc).frozen? ⟨wa.heap.size, 3, none⟩ = false := (H.blk 3 rfl).frozen 3
  have ac4 : (Wc).cell? ⟨wa.heap.size, 4, none⟩ = some (.int .i64 (bought : Int)) := (H.blk 3 rfl).cell 4
  have acf4 : (Wc).frozen? ⟨wa.heap.size, 4, none⟩ = false := (H.blk 3 rfl).frozen 4
  have ac5 : (Wc).cell? ⟨wa.heap.size, 5, none⟩ = some (.int .i64 free) := (H.blk 3 rfl).cell 5
  have acf5 : (Wc).frozen? ⟨wa.heap.size, 5, none⟩ = false := (H.blk 3 rfl).frozen 5
  have ac6 : (Wc).cell? ⟨wa.heap.size, 6, none⟩ = some (.slice A1 l.length c1) := (H.blk 3 rfl).cell 6
  have acf6 : (Wc).frozen? ⟨wa.heap.size, 6, none⟩ = false := (H.blk 3 rfl).frozen 6
  have aclt : wa.heap.size < (Wc).heap.size := H.lt 3 rfl
  have te0 : (Wc).cell? ⟨wb.heap.size, 0, none⟩ = some (.slice At tl.length ct) := (H.blk 5 rfl).cell 0
  have tef0 : (Wc).frozen? ⟨wb.heap.size, 0, none⟩ = false := (H.blk 5 rfl).frozen 0
  have te1 : (Wc).cell? ⟨wb.heap.size, 1, none⟩ = some (.int .i64 (fx : Int)) := (H.blk 5 rfl).cell 1
  have tef1 : (Wc).frozen? ⟨wb.heap.size, 1, none⟩ = false := (H.blk 5 rfl).frozen 1
  have te2 : (Wc).cell? ⟨wb.heap.size, 2, none⟩ = some (.int .i64 (fb : Int)) := (H.blk 5 rfl).cell 2
  have tef2 : (Wc).frozen? ⟨wb.heap.size, 2, none⟩ = false := (H.blk 5 rfl).frozen 2
  have te3 : (Wc).cell? ⟨wb.heap.size, 3, none⟩ = some (.int .i64 (db : Int)) := (H.blk 5 rfl).cell 3
  have tef3 : (Wc).frozen? ⟨wb.heap.size, 3, none⟩ = false := (H.blk 5 rfl).frozen 3
  have te4 : (Wc).cell? ⟨wb.heap.size, 4, none⟩ = some (.int .i64 (al : Int)) := (H.blk 5 rfl).cell 4
  have tef4 : (Wc).frozen? ⟨wb.heap.size, 4, none⟩ = false := (H.blk 5 rfl).frozen 4
  have telt : wb.heap.size < (Wc).heap.size := H.lt 5 rfl
  have ne_ac_te : wa.heap.size ≠ wb.heap.size := H.ne 3 5 rfl rfl (by decide)
  have ne_te_ac : wb.heap.size ≠ wa.heap.size := H.ne 5 3 rfl rfl (by decide)
  go_quiet ((go_at_call 18; exact Calls.quiet_of_same ((picked_is _ hf w3 K1 K2).mono fun _ _ h => ⟨h.1, h.2.symm⟩)))
  obtain ⟨Wd, hWd⟩ : ∃ Wd, (Wc).drewN nq = Wd := ⟨_, rfl⟩
  replace H := H.drewN nq
  rw [hWd] at H ⊢
  clear hWd
  clear K3 K4 K5 K6 K1 K2
  have hdl := isds_own (l := l) rfl (H.own_ 2 rfl)
  have hdt := isds_own (l := tl) rfl (H.own_ 4 rfl)
  have hR1 := R1
  obtain ⟨S, paid, f0, F, out, hS⟩ := sale_ex (l := l2) hT hTm L3 b1' b2'
  obtain ⟨next1, hn1⟩ : ∃ k, k = next + 1 := ⟨_, rfl⟩
  clear ac0 acf0 ac1 acf1 ac2 acf2 ac3 acf3 ac4 acf4 ac5 acf5 ac6 acf6 aclt te0 tef0 te1 tef1 te2 tef2 te3 tef3 te4 tef4 telt ne_ac_te ne_te_ac
  have ac0 : (Wd).cell? ⟨wa.heap.size, 0, none⟩ = some (.int .i64 (me : Int)) := (H.blk 3 rfl).cell 0
  have acf0 : (Wd).frozen? ⟨wa.heap.size, 0, none⟩ = false := (H.blk 3 rfl).frozen 0
  have ac1 : (Wd).cell? ⟨wa.heap.size, 1, none⟩ = some (.int .i64 (rev : Int)) := (H.blk 3 rfl).cell 1
  have acf1 : (Wd).frozen? ⟨wa.heap.size, 1, none⟩ = false := (H.blk 3 rfl).frozen 1
  have ac2 : (Wd).cell? ⟨wa.heap.size, 2, none⟩ = some (.int .i64 (next : Int)) := (H.blk 3 rfl).cell 2
  have acf2 : (Wd).frozen? ⟨wa.heap.size, 2, none⟩ = false := (H.blk 3 rfl).frozen 2
  have ac3 : (Wd).cell? ⟨wa.heap.size, 3, none⟩ = some (.int .i64 (month : Int)) := (H.blk 3 rfl).cell 3
  have acf3 : (Wd).frozen? ⟨wa.heap.size, 3, none⟩ = false := (H.blk 3 rfl).frozen 3
  have ac4 : (Wd).cell? ⟨wa.heap.size, 4, none⟩ = some (.int .i64 (bought : Int)) := (H.blk 3 rfl).cell 4
  have acf4 : (Wd).frozen? ⟨wa.heap.size, 4, none⟩ = false := (H.blk 3 rfl).frozen 4
  have ac5 : (Wd).cell? ⟨wa.heap.size, 5, none⟩ = some (.int .i64 free) := (H.blk 3 rfl).cell 5
  have acf5 : (Wd).frozen? ⟨wa.heap.size, 5, none⟩ = false := (H.blk 3 rfl).frozen 5
  have ac6 : (Wd).cell? ⟨wa.heap.size, 6, none⟩ = some (.slice A1 l.length c1) := (H.blk 3 rfl).cell 6
  have acf6 : (Wd).frozen? ⟨wa.heap.size, 6, none⟩ = false := (H.blk 3 rfl).frozen 6
  have aclt : wa.heap.size < (Wd).heap.size := H.lt 3 rfl
  have te0 : (Wd).cell? ⟨wb.heap.size, 0, none⟩ = some (.slice At tl.length ct) := (H.blk 5 rfl).cell 0
  have tef0 : (Wd).frozen? ⟨wb.heap.size, 0, none⟩ = false := (H.blk 5 rfl).frozen 0
  have te1 : (Wd).cell? ⟨wb.heap.size, 1, none⟩ = some (.int .i64 (fx : Int)) := (H.blk 5 rfl).cell 1
  have tef1 : (Wd).frozen? ⟨wb.heap.size, 1, none⟩ = false := (H.blk 5 rfl).frozen 1
  have te2 : (Wd).cell? ⟨wb.heap.size, 2, none⟩ = some (.int .i64 (fb : Int)) := (H.blk 5 rfl).cell 2
  have tef2 : (Wd).frozen? ⟨wb.heap.size, 2, none⟩ = false := (H.blk 5 rfl).frozen 2
  have te3 : (Wd).cell? ⟨wb.heap.size, 3, none⟩ = some (.int .i64 (db : Int)) := (H.blk 5 rfl).cell 3
  have tef3 : (Wd).frozen? ⟨wb.heap.size, 3, none⟩ = false := (H.blk 5 rfl).frozen 3
  have te4 : (Wd).cell? ⟨wb.heap.size, 4, none⟩ = some (.int .i64 (al : Int)) := (H.blk 5 rfl).cell 4
  have tef4 : (Wd).frozen? ⟨wb.heap.size, 4, none⟩ = false := (H.blk 5 rfl).frozen 4
  have telt : wb.heap.size < (Wd).heap.size := H.lt 5 rfl
  have ne_ac_te : wa.heap.size ≠ wb.heap.size := H.ne 3 5 rfl rfl (by decide)
  have ne_te_ac : wb.heap.size ≠ wa.heap.size := H.ne 5 3 rfl rfl (by decide)

  rcases hS with ⟨left, U, P, hS, hU⟩ | ⟨li, hS⟩
  · obtain ⟨bought2, hb2⟩ : ∃ k, k = b2 + U := ⟨_, rfl⟩
    obtain ⟨m1, mm2, m3, m4, m5⟩ := most_law hT L3 hS.h8
    obtain ⟨ch, hch⟩ : ∃ k, P + k = left := ⟨left - P, by omega⟩
    obtain ⟨Q, hQ⟩ : ∃ Q : List Int → Option Addr → Nat → List (Nat × Nat) → List Int → Int → Prop, Q = fun vs _ _ o bs er => vs = [(me : Int), (rev : Int), (next1 : Int), (m2 : Int), (bought2 : Int), free] ∧ o = out ∧ bs = [(next : Int), (t : Int), (paid : Int), (F : Int), (P : Int), (ch : Int), (U : Int)] ∧ er = 0 := ⟨_, rfl⟩
    have hXg : ∀ W, IsDs W (.slice A1 l.length c1) l → IsDs W (.slice At tl.length ct) tl → Calls Try.prog 23 #[.agg #[.int .i64 (me : Int), .int .i64 (rev : Int), .int .i64 (next : Int), .int .i64 (month : Int), .int .i64 (bought : Int), .int .i64 free, .slice A1 l.length c1], .agg #[.slice At tl.length ct, .int .i64 (fx : Int), .int .i64 (fb : Int), .int .i64 (db : Int), .int .i64 (al : Int)], .int .i64 (t : Int), .int .i64 (m2 : Int)] W (RetSG Q W) := fun W h1 h2 => (sellX_yes me rev next month bought free A1 l.length c1 l At tl.length ct fx fb db al tl m2 b2 l2 t S paid f0 F left U P out next1 bought2 ch W h1 hd hok h2 hT hTm R1 (by omega) hS hU (by omega) (Lib.hid hn1) (Lib.hid hb2) (Lib.hid hch)).mono fun _ _ ⟨A2, c2, e, ho, hb⟩ => ⟨_, _, _, _, _, _, A2, c2, out, _, _, _, _, _, _, _, 0, e, by rw [hQ]; exact ⟨rfl, rfl, rfl, rfl⟩, ho, hb⟩
    go_wp2_with fail
    go_cut [12, 13, 14] (fun p q r wx => SellOut w [.blk (w.heap.size) 53 #[.int .i64 x0, .int .i64 x1, .int .i64 x2, .int .i64 x3, .int .i64 x4, .int .i64 x5, .slice A n m], .blk (w.heap.size + 1) 56 #[.slice D n' m', .int .i64 y1, .int .i64 y2, .int .i64 y3, .int .i64 y4], .row (W0.heap.size) (25) (2) (.slice A1 l.length c1) (l.length) (drs l), .blk (wa.heap.size) 59 #[.int .i64 (me : Int), .int .i64 (rev : Int), .int .i64 (next : Int), .int .i64 (month : Int), .int .i64 (bought : Int), .int .i64 free, .slice A1 l.length c1], .row (Wb.heap.size) (122) (2) (.slice At tl.length ct) (tl.length) (drs tl), .blk (wb.heap.size) 63 #[.slice At tl.length ct, .int .i64 (fx : Int), .int .i64 (fb : Int), .int .i64 (db : Int), .int .i64 (al : Int)]] Q p q r wx)
    case first =>
      clear v0 v1 v2 v3 v4 v5 u1 u2 u3 u4 hok hn hmo hd hT hTm b1' b2' a1' a2' a3' a4' a5' a6' a7' a8' w3 hf L1 L2 R1 L3 L4 HM2 hR1 hn1 hQ hS hU hb2 m1 mm2 m3 m4 m5 hch
      have nz0 : Wd.heap.size ≠ wa.heap.size := by omega
      have nz1 : Wd.heap.size ≠ wb.heap.size := by omega
      have nz2 : Wd.heap.size + 1 ≠ wa.heap.size := by omega
      have nz3 : Wd.heap.size + 1 ≠ wb.heap.size := by omega
      have V0b : Below Wd.heap.size Wd (Wd).drew := below_draws (Below.refl _ _) 1
      have V1b : Below Wd.heap.size Wd (Wd.alloc (.cells #[.int .i64 0, .int .i64 0, .int .i64 0, .int .i64 0, .int .i64 0, .int .i64 0, .slice none 0 0] 59)).drew := below_draws (below_a1 _ _) 1
      have V1s : Wd.heap.size + 1 ≤ ((Wd.alloc (.cells #[.int .i64 0, .int .i64 0, .int .i64 0, .int .i64 0, .int .i64 0, .int .i64 0, .slice none 0 0] 59)).drew).heap.size := by simp
      have V1z : Blk (Wd.alloc (.cells #[.int .i64 0, .int .i64 0, .int .i64 0, .int .i64 0, .int .i64 0, .int .i64 0, .slice none 0 0] 59)).drew (Wd.heap.size) 59 #[.int .i64 0, .int .i64 0, .int .i64 0, .int .i64 0, .int .i64 0, .int .i64 0, .slice none 0 0] := (show Blk (Wd.alloc (.cells #[.int .i64 0, .int .i64 0, .int .i64 0, .int .i64 0, .int .i64 0, .int .i64 0, .slice none 0 0] 59)) (Wd.heap.size) 59 #[.int .i64 0, .int .i64 0, .int .i64 0, .int .i64 0, .int .i64 0, .int .i64 0, .slice none 0 0] from Blk.new _ _ _)
      have V2b : Below Wd.heap.size Wd (Wd.alloc (.cells #[.int .i64 0, .int .i64 0, .int .i64 0, .int .i64 0, .int .i64 0, .int .i64 0, .int .i64 0] 23)).drew := below_draws (below_a1 _ _) 1
      have V2s : Wd.heap.size + 1 ≤ ((Wd.alloc (.cells #[.int .i64 0, .int .i64 0, .int .i64 0, .int .i64 0, .int .i64 0, .int .i64 0, .int .i64 0] 23)).drew).heap.size := by simp
      have V2y : Blk (Wd.alloc (.cells #[.int .i64 0, .int .i64 0, .int .i64 0, .int .i64 0, .int .i64 0, .int .i64 0, .int .i64 0] 23)).drew (Wd.heap.size) 23 #[.int .i64 0, .int .i64 0, .int .i64 0, .int .i64 0, .int .i64 0, .int .i64 0, .int .i64 0] := (show Blk (Wd.alloc (.cells #[.int .i64 0, .int .i64 0, .int .i64 0, .int .i64 0, .int .i64 0, .int .i64 0, .int .i64 0] 23)) (Wd.heap.size) 23 #[.int .i64 0, .int .i64 0, .int .i64 0, .int .i64 0, .int .i64 0, .int .i64 0, .int .i64 0] from Blk.new _ _ _)
      have V3b : Below Wd.heap.size Wd ((Wd.alloc (.cells #[.int .i64 0, .int .i64 0, .int .i64 0, .int .i64 0, .int .i64 0, .int .i64 0, .slice none 0 0] 59)).alloc (.cells #[.int .i64 0, .int .i64 0, .int .i64 0, .int .i64 0, .int .i64 0, .int .i64 0, .int .i64 0] 23)).drew := below_draws (below_a2 _ _ _) 1
      have V3s : Wd.heap.size + 2 ≤ (((Wd.alloc (.cells #[.int .i64 0, .int .i64 0, .int .i64 0, .int .i64 0, .int .i64 0, .int .i64 0, .slice none 0 0] 59)).alloc (.cells #[.int .i64 0, .int .i64 0, .int .i64 0, .int .i64 0, .int .i64 0, .int .i64 0, .int .i64 0] 23)).drew).heap.size := by simp
      have V3z : Blk ((Wd.alloc (.cells #[.int .i64 0, .int .i64 0, .int .i64 0, .int .i64 0, .int .i64 0, .int .i64 0, .slice none 0 0] 59)).alloc (.cells #[.int .i64 0, .int .i64 0, .int .i64 0, .int .i64 0, .int .i64 0, .int .i64 0, .int .i64 0] 23)).drew (Wd.heap.size) 59 #[.int .i64 0, .int .i64 0, .int .i64 0, .int .i64 0, .int .i64 0, .int .i64 0, .slice none 0 0] := (show Blk ((Wd.alloc (.cells #[.int .i64 0, .int .i64 0, .int .i64 0, .int .i64 0, .int .i64 0, .int .i64 0, .slice none 0 0] 59)).alloc (.cells #[.int .i64 0, .int .i64 0, .int .i64 0, .int .i64 0, .int .i64 0, .int .i64 0, .int .i64 0] 23)) (Wd.heap.size) 59 #[.int .i64 0, .int .i64 0, .int .i64 0, .int .i64 0, .int .i64 0, .int .i64 0, .slice none 0 0] from (Blk.new _ _ _).alloc _)
      have V3y : Blk ((Wd.alloc (.cells #[.int .i64 0, .int .i64 0, .int .i64 0, .int .i64 0, .int .i64 0, .int .i64 0, .slice none 0 0] 59)).alloc (.cells #[.int .i64 0, .int .i64 0, .int .i64 0, .int .i64 0, .int .i64 0, .int .i64 0, .int .i64 0] 23)).drew (Wd.heap.size + 1) 23 #[.int .i64 0, .int .i64 0, .int .i64 0, .int .i64 0, .int .i64 0, .int .i64 0, .int .i64 0] := (show Blk ((Wd.alloc (.cells #[.int .i64 0, .int .i64 0, .int .i64 0, .int .i64 0, .int .i64 0, .int .i64 0, .slice none 0 0] 59)).alloc (.cells #[.int .i64 0, .int .i64 0, .int .i64 0, .int .i64 0, .int .i64 0, .int .i64 0, .int .i64 0] 23)) (Wd.heap.size + 1) 23 #[.int .i64 0, .int .i64 0, .int .i64 0, .int .i64 0, .int .i64 0, .int .i64 0, .int .i64 0] from by have := Blk.new (Wd.alloc (.cells #[.int .i64 0, .int .i64 0, .int .i64 0, .int .i64 0, .int .i64 0, .int .i64 0, .slice none 0 0] 59)) 23 #[.int .i64 0, .int .i64 0, .int .i64 0, .int .i64 0, .int .i64 0, .int .i64 0, .int .i64 0]; simpa using this)
      have V4b : Below Wd.heap.size Wd ((Wd.alloc (.cells #[.int .i64 0, .int .i64 0, .int .i64 0, .int .i64 0, .int .i64 0, .int .i64 0, .int .i64 0] 23)).alloc (.cells #[.int .i64 0, .int .i64 0, .int .i64 0, .int .i64 0, .int .i64 0, .int .i64 0, .slice none 0 0] 59)).drew := below_draws (below_a2 _ _ _) 1
      have V4s : Wd.heap.size + 2 ≤ (((Wd.alloc (.cells #[.int .i64 0, .int .i64 0, .int .i64 0, .int .i64 0, .int .i64 0, .int .i64 0, .int .i64 0] 23)).alloc (.cells #[.int .i64 0, .int .i64 0, .int .i64 0, .int .i64 0, .int .i64 0, .int .i64 0, .slice none 0 0] 59)).drew).heap.size := by simp
      have V4y : Blk ((Wd.alloc (.cells #[.int .i64 0, .int .i64 0, .int .i64 0, .int .i64 0, .int .i64 0, .int .i64 0, .int .i64 0] 23)).alloc (.cells #[.int .i64 0, .int .i64 0, .int .i64 0, .int .i64 0, .int .i64 0, .int .i64 0, .slice none 0 0] 59)).drew (Wd.heap.size) 23 #[.int .i64 0, .int .i64 0, .int .i64 0, .int .i64 0, .int .i64 0, .int .i64 0, .int .i64 0] := (show Blk ((Wd.alloc (.cells #[.int .i64 0, .int .i64 0, .int .i64 0, .int .i64 0, .int .i64 0, .int .i64 0, .int .i64 0] 23)).alloc (.cells #[.int .i64 0, .int .i64 0, .int .i64 0, .int .i64 0, .int .i64 0, .int .i64 0, .slice none 0 0] 59)) (Wd.heap.size) 23 #[.int .i64 0, .int .i64 0, .int .i64 0, .int .i64 0, .int .i64 0, .int .i64 0, .int .i64 0] from (Blk.new _ _ _).alloc _)
      have V4z : Blk ((Wd.alloc (.cells #[.int .i64 0, .int .i64 0, .int .i64 0, .int .i64 0, .int .i64 0, .int .i64 0, .int .i64 0] 23)).alloc (.cells #[.int .i64 0, .int .i64 0, .int .i64 0, .int .i64 0, .int .i64 0, .int .i64 0, .slice none 0 0] 59)).drew (Wd.heap.size + 1) 59 #[.int .i64 0, .int .i64 0, .int .i64 0, .int .i64 0, .int .i64 0, .int .i64 0, .slice none 0 0] := (show Blk ((Wd.alloc (.cells #[.int .i64 0, .int .i64 0, .int .i64 0, .int .i64 0, .int .i64 0, .int .i64 0, .int .i64 0] 23)).alloc (.cells #[.int .i64 0, .int .i64 0, .int .i64 0, .int .i64 0, .int .i64 0, .int .i64 0, .slice none 0 0] 59)) (Wd.heap.size + 1) 59 #[.int .i64 0, .int .i64 0, .int .i64 0, .int .i64 0, .int .i64 0, .int .i64 0, .slice none 0 0] from by have := Blk.new (Wd.alloc (.cells #[.int .i64 0, .int .i64 0, .int .i64 0, .int .i64 0, .int .i64 0, .int .i64 0, .int .i64 0] 23)) 59 #[.int .i64 0, .int .i64 0, .int .i64 0, .int .i64 0, .int .i64 0, .int .i64 0, .slice none 0 0]; simpa using this)
      go_region_held3 (fun w' => w'.cell? ⟨wa.heap.size, 0, none⟩ = some (.int .i64 (me : Int)) ∧ w'.cell? ⟨wa.heap.size, 1, none⟩ = some (.int .i64 (rev : Int)) ∧ w'.cell? ⟨wa.heap.size, 2, none⟩ = some (.int .i64 (next : Int)) ∧ w'.cell? ⟨wa.heap.size, 3, none⟩ = some (.int .i64 (month : Int)) ∧ w'.cell? ⟨wa.heap.size, 4, none⟩ = some (.int .i64 (bought : Int)) ∧ w'.cell? ⟨wa.heap.size, 5, none⟩ = some (.int .i64 free) ∧ w'.cell? ⟨wa.heap.size, 6, none⟩ = some (.slice A1 l.length c1) ∧ w'.cell? ⟨wb.heap.size, 0, none⟩ = some (.slice At tl.length ct) ∧ w'.cell? ⟨wb.heap.size, 1, none⟩ = some (.int .i64 (fx : Int)) ∧ w'.cell? ⟨wb.heap.size, 2, none⟩ = some (.int .i64 (fb : Int)) ∧ w'.cell? ⟨wb.heap.size, 3, none⟩ = some (.int .i64 (db : Int)) ∧ w'.cell? ⟨wb.heap.size, 4, none⟩ = some (.int .i64 (al : Int))) (first | with_reducible exact ⟨s0, s1, s2, s3, s4, s5, s6, s7, s8, s9, s10, s11⟩ | go_keep | fail) (first | (go_at_call 18; with_reducible refine (picked_is _ hp w2 (by omega) (by omega)).mono ?_; rintro e w' ⟨rfl, rfl⟩) | (go_at_call 23; (with_reducible refine (hXg (Wd).drew (hdl.below V0b) (hdt.below V0b)).mono ?_); rintro e we ⟨v0, v1, v2, v3, v4, v5, A2, c2, out, b0, b1, b2, b3, b4, b5, b6, er, rfl, hq, hown2, hbe⟩; have hK0 := V0b; have hWe : Below Wd.heap.size Wd we := V0b.trans (hbe.mono V0b.size); have s0 := (hWe.cell (p := ⟨wa.heap.size, 0, none⟩) aclt).trans ac0; have s1 := (hWe.cell (p := ⟨wa.heap.size, 1, none⟩) aclt).trans ac1; have s2 := (hWe.cell (p := ⟨wa.heap.size, 2, none⟩) aclt).trans ac2; have s3 := (hWe.cell (p := ⟨wa.heap.size, 3, none⟩) aclt).trans ac3; have s4 := (hWe.cell (p := ⟨wa.heap.size, 4, none⟩) aclt).trans ac4; have s5 := (hWe.cell (p := ⟨wa.heap.size, 5, none⟩) aclt).trans ac5; have s6 := (hWe.cell (p := ⟨wa.heap.size, 6, none⟩) aclt).trans ac6; have s7 := (hWe.cell (p := ⟨wb.heap.size, 0, none⟩) telt).trans te0; have s8 := (hWe.cell (p := ⟨wb.heap.size, 1, none⟩) telt).trans te1; have s9 := (hWe.cell (p := ⟨wb.heap.size, 2, none⟩) telt).trans te2; have s10 := (hWe.cell (p := ⟨wb.heap.size, 3, none⟩) telt).trans te3; have s11 := (hWe.cell (p := ⟨wb.heap.size, 4, none⟩) telt).trans te4; have sz := hWe.size; have ez1 : we.heap.size ≠ wa.heap.size := (by omega); have ez2 : we.heap.size ≠ wb.heap.size := (by omega); have ez3 : we.heap.size + 1 ≠ wa.heap.size := (by omega); have ez4 : we.heap.size + 1 ≠ wb.heap.size := (by omega)) | (go_at_call 23; (with_reducible refine (hXg (Wd.alloc (.cells #[.int .i64 0, .int .i64 0, .int .i64 0, .int .i64 0, .int .i64 0, .int .i64 0, .slice none 0 0] 59)).drew (hdl.below V1b) (hdt.below V1b)).mono ?_); rintro e we ⟨v0, v1, v2, v3, v4, v5, A2, c2, out, b0, b1, b2, b3, b4, b5, b6, er, rfl, hq, hown2, hbe⟩; have hK0 := V1b; have hWe : Below Wd.heap.size Wd we := V1b.trans (hbe.mono V1b.size); have s0 := (hWe.cell (p := ⟨wa.heap.size, 0, none⟩) aclt).trans ac0; have s1 := (hWe.cell (p := ⟨wa.heap.size, 1, none⟩) aclt).trans ac1; have s2 := (hWe.cell (p := ⟨wa.heap.size, 2, none⟩) aclt).trans ac2; have s3 := (hWe.cell (p := ⟨wa.heap.size, 3, none⟩) aclt).trans ac3; have s4 := (hWe.cell (p := ⟨wa.heap.size, 4, none⟩) aclt).trans ac4; have s5 := (hWe.cell (p := ⟨wa.heap.size, 5, none⟩) aclt).trans ac5; have s6 := (hWe.cell (p := ⟨wa.heap.size, 6, none⟩) aclt).trans ac6; have s7 := (hWe.cell (p := ⟨wb.heap.size, 0, none⟩) telt).trans te0; have s8 := (hWe.cell (p := ⟨wb.heap.size, 1, none⟩) telt).trans te1; have s9 := (hWe.cell (p := ⟨wb.heap.size, 2, none⟩) telt).trans te2; have s10 := (hWe.cell (p := ⟨wb.heap.size, 3, none⟩) telt).trans te3; have s11 := (hWe.cell (p := ⟨wb.heap.size, 4, none⟩) telt).trans te4; have sz := hWe.size; have ez1 : we.heap.size ≠ wa.heap.size := (by omega); have ez2 : we.heap.size ≠ wb.heap.size := (by omega); have ez3 : we.heap.size + 1 ≠ wa.heap.size := (by omega); have ez4 : we.heap.size + 1 ≠ wb.heap.size := (by omega); have hsz := V1s; have hwe := Nat.le_trans V1s hbe.size; have z := Blk.below V1z hbe V1z.lt; have z0 := z.cell 0; have zf0 := z.frozen 0; have z1 := z.cell 1; have zf1 := z.frozen 1; have z2 := z.cell 2; have zf2 := z.frozen 2; have z3 := z.cell 3; have zf3 := z.frozen 3; have z4 := z.cell 4; have zf4 := z.frozen 4; have z5 := z.cell 5; have zf5 := z.frozen 5; have z6 := z.cell 6; have zf6 := z.frozen 6; have zlt : Wd.heap.size < we.heap.size := (by omega)) | (go_at_call 23; (with_reducible refine (hXg (Wd.alloc (.cells #[.int .i64 0, .int .i64 0, .int .i64 0, .int .i64 0, .int .i64 0, .int .i64 0, .int .i64 0] 23)).drew (hdl.below V2b) (hdt.below V2b)).mono ?_); rintro e we ⟨v0, v1, v2, v3, v4, v5, A2, c2, out, b0, b1, b2, b3, b4, b5, b6, er, rfl, hq, hown2, hbe⟩; have hK0 := V2b; have hWe : Below Wd.heap.size Wd we := V2b.trans (hbe.mono V2b.size); have s0 := (hWe.cell (p := ⟨wa.heap.size, 0, none⟩) aclt).trans ac0; have s1 := (hWe.cell (p := ⟨wa.heap.size, 1, none⟩) aclt).trans ac1; have s2 := (hWe.cell (p := ⟨wa.heap.size, 2, none⟩) aclt).trans ac2; have s3 := (hWe.cell (p := ⟨wa.heap.size, 3, none⟩) aclt).trans ac3; have s4 := (hWe.cell (p := ⟨wa.heap.size, 4, none⟩) aclt).trans ac4; have s5 := (hWe.cell (p := ⟨wa.heap.size, 5, none⟩) aclt).trans ac5; have s6 := (hWe.cell (p := ⟨wa.heap.size, 6, none⟩) aclt).trans ac6; have s7 := (hWe.cell (p := ⟨wb.heap.size, 0, none⟩) telt).trans te0; have s8 := (hWe.cell (p := ⟨wb.heap.size, 1, none⟩) telt).trans te1; have s9 := (hWe.cell (p := ⟨wb.heap.size, 2, none⟩) telt).trans te2; have s10 := (hWe.cell (p := ⟨wb.heap.size, 3, none⟩) telt).trans te3; have s11 := (hWe.cell (p := ⟨wb.heap.size, 4, none⟩) telt).trans te4; have sz := hWe.size; have ez1 : we.heap.size ≠ wa.heap.size := (by omega); have ez2 : we.heap.size ≠ wb.heap.size := (by omega); have ez3 : we.heap.size + 1 ≠ wa.heap.size := (by omega); have ez4 : we.heap.size + 1 ≠ wb.heap.size := (by omega); have hsz := V2s; have hwe := Nat.le_trans V2s hbe.size; have y := Blk.below V2y hbe V2y.lt; have y0 := y.cell 0; have yf0 := y.frozen 0; have y1 := y.cell 1; have yf1 := y.frozen 1; have y2 := y.cell 2; have yf2 := y.frozen 2; have y3 := y.cell 3; have yf3 := y.frozen 3; have y4 := y.cell 4; have yf4 := y.frozen 4; have y5 := y.cell 5; have yf5 := y.frozen 5; have y6 := y.cell 6; have yf6 := y.frozen 6; have ylt : Wd.heap.size < we.heap.size := (by omega)) | (go_at_call 23; (with_reducible refine (hXg ((Wd.alloc (.cells #[.int .i64 0, .int .i64 0, .int .i64 0, .int .i64 0, .int .i64 0, .int .i64 0, .slice none 0 0] 59)).alloc (.cells #[.int .i64 0, .int .i64 0, .int .i64 0, .int .i64 0, .int .i64 0, .int .i64 0, .int .i64 0] 23)).drew (hdl.below V3b) (hdt.below V3b)).mono ?_); rintro e we ⟨v0, v1, v2, v3, v4, v5, A2, c2, out, b0, b1, b2, b3, b4, b5, b6, er, rfl, hq, hown2, hbe⟩; have hK0 := V3b; have hWe : Below Wd.heap.size Wd we := V3b.trans (hbe.mono V3b.size); have s0 := (hWe.cell (p := ⟨wa.heap.size, 0, none⟩) aclt).trans ac0; have s1 := (hWe.cell (p := ⟨wa.heap.size, 1, none⟩) aclt).trans ac1; have s2 := (hWe.cell (p := ⟨wa.heap.size, 2, none⟩) aclt).trans ac2; have s3 := (hWe.cell (p := ⟨wa.heap.size, 3, none⟩) aclt).trans ac3; have s4 := (hWe.cell (p := ⟨wa.heap.size, 4, none⟩) aclt).trans ac4; have s5 := (hWe.cell (p := ⟨wa.heap.size, 5, none⟩) aclt).trans ac5; have s6 := (hWe.cell (p := ⟨wa.heap.size, 6, none⟩) aclt).trans ac6; have s7 := (hWe.cell (p := ⟨wb.heap.size, 0, none⟩) telt).trans te0; have s8 := (hWe.cell (p := ⟨wb.heap.size, 1, none⟩) telt).trans te1; have s9 := (hWe.cell (p := ⟨wb.heap.size, 2, none⟩) telt).trans te2; have s10 := (hWe.cell (p := ⟨wb.heap.size, 3, none⟩) telt).trans te3; have s11 := (hWe.cell (p := ⟨wb.heap.size, 4, none⟩) telt).trans te4; have sz := hWe.size; have ez1 : we.heap.size ≠ wa.heap.size := (by omega); have ez2 : we.heap.size ≠ wb.heap.size := (by omega); have ez3 : we.heap.size + 1 ≠ wa.heap.size := (by omega); have ez4 : we.heap.size + 1 ≠ wb.heap.size := (by omega); have hsz := V3s; have hwe := Nat.le_trans V3s hbe.size; have z := Blk.below V3z hbe V3z.lt; have z0 := z.cell 0; have zf0 := z.frozen 0; have z1 := z.cell 1; have zf1 := z.frozen 1; have z2 := z.cell 2; have zf2 := z.frozen 2; have z3 := z.cell 3; have zf3 := z.frozen 3; have z4 := z.cell 4; have zf4 := z.frozen 4; have z5 := z.cell 5; have zf5 := z.frozen 5; have z6 := z.cell 6; have zf6 := z.frozen 6; have zlt : Wd.heap.size < we.heap.size := (by omega); have y := Blk.below V3y hbe V3y.lt; have y0 := y.cell 0; have yf0 := y.frozen 0; have y1 := y.cell 1; have yf1 := y.frozen 1; have y2 := y.cell 2; have yf2 := y.frozen 2; have y3 := y.cell 3; have yf3 := y.frozen 3; have y4 := y.cell 4; have yf4 := y.frozen 4; have y5 := y.cell 5; have yf5 := y.frozen 5; have y6 := y.cell 6; have yf6 := y.frozen 6; have ylt : Wd.heap.size + 1 < we.heap.size := (by omega); have zn1 : Wd.heap.size ≠ Wd.heap.size + 1 := (by omega); have zn2 : Wd.heap.size + 1 ≠ Wd.heap.size := (by omega)) | (go_at_call 23; (with_reducible refine (hXg ((Wd.alloc (.cells #[.int .i64 0, .int .i64 0, .int .i64 0, .int .i64 0, .int .i64 0, .int .i64 0, .int .i64 0] 23)).alloc (.cells #[.int .i64 0, .int .i64 0, .int .i64 0, .int .i64 0, .int .i64 0, .int .i64 0, .slice none 0 0] 59)).drew (hdl.below V4b) (hdt.below V4b)).mono ?_); rintro e we ⟨v0, v1, v2, v3, v4, v5, A2, c2, out, b0, b1, b2, b3, b4, b5, b6, er, rfl, hq, hown2, hbe⟩; have hK0 := V4b; have hWe : Below Wd.heap.size Wd we := V4b.trans (hbe.mono V4b.size); have s0 := (hWe.cell (p := ⟨wa.heap.size, 0, none⟩) aclt).trans ac0; have s1 := (hWe.cell (p := ⟨wa.heap.size, 1, none⟩) aclt).trans ac1; have s2 := (hWe.cell (p := ⟨wa.heap.size, 2, none⟩) aclt).trans ac2; have s3 := (hWe.cell (p := ⟨wa.heap.size, 3, none⟩) aclt).trans ac3; have s4 := (hWe.cell (p := ⟨wa.heap.size, 4, none⟩) aclt).trans ac4; have s5 := (hWe.cell (p := ⟨wa.heap.size, 5, none⟩) aclt).trans ac5; have s6 := (hWe.cell (p := ⟨wa.heap.size, 6, none⟩) aclt).trans ac6; have s7 := (hWe.cell (p := ⟨wb.heap.size, 0, none⟩) telt).trans te0; have s8 := (hWe.cell (p := ⟨wb.heap.size, 1, none⟩) telt).trans te1; have s9 := (hWe.cell (p := ⟨wb.heap.size, 2, none⟩) telt).trans te2; have s10 := (hWe.cell (p := ⟨wb.heap.size, 3, none⟩) telt).trans te3; have s11 := (hWe.cell (p := ⟨wb.heap.size, 4, none⟩) telt).trans te4; have sz := hWe.size; have ez1 : we.heap.size ≠ wa.heap.size := (by omega); have ez2 : we.heap.size ≠ wb.heap.size := (by omega); have ez3 : we.heap.size + 1 ≠ wa.heap.size := (by omega); have ez4 : we.heap.size + 1 ≠ wb.heap.size := (by omega); have hsz := V4s; have hwe := Nat.le_trans V4s hbe.size; have y := Blk.below V4y hbe V4y.lt; have y0 := y.cell 0; have yf0 := y.frozen 0; have y1 := y.cell 1; have yf1 := y.frozen 1; have y2 := y.cell 2; have yf2 := y.frozen 2; have y3 := y.cell 3; have yf3 := y.frozen 3; have y4 := y.cell 4; have yf4 := y.frozen 4; have y5 := y.cell 5; have yf5 := y.frozen 5; have y6 := y.cell 6; have yf6 := y.frozen 6; have ylt : Wd.heap.size < we.heap.size := (by omega); have z := Blk.below V4z hbe V4z.lt; have z0 := z.cell 0; have zf0 := z.frozen 0; have z1 := z.cell 1; have zf1 := z.frozen 1; have z2 := z.cell 2; have zf2 := z.frozen 2; have z3 := z.cell 3; have zf3 := z.frozen 3; have z4 := z.cell 4; have zf4 := z.frozen 4; have z5 := z.cell 5; have zf5 := z.frozen 5; have z6 := z.cell 6; have zf6 := z.frozen 6; have zlt : Wd.heap.size + 1 < we.heap.size := (by omega); have zn1 : Wd.heap.size ≠ Wd.heap.size + 1 := (by omega); have zn2 : Wd.heap.size + 1 ≠ Wd.heap.size := (by omega)))
      all_goals
        go_wp2_with fail
        go_meet
        first
        | with_reducible exact out_a H hK0 hbe hq hown2
        | with_reducible exact out_b H hK0 hbe hq hown2
        | (have h := out_c [(0, .int .i64 v0), (1, .int .i64 v1), (2, .int .i64 v2), (3, .int .i64 v3), (4, .int .i64 v4), (5, .int .i64 v5), (6, .slice A2 out.length c2)] H hK0 hbe z (by omega) (by omega) rfl hq hown2
           simp only [sets, List.foldl_cons, List.foldl_nil] at h
           with_reducible exact h)
        | (have h := out_d [(0, .int .i64 b0), (1, .int .i64 b1), (2, .int .i64 b2), (3, .int .i64 b3), (4, .int .i64 b4), (5, .int .i64 b5), (6, .int .i64 b6)] H hK0 hbe y (by omega) (by omega) rfl hq hown2
           simp only [sets, List.foldl_cons, List.foldl_nil] at h
           with_reducible exact h)
        | (have h := out_e [(0, .int .i64 v0), (1, .int .i64 v1), (2, .int .i64 v2), (3, .int .i64 v3), (4, .int .i64 v4), (5, .int .i64 v5), (6, .slice A2 out.length c2)] [(0, .int .i64 b0), (1, .int .i64 b1), (2, .int .i64 b2), (3, .int .i64 b3), (4, .int .i64 b4), (5, .int .i64 b5), (6, .int .i64 b6)] H hK0 hbe z y (by omega) (by omega) (by omega) (by omega) (by omega) rfl rfl hq hown2
           simp only [sets, List.foldl_cons, List.foldl_nil] at h
           with_reducible exact h)
    case rest =>
      obtain ⟨g1, g2, base, v0', v1', v2', v3', v4', v5', A2, c2, out9, b0, b1, b2', b3, b4, b5, b6, er, rfl, rfl, rfl, hq, HM⟩ := hcut
      rw [hQ] at hq
      obtain ⟨hvs, rfl, hbs, rfl⟩ := hq
      simp only [List.cons.injEq, and_true] at hvs hbs
      obtain ⟨rfl, rfl, rfl, rfl, rfl, rfl⟩ := hvs
      obtain ⟨rfl, rfl, rfl, rfl, rfl, rfl, rfl⟩ := hbs
      clear hXg hQ
      have H : Mem (w) [] (wc) [.blk (w.heap.size) 53 #[.int .i64 x0, .int .i64 x1, .int .i64 x2, .int .i64 x3, .int .i64 x4, .int .i64 x5, .slice A n m], .blk (w.heap.size + 1) 56 #[.slice D n' m', .int .i64 y1, .int .i64 y2, .int .i64 y3, .int .i64 y4], .row (W0.heap.size) (25) (2) (.slice A1 l.length c1) (l.length) (drs l), .blk (wa.heap.size) 59 #[.int .i64 (me : Int), .int .i64 (rev : Int), .int .i64 (next : Int), .int .i64 (month : Int), .int .i64 (bought : Int), .int .i64 v5', .slice A1 l.length c1], .row (Wb.heap.size) (122) (2) (.slice At tl.length ct) (tl.length) (drs tl), .blk (wb.heap.size) 63 #[.slice At tl.length ct, .int .i64 (fx : Int), .int .i64 (fb : Int), .int .i64 (db : Int), .int .i64 (al : Int)], .blk (g1) 59 #[.int .i64 (me : Int), .int .i64 (rev : Int), .int .i64 (next1 : Int), .int .i64 (m2 : Int), .int .i64 (bought2 : Int), .int .i64 v5', .slice A2 out9.length c2], .blk (g2) 23 #[.int .i64 (next : Int), .int .i64 (t : Int), .int .i64 (paid : Int), .int .i64 (F : Int), .int .i64 (P : Int), .int .i64 (ch : Int), .int .i64 (U : Int)], .row (base) (25) (2) (.slice A2 out9.length c2) (out9.length) (drs out9)] := HM
      clear ac0 acf0 ac1 acf1 ac2 acf2 ac3 acf3 ac4 acf4 ac5 acf5 ac6 acf6 aclt te0 tef0 te1 tef1 te2 tef2 te3 tef3 te4 tef4 telt ne_ac_te ne_te_ac
      have ac0 : (wc).cell? ⟨wa.heap.size, 0, none⟩ = some (.int .i64 (me : Int)) := (H.blk 3 rfl).cell 0
      have acf0 : (wc).frozen? ⟨wa.heap.size, 0, none⟩ = false := (H.blk 3 rfl).frozen 0
      have ac1 : (wc).cell? ⟨wa.heap.size, 1, none⟩ = some (.int .i64 (rev : Int)) := (H.blk 3 rfl).cell 1
      have acf1 : (wc).frozen? ⟨wa.heap.size, 1, none⟩ = false := (H.blk 3 rfl).frozen 1
      have ac2 : (wc).cell? ⟨wa.heap.size, 2, none⟩ = some (.int .i64 (next : Int)) := (H.blk 3 rfl).cell 2
      have acf2 : (wc).frozen? ⟨wa.heap.size, 2, none⟩ = false := (H.blk 3 rfl).frozen 2
      have ac3 : (wc).cell? ⟨wa.heap.size, 3, none⟩ = some (.int .i64 (month : Int)) := (H.blk 3 rfl).cell 3
      have acf3 : (wc).frozen? ⟨wa.heap.size, 3, none⟩ = false := (H.blk 3 rfl).frozen 3
      have ac4 : (wc).cell? ⟨wa.heap.size, 4, none⟩ = some (.int .i64 (bought : Int)) := (H.blk 3 rfl).cell 4
      have acf4 : (wc).frozen? ⟨wa.heap.size, 4, none⟩ = false := (H.blk 3 rfl).frozen 4
      have ac5 : (wc).cell? ⟨wa.heap.size, 5, none⟩ = some (.int .i64 v5') := (H.blk 3 rfl).cell 5
      have acf5 : (wc).frozen? ⟨wa.heap.size, 5, none⟩ = false := (H.blk 3 rfl).frozen 5
      have ac6 : (wc).cell? ⟨wa.heap.size, 6, none⟩ = some (.slice A1 l.length c1) := (H.blk 3 rfl).cell 6
      have acf6 : (wc).frozen? ⟨wa.heap.size, 6, none⟩ = false := (H.blk 3 rfl).frozen 6
      have aclt : wa.heap.size < (wc).heap.size := H.lt 3 rfl
      have te0 : (wc).cell? ⟨wb.heap.size, 0, none⟩ = some (.slice At tl.length ct) := (H.blk 5 rfl).cell 0
      have tef0 : (wc).frozen? ⟨wb.heap.size, 0, none⟩ = false := (H.blk 5 rfl).frozen 0
      have te1 : (wc).cell? ⟨wb.heap.size, 1, none⟩ = some (.int .i64 (fx : Int)) := (H.blk 5 rfl).cell 1
      have tef1 : (wc).frozen? ⟨wb.heap.size, 1, none⟩ = false := (H.blk 5 rfl).frozen 1
      have te2 : (wc).cell? ⟨wb.heap.size, 2, none⟩ = some (.int .i64 (fb : Int)) := (H.blk 5 rfl).cell 2
      have tef2 : (wc).frozen? ⟨wb.heap.size, 2, none⟩ = false := (H.blk 5 rfl).frozen 2
      have te3 : (wc).cell? ⟨wb.heap.size, 3, none⟩ = some (.int .i64 (db : Int)) := (H.blk 5 rfl).cell 3
      have tef3 : (wc).frozen? ⟨wb.heap.size, 3, none⟩ = false := (H.blk 5 rfl).frozen 3
      have te4 : (wc).cell? ⟨wb.heap.size, 4, none⟩ = some (.int .i64 (al : Int)) := (H.blk 5 rfl).cell 4
      have tef4 : (wc).frozen? ⟨wb.heap.size, 4, none⟩ = false := (H.blk 5 rfl).frozen 4
      have telt : wb.heap.size < (wc).heap.size := H.lt 5 rfl
      have xa0 : (wc).cell? ⟨g1, 0, none⟩ = some (.int .i64 (me : Int)) := (H.blk 6 rfl).cell 0
      have xaf0 : (wc).frozen? ⟨g1, 0, none⟩ = false := (H.blk 6 rfl).frozen 0
      have xa1 : (wc).cell? ⟨g1, 1, none⟩ = some (.int .i64 (rev : Int)) := (H.blk 6 rfl).cell 1
      have xaf1 : (wc).frozen? ⟨g1, 1, none⟩ = false := (H.blk 6 rfl).frozen 1
      have xa2 : (wc).cell? ⟨g1, 2, none⟩ = some (.int .i64 (next1 : Int)) := (H.blk 6 rfl).cell 2
      have xaf2 : (wc).frozen? ⟨g1, 2, none⟩ = false := (H.blk 6 rfl).frozen 2
      have xa3 : (wc).cell? ⟨g1, 3, none⟩ = some (.int .i64 (m2 : Int)) := (H.blk 6 rfl).cell 3
      have xaf3 : (wc).frozen? ⟨g1, 3, none⟩ = false := (H.blk 6 rfl).frozen 3
      have xa4 : (wc).cell? ⟨g1, 4, none⟩ = some (.int .i64 (bought2 : Int)) := (H.blk 6 rfl).cell 4
      have xaf4 : (wc).frozen? ⟨g1, 4, none⟩ = false := (H.blk 6 rfl).frozen 4
      have xa5 : (wc).cell? ⟨g1, 5, none⟩ = some (.int .i64 v5') := (H.blk 6 rfl).cell 5
      have xaf5 : (wc).frozen? ⟨g1, 5, none⟩ = false := (H.blk 6 rfl).frozen 5
      have xa6 : (wc).cell? ⟨g1, 6, none⟩ = some (.slice A2 out9.length c2) := (H.blk 6 rfl).cell 6
      have xaf6 : (wc).frozen? ⟨g1, 6, none⟩ = false := (H.blk 6 rfl).frozen 6
      have xalt : g1 < (wc).heap.size := H.lt 6 rfl
      have xb0 : (wc).cell? ⟨g2, 0, none⟩ = some (.int .i64 (next : Int)) := (H.blk 7 rfl).cell 0
      have xbf0 : (wc).frozen? ⟨g2, 0, none⟩ = false := (H.blk 7 rfl).frozen 0
      have xb1 : (wc).cell? ⟨g2, 1, none⟩ = some (.int .i64 (t : Int)) := (H.blk 7 rfl).cell 1
      have xbf1 : (wc).frozen? ⟨g2, 1, none⟩ = false := (H.blk 7 rfl).frozen 1
      have xb2 : (wc).cell? ⟨g2, 2, none⟩ = some (.int .i64 (paid : Int)) := (H.blk 7 rfl).cell 2
      have xbf2 : (wc).frozen? ⟨g2, 2, none⟩ = false := (H.blk 7 rfl).frozen 2
      have xb3 : (wc).cell? ⟨g2, 3, none⟩ = some (.int .i64 (F : Int)) := (H.blk 7 rfl).cell 3
      have xbf3 : (wc).frozen? ⟨g2, 3, none⟩ = false := (H.blk 7 rfl).frozen 3
      have xb4 : (wc).cell? ⟨g2, 4, none⟩ = some (.int .i64 (P : Int)) := (H.blk 7 rfl).cell 4
      have xbf4 : (wc).frozen? ⟨g2, 4, none⟩ = false := (H.blk 7 rfl).frozen 4
      have xb5 : (wc).cell? ⟨g2, 5, none⟩ = some (.int .i64 (ch : Int)) := (H.blk 7 rfl).cell 5
      have xbf5 : (wc).frozen? ⟨g2, 5, none⟩ = false := (H.blk 7 rfl).frozen 5
      have xb6 : (wc).cell? ⟨g2, 6, none⟩ = some (.int .i64 (U : Int)) := (H.blk 7 rfl).cell 6
      have xbf6 : (wc).frozen? ⟨g2, 6, none⟩ = false := (H.blk 7 rfl).frozen 6
      have xblt : g2 < (wc).heap.size := H.lt 7 rfl
      have ne_ac_te : wa.heap.size ≠ wb.heap.size := H.ne 3 5 rfl rfl (by decide)
      have ne_ac_xa : wa.heap.size ≠ g1 := H.ne 3 6 rfl rfl (by decide)
      have ne_ac_xb : wa.heap.size ≠ g2 := H.ne 3 7 rfl rfl (by decide)
      have ne_te_ac : wb.heap.size ≠ wa.heap.size := H.ne 5 3 rfl rfl (by decide)
      have ne_te_xa : wb.heap.size ≠ g1 := H.ne 5 6 rfl rfl (by decide)
      have ne_te_xb : wb.heap.size ≠ g2 := H.ne 5 7 rfl rfl (by decide)
      have ne_xa_ac : g1 ≠ wa.heap.size := H.ne 6 3 rfl rfl (by decide)
      have ne_xa_te : g1 ≠ wb.heap.size := H.ne 6 5 rfl rfl (by decide)
      have ne_xa_xb : g1 ≠ g2 := H.ne 6 7 rfl rfl (by decide)
      have ne_xb_ac : g2 ≠ wa.heap.size := H.ne 7 3 rfl rfl (by decide)
      have ne_xb_te : g2 ≠ wb.heap.size := H.ne 7 5 rfl rfl (by decide)
      have ne_xb_xa : g2 ≠ g1 := H.ne 7 6 rfl rfl (by decide)
      obtain ⟨Q1, hQ1⟩ : ∃ Q1, cost (pcs tl b2) (U + 1) = Q1 := ⟨_, rfl⟩
      have hdt' := isds_own (l := tl) rfl (H.own_ 4 rfl)
      have hP1 := fun W h => price_is (.slice At tl.length ct) tl (b2 : Int) (U : Int) b2 U P W h ⟨hT, by omega, by omega⟩ (Lib.hid rfl) (Lib.hid rfl) (Lib.hid m1)
      have f1 : IntKind.i64.wrap ((bought2 : Int) - (U : Int)) = (b2 : Int) := by rw [show (bought2 : Int) - (U : Int) = (b2 : Int) by omega]; exact IntWalk.i64_in _ (by omega)
      obtain ⟨U1, hU1⟩ : ∃ U1, U + 1 = U1 := ⟨_, rfl⟩
      have f2 : IntKind.i64.wrap ((U : Int) + 1) = (U1 : Int) := by rw [show (U : Int) + 1 = (U1 : Int) by omega]; exact IntWalk.i64_in _ (by omega)
      have f3 : IntKind.i64.wrap ((P : Int) + (ch : Int)) = (left : Int) := by rw [show (P : Int) + (ch : Int) = (left : Int) by omega]; exact IntWalk.i64_in _ (by have := hS.h7; have := hS.h2; omega)
      have f4 : U = 2097151 ∨ (((U : Int) == 2097151) = false ∧ bought2 = 10000000) ∨ (((U : Int) == 2097151) = false ∧ ((bought2 : Int) == 10000000) = false ∧ (left : Int) < (Q1 : Int) ∧ b2 + U1 ≤ 10000000 ∧ U1 ≤ 2097151) := by
        rcases m5 with h | h | h
        · exact .inl h
        · by_cases h2 : U = 2097151
          · exact .inl h2
          · exact .inr (.inl ⟨by simp; omega, by omega⟩)
        · by_cases h2 : U = 2097151
          · exact .inl h2
          · by_cases h3 : bought2 = 10000000
            · exact .inr (.inl ⟨by simp; omega, h3⟩)
            · rw [hQ1] at h
              exact .inr (.inr ⟨by simp; omega, by simp; omega, by omega, by omega, by omega⟩)
      have f5 : (1 : Int) ≤ (U : Int) := by omega
      rw [hU1] at hQ1
      have hbz : (month = m2 ∧ bought = b2) ∨ (((m2 : Int) == (month : Int)) = false ∧ ((month : Int) == (m2 : Int)) = false ∧ b2 = 0) := by
        rcases R1 with ⟨h, h2, _⟩ | ⟨h, h2, _⟩
        · exact .inl ⟨h.symm, h2.symm⟩
        · exact .inr ⟨by simp; omega, by simp; omega, h2⟩
      have hP2 : U1 ≤ 2097151 → b2 + U1 ≤ 10000000 → ∀ W, IsDs W (.slice At tl.length ct) tl → _ := fun h1 h2 W h => price_is (.slice At tl.length ct) tl (b2 : Int) (U1 : Int) b2 U1 Q1 W h ⟨hT, h1, h2⟩ (Lib.hid rfl) (Lib.hid rfl) (Lib.hid hQ1)
      clear hS hb2 m1 mm2 m3 m4 m5 hch hn1 hok R1 hR1 hT hTm hU1 hQ1 hU L1 L2 L3 L4 HM2 b1' b2' a1' a2' a3' a4' a5' a6' a7' a8' hn hmo hd hdl hdt
      go_wp2_with fail
      refine (hP1 _ hdt').mono ?_
      rintro e wg ⟨rfl, hbg⟩
      replace H : Mem (w) [] (wg) [.blk (w.heap.size) 53 #[.int .i64 x0, .int .i64 x1, .int .i64 x2, .int .i64 x3, .int .i64 x4, .int .i64 x5, .slice A n m], .blk (w.heap.size + 1) 56 #[.slice D n' m', .int .i64 y1, .int .i64 y2, .int .i64 y3, .int .i64 y4], .row (W0.heap.size) (25) (2) (.slice A1 l.length c1) (l.length) (drs l), .blk (wa.heap.size) 59 #[.int .i64 (me : Int), .int .i64 (rev : Int), .int .i64 (next : Int), .int .i64 (month : Int), .int .i64 (bought : Int), .int .i64 v5', .slice A1 l.length c1], .row (Wb.heap.size) (122) (2) (.slice At tl.length ct) (tl.length) (drs tl), .blk (wb.heap.size) 63 #[.slice At tl.length ct, .int .i64 (fx : Int), .int .i64 (fb : Int), .int .i64 (db : Int), .int .i64 (al : Int)], .blk (g1) 59 #[.int .i64 (me : Int), .int .i64 (rev : Int), .int .i64 (next1 : Int), .int .i64 (m2 : Int), .int .i64 (bought2 : Int), .int .i64 v5', .slice A2 out9.length c2], .blk (g2) 23 #[.int .i64 (next : Int), .int .i64 (t : Int), .int .i64 (paid : Int), .int .i64 (F : Int), .int .i64 (P : Int), .int .i64 (ch : Int), .int .i64 (U : Int)], .row (base) (25) (2) (.slice A2 out9.length c2) (out9.length) (drs out9)] := Mem.call H hbg
      clear ac0 acf0 ac1 acf1 ac2 acf2 ac3 acf3 ac4 acf4 ac5 acf5 ac6 acf6 aclt te0 tef0 te1 tef1 te2 tef2 te3 tef3 te4 tef4 telt xa0 xaf0 xa1 xaf1 xa2 xaf2 xa3 xaf3 xa4 xaf4 xa5 xaf5 xa6 xaf6 xalt xb0 xbf0 xb1 xbf1 xb2 xbf2 xb3 xbf3 xb4 xbf4 xb5 xbf5 xb6 xbf6 xblt ne_ac_te ne_ac_xa ne_ac_xb ne_te_ac ne_te_xa ne_te_xb ne_xa_ac ne_xa_te ne_xa_xb ne_xb_ac ne_xb_te ne_xb_xa
      have ac0 : (wg).cell? ⟨wa.heap.size, 0, none⟩ = some (.int .i64 (me : Int)) := (H.blk 3 rfl).cell 0
      have acf0 : (wg).frozen? ⟨wa.heap.size, 0, none⟩ = false := (H.blk 3 rfl).frozen 0
      have ac1 : (wg).cell? ⟨wa.heap.size, 1, none⟩ = some (.int .i64 (rev : Int)) := (H.blk 3 rfl).cell 1
      have acf1 : (wg).frozen? ⟨wa.heap.size, 1, none⟩ = false := (H.blk 3 rfl).frozen 1
      have ac2 : (wg).cell? ⟨wa.heap.size, 2, none⟩ = some (.int .i64 (next : Int)) := (H.blk 3 rfl).cell 2
      have acf2 : (wg).frozen? ⟨wa.heap.size, 2, none⟩ = false := (H.blk 3 rfl).frozen 2
      have ac3 : (wg).cell? ⟨wa.heap.size, 3, none⟩ = some (.int .i64 (month : Int)) := (H.blk 3 rfl).cell 3
      have acf3 : (wg).frozen? ⟨wa.heap.size, 3, none⟩ = false := (H.blk 3 rfl).frozen 3
      have ac4 : (wg).cell? ⟨wa.heap.size, 4, none⟩ = some (.int .i64 (bought : Int)) := (H.blk 3 rfl).cell 4
      have acf4 : (wg).frozen? ⟨wa.heap.size, 4, none⟩ = false := (H.blk 3 rfl).frozen 4
      have ac5 : (wg).cell? ⟨wa.heap.size, 5, none⟩ = some (.int .i64 v5') := (H.blk 3 rfl).cell 5
      have acf5 : (wg).frozen? ⟨wa.heap.size, 5, none⟩ = false := (H.blk 3 rfl).frozen 5
      have ac6 : (wg).cell? ⟨wa.heap.size, 6, none⟩ = some (.slice A1 l.length c1) := (H.blk 3 rfl).cell 6
      have acf6 : (wg).frozen? ⟨wa.heap.size, 6, none⟩ = false := (H.blk 3 rfl).frozen 6
      have aclt : wa.heap.size < (wg).heap.size := H.lt 3 rfl
      have te0 : (wg).cell? ⟨wb.heap.size, 0, none⟩ = some (.slice At tl.length ct) := (H.blk 5 rfl).cell 0
      have tef0 : (wg).frozen? ⟨wb.heap.size, 0, none⟩ = false := (H.blk 5 rfl).frozen 0
      have te1 : (wg).cell? ⟨wb.heap.size, 1, none⟩ = some (.int .i64 (fx : Int)) := (H.blk 5 rfl).cell 1
      have tef1 : (wg).frozen? ⟨wb.heap.size, 1, none⟩ = false := (H.blk 5 rfl).frozen 1
      have te2 : (wg).cell? ⟨wb.heap.size, 2, none⟩ = some (.int .i64 (fb : Int)) := (H.blk 5 rfl).cell 2
      have tef2 : (wg).frozen? ⟨wb.heap.size, 2, none⟩ = false := (H.blk 5 rfl).frozen 2
      have te3 : (wg).cell? ⟨wb.heap.size, 3, none⟩ = some (.int .i64 (db : Int)) := (H.blk 5 rfl).cell 3
      have tef3 : (wg).frozen? ⟨wb.heap.size, 3, none⟩ = false := (H.blk 5 rfl).frozen 3
      have te4 : (wg).cell? ⟨wb.heap.size, 4, none⟩ = some (.int .i64 (al : Int)) := (H.blk 5 rfl).cell 4
      have tef4 : (wg).frozen? ⟨wb.heap.size, 4, none⟩ = false := (H.blk 5 rfl).frozen 4
      have telt : wb.heap.size < (wg).heap.size := H.lt 5 rfl
      have xa0 : (wg).cell? ⟨g1, 0, none⟩ = some (.int .i64 (me : Int)) := (H.blk 6 rfl).cell 0
      have xaf0 : (wg).frozen? ⟨g1, 0, none⟩ = false := (H.blk 6 rfl).frozen 0
      have xa1 : (wg).cell? ⟨g1, 1, none⟩ = some (.int .i64 (rev : Int)) := (H.blk 6 rfl).cell 1
      have xaf1 : (wg).frozen? ⟨g1, 1, none⟩ = false := (H.blk 6 rfl).frozen 1
      have xa2 : (wg).cell? ⟨g1, 2, none⟩ = some (.int .i64 (next1 : Int)) := (H.blk 6 rfl).cell 2
      have xaf2 : (wg).frozen? ⟨g1, 2, none⟩ = false := (H.blk 6 rfl).frozen 2
      have xa3 : (wg).cell? ⟨g1, 3, none⟩ = some (.int .i64 (m2 : Int)) := (H.blk 6 rfl).cell 3
      have xaf3 : (wg).frozen? ⟨g1, 3, none⟩ = false := (H.blk 6 rfl).frozen 3
      have xa4 : (wg).cell? ⟨g1, 4, none⟩ = some (.int .i64 (bought2 : Int)) := (H.blk 6 rfl).cell 4
      have xaf4 : (wg).frozen? ⟨g1, 4, none⟩ = false := (H.blk 6 rfl).frozen 4
      have xa5 : (wg).cell? ⟨g1, 5, none⟩ = some (.int .i64 v5') := (H.blk 6 rfl).cell 5
      have xaf5 : (wg).frozen? ⟨g1, 5, none⟩ = false := (H.blk 6 rfl).frozen 5
      have xa6 : (wg).cell? ⟨g1, 6, none⟩ = some (.slice A2 out9.length c2) := (H.blk 6 rfl).cell 6
      have xaf6 : (wg).frozen? ⟨g1, 6, none⟩ = false := (H.blk 6 rfl).frozen 6
      have xalt : g1 < (wg).heap.size := H.lt 6 rfl
      have xb0 : (wg).cell? ⟨g2, 0, none⟩ = some (.int .i64 (next : Int)) := (H.blk 7 rfl).cell 0
      have xbf0 : (wg).frozen? ⟨g2, 0, none⟩ = false := (H.blk 7 rfl).frozen 0
      have xb1 : (wg).cell? ⟨g2, 1, none⟩ = some (.int .i64 (t : Int)) := (H.blk 7 rfl).cell 1
      have xbf1 : (wg).frozen? ⟨g2, 1, none⟩ = false := (H.blk 7 rfl).frozen 1
      have xb2 : (wg).cell? ⟨g2, 2, none⟩ = some (.int .i64 (paid : Int)) := (H.blk 7 rfl).cell 2
      have xbf2 : (wg).frozen? ⟨g2, 2, none⟩ = false := (H.blk 7 rfl).frozen 2
      have xb3 : (wg).cell? ⟨g2, 3, none⟩ = some (.int .i64 (F : Int)) := (H.blk 7 rfl).cell 3
      have xbf3 : (wg).frozen? ⟨g2, 3, none⟩ = false := (H.blk 7 rfl).frozen 3
      have xb4 : (wg).cell? ⟨g2, 4, none⟩ = some (.int .i64 (P : Int)) := (H.blk 7 rfl).cell 4
      have xbf4 : (wg).frozen? ⟨g2, 4, none⟩ = false := (H.blk 7 rfl).frozen 4
      have xb5 : (wg).cell? ⟨g2, 5, none⟩ = some (.int .i64 (ch : Int)) := (H.blk 7 rfl).cell 5
      have xbf5 : (wg).frozen? ⟨g2, 5, none⟩ = false := (H.blk 7 rfl).frozen 5
      have xb6 : (wg).cell? ⟨g2, 6, none⟩ = some (.int .i64 (U : Int)) := (H.blk 7 rfl).cell 6
      have xbf6 : (wg).frozen? ⟨g2, 6, none⟩ = false := (H.blk 7 rfl).frozen 6
      have xblt : g2 < (wg).heap.size := H.lt 7 rfl
      have ne_ac_te : wa.heap.size ≠ wb.heap.size := H.ne 3 5 rfl rfl (by decide)
      have ne_ac_xa : wa.heap.size ≠ g1 := H.ne 3 6 rfl rfl (by decide)
      have ne_ac_xb : wa.heap.size ≠ g2 := H.ne 3 7 rfl rfl (by decide)
      have ne_te_ac : wb.heap.size ≠ wa.heap.size := H.ne 5 3 rfl rfl (by decide)
      have ne_te_xa : wb.heap.size ≠ g1 := H.ne 5 6 rfl rfl (by decide)
      have ne_te_xb : wb.heap.size ≠ g2 := H.ne 5 7 rfl rfl (by decide)
      have ne_xa_ac : g1 ≠ wa.heap.size := H.ne 6 3 rfl rfl (by decide)
      have ne_xa_te : g1 ≠ wb.heap.size := H.ne 6 5 rfl rfl (by decide)
      have ne_xa_xb : g1 ≠ g2 := H.ne 6 7 rfl rfl (by decide)
      have ne_xb_ac : g2 ≠ wa.heap.size := H.ne 7 3 rfl rfl (by decide)
      have ne_xb_te : g2 ≠ wb.heap.size := H.ne 7 5 rfl rfl (by decide)
      have ne_xb_xa : g2 ≠ g1 := H.ne 7 6 rfl rfl (by decide)
      have hdt' := isds_own (l := tl) rfl (H.own_ 4 rfl)
      clear hbg hP1 f1
      rcases hbz with ⟨rfl, rfl⟩ | ⟨z1, z2, rfl⟩
      · skip
        rcases f4 with rfl | ⟨f4, rfl⟩ | ⟨f4, f6, f7, f8, f9⟩
        · clear hP2
          go_wp2
          all_goals
            go_ret
            exact ⟨rfl, H.below⟩
        · clear hP2
          go_wp2
          all_goals
            go_ret
            exact ⟨rfl, H.below⟩
        · have hP3 := hP2 f9 f8
          clear hP2 f9 f8
          go_wp2_with fail
          refine (hP3 _ hdt').mono ?_
          rintro e wh ⟨rfl, hbh⟩
          replace H := H.call hbh
          have xb4 : wh.cell? ⟨g2, 4, none⟩ = some (.int .i64 (P : Int)) := (H.blk 7 rfl).cell 4
          have xb5 : wh.cell? ⟨g2, 5, none⟩ = some (.int .i64 (ch : Int)) := (H.blk 7 rfl).cell 5
          clear hbh hP3
          go_wp2
          all_goals
            go_ret
            exact ⟨rfl, H.below⟩
      · skip
        rcases f4 with rfl | ⟨f4, rfl⟩ | ⟨f4, f6, f7, f8, f9⟩
        · clear hP2
          go_wp2
          all_goals
            go_ret
            exact ⟨rfl, H.below⟩
        · clear hP2
          go_wp2
          all_goals
            go_ret
            exact ⟨rfl, H.below⟩
        · have hP3 := hP2 f9 f8
          clear hP2 f9 f8
          have z3 : ¬ ((m2 : Int) = (month : Int)) := by simpa using z1
          have z4 : ¬ ((month : Int) = (m2 : Int)) := by simpa using z2
          have z5 : decide ((m2 : Int) = (month : Int)) = false := by simpa using z1
          go_wp2_with fail
          refine (hP3 _ hdt').mono ?_
          rintro e wh ⟨rfl, hbh⟩
          replace H := H.call hbh
          have xb4 : wh.cell? ⟨g2, 4, none⟩ = some (.int .i64 (P : Int)) := (H.blk 7 rfl).cell 4
          have xb5 : wh.cell? ⟨g2, 5, none⟩ = some (.int .i64 (ch : Int)) := (H.blk 7 rfl).cell 5
          clear hbh hP3
          go_wp2
          all_goals
            go_ret
            exact ⟨rfl, H.below⟩
  · skip
    obtain ⟨Q, hQ⟩ : ∃ Q : List Int → Option Addr → Nat → List (Nat × Nat) → List Int → Int → Prop, Q = fun vs A' c o bs er => vs = [0, 0, 0, 0, 0, 0] ∧ A' = none ∧ c = 0 ∧ o = [] ∧ bs = [0, 0, 0, 0, 0, 0, 0] ∧ er = 19 := ⟨_, rfl⟩
    have hXg : ∀ W, IsDs W (.slice A1 l.length c1) l → IsDs W (.slice At tl.length ct) tl → Calls Try.prog 23 #[.agg #[.int .i64 (me : Int), .int .i64 (rev : Int), .int .i64 (next : Int), .int .i64 (month : Int), .int .i64 (bought : Int), .int .i64 free, .slice A1 l.length c1], .agg #[.slice At tl.length ct, .int .i64 (fx : Int), .int .i64 (fb : Int), .int .i64 (db : Int), .int .i64 (al : Int)], .int .i64 (t : Int), .int .i64 (m2 : Int)] W (RetSG Q W) := fun W h1 h2 => (sellX_no me rev next month bought free A1 l.length c1 l At tl.length ct fx fb db al tl m2 b2 l2 t S paid f0 F li out W h1 hd hok h2 hT hTm R1 (by omega) hS).mono fun _ _ ⟨e, hb⟩ => ⟨0, 0, 0, 0, 0, 0, none, 0, [], 0, 0, 0, 0, 0, 0, 0, 19, e, by rw [hQ]; exact ⟨rfl, rfl, rfl, rfl, rfl, rfl⟩, World.ownsRow_nil _ _ _ _, hb⟩
    go_wp2_with fail
    go_cut [12, 13, 14] (fun p q r wx => SellOut w [.blk (w.heap.size) 53 #[.int .i64 x0, .int .i64 x1, .int .i64 x2, .int .i64 x3, .int .i64 x4, .int .i64 x5, .slice A n m], .blk (w.heap.size + 1) 56 #[.slice D n' m', .int .i64 y1, .int .i64 y2, .int .i64 y3, .int .i64 y4], .row (W0.heap.size) (25) (2) (.slice A1 l.length c1) (l.length) (drs l), .blk (wa.heap.size) 59 #[.int .i64 (me : Int), .int .i64 (rev : Int), .int .i64 (next : Int), .int .i64 (month : Int), .int .i64 (bought : Int), .int .i64 free, .slice A1 l.length c1], .row (Wb.heap.size) (122) (2) (.slice At tl.length ct) (tl.length) (drs tl), .blk (wb.heap.size) 63 #[.slice At tl.length ct, .int .i64 (fx : Int), .int .i64 (fb : Int), .int .i64 (db : Int), .int .i64 (al : Int)]] Q p q r wx)
    case first =>
      clear v0 v1 v2 v3 v4 v5 u1 u2 u3 u4 hok hn hmo hd hT hTm b1' b2' a1' a2' a3' a4' a5' a6' a7' a8' w3 hf L1 L2 R1 L3 L4 HM2 hR1 hn1 hQ hS
      have nz0 : Wd.heap.size ≠ wa.heap.size := by omega
      have nz1 : Wd.heap.size ≠ wb.heap.size := by omega
      have nz2 : Wd.heap.size + 1 ≠ wa.heap.size := by omega
      have nz3 : Wd.heap.size + 1 ≠ wb.heap.size := by omega
      have V0b : Below Wd.heap.size Wd (Wd).drew := below_draws (Below.refl _ _) 1
      have V1b : Below Wd.heap.size Wd (Wd.alloc (.cells #[.int .i64 0, .int .i64 0, .int .i64 0, .int .i64 0, .int .i64 0, .int .i64 0, .slice none 0 0] 59)).drew := below_draws (below_a1 _ _) 1
      have V1s : Wd.heap.size + 1 ≤ ((Wd.alloc (.cells #[.int .i64 0, .int .i64 0, .int .i64 0, .int .i64 0, .int .i64 0, .int .i64 0, .slice none 0 0] 59)).drew).heap.size := by simp
      have V1z : Blk (Wd.alloc (.cells #[.int .i64 0, .int .i64 0, .int .i64 0, .int .i64 0, .int .i64 0, .int .i64 0, .slice none 0 0] 59)).drew (Wd.heap.size) 59 #[.int .i64 0, .int .i64 0, .int .i64 0, .int .i64 0, .int .i64 0, .int .i64 0, .slice none 0 0] := (show Blk (Wd.alloc (.cells #[.int .i64 0, .int .i64 0, .int .i64 0, .int .i64 0, .int .i64 0, .int .i64 0, .slice none 0 0] 59)) (Wd.heap.size) 59 #[.int .i64 0, .int .i64 0, .int .i64 0, .int .i64 0, .int .i64 0, .int .i64 0, .slice none 0 0] from Blk.new _ _ _)
      have V2b : Below Wd.heap.size Wd (Wd.alloc (.cells #[.int .i64 0, .int .i64 0, .int .i64 0, .int .i64 0, .int .i64 0, .int .i64 0, .int .i64 0] 23)).drew := below_draws (below_a1 _ _) 1
      have V2s : Wd.heap.size + 1 ≤ ((Wd.alloc (.cells #[.int .i64 0, .int .i64 0, .int .i64 0, .int .i64 0, .int .i64 0, .int .i64 0, .int .i64 0] 23)).drew).heap.size := by simp
      have V2y : Blk (Wd.alloc (.cells #[.int .i64 0, .int .i64 0, .int .i64 0, .int .i64 0, .int .i64 0, .int .i64 0, .int .i64 0] 23)).drew (Wd.heap.size) 23 #[.int .i64 0, .int .i64 0, .int .i64 0, .int .i64 0, .int .i64 0, .int .i64 0, .int .i64 0] := (show Blk (Wd.alloc (.cells #[.int .i64 0, .int .i64 0, .int .i64 0, .int .i64 0, .int .i64 0, .int .i64 0, .int .i64 0] 23)) (Wd.heap.size) 23 #[.int .i64 0, .int .i64 0, .int .i64 0, .int .i64 0, .int .i64 0, .int .i64 0, .int .i64 0] from Blk.new _ _ _)
      have V3b : Below Wd.heap.size Wd ((Wd.alloc (.cells #[.int .i64 0, .int .i64 0, .int .i64 0, .int .i64 0, .int .i64 0, .int .i64 0, .slice none 0 0] 59)).alloc (.cells #[.int .i64 0, .int .i64 0, .int .i64 0, .int .i64 0, .int .i64 0, .int .i64 0, .int .i64 0] 23)).drew := below_draws (below_a2 _ _ _) 1
      have V3s : Wd.heap.size + 2 ≤ (((Wd.alloc (.cells #[.int .i64 0, .int .i64 0, .int .i64 0, .int .i64 0, .int .i64 0, .int .i64 0, .slice none 0 0] 59)).alloc (.cells #[.int .i64 0, .int .i64 0, .int .i64 0, .int .i64 0, .int .i64 0, .int .i64 0, .int .i64 0] 23)).drew).heap.size := by simp
      have V3z : Blk ((Wd.alloc (.cells #[.int .i64 0, .int .i64 0, .int .i64 0, .int .i64 0, .int .i64 0, .int .i64 0, .slice none 0 0] 59)).alloc (.cells #[.int .i64 0, .int .i64 0, .int .i64 0, .int .i64 0, .int .i64 0, .int .i64 0, .int .i64 0] 23)).drew (Wd.heap.size) 59 #[.int .i64 0, .int .i64 0, .int .i64 0, .int .i64 0, .int .i64 0, .int .i64 0, .slice none 0 0] := (show Blk ((Wd.alloc (.cells #[.int .i64 0, .int .i64 0, .int .i64 0, .int .i64 0, .int .i64 0, .int .i64 0, .slice none 0 0] 59)).alloc (.cells #[.int .i64 0, .int .i64 0, .int .i64 0, .int .i64 0, .int .i64 0, .int .i64 0, .int .i64 0] 23)) (Wd.heap.size) 59 #[.int .i64 0, .int .i64 0, .int .i64 0, .int .i64 0, .int .i64 0, .int .i64 0, .slice none 0 0] from (Blk.new _ _ _).alloc _)
      have V3y : Blk ((Wd.alloc (.cells #[.int .i64 0, .int .i64 0, .int .i64 0, .int .i64 0, .int .i64 0, .int .i64 0, .slice none 0 0] 59)).alloc (.cells #[.int .i64 0, .int .i64 0, .int .i64 0, .int .i64 0, .int .i64 0, .int .i64 0, .int .i64 0] 23)).drew (Wd.heap.size + 1) 23 #[.int .i64 0, .int .i64 0, .int .i64 0, .int .i64 0, .int .i64 0, .int .i64 0, .int .i64 0] := (show Blk ((Wd.alloc (.cells #[.int .i64 0, .int .i64 0, .int .i64 0, .int .i64 0, .int .i64 0, .int .i64 0, .slice none 0 0] 59)).alloc (.cells #[.int .i64 0, .int .i64 0, .int .i64 0, .int .i64 0, .int .i64 0, .int .i64 0, .int .i64 0] 23)) (Wd.heap.size + 1) 23 #[.int .i64 0, .int .i64 0, .int .i64 0, .int .i64 0, .int .i64 0, .int .i64 0, .int .i64 0] from by have := Blk.new (Wd.alloc (.cells #[.int .i64 0, .int .i64 0, .int .i64 0, .int .i64 0, .int .i64 0, .int .i64 0, .slice none 0 0] 59)) 23 #[.int .i64 0, .int .i64 0, .int .i64 0, .int .i64 0, .int .i64 0, .int .i64 0, .int .i64 0]; simpa using this)
      have V4b : Below Wd.heap.size Wd ((Wd.alloc (.cells #[.int .i64 0, .int .i64 0, .int .i64 0, .int .i64 0, .int .i64 0, .int .i64 0, .int .i64 0] 23)).alloc (.cells #[.int .i64 0, .int .i64 0, .int .i64 0, .int .i64 0, .int .i64 0, .int .i64 0, .slice none 0 0] 59)).drew := below_draws (below_a2 _ _ _) 1
      have V4s : Wd.heap.size + 2 ≤ (((Wd.alloc (.cells #[.int .i64 0, .int .i64 0, .int .i64 0, .int .i64 0, .int .i64 0, .int .i64 0, .int .i64 0] 23)).alloc (.cells #[.int .i64 0, .int .i64 0, .int .i64 0, .int .i64 0, .int .i64 0, .int .i64 0, .slice none 0 0] 59)).drew).heap.size := by simp
      have V4y : Blk ((Wd.alloc (.cells #[.int .i64 0, .int .i64 0, .int .i64 0, .int .i64 0, .int .i64 0, .int .i64 0, .int .i64 0] 23)).alloc (.cells #[.int .i64 0, .int .i64 0, .int .i64 0, .int .i64 0, .int .i64 0, .int .i64 0, .slice none 0 0] 59)).drew (Wd.heap.size) 23 #[.int .i64 0, .int .i64 0, .int .i64 0, .int .i64 0, .int .i64 0, .int .i64 0, .int .i64 0] := (show Blk ((Wd.alloc (.cells #[.int .i64 0, .int .i64 0, .int .i64 0, .int .i64 0, .int .i64 0, .int .i64 0, .int .i64 0] 23)).alloc (.cells #[.int .i64 0, .int .i64 0, .int .i64 0, .int .i64 0, .int .i64 0, .int .i64 0, .slice none 0 0] 59)) (Wd.heap.size) 23 #[.int .i64 0, .int .i64 0, .int .i64 0, .int .i64 0, .int .i64 0, .int .i64 0, .int .i64 0] from (Blk.new _ _ _).alloc _)
      have V4z : Blk ((Wd.alloc (.cells #[.int .i64 0, .int .i64 0, .int .i64 0, .int .i64 0, .int .i64 0, .int .i64 0, .int .i64 0] 23)).alloc (.cells #[.int .i64 0, .int .i64 0, .int .i64 0, .int .i64 0, .int .i64 0, .int .i64 0, .slice none 0 0] 59)).drew (Wd.heap.size + 1) 59 #[.int .i64 0, .int .i64 0, .int .i64 0, .int .i64 0, .int .i64 0, .int .i64 0, .slice none 0 0] := (show Blk ((Wd.alloc (.cells #[.int .i64 0, .int .i64 0, .int .i64 0, .int .i64 0, .int .i64 0, .int .i64 0, .int .i64 0] 23)).alloc (.cells #[.int .i64 0, .int .i64 0, .int .i64 0, .int .i64 0, .int .i64 0, .int .i64 0, .slice none 0 0] 59)) (Wd.heap.size + 1) 59 #[.int .i64 0, .int .i64 0, .int .i64 0, .int .i64 0, .int .i64 0, .int .i64 0, .slice none 0 0] from by have := Blk.new (Wd.alloc (.cells #[.int .i64 0, .int .i64 0, .int .i64 0, .int .i64 0, .int .i64 0, .int .i64 0, .int .i64 0] 23)) 59 #[.int .i64 0, .int .i64 0, .int .i64 0, .int .i64 0, .int .i64 0, .int .i64 0, .slice none 0 0]; simpa using this)
      go_region_held3 (fun w' => w'.cell? ⟨wa.heap.size, 0, none⟩ = some (.int .i64 (me : Int)) ∧ w'.cell? ⟨wa.heap.size, 1, none⟩ = some (.int .i64 (rev : Int)) ∧ w'.cell? ⟨wa.heap.size, 2, none⟩ = some (.int .i64 (next : Int)) ∧ w'.cell? ⟨wa.heap.size, 3, none⟩ = some (.int .i64 (month : Int)) ∧ w'.cell? ⟨wa.heap.size, 4, none⟩ = some (.int .i64 (bought : Int)) ∧ w'.cell? ⟨wa.heap.size, 5, none⟩ = some (.int .i64 free) ∧ w'.cell? ⟨wa.heap.size, 6, none⟩ = some (.slice A1 l.length c1) ∧ w'.cell? ⟨wb.heap.size, 0, none⟩ = some (.slice At tl.length ct) ∧ w'.cell? ⟨wb.heap.size, 1, none⟩ = some (.int .i64 (fx : Int)) ∧ w'.cell? ⟨wb.heap.size, 2, none⟩ = some (.int .i64 (fb : Int)) ∧ w'.cell? ⟨wb.heap.size, 3, none⟩ = some (.int .i64 (db : Int)) ∧ w'.cell? ⟨wb.heap.size, 4, none⟩ = some (.int .i64 (al : Int))) (first | with_reducible exact ⟨s0, s1, s2, s3, s4, s5, s6, s7, s8, s9, s10, s11⟩ | go_keep | fail) (first | (go_at_call 18; with_reducible refine (picked_is _ hp w2 (by omega) (by omega)).mono ?_; rintro e w' ⟨rfl, rfl⟩) | (go_at_call 23; (with_reducible refine (hXg (Wd).drew (hdl.below V0b) (hdt.below V0b)).mono ?_); rintro e we ⟨v0, v1, v2, v3, v4, v5, A2, c2, out, b0, b1, b2, b3, b4, b5, b6, er, rfl, hq, hown2, hbe⟩; have hK0 := V0b; have hWe : Below Wd.heap.size Wd we := V0b.trans (hbe.mono V0b.size); have s0 := (hWe.cell (p := ⟨wa.heap.size, 0, none⟩) aclt).trans ac0; have s1 := (hWe.cell (p := ⟨wa.heap.size, 1, none⟩) aclt).trans ac1; have s2 := (hWe.cell (p := ⟨wa.heap.size, 2, none⟩) aclt).trans ac2; have s3 := (hWe.cell (p := ⟨wa.heap.size, 3, none⟩) aclt).trans ac3; have s4 := (hWe.cell (p := ⟨wa.heap.size, 4, none⟩) aclt).trans ac4; have s5 := (hWe.cell (p := ⟨wa.heap.size, 5, none⟩) aclt).trans ac5; have s6 := (hWe.cell (p := ⟨wa.heap.size, 6, none⟩) aclt).trans ac6; have s7 := (hWe.cell (p := ⟨wb.heap.size, 0, none⟩) telt).trans te0; have s8 := (hWe.cell (p := ⟨wb.heap.size, 1, none⟩) telt).trans te1; have s9 := (hWe.cell (p := ⟨wb.heap.size, 2, none⟩) telt).trans te2; have s10 := (hWe.cell (p := ⟨wb.heap.size, 3, none⟩) telt).trans te3; have s11 := (hWe.cell (p := ⟨wb.heap.size, 4, none⟩) telt).trans te4; have sz := hWe.size; have ez1 : we.heap.size ≠ wa.heap.size := (by omega); have ez2 : we.heap.size ≠ wb.heap.size := (by omega); have ez3 : we.heap.size + 1 ≠ wa.heap.size := (by omega); have ez4 : we.heap.size + 1 ≠ wb.heap.size := (by omega)) | (go_at_call 23; (with_reducible refine (hXg (Wd.alloc (.cells #[.int .i64 0, .int .i64 0, .int .i64 0, .int .i64 0, .int .i64 0, .int .i64 0, .slice none 0 0] 59)).drew (hdl.below V1b) (hdt.below V1b)).mono ?_); rintro e we ⟨v0, v1, v2, v3, v4, v5, A2, c2, out, b0, b1, b2, b3, b4, b5, b6, er, rfl, hq, hown2, hbe⟩; have hK0 := V1b; have hWe : Below Wd.heap.size Wd we := V1b.trans (hbe.mono V1b.size); have s0 := (hWe.cell (p := ⟨wa.heap.size, 0, none⟩) aclt).trans ac0; have s1 := (hWe.cell (p := ⟨wa.heap.size, 1, none⟩) aclt).trans ac1; have s2 := (hWe.cell (p := ⟨wa.heap.size, 2, none⟩) aclt).trans ac2; have s3 := (hWe.cell (p := ⟨wa.heap.size, 3, none⟩) aclt).trans ac3; have s4 := (hWe.cell (p := ⟨wa.heap.size, 4, none⟩) aclt).trans ac4; have s5 := (hWe.cell (p := ⟨wa.heap.size, 5, none⟩) aclt).trans ac5; have s6 := (hWe.cell (p := ⟨wa.heap.size, 6, none⟩) aclt).trans ac6; have s7 := (hWe.cell (p := ⟨wb.heap.size, 0, none⟩) telt).trans te0; have s8 := (hWe.cell (p := ⟨wb.heap.size, 1, none⟩) telt).trans te1; have s9 := (hWe.cell (p := ⟨wb.heap.size, 2, none⟩) telt).trans te2; have s10 := (hWe.cell (p := ⟨wb.heap.size, 3, none⟩) telt).trans te3; have s11 := (hWe.cell (p := ⟨wb.heap.size, 4, none⟩) telt).trans te4; have sz := hWe.size; have ez1 : we.heap.size ≠ wa.heap.size := (by omega); have ez2 : we.heap.size ≠ wb.heap.size := (by omega); have ez3 : we.heap.size + 1 ≠ wa.heap.size := (by omega); have ez4 : we.heap.size + 1 ≠ wb.heap.size := (by omega); have hsz := V1s; have hwe := Nat.le_trans V1s hbe.size; have z := Blk.below V1z hbe V1z.lt; have z0 := z.cell 0; have zf0 := z.frozen 0; have z1 := z.cell 1; have zf1 := z.frozen 1; have z2 := z.cell 2; have zf2 := z.frozen 2; have z3 := z.cell 3; have zf3 := z.frozen 3; have z4 := z.cell 4; have zf4 := z.frozen 4; have z5 := z.cell 5; have zf5 := z.frozen 5; have z6 := z.cell 6; have zf6 := z.frozen 6; have zlt : Wd.heap.size < we.heap.size := (by omega)) | (go_at_call 23; (with_reducible refine (hXg (Wd.alloc (.cells #[.int .i64 0, .int .i64 0, .int .i64 0, .int .i64 0, .int .i64 0, .int .i64 0, .int .i64 0] 23)).drew (hdl.below V2b) (hdt.below V2b)).mono ?_); rintro e we ⟨v0, v1, v2, v3, v4, v5, A2, c2, out, b0, b1, b2, b3, b4, b5, b6, er, rfl, hq, hown2, hbe⟩; have hK0 := V2b; have hWe : Below Wd.heap.size Wd we := V2b.trans (hbe.mono V2b.size); have s0 := (hWe.cell (p := ⟨wa.heap.size, 0, none⟩) aclt).trans ac0; have s1 := (hWe.cell (p := ⟨wa.heap.size, 1, none⟩) aclt).trans ac1; have s2 := (hWe.cell (p := ⟨wa.heap.size, 2, none⟩) aclt).trans ac2; have s3 := (hWe.cell (p := ⟨wa.heap.size, 3, none⟩) aclt).trans ac3; have s4 := (hWe.cell (p := ⟨wa.heap.size, 4, none⟩) aclt).trans ac4; have s5 := (hWe.cell (p := ⟨wa.heap.size, 5, none⟩) aclt).trans ac5; have s6 := (hWe.cell (p := ⟨wa.heap.size, 6, none⟩) aclt).trans ac6; have s7 := (hWe.cell (p := ⟨wb.heap.size, 0, none⟩) telt).trans te0; have s8 := (hWe.cell (p := ⟨wb.heap.size, 1, none⟩) telt).trans te1; have s9 := (hWe.cell (p := ⟨wb.heap.size, 2, none⟩) telt).trans te2; have s10 := (hWe.cell (p := ⟨wb.heap.size, 3, none⟩) telt).trans te3; have s11 := (hWe.cell (p := ⟨wb.heap.size, 4, none⟩) telt).trans te4; have sz := hWe.size; have ez1 : we.heap.size ≠ wa.heap.size := (by omega); have ez2 : we.heap.size ≠ wb.heap.size := (by omega); have ez3 : we.heap.size + 1 ≠ wa.heap.size := (by omega); have ez4 : we.heap.size + 1 ≠ wb.heap.size := (by omega); have hsz := V2s; have hwe := Nat.le_trans V2s hbe.size; have y := Blk.below V2y hbe V2y.lt; have y0 := y.cell 0; have yf0 := y.frozen 0; have y1 := y.cell 1; have yf1 := y.frozen 1; have y2 := y.cell 2; have yf2 := y.frozen 2; have y3 := y.cell 3; have yf3 := y.frozen 3; have y4 := y.cell 4; have yf4 := y.frozen 4; have y5 := y.cell 5; have yf5 := y.frozen 5; have y6 := y.cell 6; have yf6 := y.frozen 6; have ylt : Wd.heap.size < we.heap.size := (by omega)) | (go_at_call 23; (with_reducible refine (hXg ((Wd.alloc (.cells #[.int .i64 0, .int .i64 0, .int .i64 0, .int .i64 0, .int .i64 0, .int .i64 0, .slice none 0 0] 59)).alloc (.cells #[.int .i64 0, .int .i64 0, .int .i64 0, .int .i64 0, .int .i64 0, .int .i64 0, .int .i64 0] 23)).drew (hdl.below V3b) (hdt.below V3b)).mono ?_); rintro e we ⟨v0, v1, v2, v3, v4, v5, A2, c2, out, b0, b1, b2, b3, b4, b5, b6, er, rfl, hq, hown2, hbe⟩; have hK0 := V3b; have hWe : Below Wd.heap.size Wd we := V3b.trans (hbe.mono V3b.size); have s0 := (hWe.cell (p := ⟨wa.heap.size, 0, none⟩) aclt).trans ac0; have s1 := (hWe.cell (p := ⟨wa.heap.size, 1, none⟩) aclt).trans ac1; have s2 := (hWe.cell (p := ⟨wa.heap.size, 2, none⟩) aclt).trans ac2; have s3 := (hWe.cell (p := ⟨wa.heap.size, 3, none⟩) aclt).trans ac3; have s4 := (hWe.cell (p := ⟨wa.heap.size, 4, none⟩) aclt).trans ac4; have s5 := (hWe.cell (p := ⟨wa.heap.size, 5, none⟩) aclt).trans ac5; have s6 := (hWe.cell (p := ⟨wa.heap.size, 6, none⟩) aclt).trans ac6; have s7 := (hWe.cell (p := ⟨wb.heap.size, 0, none⟩) telt).trans te0; have s8 := (hWe.cell (p := ⟨wb.heap.size, 1, none⟩) telt).trans te1; have s9 := (hWe.cell (p := ⟨wb.heap.size, 2, none⟩) telt).trans te2; have s10 := (hWe.cell (p := ⟨wb.heap.size, 3, none⟩) telt).trans te3; have s11 := (hWe.cell (p := ⟨wb.heap.size, 4, none⟩) telt).trans te4; have sz := hWe.size; have ez1 : we.heap.size ≠ wa.heap.size := (by omega); have ez2 : we.heap.size ≠ wb.heap.size := (by omega); have ez3 : we.heap.size + 1 ≠ wa.heap.size := (by omega); have ez4 : we.heap.size + 1 ≠ wb.heap.size := (by omega); have hsz := V3s; have hwe := Nat.le_trans V3s hbe.size; have z := Blk.below V3z hbe V3z.lt; have z0 := z.cell 0; have zf0 := z.frozen 0; have z1 := z.cell 1; have zf1 := z.frozen 1; have z2 := z.cell 2; have zf2 := z.frozen 2; have z3 := z.cell 3; have zf3 := z.frozen 3; have z4 := z.cell 4; have zf4 := z.frozen 4; have z5 := z.cell 5; have zf5 := z.frozen 5; have z6 := z.cell 6; have zf6 := z.frozen 6; have zlt : Wd.heap.size < we.heap.size := (by omega); have y := Blk.below V3y hbe V3y.lt; have y0 := y.cell 0; have yf0 := y.frozen 0; have y1 := y.cell 1; have yf1 := y.frozen 1; have y2 := y.cell 2; have yf2 := y.frozen 2; have y3 := y.cell 3; have yf3 := y.frozen 3; have y4 := y.cell 4; have yf4 := y.frozen 4; have y5 := y.cell 5; have yf5 := y.frozen 5; have y6 := y.cell 6; have yf6 := y.frozen 6; have ylt : Wd.heap.size + 1 < we.heap.size := (by omega); have zn1 : Wd.heap.size ≠ Wd.heap.size + 1 := (by omega); have zn2 : Wd.heap.size + 1 ≠ Wd.heap.size := (by omega)) | (go_at_call 23; (with_reducible refine (hXg ((Wd.alloc (.cells #[.int .i64 0, .int .i64 0, .int .i64 0, .int .i64 0, .int .i64 0, .int .i64 0, .int .i64 0] 23)).alloc (.cells #[.int .i64 0, .int .i64 0, .int .i64 0, .int .i64 0, .int .i64 0, .int .i64 0, .slice none 0 0] 59)).drew (hdl.below V4b) (hdt.below V4b)).mono ?_); rintro e we ⟨v0, v1, v2, v3, v4, v5, A2, c2, out, b0, b1, b2, b3, b4, b5, b6, er, rfl, hq, hown2, hbe⟩; have hK0 := V4b; have hWe : Below Wd.heap.size Wd we := V4b.trans (hbe.mono V4b.size); have s0 := (hWe.cell (p := ⟨wa.heap.size, 0, none⟩) aclt).trans ac0; have s1 := (hWe.cell (p := ⟨wa.heap.size, 1, none⟩) aclt).trans ac1; have s2 := (hWe.cell (p := ⟨wa.heap.size, 2, none⟩) aclt).trans ac2; have s3 := (hWe.cell (p := ⟨wa.heap.size, 3, none⟩) aclt).trans ac3; have s4 := (hWe.cell (p := ⟨wa.heap.size, 4, none⟩) aclt).trans ac4; have s5 := (hWe.cell (p := ⟨wa.heap.size, 5, none⟩) aclt).trans ac5; have s6 := (hWe.cell (p := ⟨wa.heap.size, 6, none⟩) aclt).trans ac6; have s7 := (hWe.cell (p := ⟨wb.heap.size, 0, none⟩) telt).trans te0; have s8 := (hWe.cell (p := ⟨wb.heap.size, 1, none⟩) telt).trans te1; have s9 := (hWe.cell (p := ⟨wb.heap.size, 2, none⟩) telt).trans te2; have s10 := (hWe.cell (p := ⟨wb.heap.size, 3, none⟩) telt).trans te3; have s11 := (hWe.cell (p := ⟨wb.heap.size, 4, none⟩) telt).trans te4; have sz := hWe.size; have ez1 : we.heap.size ≠ wa.heap.size := (by omega); have ez2 : we.heap.size ≠ wb.heap.size := (by omega); have ez3 : we.heap.size + 1 ≠ wa.heap.size := (by omega); have ez4 : we.heap.size + 1 ≠ wb.heap.size := (by omega); have hsz := V4s; have hwe := Nat.le_trans V4s hbe.size; have y := Blk.below V4y hbe V4y.lt; have y0 := y.cell 0; have yf0 := y.frozen 0; have y1 := y.cell 1; have yf1 := y.frozen 1; have y2 := y.cell 2; have yf2 := y.frozen 2; have y3 := y.cell 3; have yf3 := y.frozen 3; have y4 := y.cell 4; have yf4 := y.frozen 4; have y5 := y.cell 5; have yf5 := y.frozen 5; have y6 := y.cell 6; have yf6 := y.frozen 6; have ylt : Wd.heap.size < we.heap.size := (by omega); have z := Blk.below V4z hbe V4z.lt; have z0 := z.cell 0; have zf0 := z.frozen 0; have z1 := z.cell 1; have zf1 := z.frozen 1; have z2 := z.cell 2; have zf2 := z.frozen 2; have z3 := z.cell 3; have zf3 := z.frozen 3; have z4 := z.cell 4; have zf4 := z.frozen 4; have z5 := z.cell 5; have zf5 := z.frozen 5; have z6 := z.cell 6; have zf6 := z.frozen 6; have zlt : Wd.heap.size + 1 < we.heap.size := (by omega); have zn1 : Wd.heap.size ≠ Wd.heap.size + 1 := (by omega); have zn2 : Wd.heap.size + 1 ≠ Wd.heap.size := (by omega)))
      all_goals
        go_wp2_with fail
        go_meet
        first
        | with_reducible exact out_a H hK0 hbe hq hown2
        | with_reducible exact out_b H hK0 hbe hq hown2
        | (have h := out_c [(0, .int .i64 v0), (1, .int .i64 v1), (2, .int .i64 v2), (3, .int .i64 v3), (4, .int .i64 v4), (5, .int .i64 v5), (6, .slice A2 out.length c2)] H hK0 hbe z (by omega) (by omega) rfl hq hown2
           simp only [sets, List.foldl_cons, List.foldl_nil] at h
           with_reducible exact h)
        | (have h := out_d [(0, .int .i64 b0), (1, .int .i64 b1), (2, .int .i64 b2), (3, .int .i64 b3), (4, .int .i64 b4), (5, .int .i64 b5), (6, .int .i64 b6)] H hK0 hbe y (by omega) (by omega) rfl hq hown2
           simp only [sets, List.foldl_cons, List.foldl_nil] at h
           with_reducible exact h)
        | (have h := out_e [(0, .int .i64 v0), (1, .int .i64 v1), (2, .int .i64 v2), (3, .int .i64 v3), (4, .int .i64 v4), (5, .int .i64 v5), (6, .slice A2 out.length c2)] [(0, .int .i64 b0), (1, .int .i64 b1), (2, .int .i64 b2), (3, .int .i64 b3), (4, .int .i64 b4), (5, .int .i64 b5), (6, .int .i64 b6)] H hK0 hbe z y (by omega) (by omega) (by omega) (by omega) (by omega) rfl rfl hq hown2
           simp only [sets, List.foldl_cons, List.foldl_nil] at h
           with_reducible exact h)
    case rest =>
      obtain ⟨g1, g2, base, v0', v1', v2', v3', v4', v5', A2, c2, out9, b0, b1, b2', b3, b4, b5, b6, er, rfl, rfl, rfl, hq, HM⟩ := hcut
      rw [hQ] at hq
      obtain ⟨hvs, rfl, rfl, rfl, hbs, rfl⟩ := hq
      simp only [List.cons.injEq, and_true] at hvs hbs
      obtain ⟨rfl, rfl, rfl, rfl, rfl, rfl⟩ := hvs
      obtain ⟨rfl, rfl, rfl, rfl, rfl, rfl, rfl⟩ := hbs
      clear hXg hQ
      replace HM := Mem.drop_ 8 HM
      have H : Mem (w) [] (wc) [.blk (w.heap.size) 53 #[.int .i64 x0, .int .i64 x1, .int .i64 x2, .int .i64 x3, .int .i64 x4, .int .i64 x5, .slice A n m], .blk (w.heap.size + 1) 56 #[.slice D n' m', .int .i64 y1, .int .i64 y2, .int .i64 y3, .int .i64 y4], .row (W0.heap.size) (25) (2) (.slice A1 l.length c1) (l.length) (drs l), .blk (wa.heap.size) 59 #[.int .i64 (me : Int), .int .i64 (rev : Int), .int .i64 (next : Int), .int .i64 (month : Int), .int .i64 (bought : Int), .int .i64 free, .slice A1 l.length c1], .row (Wb.heap.size) (122) (2) (.slice At tl.length ct) (tl.length) (drs tl), .blk (wb.heap.size) 63 #[.slice At tl.length ct, .int .i64 (fx : Int), .int .i64 (fb : Int), .int .i64 (db : Int), .int .i64 (al : Int)], .blk (g1) 59 #[.int .i64 0, .int .i64 0, .int .i64 0, .int .i64 0, .int .i64 0, .int .i64 0, .slice none 0 0], .blk (g2) 23 #[.int .i64 0, .int .i64 0, .int .i64 0, .int .i64 0, .int .i64 0, .int .i64 0, .int .i64 0]] := HM
      clear ac0 acf0 ac1 acf1 ac2 acf2 ac3 acf3 ac4 acf4 ac5 acf5 ac6 acf6 aclt te0 tef0 te1 tef1 te2 tef2 te3 tef3 te4 tef4 telt ne_ac_te ne_te_ac
      have xa0 : (wc).cell? ⟨g1, 0, none⟩ = some (.int .i64 0) := (H.blk 6 rfl).cell 0
      have xaf0 : (wc).frozen? ⟨g1, 0, none⟩ = false := (H.blk 6 rfl).frozen 0
      have xa1 : (wc).cell? ⟨g1, 1, none⟩ = some (.int .i64 0) := (H.blk 6 rfl).cell 1
      have xaf1 : (wc).frozen? ⟨g1, 1, none⟩ = false := (H.blk 6 rfl).frozen 1
      have xa2 : (wc).cell? ⟨g1, 2, none⟩ = some (.int .i64 0) := (H.blk 6 rfl).cell 2
      have xaf2 : (wc).frozen? ⟨g1, 2, none⟩ = false := (H.blk 6 rfl).frozen 2
      have xa3 : (wc).cell? ⟨g1, 3, none⟩ = some (.int .i64 0) := (H.blk 6 rfl).cell 3
      have xaf3 : (wc).frozen? ⟨g1, 3, none⟩ = false := (H.blk 6 rfl).frozen 3
      have xa4 : (wc).cell? ⟨g1, 4, none⟩ = some (.int .i64 0) := (H.blk 6 rfl).cell 4
      have xaf4 : (wc).frozen? ⟨g1, 4, none⟩ = false := (H.blk 6 rfl).frozen 4
      have xa5 : (wc).cell? ⟨g1, 5, none⟩ = some (.int .i64 0) := (H.blk 6 rfl).cell 5
      have xaf5 : (wc).frozen? ⟨g1, 5, none⟩ = false := (H.blk 6 rfl).frozen 5
      have xa6 : (wc).cell? ⟨g1, 6, none⟩ = some (.slice none 0 0) := (H.blk 6 rfl).cell 6
      have xaf6 : (wc).frozen? ⟨g1, 6, none⟩ = false := (H.blk 6 rfl).frozen 6
      have xalt : g1 < (wc).heap.size := H.lt 6 rfl
      have xb0 : (wc).cell? ⟨g2, 0, none⟩ = some (.int .i64 0) := (H.blk 7 rfl).cell 0
      have xbf0 : (wc).frozen? ⟨g2, 0, none⟩ = false := (H.blk 7 rfl).frozen 0
      have xb1 : (wc).cell? ⟨g2, 1, none⟩ = some (.int .i64 0) := (H.blk 7 rfl).cell 1
      have xbf1 : (wc).frozen? ⟨g2, 1, none⟩ = false := (H.blk 7 rfl).frozen 1
      have xb2 : (wc).cell? ⟨g2, 2, none⟩ = some (.int .i64 0) := (H.blk 7 rfl).cell 2
      have xbf2 : (wc).frozen? ⟨g2, 2, none⟩ = false := (H.blk 7 rfl).frozen 2
      have xb3 : (wc).cell? ⟨g2, 3, none⟩ = some (.int .i64 0) := (H.blk 7 rfl).cell 3
      have xbf3 : (wc).frozen? ⟨g2, 3, none⟩ = false := (H.blk 7 rfl).frozen 3
      have xb4 : (wc).cell? ⟨g2, 4, none⟩ = some (.int .i64 0) := (H.blk 7 rfl).cell 4
      have xbf4 : (wc).frozen? ⟨g2, 4, none⟩ = false := (H.blk 7 rfl).frozen 4
      have xb5 : (wc).cell? ⟨g2, 5, none⟩ = some (.int .i64 0) := (H.blk 7 rfl).cell 5
      have xbf5 : (wc).frozen? ⟨g2, 5, none⟩ = false := (H.blk 7 rfl).frozen 5
      have xb6 : (wc).cell? ⟨g2, 6, none⟩ = some (.int .i64 0) := (H.blk 7 rfl).cell 6
      have xbf6 : (wc).frozen? ⟨g2, 6, none⟩ = false := (H.blk 7 rfl).frozen 6
      have xblt : g2 < (wc).heap.size := H.lt 7 rfl
      have ne_xa_xb : g1 ≠ g2 := H.ne 6 7 rfl rfl (by decide)
      have ne_xb_xa : g2 ≠ g1 := H.ne 7 6 rfl rfl (by decide)
      have hEq : ∀ W : World, (Op.equalIn 10000 23 (.agg #[.int .i64 0, .int .i64 0, .int .i64 0, .int .i64 0, .int .i64 0, .int .i64 0, .int .i64 0]) (.agg #[.int .i64 0, .int .i64 0, .int .i64 0, .int .i64 0, .int .i64 0, .int .i64 0, .int .i64 0])).run Try.prog W = .ok true W := fun W => by
        have h := eq_is (P := Try.prog) (t := 23) [.int .i64 0, .int .i64 0, .int .i64 0, .int .i64 0, .int .i64 0, .int .i64 0, .int .i64 0] [.int .i64 0, .int .i64 0, .int .i64 0, .int .i64 0, .int .i64 0, .int .i64 0, .int .i64 0] W (by kernel_rfl) (mkv_struct Try.underlying23)
        simpa [cellsEq, leafEq] using h
      clear hS hn1 hok R1 hR1 hT hTm L1 L2 L3 L4 HM2 b1' b2' a1' a2' a3' a4' a5' a6' a7' a8' hn hmo hd hdl hdt
      go_wp2
      go_ret
      exact ⟨rfl, by first | exact H.below | exact (H.call (below_a1 _ _)).below⟩
end Go.Proofs.Ytnpkondgpmncnaa

/- The walk of the law SellShare. -/
import Derived.Test.YtjogdooajbhnoaaSaleX
namespace Go.Proofs.Ytjogdooajbhnoaa
open Go.RowKit
set_option linter.unusedVariables false
set_option maxRecDepth 100000 in
set_option maxHeartbeats 4000000 in
theorem walk_sellShare (w : World) (a0 : Value) (w0 : Fit Try.prog w 53 a0) (a1 : Value) (w1 : Fit Try.prog w 56 a1) (a2 : Int) (w2 : (Lit.int .i64 a2).wf = true) :
    Calls Try.prog 9 #[a0, a1, .int .i64 a2] w fun e w' => e = .returned (.bool true) ∧ Below w.heap.size w w' := by
  obtain ⟨x0, x1, x2, x3, x4, x5, A, n, m, g, rfl, v0, v1, v2, v3, v4, v5, hv⟩ := going_fit w0
  obtain ⟨D, n', m', g', y1, y2, y3, y4, rfl, u1, u2, u3, u4, hu⟩ := deal_fit w1
  clear w0 w1
  have H := Mem.init w
  obtain ⟨W0, hW0⟩ : ∃ W0, ((w).alloc (.cells #[.int .i64 x0, .int .i64 x1, .int .i64 x2, .int .i64 x3, .int .i64 x4, .int .i64 x5, .slice A n m] 53)).alloc (.cells #[.slice D n' m', .int .i64 y1, .int .i64 y2, .int .i64 y3, .int .i64 y4] 56) = W0 := ⟨_, rfl⟩
  replace H : Mem (w) [] _ [.blk (w.heap.size) 53 #[.int .i64 x0, .int .i64 x1, .int .i64 x2, .int .i64 x3, .int .i64 x4, .int .i64 x5, .slice A n m]] := Mem.alloc H (w.heap.size) (by first | (simp; done) | (simp; omega)) #[.int .i64 x0, .int .i64 x1, .int .i64 x2, .int .i64 x3, .int .i64 x4, .int .i64 x5, .slice A n m] 53
  replace H : Mem (w) [] _ [.blk (w.heap.size) 53 #[.int .i64 x0, .int .i64 x1, .int .i64 x2, .int .i64 x3, .int .i64 x4, .int .i64 x5, .slice A n m], .blk (w.heap.size + 1) 56 #[.slice D n' m', .int .i64 y1, .int .i64 y2, .int .i64 y3, .int .i64 y4]] := Mem.alloc H (w.heap.size + 1) (by first | (simp; done) | (simp; omega)) #[.slice D n' m', .int .i64 y1, .int .i64 y2, .int .i64 y3, .int .i64 y4] 56
  rw [hW0] at H
  have hG := gone_own x0 x1 x2 x3 x4 x5 A n m g W0 v0 v1 v2 v3 v4 v5 (hv.below H.below)
  have hAg := fun W h => agreed_own D n' m' g' y1 y2 y3 y4 W u1 u2 u3 u4 h
  clear hv
  have gi0 : (W0).cell? ⟨w.heap.size, 0, none⟩ = some (.int .i64 x0) := (H.blk 0 rfl).cell 0
  have gif0 : (W0).frozen? ⟨w.heap.size, 0, none⟩ = false := (H.blk 0 rfl).frozen 0
  have gi1 : (W0).cell? ⟨w.heap.size, 1, none⟩ = some (.int .i64 x1) := (H.blk 0 rfl).cell 1
  have gif1 : (W0).frozen? ⟨w.heap.size, 1, none⟩ = false := (H.blk 0 rfl).frozen 1
  have gi2 : (W0).cell? ⟨w.heap.size, 2, none⟩ = some (.int .i64 x2) := (H.blk 0 rfl).cell 2
  have gif2 : (W0).frozen? ⟨w.heap.size, 2, none⟩ = false := (H.blk 0 rfl).frozen 2
  have gi3 : (W0).cell? ⟨w.heap.size, 3, none⟩ = some (.int .i64 x3) := (H.blk 0 rfl).cell 3
  have gif3 : (W0).frozen? ⟨w.heap.size, 3, none⟩ = false := (H.blk 0 rfl).frozen 3
  have gi4 : (W0).cell? ⟨w.heap.size, 4, none⟩ = some (.int .i64 x4) := (H.blk 0 rfl).cell 4
  have gif4 : (W0).frozen? ⟨w.heap.size, 4, none⟩ = false := (H.blk 0 rfl).frozen 4
  have gi5 : (W0).cell? ⟨w.heap.size, 5, none⟩ = some (.int .i64 x5) := (H.blk 0 rfl).cell 5
  have gif5 : (W0).frozen? ⟨w.heap.size, 5, none⟩ = false := (H.blk 0 rfl).frozen 5
  have gi6 : (W0).cell? ⟨w.heap.size, 6, none⟩ = some (.slice A n m) := (H.blk 0 rfl).cell 6
  have gif6 : (W0).frozen? ⟨w.heap.size, 6, none⟩ = false := (H.blk 0 rfl).frozen 6
  have gilt : w.heap.size < (W0).heap.size := H.lt 0 rfl
  have dj0 : (W0).cell? ⟨w.heap.size + 1, 0, none⟩ = some (.slice D n' m') := (H.blk 1 rfl).cell 0
  have djf0 : (W0).frozen? ⟨w.heap.size + 1, 0, none⟩ = false := (H.blk 1 rfl).frozen 0
  have dj1 : (W0).cell? ⟨w.heap.size + 1, 1, none⟩ = some (.int .i64 y1) := (H.blk 1 rfl).cell 1
  have djf1 : (W0).frozen? ⟨w.heap.size + 1, 1, none⟩ = false := (H.blk 1 rfl).frozen 1
  have dj2 : (W0).cell? ⟨w.heap.size + 1, 2, none⟩ = some (.int .i64 y2) := (H.blk 1 rfl).cell 2
  have djf2 : (W0).frozen? ⟨w.heap.size + 1, 2, none⟩ = false := (H.blk 1 rfl).frozen 2
  have dj3 : (W0).cell? ⟨w.heap.size + 1, 3, none⟩ = some (.int .i64 y3) := (H.blk 1 rfl).cell 3
  have djf3 : (W0).frozen? ⟨w.heap.size + 1, 3, none⟩ = false := (H.blk 1 rfl).frozen 3
  have dj4 : (W0).cell? ⟨w.heap.size + 1, 4, none⟩ = some (.int .i64 y4) := (H.blk 1 rfl).cell 4
  have djf4 : (W0).frozen? ⟨w.heap.size + 1, 4, none⟩ = false := (H.blk 1 rfl).frozen 4
  have djlt : w.heap.size + 1 < (W0).heap.size := H.lt 1 rfl
  have ne_gi_dj : w.heap.size ≠ w.heap.size + 1 := H.ne 0 1 rfl rfl (by decide)
  have ne_dj_gi : w.heap.size + 1 ≠ w.heap.size := H.ne 1 0 rfl rfl (by decide)
  go_enter Try.func9, Try.ntmps9
  go_wp2_with fail
  refine hG.mono ?_
  rintro e wa ⟨me, rev, next, month, bought, free, l, A1, c1, rfl, hok, hn, hmo, hd, hds, hba⟩
  replace H : Mem (w) [] (wa) [.blk (w.heap.size) 53 #[.int .i64 x0, .int .i64 x1, .int .i64 x2, .int .i64 x3, .int .i64 x4, .int .i64 x5, .slice A n m], .blk (w.heap.size + 1) 56 #[.slice D n' m', .int .i64 y1, .int .i64 y2, .int .i64 y3, .int .i64 y4], .row (W0.heap.size) (25) (2) (.slice A1 l.length c1) (l.length) (drs l)] := Mem.row H hba hds (Nat.le_refl _)
  clear gi0 gif0 gi1 gif1 gi2 gif2 gi3 gif3 gi4 gif4 gi5 gif5 gi6 gif6 gilt dj0 djf0 dj1 djf1 dj2 djf2 dj3 djf3 dj4 djf4 djlt ne_gi_dj ne_dj_gi
  have gi0 : (wa).cell? ⟨w.heap.size, 0, none⟩ = some (.int .i64 x0) := (H.blk 0 rfl).cell 0
  have gif0 : (wa).frozen? ⟨w.heap.size, 0, none⟩ = false := (H.blk 0 rfl).frozen 0
  have gi1 : (wa).cell? ⟨w.heap.size, 1, none⟩ = some (.int .i64 x1) := (H.blk 0 rfl).cell 1
  have gif1 : (wa).frozen? ⟨w.heap.size, 1, none⟩ = false := (H.blk 0 rfl).frozen 1
  have gi2 : (wa).cell? ⟨w.heap.size, 2, none⟩ = some (.int .i64 x2) := (H.blk 0 rfl).cell 2
  have gif2 : (wa).frozen? ⟨w.heap.size, 2, none⟩ = false := (H.blk 0 rfl).frozen 2
  have gi3 : (wa).cell? ⟨w.heap.size, 3, none⟩ = some (.int .i64 x3) := (H.blk 0 rfl).cell 3
  have gif3 : (wa).frozen? ⟨w.heap.size, 3, none⟩ = false := (H.blk 0 rfl).frozen 3
  have gi4 : (wa).cell? ⟨w.heap.size, 4, none⟩ = some (.int .i64 x4) := (H.blk 0 rfl).cell 4
  have gif4 : (wa).frozen? ⟨w.heap.size, 4, none⟩ = false := (H.blk 0 rfl).frozen 4
  have gi5 : (wa).cell? ⟨w.heap.size, 5, none⟩ = some (.int .i64 x5) := (H.blk 0 rfl).cell 5
  have gif5 : (wa).frozen? ⟨w.heap.size, 5, none⟩ = false := (H.blk 0 rfl).frozen 5
  have gi6 : (wa).cell? ⟨w.heap.size, 6, none⟩ = some (.slice A n m) := (H.blk 0 rfl).cell 6
  have gif6 : (wa).frozen? ⟨w.heap.size, 6, none⟩ = false := (H.blk 0 rfl).frozen 6
  have gilt : w.heap.size < (wa).heap.size := H.lt 0 rfl
  have dj0 : (wa).cell? ⟨w.heap.size + 1, 0, none⟩ = some (.slice D n' m') := (H.blk 1 rfl).cell 0
  have djf0 : (wa).frozen? ⟨w.heap.size + 1, 0, none⟩ = false := (H.blk 1 rfl).frozen 0
  have dj1 : (wa).cell? ⟨w.heap.size + 1, 1, none⟩ = some (.int .i64 y1) := (H.blk 1 rfl).cell 1
  have djf1 : (wa).frozen? ⟨w.heap.size + 1, 1, none⟩ = false := (H.blk 1 rfl).frozen 1
  have dj2 : (wa).cell? ⟨w.heap.size + 1, 2, none⟩ = some (.int .i64 y2) := (H.blk 1 rfl).cell 2
  have djf2 : (wa).frozen? ⟨w.heap.size + 1, 2, none⟩ = false := (H.blk 1 rfl).frozen 2
  have dj3 : (wa).cell? ⟨w.heap.size + 1, 3, none⟩ = some (.int .i64 y3) := (H.blk 1 rfl).cell 3
  have djf3 : (wa).frozen? ⟨w.heap.size + 1, 3, none⟩ = false := (H.blk 1 rfl).frozen 3
  have dj4 : (wa).cell? ⟨w.heap.size + 1, 4, none⟩ = some (.int .i64 y4) := (H.blk 1 rfl).cell 4
  have djf4 : (wa).frozen? ⟨w.heap.size + 1, 4, none⟩ = false := (H.blk 1 rfl).frozen 4
  have djlt : w.heap.size + 1 < (wa).heap.size := H.lt 1 rfl
  have ne_gi_dj : w.heap.size ≠ w.heap.size + 1 := H.ne 0 1 rfl rfl (by decide)
  have ne_dj_gi : w.heap.size + 1 ≠ w.heap.size := H.ne 1 0 rfl rfl (by decide)
  clear hG hW0 hba hds
  have hu1 := hu.below H.below
  go_wp2_with fail
  obtain ⟨Wb, hWb⟩ : ∃ Wb, (wa).alloc (.cells #[.int .i64 (me : Int), .int .i64 (rev : Int), .int .i64 (next : Int), .int .i64 (month : Int), .int .i64 (bought : Int), .int .i64 free, .slice A1 l.length c1] 59) = Wb := ⟨_, rfl⟩
  replace H : Mem (w) [] _ [.blk (w.heap.size) 53 #[.int .i64 x0, .int .i64 x1, .int .i64 x2, .int .i64 x3, .int .i64 x4, .int .i64 x5, .slice A n m], .blk (w.heap.size + 1) 56 #[.slice D n' m', .int .i64 y1, .int .i64 y2, .int .i64 y3, .int .i64 y4], .row (W0.heap.size) (25) (2) (.slice A1 l.length c1) (l.length) (drs l), .blk (wa.heap.size) 59 #[.int .i64 (me : Int), .int .i64 (rev : Int), .int .i64 (next : Int), .int .i64 (month : Int), .int .i64 (bought : Int), .int .i64 free, .slice A1 l.length c1]] := Mem.alloc H (wa.heap.size) (by first | (simp; done) | (simp; omega)) #[.int .i64 (me : Int), .int .i64 (rev : Int), .int .i64 (next : Int), .int .i64 (month : Int), .int .i64 (bought : Int), .int .i64 free, .slice A1 l.length c1] 59
  rw [hWb] at H ⊢
  clear hWb
  refine (hAg _ (hu.below H.below)).mono ?_
  rintro e wb ⟨tl, At, ct, fx, fb, db, al, rfl, hT, hTm, hdt, hbb⟩
  replace H : Mem (w) [] (wb) [.blk (w.heap.size) 53 #[.int .i64 x0, .int .i64 x1, .int .i64 x2, .int .i64 x3, .int .i64 x4, .int .i64 x5, .slice A n m], .blk (w.heap.size + 1) 56 #[.slice D n' m', .int .i64 y1, .int .i64 y2, .int .i64 y3, .int .i64 y4], .row (W0.heap.size) (25) (2) (.slice A1 l.length c1) (l.length) (drs l), .blk (wa.heap.size) 59 #[.int .i64 (me : Int), .int .i64 (rev : Int), .int .i64 (next : Int), .int .i64 (month : Int), .int .i64 (bought : Int), .int .i64 free, .slice A1 l.length c1], .row (Wb.heap.size) (109) (2) (.slice At tl.length ct) (tl.length) (drs tl)] := Mem.row H hbb hdt (Nat.le_refl _)
  clear gi0 gif0 gi1 gif1 gi2 gif2 gi3 gif3 gi4 gif4 gi5 gif5 gi6 gif6 gilt dj0 djf0 dj1 djf1 dj2 djf2 dj3 djf3 dj4 djf4 djlt ne_gi_dj ne_dj_gi
  have gi0 : (wb).cell? ⟨w.heap.size, 0, none⟩ = some (.int .i64 x0) := (H.blk 0 rfl).cell 0
  have gif0 : (wb).frozen? ⟨w.heap.size, 0, none⟩ = false := (H.blk 0 rfl).frozen 0
  have gi1 : (wb).cell? ⟨w.heap.size, 1, none⟩ = some (.int .i64 x1) := (H.blk 0 rfl).cell 1
  have gif1 : (wb).frozen? ⟨w.heap.size, 1, none⟩ = false := (H.blk 0 rfl).frozen 1
  have gi2 : (wb).cell? ⟨w.heap.size, 2, none⟩ = some (.int .i64 x2) := (H.blk 0 rfl).cell 2
  have gif2 : (wb).frozen? ⟨w.heap.size, 2, none⟩ = false := (H.blk 0 rfl).frozen 2
  have gi3 : (wb).cell? ⟨w.heap.size, 3, none⟩ = some (.int .i64 x3) := (H.blk 0 rfl).cell 3
  have gif3 : (wb).frozen? ⟨w.heap.size, 3, none⟩ = false := (H.blk 0 rfl).frozen 3
  have gi4 : (wb).cell? ⟨w.heap.size, 4, none⟩ = some (.int .i64 x4) := (H.blk 0 rfl).cell 4
  have gif4 : (wb).frozen? ⟨w.heap.size, 4, none⟩ = false := (H.blk 0 rfl).frozen 4
  have gi5 : (wb).cell? ⟨w.heap.size, 5, none⟩ = some (.int .i64 x5) := (H.blk 0 rfl).cell 5
  have gif5 : (wb).frozen? ⟨w.heap.size, 5, none⟩ = false := (H.blk 0 rfl).frozen 5
  have gi6 : (wb).cell? ⟨w.heap.size, 6, none⟩ = some (.slice A n m) := (H.blk 0 rfl).cell 6
  have gif6 : (wb).frozen? ⟨w.heap.size, 6, none⟩ = false := (H.blk 0 rfl).frozen 6
  have gilt : w.heap.size < (wb).heap.size := H.lt 0 rfl
  have dj0 : (wb).cell? ⟨w.heap.size + 1, 0, none⟩ = some (.slice D n' m') := (H.blk 1 rfl).cell 0
  have djf0 : (wb).frozen? ⟨w.heap.size + 1, 0, none⟩ = false := (H.blk 1 rfl).frozen 0
  have dj1 : (wb).cell? ⟨w.heap.size + 1, 1, none⟩ = some (.int .i64 y1) := (H.blk 1 rfl).cell 1
  have djf1 : (wb).frozen? ⟨w.heap.size + 1, 1, none⟩ = false := (H.blk 1 rfl).frozen 1
  have dj2 : (wb).cell? ⟨w.heap.size + 1, 2, none⟩ = some (.int .i64 y2) := (H.blk 1 rfl).cell 2
  have djf2 : (wb).frozen? ⟨w.heap.size + 1, 2, none⟩ = false := (H.blk 1 rfl).frozen 2
  have dj3 : (wb).cell? ⟨w.heap.size + 1, 3, none⟩ = some (.int .i64 y3) := (H.blk 1 rfl).cell 3
  have djf3 : (wb).frozen? ⟨w.heap.size + 1, 3, none⟩ = false := (H.blk 1 rfl).frozen 3
  have dj4 : (wb).cell? ⟨w.heap.size + 1, 4, none⟩ = some (.int .i64 y4) := (H.blk 1 rfl).cell 4
  have djf4 : (wb).frozen? ⟨w.heap.size + 1, 4, none⟩ = false := (H.blk 1 rfl).frozen 4
  have djlt : w.heap.size + 1 < (wb).heap.size := H.lt 1 rfl
  have ac0 : (wb).cell? ⟨wa.heap.size, 0, none⟩ = some (.int .i64 (me : Int)) := (H.blk 3 rfl).cell 0
  have acf0 : (wb).frozen? ⟨wa.heap.size, 0, none⟩ = false := (H.blk 3 rfl).frozen 0
  have ac1 : (wb).cell? ⟨wa.heap.size, 1, none⟩ = some (.int .i64 (rev : Int)) := (H.blk 3 rfl).cell 1
  have acf1 : (wb).frozen? ⟨wa.heap.size, 1, none⟩ = false := (H.blk 3 rfl).frozen 1
  have ac2 : (wb).cell? ⟨wa.heap.size, 2, none⟩ = some (.int .i64 (next : Int)) := (H.blk 3 rfl).cell 2
  have acf2 : (wb).frozen? ⟨wa.heap.size, 2, none⟩ = false := (H.blk 3 rfl).frozen 2
  have ac3 : (wb).cell? ⟨wa.heap.size, 3, none⟩ = some (.int .i64 (month : Int)) := (H.blk 3 rfl).cell 3
  have acf3 : (wb).frozen? ⟨wa.heap.size, 3, none⟩ = false := (H.blk 3 rfl).frozen 3
  have ac4 : (wb).cell? ⟨wa.heap.size, 4, none⟩ = some (.int .i64 (bought : Int)) := (H.blk 3 rfl).cell 4
  have acf4 : (wb).frozen? ⟨wa.heap.size, 4, none⟩ = false := (H.blk 3 rfl).frozen 4
  have ac5 : (wb).cell? ⟨wa.heap.size, 5, none⟩ = some (.int .i64 free) := (H.blk 3 rfl).cell 5
  have acf5 : (wb).frozen? ⟨wa.heap.size, 5, none⟩ = false := (H.blk 3 rfl).frozen 5
  have ac6 : (wb).cell? ⟨wa.heap.size, 6, none⟩ = some (.slice A1 l.length c1) := (H.blk 3 rfl).cell 6
  have acf6 : (wb).frozen? ⟨wa.heap.size, 6, none⟩ = false := (H.blk 3 rfl).frozen 6
  have aclt : wa.heap.size < (wb).heap.size := H.lt 3 rfl
  have ne_gi_dj : w.heap.size ≠ w.heap.size + 1 := H.ne 0 1 rfl rfl (by decide)
  have ne_gi_ac : w.heap.size ≠ wa.heap.size := H.ne 0 3 rfl rfl (by decide)
  have ne_dj_gi : w.heap.size + 1 ≠ w.heap.size := H.ne 1 0 rfl rfl (by decide)
  have ne_dj_ac : w.heap.size + 1 ≠ wa.heap.size := H.ne 1 3 rfl rfl (by decide)
  have ne_ac_gi : wa.heap.size ≠ w.heap.size := H.ne 3 0 rfl rfl (by decide)
  have ne_ac_dj : wa.heap.size ≠ w.heap.size + 1 := H.ne 3 1 rfl rfl (by decide)
  clear hdt hbb hu hu1 hAg
  obtain ⟨p, hp, hp1⟩ := pk_lit a2 100000000 (by omega)
  obtain ⟨t, ht1⟩ : ∃ t : Nat, (1 : Int) + (p : Int) = (t : Int) := ⟨1 + p, by omega⟩
  have e3 : IntKind.i64.wrap (1 + (p : Int)) = (t : Int) := by rw [ht1]; exact IntWalk.i64_in _ (by omega)
  obtain ⟨b1', b2'⟩ : 1 ≤ t ∧ t ≤ 100000000 := by omega
  have hok' := hok
  obtain ⟨a1', a2', a3', a4', a5', a6', a7', a8'⟩ := hok'
  clear ht1 hp1
  go_wp2_with (go_at_call 19; with_reducible refine (picked_is _ hp w2 (by omega) (by omega)).mono ?_; rintro e w' ⟨rfl, rfl⟩)
  obtain ⟨Wc, hWc⟩ : ∃ Wc, (wb).alloc (.cells #[.slice At tl.length ct, .int .i64 (fx : Int), .int .i64 (fb : Int), .int .i64 (db : Int), .int .i64 (al : Int)] 63) = Wc := ⟨_, rfl⟩
  replace H : Mem (w) [] _ [.blk (w.heap.size) 53 #[.int .i64 x0, .int .i64 x1, .int .i64 x2, .int .i64 x3, .int .i64 x4, .int .i64 x5, .slice A n m], .blk (w.heap.size + 1) 56 #[.slice D n' m', .int .i64 y1, .int .i64 y2, .int .i64 y3, .int .i64 y4], .row (W0.heap.size) (25) (2) (.slice A1 l.length c1) (l.length) (drs l), .blk (wa.heap.size) 59 #[.int .i64 (me : Int), .int .i64 (rev : Int), .int .i64 (next : Int), .int .i64 (month : Int), .int .i64 (bought : Int), .int .i64 free, .slice A1 l.length c1], .row (Wb.heap.size) (109) (2) (.slice At tl.length ct) (tl.length) (drs tl), .blk (wb.heap.size) 63 #[.slice At tl.length ct, .int .i64 (fx : Int), .int .i64 (fb : Int), .int .i64 (db : Int), .int .i64 (al : Int)]] := Mem.alloc H (wb.heap.size) (by first | (simp; done) | (simp; omega)) #[.slice At tl.length ct, .int .i64 (fx : Int), .int .i64 (fb : Int), .int .i64 (db : Int), .int .i64 (al : Int)] 63
  rw [hWc] at H ⊢
  clear hWc
  clear e3
  have hdl := isds_own (l := l) rfl (H.own_ 2 rfl)
  have hdt := isds_own (l := tl) rfl (H.own_ 4 rfl)
  obtain ⟨S, paid, f0, F, out, hS⟩ := sale_ex (l := l) hT hTm a6' b1' b2'
  obtain ⟨next1, hn1⟩ : ∃ k, k = next + 1 := ⟨_, rfl⟩
  obtain ⟨ds, hds⟩ : ∃ d, dsum l = d := ⟨_, rfl⟩
  have hds9 := dsum_bd hd
  rw [hds] at hds9
  have hTo := fun W h => total_ok (.slice A1 l.length c1) l W h hd
  have hSu := fun W h => sumof_ok (.slice A1 l.length c1) l W h hd
  rw [hds] at hTo hSu
  have hR : Rolled month bought l month bought l := .inl ⟨rfl, rfl, rfl⟩
  clear gi0 gif0 gi1 gif1 gi2 gif2 gi3 gif3 gi4 gif4 gi5 gif5 gi6 gif6 gilt dj0 djf0 dj1 djf1 dj2 djf2 dj3 djf3 dj4 djf4 djlt ac0 acf0 ac1 acf1 ac2 acf2 ac3 acf3 ac4 acf4 ac5 acf5 ac6 acf6 aclt ne_gi_dj ne_gi_ac ne_dj_gi ne_dj_ac ne_ac_gi ne_ac_dj
  have ac0 : (Wc).cell? ⟨wa.heap.size, 0, none⟩ = some (.int .i64 (me : Int)) := (H.blk 3 rfl).cell 0
  have acf0 : (Wc).frozen? ⟨wa.heap.size, 0, none⟩ = false := (H.blk 3 rfl).frozen 0
  have ac1 : (Wc).cell? ⟨wa.heap.size, 1, none⟩ = some (.int .i64 (rev : Int)) := (H.blk 3 rfl).cell 1
  have acf1 : (Wc).frozen? ⟨wa.heap.size, 1, none⟩ = false := (H.blk 3 rfl).frozen 1
  have ac2 : (Wc).cell? ⟨wa.heap.size, 2, none⟩ = some (.int .i64 (next : Int)) := (H.blk 3 rfl).cell 2
  have acf2 : (Wc).frozen? ⟨wa.heap.size, 2, none⟩ = false := (H.blk 3 rfl).frozen 2
  have ac3 : (Wc).cell? ⟨wa.heap.size, 3, none⟩ = some (.int .i64 (month : Int)) := (H.blk 3 rfl).cell 3
  have acf3 : (Wc).frozen? ⟨wa.heap.size, 3, none⟩ = false := (H.blk 3 rfl).frozen 3
  have ac4 : (Wc).cell? ⟨wa.heap.size, 4, none⟩ = some (.int .i64 (bought : Int)) := (H.blk 3 rfl).cell 4
  have acf4 : (Wc).frozen? ⟨wa.heap.size, 4, none⟩ = false := (H.blk 3 rfl).frozen 4
  have ac5 : (Wc).cell? ⟨wa.heap.size, 5, none⟩ = some (.int .i64 free) := (H.blk 3 rfl).cell 5
  have acf5 : (Wc).frozen? ⟨wa.heap.size, 5, none⟩ = false := (H.blk 3 rfl).frozen 5
  have ac6 : (Wc).cell? ⟨wa.heap.size, 6, none⟩ = some (.slice A1 l.length c1) := (H.blk 3 rfl).cell 6
  have acf6 : (Wc).frozen? ⟨wa.heap.size, 6, none⟩ = false := (H.blk 3 rfl).frozen 6
  have aclt : wa.heap.size < (Wc).heap.size := H.lt 3 rfl
  have te0 : (Wc).cell? ⟨wb.heap.size, 0, none⟩ = some (.slice At tl.length ct) := (H.blk 5 rfl).cell 0
  have tef0 : (Wc).frozen? ⟨wb.heap.size, 0, none⟩ = false := (H.blk 5 rfl).frozen 0
  have te1 : (Wc).cell? ⟨wb.heap.size, 1, none⟩ = some (.int .i64 (fx : Int)) := (H.blk 5 rfl).cell 1
  have tef1 : (Wc).frozen? ⟨wb.heap.size, 1, none⟩ = false := (H.blk 5 rfl).frozen 1
  have te2 : (Wc).cell? ⟨wb.heap.size, 2, none⟩ = some (.int .i64 (fb : Int)) := (H.blk 5 rfl).cell 2
  have tef2 : (Wc).frozen? ⟨wb.heap.size, 2, none⟩ = false := (H.blk 5 rfl).frozen 2
  have te3 : (Wc).cell? ⟨wb.heap.size, 3, none⟩ = some (.int .i64 (db : Int)) := (H.blk 5 rfl).cell 3
  have tef3 : (Wc).frozen? ⟨wb.heap.size, 3, none⟩ = false := (H.blk 5 rfl).frozen 3
  have te4 : (Wc).cell? ⟨wb.heap.size, 4, none⟩ = some (.int .i64 (al : Int)) := (H.blk 5 rfl).cell 4
  have tef4 : (Wc).frozen? ⟨wb.heap.size, 4, none⟩ = false := (H.blk 5 rfl).frozen 4
  have telt : wb.heap.size < (Wc).heap.size := H.lt 5 rfl
  have ne_ac_te : wa.heap.size ≠ wb.heap.size := H.ne 3 5 rfl rfl (by decide)
  have ne_te_ac : wb.heap.size ≠ wa.heap.size := H.ne 5 3 rfl rfl (by decide)

  rcases hS with ⟨left, U, P, hS, hU⟩ | ⟨li, hS⟩
  · obtain ⟨bought2, hb2⟩ : ∃ k, k = bought + U := ⟨_, rfl⟩
    obtain ⟨m1, mm2, m3, m4, m5⟩ := most_law hT a6' hS.h8
    obtain ⟨ch, hch⟩ : ∃ k, P + k = left := ⟨left - P, by omega⟩
    have hpd := recov_fst hS.h4
    rw [hds] at hpd
    obtain ⟨q1, q2⟩ := part_bd hS.h3
    obtain ⟨q3, q4⟩ := prod_bd b2' hTm.h3
    obtain ⟨X, hX⟩ : ∃ X, (t : Int) * (db : Int) = X := ⟨_, rfl⟩
    have e4 : IntKind.i64.wrap ((t : Int) * (db : Int)) = X := by rw [hX]; exact IntWalk.i64_in _ (by omega)
    rw [hX] at q1 q2 q3 q4
    have k1 : (paid : Int) * 10000 ≤ X := by omega
    have k2 : (paid : Int) ≤ (ds : Int) := by omega
    have k3 : paid = ds ∨ (((paid : Int) == (ds : Int)) = false ∧ X < ((paid : Int) + 1) * 10000) := by
      rcases Nat.lt_or_ge paid ds with h | h
      · exact .inr ⟨by simp; omega, by omega⟩
      · exact .inl (by omega)
    have k4 : (paid : Int) ≤ 100000000 := by omega
    refine (sellX_yes me rev next month bought free A1 l.length c1 l At tl.length ct fx fb db al tl month bought l t S paid f0 F left U P out next1 bought2 ch _ hdl hd hok hdt hT hTm hR (by omega) hS hU (by omega) (Lib.hid hn1) (Lib.hid hb2) (Lib.hid hch)).mono ?_
    rintro e wd ⟨A2, c2, rfl, _, hbd⟩
    replace H : Mem (w) [] (wd) [.blk (w.heap.size) 53 #[.int .i64 x0, .int .i64 x1, .int .i64 x2, .int .i64 x3, .int .i64 x4, .int .i64 x5, .slice A n m], .blk (w.heap.size + 1) 56 #[.slice D n' m', .int .i64 y1, .int .i64 y2, .int .i64 y3, .int .i64 y4], .row (W0.heap.size) (25) (2) (.slice A1 l.length c1) (l.length) (drs l), .blk (wa.heap.size) 59 #[.int .i64 (me : Int), .int .i64 (rev : Int), .int .i64 (next : Int), .int .i64 (month : Int), .int .i64 (bought : Int), .int .i64 free, .slice A1 l.length c1], .row (Wb.heap.size) (109) (2) (.slice At tl.length ct) (tl.length) (drs tl), .blk (wb.heap.size) 63 #[.slice At tl.length ct, .int .i64 (fx : Int), .int .i64 (fb : Int), .int .i64 (db : Int), .int .i64 (al : Int)]] := Mem.call H hbd
    clear ac0 acf0 ac1 acf1 ac2 acf2 ac3 acf3 ac4 acf4 ac5 acf5 ac6 acf6 aclt te0 tef0 te1 tef1 te2 tef2 te3 tef3 te4 tef4 telt ne_ac_te ne_te_ac
    have ac0 : (wd).cell? ⟨wa.heap.size, 0, none⟩ = some (.int .i64 (me : Int)) := (H.blk 3 rfl).cell 0
    have acf0 : (wd).frozen? ⟨wa.heap.size, 0, none⟩ = false := (H.blk 3 rfl).frozen 0
    have ac1 : (wd).cell? ⟨wa.heap.size, 1, none⟩ = some (.int .i64 (rev : Int)) := (H.blk 3 rfl).cell 1
    have acf1 : (wd).frozen? ⟨wa.heap.size, 1, none⟩ = false := (H.blk 3 rfl).frozen 1
    have ac2 : (wd).cell? ⟨wa.heap.size, 2, none⟩ = some (.int .i64 (next : Int)) := (H.blk 3 rfl).cell 2
    have acf2 : (wd).frozen? ⟨wa.heap.size, 2, none⟩ = false := (H.blk 3 rfl).frozen 2
    have ac3 : (wd).cell? ⟨wa.heap.size, 3, none⟩ = some (.int .i64 (month : Int)) := (H.blk 3 rfl).cell 3
    have acf3 : (wd).frozen? ⟨wa.heap.size, 3, none⟩ = false := (H.blk 3 rfl).frozen 3
    have ac4 : (wd).cell? ⟨wa.heap.size, 4, none⟩ = some (.int .i64 (bought : Int)) := (H.blk 3 rfl).cell 4
    have acf4 : (wd).frozen? ⟨wa.heap.size, 4, none⟩ = false := (H.blk 3 rfl).frozen 4
    have ac5 : (wd).cell? ⟨wa.heap.size, 5, none⟩ = some (.int .i64 free) := (H.blk 3 rfl).cell 5
    have acf5 : (wd).frozen? ⟨wa.heap.size, 5, none⟩ = false := (H.blk 3 rfl).frozen 5
    have ac6 : (wd).cell? ⟨wa.heap.size, 6, none⟩ = some (.slice A1 l.length c1) := (H.blk 3 rfl).cell 6
    have acf6 : (wd).frozen? ⟨wa.heap.size, 6, none⟩ = false := (H.blk 3 rfl).frozen 6
    have aclt : wa.heap.size < (wd).heap.size := H.lt 3 rfl
    have te0 : (wd).cell? ⟨wb.heap.size, 0, none⟩ = some (.slice At tl.length ct) := (H.blk 5 rfl).cell 0
    have tef0 : (wd).frozen? ⟨wb.heap.size, 0, none⟩ = false := (H.blk 5 rfl).frozen 0
    have te1 : (wd).cell? ⟨wb.heap.size, 1, none⟩ = some (.int .i64 (fx : Int)) := (H.blk 5 rfl).cell 1
    have tef1 : (wd).frozen? ⟨wb.heap.size, 1, none⟩ = false := (H.blk 5 rfl).frozen 1
    have te2 : (wd).cell? ⟨wb.heap.size, 2, none⟩ = some (.int .i64 (fb : Int)) := (H.blk 5 rfl).cell 2
    have tef2 : (wd).frozen? ⟨wb.heap.size, 2, none⟩ = false := (H.blk 5 rfl).frozen 2
    have te3 : (wd).cell? ⟨wb.heap.size, 3, none⟩ = some (.int .i64 (db : Int)) := (H.blk 5 rfl).cell 3
    have tef3 : (wd).frozen? ⟨wb.heap.size, 3, none⟩ = false := (H.blk 5 rfl).frozen 3
    have te4 : (wd).cell? ⟨wb.heap.size, 4, none⟩ = some (.int .i64 (al : Int)) := (H.blk 5 rfl).cell 4
    have tef4 : (wd).frozen? ⟨wb.heap.size, 4, none⟩ = false := (H.blk 5 rfl).frozen 4
    have telt : wb.heap.size < (wd).heap.size := H.lt 5 rfl
    have ne_ac_te : wa.heap.size ≠ wb.heap.size := H.ne 3 5 rfl rfl (by decide)
    have ne_te_ac : wb.heap.size ≠ wa.heap.size := H.ne 5 3 rfl rfl (by decide)
    clear hS hX hpd q1 q2 hdl hdt hTm hT hb2 hn1 hch hok hR hds9 hds m1 mm2 m3 m4 m5 hbd
    go_wp2_with fail
    obtain ⟨We, hWe⟩ : ∃ We, ((wd).alloc (.cells #[.int .i64 (me : Int), .int .i64 (rev : Int), .int .i64 (next1 : Int), .int .i64 (month : Int), .int .i64 (bought2 : Int), .int .i64 free, .slice A2 out.length c2] 59)).alloc (.cells #[.int .i64 (next : Int), .int .i64 (t : Int), .int .i64 (paid : Int), .int .i64 (F : Int), .int .i64 (P : Int), .int .i64 (ch : Int), .int .i64 (U : Int)] 23) = We := ⟨_, rfl⟩
    replace H : Mem (w) [] _ [.blk (w.heap.size) 53 #[.int .i64 x0, .int .i64 x1, .int .i64 x2, .int .i64 x3, .int .i64 x4, .int .i64 x5, .slice A n m], .blk (w.heap.size + 1) 56 #[.slice D n' m', .int .i64 y1, .int .i64 y2, .int .i64 y3, .int .i64 y4], .row (W0.heap.size) (25) (2) (.slice A1 l.length c1) (l.length) (drs l), .blk (wa.heap.size) 59 #[.int .i64 (me : Int), .int .i64 (rev : Int), .int .i64 (next : Int), .int .i64 (month : Int), .int .i64 (bought : Int), .int .i64 free, .slice A1 l.length c1], .row (Wb.heap.size) (109) (2) (.slice At tl.length ct) (tl.length) (drs tl), .blk (wb.heap.size) 63 #[.slice At tl.length ct, .int .i64 (fx : Int), .int .i64 (fb : Int), .int .i64 (db : Int), .int .i64 (al : Int)], .blk (wd.heap.size) 59 #[.int .i64 (me : Int), .int .i64 (rev : Int), .int .i64 (next1 : Int), .int .i64 (month : Int), .int .i64 (bought2 : Int), .int .i64 free, .slice A2 out.length c2]] := Mem.alloc H (wd.heap.size) (by first | (simp; done) | (simp; omega)) #[.int .i64 (me : Int), .int .i64 (rev : Int), .int .i64 (next1 : Int), .int .i64 (month : Int), .int .i64 (bought2 : Int), .int .i64 free, .slice A2 out.length c2] 59
    replace H : Mem (w) [] _ [.blk (w.heap.size) 53 #[.int .i64 x0, .int .i64 x1, .int .i64 x2, .int .i64 x3, .int .i64 x4, .int .i64 x5, .slice A n m], .blk (w.heap.size + 1) 56 #[.slice D n' m', .int .i64 y1, .int .i64 y2, .int .i64 y3, .int .i64 y4], .row (W0.heap.size) (25) (2) (.slice A1 l.length c1) (l.length) (drs l), .blk (wa.heap.size) 59 #[.int .i64 (me : Int), .int .i64 (rev : Int), .int .i64 (next : Int), .int .i64 (month : Int), .int .i64 (bought : Int), .int .i64 free, .slice A1 l.length c1], .row (Wb.heap.size) (109) (2) (.slice At tl.length ct) (tl.length) (drs tl), .blk (wb.heap.size) 63 #[.slice At tl.length ct, .int .i64 (fx : Int), .int .i64 (fb : Int), .int .i64 (db : Int), .int .i64 (al : Int)], .blk (wd.heap.size) 59 #[.int .i64 (me : Int), .int .i64 (rev : Int), .int .i64 (next1 : Int), .int .i64 (month : Int), .int .i64 (bought2 : Int), .int .i64 free, .slice A2 out.length c2], .blk (wd.heap.size + 1) 23 #[.int .i64 (next : Int), .int .i64 (t : Int), .int .i64 (paid : Int), .int .i64 (F : Int), .int .i64 (P : Int), .int .i64 (ch : Int), .int .i64 (U : Int)]] := Mem.alloc H (wd.heap.size + 1) (by first | (simp; done) | (simp; omega)) #[.int .i64 (next : Int), .int .i64 (t : Int), .int .i64 (paid : Int), .int .i64 (F : Int), .int .i64 (P : Int), .int .i64 (ch : Int), .int .i64 (U : Int)] 23
    rw [hWe] at H ⊢
    clear hWe
    refine (hTo _ (isds_own rfl (H.own_ 2 rfl))).mono ?_
    rintro e wf ⟨rfl, hbf⟩
    replace H : Mem (w) [] (wf) [.blk (w.heap.size) 53 #[.int .i64 x0, .int .i64 x1, .int .i64 x2, .int .i64 x3, .int .i64 x4, .int .i64 x5, .slice A n m], .blk (w.heap.size + 1) 56 #[.slice D n' m', .int .i64 y1, .int .i64 y2, .int .i64 y3, .int .i64 y4], .row (W0.heap.size) (25) (2) (.slice A1 l.length c1) (l.length) (drs l), .blk (wa.heap.size) 59 #[.int .i64 (me : Int), .int .i64 (rev : Int), .int .i64 (next : Int), .int .i64 (month : Int), .int .i64 (bought : Int), .int .i64 free, .slice A1 l.length c1], .row (Wb.heap.size) (109) (2) (.slice At tl.length ct) (tl.length) (drs tl), .blk (wb.heap.size) 63 #[.slice At tl.length ct, .int .i64 (fx : Int), .int .i64 (fb : Int), .int .i64 (db : Int), .int .i64 (al : Int)], .blk (wd.heap.size) 59 #[.int .i64 (me : Int), .int .i64 (rev : Int), .int .i64 (next1 : Int), .int .i64 (month : Int), .int .i64 (bought2 : Int), .int .i64 free, .slice A2 out.length c2], .blk (wd.heap.size + 1) 23 #[.int .i64 (next : Int), .int .i64 (t : Int), .int .i64 (paid : Int), .int .i64 (F : Int), .int .i64 (P : Int), .int .i64 (ch : Int), .int .i64 (U : Int)]] := Mem.call H hbf
    clear ac0 acf0 ac1 acf1 ac2 acf2 ac3 acf3 ac4 acf4 ac5 acf5 ac6 acf6 aclt te0 tef0 te1 tef1 te2 tef2 te3 tef3 te4 tef4 telt ne_ac_te ne_te_ac
    have ac0 : (wf).cell? ⟨wa.heap.size, 0, none⟩ = some (.int .i64 (me : Int)) := (H.blk 3 rfl).cell 0
    have acf0 : (wf).frozen? ⟨wa.heap.size, 0, none⟩ = false := (H.blk 3 rfl).frozen 0
    have ac1 : (wf).cell? ⟨wa.heap.size, 1, none⟩ = some (.int .i64 (rev : Int)) := (H.blk 3 rfl).cell 1
    have acf1 : (wf).frozen? ⟨wa.heap.size, 1, none⟩ = false := (H.blk 3 rfl).frozen 1
    have ac2 : (wf).cell? ⟨wa.heap.size, 2, none⟩ = some (.int .i64 (next : Int)) := (H.blk 3 rfl).cell 2
    have acf2 : (wf).frozen? ⟨wa.heap.size, 2, none⟩ = false := (H.blk 3 rfl).frozen 2
    have ac3 : (wf).cell? ⟨wa.heap.size, 3, none⟩ = some (.int .i64 (month : Int)) := (H.blk 3 rfl).cell 3
    have acf3 : (wf).frozen? ⟨wa.heap.size, 3, none⟩ = false := (H.blk 3 rfl).frozen 3
    have ac4 : (wf).cell? ⟨wa.heap.size, 4, none⟩ = some (.int .i64 (bought : Int)) := (H.blk 3 rfl).cell 4
    have acf4 : (wf).frozen? ⟨wa.heap.size, 4, none⟩ = false := (H.blk 3 rfl).frozen 4
    have ac5 : (wf).cell? ⟨wa.heap.size, 5, none⟩ = some (.int .i64 free) := (H.blk 3 rfl).cell 5
    have acf5 : (wf).frozen? ⟨wa.heap.size, 5, none⟩ = false := (H.blk 3 rfl).frozen 5
    have ac6 : (wf).cell? ⟨wa.heap.size, 6, none⟩ = some (.slice A1 l.length c1) := (H.blk 3 rfl).cell 6
    have acf6 : (wf).frozen? ⟨wa.heap.size, 6, none⟩ = false := (H.blk 3 rfl).frozen 6
    have aclt : wa.heap.size < (wf).heap.size := H.lt 3 rfl
    have te0 : (wf).cell? ⟨wb.heap.size, 0, none⟩ = some (.slice At tl.length ct) := (H.blk 5 rfl).cell 0
    have tef0 : (wf).frozen? ⟨wb.heap.size, 0, none⟩ = false := (H.blk 5 rfl).frozen 0
    have te1 : (wf).cell? ⟨wb.heap.size, 1, none⟩ = some (.int .i64 (fx : Int)) := (H.blk 5 rfl).cell 1
    have tef1 : (wf).frozen? ⟨wb.heap.size, 1, none⟩ = false := (H.blk 5 rfl).frozen 1
    have te2 : (wf).cell? ⟨wb.heap.size, 2, none⟩ = some (.int .i64 (fb : Int)) := (H.blk 5 rfl).cell 2
    have tef2 : (wf).frozen? ⟨wb.heap.size, 2, none⟩ = false := (H.blk 5 rfl).frozen 2
    have te3 : (wf).cell? ⟨wb.heap.size, 3, none⟩ = some (.int .i64 (db : Int)) := (H.blk 5 rfl).cell 3
    have tef3 : (wf).frozen? ⟨wb.heap.size, 3, none⟩ = false := (H.blk 5 rfl).frozen 3
    have te4 : (wf).cell? ⟨wb.heap.size, 4, none⟩ = some (.int .i64 (al : Int)) := (H.blk 5 rfl).cell 4
    have tef4 : (wf).frozen? ⟨wb.heap.size, 4, none⟩ = false := (H.blk 5 rfl).frozen 4
    have telt : wb.heap.size < (wf).heap.size := H.lt 5 rfl
    have xb0 : (wf).cell? ⟨wd.heap.size + 1, 0, none⟩ = some (.int .i64 (next : Int)) := (H.blk 7 rfl).cell 0
    have xbf0 : (wf).frozen? ⟨wd.heap.size + 1, 0, none⟩ = false := (H.blk 7 rfl).frozen 0
    have xb1 : (wf).cell? ⟨wd.heap.size + 1, 1, none⟩ = some (.int .i64 (t : Int)) := (H.blk 7 rfl).cell 1
    have xbf1 : (wf).frozen? ⟨wd.heap.size + 1, 1, none⟩ = false := (H.blk 7 rfl).frozen 1
    have xb2 : (wf).cell? ⟨wd.heap.size + 1, 2, none⟩ = some (.int .i64 (paid : Int)) := (H.blk 7 rfl).cell 2
    have xbf2 : (wf).frozen? ⟨wd.heap.size + 1, 2, none⟩ = false := (H.blk 7 rfl).frozen 2
    have xb3 : (wf).cell? ⟨wd.heap.size + 1, 3, none⟩ = some (.int .i64 (F : Int)) := (H.blk 7 rfl).cell 3
    have xbf3 : (wf).frozen? ⟨wd.heap.size + 1, 3, none⟩ = false := (H.blk 7 rfl).frozen 3
    have xb4 : (wf).cell? ⟨wd.heap.size + 1, 4, none⟩ = some (.int .i64 (P : Int)) := (H.blk 7 rfl).cell 4
    have xbf4 : (wf).frozen? ⟨wd.heap.size + 1, 4, none⟩ = false := (H.blk 7 rfl).frozen 4
    have xb5 : (wf).cell? ⟨wd.heap.size + 1, 5, none⟩ = some (.int .i64 (ch : Int)) := (H.blk 7 rfl).cell 5
    have xbf5 : (wf).frozen? ⟨wd.heap.size + 1, 5, none⟩ = false := (H.blk 7 rfl).frozen 5
    have xb6 : (wf).cell? ⟨wd.heap.size + 1, 6, none⟩ = some (.int .i64 (U : Int)) := (H.blk 7 rfl).cell 6
    have xbf6 : (wf).frozen? ⟨wd.heap.size + 1, 6, none⟩ = false := (H.blk 7 rfl).frozen 6
    have xblt : wd.heap.size + 1 < (wf).heap.size := H.lt 7 rfl
    have ne_ac_te : wa.heap.size ≠ wb.heap.size := H.ne 3 5 rfl rfl (by decide)
    have ne_ac_xb : wa.heap.size ≠ wd.heap.size + 1 := H.ne 3 7 rfl rfl (by decide)
    have ne_te_ac : wb.heap.size ≠ wa.heap.size := H.ne 5 3 rfl rfl (by decide)
    have ne_te_xb : wb.heap.size ≠ wd.heap.size + 1 := H.ne 5 7 rfl rfl (by decide)
    have ne_xb_ac : wd.heap.size + 1 ≠ wa.heap.size := H.ne 7 3 rfl rfl (by decide)
    have ne_xb_te : wd.heap.size + 1 ≠ wb.heap.size := H.ne 7 5 rfl rfl (by decide)
    have hv9 := isds_own (l := l) rfl (H.own_ 2 rfl)
    clear hbf hTo
    rcases k3 with rfl | ⟨k5, k6⟩
    all_goals
      go_wp2_with (go_at_call 26; with_reducible refine (hSu _ hv9).mono ?_; rintro e w' ⟨rfl, rfl⟩)
      go_ret
      exact ⟨rfl, H.below⟩
  · skip
    refine (sellX_no me rev next month bought free A1 l.length c1 l At tl.length ct fx fb db al tl month bought l t S paid f0 F li out _ hdl hd hok hdt hT hTm hR (by omega) hS).mono ?_
    rintro e wd ⟨rfl, hbd⟩
    replace H : Mem (w) [] (wd) [.blk (w.heap.size) 53 #[.int .i64 x0, .int .i64 x1, .int .i64 x2, .int .i64 x3, .int .i64 x4, .int .i64 x5, .slice A n m], .blk (w.heap.size + 1) 56 #[.slice D n' m', .int .i64 y1, .int .i64 y2, .int .i64 y3, .int .i64 y4], .row (W0.heap.size) (25) (2) (.slice A1 l.length c1) (l.length) (drs l), .blk (wa.heap.size) 59 #[.int .i64 (me : Int), .int .i64 (rev : Int), .int .i64 (next : Int), .int .i64 (month : Int), .int .i64 (bought : Int), .int .i64 free, .slice A1 l.length c1], .row (Wb.heap.size) (109) (2) (.slice At tl.length ct) (tl.length) (drs tl), .blk (wb.heap.size) 63 #[.slice At tl.length ct, .int .i64 (fx : Int), .int .i64 (fb : Int), .int .i64 (db : Int), .int .i64 (al : Int)]] := Mem.call H hbd
    clear ac0 acf0 ac1 acf1 ac2 acf2 ac3 acf3 ac4 acf4 ac5 acf5 ac6 acf6 aclt te0 tef0 te1 tef1 te2 tef2 te3 tef3 te4 tef4 telt ne_ac_te ne_te_ac
    have ac0 : (wd).cell? ⟨wa.heap.size, 0, none⟩ = some (.int .i64 (me : Int)) := (H.blk 3 rfl).cell 0
    have acf0 : (wd).frozen? ⟨wa.heap.size, 0, none⟩ = false := (H.blk 3 rfl).frozen 0
    have ac1 : (wd).cell? ⟨wa.heap.size, 1, none⟩ = some (.int .i64 (rev : Int)) := (H.blk 3 rfl).cell 1
    have acf1 : (wd).frozen? ⟨wa.heap.size, 1, none⟩ = false := (H.blk 3 rfl).frozen 1
    have ac2 : (wd).cell? ⟨wa.heap.size, 2, none⟩ = some (.int .i64 (next : Int)) := (H.blk 3 rfl).cell 2
    have acf2 : (wd).frozen? ⟨wa.heap.size, 2, none⟩ = false := (H.blk 3 rfl).frozen 2
    have ac3 : (wd).cell? ⟨wa.heap.size, 3, none⟩ = some (.int .i64 (month : Int)) := (H.blk 3 rfl).cell 3
    have acf3 : (wd).frozen? ⟨wa.heap.size, 3, none⟩ = false := (H.blk 3 rfl).frozen 3
    have ac4 : (wd).cell? ⟨wa.heap.size, 4, none⟩ = some (.int .i64 (bought : Int)) := (H.blk 3 rfl).cell 4
    have acf4 : (wd).frozen? ⟨wa.heap.size, 4, none⟩ = false := (H.blk 3 rfl).frozen 4
    have ac5 : (wd).cell? ⟨wa.heap.size, 5, none⟩ = some (.int .i64 free) := (H.blk 3 rfl).cell 5
    have acf5 : (wd).frozen? ⟨wa.heap.size, 5, none⟩ = false := (H.blk 3 rfl).frozen 5
    have ac6 : (wd).cell? ⟨wa.heap.size, 6, none⟩ = some (.slice A1 l.length c1) := (H.blk 3 rfl).cell 6
    have acf6 : (wd).frozen? ⟨wa.heap.size, 6, none⟩ = false := (H.blk 3 rfl).frozen 6
    have aclt : wa.heap.size < (wd).heap.size := H.lt 3 rfl
    have te0 : (wd).cell? ⟨wb.heap.size, 0, none⟩ = some (.slice At tl.length ct) := (H.blk 5 rfl).cell 0
    have tef0 : (wd).frozen? ⟨wb.heap.size, 0, none⟩ = false := (H.blk 5 rfl).frozen 0
    have te1 : (wd).cell? ⟨wb.heap.size, 1, none⟩ = some (.int .i64 (fx : Int)) := (H.blk 5 rfl).cell 1
    have tef1 : (wd).frozen? ⟨wb.heap.size, 1, none⟩ = false := (H.blk 5 rfl).frozen 1
    have te2 : (wd).cell? ⟨wb.heap.size, 2, none⟩ = some (.int .i64 (fb : Int)) := (H.blk 5 rfl).cell 2
    have tef2 : (wd).frozen? ⟨wb.heap.size, 2, none⟩ = false := (H.blk 5 rfl).frozen 2
    have te3 : (wd).cell? ⟨wb.heap.size, 3, none⟩ = some (.int .i64 (db : Int)) := (H.blk 5 rfl).cell 3
    have tef3 : (wd).frozen? ⟨wb.heap.size, 3, none⟩ = false := (H.blk 5 rfl).frozen 3
    have te4 : (wd).cell? ⟨wb.heap.size, 4, none⟩ = some (.int .i64 (al : Int)) := (H.blk 5 rfl).cell 4
    have tef4 : (wd).frozen? ⟨wb.heap.size, 4, none⟩ = false := (H.blk 5 rfl).frozen 4
    have telt : wb.heap.size < (wd).heap.size := H.lt 5 rfl
    have ne_ac_te : wa.heap.size ≠ wb.heap.size := H.ne 3 5 rfl rfl (by decide)
    have ne_te_ac : wb.heap.size ≠ wa.heap.size := H.ne 5 3 rfl rfl (by decide)
    clear hS hdl hdt hTm hT hn1 hok hR hds9 hds hbd
    go_wp2_with fail
    obtain ⟨We, hWe⟩ : ∃ We, ((wd).alloc (.cells #[.int .i64 0, .int .i64 0, .int .i64 0, .int .i64 0, .int .i64 0, .int .i64 0, .slice none 0 0] 59)).alloc (.cells #[.int .i64 0, .int .i64 0, .int .i64 0, .int .i64 0, .int .i64 0, .int .i64 0, .int .i64 0] 23) = We := ⟨_, rfl⟩
    replace H : Mem (w) [] _ [.blk (w.heap.size) 53 #[.int .i64 x0, .int .i64 x1, .int .i64 x2, .int .i64 x3, .int .i64 x4, .int .i64 x5, .slice A n m], .blk (w.heap.size + 1) 56 #[.slice D n' m', .int .i64 y1, .int .i64 y2, .int .i64 y3, .int .i64 y4], .row (W0.heap.size) (25) (2) (.slice A1 l.length c1) (l.length) (drs l), .blk (wa.heap.size) 59 #[.int .i64 (me : Int), .int .i64 (rev : Int), .int .i64 (next : Int), .int .i64 (month : Int), .int .i64 (bought : Int), .int .i64 free, .slice A1 l.length c1], .row (Wb.heap.size) (109) (2) (.slice At tl.length ct) (tl.length) (drs tl), .blk (wb.heap.size) 63 #[.slice At tl.length ct, .int .i64 (fx : Int), .int .i64 (fb : Int), .int .i64 (db : Int), .int .i64 (al : Int)], .blk (wd.heap.size) 59 #[.int .i64 0, .int .i64 0, .int .i64 0, .int .i64 0, .int .i64 0, .int .i64 0, .slice none 0 0]] := Mem.alloc H (wd.heap.size) (by first | (simp; done) | (simp; omega)) #[.int .i64 0, .int .i64 0, .int .i64 0, .int .i64 0, .int .i64 0, .int .i64 0, .slice none 0 0] 59
    replace H : Mem (w) [] _ [.blk (w.heap.size) 53 #[.int .i64 x0, .int .i64 x1, .int .i64 x2, .int .i64 x3, .int .i64 x4, .int .i64 x5, .slice A n m], .blk (w.heap.size + 1) 56 #[.slice D n' m', .int .i64 y1, .int .i64 y2, .int .i64 y3, .int .i64 y4], .row (W0.heap.size) (25) (2) (.slice A1 l.length c1) (l.length) (drs l), .blk (wa.heap.size) 59 #[.int .i64 (me : Int), .int .i64 (rev : Int), .int .i64 (next : Int), .int .i64 (month : Int), .int .i64 (bought : Int), .int .i64 free, .slice A1 l.length c1], .row (Wb.heap.size) (109) (2) (.slice At tl.length ct) (tl.length) (drs tl), .blk (wb.heap.size) 63 #[.slice At tl.length ct, .int .i64 (fx : Int), .int .i64 (fb : Int), .int .i64 (db : Int), .int .i64 (al : Int)], .blk (wd.heap.size) 59 #[.int .i64 0, .int .i64 0, .int .i64 0, .int .i64 0, .int .i64 0, .int .i64 0, .slice none 0 0], .blk (wd.heap.size + 1) 23 #[.int .i64 0, .int .i64 0, .int .i64 0, .int .i64 0, .int .i64 0, .int .i64 0, .int .i64 0]] := Mem.alloc H (wd.heap.size + 1) (by first | (simp; done) | (simp; omega)) #[.int .i64 0, .int .i64 0, .int .i64 0, .int .i64 0, .int .i64 0, .int .i64 0, .int .i64 0] 23
    rw [hWe] at H ⊢
    clear hWe
    refine (hTo _ (isds_own rfl (H.own_ 2 rfl))).mono ?_
    rintro e wf ⟨rfl, hbf⟩
    replace H : Mem (w) [] (wf) [.blk (w.heap.size) 53 #[.int .i64 x0, .int .i64 x1, .int .i64 x2, .int .i64 x3, .int .i64 x4, .int .i64 x5, .slice A n m], .blk (w.heap.size + 1) 56 #[.slice D n' m', .int .i64 y1, .int .i64 y2, .int .i64 y3, .int .i64 y4], .row (W0.heap.size) (25) (2) (.slice A1 l.length c1) (l.length) (drs l), .blk (wa.heap.size) 59 #[.int .i64 (me : Int), .int .i64 (rev : Int), .int .i64 (next : Int), .int .i64 (month : Int), .int .i64 (bought : Int), .int .i64 free, .slice A1 l.length c1], .row (Wb.heap.size) (109) (2) (.slice At tl.length ct) (tl.length) (drs tl), .blk (wb.heap.size) 63 #[.slice At tl.length ct, .int .i64 (fx : Int), .int .i64 (fb : Int), .int .i64 (db : Int), .int .i64 (al : Int)], .blk (wd.heap.size) 59 #[.int .i64 0, .int .i64 0, .int .i64 0, .int .i64 0, .int .i64 0, .int .i64 0, .slice none 0 0], .blk (wd.heap.size + 1) 23 #[.int .i64 0, .int .i64 0, .int .i64 0, .int .i64 0, .int .i64 0, .int .i64 0, .int .i64 0]] := Mem.call H hbf
    clear hbf hTo
    go_wp2
    go_ret
    exact ⟨rfl, H.below⟩
end Go.Proofs.Ytjogdooajbhnoaa

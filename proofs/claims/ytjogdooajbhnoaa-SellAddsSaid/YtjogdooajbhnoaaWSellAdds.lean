/- The walk of the law SellAdds. -/
import Derived.Test.YtjogdooajbhnoaaSaleX
import Derived.Test.YtjogdooajbhnoaaPrice
namespace Go.Proofs.Ytjogdooajbhnoaa
open Go.RowKit
set_option linter.unusedVariables false
set_option maxRecDepth 100000 in
set_option maxHeartbeats 4000000 in
theorem walk_sellAdds (w : World) (a0 : Value) (w0 : Fit Try.prog w 53 a0) (a1 : Value) (w1 : Fit Try.prog w 56 a1) (a2 : Int) (w2 : (Lit.int .i64 a2).wf = true) (a3 : Int) (w3 : (Lit.int .i64 a3).wf = true) :
    Calls Try.prog 12 #[a0, a1, .int .i64 a2, .int .i64 a3] w fun e w' => e = .returned (.bool true) ∧ Below w.heap.size w w' := by
  obtain ⟨x0, x1, x2, x3, x4, x5, A, n, m, g, rfl, v0, v1, v2, v3, v4, v5, hv⟩ := going_fit w0
  obtain ⟨D, n', m', g', y1, y2, y3, y4, rfl, u1, u2, u3, u4, hu⟩ := deal_fit w1
  clear w0 w1
  have H := Mem.init w
  obtain ⟨W0, hW0⟩ : ∃ W0, ((w).alloc (.cells #[.int .i64 x0, .int .i64 x1, .int .i64 x2, .int .i64 x3, .int .i64 x4, .int .i64 x5, .slice A n m] 53)).alloc (.cells #[.slice D n' m', .int .i64 y1, .int .i64 y2, .int .i64 y3, .int .i64 y4] 56) = W0 := ⟨_, rfl⟩
  replace H : Mem (w) [] _ [.blk (w.heap.size) 53 #[.int .i64 x0, .int .i64 x1, .int .i64 x2, .int .i64 x3, .int .i64 x4, .int .i64 x5, .slice A n m]] := Mem.alloc H (w.heap.size) (by first | (simp; done) | (simp; omega)) #[.int .i64 x0, .int .i64 x1, .int .i64 x2, .int .i64 x3, .int .i64 x4, .int .i64 x5, .slice A n m] 53
  replace H : Mem (w) [] _ [.blk (w.heap.size) 53 #[.int .i64 x0, .int .i64 x1, .int .i64 x2, .int .i64 x3, .int .i64 x4, .int .i64 x5, .slice A n m], .blk (w.heap.size + 1) 56 #[.slice D n' m', .int .i64 y1, .int .i64 y2, .int .i64 y3, .int .i64 y4]] := Mem.alloc H (w.heap.size + 1) (by first | (simp; done) | (simp; omega)) #[.slice D n' m', .int .i64 y1, .int .i64 y2, .int .i64 y3, .int .i64 y4] 56
  rw [hW0] at H
  have hG := gone_own x0 x1 x2 x3 x4 x5 A n m g W0 v0 v1 v2 v3 v4 v5 (hv.below H.below)
  have hAg := fun W h => agreed_own D n' m' g' y1 y2 y3 y4 W u1 u2 u3 u4 h
  clear hv
  have gi0 : (W0).cell? ⟨w.heap.size, 0, none⟩ = some (.int .i64 x0) := (H.blk 0 rfl).cell 0
  have gif0 : (W0).frozen? ⟨w.heap.size, 0, none⟩ = false := (H.blk 0 rfl).frozen 0
  have gi1 : (W0).cell? ⟨w.heap.size, 1, none⟩ = some (.int .i64 x1) := (H.blk 0 rfl).cell 1
  have gif1 : (W0).frozen? ⟨w.heap.size, 1, none⟩ = false := (H.blk 0 rfl).frozen 1
  have gi2 : (W0).cell? ⟨w.heap.size, 2, none⟩ = some (.int .i64 x2) := (H.blk 0 rfl).cell 2
  have gif2 : (W0).frozen? ⟨w.heap.size, 2, none⟩ = false := (H.blk 0 rfl).frozen 2
  have gi3 : (W0).cell? ⟨w.heap.size, 3, none⟩ = some (.int .i64 x3) := (H.blk 0 rfl).cell 3
  have gif3 : (W0).frozen? ⟨w.heap.size, 3, none⟩ = false := (H.blk 0 rfl).frozen 3
  have gi4 : (W0).cell? ⟨w.heap.size, 4, none⟩ = some (.int .i64 x4) := (H.blk 0 rfl).cell 4
  have gif4 : (W0).frozen? ⟨w.heap.size, 4, none⟩ = false := (H.blk 0 rfl).frozen 4
  have gi5 : (W0).cell? ⟨w.heap.size, 5, none⟩ = some (.int .i64 x5) := (H.blk 0 rfl).cell 5
  have gif5 : (W0).frozen? ⟨w.heap.size, 5, none⟩ = false := (H.blk 0 rfl).frozen 5
  have gi6 : (W0).cell? ⟨w.heap.size, 6, none⟩ = some (.slice A n m) := (H.blk 0 rfl).cell 6
  have gif6 : (W0).frozen? ⟨w.heap.size, 6, none⟩ = false := (H.blk 0 rfl).frozen 6
  have gilt : w.heap.size < (W0).heap.size := H.lt 0 rfl
  have dj0 : (W0).cell? ⟨w.heap.size + 1, 0, none⟩ = some (.slice D n' m') := (H.blk 1 rfl).cell 0
  have djf0 : (W0).frozen? ⟨w.heap.size + 1, 0, none⟩ = false := (H.blk 1 rfl).frozen 0
  have dj1 : (W0).cell? ⟨w.heap.size + 1, 1, none⟩ = some (.int .i64 y1) := (H.blk 1 rfl).cell 1
  have djf1 : (W0).frozen? ⟨w.heap.size + 1, 1, none⟩ = false := (H.blk 1 rfl).frozen 1
  have dj2 : (W0).cell? ⟨w.heap.size + 1, 2, none⟩ = some (.int .i64 y2) := (H.blk 1 rfl).cell 2
  have djf2 : (W0).frozen? ⟨w.heap.size + 1, 2, none⟩ = false := (H.blk 1 rfl).frozen 2
  have dj3 : (W0).cell? ⟨w.heap.size + 1, 3, none⟩ = some (.int .i64 y3) := (H.blk 1 rfl).cell 3
  have djf3 : (W0).frozen? ⟨w.heap.size + 1, 3, none⟩ = false := (H.blk 1 rfl).frozen 3
  have dj4 : (W0).cell? ⟨w.heap.size + 1, 4, none⟩ = some (.int .i64 y4) := (H.blk 1 rfl).cell 4
  have djf4 : (W0).frozen? ⟨w.heap.size + 1, 4, none⟩ = false := (H.blk 1 rfl).frozen 4
  have djlt : w.heap.size + 1 < (W0).heap.size := H.lt 1 rfl
  have ne_gi_dj : w.heap.size ≠ w.heap.size + 1 := H.ne 0 1 rfl rfl (by decide)
  have ne_dj_gi : w.heap.size + 1 ≠ w.heap.size := H.ne 1 0 rfl rfl (by decide)
  go_enter Try.func12, Try.ntmps12
  go_wp2_with fail
  refine hG.mono ?_
  rintro e wa ⟨me, rev, next, month, bought, free, l, A1, c1, rfl, hok, hn, hmo, hd, hds, hba⟩
  replace H : Mem (w) [] (wa) [.blk (w.heap.size) 53 #[.int .i64 x0, .int .i64 x1, .int .i64 x2, .int .i64 x3, .int .i64 x4, .int .i64 x5, .slice A n m], .blk (w.heap.size + 1) 56 #[.slice D n' m', .int .i64 y1, .int .i64 y2, .int .i64 y3, .int .i64 y4], .row (W0.heap.size) (25) (2) (.slice A1 l.length c1) (l.length) (drs l)] := Mem.row H hba hds (Nat.le_refl _)
  clear gi0 gif0 gi1 gif1 gi2 gif2 gi3 gif3 gi4 gif4 gi5 gif5 gi6 gif6 gilt dj0 djf0 dj1 djf1 dj2 djf2 dj3 djf3 dj4 djf4 djlt ne_gi_dj ne_dj_gi
  have gi0 : (wa).cell? ⟨w.heap.size, 0, none⟩ = some (.int .i64 x0) := (H.blk 0 rfl).cell 0
  have gif0 : (wa).frozen? ⟨w.heap.size, 0, none⟩ = false := (H.blk 0 rfl).frozen 0
  have gi1 : (wa).cell? ⟨w.heap.size, 1, none⟩ = some (.int .i64 x1) := (H.blk 0 rfl).cell 1
  have gif1 : (wa).frozen? ⟨w.heap.size, 1, none⟩ = false := (H.blk 0 rfl).frozen 1
  have gi2 : (wa).cell? ⟨w.heap.size, 2, none⟩ = some (.int .i64 x2) := (H.blk 0 rfl).cell 2
  have gif2 : (wa).frozen? ⟨w.heap.size, 2, none⟩ = false := (H.blk 0 rfl).frozen 2
  have gi3 : (wa).cell? ⟨w.heap.size, 3, none⟩ = some (.int .i64 x3) := (H.blk 0 rfl).cell 3
  have gif3 : (wa).frozen? ⟨w.heap.size, 3, none⟩ = false := (H.blk 0 rfl).frozen 3
  have gi4 : (wa).cell? ⟨w.heap.size, 4, none⟩ = some (.int .i64 x4) := (H.blk 0 rfl).cell 4
  have gif4 : (wa).frozen? ⟨w.heap.size, 4, none⟩ = false := (H.blk 0 rfl).frozen 4
  have gi5 : (wa).cell? ⟨w.heap.size, 5, none⟩ = some (.int .i64 x5) := (H.blk 0 rfl).cell 5
  have gif5 : (wa).frozen? ⟨w.heap.size, 5, none⟩ = false := (H.blk 0 rfl).frozen 5
  have gi6 : (wa).cell? ⟨w.heap.size, 6, none⟩ = some (.slice A n m) := (H.blk 0 rfl).cell 6
  have gif6 : (wa).frozen? ⟨w.heap.size, 6, none⟩ = false := (H.blk 0 rfl).frozen 6
  have gilt : w.heap.size < (wa).heap.size := H.lt 0 rfl
  have dj0 : (wa).cell? ⟨w.heap.size + 1, 0, none⟩ = some (.slice D n' m') := (H.blk 1 rfl).cell 0
  have djf0 : (wa).frozen? ⟨w.heap.size + 1, 0, none⟩ = false := (H.blk 1 rfl).frozen 0
  have dj1 : (wa).cell? ⟨w.heap.size + 1, 1, none⟩ = some (.int .i64 y1) := (H.blk 1 rfl).cell 1
  have djf1 : (wa).frozen? ⟨w.heap.size + 1, 1, none⟩ = false := (H.blk 1 rfl).frozen 1
  have dj2 : (wa).cell? ⟨w.heap.size + 1, 2, none⟩ = some (.int .i64 y2) := (H.blk 1 rfl).cell 2
  have djf2 : (wa).frozen? ⟨w.heap.size + 1, 2, none⟩ = false := (H.blk 1 rfl).frozen 2
  have dj3 : (wa).cell? ⟨w.heap.size + 1, 3, none⟩ = some (.int .i64 y3) := (H.blk 1 rfl).cell 3
  have djf3 : (wa).frozen? ⟨w.heap.size + 1, 3, none⟩ = false := (H.blk 1 rfl).frozen 3
  have dj4 : (wa).cell? ⟨w.heap.size + 1, 4, none⟩ = some (.int .i64 y4) := (H.blk 1 rfl).cell 4
  have djf4 : (wa).frozen? ⟨w.heap.size + 1, 4, none⟩ = false := (H.blk 1 rfl).frozen 4
  have djlt : w.heap.size + 1 < (wa).heap.size := H.lt 1 rfl
  have ne_gi_dj : w.heap.size ≠ w.heap.size + 1 := H.ne 0 1 rfl rfl (by decide)
  have ne_dj_gi : w.heap.size + 1 ≠ w.heap.size := H.ne 1 0 rfl rfl (by decide)
  clear hG hW0 hba hds
  have hu1 := hu.below H.below
  go_wp2_with fail
  obtain ⟨Wb, hWb⟩ : ∃ Wb, (wa).alloc (.cells #[.int .i64 (me : Int), .int .i64 (rev : Int), .int .i64 (next : Int), .int .i64 (month : Int), .int .i64 (bought : Int), .int .i64 free, .slice A1 l.length c1] 59) = Wb := ⟨_, rfl⟩
  replace H : Mem (w) [] _ [.blk (w.heap.size) 53 #[.int .i64 x0, .int .i64 x1, .int .i64 x2, .int .i64 x3, .int .i64 x4, .int .i64 x5, .slice A n m], .blk (w.heap.size + 1) 56 #[.slice D n' m', .int .i64 y1, .int .i64 y2, .int .i64 y3, .int .i64 y4], .row (W0.heap.size) (25) (2) (.slice A1 l.length c1) (l.length) (drs l), .blk (wa.heap.size) 59 #[.int .i64 (me : Int), .int .i64 (rev : Int), .int .i64 (next : Int), .int .i64 (month : Int), .int .i64 (bought : Int), .int .i64 free, .slice A1 l.length c1]] := Mem.alloc H (wa.heap.size) (by first | (simp; done) | (simp; omega)) #[.int .i64 (me : Int), .int .i64 (rev : Int), .int .i64 (next : Int), .int .i64 (month : Int), .int .i64 (bought : Int), .int .i64 free, .slice A1 l.length c1] 59
  rw [hWb] at H ⊢
  clear hWb
  refine (hAg _ (hu.below H.below)).mono ?_
  rintro e wb ⟨tl, At, ct, fx, fb, db, al, rfl, hT, hTm, hdt, hbb⟩
  replace H : Mem (w) [] (wb) [.blk (w.heap.size) 53 #[.int .i64 x0, .int .i64 x1, .int .i64 x2, .int .i64 x3, .int .i64 x4, .int .i64 x5, .slice A n m], .blk (w.heap.size + 1) 56 #[.slice D n' m', .int .i64 y1, .int .i64 y2, .int .i64 y3, .int .i64 y4], .row (W0.heap.size) (25) (2) (.slice A1 l.length c1) (l.length) (drs l), .blk (wa.heap.size) 59 #[.int .i64 (me : Int), .int .i64 (rev : Int), .int .i64 (next : Int), .int .i64 (month : Int), .int .i64 (bought : Int), .int .i64 free, .slice A1 l.length c1], .row (Wb.heap.size) (109) (2) (.slice At tl.length ct) (tl.length) (drs tl)] := Mem.row H hbb hdt (Nat.le_refl _)
  clear gi0 gif0 gi1 gif1 gi2 gif2 gi3 gif3 gi4 gif4 gi5 gif5 gi6 gif6 gilt dj0 djf0 dj1 djf1 dj2 djf2 dj3 djf3 dj4 djf4 djlt ne_gi_dj ne_dj_gi
  have gi0 : (wb).cell? ⟨w.heap.size, 0, none⟩ = some (.int .i64 x0) := (H.blk 0 rfl).cell 0
  have gif0 : (wb).frozen? ⟨w.heap.size, 0, none⟩ = false := (H.blk 0 rfl).frozen 0
  have gi1 : (wb).cell? ⟨w.heap.size, 1, none⟩ = some (.int .i64 x1) := (H.blk 0 rfl).cell 1
  have gif1 : (wb).frozen? ⟨w.heap.size, 1, none⟩ = false := (H.blk 0 rfl).frozen 1
  have gi2 : (wb).cell? ⟨w.heap.size, 2, none⟩ = some (.int .i64 x2) := (H.blk 0 rfl).cell 2
  have gif2 : (wb).frozen? ⟨w.heap.size, 2, none⟩ = false := (H.blk 0 rfl).frozen 2
  have gi3 : (wb).cell? ⟨w.heap.size, 3, none⟩ = some (.int .i64 x3) := (H.blk 0 rfl).cell 3
  have gif3 : (wb).frozen? ⟨w.heap.size, 3, none⟩ = false := (H.blk 0 rfl).frozen 3
  have gi4 : (wb).cell? ⟨w.heap.size, 4, none⟩ = some (.int .i64 x4) := (H.blk 0 rfl).cell 4
  have gif4 : (wb).frozen? ⟨w.heap.size, 4, none⟩ = false := (H.blk 0 rfl).frozen 4
  have gi5 : (wb).cell? ⟨w.heap.size, 5, none⟩ = some (.int .i64 x5) := (H.blk 0 rfl).cell 5
  have gif5 : (wb).frozen? ⟨w.heap.size, 5, none⟩ = false := (H.blk 0 rfl).frozen 5
  have gi6 : (wb).cell? ⟨w.heap.size, 6, none⟩ = some (.slice A n m) := (H.blk 0 rfl).cell 6
  have gif6 : (wb).frozen? ⟨w.heap.size, 6, none⟩ = false := (H.blk 0 rfl).frozen 6
  have gilt : w.heap.size < (wb).heap.size := H.lt 0 rfl
  have dj0 : (wb).cell? ⟨w.heap.size + 1, 0, none⟩ = some (.slice D n' m') := (H.blk 1 rfl).cell 0
  have djf0 : (wb).frozen? ⟨w.heap.size + 1, 0, none⟩ = false := (H.blk 1 rfl).frozen 0
  have dj1 : (wb).cell? ⟨w.heap.size + 1, 1, none⟩ = some (.int .i64 y1) := (H.blk 1 rfl).cell 1
  have djf1 : (wb).frozen? ⟨w.heap.size + 1, 1, none⟩ = false := (H.blk 1 rfl).frozen 1
  have dj2 : (wb).cell? ⟨w.heap.size + 1, 2, none⟩ = some (.int .i64 y2) := (H.blk 1 rfl).cell 2
  have djf2 : (wb).frozen? ⟨w.heap.size + 1, 2, none⟩ = false := (H.blk 1 rfl).frozen 2
  have dj3 : (wb).cell? ⟨w.heap.size + 1, 3, none⟩ = some (.int .i64 y3) := (H.blk 1 rfl).cell 3
  have djf3 : (wb).frozen? ⟨w.heap.size + 1, 3, none⟩ = false := (H.blk 1 rfl).frozen 3
  have dj4 : (wb).cell? ⟨w.heap.size + 1, 4, none⟩ = some (.int .i64 y4) := (H.blk 1 rfl).cell 4
  have djf4 : (wb).frozen? ⟨w.heap.size + 1, 4, none⟩ = false := (H.blk 1 rfl).frozen 4
  have djlt : w.heap.size + 1 < (wb).heap.size := H.lt 1 rfl
  have ac0 : (wb).cell? ⟨wa.heap.size, 0, none⟩ = some (.int .i64 (me : Int)) := (H.blk 3 rfl).cell 0
  have acf0 : (wb).frozen? ⟨wa.heap.size, 0, none⟩ = false := (H.blk 3 rfl).frozen 0
  have ac1 : (wb).cell? ⟨wa.heap.size, 1, none⟩ = some (.int .i64 (rev : Int)) := (H.blk 3 rfl).cell 1
  have acf1 : (wb).frozen? ⟨wa.heap.size, 1, none⟩ = false := (H.blk 3 rfl).frozen 1
  have ac2 : (wb).cell? ⟨wa.heap.size, 2, none⟩ = some (.int .i64 (next : Int)) := (H.blk 3 rfl).cell 2
  have acf2 : (wb).frozen? ⟨wa.heap.size, 2, none⟩ = false := (H.blk 3 rfl).frozen 2
  have ac3 : (wb).cell? ⟨wa.heap.size, 3, none⟩ = some (.int .i64 (month : Int)) := (H.blk 3 rfl).cell 3
  have acf3 : (wb).frozen? ⟨wa.heap.size, 3, none⟩ = false := (H.blk 3 rfl).frozen 3
  have ac4 : (wb).cell? ⟨wa.heap.size, 4, none⟩ = some (.int .i64 (bought : Int)) := (H.blk 3 rfl).cell 4
  have acf4 : (wb).frozen? ⟨wa.heap.size, 4, none⟩ = false := (H.blk 3 rfl).frozen 4
  have ac5 : (wb).cell? ⟨wa.heap.size, 5, none⟩ = some (.int .i64 free) := (H.blk 3 rfl).cell 5
  have acf5 : (wb).frozen? ⟨wa.heap.size, 5, none⟩ = false := (H.blk 3 rfl).frozen 5
  have ac6 : (wb).cell? ⟨wa.heap.size, 6, none⟩ = some (.slice A1 l.length c1) := (H.blk 3 rfl).cell 6
  have acf6 : (wb).frozen? ⟨wa.heap.size, 6, none⟩ = false := (H.blk 3 rfl).frozen 6
  have aclt : wa.heap.size < (wb).heap.size := H.lt 3 rfl
  have ne_gi_dj : w.heap.size ≠ w.heap.size + 1 := H.ne 0 1 rfl rfl (by decide)
  have ne_gi_ac : w.heap.size ≠ wa.heap.size := H.ne 0 3 rfl rfl (by decide)
  have ne_dj_gi : w.heap.size + 1 ≠ w.heap.size := H.ne 1 0 rfl rfl (by decide)
  have ne_dj_ac : w.heap.size + 1 ≠ wa.heap.size := H.ne 1 3 rfl rfl (by decide)
  have ne_ac_gi : wa.heap.size ≠ w.heap.size := H.ne 3 0 rfl rfl (by decide)
  have ne_ac_dj : wa.heap.size ≠ w.heap.size + 1 := H.ne 3 1 rfl rfl (by decide)
  clear hdt hbb hu hu1 hAg
  obtain ⟨p, hp, hp1⟩ := pk_lit a2 100000000 (by omega)
  obtain ⟨t, ht1⟩ : ∃ t : Nat, (1 : Int) + (p : Int) = (t : Int) := ⟨1 + p, by omega⟩
  have e3 : IntKind.i64.wrap (1 + (p : Int)) = (t : Int) := by rw [ht1]; exact IntWalk.i64_in _ (by omega)
  obtain ⟨b1', b2'⟩ : 1 ≤ t ∧ t ≤ 100000000 := by omega
  have hok' := hok
  obtain ⟨a1', a2', a3', a4', a5', a6', a7', a8'⟩ := hok'
  clear ht1 hp1
  obtain ⟨r1, hr1⟩ : ∃ r : Nat, (2399 : Int) - (month : Int) = (r : Int) := ⟨2399 - month, by omega⟩
  obtain ⟨K, hK⟩ : ∃ K : Int, (r1 : Int) + 1 = K := ⟨_, rfl⟩
  obtain ⟨f, hf, hf1⟩ := pk_lit a3 K (by omega)
  obtain ⟨m2, hm2⟩ : ∃ m2 : Nat, (month : Int) + (f : Int) = (m2 : Int) := ⟨month + f, by omega⟩
  have K1 : (1 : Int) ≤ K := by omega
  have K2 : K ≤ 9223372036854775807 := by omega
  have K3 : (r1 : Int) ≤ 2399 := by omega
  have K4 : IntKind.i64.wrap ((2399 : Int) - (month : Int)) = (r1 : Int) := by rw [hr1]; exact IntWalk.i64_in _ (by omega)
  have K5 : IntKind.i64.wrap ((r1 : Int) + 1) = K := by rw [hK]; exact IntWalk.i64_in _ (by omega)
  have K6 : IntKind.i64.wrap ((month : Int) + (f : Int)) = (m2 : Int) := by rw [hm2]; exact IntWalk.i64_in _ (by omega)
  have L1 : month ≤ m2 := by omega
  have L2 : m2 ≤ 2399 := by omega
  obtain ⟨b2, l2, R1⟩ := rolled_ex month bought l m2 L1
  have L3 : b2 ≤ 10000000 := by rcases R1 with ⟨_, rfl, _⟩ | ⟨_, rfl, _⟩ <;> omega
  have L4 := R1.ok hd
  have HM2 : Hid (month + f = m2) := by show _ = _; omega
  clear hr1 hK hm2 hf1
  go_wp2_with (go_at_call 19; with_reducible refine (picked_is _ hp w2 (by omega) (by omega)).mono ?_; rintro e w' ⟨rfl, rfl⟩)
  obtain ⟨Wc, hWc⟩ : ∃ Wc, (wb).alloc (.cells #[.slice At tl.length ct, .int .i64 (fx : Int), .int .i64 (fb : Int), .int .i64 (db : Int), .int .i64 (al : Int)] 63) = Wc := ⟨_, rfl⟩
  replace H : Mem (w) [] _ [.blk (w.heap.size) 53 #[.int .i64 x0, .int .i64 x1, .int .i64 x2, .int .i64 x3, .int .i64 x4, .int .i64 x5, .slice A n m], .blk (w.heap.size + 1) 56 #[.slice D n' m', .int .i64 y1, .int .i64 y2, .int .i64 y3, .int .i64 y4], .row (W0.heap.size) (25) (2) (.slice A1 l.length c1) (l.length) (drs l), .blk (wa.heap.size) 59 #[.int .i64 (me : Int), .int .i64 (rev : Int), .int .i64 (next : Int), .int .i64 (month : Int), .int .i64 (bought : Int), .int .i64 free, .slice A1 l.length c1], .row (Wb.heap.size) (109) (2) (.slice At tl.length ct) (tl.length) (drs tl), .blk (wb.heap.size) 63 #[.slice At tl.length ct, .int .i64 (fx : Int), .int .i64 (fb : Int), .int .i64 (db : Int), .int .i64 (al : Int)]] := Mem.alloc H (wb.heap.size) (by first | (simp; done) | (simp; omega)) #[.slice At tl.length ct, .int .i64 (fx : Int), .int .i64 (fb : Int), .int .i64 (db : Int), .int .i64 (al : Int)] 63
  rw [hWc] at H ⊢
  clear hWc
  clear gi0 gif0 gi1 gif1 gi2 gif2 gi3 gif3 gi4 gif4 gi5 gif5 gi6 gif6 gilt dj0 djf0 dj1 djf1 dj2 djf2 dj3 djf3 dj4 djf4 djlt ac0 acf0 ac1 acf1 ac2 acf2 ac3 acf3 ac4 acf4 ac5 acf5 ac6 acf6 aclt ne_gi_dj ne_gi_ac ne_dj_gi ne_dj_ac ne_ac_gi ne_ac_dj
  have ac0 : (Wc).cell? ⟨wa.heap.size, 0, none⟩ = some (.int .i64 (me : Int)) := (H.blk 3 rfl).cell 0
  have acf0 : (Wc).frozen? ⟨wa.heap.size, 0, none⟩ = false := (H.blk 3 rfl).frozen 0
  have ac1 : (Wc).cell? ⟨wa.heap.size, 1, none⟩ = some (.int .i64 (rev : Int)) := (H.blk 3 rfl).cell 1
  have acf1 : (Wc).frozen? ⟨wa.heap.size, 1, none⟩ = false := (H.blk 3 rfl).frozen 1
  have ac2 : (Wc).cell? ⟨wa.heap.size, 2, none⟩ = some (.int .i64 (next : Int)) := (H.blk 3 rfl).cell 2
  have acf2 : (Wc).frozen? ⟨wa.heap.size, 2, none⟩ = false := (H.blk 3 rfl).frozen 2
  have ac3 : (Wc).cell? ⟨wa.heap.size, 3, none⟩ = some (.int .i64 (month : Int)) := (H.blk 3 rfl).cell 3
  have acf3 : (Wc).frozen? ⟨wa.heap.size, 3, none⟩ = false := (H.blk 3 rfl).frozen 3
  have ac4 : (Wc).cell? ⟨wa.heap.size, 4, none⟩ = some (.int .i64 (bought : Int)) := (H.blk 3 rfl).cell 4
  have acf4 : (Wc).frozen? ⟨wa.heap.size, 4, none⟩ = false := (H.blk 3 rfl).frozen 4
  have ac5 : (Wc).cell? ⟨wa.heap.size, 5, none⟩ = some (.int .i64 free) := (H.blk 3 rfl).cell 5
  have acf5 : (Wc).frozen? ⟨wa.heap.size, 5, none⟩ = false := (H.blk 3 rfl).frozen 5
  have ac6 : (Wc).cell? ⟨wa.heap.size, 6, none⟩ = some (.slice A1 l.length c1) := (H.blk 3 rfl).cell 6
  have acf6 : (Wc).frozen? ⟨wa.heap.size, 6, none⟩ = false := (H.blk 3 rfl).frozen 6
  have aclt : wa.heap.size < (Wc).heap.size := H.lt 3 rfl
  have te0 : (Wc).cell? ⟨wb.heap.size, 0, none⟩ = some (.slice At tl.length ct) := (H.blk 5 rfl).cell 0
  have tef0 : (Wc).frozen? ⟨wb.heap.size, 0, none⟩ = false := (H.blk 5 rfl).frozen 0
  have te1 : (Wc).cell? ⟨wb.heap.size, 1, none⟩ = some (.int .i64 (fx : Int)) := (H.blk 5 rfl).cell 1
  have tef1 : (Wc).frozen? ⟨wb.heap.size, 1, none⟩ = false := (H.blk 5 rfl).frozen 1
  have te2 : (Wc).cell? ⟨wb.heap.size, 2, none⟩ = some (.int .i64 (fb : Int)) := (H.blk 5 rfl).cell 2
  have tef2 : (Wc).frozen? ⟨wb.heap.size, 2, none⟩ = false := (H.blk 5 rfl).frozen 2
  have te3 : (Wc).cell? ⟨wb.heap.size, 3, none⟩ = some (.int .i64 (db : Int)) := (H.blk 5 rfl).cell 3
  have tef3 : (Wc).frozen? ⟨wb.heap.size, 3, none⟩ = false := (H.blk 5 rfl).frozen 3
  have te4 : (Wc).cell? ⟨wb.heap.size, 4, none⟩ = some (.int .i64 (al : Int)) := (H.blk 5 rfl).cell 4
  have tef4 : (Wc).frozen? ⟨wb.heap.size, 4, none⟩ = false := (H.blk 5 rfl).frozen 4
  have telt : wb.heap.size < (Wc).heap.size := H.lt 5 rfl
  have ne_ac_te : wa.heap.size ≠ wb.heap.size := H.ne 3 5 rfl rfl (by decide)
  have ne_te_ac : wb.heap.size ≠ wa.heap.size := H.ne 5 3 rfl rfl (by decide)
  go_quiet ((go_at_call 19; exact Calls.quiet_of_same ((picked_is _ hf w3 K1 K2).mono fun _ _ h => ⟨h.1, h.2.symm⟩)))
  obtain ⟨Wd, hWd⟩ : ∃ Wd, (Wc).drewN nq = Wd := ⟨_, rfl⟩
  replace H := H.drewN nq
  rw [hWd] at H ⊢
  clear hWd
  clear ac0 acf0 ac1 acf1 ac2 acf2 ac3 acf3 ac4 acf4 ac5 acf5 ac6 acf6 aclt te0 tef0 te1 tef1 te2 tef2 te3 tef3 te4 tef4 telt ne_ac_te ne_te_ac
  have ac0 : (Wd).cell? ⟨wa.heap.size, 0, none⟩ = some (.int .i64 (me : Int)) := (H.blk 3 rfl).cell 0
  have acf0 : (Wd).frozen? ⟨wa.heap.size, 0, none⟩ = false := (H.blk 3 rfl).frozen 0
  have ac1 : (Wd).cell? ⟨wa.heap.size, 1, none⟩ = some (.int .i64 (rev : Int)) := (H.blk 3 rfl).cell 1
  have acf1 : (Wd).frozen? ⟨wa.heap.size, 1, none⟩ = false := (H.blk 3 rfl).frozen 1
  have ac2 : (Wd).cell? ⟨wa.heap.size, 2, none⟩ = some (.int .i64 (next : Int)) := (H.blk 3 rfl).cell 2
  have acf2 : (Wd).frozen? ⟨wa.heap.size, 2, none⟩ = false := (H.blk 3 rfl).frozen 2
  have ac3 : (Wd).cell? ⟨wa.heap.size, 3, none⟩ = some (.int .i64 (month : Int)) := (H.blk 3 rfl).cell 3
  have acf3 : (Wd).frozen? ⟨wa.heap.size, 3, none⟩ = false := (H.blk 3 rfl).frozen 3
  have ac4 : (Wd).cell? ⟨wa.heap.size, 4, none⟩ = some (.int .i64 (bought : Int)) := (H.blk 3 rfl).cell 4
  have acf4 : (Wd).frozen? ⟨wa.heap.size, 4, none⟩ = false := (H.blk 3 rfl).frozen 4
  have ac5 : (Wd).cell? ⟨wa.heap.size, 5, none⟩ = some (.int .i64 free) := (H.blk 3 rfl).cell 5
  have acf5 : (Wd).frozen? ⟨wa.heap.size, 5, none⟩ = false := (H.blk 3 rfl).frozen 5
  have ac6 : (Wd).cell? ⟨wa.heap.size, 6, none⟩ = some (.slice A1 l.length c1) := (H.blk 3 rfl).cell 6
  have acf6 : (Wd).frozen? ⟨wa.heap.size, 6, none⟩ = false := (H.blk 3 rfl).frozen 6
  have aclt : wa.heap.size < (Wd).heap.size := H.lt 3 rfl
  have te0 : (Wd).cell? ⟨wb.heap.size, 0, none⟩ = some (.slice At tl.length ct) := (H.blk 5 rfl).cell 0
  have tef0 : (Wd).frozen? ⟨wb.heap.size, 0, none⟩ = false := (H.blk 5 rfl).frozen 0
  have te1 : (Wd).cell? ⟨wb.heap.size, 1, none⟩ = some (.int .i64 (fx : Int)) := (H.blk 5 rfl).cell 1
  have tef1 : (Wd).frozen? ⟨wb.heap.size, 1, none⟩ = false := (H.blk 5 rfl).frozen 1
  have te2 : (Wd).cell? ⟨wb.heap.size, 2, none⟩ = some (.int .i64 (fb : Int)) := (H.blk 5 rfl).cell 2
  have tef2 : (Wd).frozen? ⟨wb.heap.size, 2, none⟩ = false := (H.blk 5 rfl).frozen 2
  have te3 : (Wd).cell? ⟨wb.heap.size, 3, none⟩ = some (.int .i64 (db : Int)) := (H.blk 5 rfl).cell 3
  have tef3 : (Wd).frozen? ⟨wb.heap.size, 3, none⟩ = false := (H.blk 5 rfl).frozen 3
  have te4 : (Wd).cell? ⟨wb.heap.size, 4, none⟩ = some (.int .i64 (al : Int)) := (H.blk 5 rfl).cell 4
  have tef4 : (Wd).frozen? ⟨wb.heap.size, 4, none⟩ = false := (H.blk 5 rfl).frozen 4
  have telt : wb.heap.size < (Wd).heap.size := H.lt 5 rfl
  have ne_ac_te : wa.heap.size ≠ wb.heap.size := H.ne 3 5 rfl rfl (by decide)
  have ne_te_ac : wb.heap.size ≠ wa.heap.size := H.ne 5 3 rfl rfl (by decide)
  clear K3 K4 K5 K6 K1 K2 e3
  have hdl := isds_own (l := l) rfl (H.own_ 2 rfl)
  have hdt := isds_own (l := tl) rfl (H.own_ 4 rfl)
  obtain ⟨S, paid, f0, F, out, hS⟩ := sale_ex (l := l2) hT hTm L3 b1' b2'
  obtain ⟨next1, hn1⟩ : ∃ k, k = next + 1 := ⟨_, rfl⟩
  have hRo := fun W h => rollX_own me rev next month bought free A1 l.length c1 l m2 b2 l2 W h hd hok R1 (by omega)
  obtain ⟨hb2', hlen⟩ : b2 ≤ 10000000 ∧ l2.length ≤ l.length := ⟨L3, Nat.le_of_eq R1.len⟩
  have hlenI : (l2.length : Int) ≤ (l.length : Int) := by omega

  rcases hS with ⟨left, U, P, hS, hU⟩ | ⟨li, hS⟩
  · obtain ⟨bought2, hb2⟩ : ∃ k, k = b2 + U := ⟨_, rfl⟩
    obtain ⟨m1, mm2, m3, m4, m5⟩ := most_law hT L3 hS.h8
    obtain ⟨ch, hch⟩ : ∃ k, P + k = left := ⟨left - P, by omega⟩
    have hpd := recov_fst hS.h4
    obtain ⟨s1, s2, s3, s4, s5, s6, s7, s8⟩ := hS
    have hS : Sale l2 tl b2 fx fb db t S paid f0 F left U P out := ⟨s1, s2, s3, s4, s5, s6, s7, s8⟩
    obtain ⟨q1, q2⟩ := part_bd s3
    obtain ⟨q3, q4⟩ := prod_bd b2' hTm.h3
    have hS9 : S ≤ 100000000 := by omega
    have hRe := fun v W h => recover_own_is v l2 t db S paid out W h L4 (by omega) hTm.h3 (Lib.hid s3) hS9 (Lib.hid s4)
    have hPt := fun W => part_is (a := (t : Int)) (b := (fb : Int)) (s := (f0 : Int)) W (Lib.hid s5) (by omega) (by omega) (by omega) (by have := hTm.h2; omega)
    have hF1 : (fx : Int) + (f0 : Int) = (F : Int) := by omega
    have hF2 : (t : Int) - (paid : Int) - (F : Int) = (left : Int) := by omega
    have hF3 : (left : Int) ≤ 100000000 := by omega
    have hF4 : (F : Int) ≤ 100000000 := by omega
    have hF5 : (paid : Int) ≤ 100000000 := by omega
    have hP0 : 0 < (P : Int) := by
      have h1 := cost_ge (pcs tl b2) U (fun p hp => (pcs_bd tl b2 hT.bd p hp).2.2.1) (by
        have h0 := pcs_lefts tl b2 10000000 (fun h => by have := hT.last (by have := hT.pos; omega); rw [List.getLast_eq_getElem]; exact this) (fun p hp => (hT.bd p hp).2.1) (by intro h; have := hT.pos; rw [h] at this; simp at this) L3
        omega)
      omega
    have hPc : (P : Int) + (ch : Int) = (left : Int) := by omega
    have hPc9 : (ch : Int) ≤ 100000000 := by omega
    have HLO : Hid ((out.length : Int) ≤ (l.length : Int)) := by
      have h := (recov_inv S l2 (fun p hp => L4.2 p hp)).2.2.1
      rw [s4] at h
      show _ ≤ _
      have h : out.length ≤ l2.length := h
      omega
    have hfx := hTm.h1
    have hdb := hTm.h3
    have hfb := hTm.h2
    go_wp2_with fail
    refine (sellX_yes me rev next month bought free A1 l.length c1 l At tl.length ct fx fb db al tl m2 b2 l2 t S paid f0 F left U P out next1 bought2 ch _ hdl hd hok hdt hT hTm R1 (by omega) hS hU (by omega) (Lib.hid hn1) (Lib.hid hb2) (Lib.hid hch)).mono ?_
    rintro e we ⟨A2, c2, rfl, _, hbe⟩
    replace H : Mem (w) [] (we) [.blk (w.heap.size) 53 #[.int .i64 x0, .int .i64 x1, .int .i64 x2, .int .i64 x3, .int .i64 x4, .int .i64 x5, .slice A n m], .blk (w.heap.size + 1) 56 #[.slice D n' m', .int .i64 y1, .int .i64 y2, .int .i64 y3, .int .i64 y4], .row (W0.heap.size) (25) (2) (.slice A1 l.length c1) (l.length) (drs l), .blk (wa.heap.size) 59 #[.int .i64 (me : Int), .int .i64 (rev : Int), .int .i64 (next : Int), .int .i64 (month : Int), .int .i64 (bought : Int), .int .i64 free, .slice A1 l.length c1], .row (Wb.heap.size) (109) (2) (.slice At tl.length ct) (tl.length) (drs tl), .blk (wb.heap.size) 63 #[.slice At tl.length ct, .int .i64 (fx : Int), .int .i64 (fb : Int), .int .i64 (db : Int), .int .i64 (al : Int)]] := Mem.call H hbe
    clear ac0 acf0 ac1 acf1 ac2 acf2 ac3 acf3 ac4 acf4 ac5 acf5 ac6 acf6 aclt te0 tef0 te1 tef1 te2 tef2 te3 tef3 te4 tef4 telt ne_ac_te ne_te_ac
    have ac0 : (we).cell? ⟨wa.heap.size, 0, none⟩ = some (.int .i64 (me : Int)) := (H.blk 3 rfl).cell 0
    have acf0 : (we).frozen? ⟨wa.heap.size, 0, none⟩ = false := (H.blk 3 rfl).frozen 0
    have ac1 : (we).cell? ⟨wa.heap.size, 1, none⟩ = some (.int .i64 (rev : Int)) := (H.blk 3 rfl).cell 1
    have acf1 : (we).frozen? ⟨wa.heap.size, 1, none⟩ = false := (H.blk 3 rfl).frozen 1
    have ac2 : (we).cell? ⟨wa.heap.size, 2, none⟩ = some (.int .i64 (next : Int)) := (H.blk 3 rfl).cell 2
    have acf2 : (we).frozen? ⟨wa.heap.size, 2, none⟩ = false := (H.blk 3 rfl).frozen 2
    have ac3 : (we).cell? ⟨wa.heap.size, 3, none⟩ = some (.int .i64 (month : Int)) := (H.blk 3 rfl).cell 3
    have acf3 : (we).frozen? ⟨wa.heap.size, 3, none⟩ = false := (H.blk 3 rfl).frozen 3
    have ac4 : (we).cell? ⟨wa.heap.size, 4, none⟩ = some (.int .i64 (bought : Int)) := (H.blk 3 rfl).cell 4
    have acf4 : (we).frozen? ⟨wa.heap.size, 4, none⟩ = false := (H.blk 3 rfl).frozen 4
    have ac5 : (we).cell? ⟨wa.heap.size, 5, none⟩ = some (.int .i64 free) := (H.blk 3 rfl).cell 5
    have acf5 : (we).frozen? ⟨wa.heap.size, 5, none⟩ = false := (H.blk 3 rfl).frozen 5
    have ac6 : (we).cell? ⟨wa.heap.size, 6, none⟩ = some (.slice A1 l.length c1) := (H.blk 3 rfl).cell 6
    have acf6 : (we).frozen? ⟨wa.heap.size, 6, none⟩ = false := (H.blk 3 rfl).frozen 6
    have aclt : wa.heap.size < (we).heap.size := H.lt 3 rfl
    have te0 : (we).cell? ⟨wb.heap.size, 0, none⟩ = some (.slice At tl.length ct) := (H.blk 5 rfl).cell 0
    have tef0 : (we).frozen? ⟨wb.heap.size, 0, none⟩ = false := (H.blk 5 rfl).frozen 0
    have te1 : (we).cell? ⟨wb.heap.size, 1, none⟩ = some (.int .i64 (fx : Int)) := (H.blk 5 rfl).cell 1
    have tef1 : (we).frozen? ⟨wb.heap.size, 1, none⟩ = false := (H.blk 5 rfl).frozen 1
    have te2 : (we).cell? ⟨wb.heap.size, 2, none⟩ = some (.int .i64 (fb : Int)) := (H.blk 5 rfl).cell 2
    have tef2 : (we).frozen? ⟨wb.heap.size, 2, none⟩ = false := (H.blk 5 rfl).frozen 2
    have te3 : (we).cell? ⟨wb.heap.size, 3, none⟩ = some (.int .i64 (db : Int)) := (H.blk 5 rfl).cell 3
    have tef3 : (we).frozen? ⟨wb.heap.size, 3, none⟩ = false := (H.blk 5 rfl).frozen 3
    have te4 : (we).cell? ⟨wb.heap.size, 4, none⟩ = some (.int .i64 (al : Int)) := (H.blk 5 rfl).cell 4
    have tef4 : (we).frozen? ⟨wb.heap.size, 4, none⟩ = false := (H.blk 5 rfl).frozen 4
    have telt : wb.heap.size < (we).heap.size := H.lt 5 rfl
    have ne_ac_te : wa.heap.size ≠ wb.heap.size := H.ne 3 5 rfl rfl (by decide)
    have ne_te_ac : wb.heap.size ≠ wa.heap.size := H.ne 5 3 rfl rfl (by decide)
    clear hS s1 s2 s3 s4 s5 s6 s7 s8 hpd q1 q2 q3 q4 hdl hdt hT hb2 hn1 hch m1 mm2 m3 m4 m5 hbe L3 L4 HM2
    go_wp2_with fail
    obtain ⟨Wf, hWf⟩ : ∃ Wf, ((we).alloc (.cells #[.int .i64 (me : Int), .int .i64 (rev : Int), .int .i64 (next1 : Int), .int .i64 (m2 : Int), .int .i64 (bought2 : Int), .int .i64 free, .slice A2 out.length c2] 59)).alloc (.cells #[.int .i64 (next : Int), .int .i64 (t : Int), .int .i64 (paid : Int), .int .i64 (F : Int), .int .i64 (P : Int), .int .i64 (ch : Int), .int .i64 (U : Int)] 23) = Wf := ⟨_, rfl⟩
    replace H : Mem (w) [] _ [.blk (w.heap.size) 53 #[.int .i64 x0, .int .i64 x1, .int .i64 x2, .int .i64 x3, .int .i64 x4, .int .i64 x5, .slice A n m], .blk (w.heap.size + 1) 56 #[.slice D n' m', .int .i64 y1, .int .i64 y2, .int .i64 y3, .int .i64 y4], .row (W0.heap.size) (25) (2) (.slice A1 l.length c1) (l.length) (drs l), .blk (wa.heap.size) 59 #[.int .i64 (me : Int), .int .i64 (rev : Int), .int .i64 (next : Int), .int .i64 (month : Int), .int .i64 (bought : Int), .int .i64 free, .slice A1 l.length c1], .row (Wb.heap.size) (109) (2) (.slice At tl.length ct) (tl.length) (drs tl), .blk (wb.heap.size) 63 #[.slice At tl.length ct, .int .i64 (fx : Int), .int .i64 (fb : Int), .int .i64 (db : Int), .int .i64 (al : Int)], .blk (we.heap.size) 59 #[.int .i64 (me : Int), .int .i64 (rev : Int), .int .i64 (next1 : Int), .int .i64 (m2 : Int), .int .i64 (bought2 : Int), .int .i64 free, .slice A2 out.length c2]] := Mem.alloc H (we.heap.size) (by first | (simp; done) | (simp; omega)) #[.int .i64 (me : Int), .int .i64 (rev : Int), .int .i64 (next1 : Int), .int .i64 (m2 : Int), .int .i64 (bought2 : Int), .int .i64 free, .slice A2 out.length c2] 59
    replace H : Mem (w) [] _ [.blk (w.heap.size) 53 #[.int .i64 x0, .int .i64 x1, .int .i64 x2, .int .i64 x3, .int .i64 x4, .int .i64 x5, .slice A n m], .blk (w.heap.size + 1) 56 #[.slice D n' m', .int .i64 y1, .int .i64 y2, .int .i64 y3, .int .i64 y4], .row (W0.heap.size) (25) (2) (.slice A1 l.length c1) (l.length) (drs l), .blk (wa.heap.size) 59 #[.int .i64 (me : Int), .int .i64 (rev : Int), .int .i64 (next : Int), .int .i64 (month : Int), .int .i64 (bought : Int), .int .i64 free, .slice A1 l.length c1], .row (Wb.heap.size) (109) (2) (.slice At tl.length ct) (tl.length) (drs tl), .blk (wb.heap.size) 63 #[.slice At tl.length ct, .int .i64 (fx : Int), .int .i64 (fb : Int), .int .i64 (db : Int), .int .i64 (al : Int)], .blk (we.heap.size) 59 #[.int .i64 (me : Int), .int .i64 (rev : Int), .int .i64 (next1 : Int), .int .i64 (m2 : Int), .int .i64 (bought2 : Int), .int .i64 free, .slice A2 out.length c2], .blk (we.heap.size + 1) 23 #[.int .i64 (next : Int), .int .i64 (t : Int), .int .i64 (paid : Int), .int .i64 (F : Int), .int .i64 (P : Int), .int .i64 (ch : Int), .int .i64 (U : Int)]] := Mem.alloc H (we.heap.size + 1) (by first | (simp; done) | (simp; omega)) #[.int .i64 (next : Int), .int .i64 (t : Int), .int .i64 (paid : Int), .int .i64 (F : Int), .int .i64 (P : Int), .int .i64 (ch : Int), .int .i64 (U : Int)] 23
    rw [hWf] at H ⊢
    clear hWf
    refine (hRo _ (isds_own rfl (H.own_ 2 rfl))).mono ?_
    rintro e wg ⟨A3, c3, rfl, hown3, hbg⟩
    replace H : Mem (w) [] (wg) [.blk (w.heap.size) 53 #[.int .i64 x0, .int .i64 x1, .int .i64 x2, .int .i64 x3, .int .i64 x4, .int .i64 x5, .slice A n m], .blk (w.heap.size + 1) 56 #[.slice D n' m', .int .i64 y1, .int .i64 y2, .int .i64 y3, .int .i64 y4], .row (W0.heap.size) (25) (2) (.slice A1 l.length c1) (l.length) (drs l), .blk (wa.heap.size) 59 #[.int .i64 (me : Int), .int .i64 (rev : Int), .int .i64 (next : Int), .int .i64 (month : Int), .int .i64 (bought : Int), .int .i64 free, .slice A1 l.length c1], .row (Wb.heap.size) (109) (2) (.slice At tl.length ct) (tl.length) (drs tl), .blk (wb.heap.size) 63 #[.slice At tl.length ct, .int .i64 (fx : Int), .int .i64 (fb : Int), .int .i64 (db : Int), .int .i64 (al : Int)], .blk (we.heap.size) 59 #[.int .i64 (me : Int), .int .i64 (rev : Int), .int .i64 (next1 : Int), .int .i64 (m2 : Int), .int .i64 (bought2 : Int), .int .i64 free, .slice A2 out.length c2], .blk (we.heap.size + 1) 23 #[.int .i64 (next : Int), .int .i64 (t : Int), .int .i64 (paid : Int), .int .i64 (F : Int), .int .i64 (P : Int), .int .i64 (ch : Int), .int .i64 (U : Int)], .row (Wf.heap.size) (25) (2) (.slice A3 l2.length c3) (l2.length) (drs l2)] := Mem.row H hbg hown3 (Nat.le_refl _)
    clear ac0 acf0 ac1 acf1 ac2 acf2 ac3 acf3 ac4 acf4 ac5 acf5 ac6 acf6 aclt te0 tef0 te1 tef1 te2 tef2 te3 tef3 te4 tef4 telt ne_ac_te ne_te_ac
    have ac0 : (wg).cell? ⟨wa.heap.size, 0, none⟩ = some (.int .i64 (me : Int)) := (H.blk 3 rfl).cell 0
    have acf0 : (wg).frozen? ⟨wa.heap.size, 0, none⟩ = false := (H.blk 3 rfl).frozen 0
    have ac1 : (wg).cell? ⟨wa.heap.size, 1, none⟩ = some (.int .i64 (rev : Int)) := (H.blk 3 rfl).cell 1
    have acf1 : (wg).frozen? ⟨wa.heap.size, 1, none⟩ = false := (H.blk 3 rfl).frozen 1
    have ac2 : (wg).cell? ⟨wa.heap.size, 2, none⟩ = some (.int .i64 (next : Int)) := (H.blk 3 rfl).cell 2
    have acf2 : (wg).frozen? ⟨wa.heap.size, 2, none⟩ = false := (H.blk 3 rfl).frozen 2
    have ac3 : (wg).cell? ⟨wa.heap.size, 3, none⟩ = some (.int .i64 (month : Int)) := (H.blk 3 rfl).cell 3
    have acf3 : (wg).frozen? ⟨wa.heap.size, 3, none⟩ = false := (H.blk 3 rfl).frozen 3
    have ac4 : (wg).cell? ⟨wa.heap.size, 4, none⟩ = some (.int .i64 (bought : Int)) := (H.blk 3 rfl).cell 4
    have acf4 : (wg).frozen? ⟨wa.heap.size, 4, none⟩ = false := (H.blk 3 rfl).frozen 4
    have ac5 : (wg).cell? ⟨wa.heap.size, 5, none⟩ = some (.int .i64 free) := (H.blk 3 rfl).cell 5
    have acf5 : (wg).frozen? ⟨wa.heap.size, 5, none⟩ = false := (H.blk 3 rfl).frozen 5
    have ac6 : (wg).cell? ⟨wa.heap.size, 6, none⟩ = some (.slice A1 l.length c1) := (H.blk 3 rfl).cell 6
    have acf6 : (wg).frozen? ⟨wa.heap.size, 6, none⟩ = false := (H.blk 3 rfl).frozen 6
    have aclt : wa.heap.size < (wg).heap.size := H.lt 3 rfl
    have te0 : (wg).cell? ⟨wb.heap.size, 0, none⟩ = some (.slice At tl.length ct) := (H.blk 5 rfl).cell 0
    have tef0 : (wg).frozen? ⟨wb.heap.size, 0, none⟩ = false := (H.blk 5 rfl).frozen 0
    have te1 : (wg).cell? ⟨wb.heap.size, 1, none⟩ = some (.int .i64 (fx : Int)) := (H.blk 5 rfl).cell 1
    have tef1 : (wg).frozen? ⟨wb.heap.size, 1, none⟩ = false := (H.blk 5 rfl).frozen 1
    have te2 : (wg).cell? ⟨wb.heap.size, 2, none⟩ = some (.int .i64 (fb : Int)) := (H.blk 5 rfl).cell 2
    have tef2 : (wg).frozen? ⟨wb.heap.size, 2, none⟩ = false := (H.blk 5 rfl).frozen 2
    have te3 : (wg).cell? ⟨wb.heap.size, 3, none⟩ = some (.int .i64 (db : Int)) := (H.blk 5 rfl).cell 3
    have tef3 : (wg).frozen? ⟨wb.heap.size, 3, none⟩ = false := (H.blk 5 rfl).frozen 3
    have te4 : (wg).cell? ⟨wb.heap.size, 4, none⟩ = some (.int .i64 (al : Int)) := (H.blk 5 rfl).cell 4
    have tef4 : (wg).frozen? ⟨wb.heap.size, 4, none⟩ = false := (H.blk 5 rfl).frozen 4
    have telt : wb.heap.size < (wg).heap.size := H.lt 5 rfl
    have xb0 : (wg).cell? ⟨we.heap.size + 1, 0, none⟩ = some (.int .i64 (next : Int)) := (H.blk 7 rfl).cell 0
    have xbf0 : (wg).frozen? ⟨we.heap.size + 1, 0, none⟩ = false := (H.blk 7 rfl).frozen 0
    have xb1 : (wg).cell? ⟨we.heap.size + 1, 1, none⟩ = some (.int .i64 (t : Int)) := (H.blk 7 rfl).cell 1
    have xbf1 : (wg).frozen? ⟨we.heap.size + 1, 1, none⟩ = false := (H.blk 7 rfl).frozen 1
    have xb2 : (wg).cell? ⟨we.heap.size + 1, 2, none⟩ = some (.int .i64 (paid : Int)) := (H.blk 7 rfl).cell 2
    have xbf2 : (wg).frozen? ⟨we.heap.size + 1, 2, none⟩ = false := (H.blk 7 rfl).frozen 2
    have xb3 : (wg).cell? ⟨we.heap.size + 1, 3, none⟩ = some (.int .i64 (F : Int)) := (H.blk 7 rfl).cell 3
    have xbf3 : (wg).frozen? ⟨we.heap.size + 1, 3, none⟩ = false := (H.blk 7 rfl).frozen 3
    have xb4 : (wg).cell? ⟨we.heap.size + 1, 4, none⟩ = some (.int .i64 (P : Int)) := (H.blk 7 rfl).cell 4
    have xbf4 : (wg).frozen? ⟨we.heap.size + 1, 4, none⟩ = false := (H.blk 7 rfl).frozen 4
    have xb5 : (wg).cell? ⟨we.heap.size + 1, 5, none⟩ = some (.int .i64 (ch : Int)) := (H.blk 7 rfl).cell 5
    have xbf5 : (wg).frozen? ⟨we.heap.size + 1, 5, none⟩ = false := (H.blk 7 rfl).frozen 5
    have xb6 : (wg).cell? ⟨we.heap.size + 1, 6, none⟩ = some (.int .i64 (U : Int)) := (H.blk 7 rfl).cell 6
    have xbf6 : (wg).frozen? ⟨we.heap.size + 1, 6, none⟩ = false := (H.blk 7 rfl).frozen 6
    have xblt : we.heap.size + 1 < (wg).heap.size := H.lt 7 rfl
    have ne_ac_te : wa.heap.size ≠ wb.heap.size := H.ne 3 5 rfl rfl (by decide)
    have ne_ac_xb : wa.heap.size ≠ we.heap.size + 1 := H.ne 3 7 rfl rfl (by decide)
    have ne_te_ac : wb.heap.size ≠ wa.heap.size := H.ne 5 3 rfl rfl (by decide)
    have ne_te_xb : wb.heap.size ≠ we.heap.size + 1 := H.ne 5 7 rfl rfl (by decide)
    have ne_xb_ac : we.heap.size + 1 ≠ wa.heap.size := H.ne 7 3 rfl rfl (by decide)
    have ne_xb_te : we.heap.size + 1 ≠ wb.heap.size := H.ne 7 5 rfl rfl (by decide)
    clear hbg hown3 hRo
    go_wp2_with fail
    obtain ⟨Wg, hWg⟩ : ∃ Wg, (wg).alloc (.cells #[.int .i64 (me : Int), .int .i64 (rev : Int), .int .i64 (next : Int), .int .i64 (m2 : Int), .int .i64 (b2 : Int), .int .i64 free, .slice A3 l2.length c3] 59) = Wg := ⟨_, rfl⟩
    replace H : Mem (w) [] _ [.blk (w.heap.size) 53 #[.int .i64 x0, .int .i64 x1, .int .i64 x2, .int .i64 x3, .int .i64 x4, .int .i64 x5, .slice A n m], .blk (w.heap.size + 1) 56 #[.slice D n' m', .int .i64 y1, .int .i64 y2, .int .i64 y3, .int .i64 y4], .row (W0.heap.size) (25) (2) (.slice A1 l.length c1) (l.length) (drs l), .blk (wa.heap.size) 59 #[.int .i64 (me : Int), .int .i64 (rev : Int), .int .i64 (next : Int), .int .i64 (month : Int), .int .i64 (bought : Int), .int .i64 free, .slice A1 l.length c1], .row (Wb.heap.size) (109) (2) (.slice At tl.length ct) (tl.length) (drs tl), .blk (wb.heap.size) 63 #[.slice At tl.length ct, .int .i64 (fx : Int), .int .i64 (fb : Int), .int .i64 (db : Int), .int .i64 (al : Int)], .blk (we.heap.size) 59 #[.int .i64 (me : Int), .int .i64 (rev : Int), .int .i64 (next1 : Int), .int .i64 (m2 : Int), .int .i64 (bought2 : Int), .int .i64 free, .slice A2 out.length c2], .blk (we.heap.size + 1) 23 #[.int .i64 (next : Int), .int .i64 (t : Int), .int .i64 (paid : Int), .int .i64 (F : Int), .int .i64 (P : Int), .int .i64 (ch : Int), .int .i64 (U : Int)], .row (Wf.heap.size) (25) (2) (.slice A3 l2.length c3) (l2.length) (drs l2), .blk (wg.heap.size) 59 #[.int .i64 (me : Int), .int .i64 (rev : Int), .int .i64 (next : Int), .int .i64 (m2 : Int), .int .i64 (b2 : Int), .int .i64 free, .slice A3 l2.length c3]] := Mem.alloc H (wg.heap.size) (by first | (simp; done) | (simp; omega)) #[.int .i64 (me : Int), .int .i64 (rev : Int), .int .i64 (next : Int), .int .i64 (m2 : Int), .int .i64 (b2 : Int), .int .i64 free, .slice A3 l2.length c3] 59
    rw [hWg] at H ⊢
    clear hWg
    refine (hRe _ _ (isds_own rfl (H.own_ 8 rfl))).mono ?_
    rintro e wh ⟨A4, c4, rfl, hown4, hbh⟩
    replace H : Mem (w) [] (wh) [.blk (w.heap.size) 53 #[.int .i64 x0, .int .i64 x1, .int .i64 x2, .int .i64 x3, .int .i64 x4, .int .i64 x5, .slice A n m], .blk (w.heap.size + 1) 56 #[.slice D n' m', .int .i64 y1, .int .i64 y2, .int .i64 y3, .int .i64 y4], .row (W0.heap.size) (25) (2) (.slice A1 l.length c1) (l.length) (drs l), .blk (wa.heap.size) 59 #[.int .i64 (me : Int), .int .i64 (rev : Int), .int .i64 (next : Int), .int .i64 (month : Int), .int .i64 (bought : Int), .int .i64 free, .slice A1 l.length c1], .row (Wb.heap.size) (109) (2) (.slice At tl.length ct) (tl.length) (drs tl), .blk (wb.heap.size) 63 #[.slice At tl.length ct, .int .i64 (fx : Int), .int .i64 (fb : Int), .int .i64 (db : Int), .int .i64 (al : Int)], .blk (we.heap.size) 59 #[.int .i64 (me : Int), .int .i64 (rev : Int), .int .i64 (next1 : Int), .int .i64 (m2 : Int), .int .i64 (bought2 : Int), .int .i64 free, .slice A2 out.length c2], .blk (we.heap.size + 1) 23 #[.int .i64 (next : Int), .int .i64 (t : Int), .int .i64 (paid : Int), .int .i64 (F : Int), .int .i64 (P : Int), .int .i64 (ch : Int), .int .i64 (U : Int)], .row (Wf.heap.size) (25) (2) (.slice A3 l2.length c3) (l2.length) (drs l2), .blk (wg.heap.size) 59 #[.int .i64 (me : Int), .int .i64 (rev : Int), .int .i64 (next : Int), .int .i64 (m2 : Int), .int .i64 (b2 : Int), .int .i64 free, .slice A3 l2.length c3]] := Mem.call H hbh
    clear ac0 acf0 ac1 acf1 ac2 acf2 ac3 acf3 ac4 acf4 ac5 acf5 ac6 acf6 aclt te0 tef0 te1 tef1 te2 tef2 te3 tef3 te4 tef4 telt xb0 xbf0 xb1 xbf1 xb2 xbf2 xb3 xbf3 xb4 xbf4 xb5 xbf5 xb6 xbf6 xblt ne_ac_te ne_ac_xb ne_te_ac ne_te_xb ne_xb_ac ne_xb_te
    have ac0 : (wh).cell? ⟨wa.heap.size, 0, none⟩ = some (.int .i64 (me : Int)) := (H.blk 3 rfl).cell 0
    have acf0 : (wh).frozen? ⟨wa.heap.size, 0, none⟩ = false := (H.blk 3 rfl).frozen 0
    have ac1 : (wh).cell? ⟨wa.heap.size, 1, none⟩ = some (.int .i64 (rev : Int)) := (H.blk 3 rfl).cell 1
    have acf1 : (wh).frozen? ⟨wa.heap.size, 1, none⟩ = false := (H.blk 3 rfl).frozen 1
    have ac2 : (wh).cell? ⟨wa.heap.size, 2, none⟩ = some (.int .i64 (next : Int)) := (H.blk 3 rfl).cell 2
    have acf2 : (wh).frozen? ⟨wa.heap.size, 2, none⟩ = false := (H.blk 3 rfl).frozen 2
    have ac3 : (wh).cell? ⟨wa.heap.size, 3, none⟩ = some (.int .i64 (month : Int)) := (H.blk 3 rfl).cell 3
    have acf3 : (wh).frozen? ⟨wa.heap.size, 3, none⟩ = false := (H.blk 3 rfl).frozen 3
    have ac4 : (wh).cell? ⟨wa.heap.size, 4, none⟩ = some (.int .i64 (bought : Int)) := (H.blk 3 rfl).cell 4
    have acf4 : (wh).frozen? ⟨wa.heap.size, 4, none⟩ = false := (H.blk 3 rfl).frozen 4
    have ac5 : (wh).cell? ⟨wa.heap.size, 5, none⟩ = some (.int .i64 free) := (H.blk 3 rfl).cell 5
    have acf5 : (wh).frozen? ⟨wa.heap.size, 5, none⟩ = false := (H.blk 3 rfl).frozen 5
    have ac6 : (wh).cell? ⟨wa.heap.size, 6, none⟩ = some (.slice A1 l.length c1) := (H.blk 3 rfl).cell 6
    have acf6 : (wh).frozen? ⟨wa.heap.size, 6, none⟩ = false := (H.blk 3 rfl).frozen 6
    have aclt : wa.heap.size < (wh).heap.size := H.lt 3 rfl
    have te0 : (wh).cell? ⟨wb.heap.size, 0, none⟩ = some (.slice At tl.length ct) := (H.blk 5 rfl).cell 0
    have tef0 : (wh).frozen? ⟨wb.heap.size, 0, none⟩ = false := (H.blk 5 rfl).frozen 0
    have te1 : (wh).cell? ⟨wb.heap.size, 1, none⟩ = some (.int .i64 (fx : Int)) := (H.blk 5 rfl).cell 1
    have tef1 : (wh).frozen? ⟨wb.heap.size, 1, none⟩ = false := (H.blk 5 rfl).frozen 1
    have te2 : (wh).cell? ⟨wb.heap.size, 2, none⟩ = some (.int .i64 (fb : Int)) := (H.blk 5 rfl).cell 2
    have tef2 : (wh).frozen? ⟨wb.heap.size, 2, none⟩ = false := (H.blk 5 rfl).frozen 2
    have te3 : (wh).cell? ⟨wb.heap.size, 3, none⟩ = some (.int .i64 (db : Int)) := (H.blk 5 rfl).cell 3
    have tef3 : (wh).frozen? ⟨wb.heap.size, 3, none⟩ = false := (H.blk 5 rfl).frozen 3
    have te4 : (wh).cell? ⟨wb.heap.size, 4, none⟩ = some (.int .i64 (al : Int)) := (H.blk 5 rfl).cell 4
    have tef4 : (wh).frozen? ⟨wb.heap.size, 4, none⟩ = false := (H.blk 5 rfl).frozen 4
    have telt : wb.heap.size < (wh).heap.size := H.lt 5 rfl
    have xb0 : (wh).cell? ⟨we.heap.size + 1, 0, none⟩ = some (.int .i64 (next : Int)) := (H.blk 7 rfl).cell 0
    have xbf0 : (wh).frozen? ⟨we.heap.size + 1, 0, none⟩ = false := (H.blk 7 rfl).frozen 0
    have xb1 : (wh).cell? ⟨we.heap.size + 1, 1, none⟩ = some (.int .i64 (t : Int)) := (H.blk 7 rfl).cell 1
    have xbf1 : (wh).frozen? ⟨we.heap.size + 1, 1, none⟩ = false := (H.blk 7 rfl).frozen 1
    have xb2 : (wh).cell? ⟨we.heap.size + 1, 2, none⟩ = some (.int .i64 (paid : Int)) := (H.blk 7 rfl).cell 2
    have xbf2 : (wh).frozen? ⟨we.heap.size + 1, 2, none⟩ = false := (H.blk 7 rfl).frozen 2
    have xb3 : (wh).cell? ⟨we.heap.size + 1, 3, none⟩ = some (.int .i64 (F : Int)) := (H.blk 7 rfl).cell 3
    have xbf3 : (wh).frozen? ⟨we.heap.size + 1, 3, none⟩ = false := (H.blk 7 rfl).frozen 3
    have xb4 : (wh).cell? ⟨we.heap.size + 1, 4, none⟩ = some (.int .i64 (P : Int)) := (H.blk 7 rfl).cell 4
    have xbf4 : (wh).frozen? ⟨we.heap.size + 1, 4, none⟩ = false := (H.blk 7 rfl).frozen 4
    have xb5 : (wh).cell? ⟨we.heap.size + 1, 5, none⟩ = some (.int .i64 (ch : Int)) := (H.blk 7 rfl).cell 5
    have xbf5 : (wh).frozen? ⟨we.heap.size + 1, 5, none⟩ = false := (H.blk 7 rfl).frozen 5
    have xb6 : (wh).cell? ⟨we.heap.size + 1, 6, none⟩ = some (.int .i64 (U : Int)) := (H.blk 7 rfl).cell 6
    have xbf6 : (wh).frozen? ⟨we.heap.size + 1, 6, none⟩ = false := (H.blk 7 rfl).frozen 6
    have xblt : we.heap.size + 1 < (wh).heap.size := H.lt 7 rfl
    have xc0 : (wh).cell? ⟨wg.heap.size, 0, none⟩ = some (.int .i64 (me : Int)) := (H.blk 9 rfl).cell 0
    have xcf0 : (wh).frozen? ⟨wg.heap.size, 0, none⟩ = false := (H.blk 9 rfl).frozen 0
    have xc1 : (wh).cell? ⟨wg.heap.size, 1, none⟩ = some (.int .i64 (rev : Int)) := (H.blk 9 rfl).cell 1
    have xcf1 : (wh).frozen? ⟨wg.heap.size, 1, none⟩ = false := (H.blk 9 rfl).frozen 1
    have xc2 : (wh).cell? ⟨wg.heap.size, 2, none⟩ = some (.int .i64 (next : Int)) := (H.blk 9 rfl).cell 2
    have xcf2 : (wh).frozen? ⟨wg.heap.size, 2, none⟩ = false := (H.blk 9 rfl).frozen 2
    have xc3 : (wh).cell? ⟨wg.heap.size, 3, none⟩ = some (.int .i64 (m2 : Int)) := (H.blk 9 rfl).cell 3
    have xcf3 : (wh).frozen? ⟨wg.heap.size, 3, none⟩ = false := (H.blk 9 rfl).frozen 3
    have xc4 : (wh).cell? ⟨wg.heap.size, 4, none⟩ = some (.int .i64 (b2 : Int)) := (H.blk 9 rfl).cell 4
    have xcf4 : (wh).frozen? ⟨wg.heap.size, 4, none⟩ = false := (H.blk 9 rfl).frozen 4
    have xc5 : (wh).cell? ⟨wg.heap.size, 5, none⟩ = some (.int .i64 free) := (H.blk 9 rfl).cell 5
    have xcf5 : (wh).frozen? ⟨wg.heap.size, 5, none⟩ = false := (H.blk 9 rfl).frozen 5
    have xc6 : (wh).cell? ⟨wg.heap.size, 6, none⟩ = some (.slice A3 l2.length c3) := (H.blk 9 rfl).cell 6
    have xcf6 : (wh).frozen? ⟨wg.heap.size, 6, none⟩ = false := (H.blk 9 rfl).frozen 6
    have xclt : wg.heap.size < (wh).heap.size := H.lt 9 rfl
    have ne_ac_te : wa.heap.size ≠ wb.heap.size := H.ne 3 5 rfl rfl (by decide)
    have ne_ac_xb : wa.heap.size ≠ we.heap.size + 1 := H.ne 3 7 rfl rfl (by decide)
    have ne_ac_xc : wa.heap.size ≠ wg.heap.size := H.ne 3 9 rfl rfl (by decide)
    have ne_te_ac : wb.heap.size ≠ wa.heap.size := H.ne 5 3 rfl rfl (by decide)
    have ne_te_xb : wb.heap.size ≠ we.heap.size + 1 := H.ne 5 7 rfl rfl (by decide)
    have ne_te_xc : wb.heap.size ≠ wg.heap.size := H.ne 5 9 rfl rfl (by decide)
    have ne_xb_ac : we.heap.size + 1 ≠ wa.heap.size := H.ne 7 3 rfl rfl (by decide)
    have ne_xb_te : we.heap.size + 1 ≠ wb.heap.size := H.ne 7 5 rfl rfl (by decide)
    have ne_xb_xc : we.heap.size + 1 ≠ wg.heap.size := H.ne 7 9 rfl rfl (by decide)
    have ne_xc_ac : wg.heap.size ≠ wa.heap.size := H.ne 9 3 rfl rfl (by decide)
    have ne_xc_te : wg.heap.size ≠ wb.heap.size := H.ne 9 5 rfl rfl (by decide)
    have ne_xc_xb : wg.heap.size ≠ we.heap.size + 1 := H.ne 9 7 rfl rfl (by decide)
    have hlo : (out.length : Int) ≤ (l.length : Int) := HLO.out
    clear hown4 hbh hRe
    go_wp2_with (go_at_call 30; with_reducible refine (hPt _).mono ?_; rintro e w' ⟨rfl, rfl⟩)
    go_ret
    exact ⟨rfl, H.below⟩
  · skip
    obtain ⟨s1, s2, s3, s4, s5, s6, s7, s8⟩ := hS
    have hS : SaleN l2 tl b2 fx fb db t S paid f0 F li out := ⟨s1, s2, s3, s4, s5, s6, s7, s8⟩
    have hpd := recov_fst s4
    obtain ⟨q1, q2⟩ := part_bd s3
    obtain ⟨q3, q4⟩ := prod_bd b2' hTm.h3
    obtain ⟨q5, q6⟩ := part_bd s5
    obtain ⟨q7, q8⟩ := prod_bd b2' hTm.h2
    have hS9 : S ≤ 100000000 := by omega
    have hRe := fun v W h => recover_own_is v l2 t db S paid out W h L4 (by omega) hTm.h3 (Lib.hid s3) hS9 (Lib.hid s4)
    have hPt := fun W => part_is (a := (t : Int)) (b := (fb : Int)) (s := (f0 : Int)) W (Lib.hid s5) (by omega) (by omega) (by omega) (by have := hTm.h2; omega)
    have hF1 : (fx : Int) + (f0 : Int) = (F : Int) := by omega
    have hF2 : (t : Int) - (paid : Int) - (F : Int) = li := by omega
    have HLO : Hid ((out.length : Int) ≤ (l.length : Int)) := by
      have h := (recov_inv S l2 (fun p hp => L4.2 p hp)).2.2.1
      rw [s4] at h
      show _ ≤ _
      have h : out.length ≤ l2.length := h
      omega
    have hfx := hTm.h1
    have hF4 : (F : Int) ≤ 100100000 := by omega
    have hF5 : (paid : Int) ≤ 100000000 := by omega
    have HLO : Hid ((out.length : Int) ≤ (l.length : Int)) := by
      have h := (recov_inv S l2 (fun p hp => L4.2 p hp)).2.2.1
      rw [s4] at h
      show _ ≤ _
      have h : out.length ≤ l2.length := h
      omega
    have hdb := hTm.h3
    have hfb := hTm.h2
    have h3 : li < 0 ∨ (decide (li < 0) = false ∧ b2 = 10000000) ∨ (decide (li < 0) = false ∧ ((b2 : Int) == 10000000) = false ∧ ∃ Q1 : Nat, cost (pcs tl b2) 1 = Q1 ∧ li < (Q1 : Int) ∧ b2 + 1 ≤ 10000000) := by
      rcases s8 with h | ⟨left, h, hm⟩
      · exact .inl h
      · obtain ⟨_, _, _, _, h5⟩ := most_law hT L3 hm
        rcases h5 with h5 | h5 | h5
        · omega
        · exact .inr (.inl ⟨by simp; omega, by omega⟩)
        · rcases Nat.lt_or_ge b2 10000000 with h6 | h6
          · exact .inr (.inr ⟨by simp; omega, by simp; omega, _, rfl, by simp only [Nat.zero_add] at h5; omega, by omega⟩)
          · exact .inr (.inl ⟨by simp; omega, by omega⟩)
    go_wp2_with fail
    refine (sellX_no me rev next month bought free A1 l.length c1 l At tl.length ct fx fb db al tl m2 b2 l2 t S paid f0 F li out _ hdl hd hok hdt hT hTm R1 (by omega) hS).mono ?_
    rintro e we ⟨rfl, hbe⟩
    replace H : Mem (w) [] (we) [.blk (w.heap.size) 53 #[.int .i64 x0, .int .i64 x1, .int .i64 x2, .int .i64 x3, .int .i64 x4, .int .i64 x5, .slice A n m], .blk (w.heap.size + 1) 56 #[.slice D n' m', .int .i64 y1, .int .i64 y2, .int .i64 y3, .int .i64 y4], .row (W0.heap.size) (25) (2) (.slice A1 l.length c1) (l.length) (drs l), .blk (wa.heap.size) 59 #[.int .i64 (me : Int), .int .i64 (rev : Int), .int .i64 (next : Int), .int .i64 (month : Int), .int .i64 (bought : Int), .int .i64 free, .slice A1 l.length c1], .row (Wb.heap.size) (109) (2) (.slice At tl.length ct) (tl.length) (drs tl), .blk (wb.heap.size) 63 #[.slice At tl.length ct, .int .i64 (fx : Int), .int .i64 (fb : Int), .int .i64 (db : Int), .int .i64 (al : Int)]] := Mem.call H hbe
    clear ac0 acf0 ac1 acf1 ac2 acf2 ac3 acf3 ac4 acf4 ac5 acf5 ac6 acf6 aclt te0 tef0 te1 tef1 te2 tef2 te3 tef3 te4 tef4 telt ne_ac_te ne_te_ac
    have ac0 : (we).cell? ⟨wa.heap.size, 0, none⟩ = some (.int .i64 (me : Int)) := (H.blk 3 rfl).cell 0
    have acf0 : (we).frozen? ⟨wa.heap.size, 0, none⟩ = false := (H.blk 3 rfl).frozen 0
    have ac1 : (we).cell? ⟨wa.heap.size, 1, none⟩ = some (.int .i64 (rev : Int)) := (H.blk 3 rfl).cell 1
    have acf1 : (we).frozen? ⟨wa.heap.size, 1, none⟩ = false := (H.blk 3 rfl).frozen 1
    have ac2 : (we).cell? ⟨wa.heap.size, 2, none⟩ = some (.int .i64 (next : Int)) := (H.blk 3 rfl).cell 2
    have acf2 : (we).frozen? ⟨wa.heap.size, 2, none⟩ = false := (H.blk 3 rfl).frozen 2
    have ac3 : (we).cell? ⟨wa.heap.size, 3, none⟩ = some (.int .i64 (month : Int)) := (H.blk 3 rfl).cell 3
    have acf3 : (we).frozen? ⟨wa.heap.size, 3, none⟩ = false := (H.blk 3 rfl).frozen 3
    have ac4 : (we).cell? ⟨wa.heap.size, 4, none⟩ = some (.int .i64 (bought : Int)) := (H.blk 3 rfl).cell 4
    have acf4 : (we).frozen? ⟨wa.heap.size, 4, none⟩ = false := (H.blk 3 rfl).frozen 4
    have ac5 : (we).cell? ⟨wa.heap.size, 5, none⟩ = some (.int .i64 free) := (H.blk 3 rfl).cell 5
    have acf5 : (we).frozen? ⟨wa.heap.size, 5, none⟩ = false := (H.blk 3 rfl).frozen 5
    have ac6 : (we).cell? ⟨wa.heap.size, 6, none⟩ = some (.slice A1 l.length c1) := (H.blk 3 rfl).cell 6
    have acf6 : (we).frozen? ⟨wa.heap.size, 6, none⟩ = false := (H.blk 3 rfl).frozen 6
    have aclt : wa.heap.size < (we).heap.size := H.lt 3 rfl
    have te0 : (we).cell? ⟨wb.heap.size, 0, none⟩ = some (.slice At tl.length ct) := (H.blk 5 rfl).cell 0
    have tef0 : (we).frozen? ⟨wb.heap.size, 0, none⟩ = false := (H.blk 5 rfl).frozen 0
    have te1 : (we).cell? ⟨wb.heap.size, 1, none⟩ = some (.int .i64 (fx : Int)) := (H.blk 5 rfl).cell 1
    have tef1 : (we).frozen? ⟨wb.heap.size, 1, none⟩ = false := (H.blk 5 rfl).frozen 1
    have te2 : (we).cell? ⟨wb.heap.size, 2, none⟩ = some (.int .i64 (fb : Int)) := (H.blk 5 rfl).cell 2
    have tef2 : (we).frozen? ⟨wb.heap.size, 2, none⟩ = false := (H.blk 5 rfl).frozen 2
    have te3 : (we).cell? ⟨wb.heap.size, 3, none⟩ = some (.int .i64 (db : Int)) := (H.blk 5 rfl).cell 3
    have tef3 : (we).frozen? ⟨wb.heap.size, 3, none⟩ = false := (H.blk 5 rfl).frozen 3
    have te4 : (we).cell? ⟨wb.heap.size, 4, none⟩ = some (.int .i64 (al : Int)) := (H.blk 5 rfl).cell 4
    have tef4 : (we).frozen? ⟨wb.heap.size, 4, none⟩ = false := (H.blk 5 rfl).frozen 4
    have telt : wb.heap.size < (we).heap.size := H.lt 5 rfl
    have ne_ac_te : wa.heap.size ≠ wb.heap.size := H.ne 3 5 rfl rfl (by decide)
    have ne_te_ac : wb.heap.size ≠ wa.heap.size := H.ne 5 3 rfl rfl (by decide)
    clear hS s1 s2 s3 s4 s5 s6 s7 s8 hpd q1 q2 q3 q4 q5 q6 q7 q8 hdl hdt hn1 hbe L4 HM2
    go_wp2_with fail
    obtain ⟨Wf, hWf⟩ : ∃ Wf, ((we).alloc (.cells #[.int .i64 0, .int .i64 0, .int .i64 0, .int .i64 0, .int .i64 0, .int .i64 0, .slice none 0 0] 59)).alloc (.cells #[.int .i64 0, .int .i64 0, .int .i64 0, .int .i64 0, .int .i64 0, .int .i64 0, .int .i64 0] 23) = Wf := ⟨_, rfl⟩
    replace H : Mem (w) [] _ [.blk (w.heap.size) 53 #[.int .i64 x0, .int .i64 x1, .int .i64 x2, .int .i64 x3, .int .i64 x4, .int .i64 x5, .slice A n m], .blk (w.heap.size + 1) 56 #[.slice D n' m', .int .i64 y1, .int .i64 y2, .int .i64 y3, .int .i64 y4], .row (W0.heap.size) (25) (2) (.slice A1 l.length c1) (l.length) (drs l), .blk (wa.heap.size) 59 #[.int .i64 (me : Int), .int .i64 (rev : Int), .int .i64 (next : Int), .int .i64 (month : Int), .int .i64 (bought : Int), .int .i64 free, .slice A1 l.length c1], .row (Wb.heap.size) (109) (2) (.slice At tl.length ct) (tl.length) (drs tl), .blk (wb.heap.size) 63 #[.slice At tl.length ct, .int .i64 (fx : Int), .int .i64 (fb : Int), .int .i64 (db : Int), .int .i64 (al : Int)], .blk (we.heap.size) 59 #[.int .i64 0, .int .i64 0, .int .i64 0, .int .i64 0, .int .i64 0, .int .i64 0, .slice none 0 0]] := Mem.alloc H (we.heap.size) (by first | (simp; done) | (simp; omega)) #[.int .i64 0, .int .i64 0, .int .i64 0, .int .i64 0, .int .i64 0, .int .i64 0, .slice none 0 0] 59
    replace H : Mem (w) [] _ [.blk (w.heap.size) 53 #[.int .i64 x0, .int .i64 x1, .int .i64 x2, .int .i64 x3, .int .i64 x4, .int .i64 x5, .slice A n m], .blk (w.heap.size + 1) 56 #[.slice D n' m', .int .i64 y1, .int .i64 y2, .int .i64 y3, .int .i64 y4], .row (W0.heap.size) (25) (2) (.slice A1 l.length c1) (l.length) (drs l), .blk (wa.heap.size) 59 #[.int .i64 (me : Int), .int .i64 (rev : Int), .int .i64 (next : Int), .int .i64 (month : Int), .int .i64 (bought : Int), .int .i64 free, .slice A1 l.length c1], .row (Wb.heap.size) (109) (2) (.slice At tl.length ct) (tl.length) (drs tl), .blk (wb.heap.size) 63 #[.slice At tl.length ct, .int .i64 (fx : Int), .int .i64 (fb : Int), .int .i64 (db : Int), .int .i64 (al : Int)], .blk (we.heap.size) 59 #[.int .i64 0, .int .i64 0, .int .i64 0, .int .i64 0, .int .i64 0, .int .i64 0, .slice none 0 0], .blk (we.heap.size + 1) 23 #[.int .i64 0, .int .i64 0, .int .i64 0, .int .i64 0, .int .i64 0, .int .i64 0, .int .i64 0]] := Mem.alloc H (we.heap.size + 1) (by first | (simp; done) | (simp; omega)) #[.int .i64 0, .int .i64 0, .int .i64 0, .int .i64 0, .int .i64 0, .int .i64 0, .int .i64 0] 23
    rw [hWf] at H ⊢
    clear hWf
    refine (hRo _ (isds_own rfl (H.own_ 2 rfl))).mono ?_
    rintro e wg ⟨A3, c3, rfl, hown3, hbg⟩
    replace H : Mem (w) [] (wg) [.blk (w.heap.size) 53 #[.int .i64 x0, .int .i64 x1, .int .i64 x2, .int .i64 x3, .int .i64 x4, .int .i64 x5, .slice A n m], .blk (w.heap.size + 1) 56 #[.slice D n' m', .int .i64 y1, .int .i64 y2, .int .i64 y3, .int .i64 y4], .row (W0.heap.size) (25) (2) (.slice A1 l.length c1) (l.length) (drs l), .blk (wa.heap.size) 59 #[.int .i64 (me : Int), .int .i64 (rev : Int), .int .i64 (next : Int), .int .i64 (month : Int), .int .i64 (bought : Int), .int .i64 free, .slice A1 l.length c1], .row (Wb.heap.size) (109) (2) (.slice At tl.length ct) (tl.length) (drs tl), .blk (wb.heap.size) 63 #[.slice At tl.length ct, .int .i64 (fx : Int), .int .i64 (fb : Int), .int .i64 (db : Int), .int .i64 (al : Int)], .blk (we.heap.size) 59 #[.int .i64 0, .int .i64 0, .int .i64 0, .int .i64 0, .int .i64 0, .int .i64 0, .slice none 0 0], .blk (we.heap.size + 1) 23 #[.int .i64 0, .int .i64 0, .int .i64 0, .int .i64 0, .int .i64 0, .int .i64 0, .int .i64 0], .row (Wf.heap.size) (25) (2) (.slice A3 l2.length c3) (l2.length) (drs l2)] := Mem.row H hbg hown3 (Nat.le_refl _)
    clear ac0 acf0 ac1 acf1 ac2 acf2 ac3 acf3 ac4 acf4 ac5 acf5 ac6 acf6 aclt te0 tef0 te1 tef1 te2 tef2 te3 tef3 te4 tef4 telt ne_ac_te ne_te_ac
    have ac0 : (wg).cell? ⟨wa.heap.size, 0, none⟩ = some (.int .i64 (me : Int)) := (H.blk 3 rfl).cell 0
    have acf0 : (wg).frozen? ⟨wa.heap.size, 0, none⟩ = false := (H.blk 3 rfl).frozen 0
    have ac1 : (wg).cell? ⟨wa.heap.size, 1, none⟩ = some (.int .i64 (rev : Int)) := (H.blk 3 rfl).cell 1
    have acf1 : (wg).frozen? ⟨wa.heap.size, 1, none⟩ = false := (H.blk 3 rfl).frozen 1
    have ac2 : (wg).cell? ⟨wa.heap.size, 2, none⟩ = some (.int .i64 (next : Int)) := (H.blk 3 rfl).cell 2
    have acf2 : (wg).frozen? ⟨wa.heap.size, 2, none⟩ = false := (H.blk 3 rfl).frozen 2
    have ac3 : (wg).cell? ⟨wa.heap.size, 3, none⟩ = some (.int .i64 (month : Int)) := (H.blk 3 rfl).cell 3
    have acf3 : (wg).frozen? ⟨wa.heap.size, 3, none⟩ = false := (H.blk 3 rfl).frozen 3
    have ac4 : (wg).cell? ⟨wa.heap.size, 4, none⟩ = some (.int .i64 (bought : Int)) := (H.blk 3 rfl).cell 4
    have acf4 : (wg).frozen? ⟨wa.heap.size, 4, none⟩ = false := (H.blk 3 rfl).frozen 4
    have ac5 : (wg).cell? ⟨wa.heap.size, 5, none⟩ = some (.int .i64 free) := (H.blk 3 rfl).cell 5
    have acf5 : (wg).frozen? ⟨wa.heap.size, 5, none⟩ = false := (H.blk 3 rfl).frozen 5
    have ac6 : (wg).cell? ⟨wa.heap.size, 6, none⟩ = some (.slice A1 l.length c1) := (H.blk 3 rfl).cell 6
    have acf6 : (wg).frozen? ⟨wa.heap.size, 6, none⟩ = false := (H.blk 3 rfl).frozen 6
    have aclt : wa.heap.size < (wg).heap.size := H.lt 3 rfl
    have te0 : (wg).cell? ⟨wb.heap.size, 0, none⟩ = some (.slice At tl.length ct) := (H.blk 5 rfl).cell 0
    have tef0 : (wg).frozen? ⟨wb.heap.size, 0, none⟩ = false := (H.blk 5 rfl).frozen 0
    have te1 : (wg).cell? ⟨wb.heap.size, 1, none⟩ = some (.int .i64 (fx : Int)) := (H.blk 5 rfl).cell 1
    have tef1 : (wg).frozen? ⟨wb.heap.size, 1, none⟩ = false := (H.blk 5 rfl).frozen 1
    have te2 : (wg).cell? ⟨wb.heap.size, 2, none⟩ = some (.int .i64 (fb : Int)) := (H.blk 5 rfl).cell 2
    have tef2 : (wg).frozen? ⟨wb.heap.size, 2, none⟩ = false := (H.blk 5 rfl).frozen 2
    have te3 : (wg).cell? ⟨wb.heap.size, 3, none⟩ = some (.int .i64 (db : Int)) := (H.blk 5 rfl).cell 3
    have tef3 : (wg).frozen? ⟨wb.heap.size, 3, none⟩ = false := (H.blk 5 rfl).frozen 3
    have te4 : (wg).cell? ⟨wb.heap.size, 4, none⟩ = some (.int .i64 (al : Int)) := (H.blk 5 rfl).cell 4
    have tef4 : (wg).frozen? ⟨wb.heap.size, 4, none⟩ = false := (H.blk 5 rfl).frozen 4
    have telt : wb.heap.size < (wg).heap.size := H.lt 5 rfl
    have xb0 : (wg).cell? ⟨we.heap.size + 1, 0, none⟩ = some (.int .i64 0) := (H.blk 7 rfl).cell 0
    have xbf0 : (wg).frozen? ⟨we.heap.size + 1, 0, none⟩ = false := (H.blk 7 rfl).frozen 0
    have xb1 : (wg).cell? ⟨we.heap.size + 1, 1, none⟩ = some (.int .i64 0) := (H.blk 7 rfl).cell 1
    have xbf1 : (wg).frozen? ⟨we.heap.size + 1, 1, none⟩ = false := (H.blk 7 rfl).frozen 1
    have xb2 : (wg).cell? ⟨we.heap.size + 1, 2, none⟩ = some (.int .i64 0) := (H.blk 7 rfl).cell 2
    have xbf2 : (wg).frozen? ⟨we.heap.size + 1, 2, none⟩ = false := (H.blk 7 rfl).frozen 2
    have xb3 : (wg).cell? ⟨we.heap.size + 1, 3, none⟩ = some (.int .i64 0) := (H.blk 7 rfl).cell 3
    have xbf3 : (wg).frozen? ⟨we.heap.size + 1, 3, none⟩ = false := (H.blk 7 rfl).frozen 3
    have xb4 : (wg).cell? ⟨we.heap.size + 1, 4, none⟩ = some (.int .i64 0) := (H.blk 7 rfl).cell 4
    have xbf4 : (wg).frozen? ⟨we.heap.size + 1, 4, none⟩ = false := (H.blk 7 rfl).frozen 4
    have xb5 : (wg).cell? ⟨we.heap.size + 1, 5, none⟩ = some (.int .i64 0) := (H.blk 7 rfl).cell 5
    have xbf5 : (wg).frozen? ⟨we.heap.size + 1, 5, none⟩ = false := (H.blk 7 rfl).frozen 5
    have xb6 : (wg).cell? ⟨we.heap.size + 1, 6, none⟩ = some (.int .i64 0) := (H.blk 7 rfl).cell 6
    have xbf6 : (wg).frozen? ⟨we.heap.size + 1, 6, none⟩ = false := (H.blk 7 rfl).frozen 6
    have xblt : we.heap.size + 1 < (wg).heap.size := H.lt 7 rfl
    have ne_ac_te : wa.heap.size ≠ wb.heap.size := H.ne 3 5 rfl rfl (by decide)
    have ne_ac_xb : wa.heap.size ≠ we.heap.size + 1 := H.ne 3 7 rfl rfl (by decide)
    have ne_te_ac : wb.heap.size ≠ wa.heap.size := H.ne 5 3 rfl rfl (by decide)
    have ne_te_xb : wb.heap.size ≠ we.heap.size + 1 := H.ne 5 7 rfl rfl (by decide)
    have ne_xb_ac : we.heap.size + 1 ≠ wa.heap.size := H.ne 7 3 rfl rfl (by decide)
    have ne_xb_te : we.heap.size + 1 ≠ wb.heap.size := H.ne 7 5 rfl rfl (by decide)
    clear hbg hown3 hRo
    go_wp2_with fail
    obtain ⟨Wg, hWg⟩ : ∃ Wg, (wg).alloc (.cells #[.int .i64 (me : Int), .int .i64 (rev : Int), .int .i64 (next : Int), .int .i64 (m2 : Int), .int .i64 (b2 : Int), .int .i64 free, .slice A3 l2.length c3] 59) = Wg := ⟨_, rfl⟩
    replace H : Mem (w) [] _ [.blk (w.heap.size) 53 #[.int .i64 x0, .int .i64 x1, .int .i64 x2, .int .i64 x3, .int .i64 x4, .int .i64 x5, .slice A n m], .blk (w.heap.size + 1) 56 #[.slice D n' m', .int .i64 y1, .int .i64 y2, .int .i64 y3, .int .i64 y4], .row (W0.heap.size) (25) (2) (.slice A1 l.length c1) (l.length) (drs l), .blk (wa.heap.size) 59 #[.int .i64 (me : Int), .int .i64 (rev : Int), .int .i64 (next : Int), .int .i64 (month : Int), .int .i64 (bought : Int), .int .i64 free, .slice A1 l.length c1], .row (Wb.heap.size) (109) (2) (.slice At tl.length ct) (tl.length) (drs tl), .blk (wb.heap.size) 63 #[.slice At tl.length ct, .int .i64 (fx : Int), .int .i64 (fb : Int), .int .i64 (db : Int), .int .i64 (al : Int)], .blk (we.heap.size) 59 #[.int .i64 0, .int .i64 0, .int .i64 0, .int .i64 0, .int .i64 0, .int .i64 0, .slice none 0 0], .blk (we.heap.size + 1) 23 #[.int .i64 0, .int .i64 0, .int .i64 0, .int .i64 0, .int .i64 0, .int .i64 0, .int .i64 0], .row (Wf.heap.size) (25) (2) (.slice A3 l2.length c3) (l2.length) (drs l2), .blk (wg.heap.size) 59 #[.int .i64 (me : Int), .int .i64 (rev : Int), .int .i64 (next : Int), .int .i64 (m2 : Int), .int .i64 (b2 : Int), .int .i64 free, .slice A3 l2.length c3]] := Mem.alloc H (wg.heap.size) (by first | (simp; done) | (simp; omega)) #[.int .i64 (me : Int), .int .i64 (rev : Int), .int .i64 (next : Int), .int .i64 (m2 : Int), .int .i64 (b2 : Int), .int .i64 free, .slice A3 l2.length c3] 59
    rw [hWg] at H ⊢
    clear hWg
    refine (hRe _ _ (isds_own rfl (H.own_ 8 rfl))).mono ?_
    rintro e wh ⟨A4, c4, rfl, hown4, hbh⟩
    replace H : Mem (w) [] (wh) [.blk (w.heap.size) 53 #[.int .i64 x0, .int .i64 x1, .int .i64 x2, .int .i64 x3, .int .i64 x4, .int .i64 x5, .slice A n m], .blk (w.heap.size + 1) 56 #[.slice D n' m', .int .i64 y1, .int .i64 y2, .int .i64 y3, .int .i64 y4], .row (W0.heap.size) (25) (2) (.slice A1 l.length c1) (l.length) (drs l), .blk (wa.heap.size) 59 #[.int .i64 (me : Int), .int .i64 (rev : Int), .int .i64 (next : Int), .int .i64 (month : Int), .int .i64 (bought : Int), .int .i64 free, .slice A1 l.length c1], .row (Wb.heap.size) (109) (2) (.slice At tl.length ct) (tl.length) (drs tl), .blk (wb.heap.size) 63 #[.slice At tl.length ct, .int .i64 (fx : Int), .int .i64 (fb : Int), .int .i64 (db : Int), .int .i64 (al : Int)], .blk (we.heap.size) 59 #[.int .i64 0, .int .i64 0, .int .i64 0, .int .i64 0, .int .i64 0, .int .i64 0, .slice none 0 0], .blk (we.heap.size + 1) 23 #[.int .i64 0, .int .i64 0, .int .i64 0, .int .i64 0, .int .i64 0, .int .i64 0, .int .i64 0], .row (Wf.heap.size) (25) (2) (.slice A3 l2.length c3) (l2.length) (drs l2), .blk (wg.heap.size) 59 #[.int .i64 (me : Int), .int .i64 (rev : Int), .int .i64 (next : Int), .int .i64 (m2 : Int), .int .i64 (b2 : Int), .int .i64 free, .slice A3 l2.length c3]] := Mem.call H hbh
    clear ac0 acf0 ac1 acf1 ac2 acf2 ac3 acf3 ac4 acf4 ac5 acf5 ac6 acf6 aclt te0 tef0 te1 tef1 te2 tef2 te3 tef3 te4 tef4 telt xb0 xbf0 xb1 xbf1 xb2 xbf2 xb3 xbf3 xb4 xbf4 xb5 xbf5 xb6 xbf6 xblt ne_ac_te ne_ac_xb ne_te_ac ne_te_xb ne_xb_ac ne_xb_te
    have ac0 : (wh).cell? ⟨wa.heap.size, 0, none⟩ = some (.int .i64 (me : Int)) := (H.blk 3 rfl).cell 0
    have acf0 : (wh).frozen? ⟨wa.heap.size, 0, none⟩ = false := (H.blk 3 rfl).frozen 0
    have ac1 : (wh).cell? ⟨wa.heap.size, 1, none⟩ = some (.int .i64 (rev : Int)) := (H.blk 3 rfl).cell 1
    have acf1 : (wh).frozen? ⟨wa.heap.size, 1, none⟩ = false := (H.blk 3 rfl).frozen 1
    have ac2 : (wh).cell? ⟨wa.heap.size, 2, none⟩ = some (.int .i64 (next : Int)) := (H.blk 3 rfl).cell 2
    have acf2 : (wh).frozen? ⟨wa.heap.size, 2, none⟩ = false := (H.blk 3 rfl).frozen 2
    have ac3 : (wh).cell? ⟨wa.heap.size, 3, none⟩ = some (.int .i64 (month : Int)) := (H.blk 3 rfl).cell 3
    have acf3 : (wh).frozen? ⟨wa.heap.size, 3, none⟩ = false := (H.blk 3 rfl).frozen 3
    have ac4 : (wh).cell? ⟨wa.heap.size, 4, none⟩ = some (.int .i64 (bought : Int)) := (H.blk 3 rfl).cell 4
    have acf4 : (wh).frozen? ⟨wa.heap.size, 4, none⟩ = false := (H.blk 3 rfl).frozen 4
    have ac5 : (wh).cell? ⟨wa.heap.size, 5, none⟩ = some (.int .i64 free) := (H.blk 3 rfl).cell 5
    have acf5 : (wh).frozen? ⟨wa.heap.size, 5, none⟩ = false := (H.blk 3 rfl).frozen 5
    have ac6 : (wh).cell? ⟨wa.heap.size, 6, none⟩ = some (.slice A1 l.length c1) := (H.blk 3 rfl).cell 6
    have acf6 : (wh).frozen? ⟨wa.heap.size, 6, none⟩ = false := (H.blk 3 rfl).frozen 6
    have aclt : wa.heap.size < (wh).heap.size := H.lt 3 rfl
    have te0 : (wh).cell? ⟨wb.heap.size, 0, none⟩ = some (.slice At tl.length ct) := (H.blk 5 rfl).cell 0
    have tef0 : (wh).frozen? ⟨wb.heap.size, 0, none⟩ = false := (H.blk 5 rfl).frozen 0
    have te1 : (wh).cell? ⟨wb.heap.size, 1, none⟩ = some (.int .i64 (fx : Int)) := (H.blk 5 rfl).cell 1
    have tef1 : (wh).frozen? ⟨wb.heap.size, 1, none⟩ = false := (H.blk 5 rfl).frozen 1
    have te2 : (wh).cell? ⟨wb.heap.size, 2, none⟩ = some (.int .i64 (fb : Int)) := (H.blk 5 rfl).cell 2
    have tef2 : (wh).frozen? ⟨wb.heap.size, 2, none⟩ = false := (H.blk 5 rfl).frozen 2
    have te3 : (wh).cell? ⟨wb.heap.size, 3, none⟩ = some (.int .i64 (db : Int)) := (H.blk 5 rfl).cell 3
    have tef3 : (wh).frozen? ⟨wb.heap.size, 3, none⟩ = false := (H.blk 5 rfl).frozen 3
    have te4 : (wh).cell? ⟨wb.heap.size, 4, none⟩ = some (.int .i64 (al : Int)) := (H.blk 5 rfl).cell 4
    have tef4 : (wh).frozen? ⟨wb.heap.size, 4, none⟩ = false := (H.blk 5 rfl).frozen 4
    have telt : wb.heap.size < (wh).heap.size := H.lt 5 rfl
    have xb0 : (wh).cell? ⟨we.heap.size + 1, 0, none⟩ = some (.int .i64 0) := (H.blk 7 rfl).cell 0
    have xbf0 : (wh).frozen? ⟨we.heap.size + 1, 0, none⟩ = false := (H.blk 7 rfl).frozen 0
    have xb1 : (wh).cell? ⟨we.heap.size + 1, 1, none⟩ = some (.int .i64 0) := (H.blk 7 rfl).cell 1
    have xbf1 : (wh).frozen? ⟨we.heap.size + 1, 1, none⟩ = false := (H.blk 7 rfl).frozen 1
    have xb2 : (wh).cell? ⟨we.heap.size + 1, 2, none⟩ = some (.int .i64 0) := (H.blk 7 rfl).cell 2
    have xbf2 : (wh).frozen? ⟨we.heap.size + 1, 2, none⟩ = false := (H.blk 7 rfl).frozen 2
    have xb3 : (wh).cell? ⟨we.heap.size + 1, 3, none⟩ = some (.int .i64 0) := (H.blk 7 rfl).cell 3
    have xbf3 : (wh).frozen? ⟨we.heap.size + 1, 3, none⟩ = false := (H.blk 7 rfl).frozen 3
    have xb4 : (wh).cell? ⟨we.heap.size + 1, 4, none⟩ = some (.int .i64 0) := (H.blk 7 rfl).cell 4
    have xbf4 : (wh).frozen? ⟨we.heap.size + 1, 4, none⟩ = false := (H.blk 7 rfl).frozen 4
    have xb5 : (wh).cell? ⟨we.heap.size + 1, 5, none⟩ = some (.int .i64 0) := (H.blk 7 rfl).cell 5
    have xbf5 : (wh).frozen? ⟨we.heap.size + 1, 5, none⟩ = false := (H.blk 7 rfl).frozen 5
    have xb6 : (wh).cell? ⟨we.heap.size + 1, 6, none⟩ = some (.int .i64 0) := (H.blk 7 rfl).cell 6
    have xbf6 : (wh).frozen? ⟨we.heap.size + 1, 6, none⟩ = false := (H.blk 7 rfl).frozen 6
    have xblt : we.heap.size + 1 < (wh).heap.size := H.lt 7 rfl
    have xc0 : (wh).cell? ⟨wg.heap.size, 0, none⟩ = some (.int .i64 (me : Int)) := (H.blk 9 rfl).cell 0
    have xcf0 : (wh).frozen? ⟨wg.heap.size, 0, none⟩ = false := (H.blk 9 rfl).frozen 0
    have xc1 : (wh).cell? ⟨wg.heap.size, 1, none⟩ = some (.int .i64 (rev : Int)) := (H.blk 9 rfl).cell 1
    have xcf1 : (wh).frozen? ⟨wg.heap.size, 1, none⟩ = false := (H.blk 9 rfl).frozen 1
    have xc2 : (wh).cell? ⟨wg.heap.size, 2, none⟩ = some (.int .i64 (next : Int)) := (H.blk 9 rfl).cell 2
    have xcf2 : (wh).frozen? ⟨wg.heap.size, 2, none⟩ = false := (H.blk 9 rfl).frozen 2
    have xc3 : (wh).cell? ⟨wg.heap.size, 3, none⟩ = some (.int .i64 (m2 : Int)) := (H.blk 9 rfl).cell 3
    have xcf3 : (wh).frozen? ⟨wg.heap.size, 3, none⟩ = false := (H.blk 9 rfl).frozen 3
    have xc4 : (wh).cell? ⟨wg.heap.size, 4, none⟩ = some (.int .i64 (b2 : Int)) := (H.blk 9 rfl).cell 4
    have xcf4 : (wh).frozen? ⟨wg.heap.size, 4, none⟩ = false := (H.blk 9 rfl).frozen 4
    have xc5 : (wh).cell? ⟨wg.heap.size, 5, none⟩ = some (.int .i64 free) := (H.blk 9 rfl).cell 5
    have xcf5 : (wh).frozen? ⟨wg.heap.size, 5, none⟩ = false := (H.blk 9 rfl).frozen 5
    have xc6 : (wh).cell? ⟨wg.heap.size, 6, none⟩ = some (.slice A3 l2.length c3) := (H.blk 9 rfl).cell 6
    have xcf6 : (wh).frozen? ⟨wg.heap.size, 6, none⟩ = false := (H.blk 9 rfl).frozen 6
    have xclt : wg.heap.size < (wh).heap.size := H.lt 9 rfl
    have ne_ac_te : wa.heap.size ≠ wb.heap.size := H.ne 3 5 rfl rfl (by decide)
    have ne_ac_xb : wa.heap.size ≠ we.heap.size + 1 := H.ne 3 7 rfl rfl (by decide)
    have ne_ac_xc : wa.heap.size ≠ wg.heap.size := H.ne 3 9 rfl rfl (by decide)
    have ne_te_ac : wb.heap.size ≠ wa.heap.size := H.ne 5 3 rfl rfl (by decide)
    have ne_te_xb : wb.heap.size ≠ we.heap.size + 1 := H.ne 5 7 rfl rfl (by decide)
    have ne_te_xc : wb.heap.size ≠ wg.heap.size := H.ne 5 9 rfl rfl (by decide)
    have ne_xb_ac : we.heap.size + 1 ≠ wa.heap.size := H.ne 7 3 rfl rfl (by decide)
    have ne_xb_te : we.heap.size + 1 ≠ wb.heap.size := H.ne 7 5 rfl rfl (by decide)
    have ne_xb_xc : we.heap.size + 1 ≠ wg.heap.size := H.ne 7 9 rfl rfl (by decide)
    have ne_xc_ac : wg.heap.size ≠ wa.heap.size := H.ne 9 3 rfl rfl (by decide)
    have ne_xc_te : wg.heap.size ≠ wb.heap.size := H.ne 9 5 rfl rfl (by decide)
    have ne_xc_xb : wg.heap.size ≠ we.heap.size + 1 := H.ne 9 7 rfl rfl (by decide)
    have hlo : (out.length : Int) ≤ (l.length : Int) := HLO.out
    have hdt := isds_own (l := tl) rfl (H.own_ 4 rfl)
    clear hown4 hbh hRe
    rcases h3 with h3 | ⟨h3, rfl⟩ | ⟨h3, h4, Q1, hQ1, h5, h6⟩
    · clear hT hok R1
      go_wp2_with (go_at_call 30; with_reducible refine (hPt _).mono ?_; rintro e w' ⟨rfl, rfl⟩)
      go_ret
      exact ⟨rfl, H.below⟩
    · clear hT hok R1
      go_wp2_with (go_at_call 30; with_reducible refine (hPt _).mono ?_; rintro e w' ⟨rfl, rfl⟩)
      go_ret
      exact ⟨rfl, H.below⟩
    · have hPr := fun W h => price_is (.slice At tl.length ct) tl (b2 : Int) 1 b2 1 Q1 W h ⟨hT, by omega, h6⟩ (Lib.hid rfl) (Lib.hid rfl) (Lib.hid hQ1)
      clear hT hok R1 hQ1
      go_wp2_with (go_at_call 30; with_reducible refine (hPt _).mono ?_; rintro e w' ⟨rfl, rfl⟩)
      refine (hPr _ hdt).mono ?_
      rintro e wi ⟨rfl, hbi⟩
      replace H : Mem (w) [] (wi) [.blk (w.heap.size) 53 #[.int .i64 x0, .int .i64 x1, .int .i64 x2, .int .i64 x3, .int .i64 x4, .int .i64 x5, .slice A n m], .blk (w.heap.size + 1) 56 #[.slice D n' m', .int .i64 y1, .int .i64 y2, .int .i64 y3, .int .i64 y4], .row (W0.heap.size) (25) (2) (.slice A1 l.length c1) (l.length) (drs l), .blk (wa.heap.size) 59 #[.int .i64 (me : Int), .int .i64 (rev : Int), .int .i64 (next : Int), .int .i64 (month : Int), .int .i64 (bought : Int), .int .i64 free, .slice A1 l.length c1], .row (Wb.heap.size) (109) (2) (.slice At tl.length ct) (tl.length) (drs tl), .blk (wb.heap.size) 63 #[.slice At tl.length ct, .int .i64 (fx : Int), .int .i64 (fb : Int), .int .i64 (db : Int), .int .i64 (al : Int)], .blk (we.heap.size) 59 #[.int .i64 0, .int .i64 0, .int .i64 0, .int .i64 0, .int .i64 0, .int .i64 0, .slice none 0 0], .blk (we.heap.size + 1) 23 #[.int .i64 0, .int .i64 0, .int .i64 0, .int .i64 0, .int .i64 0, .int .i64 0, .int .i64 0], .row (Wf.heap.size) (25) (2) (.slice A3 l2.length c3) (l2.length) (drs l2), .blk (wg.heap.size) 59 #[.int .i64 (me : Int), .int .i64 (rev : Int), .int .i64 (next : Int), .int .i64 (m2 : Int), .int .i64 (b2 : Int), .int .i64 free, .slice A3 l2.length c3]] := Mem.call H hbi
      clear hbi hPr
      go_wp2
      go_ret
      exact ⟨rfl, H.below⟩
end Go.Proofs.Ytjogdooajbhnoaa

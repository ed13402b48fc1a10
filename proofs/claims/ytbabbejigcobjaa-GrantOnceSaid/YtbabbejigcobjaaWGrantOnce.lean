/- The walk of the law GrantOnce. -/
import Derived.Test.YtbabbejigcobjaaGrant
import Derived.Test.YtbabbejigcobjaaGone
import Derived.Test.YtbabbejigcobjaaAgreed
import Derived.Test.YtbabbejigcobjaaSameA
import Derived.Test.YtbabbejigcobjaaEq
namespace Go.Proofs.Ytbabbejigcobjaa
open Go.RowKit
set_option linter.unusedVariables false
theorem bill_eql (a b c d e f g a' b' c' d' e' f' g' : Int) (W : World) :
    (Op.equalIn 10000 23 (.agg #[.int .i64 a, .int .i64 b, .int .i64 c, .int .i64 d, .int .i64 e, .int .i64 f, .int .i64 g]) (.agg #[.int .i64 a', .int .i64 b', .int .i64 c', .int .i64 d', .int .i64 e', .int .i64 f', .int .i64 g'])).run Try.prog W = .ok (a == a' && (b == b' && (c == c' && (d == d' && (e == e' && (f == f' && g == g')))))) W := by
  have h := eq_is (P := Try.prog) (t := 23) [.int .i64 a, .int .i64 b, .int .i64 c, .int .i64 d, .int .i64 e, .int .i64 f, .int .i64 g] [.int .i64 a', .int .i64 b', .int .i64 c', .int .i64 d', .int .i64 e', .int .i64 f', .int .i64 g'] W (by kernel_rfl) (mkv_struct Try.underlying23)
  simpa [cellsEq, leafEq] using h
theorem grant_is (me rev next month bought : Nat) (free ali : Int) (A : Option Addr) (n c : Nat) (l : List (Nat × Nat)) (At : Option Addr) (nt ct fx fb db al : Nat) (tl : List (Nat × Nat)) (mi : Int) (m2 b2 next1 : Nat) (l2 : List (Nat × Nat)) (w : World)
    (hali : Hid (ali = (al : Int))) (hmi : Hid (mi = (m2 : Int))) (hv : IsDs w (.slice A n c) l) (hl : DOk l) (ha : AOk me rev next month bought free) (hv2 : IsDs w (.slice At nt ct) tl) (hl2 : TOk tl) (ht : TmOk fx fb db al) (hr : Rolled month bought l m2 b2 l2) (hm : m2 ≤ 2399)
    (hal : 1 ≤ al) (hfr : free ≠ (m2 : Int)) (hnx : next ≤ 1048575) (hn1 : Hid (next1 = next + 1)) :
    Calls Try.prog 28 #[.agg #[.int .i64 (me : Int), .int .i64 (rev : Int), .int .i64 (next : Int), .int .i64 (month : Int), .int .i64 (bought : Int), .int .i64 free, .slice A n c], .agg #[.slice At nt ct, .int .i64 (fx : Int), .int .i64 (fb : Int), .int .i64 (db : Int), .int .i64 ali], .int .i64 mi] w (RetGrant me rev next next1 m2 b2 al l2 w) := by
  rw [hali.out, hmi.out]; exact grant_ok me rev next month bought free A n c l At nt ct fx fb db al tl m2 b2 next1 l2 w hv hl ha hv2 hl2 ht hr hm hal hfr hnx hn1
theorem grant_2is (me rev next month bought : Nat) (ali : Int) (A : Option Addr) (n c : Nat) (l : List (Nat × Nat)) (At : Option Addr) (nt ct fx fb db al : Nat) (tl : List (Nat × Nat)) (m2 b2 : Nat) (l2 : List (Nat × Nat)) (w : World)
    (hali : Hid (ali = (al : Int))) (hv : IsDs w (.slice A n c) l) (hl : DOk l) (ha : AOk me rev next month bought (m2 : Int)) (hv2 : IsDs w (.slice At nt ct) tl) (hl2 : TOk tl) (ht : TmOk fx fb db al) (hr : Rolled month bought l m2 b2 l2) (hm : m2 ≤ 2399)
    (hal : 1 ≤ al) :
    Calls Try.prog 28 #[.agg #[.int .i64 (me : Int), .int .i64 (rev : Int), .int .i64 (next : Int), .int .i64 (month : Int), .int .i64 (bought : Int), .int .i64 (m2 : Int), .slice A n c], .agg #[.slice At nt ct, .int .i64 (fx : Int), .int .i64 (fb : Int), .int .i64 (db : Int), .int .i64 ali], .int .i64 (m2 : Int)] w fun e w' =>
      e = .returned (.tuple #[.agg #[.int .i64 0, .int .i64 0, .int .i64 0, .int .i64 0, .int .i64 0, .int .i64 0, .slice none 0 0], .agg #[.int .i64 0, .int .i64 0, .int .i64 0, .int .i64 0, .int .i64 0, .int .i64 0, .int .i64 0], .int .i64 21]) ∧ Below w.heap.size w w' := by
  rw [hali.out]; exact grant_twice me rev next month bought A n c l At nt ct fx fb db al tl m2 b2 l2 w hv hl ha hv2 hl2 ht hr hm hal
set_option maxRecDepth 100000 in
set_option maxHeartbeats 4000000 in
theorem walk_grantOnce (w : World) (a0 : Value) (w0 : Fit Try.prog w 57 a0) (a1 : Value) (w1 : Fit Try.prog w 67 a1) (a2 : Int) (w2 : (Lit.int .i64 a2).wf = true) :
    Calls Try.prog 10 #[a0, a1, .int .i64 a2] w fun e w' => e = .returned (.bool true) ∧ Below w.heap.size w w' := by
  obtain ⟨x0, x1, x2, x3, x4, x5, A, n, m, g, rfl, v0, v1, v2, v3, v4, v5, hv⟩ := going_fit w0
  obtain ⟨D, n', m', g', y1, y2, y3, y4, rfl, u1, u2, u3, u4, hu⟩ := deal_fit w1
  clear w0 w1
  obtain ⟨W0, hW0⟩ : ∃ W0, (w.alloc (.cells #[.int .i64 x0, .int .i64 x1, .int .i64 x2, .int .i64 x3, .int .i64 x4, .int .i64 x5, .slice A n m] 57)).alloc (.cells #[.slice D n' m', .int .i64 y1, .int .i64 y2, .int .i64 y3, .int .i64 y4] 67) = W0 := ⟨_, rfl⟩
  have hb0 : Below w.heap.size w W0 := by rw [← hW0]; exact below_a2 _ _ _
  have hX : Blk W0 w.heap.size 57 #[.int .i64 x0, .int .i64 x1, .int .i64 x2, .int .i64 x3, .int .i64 x4, .int .i64 x5, .slice A n m] := by rw [← hW0]; exact (Blk.new w _ _).alloc _
  have hY : Blk W0 (w.heap.size + 1) 67 #[.slice D n' m', .int .i64 y1, .int .i64 y2, .int .i64 y3, .int .i64 y4] := by
    have := Blk.new (w.alloc (.cells #[.int .i64 x0, .int .i64 x1, .int .i64 x2, .int .i64 x3, .int .i64 x4, .int .i64 x5, .slice A n m] 57)) 67 #[.slice D n' m', .int .i64 y1, .int .i64 y2, .int .i64 y3, .int .i64 y4]
    rw [hW0] at this
    simpa using this
  have hG := gone_ok x0 x1 x2 x3 x4 x5 A n m g W0 v0 v1 v2 v3 v4 v5 (hv.below hb0)
  have hAg := fun W h => agreed_ok D n' m' g' y1 y2 y3 y4 W u1 u2 u3 u4 h
  have hu0 := hu.below hb0
  clear hv hu
  have k0 : W0.cell? ⟨w.heap.size, 0, none⟩ = some (.int .i64 x0) := hX.cell 0
  have kf0 : W0.frozen? ⟨w.heap.size, 0, none⟩ = false := hX.frozen 0
  have k1 : W0.cell? ⟨w.heap.size, 1, none⟩ = some (.int .i64 x1) := hX.cell 1
  have kf1 : W0.frozen? ⟨w.heap.size, 1, none⟩ = false := hX.frozen 1
  have k2 : W0.cell? ⟨w.heap.size, 2, none⟩ = some (.int .i64 x2) := hX.cell 2
  have kf2 : W0.frozen? ⟨w.heap.size, 2, none⟩ = false := hX.frozen 2
  have k3 : W0.cell? ⟨w.heap.size, 3, none⟩ = some (.int .i64 x3) := hX.cell 3
  have kf3 : W0.frozen? ⟨w.heap.size, 3, none⟩ = false := hX.frozen 3
  have k4 : W0.cell? ⟨w.heap.size, 4, none⟩ = some (.int .i64 x4) := hX.cell 4
  have kf4 : W0.frozen? ⟨w.heap.size, 4, none⟩ = false := hX.frozen 4
  have k5 : W0.cell? ⟨w.heap.size, 5, none⟩ = some (.int .i64 x5) := hX.cell 5
  have kf5 : W0.frozen? ⟨w.heap.size, 5, none⟩ = false := hX.frozen 5
  have k6 : W0.cell? ⟨w.heap.size, 6, none⟩ = some (.slice A n m) := hX.cell 6
  have kf6 : W0.frozen? ⟨w.heap.size, 6, none⟩ = false := hX.frozen 6
  go_enter Try.func10, Try.ntmps10
  go_wp2_with fail
  refine hG.mono ?_
  rintro e wa ⟨me, rev, next, month, bought, free, l, A1, c1, rfl, hok, hn, hmo, hd, hds, hba⟩
  have hbw := below_a1 wa (.cells #[.int .i64 (me : Int), .int .i64 (rev : Int), .int .i64 (next : Int), .int .i64 (month : Int), .int .i64 (bought : Int), .int .i64 (free : Int), .slice A1 l.length c1] 60)
  have hP := Blk.new wa 60 #[.int .i64 (me : Int), .int .i64 (rev : Int), .int .i64 (next : Int), .int .i64 (month : Int), .int .i64 (bought : Int), .int .i64 (free : Int), .slice A1 l.length c1]
  have hY1 := (hY.below hba hY.lt).alloc (.cells #[.int .i64 (me : Int), .int .i64 (rev : Int), .int .i64 (next : Int), .int .i64 (month : Int), .int .i64 (bought : Int), .int .i64 (free : Int), .slice A1 l.length c1] 60)
  have hds1 := hds.below hbw
  have hu1 := (hu0.below hba).below hbw
  have hB1 := (hb0.step hba).step hbw
  clear k0 k1 k2 k3 k4 k5 k6 kf0 kf1 kf2 kf3 kf4 kf5 kf6 hG hX hW0
  have j0 : (wa.alloc (.cells #[.int .i64 (me : Int), .int .i64 (rev : Int), .int .i64 (next : Int), .int .i64 (month : Int), .int .i64 (bought : Int), .int .i64 (free : Int), .slice A1 l.length c1] 60)).cell? ⟨w.heap.size + 1, 0, none⟩ = some (.slice D n' m') := hY1.cell 0
  have jf0 : (wa.alloc (.cells #[.int .i64 (me : Int), .int .i64 (rev : Int), .int .i64 (next : Int), .int .i64 (month : Int), .int .i64 (bought : Int), .int .i64 (free : Int), .slice A1 l.length c1] 60)).frozen? ⟨w.heap.size + 1, 0, none⟩ = false := hY1.frozen 0
  have j1 : (wa.alloc (.cells #[.int .i64 (me : Int), .int .i64 (rev : Int), .int .i64 (next : Int), .int .i64 (month : Int), .int .i64 (bought : Int), .int .i64 (free : Int), .slice A1 l.length c1] 60)).cell? ⟨w.heap.size + 1, 1, none⟩ = some (.int .i64 y1) := hY1.cell 1
  have jf1 : (wa.alloc (.cells #[.int .i64 (me : Int), .int .i64 (rev : Int), .int .i64 (next : Int), .int .i64 (month : Int), .int .i64 (bought : Int), .int .i64 (free : Int), .slice A1 l.length c1] 60)).frozen? ⟨w.heap.size + 1, 1, none⟩ = false := hY1.frozen 1
  have j2 : (wa.alloc (.cells #[.int .i64 (me : Int), .int .i64 (rev : Int), .int .i64 (next : Int), .int .i64 (month : Int), .int .i64 (bought : Int), .int .i64 (free : Int), .slice A1 l.length c1] 60)).cell? ⟨w.heap.size + 1, 2, none⟩ = some (.int .i64 y2) := hY1.cell 2
  have jf2 : (wa.alloc (.cells #[.int .i64 (me : Int), .int .i64 (rev : Int), .int .i64 (next : Int), .int .i64 (month : Int), .int .i64 (bought : Int), .int .i64 (free : Int), .slice A1 l.length c1] 60)).frozen? ⟨w.heap.size + 1, 2, none⟩ = false := hY1.frozen 2
  have j3 : (wa.alloc (.cells #[.int .i64 (me : Int), .int .i64 (rev : Int), .int .i64 (next : Int), .int .i64 (month : Int), .int .i64 (bought : Int), .int .i64 (free : Int), .slice A1 l.length c1] 60)).cell? ⟨w.heap.size + 1, 3, none⟩ = some (.int .i64 y3) := hY1.cell 3
  have jf3 : (wa.alloc (.cells #[.int .i64 (me : Int), .int .i64 (rev : Int), .int .i64 (next : Int), .int .i64 (month : Int), .int .i64 (bought : Int), .int .i64 (free : Int), .slice A1 l.length c1] 60)).frozen? ⟨w.heap.size + 1, 3, none⟩ = false := hY1.frozen 3
  have j4 : (wa.alloc (.cells #[.int .i64 (me : Int), .int .i64 (rev : Int), .int .i64 (next : Int), .int .i64 (month : Int), .int .i64 (bought : Int), .int .i64 (free : Int), .slice A1 l.length c1] 60)).cell? ⟨w.heap.size + 1, 4, none⟩ = some (.int .i64 y4) := hY1.cell 4
  have jf4 : (wa.alloc (.cells #[.int .i64 (me : Int), .int .i64 (rev : Int), .int .i64 (next : Int), .int .i64 (month : Int), .int .i64 (bought : Int), .int .i64 (free : Int), .slice A1 l.length c1] 60)).frozen? ⟨w.heap.size + 1, 4, none⟩ = false := hY1.frozen 4
  go_wp2_with fail
  refine (hAg _ hu1).mono ?_
  rintro e wb ⟨tl, At, ct, fx, fb, db, al, rfl, hT, hTm, hdt, hbb⟩
  clear j0 j1 j2 j3 j4 jf0 jf1 jf2 jf3 jf4 hY hY1 hu0 hu1 hAg
  obtain ⟨a1', a2', a3', a4', a5', a6', a7', a8'⟩ := hok
  have hok : AOk me rev next month bought free := ⟨a1', a2', a3', a4', a5', a6', a7', a8'⟩
  obtain ⟨r, hr⟩ : ∃ r : Int, (2399 : Int) - (month : Int) = r := ⟨_, rfl⟩
  obtain ⟨p, hp, hp1⟩ := pk_lit a2 r (by omega)
  obtain ⟨m2, hm2⟩ : ∃ m2 : Nat, (month : Int) + (p : Int) = (m2 : Int) := ⟨month + p, by omega⟩
  have M1 : (1 : Int) ≤ r := by omega
  have M2 : r ≤ 9223372036854775807 := by omega
  have e1 : IntKind.i64.wrap ((2399 : Int) - (month : Int)) = r := by rw [hr]; exact IntWalk.i64_in _ (by omega)
  have e3 : IntKind.i64.wrap ((month : Int) + (p : Int)) = (m2 : Int) := by rw [hm2]; exact IntWalk.i64_in _ (by omega)
  have b1' : month ≤ m2 := by omega
  have b2' : m2 ≤ 2398 := by omega
  obtain ⟨b2, l2, R1⟩ := rolled_ex month bought l m2 b1'
  obtain ⟨m3, hm3⟩ : ∃ m3 : Nat, (m2 : Int) + 1 = (m3 : Int) := ⟨m2 + 1, by omega⟩
  obtain ⟨b3, l3, R3⟩ := rolled_ex m2 b2 l2 m3 (by omega)
  have R2 : Rolled m2 b2 l2 m2 b2 l2 := .inl ⟨rfl, rfl, rfl⟩
  obtain ⟨next1, hn1⟩ : ∃ next1 : Nat, (next : Int) + 1 = (next1 : Int) := ⟨next + 1, by omega⟩
  obtain ⟨next2, hn2⟩ : ∃ next2 : Nat, next2 = next1 + 1 := ⟨_, rfl⟩
  have hb29 : b2 ≤ 10000000 := by rcases R1 with ⟨_, rfl, _⟩ | ⟨_, rfl, _⟩ <;> omega
  have hok2 : AOk me rev next1 m2 b2 (m2 : Int) := ⟨a1', a2', by omega, by omega, by omega, hb29, by omega, by omega⟩
  obtain ⟨al2, hal2⟩ : ∃ al2 : Nat, (al = 0 ∧ al2 = 1) ∨ (((al : Int) < 1) = False ∧ ¬ (al : Int) < 1 ∧ al2 = al) := by
    rcases Nat.eq_zero_or_pos al with h | h
    · exact ⟨1, .inl ⟨h, rfl⟩⟩
    · exact ⟨al, .inr ⟨by simp; omega, by omega, rfl⟩⟩
  have hTm2 : TmOk fx fb db al2 := ⟨hTm.h1, hTm.h2, hTm.h3, by have := hTm.h4; omega⟩
  have hal1 : 1 ≤ al2 := by omega
  have hP1 := hP.below hbb hP.lt
  have hPl := hP1.lt
  have hds2 := hds1.below hbb
  have hB2 := hB1.step hbb
  have hfr : (free = (m2 : Int)) ∨ ((free == (m2 : Int)) = false ∧ free ≠ (m2 : Int)) := by
    by_cases h : free = (m2 : Int)
    · exact .inl h
    · exact .inr ⟨by simp [h], h⟩
  have hn9 : next ≤ 1048575 := by omega
  have hn19 : next1 ≤ 1048575 := by omega
  have hm39 : m3 ≤ 2399 := by omega
  have hfr3 : (m2 : Int) ≠ (m3 : Int) := by omega
  have HN1 : Hid (next1 = next + 1) := by show _ = _; omega
  have HN2 := Lib.hid hn2
  have HM3 := Lib.hid hm3
  have hm29 : m2 ≤ 2399 := by omega
  rcases hal2 with ⟨rfl, hq⟩ | ⟨hq1, hq2, rfl⟩
  all_goals
    go_wp2_with fail
    first
    | (obtain ⟨W1, hW1⟩ : ∃ W1, wb.alloc (.cells #[.slice At tl.length ct, .int .i64 (fx : Int), .int .i64 (fb : Int), .int .i64 (db : Int), .int .i64 1] 69) = W1 := ⟨_, rfl⟩
       rw [hW1]
       have hT1 : ∃ ali : Int, Hid (ali = (al2 : Int)) ∧ Blk W1 wb.heap.size 69 #[.slice At tl.length ct, .int .i64 (fx : Int), .int .i64 (fb : Int), .int .i64 (db : Int), .int .i64 ali] := ⟨1, by show _ = _; omega, by rw [← hW1]; exact Blk.new _ _ _⟩
       have hP2 : Blk W1 wa.heap.size 60 #[.int .i64 (me : Int), .int .i64 (rev : Int), .int .i64 (next : Int), .int .i64 (month : Int), .int .i64 (bought : Int), .int .i64 (free : Int), .slice A1 l.length c1] := by rw [← hW1]; exact hP1.alloc _
       have fW1 : Below wb.heap.size wb W1 := by rw [← hW1]; exact below_a1 _ _
       clear hq)
    | (obtain ⟨W1, hW1⟩ : ∃ W1, wb.alloc (.cells #[.slice At tl.length ct, .int .i64 (fx : Int), .int .i64 (fb : Int), .int .i64 (db : Int), .int .i64 (al2 : Int)] 69) = W1 := ⟨_, rfl⟩
       rw [hW1]
       have hT1 : ∃ ali : Int, Hid (ali = (al2 : Int)) ∧ Blk W1 wb.heap.size 69 #[.slice At tl.length ct, .int .i64 (fx : Int), .int .i64 (fb : Int), .int .i64 (db : Int), .int .i64 ali] := ⟨(al2 : Int), rfl, by rw [← hW1]; exact Blk.new _ _ _⟩
       have hP2 : Blk W1 wa.heap.size 60 #[.int .i64 (me : Int), .int .i64 (rev : Int), .int .i64 (next : Int), .int .i64 (month : Int), .int .i64 (bought : Int), .int .i64 (free : Int), .slice A1 l.length c1] := by rw [← hW1]; exact hP1.alloc _
       have fW1 : Below wb.heap.size wb W1 := by rw [← hW1]; exact below_a1 _ _)
    obtain ⟨ali, hali, hT2⟩ := hT1
    have hds3 := hds2.below fW1
    have hdt3 := hdt.below fW1
    have hB3 := hB2.step fW1
    clear hW1 hP1 hds2 hdt hB2 hB1 hds hds1 hba hbb hbw hb0 hP fW1
    have k0 : W1.cell? ⟨wa.heap.size, 0, none⟩ = some (.int .i64 (me : Int)) := hP2.cell 0
    have kf0 : W1.frozen? ⟨wa.heap.size, 0, none⟩ = false := hP2.frozen 0
    have k1 : W1.cell? ⟨wa.heap.size, 1, none⟩ = some (.int .i64 (rev : Int)) := hP2.cell 1
    have kf1 : W1.frozen? ⟨wa.heap.size, 1, none⟩ = false := hP2.frozen 1
    have k2 : W1.cell? ⟨wa.heap.size, 2, none⟩ = some (.int .i64 (next : Int)) := hP2.cell 2
    have kf2 : W1.frozen? ⟨wa.heap.size, 2, none⟩ = false := hP2.frozen 2
    have k3 : W1.cell? ⟨wa.heap.size, 3, none⟩ = some (.int .i64 (month : Int)) := hP2.cell 3
    have kf3 : W1.frozen? ⟨wa.heap.size, 3, none⟩ = false := hP2.frozen 3
    have k4 : W1.cell? ⟨wa.heap.size, 4, none⟩ = some (.int .i64 (bought : Int)) := hP2.cell 4
    have kf4 : W1.frozen? ⟨wa.heap.size, 4, none⟩ = false := hP2.frozen 4
    have k5 : W1.cell? ⟨wa.heap.size, 5, none⟩ = some (.int .i64 (free : Int)) := hP2.cell 5
    have kf5 : W1.frozen? ⟨wa.heap.size, 5, none⟩ = false := hP2.frozen 5
    have k6 : W1.cell? ⟨wa.heap.size, 6, none⟩ = some (.slice A1 l.length c1) := hP2.cell 6
    have kf6 : W1.frozen? ⟨wa.heap.size, 6, none⟩ = false := hP2.frozen 6
    go_quiet ((go_at_call 20; exact Calls.quiet_of_same ((picked_is _ hp w2 M1 M2).mono fun _ _ h => ⟨h.1, h.2.symm⟩)))
    clear e1 e3 M1 M2 hm2 hr hm3 hn1 hn2 k0 k1 k2 k3 k4 k5 k6 kf0 kf1 kf2 kf3 kf4 kf5 kf6
    obtain ⟨W2, hW2⟩ : ∃ W2, W1.drewN nq = W2 := ⟨_, rfl⟩
    rw [hW2]
    have hP3 : Blk W2 wa.heap.size 60 #[.int .i64 (me : Int), .int .i64 (rev : Int), .int .i64 (next : Int), .int .i64 (month : Int), .int .i64 (bought : Int), .int .i64 (free : Int), .slice A1 l.length c1] := by rw [← hW2]; exact hP2
    have hT3 : Blk W2 wb.heap.size 69 #[.slice At tl.length ct, .int .i64 (fx : Int), .int .i64 (fb : Int), .int .i64 (db : Int), .int .i64 ali] := by rw [← hW2]; exact hT2
    have hds4 : IsDs W2 (.slice A1 l.length c1) l := by rw [← hW2]; exact hds3
    have hdt4 : IsDs W2 (.slice At tl.length ct) tl := by rw [← hW2]; exact hdt3
    have hB4 : Below w.heap.size w W2 := by rw [← hW2]; exact below_draws hB3 nq
    clear hW2 hP2 hT2 hds3 hdt3 hB3
    have k0 : W2.cell? ⟨wa.heap.size, 0, none⟩ = some (.int .i64 (me : Int)) := hP3.cell 0
    have kf0 : W2.frozen? ⟨wa.heap.size, 0, none⟩ = false := hP3.frozen 0
    have k1 : W2.cell? ⟨wa.heap.size, 1, none⟩ = some (.int .i64 (rev : Int)) := hP3.cell 1
    have kf1 : W2.frozen? ⟨wa.heap.size, 1, none⟩ = false := hP3.frozen 1
    have k2 : W2.cell? ⟨wa.heap.size, 2, none⟩ = some (.int .i64 (next : Int)) := hP3.cell 2
    have kf2 : W2.frozen? ⟨wa.heap.size, 2, none⟩ = false := hP3.frozen 2
    have k3 : W2.cell? ⟨wa.heap.size, 3, none⟩ = some (.int .i64 (month : Int)) := hP3.cell 3
    have kf3 : W2.frozen? ⟨wa.heap.size, 3, none⟩ = false := hP3.frozen 3
    have k4 : W2.cell? ⟨wa.heap.size, 4, none⟩ = some (.int .i64 (bought : Int)) := hP3.cell 4
    have kf4 : W2.frozen? ⟨wa.heap.size, 4, none⟩ = false := hP3.frozen 4
    have k5 : W2.cell? ⟨wa.heap.size, 5, none⟩ = some (.int .i64 (free : Int)) := hP3.cell 5
    have kf5 : W2.frozen? ⟨wa.heap.size, 5, none⟩ = false := hP3.frozen 5
    have k6 : W2.cell? ⟨wa.heap.size, 6, none⟩ = some (.slice A1 l.length c1) := hP3.cell 6
    have kf6 : W2.frozen? ⟨wa.heap.size, 6, none⟩ = false := hP3.frozen 6
    have j0 : W2.cell? ⟨wb.heap.size, 0, none⟩ = some (.slice At tl.length ct) := hT3.cell 0
    have jf0 : W2.frozen? ⟨wb.heap.size, 0, none⟩ = false := hT3.frozen 0
    have j1 : W2.cell? ⟨wb.heap.size, 1, none⟩ = some (.int .i64 (fx : Int)) := hT3.cell 1
    have jf1 : W2.frozen? ⟨wb.heap.size, 1, none⟩ = false := hT3.frozen 1
    have j2 : W2.cell? ⟨wb.heap.size, 2, none⟩ = some (.int .i64 (fb : Int)) := hT3.cell 2
    have jf2 : W2.frozen? ⟨wb.heap.size, 2, none⟩ = false := hT3.frozen 2
    have j3 : W2.cell? ⟨wb.heap.size, 3, none⟩ = some (.int .i64 (db : Int)) := hT3.cell 3
    have jf3 : W2.frozen? ⟨wb.heap.size, 3, none⟩ = false := hT3.frozen 3
    have j4 : W2.cell? ⟨wb.heap.size, 4, none⟩ = some (.int .i64 ali) := hT3.cell 4
    have jf4 : W2.frozen? ⟨wb.heap.size, 4, none⟩ = false := hT3.frozen 4
    have hd2 : DOk l2 := R1.ok hd
    rcases hfr with rfl | ⟨hf1, hf2⟩
    · go_wp2_with fail
      refine (grant_2is me rev next month bought ali A1 l.length c1 l At tl.length ct fx fb db al2 tl m2 b2 l2 _ hali hds4 hd hok hdt4 hT hTm2 R1 hm29 hal1).mono ?_
      rintro e wc ⟨rfl, hbc⟩
      have hP4 := hP3.below hbc hP3.lt
      clear k0 k1 k2 k3 k4 k5 k6 kf0 kf1 kf2 kf3 kf4 kf5 kf6 j0 j1 j2 j3 j4 jf0 jf1 jf2 jf3 jf4
      have hP5 : Blk ((wc.alloc (.cells #[.int .i64 0, .int .i64 0, .int .i64 0, .int .i64 0, .int .i64 0, .int .i64 0, .slice none 0 0] 60)).alloc (.cells #[.int .i64 0, .int .i64 0, .int .i64 0, .int .i64 0, .int .i64 0, .int .i64 0, .int .i64 0] 23)) wa.heap.size 60 #[.int .i64 (me : Int), .int .i64 (rev : Int), .int .i64 (next : Int), .int .i64 (month : Int), .int .i64 (bought : Int), .int .i64 (m2 : Int), .slice A1 l.length c1] := by exact (hP4.alloc _).alloc _
      have fW3 : Below wc.heap.size wc ((wc.alloc (.cells #[.int .i64 0, .int .i64 0, .int .i64 0, .int .i64 0, .int .i64 0, .int .i64 0, .slice none 0 0] 60)).alloc (.cells #[.int .i64 0, .int .i64 0, .int .i64 0, .int .i64 0, .int .i64 0, .int .i64 0, .int .i64 0] 23)) := by exact below_a2 _ _ _
      have pW3 : Blk ((wc.alloc (.cells #[.int .i64 0, .int .i64 0, .int .i64 0, .int .i64 0, .int .i64 0, .int .i64 0, .slice none 0 0] 60)).alloc (.cells #[.int .i64 0, .int .i64 0, .int .i64 0, .int .i64 0, .int .i64 0, .int .i64 0, .int .i64 0] 23)) wc.heap.size 60 #[.int .i64 0, .int .i64 0, .int .i64 0, .int .i64 0, .int .i64 0, .int .i64 0, .slice none 0 0] := by exact (Blk.new _ _ _).alloc _
      have qW3 : Blk ((wc.alloc (.cells #[.int .i64 0, .int .i64 0, .int .i64 0, .int .i64 0, .int .i64 0, .int .i64 0, .slice none 0 0] 60)).alloc (.cells #[.int .i64 0, .int .i64 0, .int .i64 0, .int .i64 0, .int .i64 0, .int .i64 0, .int .i64 0] 23)) (wc.heap.size + 1) 23 #[.int .i64 0, .int .i64 0, .int .i64 0, .int .i64 0, .int .i64 0, .int .i64 0, .int .i64 0] := by
        have := Blk.new (wc.alloc (.cells #[.int .i64 0, .int .i64 0, .int .i64 0, .int .i64 0, .int .i64 0, .int .i64 0, .slice none 0 0] 60)) 23 #[.int .i64 0, .int .i64 0, .int .i64 0, .int .i64 0, .int .i64 0, .int .i64 0, .int .i64 0]
        simpa using this
      have k5 : ((wc.alloc (.cells #[.int .i64 0, .int .i64 0, .int .i64 0, .int .i64 0, .int .i64 0, .int .i64 0, .slice none 0 0] 60)).alloc (.cells #[.int .i64 0, .int .i64 0, .int .i64 0, .int .i64 0, .int .i64 0, .int .i64 0, .int .i64 0] 23)).cell? ⟨wa.heap.size, 5, none⟩ = some (.int .i64 (m2 : Int)) := hP5.cell 5
      have y0 : ((wc.alloc (.cells #[.int .i64 0, .int .i64 0, .int .i64 0, .int .i64 0, .int .i64 0, .int .i64 0, .slice none 0 0] 60)).alloc (.cells #[.int .i64 0, .int .i64 0, .int .i64 0, .int .i64 0, .int .i64 0, .int .i64 0, .int .i64 0] 23)).cell? ⟨wc.heap.size + 1, 0, none⟩ = some (.int .i64 0) := qW3.cell 0
      have yf0 : ((wc.alloc (.cells #[.int .i64 0, .int .i64 0, .int .i64 0, .int .i64 0, .int .i64 0, .int .i64 0, .slice none 0 0] 60)).alloc (.cells #[.int .i64 0, .int .i64 0, .int .i64 0, .int .i64 0, .int .i64 0, .int .i64 0, .int .i64 0] 23)).frozen? ⟨wc.heap.size + 1, 0, none⟩ = false := qW3.frozen 0
      have y1 : ((wc.alloc (.cells #[.int .i64 0, .int .i64 0, .int .i64 0, .int .i64 0, .int .i64 0, .int .i64 0, .slice none 0 0] 60)).alloc (.cells #[.int .i64 0, .int .i64 0, .int .i64 0, .int .i64 0, .int .i64 0, .int .i64 0, .int .i64 0] 23)).cell? ⟨wc.heap.size + 1, 1, none⟩ = some (.int .i64 0) := qW3.cell 1
      have yf1 : ((wc.alloc (.cells #[.int .i64 0, .int .i64 0, .int .i64 0, .int .i64 0, .int .i64 0, .int .i64 0, .slice none 0 0] 60)).alloc (.cells #[.int .i64 0, .int .i64 0, .int .i64 0, .int .i64 0, .int .i64 0, .int .i64 0, .int .i64 0] 23)).frozen? ⟨wc.heap.size + 1, 1, none⟩ = false := qW3.frozen 1
      have y2 : ((wc.alloc (.cells #[.int .i64 0, .int .i64 0, .int .i64 0, .int .i64 0, .int .i64 0, .int .i64 0, .slice none 0 0] 60)).alloc (.cells #[.int .i64 0, .int .i64 0, .int .i64 0, .int .i64 0, .int .i64 0, .int .i64 0, .int .i64 0] 23)).cell? ⟨wc.heap.size + 1, 2, none⟩ = some (.int .i64 0) := qW3.cell 2
      have yf2 : ((wc.alloc (.cells #[.int .i64 0, .int .i64 0, .int .i64 0, .int .i64 0, .int .i64 0, .int .i64 0, .slice none 0 0] 60)).alloc (.cells #[.int .i64 0, .int .i64 0, .int .i64 0, .int .i64 0, .int .i64 0, .int .i64 0, .int .i64 0] 23)).frozen? ⟨wc.heap.size + 1, 2, none⟩ = false := qW3.frozen 2
      have y3 : ((wc.alloc (.cells #[.int .i64 0, .int .i64 0, .int .i64 0, .int .i64 0, .int .i64 0, .int .i64 0, .slice none 0 0] 60)).alloc (.cells #[.int .i64 0, .int .i64 0, .int .i64 0, .int .i64 0, .int .i64 0, .int .i64 0, .int .i64 0] 23)).cell? ⟨wc.heap.size + 1, 3, none⟩ = some (.int .i64 0) := qW3.cell 3
      have yf3 : ((wc.alloc (.cells #[.int .i64 0, .int .i64 0, .int .i64 0, .int .i64 0, .int .i64 0, .int .i64 0, .slice none 0 0] 60)).alloc (.cells #[.int .i64 0, .int .i64 0, .int .i64 0, .int .i64 0, .int .i64 0, .int .i64 0, .int .i64 0] 23)).frozen? ⟨wc.heap.size + 1, 3, none⟩ = false := qW3.frozen 3
      have y4 : ((wc.alloc (.cells #[.int .i64 0, .int .i64 0, .int .i64 0, .int .i64 0, .int .i64 0, .int .i64 0, .slice none 0 0] 60)).alloc (.cells #[.int .i64 0, .int .i64 0, .int .i64 0, .int .i64 0, .int .i64 0, .int .i64 0, .int .i64 0] 23)).cell? ⟨wc.heap.size + 1, 4, none⟩ = some (.int .i64 0) := qW3.cell 4
      have yf4 : ((wc.alloc (.cells #[.int .i64 0, .int .i64 0, .int .i64 0, .int .i64 0, .int .i64 0, .int .i64 0, .slice none 0 0] 60)).alloc (.cells #[.int .i64 0, .int .i64 0, .int .i64 0, .int .i64 0, .int .i64 0, .int .i64 0, .int .i64 0] 23)).frozen? ⟨wc.heap.size + 1, 4, none⟩ = false := qW3.frozen 4
      have y5 : ((wc.alloc (.cells #[.int .i64 0, .int .i64 0, .int .i64 0, .int .i64 0, .int .i64 0, .int .i64 0, .slice none 0 0] 60)).alloc (.cells #[.int .i64 0, .int .i64 0, .int .i64 0, .int .i64 0, .int .i64 0, .int .i64 0, .int .i64 0] 23)).cell? ⟨wc.heap.size + 1, 5, none⟩ = some (.int .i64 0) := qW3.cell 5
      have yf5 : ((wc.alloc (.cells #[.int .i64 0, .int .i64 0, .int .i64 0, .int .i64 0, .int .i64 0, .int .i64 0, .slice none 0 0] 60)).alloc (.cells #[.int .i64 0, .int .i64 0, .int .i64 0, .int .i64 0, .int .i64 0, .int .i64 0, .int .i64 0] 23)).frozen? ⟨wc.heap.size + 1, 5, none⟩ = false := qW3.frozen 5
      have y6 : ((wc.alloc (.cells #[.int .i64 0, .int .i64 0, .int .i64 0, .int .i64 0, .int .i64 0, .int .i64 0, .slice none 0 0] 60)).alloc (.cells #[.int .i64 0, .int .i64 0, .int .i64 0, .int .i64 0, .int .i64 0, .int .i64 0, .int .i64 0] 23)).cell? ⟨wc.heap.size + 1, 6, none⟩ = some (.int .i64 0) := qW3.cell 6
      have yf6 : ((wc.alloc (.cells #[.int .i64 0, .int .i64 0, .int .i64 0, .int .i64 0, .int .i64 0, .int .i64 0, .slice none 0 0] 60)).alloc (.cells #[.int .i64 0, .int .i64 0, .int .i64 0, .int .i64 0, .int .i64 0, .int .i64 0, .int .i64 0] 23)).frozen? ⟨wc.heap.size + 1, 6, none⟩ = false := qW3.frozen 6
      have hE := fun W => bill_eql 0 0 0 0 0 0 0 0 0 0 0 0 0 0 W
      simp only [beq_self_eq_true, Bool.and_self] at hE
      go_wp2
      go_ret
      exact ⟨rfl, (hB4.step hbc).step fW3⟩
    · go_wp2_with fail
      refine (grant_is me rev next month bought free ali A1 l.length c1 l At tl.length ct fx fb db al2 tl (m2 : Int) m2 b2 next1 l2 _ hali rfl hds4 hd hok hdt4 hT hTm2 R1 hm29 hal1 hf2 hn9 HN1).mono ?_
      rintro e wc ⟨A2, c2, rfl, hds5, hbc⟩
      have hP4 := hP3.below hbc hP3.lt
      have hT4 := hT3.below hbc hT3.lt
      have hdt5 := hdt4.below hbc
      have hB5 := hB4.step hbc
      clear k0 k1 k2 k3 k4 k5 k6 kf0 kf1 kf2 kf3 kf4 kf5 kf6 j0 j1 j2 j3 j4 jf0 jf1 jf2 jf3 jf4 hP3 hT3 hds4 hdt4 hbc hB4
      have hP5 : Blk ((wc.alloc (.cells #[.int .i64 (me : Int), .int .i64 (rev : Int), .int .i64 (next1 : Int), .int .i64 (m2 : Int), .int .i64 (b2 : Int), .int .i64 (m2 : Int), .slice A2 l2.length c2] 60)).alloc (.cells #[.int .i64 (next : Int), .int .i64 0, .int .i64 0, .int .i64 0, .int .i64 0, .int .i64 0, .int .i64 (al2 : Int)] 23)) wa.heap.size 60 #[.int .i64 (me : Int), .int .i64 (rev : Int), .int .i64 (next : Int), .int .i64 (month : Int), .int .i64 (bought : Int), .int .i64 (free : Int), .slice A1 l.length c1] := by exact (hP4.alloc _).alloc _
      have hT5 : Blk ((wc.alloc (.cells #[.int .i64 (me : Int), .int .i64 (rev : Int), .int .i64 (next1 : Int), .int .i64 (m2 : Int), .int .i64 (b2 : Int), .int .i64 (m2 : Int), .slice A2 l2.length c2] 60)).alloc (.cells #[.int .i64 (next : Int), .int .i64 0, .int .i64 0, .int .i64 0, .int .i64 0, .int .i64 0, .int .i64 (al2 : Int)] 23)) wb.heap.size 69 #[.slice At tl.length ct, .int .i64 (fx : Int), .int .i64 (fb : Int), .int .i64 (db : Int), .int .i64 ali] := by exact (hT4.alloc _).alloc _
      have fW3 : Below wc.heap.size wc ((wc.alloc (.cells #[.int .i64 (me : Int), .int .i64 (rev : Int), .int .i64 (next1 : Int), .int .i64 (m2 : Int), .int .i64 (b2 : Int), .int .i64 (m2 : Int), .slice A2 l2.length c2] 60)).alloc (.cells #[.int .i64 (next : Int), .int .i64 0, .int .i64 0, .int .i64 0, .int .i64 0, .int .i64 0, .int .i64 (al2 : Int)] 23)) := by exact below_a2 _ _ _
      have pW3 : Blk ((wc.alloc (.cells #[.int .i64 (me : Int), .int .i64 (rev : Int), .int .i64 (next1 : Int), .int .i64 (m2 : Int), .int .i64 (b2 : Int), .int .i64 (m2 : Int), .slice A2 l2.length c2] 60)).alloc (.cells #[.int .i64 (next : Int), .int .i64 0, .int .i64 0, .int .i64 0, .int .i64 0, .int .i64 0, .int .i64 (al2 : Int)] 23)) wc.heap.size 60 #[.int .i64 (me : Int), .int .i64 (rev : Int), .int .i64 (next1 : Int), .int .i64 (m2 : Int), .int .i64 (b2 : Int), .int .i64 (m2 : Int), .slice A2 l2.length c2] := by exact (Blk.new _ _ _).alloc _
      have qW3 : Blk ((wc.alloc (.cells #[.int .i64 (me : Int), .int .i64 (rev : Int), .int .i64 (next1 : Int), .int .i64 (m2 : Int), .int .i64 (b2 : Int), .int .i64 (m2 : Int), .slice A2 l2.length c2] 60)).alloc (.cells #[.int .i64 (next : Int), .int .i64 0, .int .i64 0, .int .i64 0, .int .i64 0, .int .i64 0, .int .i64 (al2 : Int)] 23)) (wc.heap.size + 1) 23 #[.int .i64 (next : Int), .int .i64 0, .int .i64 0, .int .i64 0, .int .i64 0, .int .i64 0, .int .i64 (al2 : Int)] := by
        have := Blk.new (wc.alloc (.cells #[.int .i64 (me : Int), .int .i64 (rev : Int), .int .i64 (next1 : Int), .int .i64 (m2 : Int), .int .i64 (b2 : Int), .int .i64 (m2 : Int), .slice A2 l2.length c2] 60)) 23 #[.int .i64 (next : Int), .int .i64 0, .int .i64 0, .int .i64 0, .int .i64 0, .int .i64 0, .int .i64 (al2 : Int)]
        simpa using this
      have hds6 := hds5.below fW3
      have hdt6 := hdt5.below fW3
      have hB6 := hB5.step fW3
      clear hP4 hT4 hdt5 hB5 hds5 fW3
      have kk5 : ((wc.alloc (.cells #[.int .i64 (me : Int), .int .i64 (rev : Int), .int .i64 (next1 : Int), .int .i64 (m2 : Int), .int .i64 (b2 : Int), .int .i64 (m2 : Int), .slice A2 l2.length c2] 60)).alloc (.cells #[.int .i64 (next : Int), .int .i64 0, .int .i64 0, .int .i64 0, .int .i64 0, .int .i64 0, .int .i64 (al2 : Int)] 23)).cell? ⟨wa.heap.size, 5, none⟩ = some (.int .i64 free) := hP5.cell 5
      have k0 : ((wc.alloc (.cells #[.int .i64 (me : Int), .int .i64 (rev : Int), .int .i64 (next1 : Int), .int .i64 (m2 : Int), .int .i64 (b2 : Int), .int .i64 (m2 : Int), .slice A2 l2.length c2] 60)).alloc (.cells #[.int .i64 (next : Int), .int .i64 0, .int .i64 0, .int .i64 0, .int .i64 0, .int .i64 0, .int .i64 (al2 : Int)] 23)).cell? ⟨wc.heap.size, 0, none⟩ = some (.int .i64 (me : Int)) := pW3.cell 0
      have kf0 : ((wc.alloc (.cells #[.int .i64 (me : Int), .int .i64 (rev : Int), .int .i64 (next1 : Int), .int .i64 (m2 : Int), .int .i64 (b2 : Int), .int .i64 (m2 : Int), .slice A2 l2.length c2] 60)).alloc (.cells #[.int .i64 (next : Int), .int .i64 0, .int .i64 0, .int .i64 0, .int .i64 0, .int .i64 0, .int .i64 (al2 : Int)] 23)).frozen? ⟨wc.heap.size, 0, none⟩ = false := pW3.frozen 0
      have k1 : ((wc.alloc (.cells #[.int .i64 (me : Int), .int .i64 (rev : Int), .int .i64 (next1 : Int), .int .i64 (m2 : Int), .int .i64 (b2 : Int), .int .i64 (m2 : Int), .slice A2 l2.length c2] 60)).alloc (.cells #[.int .i64 (next : Int), .int .i64 0, .int .i64 0, .int .i64 0, .int .i64 0, .int .i64 0, .int .i64 (al2 : Int)] 23)).cell? ⟨wc.heap.size, 1, none⟩ = some (.int .i64 (rev : Int)) := pW3.cell 1
      have kf1 : ((wc.alloc (.cells #[.int .i64 (me : Int), .int .i64 (rev : Int), .int .i64 (next1 : Int), .int .i64 (m2 : Int), .int .i64 (b2 : Int), .int .i64 (m2 : Int), .slice A2 l2.length c2] 60)).alloc (.cells #[.int .i64 (next : Int), .int .i64 0, .int .i64 0, .int .i64 0, .int .i64 0, .int .i64 0, .int .i64 (al2 : Int)] 23)).frozen? ⟨wc.heap.size, 1, none⟩ = false := pW3.frozen 1
      have k2 : ((wc.alloc (.cells #[.int .i64 (me : Int), .int .i64 (rev : Int), .int .i64 (next1 : Int), .int .i64 (m2 : Int), .int .i64 (b2 : Int), .int .i64 (m2 : Int), .slice A2 l2.length c2] 60)).alloc (.cells #[.int .i64 (next : Int), .int .i64 0, .int .i64 0, .int .i64 0, .int .i64 0, .int .i64 0, .int .i64 (al2 : Int)] 23)).cell? ⟨wc.heap.size, 2, none⟩ = some (.int .i64 (next1 : Int)) := pW3.cell 2
      have kf2 : ((wc.alloc (.cells #[.int .i64 (me : Int), .int .i64 (rev : Int), .int .i64 (next1 : Int), .int .i64 (m2 : Int), .int .i64 (b2 : Int), .int .i64 (m2 : Int), .slice A2 l2.length c2] 60)).alloc (.cells #[.int .i64 (next : Int), .int .i64 0, .int .i64 0, .int .i64 0, .int .i64 0, .int .i64 0, .int .i64 (al2 : Int)] 23)).frozen? ⟨wc.heap.size, 2, none⟩ = false := pW3.frozen 2
      have k3 : ((wc.alloc (.cells #[.int .i64 (me : Int), .int .i64 (rev : Int), .int .i64 (next1 : Int), .int .i64 (m2 : Int), .int .i64 (b2 : Int), .int .i64 (m2 : Int), .slice A2 l2.length c2] 60)).alloc (.cells #[.int .i64 (next : Int), .int .i64 0, .int .i64 0, .int .i64 0, .int .i64 0, .int .i64 0, .int .i64 (al2 : Int)] 23)).cell? ⟨wc.heap.size, 3, none⟩ = some (.int .i64 (m2 : Int)) := pW3.cell 3
      have kf3 : ((wc.alloc (.cells #[.int .i64 (me : Int), .int .i64 (rev : Int), .int .i64 (next1 : Int), .int .i64 (m2 : Int), .int .i64 (b2 : Int), .int .i64 (m2 : Int), .slice A2 l2.length c2] 60)).alloc (.cells #[.int .i64 (next : Int), .int .i64 0, .int .i64 0, .int .i64 0, .int .i64 0, .int .i64 0, .int .i64 (al2 : Int)] 23)).frozen? ⟨wc.heap.size, 3, none⟩ = false := pW3.frozen 3
      have k4 : ((wc.alloc (.cells #[.int .i64 (me : Int), .int .i64 (rev : Int), .int .i64 (next1 : Int), .int .i64 (m2 : Int), .int .i64 (b2 : Int), .int .i64 (m2 : Int), .slice A2 l2.length c2] 60)).alloc (.cells #[.int .i64 (next : Int), .int .i64 0, .int .i64 0, .int .i64 0, .int .i64 0, .int .i64 0, .int .i64 (al2 : Int)] 23)).cell? ⟨wc.heap.size, 4, none⟩ = some (.int .i64 (b2 : Int)) := pW3.cell 4
      have kf4 : ((wc.alloc (.cells #[.int .i64 (me : Int), .int .i64 (rev : Int), .int .i64 (next1 : Int), .int .i64 (m2 : Int), .int .i64 (b2 : Int), .int .i64 (m2 : Int), .slice A2 l2.length c2] 60)).alloc (.cells #[.int .i64 (next : Int), .int .i64 0, .int .i64 0, .int .i64 0, .int .i64 0, .int .i64 0, .int .i64 (al2 : Int)] 23)).frozen? ⟨wc.heap.size, 4, none⟩ = false := pW3.frozen 4
      have k5 : ((wc.alloc (.cells #[.int .i64 (me : Int), .int .i64 (rev : Int), .int .i64 (next1 : Int), .int .i64 (m2 : Int), .int .i64 (b2 : Int), .int .i64 (m2 : Int), .slice A2 l2.length c2] 60)).alloc (.cells #[.int .i64 (next : Int), .int .i64 0, .int .i64 0, .int .i64 0, .int .i64 0, .int .i64 0, .int .i64 (al2 : Int)] 23)).cell? ⟨wc.heap.size, 5, none⟩ = some (.int .i64 (m2 : Int)) := pW3.cell 5
      have kf5 : ((wc.alloc (.cells #[.int .i64 (me : Int), .int .i64 (rev : Int), .int .i64 (next1 : Int), .int .i64 (m2 : Int), .int .i64 (b2 : Int), .int .i64 (m2 : Int), .slice A2 l2.length c2] 60)).alloc (.cells #[.int .i64 (next : Int), .int .i64 0, .int .i64 0, .int .i64 0, .int .i64 0, .int .i64 0, .int .i64 (al2 : Int)] 23)).frozen? ⟨wc.heap.size, 5, none⟩ = false := pW3.frozen 5
      have k6 : ((wc.alloc (.cells #[.int .i64 (me : Int), .int .i64 (rev : Int), .int .i64 (next1 : Int), .int .i64 (m2 : Int), .int .i64 (b2 : Int), .int .i64 (m2 : Int), .slice A2 l2.length c2] 60)).alloc (.cells #[.int .i64 (next : Int), .int .i64 0, .int .i64 0, .int .i64 0, .int .i64 0, .int .i64 0, .int .i64 (al2 : Int)] 23)).cell? ⟨wc.heap.size, 6, none⟩ = some (.slice A2 l2.length c2) := pW3.cell 6
      have kf6 : ((wc.alloc (.cells #[.int .i64 (me : Int), .int .i64 (rev : Int), .int .i64 (next1 : Int), .int .i64 (m2 : Int), .int .i64 (b2 : Int), .int .i64 (m2 : Int), .slice A2 l2.length c2] 60)).alloc (.cells #[.int .i64 (next : Int), .int .i64 0, .int .i64 0, .int .i64 0, .int .i64 0, .int .i64 0, .int .i64 (al2 : Int)] 23)).frozen? ⟨wc.heap.size, 6, none⟩ = false := pW3.frozen 6
      have j0 : ((wc.alloc (.cells #[.int .i64 (me : Int), .int .i64 (rev : Int), .int .i64 (next1 : Int), .int .i64 (m2 : Int), .int .i64 (b2 : Int), .int .i64 (m2 : Int), .slice A2 l2.length c2] 60)).alloc (.cells #[.int .i64 (next : Int), .int .i64 0, .int .i64 0, .int .i64 0, .int .i64 0, .int .i64 0, .int .i64 (al2 : Int)] 23)).cell? ⟨wb.heap.size, 0, none⟩ = some (.slice At tl.length ct) := hT5.cell 0
      have jf0 : ((wc.alloc (.cells #[.int .i64 (me : Int), .int .i64 (rev : Int), .int .i64 (next1 : Int), .int .i64 (m2 : Int), .int .i64 (b2 : Int), .int .i64 (m2 : Int), .slice A2 l2.length c2] 60)).alloc (.cells #[.int .i64 (next : Int), .int .i64 0, .int .i64 0, .int .i64 0, .int .i64 0, .int .i64 0, .int .i64 (al2 : Int)] 23)).frozen? ⟨wb.heap.size, 0, none⟩ = false := hT5.frozen 0
      have j1 : ((wc.alloc (.cells #[.int .i64 (me : Int), .int .i64 (rev : Int), .int .i64 (next1 : Int), .int .i64 (m2 : Int), .int .i64 (b2 : Int), .int .i64 (m2 : Int), .slice A2 l2.length c2] 60)).alloc (.cells #[.int .i64 (next : Int), .int .i64 0, .int .i64 0, .int .i64 0, .int .i64 0, .int .i64 0, .int .i64 (al2 : Int)] 23)).cell? ⟨wb.heap.size, 1, none⟩ = some (.int .i64 (fx : Int)) := hT5.cell 1
      have jf1 : ((wc.alloc (.cells #[.int .i64 (me : Int), .int .i64 (rev : Int), .int .i64 (next1 : Int), .int .i64 (m2 : Int), .int .i64 (b2 : Int), .int .i64 (m2 : Int), .slice A2 l2.length c2] 60)).alloc (.cells #[.int .i64 (next : Int), .int .i64 0, .int .i64 0, .int .i64 0, .int .i64 0, .int .i64 0, .int .i64 (al2 : Int)] 23)).frozen? ⟨wb.heap.size, 1, none⟩ = false := hT5.frozen 1
      have j2 : ((wc.alloc (.cells #[.int .i64 (me : Int), .int .i64 (rev : Int), .int .i64 (next1 : Int), .int .i64 (m2 : Int), .int .i64 (b2 : Int), .int .i64 (m2 : Int), .slice A2 l2.length c2] 60)).alloc (.cells #[.int .i64 (next : Int), .int .i64 0, .int .i64 0, .int .i64 0, .int .i64 0, .int .i64 0, .int .i64 (al2 : Int)] 23)).cell? ⟨wb.heap.size, 2, none⟩ = some (.int .i64 (fb : Int)) := hT5.cell 2
      have jf2 : ((wc.alloc (.cells #[.int .i64 (me : Int), .int .i64 (rev : Int), .int .i64 (next1 : Int), .int .i64 (m2 : Int), .int .i64 (b2 : Int), .int .i64 (m2 : Int), .slice A2 l2.length c2] 60)).alloc (.cells #[.int .i64 (next : Int), .int .i64 0, .int .i64 0, .int .i64 0, .int .i64 0, .int .i64 0, .int .i64 (al2 : Int)] 23)).frozen? ⟨wb.heap.size, 2, none⟩ = false := hT5.frozen 2
      have j3 : ((wc.alloc (.cells #[.int .i64 (me : Int), .int .i64 (rev : Int), .int .i64 (next1 : Int), .int .i64 (m2 : Int), .int .i64 (b2 : Int), .int .i64 (m2 : Int), .slice A2 l2.length c2] 60)).alloc (.cells #[.int .i64 (next : Int), .int .i64 0, .int .i64 0, .int .i64 0, .int .i64 0, .int .i64 0, .int .i64 (al2 : Int)] 23)).cell? ⟨wb.heap.size, 3, none⟩ = some (.int .i64 (db : Int)) := hT5.cell 3
      have jf3 : ((wc.alloc (.cells #[.int .i64 (me : Int), .int .i64 (rev : Int), .int .i64 (next1 : Int), .int .i64 (m2 : Int), .int .i64 (b2 : Int), .int .i64 (m2 : Int), .slice A2 l2.length c2] 60)).alloc (.cells #[.int .i64 (next : Int), .int .i64 0, .int .i64 0, .int .i64 0, .int .i64 0, .int .i64 0, .int .i64 (al2 : Int)] 23)).frozen? ⟨wb.heap.size, 3, none⟩ = false := hT5.frozen 3
      have j4 : ((wc.alloc (.cells #[.int .i64 (me : Int), .int .i64 (rev : Int), .int .i64 (next1 : Int), .int .i64 (m2 : Int), .int .i64 (b2 : Int), .int .i64 (m2 : Int), .slice A2 l2.length c2] 60)).alloc (.cells #[.int .i64 (next : Int), .int .i64 0, .int .i64 0, .int .i64 0, .int .i64 0, .int .i64 0, .int .i64 (al2 : Int)] 23)).cell? ⟨wb.heap.size, 4, none⟩ = some (.int .i64 ali) := hT5.cell 4
      have jf4 : ((wc.alloc (.cells #[.int .i64 (me : Int), .int .i64 (rev : Int), .int .i64 (next1 : Int), .int .i64 (m2 : Int), .int .i64 (b2 : Int), .int .i64 (m2 : Int), .slice A2 l2.length c2] 60)).alloc (.cells #[.int .i64 (next : Int), .int .i64 0, .int .i64 0, .int .i64 0, .int .i64 0, .int .i64 0, .int .i64 (al2 : Int)] 23)).frozen? ⟨wb.heap.size, 4, none⟩ = false := hT5.frozen 4
      go_wp2_with fail
      refine (grant_2is me rev next1 m2 b2 ali A2 l2.length c2 l2 At tl.length ct fx fb db al2 tl m2 b2 l2 _ hali hds6 hd2 hok2 hdt6 hT hTm2 R2 hm29 hal1).mono ?_
      rintro e wd ⟨rfl, hbd⟩
      have hP6 := hP5.below hbd hP5.lt
      have hT6 := hT5.below hbd hT5.lt
      have hC6 := pW3.below hbd pW3.lt
      have hD6 := qW3.below hbd qW3.lt
      have hds7 := hds6.below hbd
      have hdt7 := hdt6.below hbd
      have hB7 := hB6.step hbd
      clear k0 k1 k2 k3 k4 k5 k6 kf0 kf1 kf2 kf3 kf4 kf5 kf6 j0 j1 j2 j3 j4 jf0 jf1 jf2 jf3 jf4 kk5 hP5 hT5 pW3 qW3 hds6 hdt6 hB6 hbd
      have hP7 : Blk ((wd.alloc (.cells #[.int .i64 0, .int .i64 0, .int .i64 0, .int .i64 0, .int .i64 0, .int .i64 0, .slice none 0 0] 60)).alloc (.cells #[.int .i64 0, .int .i64 0, .int .i64 0, .int .i64 0, .int .i64 0, .int .i64 0, .int .i64 0] 23)) wa.heap.size 60 #[.int .i64 (me : Int), .int .i64 (rev : Int), .int .i64 (next : Int), .int .i64 (month : Int), .int .i64 (bought : Int), .int .i64 (free : Int), .slice A1 l.length c1] := by exact (hP6.alloc _).alloc _
      have hT7 : Blk ((wd.alloc (.cells #[.int .i64 0, .int .i64 0, .int .i64 0, .int .i64 0, .int .i64 0, .int .i64 0, .slice none 0 0] 60)).alloc (.cells #[.int .i64 0, .int .i64 0, .int .i64 0, .int .i64 0, .int .i64 0, .int .i64 0, .int .i64 0] 23)) wb.heap.size 69 #[.slice At tl.length ct, .int .i64 (fx : Int), .int .i64 (fb : Int), .int .i64 (db : Int), .int .i64 ali] := by exact (hT6.alloc _).alloc _
      have hC7 : Blk ((wd.alloc (.cells #[.int .i64 0, .int .i64 0, .int .i64 0, .int .i64 0, .int .i64 0, .int .i64 0, .slice none 0 0] 60)).alloc (.cells #[.int .i64 0, .int .i64 0, .int .i64 0, .int .i64 0, .int .i64 0, .int .i64 0, .int .i64 0] 23)) wc.heap.size 60 #[.int .i64 (me : Int), .int .i64 (rev : Int), .int .i64 (next1 : Int), .int .i64 (m2 : Int), .int .i64 (b2 : Int), .int .i64 (m2 : Int), .slice A2 l2.length c2] := by exact (hC6.alloc _).alloc _
      have hD7 : Blk ((wd.alloc (.cells #[.int .i64 0, .int .i64 0, .int .i64 0, .int .i64 0, .int .i64 0, .int .i64 0, .slice none 0 0] 60)).alloc (.cells #[.int .i64 0, .int .i64 0, .int .i64 0, .int .i64 0, .int .i64 0, .int .i64 0, .int .i64 0] 23)) (wc.heap.size + 1) 23 #[.int .i64 (next : Int), .int .i64 0, .int .i64 0, .int .i64 0, .int .i64 0, .int .i64 0, .int .i64 (al2 : Int)] := by exact (hD6.alloc _).alloc _
      have fW4 : Below wd.heap.size wd ((wd.alloc (.cells #[.int .i64 0, .int .i64 0, .int .i64 0, .int .i64 0, .int .i64 0, .int .i64 0, .slice none 0 0] 60)).alloc (.cells #[.int .i64 0, .int .i64 0, .int .i64 0, .int .i64 0, .int .i64 0, .int .i64 0, .int .i64 0] 23)) := by exact below_a2 _ _ _
      have pW4 : Blk ((wd.alloc (.cells #[.int .i64 0, .int .i64 0, .int .i64 0, .int .i64 0, .int .i64 0, .int .i64 0, .slice none 0 0] 60)).alloc (.cells #[.int .i64 0, .int .i64 0, .int .i64 0, .int .i64 0, .int .i64 0, .int .i64 0, .int .i64 0] 23)) wd.heap.size 60 #[.int .i64 0, .int .i64 0, .int .i64 0, .int .i64 0, .int .i64 0, .int .i64 0, .slice none 0 0] := by exact (Blk.new _ _ _).alloc _
      have qW4 : Blk ((wd.alloc (.cells #[.int .i64 0, .int .i64 0, .int .i64 0, .int .i64 0, .int .i64 0, .int .i64 0, .slice none 0 0] 60)).alloc (.cells #[.int .i64 0, .int .i64 0, .int .i64 0, .int .i64 0, .int .i64 0, .int .i64 0, .int .i64 0] 23)) (wd.heap.size + 1) 23 #[.int .i64 0, .int .i64 0, .int .i64 0, .int .i64 0, .int .i64 0, .int .i64 0, .int .i64 0] := by
        have := Blk.new (wd.alloc (.cells #[.int .i64 0, .int .i64 0, .int .i64 0, .int .i64 0, .int .i64 0, .int .i64 0, .slice none 0 0] 60)) 23 #[.int .i64 0, .int .i64 0, .int .i64 0, .int .i64 0, .int .i64 0, .int .i64 0, .int .i64 0]
        simpa using this
      have hds8 := hds7.below fW4
      have hdt8 := hdt7.below fW4
      have hB8 := hB7.step fW4
      clear hP6 hT6 hC6 hD6 hds7 hdt7 hB7 fW4 pW4 qW4
      have k0 : ((wd.alloc (.cells #[.int .i64 0, .int .i64 0, .int .i64 0, .int .i64 0, .int .i64 0, .int .i64 0, .slice none 0 0] 60)).alloc (.cells #[.int .i64 0, .int .i64 0, .int .i64 0, .int .i64 0, .int .i64 0, .int .i64 0, .int .i64 0] 23)).cell? ⟨wc.heap.size, 0, none⟩ = some (.int .i64 (me : Int)) := hC7.cell 0
      have kf0 : ((wd.alloc (.cells #[.int .i64 0, .int .i64 0, .int .i64 0, .int .i64 0, .int .i64 0, .int .i64 0, .slice none 0 0] 60)).alloc (.cells #[.int .i64 0, .int .i64 0, .int .i64 0, .int .i64 0, .int .i64 0, .int .i64 0, .int .i64 0] 23)).frozen? ⟨wc.heap.size, 0, none⟩ = false := hC7.frozen 0
      have k1 : ((wd.alloc (.cells #[.int .i64 0, .int .i64 0, .int .i64 0, .int .i64 0, .int .i64 0, .int .i64 0, .slice none 0 0] 60)).alloc (.cells #[.int .i64 0, .int .i64 0, .int .i64 0, .int .i64 0, .int .i64 0, .int .i64 0, .int .i64 0] 23)).cell? ⟨wc.heap.size, 1, none⟩ = some (.int .i64 (rev : Int)) := hC7.cell 1
      have kf1 : ((wd.alloc (.cells #[.int .i64 0, .int .i64 0, .int .i64 0, .int .i64 0, .int .i64 0, .int .i64 0, .slice none 0 0] 60)).alloc (.cells #[.int .i64 0, .int .i64 0, .int .i64 0, .int .i64 0, .int .i64 0, .int .i64 0, .int .i64 0] 23)).frozen? ⟨wc.heap.size, 1, none⟩ = false := hC7.frozen 1
      have k2 : ((wd.alloc (.cells #[.int .i64 0, .int .i64 0, .int .i64 0, .int .i64 0, .int .i64 0, .int .i64 0, .slice none 0 0] 60)).alloc (.cells #[.int .i64 0, .int .i64 0, .int .i64 0, .int .i64 0, .int .i64 0, .int .i64 0, .int .i64 0] 23)).cell? ⟨wc.heap.size, 2, none⟩ = some (.int .i64 (next1 : Int)) := hC7.cell 2
      have kf2 : ((wd.alloc (.cells #[.int .i64 0, .int .i64 0, .int .i64 0, .int .i64 0, .int .i64 0, .int .i64 0, .slice none 0 0] 60)).alloc (.cells #[.int .i64 0, .int .i64 0, .int .i64 0, .int .i64 0, .int .i64 0, .int .i64 0, .int .i64 0] 23)).frozen? ⟨wc.heap.size, 2, none⟩ = false := hC7.frozen 2
      have k3 : ((wd.alloc (.cells #[.int .i64 0, .int .i64 0, .int .i64 0, .int .i64 0, .int .i64 0, .int .i64 0, .slice none 0 0] 60)).alloc (.cells #[.int .i64 0, .int .i64 0, .int .i64 0, .int .i64 0, .int .i64 0, .int .i64 0, .int .i64 0] 23)).cell? ⟨wc.heap.size, 3, none⟩ = some (.int .i64 (m2 : Int)) := hC7.cell 3
      have kf3 : ((wd.alloc (.cells #[.int .i64 0, .int .i64 0, .int .i64 0, .int .i64 0, .int .i64 0, .int .i64 0, .slice none 0 0] 60)).alloc (.cells #[.int .i64 0, .int .i64 0, .int .i64 0, .int .i64 0, .int .i64 0, .int .i64 0, .int .i64 0] 23)).frozen? ⟨wc.heap.size, 3, none⟩ = false := hC7.frozen 3
      have k4 : ((wd.alloc (.cells #[.int .i64 0, .int .i64 0, .int .i64 0, .int .i64 0, .int .i64 0, .int .i64 0, .slice none 0 0] 60)).alloc (.cells #[.int .i64 0, .int .i64 0, .int .i64 0, .int .i64 0, .int .i64 0, .int .i64 0, .int .i64 0] 23)).cell? ⟨wc.heap.size, 4, none⟩ = some (.int .i64 (b2 : Int)) := hC7.cell 4
      have kf4 : ((wd.alloc (.cells #[.int .i64 0, .int .i64 0, .int .i64 0, .int .i64 0, .int .i64 0, .int .i64 0, .slice none 0 0] 60)).alloc (.cells #[.int .i64 0, .int .i64 0, .int .i64 0, .int .i64 0, .int .i64 0, .int .i64 0, .int .i64 0] 23)).frozen? ⟨wc.heap.size, 4, none⟩ = false := hC7.frozen 4
      have k5 : ((wd.alloc (.cells #[.int .i64 0, .int .i64 0, .int .i64 0, .int .i64 0, .int .i64 0, .int .i64 0, .slice none 0 0] 60)).alloc (.cells #[.int .i64 0, .int .i64 0, .int .i64 0, .int .i64 0, .int .i64 0, .int .i64 0, .int .i64 0] 23)).cell? ⟨wc.heap.size, 5, none⟩ = some (.int .i64 (m2 : Int)) := hC7.cell 5
      have kf5 : ((wd.alloc (.cells #[.int .i64 0, .int .i64 0, .int .i64 0, .int .i64 0, .int .i64 0, .int .i64 0, .slice none 0 0] 60)).alloc (.cells #[.int .i64 0, .int .i64 0, .int .i64 0, .int .i64 0, .int .i64 0, .int .i64 0, .int .i64 0] 23)).frozen? ⟨wc.heap.size, 5, none⟩ = false := hC7.frozen 5
      have k6 : ((wd.alloc (.cells #[.int .i64 0, .int .i64 0, .int .i64 0, .int .i64 0, .int .i64 0, .int .i64 0, .slice none 0 0] 60)).alloc (.cells #[.int .i64 0, .int .i64 0, .int .i64 0, .int .i64 0, .int .i64 0, .int .i64 0, .int .i64 0] 23)).cell? ⟨wc.heap.size, 6, none⟩ = some (.slice A2 l2.length c2) := hC7.cell 6
      have kf6 : ((wd.alloc (.cells #[.int .i64 0, .int .i64 0, .int .i64 0, .int .i64 0, .int .i64 0, .int .i64 0, .slice none 0 0] 60)).alloc (.cells #[.int .i64 0, .int .i64 0, .int .i64 0, .int .i64 0, .int .i64 0, .int .i64 0, .int .i64 0] 23)).frozen? ⟨wc.heap.size, 6, none⟩ = false := hC7.frozen 6
      have j0 : ((wd.alloc (.cells #[.int .i64 0, .int .i64 0, .int .i64 0, .int .i64 0, .int .i64 0, .int .i64 0, .slice none 0 0] 60)).alloc (.cells #[.int .i64 0, .int .i64 0, .int .i64 0, .int .i64 0, .int .i64 0, .int .i64 0, .int .i64 0] 23)).cell? ⟨wb.heap.size, 0, none⟩ = some (.slice At tl.length ct) := hT7.cell 0
      have jf0 : ((wd.alloc (.cells #[.int .i64 0, .int .i64 0, .int .i64 0, .int .i64 0, .int .i64 0, .int .i64 0, .slice none 0 0] 60)).alloc (.cells #[.int .i64 0, .int .i64 0, .int .i64 0, .int .i64 0, .int .i64 0, .int .i64 0, .int .i64 0] 23)).frozen? ⟨wb.heap.size, 0, none⟩ = false := hT7.frozen 0
      have j1 : ((wd.alloc (.cells #[.int .i64 0, .int .i64 0, .int .i64 0, .int .i64 0, .int .i64 0, .int .i64 0, .slice none 0 0] 60)).alloc (.cells #[.int .i64 0, .int .i64 0, .int .i64 0, .int .i64 0, .int .i64 0, .int .i64 0, .int .i64 0] 23)).cell? ⟨wb.heap.size, 1, none⟩ = some (.int .i64 (fx : Int)) := hT7.cell 1
      have jf1 : ((wd.alloc (.cells #[.int .i64 0, .int .i64 0, .int .i64 0, .int .i64 0, .int .i64 0, .int .i64 0, .slice none 0 0] 60)).alloc (.cells #[.int .i64 0, .int .i64 0, .int .i64 0, .int .i64 0, .int .i64 0, .int .i64 0, .int .i64 0] 23)).frozen? ⟨wb.heap.size, 1, none⟩ = false := hT7.frozen 1
      have j2 : ((wd.alloc (.cells #[.int .i64 0, .int .i64 0, .int .i64 0, .int .i64 0, .int .i64 0, .int .i64 0, .slice none 0 0] 60)).alloc (.cells #[.int .i64 0, .int .i64 0, .int .i64 0, .int .i64 0, .int .i64 0, .int .i64 0, .int .i64 0] 23)).cell? ⟨wb.heap.size, 2, none⟩ = some (.int .i64 (fb : Int)) := hT7.cell 2
      have jf2 : ((wd.alloc (.cells #[.int .i64 0, .int .i64 0, .int .i64 0, .int .i64 0, .int .i64 0, .int .i64 0, .slice none 0 0] 60)).alloc (.cells #[.int .i64 0, .int .i64 0, .int .i64 0, .int .i64 0, .int .i64 0, .int .i64 0, .int .i64 0] 23)).frozen? ⟨wb.heap.size, 2, none⟩ = false := hT7.frozen 2
      have j3 : ((wd.alloc (.cells #[.int .i64 0, .int .i64 0, .int .i64 0, .int .i64 0, .int .i64 0, .int .i64 0, .slice none 0 0] 60)).alloc (.cells #[.int .i64 0, .int .i64 0, .int .i64 0, .int .i64 0, .int .i64 0, .int .i64 0, .int .i64 0] 23)).cell? ⟨wb.heap.size, 3, none⟩ = some (.int .i64 (db : Int)) := hT7.cell 3
      have jf3 : ((wd.alloc (.cells #[.int .i64 0, .int .i64 0, .int .i64 0, .int .i64 0, .int .i64 0, .int .i64 0, .slice none 0 0] 60)).alloc (.cells #[.int .i64 0, .int .i64 0, .int .i64 0, .int .i64 0, .int .i64 0, .int .i64 0, .int .i64 0] 23)).frozen? ⟨wb.heap.size, 3, none⟩ = false := hT7.frozen 3
      have j4 : ((wd.alloc (.cells #[.int .i64 0, .int .i64 0, .int .i64 0, .int .i64 0, .int .i64 0, .int .i64 0, .slice none 0 0] 60)).alloc (.cells #[.int .i64 0, .int .i64 0, .int .i64 0, .int .i64 0, .int .i64 0, .int .i64 0, .int .i64 0] 23)).cell? ⟨wb.heap.size, 4, none⟩ = some (.int .i64 ali) := hT7.cell 4
      have jf4 : ((wd.alloc (.cells #[.int .i64 0, .int .i64 0, .int .i64 0, .int .i64 0, .int .i64 0, .int .i64 0, .slice none 0 0] 60)).alloc (.cells #[.int .i64 0, .int .i64 0, .int .i64 0, .int .i64 0, .int .i64 0, .int .i64 0, .int .i64 0] 23)).frozen? ⟨wb.heap.size, 4, none⟩ = false := hT7.frozen 4
      go_wp2_with fail
      refine (grant_is me rev next1 m2 b2 (m2 : Int) ali A2 l2.length c2 l2 At tl.length ct fx fb db al2 tl ((m2 : Int) + 1) m3 b3 next2 l3 _ hali HM3 hds8 hd2 hok2 hdt8 hT hTm2 R3 hm39 hal1 hfr3 hn19 HN2).mono ?_
      rintro e we ⟨A3, c3, rfl, hds9, hbe⟩
      have hP8 := hP7.below hbe hP7.lt
      have hT8 := hT7.below hbe hT7.lt
      have hD8 := hD7.below hbe hD7.lt
      have hB9 := hB8.step hbe
      clear k0 k1 k2 k3 k4 k5 k6 kf0 kf1 kf2 kf3 kf4 kf5 kf6 j0 j1 j2 j3 j4 jf0 jf1 jf2 jf3 jf4 hP7 hT7 hC7 hD7 hds8 hdt8 hB8 hbe hds9
      have hP9 : Blk ((we.alloc (.cells #[.int .i64 (me : Int), .int .i64 (rev : Int), .int .i64 (next2 : Int), .int .i64 (m3 : Int), .int .i64 (b3 : Int), .int .i64 (m3 : Int), .slice A3 l3.length c3] 60)).alloc (.cells #[.int .i64 (next1 : Int), .int .i64 0, .int .i64 0, .int .i64 0, .int .i64 0, .int .i64 0, .int .i64 (al2 : Int)] 23)) wa.heap.size 60 #[.int .i64 (me : Int), .int .i64 (rev : Int), .int .i64 (next : Int), .int .i64 (month : Int), .int .i64 (bought : Int), .int .i64 (free : Int), .slice A1 l.length c1] := by exact (hP8.alloc _).alloc _
      have hT9 : Blk ((we.alloc (.cells #[.int .i64 (me : Int), .int .i64 (rev : Int), .int .i64 (next2 : Int), .int .i64 (m3 : Int), .int .i64 (b3 : Int), .int .i64 (m3 : Int), .slice A3 l3.length c3] 60)).alloc (.cells #[.int .i64 (next1 : Int), .int .i64 0, .int .i64 0, .int .i64 0, .int .i64 0, .int .i64 0, .int .i64 (al2 : Int)] 23)) wb.heap.size 69 #[.slice At tl.length ct, .int .i64 (fx : Int), .int .i64 (fb : Int), .int .i64 (db : Int), .int .i64 ali] := by exact (hT8.alloc _).alloc _
      have hD9 : Blk ((we.alloc (.cells #[.int .i64 (me : Int), .int .i64 (rev : Int), .int .i64 (next2 : Int), .int .i64 (m3 : Int), .int .i64 (b3 : Int), .int .i64 (m3 : Int), .slice A3 l3.length c3] 60)).alloc (.cells #[.int .i64 (next1 : Int), .int .i64 0, .int .i64 0, .int .i64 0, .int .i64 0, .int .i64 0, .int .i64 (al2 : Int)] 23)) (wc.heap.size + 1) 23 #[.int .i64 (next : Int), .int .i64 0, .int .i64 0, .int .i64 0, .int .i64 0, .int .i64 0, .int .i64 (al2 : Int)] := by exact (hD8.alloc _).alloc _
      have fW5 : Below we.heap.size we ((we.alloc (.cells #[.int .i64 (me : Int), .int .i64 (rev : Int), .int .i64 (next2 : Int), .int .i64 (m3 : Int), .int .i64 (b3 : Int), .int .i64 (m3 : Int), .slice A3 l3.length c3] 60)).alloc (.cells #[.int .i64 (next1 : Int), .int .i64 0, .int .i64 0, .int .i64 0, .int .i64 0, .int .i64 0, .int .i64 (al2 : Int)] 23)) := by exact below_a2 _ _ _
      have pW5 : Blk ((we.alloc (.cells #[.int .i64 (me : Int), .int .i64 (rev : Int), .int .i64 (next2 : Int), .int .i64 (m3 : Int), .int .i64 (b3 : Int), .int .i64 (m3 : Int), .slice A3 l3.length c3] 60)).alloc (.cells #[.int .i64 (next1 : Int), .int .i64 0, .int .i64 0, .int .i64 0, .int .i64 0, .int .i64 0, .int .i64 (al2 : Int)] 23)) we.heap.size 60 #[.int .i64 (me : Int), .int .i64 (rev : Int), .int .i64 (next2 : Int), .int .i64 (m3 : Int), .int .i64 (b3 : Int), .int .i64 (m3 : Int), .slice A3 l3.length c3] := by exact (Blk.new _ _ _).alloc _
      have qW5 : Blk ((we.alloc (.cells #[.int .i64 (me : Int), .int .i64 (rev : Int), .int .i64 (next2 : Int), .int .i64 (m3 : Int), .int .i64 (b3 : Int), .int .i64 (m3 : Int), .slice A3 l3.length c3] 60)).alloc (.cells #[.int .i64 (next1 : Int), .int .i64 0, .int .i64 0, .int .i64 0, .int .i64 0, .int .i64 0, .int .i64 (al2 : Int)] 23)) (we.heap.size + 1) 23 #[.int .i64 (next1 : Int), .int .i64 0, .int .i64 0, .int .i64 0, .int .i64 0, .int .i64 0, .int .i64 (al2 : Int)] := by
        have := Blk.new (we.alloc (.cells #[.int .i64 (me : Int), .int .i64 (rev : Int), .int .i64 (next2 : Int), .int .i64 (m3 : Int), .int .i64 (b3 : Int), .int .i64 (m3 : Int), .slice A3 l3.length c3] 60)) 23 #[.int .i64 (next1 : Int), .int .i64 0, .int .i64 0, .int .i64 0, .int .i64 0, .int .i64 0, .int .i64 (al2 : Int)]
        simpa using this
      have hB10 := hB9.step fW5
      have hE : ∀ W, (Op.equalIn 10000 23 (.agg #[.int .i64 (next : Int), .int .i64 0, .int .i64 0, .int .i64 0, .int .i64 0, .int .i64 0, .int .i64 (al2 : Int)]) (.agg #[.int .i64 (next : Int), .int .i64 0, .int .i64 0, .int .i64 0, .int .i64 0, .int .i64 0, .int .i64 ali])).run Try.prog W = .ok true W := fun W => by
        have := bill_eql (next : Int) 0 0 0 0 0 (al2 : Int) (next : Int) 0 0 0 0 0 ali W
        rw [this, hali.out]; simp
      have hx1 : (next : Int) + 1 = (next1 : Int) := by have := HN1.out; omega
      have hx2 := HM3.out
      have k2 : ((we.alloc (.cells #[.int .i64 (me : Int), .int .i64 (rev : Int), .int .i64 (next2 : Int), .int .i64 (m3 : Int), .int .i64 (b3 : Int), .int .i64 (m3 : Int), .slice A3 l3.length c3] 60)).alloc (.cells #[.int .i64 (next1 : Int), .int .i64 0, .int .i64 0, .int .i64 0, .int .i64 0, .int .i64 0, .int .i64 (al2 : Int)] 23)).cell? ⟨wa.heap.size, 2, none⟩ = some (.int .i64 (next : Int)) := hP9.cell 2
      have j4 : ((we.alloc (.cells #[.int .i64 (me : Int), .int .i64 (rev : Int), .int .i64 (next2 : Int), .int .i64 (m3 : Int), .int .i64 (b3 : Int), .int .i64 (m3 : Int), .slice A3 l3.length c3] 60)).alloc (.cells #[.int .i64 (next1 : Int), .int .i64 0, .int .i64 0, .int .i64 0, .int .i64 0, .int .i64 0, .int .i64 (al2 : Int)] 23)).cell? ⟨wb.heap.size, 4, none⟩ = some (.int .i64 ali) := hT9.cell 4
      have i5 : ((we.alloc (.cells #[.int .i64 (me : Int), .int .i64 (rev : Int), .int .i64 (next2 : Int), .int .i64 (m3 : Int), .int .i64 (b3 : Int), .int .i64 (m3 : Int), .slice A3 l3.length c3] 60)).alloc (.cells #[.int .i64 (next1 : Int), .int .i64 0, .int .i64 0, .int .i64 0, .int .i64 0, .int .i64 0, .int .i64 (al2 : Int)] 23)).cell? ⟨we.heap.size, 5, none⟩ = some (.int .i64 (m3 : Int)) := pW5.cell 5
      have y0 : ((we.alloc (.cells #[.int .i64 (me : Int), .int .i64 (rev : Int), .int .i64 (next2 : Int), .int .i64 (m3 : Int), .int .i64 (b3 : Int), .int .i64 (m3 : Int), .slice A3 l3.length c3] 60)).alloc (.cells #[.int .i64 (next1 : Int), .int .i64 0, .int .i64 0, .int .i64 0, .int .i64 0, .int .i64 0, .int .i64 (al2 : Int)] 23)).cell? ⟨we.heap.size + 1, 0, none⟩ = some (.int .i64 (next1 : Int)) := qW5.cell 0
      have z0 : ((we.alloc (.cells #[.int .i64 (me : Int), .int .i64 (rev : Int), .int .i64 (next2 : Int), .int .i64 (m3 : Int), .int .i64 (b3 : Int), .int .i64 (m3 : Int), .slice A3 l3.length c3] 60)).alloc (.cells #[.int .i64 (next1 : Int), .int .i64 0, .int .i64 0, .int .i64 0, .int .i64 0, .int .i64 0, .int .i64 (al2 : Int)] 23)).cell? ⟨wc.heap.size + 1, 0, none⟩ = some (.int .i64 (next : Int)) := hD9.cell 0
      have zf0 : ((we.alloc (.cells #[.int .i64 (me : Int), .int .i64 (rev : Int), .int .i64 (next2 : Int), .int .i64 (m3 : Int), .int .i64 (b3 : Int), .int .i64 (m3 : Int), .slice A3 l3.length c3] 60)).alloc (.cells #[.int .i64 (next1 : Int), .int .i64 0, .int .i64 0, .int .i64 0, .int .i64 0, .int .i64 0, .int .i64 (al2 : Int)] 23)).frozen? ⟨wc.heap.size + 1, 0, none⟩ = false := hD9.frozen 0
      have z1 : ((we.alloc (.cells #[.int .i64 (me : Int), .int .i64 (rev : Int), .int .i64 (next2 : Int), .int .i64 (m3 : Int), .int .i64 (b3 : Int), .int .i64 (m3 : Int), .slice A3 l3.length c3] 60)).alloc (.cells #[.int .i64 (next1 : Int), .int .i64 0, .int .i64 0, .int .i64 0, .int .i64 0, .int .i64 0, .int .i64 (al2 : Int)] 23)).cell? ⟨wc.heap.size + 1, 1, none⟩ = some (.int .i64 0) := hD9.cell 1
      have zf1 : ((we.alloc (.cells #[.int .i64 (me : Int), .int .i64 (rev : Int), .int .i64 (next2 : Int), .int .i64 (m3 : Int), .int .i64 (b3 : Int), .int .i64 (m3 : Int), .slice A3 l3.length c3] 60)).alloc (.cells #[.int .i64 (next1 : Int), .int .i64 0, .int .i64 0, .int .i64 0, .int .i64 0, .int .i64 0, .int .i64 (al2 : Int)] 23)).frozen? ⟨wc.heap.size + 1, 1, none⟩ = false := hD9.frozen 1
      have z2 : ((we.alloc (.cells #[.int .i64 (me : Int), .int .i64 (rev : Int), .int .i64 (next2 : Int), .int .i64 (m3 : Int), .int .i64 (b3 : Int), .int .i64 (m3 : Int), .slice A3 l3.length c3] 60)).alloc (.cells #[.int .i64 (next1 : Int), .int .i64 0, .int .i64 0, .int .i64 0, .int .i64 0, .int .i64 0, .int .i64 (al2 : Int)] 23)).cell? ⟨wc.heap.size + 1, 2, none⟩ = some (.int .i64 0) := hD9.cell 2
      have zf2 : ((we.alloc (.cells #[.int .i64 (me : Int), .int .i64 (rev : Int), .int .i64 (next2 : Int), .int .i64 (m3 : Int), .int .i64 (b3 : Int), .int .i64 (m3 : Int), .slice A3 l3.length c3] 60)).alloc (.cells #[.int .i64 (next1 : Int), .int .i64 0, .int .i64 0, .int .i64 0, .int .i64 0, .int .i64 0, .int .i64 (al2 : Int)] 23)).frozen? ⟨wc.heap.size + 1, 2, none⟩ = false := hD9.frozen 2
      have z3 : ((we.alloc (.cells #[.int .i64 (me : Int), .int .i64 (rev : Int), .int .i64 (next2 : Int), .int .i64 (m3 : Int), .int .i64 (b3 : Int), .int .i64 (m3 : Int), .slice A3 l3.length c3] 60)).alloc (.cells #[.int .i64 (next1 : Int), .int .i64 0, .int .i64 0, .int .i64 0, .int .i64 0, .int .i64 0, .int .i64 (al2 : Int)] 23)).cell? ⟨wc.heap.size + 1, 3, none⟩ = some (.int .i64 0) := hD9.cell 3
      have zf3 : ((we.alloc (.cells #[.int .i64 (me : Int), .int .i64 (rev : Int), .int .i64 (next2 : Int), .int .i64 (m3 : Int), .int .i64 (b3 : Int), .int .i64 (m3 : Int), .slice A3 l3.length c3] 60)).alloc (.cells #[.int .i64 (next1 : Int), .int .i64 0, .int .i64 0, .int .i64 0, .int .i64 0, .int .i64 0, .int .i64 (al2 : Int)] 23)).frozen? ⟨wc.heap.size + 1, 3, none⟩ = false := hD9.frozen 3
      have z4 : ((we.alloc (.cells #[.int .i64 (me : Int), .int .i64 (rev : Int), .int .i64 (next2 : Int), .int .i64 (m3 : Int), .int .i64 (b3 : Int), .int .i64 (m3 : Int), .slice A3 l3.length c3] 60)).alloc (.cells #[.int .i64 (next1 : Int), .int .i64 0, .int .i64 0, .int .i64 0, .int .i64 0, .int .i64 0, .int .i64 (al2 : Int)] 23)).cell? ⟨wc.heap.size + 1, 4, none⟩ = some (.int .i64 0) := hD9.cell 4
      have zf4 : ((we.alloc (.cells #[.int .i64 (me : Int), .int .i64 (rev : Int), .int .i64 (next2 : Int), .int .i64 (m3 : Int), .int .i64 (b3 : Int), .int .i64 (m3 : Int), .slice A3 l3.length c3] 60)).alloc (.cells #[.int .i64 (next1 : Int), .int .i64 0, .int .i64 0, .int .i64 0, .int .i64 0, .int .i64 0, .int .i64 (al2 : Int)] 23)).frozen? ⟨wc.heap.size + 1, 4, none⟩ = false := hD9.frozen 4
      have z5 : ((we.alloc (.cells #[.int .i64 (me : Int), .int .i64 (rev : Int), .int .i64 (next2 : Int), .int .i64 (m3 : Int), .int .i64 (b3 : Int), .int .i64 (m3 : Int), .slice A3 l3.length c3] 60)).alloc (.cells #[.int .i64 (next1 : Int), .int .i64 0, .int .i64 0, .int .i64 0, .int .i64 0, .int .i64 0, .int .i64 (al2 : Int)] 23)).cell? ⟨wc.heap.size + 1, 5, none⟩ = some (.int .i64 0) := hD9.cell 5
      have zf5 : ((we.alloc (.cells #[.int .i64 (me : Int), .int .i64 (rev : Int), .int .i64 (next2 : Int), .int .i64 (m3 : Int), .int .i64 (b3 : Int), .int .i64 (m3 : Int), .slice A3 l3.length c3] 60)).alloc (.cells #[.int .i64 (next1 : Int), .int .i64 0, .int .i64 0, .int .i64 0, .int .i64 0, .int .i64 0, .int .i64 (al2 : Int)] 23)).frozen? ⟨wc.heap.size + 1, 5, none⟩ = false := hD9.frozen 5
      have z6 : ((we.alloc (.cells #[.int .i64 (me : Int), .int .i64 (rev : Int), .int .i64 (next2 : Int), .int .i64 (m3 : Int), .int .i64 (b3 : Int), .int .i64 (m3 : Int), .slice A3 l3.length c3] 60)).alloc (.cells #[.int .i64 (next1 : Int), .int .i64 0, .int .i64 0, .int .i64 0, .int .i64 0, .int .i64 0, .int .i64 (al2 : Int)] 23)).cell? ⟨wc.heap.size + 1, 6, none⟩ = some (.int .i64 (al2 : Int)) := hD9.cell 6
      have zf6 : ((we.alloc (.cells #[.int .i64 (me : Int), .int .i64 (rev : Int), .int .i64 (next2 : Int), .int .i64 (m3 : Int), .int .i64 (b3 : Int), .int .i64 (m3 : Int), .slice A3 l3.length c3] 60)).alloc (.cells #[.int .i64 (next1 : Int), .int .i64 0, .int .i64 0, .int .i64 0, .int .i64 0, .int .i64 0, .int .i64 (al2 : Int)] 23)).frozen? ⟨wc.heap.size + 1, 6, none⟩ = false := hD9.frozen 6
      clear hP8 hT8 hD8 hB9 fW5
      go_wp2
      go_ret
      exact ⟨rfl, hB10⟩
end Go.Proofs.Ytbabbejigcobjaa

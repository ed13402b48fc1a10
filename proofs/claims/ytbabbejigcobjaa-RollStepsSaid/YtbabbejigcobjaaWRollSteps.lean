/- The walk of the law RollSteps. -/
import Derived.Test.YtbabbejigcobjaaSameA
import Derived.Test.YtbabbejigcobjaaGone
namespace Go.Proofs.Ytbabbejigcobjaa
open Go.RowKit
set_option linter.unusedVariables false
set_option maxRecDepth 100000 in
set_option maxHeartbeats 2000000 in
theorem walk_rollSteps (w : World) (a0 : Value) (w0 : Fit Try.prog w 57 a0) (a1 : Int) (w1 : (Lit.int .i64 a1).wf = true) (a2 : Int) (w2 : (Lit.int .i64 a2).wf = true) :
    Calls Try.prog 9 #[a0, .int .i64 a1, .int .i64 a2] w fun e w' => e = .returned (.bool true) ∧ Below w.heap.size w w' := by
  obtain ⟨x0, x1, x2, x3, x4, x5, A, n, m, g, rfl, v0, v1, v2, v3, v4, v5, hv⟩ := going_fit w0
  clear w0
  have hb0 := below_a1 w (.cells #[.int .i64 x0, .int .i64 x1, .int .i64 x2, .int .i64 x3, .int .i64 x4, .int .i64 x5, .slice A n m] 57)
  have hG := gone_ok x0 x1 x2 x3 x4 x5 A n m g _ v0 v1 v2 v3 v4 v5 (hv.below hb0)
  clear hv
  go_enter Try.func9, Try.ntmps9
  go_wp2_with fail
  refine hG.mono ?_
  rintro e wa ⟨me, rev, next, month, bought, free, l, A1, c1, rfl, hok, hn, hmo, hd, hds, hba⟩
  have hBa := hb0.step hba
  obtain ⟨a1', a2', a3', a4', a5', a6', a7', a8'⟩ := hok
  have hok : AOk me rev next month bought free := ⟨a1', a2', a3', a4', a5', a6', a7', a8'⟩
  obtain ⟨r, hr⟩ : ∃ r : Nat, (2399 : Int) - (month : Int) = (r : Int) := ⟨2399 - month, by omega⟩
  obtain ⟨K, hK⟩ : ∃ K : Int, (r : Int) + 1 = K := ⟨_, rfl⟩
  obtain ⟨p, hp, hp1⟩ := pk_lit a1 K (by omega)
  obtain ⟨f1, hf1⟩ : ∃ f1 : Nat, (month : Int) + (p : Int) = (f1 : Int) := ⟨month + p, by omega⟩
  obtain ⟨r2, hr2⟩ : ∃ r2 : Nat, (2399 : Int) - (f1 : Int) = (r2 : Int) := ⟨2399 - f1, by omega⟩
  obtain ⟨K2, hK2⟩ : ∃ K2 : Int, (r2 : Int) + 1 = K2 := ⟨_, rfl⟩
  obtain ⟨q, hq, hq1⟩ := pk_lit a2 K2 (by omega)
  obtain ⟨f2, hf2⟩ : ∃ f2 : Nat, (f1 : Int) + (q : Int) = (f2 : Int) := ⟨f1 + q, by omega⟩
  have M1 : (1 : Int) ≤ K := by omega
  have M2 : K ≤ 9223372036854775807 := by omega
  have N1 : (1 : Int) ≤ K2 := by omega
  have N2 : K2 ≤ 9223372036854775807 := by omega
  have e1 : IntKind.i64.wrap ((2399 : Int) - (month : Int)) = (r : Int) := by rw [hr]; exact IntWalk.i64_in _ (by omega)
  have e2 : IntKind.i64.wrap ((r : Int) + 1) = K := by rw [hK]; exact IntWalk.i64_in _ (by omega)
  have e3 : IntKind.i64.wrap ((month : Int) + (p : Int)) = (f1 : Int) := by rw [hf1]; exact IntWalk.i64_in _ (by omega)
  have b1 : month ≤ f1 := by omega
  have b2 : f1 ≤ f2 := by omega
  have b3 : f2 ≤ 2399 := by omega
  obtain ⟨bo1, l1, R1⟩ := rolled_ex month bought l f1 b1
  obtain ⟨bo2, l2, R2⟩ := rolled_ex f1 bo1 l1 f2 b2
  have R3 := R1.trans R2
  have hok1 : AOk me rev next f1 bo1 free := ⟨a1', a2', a3', a4', by omega, by rcases R1 with ⟨_, rfl, _⟩ | ⟨_, rfl, _⟩ <;> omega, a7', by omega⟩
  have hX1 := fun W h => rollX_ok me rev next month bought free A1 l.length c1 l f1 bo1 l1 W h hd hok R1 (by omega)
  have hX2 := fun A c W h => rollX_ok me rev next f1 bo1 free A l1.length c l1 f2 bo2 l2 W h (R1.ok hd) hok1 R2 (by omega)
  have hX3 := fun W h => rollX_ok me rev next month bought free A1 l.length c1 l f2 bo2 l2 W h hd hok R3 (by omega)
  have hbz : (month = f2) ∨ (((f2 : Int) == (month : Int)) = false ∧ bo2 = 0) := by
    rcases R3 with ⟨h, _⟩ | ⟨h, h2, _⟩
    · exact .inl h.symm
    · exact .inr ⟨by simp; omega, h2⟩
  have HR3 := Lib.hid R3
  have HE := Lib.hid e3
  have hK9 : (2399 : Int) - (f1 : Int) + 1 = K2 := by omega
  have HK9 := Lib.hid hK9
  have HF2 := Lib.hid hf2
  clear hG R1 R2 R3 hok hok1 hr hK hr2 hK2 hf1 hf2 hK9 hp1 hq1
  have hB1 := Blk.new wa 60 #[.int .i64 (me : Int), .int .i64 (rev : Int), .int .i64 (next : Int), .int .i64 (month : Int), .int .i64 (bought : Int), .int .i64 free, .slice A1 l.length c1]
  have hbw := below_a1 wa (.cells #[.int .i64 (me : Int), .int .i64 (rev : Int), .int .i64 (next : Int), .int .i64 (month : Int), .int .i64 (bought : Int), .int .i64 free, .slice A1 l.length c1] 60)
  have hds1 := hds.below hbw
  have hBw := hBa.step hbw
  clear hds hbw hba hb0 hBa
  have hlt1 := hB1.lt
  go_wp2_with fail
  go_quiet ((go_at_call 20; exact Calls.quiet_of_same ((picked_is _ hp w1 M1 M2).mono fun _ _ h => ⟨h.1, h.2.symm⟩)))
  clear e1 e2 e3 M1 M2
  have hK9 := HK9.out
  have hf2 := HF2.out
  obtain ⟨W1, hW1⟩ : ∃ W1, (wa.alloc (.cells #[.int .i64 (me : Int), .int .i64 (rev : Int), .int .i64 (next : Int), .int .i64 (month : Int), .int .i64 (bought : Int), .int .i64 free, .slice A1 l.length c1] 60)).drewN nq = W1 := ⟨_, rfl⟩
  have hB1 : Blk W1 wa.heap.size 60 #[.int .i64 (me : Int), .int .i64 (rev : Int), .int .i64 (next : Int), .int .i64 (month : Int), .int .i64 (bought : Int), .int .i64 free, .slice A1 l.length c1] := by rw [← hW1]; exact hB1
  have hds1 : IsDs W1 (.slice A1 l.length c1) l := by rw [← hW1]; exact hds1
  have hBw : Below w.heap.size w W1 := by rw [← hW1]; exact below_draws hBw nq
  have hlt1 := hB1.lt
  have k0 : W1.cell? ⟨wa.heap.size, 0, none⟩ = some (.int .i64 (me : Int)) := hB1.cell 0
  have kf0 : W1.frozen? ⟨wa.heap.size, 0, none⟩ = false := hB1.frozen 0
  have k1 : W1.cell? ⟨wa.heap.size, 1, none⟩ = some (.int .i64 (rev : Int)) := hB1.cell 1
  have kf1 : W1.frozen? ⟨wa.heap.size, 1, none⟩ = false := hB1.frozen 1
  have k2 : W1.cell? ⟨wa.heap.size, 2, none⟩ = some (.int .i64 (next : Int)) := hB1.cell 2
  have kf2 : W1.frozen? ⟨wa.heap.size, 2, none⟩ = false := hB1.frozen 2
  have k3 : W1.cell? ⟨wa.heap.size, 3, none⟩ = some (.int .i64 (month : Int)) := hB1.cell 3
  have kf3 : W1.frozen? ⟨wa.heap.size, 3, none⟩ = false := hB1.frozen 3
  have k4 : W1.cell? ⟨wa.heap.size, 4, none⟩ = some (.int .i64 (bought : Int)) := hB1.cell 4
  have kf4 : W1.frozen? ⟨wa.heap.size, 4, none⟩ = false := hB1.frozen 4
  have k5 : W1.cell? ⟨wa.heap.size, 5, none⟩ = some (.int .i64 free) := hB1.cell 5
  have kf5 : W1.frozen? ⟨wa.heap.size, 5, none⟩ = false := hB1.frozen 5
  have k6 : W1.cell? ⟨wa.heap.size, 6, none⟩ = some (.slice A1 l.length c1) := hB1.cell 6
  have kf6 : W1.frozen? ⟨wa.heap.size, 6, none⟩ = false := hB1.frozen 6
  go_wp2_with fail
  refine (picked_is _ hq w2 N1 N2).mono ?_
  rintro e w' ⟨rfl, rfl⟩
  go_wp2_with fail
  refine (hX1 _ hds1).mono ?_
  rintro e wb ⟨A2, c2, rfl, hds2, hbb⟩
  have hB2 := Blk.new wb 60 #[.int .i64 (me : Int), .int .i64 (rev : Int), .int .i64 (next : Int), .int .i64 (f1 : Int), .int .i64 (bo1 : Int), .int .i64 free, .slice A2 l1.length c2]
  have hbx := below_a1 wb (.cells #[.int .i64 (me : Int), .int .i64 (rev : Int), .int .i64 (next : Int), .int .i64 (f1 : Int), .int .i64 (bo1 : Int), .int .i64 free, .slice A2 l1.length c2] 60)
  clear k0 k1 k2 k3 k4 k5 k6 kf0 kf1 kf2 kf3 kf4 kf5 kf6 hK9 hf2
  have hB1b := (hB1.below hbb hlt1).alloc (.cells #[.int .i64 (me : Int), .int .i64 (rev : Int), .int .i64 (next : Int), .int .i64 (f1 : Int), .int .i64 (bo1 : Int), .int .i64 free, .slice A2 l1.length c2] 60)
  have hds1b := (hds1.below hbb).below hbx
  have hds2b := hds2.below hbx
  have hBw2 := (hBw.step hbb).step hbx
  have hs2 := hbb.size
  have hne12 : wa.heap.size ≠ wb.heap.size := by omega
  go_wp2_with fail
  refine (hX2 A2 c2 _ hds2b).mono ?_
  rintro e wc ⟨A3, c3, rfl, hds3, hbc⟩
  have hB3 := Blk.new wc 60 #[.int .i64 (me : Int), .int .i64 (rev : Int), .int .i64 (next : Int), .int .i64 (f2 : Int), .int .i64 (bo2 : Int), .int .i64 free, .slice A3 l2.length c3]
  have hby := below_a1 wc (.cells #[.int .i64 (me : Int), .int .i64 (rev : Int), .int .i64 (next : Int), .int .i64 (f2 : Int), .int .i64 (bo2 : Int), .int .i64 free, .slice A3 l2.length c3] 60)
  have hB1c := (hB1b.below hbc hB1b.lt).alloc (.cells #[.int .i64 (me : Int), .int .i64 (rev : Int), .int .i64 (next : Int), .int .i64 (f2 : Int), .int .i64 (bo2 : Int), .int .i64 free, .slice A3 l2.length c3] 60)
  have hds1c := (hds1b.below hbc).below hby
  have hds3c := hds3.below hby
  have hBw3 := (hBw2.step hbc).step hby
  have hs3 := hbc.size
  simp at hs3
  have hlt3 := hB1c.lt
  have k0 : (wc.alloc (.cells #[.int .i64 (me : Int), .int .i64 (rev : Int), .int .i64 (next : Int), .int .i64 (f2 : Int), .int .i64 (bo2 : Int), .int .i64 free, .slice A3 l2.length c3] 60)).cell? ⟨wa.heap.size, 0, none⟩ = some (.int .i64 (me : Int)) := hB1c.cell 0
  have kf0 : (wc.alloc (.cells #[.int .i64 (me : Int), .int .i64 (rev : Int), .int .i64 (next : Int), .int .i64 (f2 : Int), .int .i64 (bo2 : Int), .int .i64 free, .slice A3 l2.length c3] 60)).frozen? ⟨wa.heap.size, 0, none⟩ = false := hB1c.frozen 0
  have k1 : (wc.alloc (.cells #[.int .i64 (me : Int), .int .i64 (rev : Int), .int .i64 (next : Int), .int .i64 (f2 : Int), .int .i64 (bo2 : Int), .int .i64 free, .slice A3 l2.length c3] 60)).cell? ⟨wa.heap.size, 1, none⟩ = some (.int .i64 (rev : Int)) := hB1c.cell 1
  have kf1 : (wc.alloc (.cells #[.int .i64 (me : Int), .int .i64 (rev : Int), .int .i64 (next : Int), .int .i64 (f2 : Int), .int .i64 (bo2 : Int), .int .i64 free, .slice A3 l2.length c3] 60)).frozen? ⟨wa.heap.size, 1, none⟩ = false := hB1c.frozen 1
  have k2 : (wc.alloc (.cells #[.int .i64 (me : Int), .int .i64 (rev : Int), .int .i64 (next : Int), .int .i64 (f2 : Int), .int .i64 (bo2 : Int), .int .i64 free, .slice A3 l2.length c3] 60)).cell? ⟨wa.heap.size, 2, none⟩ = some (.int .i64 (next : Int)) := hB1c.cell 2
  have kf2 : (wc.alloc (.cells #[.int .i64 (me : Int), .int .i64 (rev : Int), .int .i64 (next : Int), .int .i64 (f2 : Int), .int .i64 (bo2 : Int), .int .i64 free, .slice A3 l2.length c3] 60)).frozen? ⟨wa.heap.size, 2, none⟩ = false := hB1c.frozen 2
  have k3 : (wc.alloc (.cells #[.int .i64 (me : Int), .int .i64 (rev : Int), .int .i64 (next : Int), .int .i64 (f2 : Int), .int .i64 (bo2 : Int), .int .i64 free, .slice A3 l2.length c3] 60)).cell? ⟨wa.heap.size, 3, none⟩ = some (.int .i64 (month : Int)) := hB1c.cell 3
  have kf3 : (wc.alloc (.cells #[.int .i64 (me : Int), .int .i64 (rev : Int), .int .i64 (next : Int), .int .i64 (f2 : Int), .int .i64 (bo2 : Int), .int .i64 free, .slice A3 l2.length c3] 60)).frozen? ⟨wa.heap.size, 3, none⟩ = false := hB1c.frozen 3
  have k4 : (wc.alloc (.cells #[.int .i64 (me : Int), .int .i64 (rev : Int), .int .i64 (next : Int), .int .i64 (f2 : Int), .int .i64 (bo2 : Int), .int .i64 free, .slice A3 l2.length c3] 60)).cell? ⟨wa.heap.size, 4, none⟩ = some (.int .i64 (bought : Int)) := hB1c.cell 4
  have kf4 : (wc.alloc (.cells #[.int .i64 (me : Int), .int .i64 (rev : Int), .int .i64 (next : Int), .int .i64 (f2 : Int), .int .i64 (bo2 : Int), .int .i64 free, .slice A3 l2.length c3] 60)).frozen? ⟨wa.heap.size, 4, none⟩ = false := hB1c.frozen 4
  have k5 : (wc.alloc (.cells #[.int .i64 (me : Int), .int .i64 (rev : Int), .int .i64 (next : Int), .int .i64 (f2 : Int), .int .i64 (bo2 : Int), .int .i64 free, .slice A3 l2.length c3] 60)).cell? ⟨wa.heap.size, 5, none⟩ = some (.int .i64 free) := hB1c.cell 5
  have kf5 : (wc.alloc (.cells #[.int .i64 (me : Int), .int .i64 (rev : Int), .int .i64 (next : Int), .int .i64 (f2 : Int), .int .i64 (bo2 : Int), .int .i64 free, .slice A3 l2.length c3] 60)).frozen? ⟨wa.heap.size, 5, none⟩ = false := hB1c.frozen 5
  have k6 : (wc.alloc (.cells #[.int .i64 (me : Int), .int .i64 (rev : Int), .int .i64 (next : Int), .int .i64 (f2 : Int), .int .i64 (bo2 : Int), .int .i64 free, .slice A3 l2.length c3] 60)).cell? ⟨wa.heap.size, 6, none⟩ = some (.slice A1 l.length c1) := hB1c.cell 6
  have kf6 : (wc.alloc (.cells #[.int .i64 (me : Int), .int .i64 (rev : Int), .int .i64 (next : Int), .int .i64 (f2 : Int), .int .i64 (bo2 : Int), .int .i64 free, .slice A3 l2.length c3] 60)).frozen? ⟨wa.heap.size, 6, none⟩ = false := hB1c.frozen 6
  have hne13 : wa.heap.size ≠ wc.heap.size := by omega
  go_wp2_with fail
  refine (hX3 _ hds1c).mono ?_
  rintro e wd ⟨A4, c4, rfl, hds4, hbd⟩
  have hbz0 := below_a1 wd (.cells #[.int .i64 (me : Int), .int .i64 (rev : Int), .int .i64 (next : Int), .int .i64 (f2 : Int), .int .i64 (bo2 : Int), .int .i64 free, .slice A4 l2.length c4] 60)
  have hB1d := (hB1c.below hbd hlt3).alloc (.cells #[.int .i64 (me : Int), .int .i64 (rev : Int), .int .i64 (next : Int), .int .i64 (f2 : Int), .int .i64 (bo2 : Int), .int .i64 free, .slice A4 l2.length c4] 60)
  have hB3d := (hB3.below hbd hB3.lt).alloc (.cells #[.int .i64 (me : Int), .int .i64 (rev : Int), .int .i64 (next : Int), .int .i64 (f2 : Int), .int .i64 (bo2 : Int), .int .i64 free, .slice A4 l2.length c4] 60)
  have hds3d := (hds3c.below hbd).below hbz0
  have hds4d := hds4.below hbz0
  have hBw4 := (hBw3.step hbd).step hbz0
  clear k0 k1 k2 k3 k4 k5 k6 kf0 kf1 kf2 kf3 kf4 kf5 kf6
  have i0 : (wd.alloc (.cells #[.int .i64 (me : Int), .int .i64 (rev : Int), .int .i64 (next : Int), .int .i64 (f2 : Int), .int .i64 (bo2 : Int), .int .i64 free, .slice A4 l2.length c4] 60)).cell? ⟨wc.heap.size, 0, none⟩ = some (.int .i64 (me : Int)) := hB3d.cell 0
  have if0 : (wd.alloc (.cells #[.int .i64 (me : Int), .int .i64 (rev : Int), .int .i64 (next : Int), .int .i64 (f2 : Int), .int .i64 (bo2 : Int), .int .i64 free, .slice A4 l2.length c4] 60)).frozen? ⟨wc.heap.size, 0, none⟩ = false := hB3d.frozen 0
  have i1 : (wd.alloc (.cells #[.int .i64 (me : Int), .int .i64 (rev : Int), .int .i64 (next : Int), .int .i64 (f2 : Int), .int .i64 (bo2 : Int), .int .i64 free, .slice A4 l2.length c4] 60)).cell? ⟨wc.heap.size, 1, none⟩ = some (.int .i64 (rev : Int)) := hB3d.cell 1
  have if1 : (wd.alloc (.cells #[.int .i64 (me : Int), .int .i64 (rev : Int), .int .i64 (next : Int), .int .i64 (f2 : Int), .int .i64 (bo2 : Int), .int .i64 free, .slice A4 l2.length c4] 60)).frozen? ⟨wc.heap.size, 1, none⟩ = false := hB3d.frozen 1
  have i2 : (wd.alloc (.cells #[.int .i64 (me : Int), .int .i64 (rev : Int), .int .i64 (next : Int), .int .i64 (f2 : Int), .int .i64 (bo2 : Int), .int .i64 free, .slice A4 l2.length c4] 60)).cell? ⟨wc.heap.size, 2, none⟩ = some (.int .i64 (next : Int)) := hB3d.cell 2
  have if2 : (wd.alloc (.cells #[.int .i64 (me : Int), .int .i64 (rev : Int), .int .i64 (next : Int), .int .i64 (f2 : Int), .int .i64 (bo2 : Int), .int .i64 free, .slice A4 l2.length c4] 60)).frozen? ⟨wc.heap.size, 2, none⟩ = false := hB3d.frozen 2
  have i3 : (wd.alloc (.cells #[.int .i64 (me : Int), .int .i64 (rev : Int), .int .i64 (next : Int), .int .i64 (f2 : Int), .int .i64 (bo2 : Int), .int .i64 free, .slice A4 l2.length c4] 60)).cell? ⟨wc.heap.size, 3, none⟩ = some (.int .i64 (f2 : Int)) := hB3d.cell 3
  have if3 : (wd.alloc (.cells #[.int .i64 (me : Int), .int .i64 (rev : Int), .int .i64 (next : Int), .int .i64 (f2 : Int), .int .i64 (bo2 : Int), .int .i64 free, .slice A4 l2.length c4] 60)).frozen? ⟨wc.heap.size, 3, none⟩ = false := hB3d.frozen 3
  have i4 : (wd.alloc (.cells #[.int .i64 (me : Int), .int .i64 (rev : Int), .int .i64 (next : Int), .int .i64 (f2 : Int), .int .i64 (bo2 : Int), .int .i64 free, .slice A4 l2.length c4] 60)).cell? ⟨wc.heap.size, 4, none⟩ = some (.int .i64 (bo2 : Int)) := hB3d.cell 4
  have if4 : (wd.alloc (.cells #[.int .i64 (me : Int), .int .i64 (rev : Int), .int .i64 (next : Int), .int .i64 (f2 : Int), .int .i64 (bo2 : Int), .int .i64 free, .slice A4 l2.length c4] 60)).frozen? ⟨wc.heap.size, 4, none⟩ = false := hB3d.frozen 4
  have i5 : (wd.alloc (.cells #[.int .i64 (me : Int), .int .i64 (rev : Int), .int .i64 (next : Int), .int .i64 (f2 : Int), .int .i64 (bo2 : Int), .int .i64 free, .slice A4 l2.length c4] 60)).cell? ⟨wc.heap.size, 5, none⟩ = some (.int .i64 free) := hB3d.cell 5
  have if5 : (wd.alloc (.cells #[.int .i64 (me : Int), .int .i64 (rev : Int), .int .i64 (next : Int), .int .i64 (f2 : Int), .int .i64 (bo2 : Int), .int .i64 free, .slice A4 l2.length c4] 60)).frozen? ⟨wc.heap.size, 5, none⟩ = false := hB3d.frozen 5
  have i6 : (wd.alloc (.cells #[.int .i64 (me : Int), .int .i64 (rev : Int), .int .i64 (next : Int), .int .i64 (f2 : Int), .int .i64 (bo2 : Int), .int .i64 free, .slice A4 l2.length c4] 60)).cell? ⟨wc.heap.size, 6, none⟩ = some (.slice A3 l2.length c3) := hB3d.cell 6
  have if6 : (wd.alloc (.cells #[.int .i64 (me : Int), .int .i64 (rev : Int), .int .i64 (next : Int), .int .i64 (f2 : Int), .int .i64 (bo2 : Int), .int .i64 free, .slice A4 l2.length c4] 60)).frozen? ⟨wc.heap.size, 6, none⟩ = false := hB3d.frozen 6
  go_wp2_with fail
  refine (sameAcc_ok _ _ _ _ _ _ A3 l2.length c3 A4 l2.length c4 l2 _ hds3d hds4d).mono ?_
  rintro e we ⟨rfl, hbe⟩
  have hB1e := hB1d.below hbe hB1d.lt
  have hB3e := hB3d.below hbe hB3d.lt
  have hBw5 := hBw4.step hbe
  clear i0 i1 i2 i3 i4 i5 i6 if0 if1 if2 if3 if4 if5 if6
  have i3 := hB3e.cell 3
  have i4 := hB3e.cell 4
  have k3 := hB1e.cell 3
  rcases hbz with rfl | ⟨g1, rfl⟩
  all_goals
    go_wp2
    go_ret
    exact ⟨rfl, hBw5⟩
end Go.Proofs.Ytbabbejigcobjaa

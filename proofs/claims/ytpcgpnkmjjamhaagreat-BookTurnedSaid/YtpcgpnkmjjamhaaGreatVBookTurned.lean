/- The walk of the law BookTurned. -/
import Derived.Test.YtpcgpnkmjjamhaaGreatM37
import Derived.Test.YtpcgpnkmjjamhaaGreatMxGrow
namespace Go.Proofs.YtpcgpnkmjjamhaaGreat
open Go.RowKit
set_option linter.unusedVariables false
set_option maxRecDepth 100000 in
set_option maxHeartbeats 16000000 in
theorem walk_bookTurned (w : World) (a0 : Value) (w0 : Fit Tryz.prog w 24 a0) (a1 : Value) (w1 : Fit Tryz.prog w 25 a1) (a2 : Int) (w2 : (Lit.int .i64 a2).wf = true) (a3 : Int) (w3 : (Lit.int .i64 a3).wf = true) :
   Calls Tryz.prog 3 #[a0, a1, .int .i64 a2, .int .i64 a3] w fun e w' => e = .returned (.bool true) ∧ Below w.heap.size w w' := by
 obtain ⟨A, n, m, g, a, b, c, d, rfl, wa, wb, wc0, wd, hv⟩ := deal_fit w0
 obtain ⟨Al, nl, cl, f, rfl, hl⟩ := orders_fit w1
 have hO := fun W h1 h2 => opened_ok A n m g a b c d Al nl cl f W wa wb wc0 wd h1 h2
 unfold RetOpd at hO
 clear w0 w1
 have H := Mem.init w
 obtain ⟨W0, hW0⟩ : ∃ W0, (w).alloc (.cells #[.slice A n m, .int .i64 a, .int .i64 b, .int .i64 c, .int .i64 d] 24) = W0 := ⟨_, rfl⟩
 replace H := Mem.alloc H (w.heap.size) (by first | (simp; done) | (simp; omega)) #[.slice A n m, .int .i64 a, .int .i64 b, .int .i64 c, .int .i64 d] 24
 simp only [List.nil_append] at H
 rw [hW0] at H
 have hv0 := hv.below H.below
 have hl0 := hl.below H.below
 obtain ⟨ddlt, dd0, ddf0, dd1, ddf1, dd2, ddf2, dd3, ddf3, dd4, ddf4⟩ := H.c5 0 rfl
 go_enter Tryz.func3, Tryz.ntmps3
 go_wp2_with fail
 refine (hO _ hv0 hl0).mono ?_
 rintro e w1 ⟨T, At, nt, ct, cc, L, B, lp, Aw, cw, Ap, cp, b1, b2, b3, rfl, hT, hnt, hwl, hS, HK⟩
 replace H : Mem (w) [] (w1) [.blk (w.heap.size) 24 #[.slice A n m, .int .i64 a, .int .i64 b, .int .i64 c, .int .i64 d], .row (b1) (166) (2) (.slice At nt ct) (nt) (drs T.tl), .row (b2) (225) (4) (.slice Ap lp.length cp) (lp.length) (prs lp), .row (b3) (111) (1) (.slice Aw 600 cw) (600) (ws cc)] := Mem.join H HK
 have HN := Lib.hid hnt
 have HS := Lib.hid hS
 have HL := Lib.hid hwl
 clear hO hW0 hv0 hl0 HK hnt hS hwl
 clear ddlt dd0 ddf0 dd1 ddf1 dd2 ddf2 dd3 ddf3 dd4 ddf4
 go_wp2_with fail
 obtain ⟨we0, hwe0⟩ : ∃ we0, (w1).alloc (.cells #[.slice At nt ct, .int .i64 ↑T.fx, .int .i64 ↑T.fb, .int .i64 ↑T.db, .int .i64 ↑T.al, .slice Aw 600 cw, .slice Ap lp.length cp] 34) = we0 := ⟨_, rfl⟩
 replace H := Mem.alloc H (w1.heap.size) (by first | (simp; done) | (simp; omega)) #[.slice At nt ct, .int .i64 ↑T.fx, .int .i64 ↑T.fb, .int .i64 ↑T.db, .int .i64 ↑T.al, .slice Aw 600 cw, .slice Ap lp.length cp] 34
 simp only [List.cons_append, List.nil_append] at H
 rw [hwe0] at H ⊢
 clear hwe0
 have hws := isws_own (xs := cc) HS.out.len HL.out (H.own_ 3 rfl)
 have hEv := fun W h => events_ok T (.slice At nt ct) (.slice Ap lp.length cp) (.int .i64 ↑T.fx) (.int .i64 ↑T.fb) (.int .i64 ↑T.db) (.int .i64 ↑T.al) Aw 600 cw cc L B W h HS.out.srv
 unfold RetEvs at hEv
 obtain ⟨ne, hne⟩ : ∃ ne, L.length = ne := ⟨_, rfl⟩
 have hne3 : 3 ≤ ne ∧ ne ≤ 15 := by
   obtain ⟨M, m1, m2, m3⟩ := HS.out.evs
   rw [← hne, m1]; simp; omega
 rw [hne] at hEv
 have HE := Lib.hid hne
 clear hne
 obtain ⟨shlt, sh0, shf0, sh1, shf1, sh2, shf2, sh3, shf3, sh4, shf4, sh5, shf5, sh6, shf6⟩ := H.c7 4 rfl
 go_wp2_with fail
 have wf5 := w2
 have wf6 := w3
 clear w2 w3
 refine (hEv _ hws).mono ?_
 rintro e w3 ⟨Ae, ce, rfl, howe, hb3⟩
 replace H : Mem (w) [] (w3) [.blk (w.heap.size) 24 #[.slice A n m, .int .i64 a, .int .i64 b, .int .i64 c, .int .i64 d], .row (b1) (166) (2) (.slice At nt ct) (nt) (drs T.tl), .row (b2) (225) (4) (.slice Ap lp.length cp) (lp.length) (prs lp), .row (b3) (111) (1) (.slice Aw 600 cw) (600) (ws cc), .blk (w1.heap.size) 34 #[.slice At nt ct, .int .i64 ↑T.fx, .int .i64 ↑T.fb, .int .i64 ↑T.db, .int .i64 ↑T.al, .slice Aw 600 cw, .slice Ap lp.length cp], .row (we0.heap.size) (46) (13) (.slice Ae ne ce) (ne) (evs L)] := Mem.row H hb3 howe (Nat.le_refl _)
 clear hEv hws howe hb3
 obtain ⟨ge, rfl⟩ : ∃ ge, Ae = some ⟨ge, 0, none⟩ := by
   rcases (H.own_ 5 rfl).2 with ⟨h, _⟩ | ⟨g', cap, cur, h, _⟩
   · injection h with _ h2; omega
   · injection h with h1; exact ⟨g', h1⟩
 obtain ⟨q, hq, hqn⟩ := pk_nat a2 ne (by omega)
 have hql : q < L.length := by rw [HE.out]; exact hqn
 obtain ⟨u, hu⟩ : ∃ u, L[q] = u := ⟨_, rfl⟩
 have HU := Lib.hid hu
 have hown := H.own_ 5 rfl
 have hget := fun j (hj : j < 13) => (hown.cellAt (q * 13 + j) (by omega)).trans (evs_get hql hj)
 have d0 : w3.cell? ⟨ge, q * 13, none⟩ = some (.int .i64 ↑u.k) := by rw [← hu]; exact hget 0 (by omega)
 have d4 : w3.cell? ⟨ge, q * 13 + 4, none⟩ = some (.int .i64 ↑u.te) := by rw [← hu]; exact hget 4 (by omega)
 have d7 : w3.cell? ⟨ge, q * 13 + 7, none⟩ = some (.int .i64 ↑u.pr) := by rw [← hu]; exact hget 7 (by omega)
 have df4 : w3.frozen? ⟨ge, q * 13 + 4, none⟩ = false := hown.frozenAt _
 have df7 : w3.frozen? ⟨ge, q * 13 + 7, none⟩ = false := hown.frozenAt _
 have hbd := (HS.out.srv.ok _ (List.getElem_mem hql)).bds
 have htwo := fun h => (HS.out.srv.ok _ (List.getElem_mem hql)).two h
 have hq1 : (1 : Int) ≤ (ne : Int) := by omega
 have hq2 : (ne : Int) ≤ 9223372036854775807 := by omega
 have hne1 : ¬ (ne : Int) < 3 := by omega
 rw [hu] at hbd htwo
 clear hget hown hu
 have qlt : (q : Int) < (ne : Int) := by omega
 go_wp2_with fail
 refine (picked_is _ hq wf5 hq1 hq2).mono ?_
 rintro e w' ⟨rfl, rfl⟩
 by_cases hk : u.k = 2
 · have hkI : ((u.k : Int) == 2) = true := by simp; omega
   have htwo := htwo hk
   have hpt : u.pr ≤ u.te := by omega
   clear htwo
   obtain ⟨y, hy, hy10⟩ := pk_nat a3 10 (by omega)
   have HH : Hid (pk a3 10 = (y : Int)) := hy
   have HK2 := Lib.hid hk
   have wp1 : IntKind.i64.wrap (1 + (y : Int)) = 1 + (y : Int) := IntWalk.i64_in _ (by omega)
   have wp2 : IntKind.i64.wrap ((u.pr : Int) + (1 + (y : Int))) = (u.pr : Int) + (1 + (y : Int)) := IntWalk.i64_in _ (by omega)
   have wp3 : IntKind.i64.wrap ((u.te : Int) + (1 + (y : Int))) = (u.te : Int) + (1 + (y : Int)) := IntWalk.i64_in _ (by omega)
   have hz1 : q * 13 + 7 ≠ q * 13 + 4 := by omega
   have hz2 : q * 13 + 4 ≠ q * 13 + 7 := by omega
   clear hy hk
   go_wp2_with fail
   refine (picked_is _ HH wf6 (by omega) (by omega)).mono ?_
   rintro e w' ⟨rfl, rfl⟩
   have hng := H.ner 4 5 rfl rfl (by decide)
   have ng1 : w1.heap.size ≠ ge := fun e => hng (by rw [e]; rfl)
   have ng2 : ge ≠ w1.heap.size := fun e => hng (by rw [← e]; rfl)
   clear hng
   clear shlt sh0 shf0 sh1 shf1 sh2 shf2 sh3 shf3 sh4 shf4 sh5 shf5 sh6 shf6
   obtain ⟨shlt, sh0, shf0, sh1, shf1, sh2, shf2, sh3, shf3, sh4, shf4, sh5, shf5, sh6, shf6⟩ := H.c7 4 rfl
   go_wp2_with fail
   obtain ⟨x, hx⟩ : ∃ x, 1 + y = x := ⟨_, rfl⟩
   have HZ := Mem.rowset 5 (Mem.rowset 5 H rfl (q * 13 + 7) (.int .i64 ((u.pr : Int) + (1 + (y : Int))))) rfl (q * 13 + 4) (.int .i64 ((u.te : Int) + (1 + (y : Int))))
   simp only [List.set_cons_succ, List.set_cons_zero] at HZ
   rw [evs_turned (x := x) hql _ _ (by rw [HU.out, ← hx]; simp [turned]) (by rw [HU.out, ← hx]; simp [turned])] at HZ
   obtain ⟨Bi, t1, t2, t3, t4⟩ := HS.out.turn (x := x) hT (by omega) hql (by rw [HU.out]; exact HK2.out) (by omega) (by omega)
   obtain ⟨L2, hL2⟩ : ∃ L2, L.set q (turned L[q] x) = L2 := ⟨_, rfl⟩
   have hl2 : L2.length = ne := by rw [← hL2, List.length_set]; exact HE.out
   have hq2' : q < L2.length := by omega
   have hat : L2[q] = turned L[q] x := by simp only [← hL2, List.getElem_set_self]
   have hbad : L2[q].k = 2 ∧ (∃ i, place Bi L2[q].me = some i) ∧ (keepE T Bi L2[q]).1 ≠ 0 := by
     rw [hat]
     exact ⟨by show L[q].k = 2; rw [HU.out]; exact HK2.out, t3, t4⟩
   rw [hL2] at HZ t1 t2
   obtain ⟨wz, hwz⟩ : ∃ wz, (w3.setCell ⟨ge, q * 13 + 3 + 4, none⟩ (.int .i64 ((u.pr : Int) + (1 + (y : Int))))).setCell ⟨ge, q * 13 + 3 + 1, none⟩ (.int .i64 ((u.te : Int) + (1 + (y : Int)))) = wz := ⟨_, rfl⟩
   replace HZ : Mem w [] wz _ := hwz ▸ HZ
   rw [hwz]
   have hOf := fun W h1 h2 => of_no T hT At nt ct (.slice (some ⟨ge, 0, none⟩) ne ce) L2 q Bi W h1 h2 (by omega) t2 hq2' t1 hbad
   clear H hwz d0 d4 d7 df4 df7 wp1 wp2 wp3 hz1 hz2 t1 t2 t3 t4 hbad hat hL2 hx hq2'
   clear shlt sh0 shf0 sh1 shf1 sh2 shf2 sh3 shf3 sh4 shf4 sh5 shf5 sh6 shf6
   have H : Mem (w) [] (wz) [.blk (w.heap.size) 24 #[.slice A n m, .int .i64 a, .int .i64 b, .int .i64 c, .int .i64 d], .row (b1) (166) (2) (.slice At nt ct) (nt) (drs T.tl), .row (b2) (225) (4) (.slice Ap lp.length cp) (lp.length) (prs lp), .row (b3) (111) (1) (.slice Aw 600 cw) (600) (ws cc), .blk (w1.heap.size) 34 #[.slice At nt ct, .int .i64 ↑T.fx, .int .i64 ↑T.fb, .int .i64 ↑T.db, .int .i64 ↑T.al, .slice Aw 600 cw, .slice Ap lp.length cp], .row (we0.heap.size) (46) (13) (.slice (some ⟨ge, 0, none⟩) ne ce) (ne) (evs L2)] := HZ
   clear HZ
   have hds := isds_own (l := T.tl) HN.out.symm (H.own_ 1 rfl)
   have hes := ises_own (l := L2) hl2 (H.own_ 5 rfl)
   refine (hOf _ hds hes).mono ?_
   rintro e w9 ⟨E, hE, rfl, hb9⟩
   have hEb : ((E : Int) == 0) = false := by simp; omega
   have hEc : ((E : Int) != 0) = true := by simp; omega
   have hEn : ¬ (E : Int) = 0 := by omega
   have hbF := H.below.trans (hb9.mono H.below.size)
   clear hOf hds hes

   go_wp2
   go_ret
   exact ⟨rfl, hbF.trans ((below_a1 _ _).mono hbF.size)⟩
 · have hkI : ((u.k : Int) == 2) = false := by simp; omega
   have hkn : ¬ (u.k : Int) = 2 := by omega
   have hbF := H.below
   go_wp2
   go_ret
   exact ⟨rfl, hbF⟩
end Go.Proofs.YtpcgpnkmjjamhaaGreat

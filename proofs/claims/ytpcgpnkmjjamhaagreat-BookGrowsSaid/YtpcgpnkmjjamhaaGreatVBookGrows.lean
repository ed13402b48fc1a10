/- The walk of the law BookGrows. -/
import Derived.Test.YtpcgpnkmjjamhaaGreatM37
import Derived.Test.YtpcgpnkmjjamhaaGreatMxGrow
import Derived.Test.YtpcgpnkmjjamhaaGreatMxSameB
namespace Go.Proofs.YtpcgpnkmjjamhaaGreat
open Go.RowKit
set_option linter.unusedVariables false
set_option maxRecDepth 100000 in
set_option maxHeartbeats 16000000 in
theorem walk_bookGrows (w : World) (a0 : Value) (w0 : Fit Tryz.prog w 24 a0) (a1 : Value) (w1 : Fit Tryz.prog w 25 a1) (a2 : Int) (w2 : (Lit.int .i64 a2).wf = true) :
   Calls Tryz.prog 5 #[a0, a1, .int .i64 a2] w fun e w' => e = .returned (.bool true) ∧ Below w.heap.size w w' := by
 obtain ⟨A, n, m, g, a, b, c, d, rfl, wa, wb, wc0, wd, hv⟩ := deal_fit w0
 obtain ⟨Al, nl, cl, f, rfl, hl⟩ := orders_fit w1
 have hO := fun W h1 h2 => opened_ok A n m g a b c d Al nl cl f W wa wb wc0 wd h1 h2
 unfold RetOpd at hO
 have wf5 := w2
 clear w0 w1 w2
 have H := Mem.init w
 obtain ⟨W0, hW0⟩ : ∃ W0, (w).alloc (.cells #[.slice A n m, .int .i64 a, .int .i64 b, .int .i64 c, .int .i64 d] 24) = W0 := ⟨_, rfl⟩
 replace H := Mem.alloc H (w.heap.size) (by first | (simp; done) | (simp; omega)) #[.slice A n m, .int .i64 a, .int .i64 b, .int .i64 c, .int .i64 d] 24
 simp only [List.nil_append] at H
 rw [hW0] at H
 have hv0 := hv.below H.below
 have hl0 := hl.below H.below
 obtain ⟨ddlt, dd0, ddf0, dd1, ddf1, dd2, ddf2, dd3, ddf3, dd4, ddf4⟩ := H.c5 0 rfl
 go_enter Tryz.func5, Tryz.ntmps5
 go_wp2_with fail
 refine (hO _ hv0 hl0).mono ?_
 rintro e w1 ⟨T, At, nt, ct, cc, L, B, lp, Aw, cw, Ap, cp, b1, b2, b3, rfl, hT, hnt, hwl, hS, HK⟩
 replace H : Mem (w) [] (w1) [.blk (w.heap.size) 24 #[.slice A n m, .int .i64 a, .int .i64 b, .int .i64 c, .int .i64 d], .row (b1) (166) (2) (.slice At nt ct) (nt) (drs T.tl), .row (b2) (225) (4) (.slice Ap lp.length cp) (lp.length) (prs lp), .row (b3) (111) (1) (.slice Aw 600 cw) (600) (ws cc)] := Mem.join H HK
 have HN := Lib.hid hnt
 have HS := Lib.hid hS
 have HL := Lib.hid hwl
 clear hO hW0 hv0 hl0 HK hnt hS hwl
 clear ddlt dd0 ddf0 dd1 ddf1 dd2 ddf2 dd3 ddf3 dd4 ddf4
 go_wp2_with fail
 obtain ⟨w2, hw2⟩ : ∃ w2, (w1).alloc (.cells #[.slice At nt ct, .int .i64 ↑T.fx, .int .i64 ↑T.fb, .int .i64 ↑T.db, .int .i64 ↑T.al, .slice Aw 600 cw, .slice Ap lp.length cp] 34) = w2 := ⟨_, rfl⟩
 replace H := Mem.alloc H (w1.heap.size) (by first | (simp; done) | (simp; omega)) #[.slice At nt ct, .int .i64 ↑T.fx, .int .i64 ↑T.fb, .int .i64 ↑T.db, .int .i64 ↑T.al, .slice Aw 600 cw, .slice Ap lp.length cp] 34
 simp only [List.cons_append, List.nil_append] at H
 rw [hw2] at H ⊢
 clear hw2
 have hws := isws_own (xs := cc) HS.out.len HL.out (H.own_ 3 rfl)
 have hEv := fun W h => events_ok T (.slice At nt ct) (.slice Ap lp.length cp) (.int .i64 ↑T.fx) (.int .i64 ↑T.fb) (.int .i64 ↑T.db) (.int .i64 ↑T.al) Aw 600 cw cc L B W h HS.out.srv
 unfold RetEvs at hEv
 obtain ⟨ne, hne⟩ : ∃ ne, L.length = ne := ⟨_, rfl⟩
 have hne3 : 3 ≤ ne ∧ ne ≤ 15 := by
   obtain ⟨M, m1, m2, m3⟩ := HS.out.evs
   rw [← hne, m1]; simp; omega
 rw [hne] at hEv
 have HE := Lib.hid hne
 clear hne
 obtain ⟨shlt, sh0, shf0, sh1, shf1, sh2, shf2, sh3, shf3, sh4, shf4, sh5, shf5, sh6, shf6⟩ := H.c7 4 rfl
 go_wp2_with fail
 refine (hEv _ hws).mono ?_
 rintro e w3 ⟨Ae, ce, rfl, howe, hb3⟩
 replace H : Mem (w) [] (w3) [.blk (w.heap.size) 24 #[.slice A n m, .int .i64 a, .int .i64 b, .int .i64 c, .int .i64 d], .row (b1) (166) (2) (.slice At nt ct) (nt) (drs T.tl), .row (b2) (225) (4) (.slice Ap lp.length cp) (lp.length) (prs lp), .row (b3) (111) (1) (.slice Aw 600 cw) (600) (ws cc), .blk (w1.heap.size) 34 #[.slice At nt ct, .int .i64 ↑T.fx, .int .i64 ↑T.fb, .int .i64 ↑T.db, .int .i64 ↑T.al, .slice Aw 600 cw, .slice Ap lp.length cp], .row (w2.heap.size) (46) (13) (.slice Ae ne ce) (ne) (evs L)] := Mem.row H hb3 howe (Nat.le_refl _)
 clear hEv hws howe hb3
 have hec := (own_cap2 (H.own_ 5 rfl)).1
 have hec2 := (own_cap2 (H.own_ 5 rfl)).2
 have hds := isds_own (l := T.tl) HN.out.symm (H.own_ 1 rfl)
 have hes := ises_own (l := L) HE.out (H.own_ 5 rfl)
 have hOf := fun W h1 h2 => of_yes T hT At nt ct (.slice Ae ne ce) L B W h1 h2 (by rw [HE.out]; omega) HS.out.srv.ok HS.out.srv.run
 have hcus := HS.out.cus
 simp only [hcus] at hOf
 clear hcus
 clear shlt sh0 shf0 sh1 shf1 sh2 shf2 sh3 shf3 sh4 shf4 sh5 shf5 sh6 shf6
 obtain ⟨shlt, sh0, shf0, sh1, shf1, sh2, shf2, sh3, shf3, sh4, shf4, sh5, shf5, sh6, shf6⟩ := H.c7 4 rfl
 go_wp2_with fail
 refine (hOf _ hds hes).mono ?_
 rintro e w4 ⟨Ab, cb, rfl, hbk, hb4⟩
 have hB1 := hbk.is
 replace H := Mem.call H hb4
 clear hOf hds hes hbk hb4
 clear shlt sh0 shf0 sh1 shf1 sh2 shf2 sh3 shf3 sh4 shf4 sh5 shf5 sh6 shf6
 have hds := isds_own (l := T.tl) HN.out.symm (H.own_ 1 rfl)
 have hws := isws_own (xs := cc) HS.out.len HL.out (H.own_ 3 rfl)
 obtain ⟨shlt, sh0, shf0, sh1, shf1, sh2, shf2, sh3, shf3, sh4, shf4, sh5, shf5, sh6, shf6⟩ := H.c7 4 rfl
 go_wp2_with fail
 obtain ⟨w5, hw5⟩ : ∃ w5, (w4).alloc (.cells #[.slice Ab 3 cb] 49) = w5 := ⟨_, rfl⟩
 replace H := Mem.alloc H (w4.heap.size) (by first | (simp; done) | (simp; omega)) #[.slice Ab 3 cb] 49
 simp only [List.cons_append, List.nil_append] at H
 rw [hw5] at H ⊢
 replace hB1 : IsBk w5 (.slice Ab 3 cb) B := by rw [← hw5]; exact hB1.below (below_a1 w4 _)
 replace hds : IsDs w5 (.slice At nt ct) T.tl := by rw [← hw5]; exact hds.below (below_a1 w4 _)
 replace hws : IsWs w5 (.slice Aw 600 cw) cc := by rw [← hw5]; exact hws.below (below_a1 w4 _)
 clear hw5
 refine (load_ok T hT At nt ct (.slice Aw 600 cw) cc L B _ hds hws HS.out.srv).mono ?_
 rintro e w6 ⟨v6, rfl, hbk, hb6⟩
 obtain ⟨Ab2, nb, cb2, rfl⟩ := hbk.slice
 have hB2 := hbk.is
 have hnb := hB2.len
 have hc3 := HS.out.cus
 obtain rfl : nb = 3 := by omega
 replace hB1 := hB1.below hb6
 replace H := Mem.call H hb6
 clear hds hws hb6 hnb hbk hc3
 clear shlt sh0 shf0 sh1 shf1 sh2 shf2 sh3 shf3 sh4 shf4 sh5 shf5 sh6 shf6
 obtain ⟨q, hq, hqn⟩ := pk_nat a2 (ne + 1) (by omega)
 have hq2 : Hid (pk a2 ((ne : Int) + 1) = (q : Int)) := hq
 have hpq : (1 : Int) ≤ (ne : Int) + 1 := by omega
 have hpq2 : (ne : Int) + 1 ≤ 9223372036854775807 := by omega
 have hwp : IntKind.i64.wrap ((ne : Int) + 1) = (ne : Int) + 1 := IntWalk.i64_in _ (by omega)
 clear hq
 go_wp2_with fail
 obtain ⟨w7, hw7⟩ : ∃ w7, (w6).alloc (.cells #[.slice Ab2 3 cb2] 49) = w7 := ⟨_, rfl⟩
 replace H := Mem.alloc H (w6.heap.size) (by first | (simp; done) | (simp; omega)) #[.slice Ab2 3 cb2] 49
 simp only [List.cons_append, List.nil_append] at H
 rw [hw7] at H ⊢
 replace hB1 : IsBk w7 (.slice Ab 3 cb) B := by rw [← hw7]; exact hB1.below (below_a1 w6 _)
 replace hB2 : IsBk w7 (.slice Ab2 3 cb2) B := by rw [← hw7]; exact hB2.below (below_a1 w6 _)
 clear hw7
 refine (picked_is _ hq2 wf5 hpq hpq2).mono ?_
 rintro e w' ⟨rfl, rfl⟩
 clear hq2 hpq hpq2 hwp
 obtain ⟨Bq, hr1, hr2, hr3, hr4⟩ := HS.out.begin q (by rw [HE.out]; omega)
 have hds := isds_own (l := T.tl) HN.out.symm (H.own_ 1 rfl)
 have hes := (ises_own (l := L) HE.out (H.own_ 5 rfl)).take (k := q) (by rw [HE.out]; omega)
 have hOf := fun W h1 h2 => of_yes T hT At nt ct (.slice Ae q q) (L.take q) Bq W h1 h2 (by simp; omega) (fun v hv => HS.out.srv.ok v (List.mem_of_mem_take hv)) hr1
 obtain ⟨nq, hnq⟩ : ∃ nq, Bq.length = nq := ⟨_, rfl⟩
 rw [hnq] at hOf hr3
 have HR := Lib.hid (And.intro hr4 (And.intro hnq hr3))
 have hqc : (q : Int) ≤ (ce : Int) := by omega
 have hnq3 : nq ≤ 3 := by omega
 clear hr1 hr2 hr4 hnq hr3
 obtain ⟨shlt, sh0, shf0, sh1, shf1, sh2, shf2, sh3, shf3, sh4, shf4, sh5, shf5, sh6, shf6⟩ := H.c7 4 rfl
 go_upto_region 8 with fail
 obtain ⟨LL, hLL⟩ : ∃ LL : List Chunk, [.blk (w.heap.size) 24 #[.slice A n m, .int .i64 a, .int .i64 b, .int .i64 c, .int .i64 d], .row (b1) (166) (2) (.slice At nt ct) (nt) (drs T.tl), .row (b2) (225) (4) (.slice Ap lp.length cp) (lp.length) (prs lp), .row (b3) (111) (1) (.slice Aw 600 cw) (600) (ws cc), .blk (w1.heap.size) 34 #[.slice At nt ct, .int .i64 ↑T.fx, .int .i64 ↑T.fb, .int .i64 ↑T.db, .int .i64 ↑T.al, .slice Aw 600 cw, .slice Ap lp.length cp], .row (w2.heap.size) (46) (13) (.slice Ae ne ce) (ne) (evs L), .blk (w4.heap.size) 49 #[.slice Ab 3 cb], .blk (w6.heap.size) 49 #[.slice Ab2 3 cb2]] = LL := ⟨_, rfl⟩
 rw [hLL] at H
 go_cut [16, 17, 18] (fun p0 p1 p2 wx => ∃ (pb : Nat) (A5 : Option Addr) (c5 : Nat), p0 = .pointer (some ⟨pb, 0, none⟩) ∧ p1 = .int .i64 0 ∧ p2 = .int .i64 0 ∧ IsBk wx (.slice A5 nq c5) Bq ∧ Mem (w) [] wx (LL ++ (.blk pb 49 #[.slice A5 nq c5] :: [])) ∧ Below w7.heap.size w7 wx)
 case first =>
   have nz0a : w7.heap.size ≠ w1.heap.size := by have := shlt; omega
   have nz0b : w7.heap.size + 1 ≠ w1.heap.size := by have := shlt; omega
   have nz0c : w1.heap.size ≠ w7.heap.size := by have := shlt; omega
   have nz0d : w1.heap.size ≠ w7.heap.size + 1 := by have := shlt; omega
   have V0 : Mem w7 [] (w7).drew [] := (Mem.init w7).drew
   have B0 := V0.below
   have V1 : Mem w7 [] (w7.alloc (.cells #[.slice none 0 0] 49)).drew [.blk (w7.heap.size) 49 #[.slice none 0 0]] := ((Mem.init w7).alloc _ rfl #[.slice none 0 0] 49).drew
   have B1 := V1.below
   have V1b0 := V1.blk 0 rfl
   go_region_held3 (fun w' => w'.cell? ⟨w1.heap.size, 0, none⟩ = some (.slice At nt ct) ∧ w'.cell? ⟨w1.heap.size, 1, none⟩ = some (.int .i64 ↑T.fx) ∧ w'.cell? ⟨w1.heap.size, 2, none⟩ = some (.int .i64 ↑T.fb) ∧ w'.cell? ⟨w1.heap.size, 3, none⟩ = some (.int .i64 ↑T.db) ∧ w'.cell? ⟨w1.heap.size, 4, none⟩ = some (.int .i64 ↑T.al) ∧ w'.cell? ⟨w1.heap.size, 5, none⟩ = some (.slice Aw 600 cw) ∧ w'.cell? ⟨w1.heap.size, 6, none⟩ = some (.slice Ap lp.length cp)) (first | with_reducible exact ⟨s0, s1, s2, s3, s4, s5, s6⟩ | go_keep | fail) (first | (go_at_call 12; (with_reducible refine (hOf (w7).drew (hds.below B0) (hes.below B0)).mono ?_); rintro e we ⟨A5, c5, rfl, hk8, hbe⟩; have hV := V0; have hK : Mem (w7).drew [] we [] := (Mem.init _).call hbe; have hWe : Below w7.heap.size w7 we := B0.trans (hbe.mono B0.size); have s0 := (hWe.cell (p := ⟨w1.heap.size, 0, none⟩) shlt).trans sh0; have s1 := (hWe.cell (p := ⟨w1.heap.size, 1, none⟩) shlt).trans sh1; have s2 := (hWe.cell (p := ⟨w1.heap.size, 2, none⟩) shlt).trans sh2; have s3 := (hWe.cell (p := ⟨w1.heap.size, 3, none⟩) shlt).trans sh3; have s4 := (hWe.cell (p := ⟨w1.heap.size, 4, none⟩) shlt).trans sh4; have s5 := (hWe.cell (p := ⟨w1.heap.size, 5, none⟩) shlt).trans sh5; have s6 := (hWe.cell (p := ⟨w1.heap.size, 6, none⟩) shlt).trans sh6; have sz := hWe.size; have ez0a : we.heap.size ≠ w1.heap.size := (by have := shlt; omega); have ez0b : we.heap.size + 1 ≠ w1.heap.size := (by have := shlt; omega)) | (go_at_call 12; (with_reducible refine (hOf (w7.alloc (.cells #[.slice none 0 0] 49)).drew (hds.below B1) (hes.below B1)).mono ?_); rintro e we ⟨A5, c5, rfl, hk8, hbe⟩; have hV := V1; have hK : Mem (w7.alloc (.cells #[.slice none 0 0] 49)).drew [] we [] := (Mem.init _).call hbe; have hWe : Below w7.heap.size w7 we := B1.trans (hbe.mono B1.size); have s0 := (hWe.cell (p := ⟨w1.heap.size, 0, none⟩) shlt).trans sh0; have s1 := (hWe.cell (p := ⟨w1.heap.size, 1, none⟩) shlt).trans sh1; have s2 := (hWe.cell (p := ⟨w1.heap.size, 2, none⟩) shlt).trans sh2; have s3 := (hWe.cell (p := ⟨w1.heap.size, 3, none⟩) shlt).trans sh3; have s4 := (hWe.cell (p := ⟨w1.heap.size, 4, none⟩) shlt).trans sh4; have s5 := (hWe.cell (p := ⟨w1.heap.size, 5, none⟩) shlt).trans sh5; have s6 := (hWe.cell (p := ⟨w1.heap.size, 6, none⟩) shlt).trans sh6; have sz := hWe.size; have ez0a : we.heap.size ≠ w1.heap.size := (by have := shlt; omega); have ez0b : we.heap.size + 1 ≠ w1.heap.size := (by have := shlt; omega); have zb0 := Blk.below V1b0 hbe V1b0.lt; have zb0_0 := zb0.cell 0; have zb0f0 := zb0.frozen 0; have zb0lt : w7.heap.size < we.heap.size := zb0.lt))
   all_goals
     go_wp2_with fail
     go_meet
     refine ⟨_, A5, c5, rfl, rfl, rfl, (by first | exact (hk8.below (below_a1 _ _)).is | exact (hk8.set_ _ _ _ V1b0.lt).is | exact hk8.is), ?_⟩
     first
     | with_reducible exact ⟨cr1_a H hV hK, (cr1_a (Mem.init w7) hV hK).below⟩
     | (have h := cr1_b (c := #[.slice A5 nq c5]) H hV hK [(0, .slice A5 nq c5)] (by simp only [List.foldl_cons, List.foldl_nil, List.setIfInBounds_toArray, List.set_cons_zero])
        have h2 := (cr1_b (c := #[.slice A5 nq c5]) (Mem.init w7) hV hK [(0, .slice A5 nq c5)] (by simp only [List.foldl_cons, List.foldl_nil, List.setIfInBounds_toArray, List.set_cons_zero])).below
        simp only [sets, List.foldl_cons, List.foldl_nil] at h h2
        with_reducible exact ⟨h, h2⟩)
 case rest =>
   obtain ⟨pb, A5, c5, rfl, rfl, rfl, hB3, H, hCR⟩ := hcut
   subst hLL
   replace H : Mem (w) [] (wc) [.blk (w.heap.size) 24 #[.slice A n m, .int .i64 a, .int .i64 b, .int .i64 c, .int .i64 d], .row (b1) (166) (2) (.slice At nt ct) (nt) (drs T.tl), .row (b2) (225) (4) (.slice Ap lp.length cp) (lp.length) (prs lp), .row (b3) (111) (1) (.slice Aw 600 cw) (600) (ws cc), .blk (w1.heap.size) 34 #[.slice At nt ct, .int .i64 ↑T.fx, .int .i64 ↑T.fb, .int .i64 ↑T.db, .int .i64 ↑T.al, .slice Aw 600 cw, .slice Ap lp.length cp], .row (w2.heap.size) (46) (13) (.slice Ae ne ce) (ne) (evs L), .blk (w4.heap.size) 49 #[.slice Ab 3 cb], .blk (w6.heap.size) 49 #[.slice Ab2 3 cb2], .blk (pb) 49 #[.slice A5 nq c5]] := H
   clear hOf hds hes hqc
   replace hB1 := hB1.below hCR
   replace hB2 := hB2.below hCR
   clear hCR
   have hmin : min (q : Int) 3 = (nq : Int) := by have := HR.out.2.2; omega
   have hmin2 : min q 3 = nq := HR.out.2.2.symm
   have hGr := HR.out
   clear shlt sh0 shf0 sh1 shf1 sh2 shf2 sh3 shf3 sh4 shf4 sh5 shf5 sh6 shf6
   obtain ⟨bklt, bk0, bkf0⟩ := H.c1 6 rfl
   obtain ⟨bk2lt, bk20, bk2f0⟩ := H.c1 7 rfl
   obtain ⟨pblt, pb0, pbf0⟩ := H.c1 8 rfl
   have ne_bk_bk2 := H.ne 6 7 rfl rfl (by decide)
   have ne_bk_pb := H.ne 6 8 rfl rfl (by decide)
   have ne_bk2_bk := H.ne 7 6 rfl rfl (by decide)
   have ne_bk2_pb := H.ne 7 8 rfl rfl (by decide)
   have ne_pb_bk := H.ne 8 6 rfl rfl (by decide)
   have ne_pb_bk2 := H.ne 8 7 rfl rfl (by decide)
   go_wp2_with fail
   refine (sameB_yes Ab 3 cb Ab2 3 cb2 B _ hB1 hB2 (by omega)).mono ?_
   rintro e w8 ⟨rfl, hb8⟩
   replace hB1 := hB1.below hb8
   replace hB3 := hB3.below hb8
   replace H := Mem.call H hb8
   clear hb8 hB2 hGr
   have hbF := H.below
   clear bklt bk0 bkf0 bk2lt bk20 bk2f0 pblt pb0 pbf0 ne_bk_bk2 ne_bk_pb ne_bk2_bk ne_bk2_pb ne_pb_bk ne_pb_bk2
   obtain ⟨bklt, bk0, bkf0⟩ := H.c1 6 rfl
   obtain ⟨pblt, pb0, pbf0⟩ := H.c1 8 rfl
   have ne_bk_pb := H.ne 6 8 rfl rfl (by decide)
   have ne_pb_bk := H.ne 8 6 rfl rfl (by decide)
   have HB1 := Lib.hid hB1
   have HB3 := Lib.hid hB3
   clear hB1 hB3
   go_wp2_with fail
   go_loopw [19] (fun i wr => ∃ k : Nat, k ≤ nq ∧ i = .int .i64 ↑k ∧ Below w8.heap.size w8 wr) (fun i _ => nq - (intOf i).toNat)
   case atStart => exact ⟨0, by omega, rfl, Below.refl _ _⟩
   case round =>
     obtain ⟨k, hk, rfl, hbr⟩ := hrel
     have p0 := (hbr.cell (p := ⟨pb, 0, none⟩) pblt).trans pb0
     have q0 := (hbr.cell (p := ⟨w4.heap.size, 0, none⟩) bklt).trans bk0
     by_cases hlt : k < nq
     · have hnq := HR.out.2.1
       have hkB : k < B.length := by have := HS.out.cus; omega
       obtain ⟨ba, oa, A1, c1, S1, d1, rfl, l1, _, hs1, _, _, _, _, _, _, _, f7⟩ := HB3.out.at_ (k := k) (by omega)
       obtain ⟨bb, ob, A2, c2, S2, d2, rfl, l2, _, hs2, _, _, _, _, _, _, _, g7⟩ := HB1.out.at_ (k := k) hkB
       have p7 := (hbr.cell (p := ⟨ba, oa + k * 8 + 7, none⟩) l1).trans f7
       have q7 := (hbr.cell (p := ⟨bb, ob + k * 8 + 7, none⟩) l2).trans g7
       replace hs1 := hs1.below hbr
       replace hs2 := hs2.below hbr
       obtain ⟨t, ht⟩ := HR.out.1.2 k (by omega)
       have e1 : Bq.getD k cu0 = Bq[k]'(by omega) := by simp [show k < Bq.length by omega]
       have e2 : B.getD k cu0 = B[k] := by simp [hkB]
       rw [e1, e2] at ht
       generalize Bq[k]'(by omega) = cu at *
       generalize B[k] = cv at *
       obtain ⟨n1, hn1⟩ : ∃ n, cu.s.length = n := ⟨_, rfl⟩
       obtain ⟨n2, hn2⟩ : ∃ n, cv.s.length = n := ⟨_, rfl⟩
       have hle : n1 ≤ n2 := by rw [← hn1, ← hn2, ht]; simp
       have hst := hs2.take (k := n1) (by omega)
       have het : cv.s.take n1 = cu.s := by rw [ht, ← hn1]; simp
       rw [het] at hst
       rw [hn1] at p7 hs1
       rw [hn2] at q7 hs2
       have hcap : n2 ≤ d2 := by obtain ⟨A9, c9, e9, h1, _⟩ := hs2; injection e9 with _ _ e; omega
       have hcI : (n1 : Int) ≤ (d2 : Int) := by omega
       have hlI : ¬ (n2 : Int) < (n1 : Int) := by omega
       have hlN : decide (n2 < n1) = false := decide_eq_false (by omega)
       have klt : (k : Int) < (nq : Int) := by omega
       clear f7 g7 l1 l2 e1 e2 ht het hn1 hn2 hs2 hle hcap hnq hkB
       go_wp2_with fail
       refine (sameS_is _ _ cu.s _ hs1 hst).mono ?_
       rintro e w9 ⟨rfl, hb9⟩
       go_wp2
       go_roundw
       case rel => exact ⟨k + 1, by omega, by go_num, hbr.trans (hb9.mono hbr.size)⟩
       case measure => simp [intOf]; omega
     · have klt : ¬ (k : Int) < (nq : Int) := by omega
       go_wp2
       go_ret
       exact ⟨rfl, hbF.trans (hbr.mono hbF.size)⟩
end Go.Proofs.YtpcgpnkmjjamhaaGreat

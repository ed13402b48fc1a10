/- The walk of the law VendPaper. -/
import Derived.Test.YtpcgpnkmjjamhaaGreatDoorQ47
import Derived.Test.YtpcgpnkmjjamhaaGreatDoorQ50
import Derived.Test.YtpcgpnkmjjamhaaGreatDoorQ13
namespace Go.Proofs.YtpcgpnkmjjamhaaGreatDoor
open Go.RowKit
set_option linter.unusedVariables false
set_option maxRecDepth 100000
set_option maxHeartbeats 16000000 in
theorem walk_vendPaper (w : World) (a0 : Value) (w0 : Fit Tryz.prog w 24 a0) (a1 : Value) (w1 : Fit Tryz.prog w 25 a1) (a2 : Value) (w2 : Fit Tryz.prog w 27 a2) :
   Calls Tryz.prog 3 #[a0, a1, a2] w fun e w' => e = .returned (.bool true) ∧ Below w.heap.size w w' := by
 obtain ⟨A, n, m, g, a, b, c, d, rfl, wa, wb, wc0, wd, hv⟩ := deal_fit w0
 obtain ⟨Al, nl, cl, f, rfl, hl⟩ := orders_fit w1
 obtain ⟨x0, x1, x2, x3, x4, rfl, wf0, wf1, wf2, wf3, wf4⟩ := order_fit w2
 clear w0 w1 w2
 obtain ⟨o, ho⟩ := od_of x0 x1 x2 x3 x4
 have hO := fun W h1 h2 => opened_ok A n m g a b c d Al nl cl f W wa wb wc0 wd h1 h2
 unfold RetOpd at hO
 have H := Mem.init w
 obtain ⟨W0, hW0⟩ : ∃ W0, ((w).alloc (.cells #[.slice A n m, .int .i64 a, .int .i64 b, .int .i64 c, .int .i64 d] 24)).alloc (.cells #[.int .i64 x0, .int .i64 x1, .int .i64 x2, .int .i64 x3, .int .i64 x4] 27) = W0 := ⟨_, rfl⟩
 replace H := Mem.alloc H (w.heap.size) (by first | (simp; done) | (simp; omega)) #[.slice A n m, .int .i64 a, .int .i64 b, .int .i64 c, .int .i64 d] 24
 replace H := Mem.alloc H (w.heap.size + 1) (by first | (simp; done) | (simp; omega)) #[.int .i64 x0, .int .i64 x1, .int .i64 x2, .int .i64 x3, .int .i64 x4] 27
 simp only [List.nil_append, List.cons_append] at H
 rw [hW0] at H
 have hv0 := hv.below H.below
 have hl0 := hl.below H.below
 obtain ⟨ddlt, dd0, ddf0, dd1, ddf1, dd2, ddf2, dd3, ddf3, dd4, ddf4⟩ := H.c5 0 rfl
 go_enter Tryz.func3, Tryz.ntmps3
 go_wp2_with fail
 refine (hO _ hv0 hl0).mono ?_
 rintro e w1 ⟨T, At, nt, ct, cc, L, B, lp, Aw, cw, Ap, cp, b1, b2, b3, rfl, hT, hnt, hwl, hS, HK⟩
 replace H : Mem (w) [] (w1) [.blk (w.heap.size) 24 #[.slice A n m, .int .i64 a, .int .i64 b, .int .i64 c, .int .i64 d], .blk (w.heap.size + 1) 27 #[.int .i64 x0, .int .i64 x1, .int .i64 x2, .int .i64 x3, .int .i64 x4], .row (b1) (161) (2) (.slice At nt ct) (nt) (drs T.tl), .row (b2) (155) (4) (.slice Ap lp.length cp) (lp.length) (prs lp), .row (b3) (86) (1) (.slice Aw 600 cw) (600) (ws cc)] := Mem.join H HK
 have HN := Lib.hid hnt
 have HS := Lib.hid hS
 have HL := Lib.hid hwl
 clear hO hW0 hv0 hl0 HK hnt hS hwl
 clear ddlt dd0 ddf0 dd1 ddf1 dd2 ddf2 dd3 ddf3 dd4 ddf4
 go_wp2_with fail
 obtain ⟨w2, hw2⟩ : ∃ w2, (w1).alloc (.cells #[.slice At nt ct, .int .i64 ↑T.fx, .int .i64 ↑T.fb, .int .i64 ↑T.db, .int .i64 ↑T.al, .slice Aw 600 cw, .slice Ap lp.length cp] 36) = w2 := ⟨_, rfl⟩
 replace H := Mem.alloc H (w1.heap.size) (by first | (simp; done) | (simp; omega)) #[.slice At nt ct, .int .i64 ↑T.fx, .int .i64 ↑T.fb, .int .i64 ↑T.db, .int .i64 ↑T.al, .slice Aw 600 cw, .slice Ap lp.length cp] 36
 simp only [List.cons_append, List.nil_append] at H
 rw [hw2] at H ⊢
 clear hw2
 have hds := isds_own (l := T.tl) HN.out.symm (H.own_ 2 rfl)
 have hws := isws_own (xs := cc) HS.out.len HL.out (H.own_ 4 rfl)
 refine (load_ok T hT At nt ct (.slice Aw 600 cw) cc L B _ hds hws HS.out.srv).mono ?_
 rintro e w3 ⟨v, rfl, hbk, hb3⟩
 obtain ⟨Ab, nb, cb, rfl⟩ := hbk.slice
 have hB1 := hbk.is
 have hnb := hB1.len
 have hc3 := HS.out.cus
 obtain rfl : nb = 3 := by omega
 obtain ⟨bb, off, rfl⟩ : ∃ bb off, Ab = some ⟨bb, off, none⟩ := by
   obtain ⟨bb, off, _, _, _, _, h, _⟩ := hB1.at_ (k := 0) (by omega)
   exact ⟨bb, off, h⟩
 replace H := Mem.call H hb3
 clear hds hws hb3 hnb hbk hc3
 have hme3 := ho.h3
 obtain ⟨me, hme⟩ : ∃ me, o.me = me := ⟨_, rfl⟩
 have hpm : Hid (pk x1 3 = (me : Int)) := by rw [← hme]; exact ho.h2
 have hme4 : me ≤ 2 := by omega
 have HM := Lib.hid hme
 clear hme hme3
 obtain ⟨odlt, od0, odf0, od1, odf1, od2, odf2, od3, odf3, od4, odf4⟩ := H.c5 1 rfl
 go_wp2_with fail
 obtain ⟨w4, hw4⟩ : ∃ w4, (w3).alloc (.cells #[.slice (some ⟨bb, off, none⟩) 3 cb] 41) = w4 := ⟨_, rfl⟩
 replace H := Mem.alloc H (w3.heap.size) (by first | (simp; done) | (simp; omega)) #[.slice (some ⟨bb, off, none⟩) 3 cb] 41
 simp only [List.cons_append, List.nil_append] at H
 rw [hw4] at H ⊢
 replace hB1 : IsBk w4 (.slice (some ⟨bb, off, none⟩) 3 cb) B := by rw [← hw4]; exact hB1.below (below_a1 w3 _)
 clear hw4
 refine (picked_is _ hpm wf1 (by omega) (by omega)).mono ?_
 rintro e w' ⟨rfl, rfl⟩
 have hds := isds_own (l := T.tl) HN.out.symm (H.own_ 2 rfl)
 have hps := isps_own (l := lp) rfl (ook_wf HS.out.ook) (H.own_ 3 rfl)
 have hws := isws_own (xs := cc) HS.out.len HL.out (H.own_ 4 rfl)
 have hV := fun W h1 h2 h3 => ask_ok T hT At nt ct (.slice Aw 600 cw) cc L B o 12 Ap cp lp x0 x1 x2 x3 x4 W wf0 wf1 wf2 wf3 wf4 ho HS.out (by omega) h1 h2 h3
 clear hpm
 clear odlt od0 odf0 od1 odf1 od2 odf2 od3 odf3 od4 odf4
 obtain ⟨shlt, sh0, shf0, sh1, shf1, sh2, shf2, sh3, shf3, sh4, shf4, sh5, shf5, sh6, shf6⟩ := H.c7 5 rfl
 obtain ⟨odlt, od0, odf0, od1, odf1, od2, odf2, od3, odf3, od4, odf4⟩ := H.c5 1 rfl
 obtain ⟨bklt, bk0, bkf0⟩ := H.c1 6 rfl
 have ne_sh_od := H.ne 5 1 rfl rfl (by decide)
 have ne_sh_bk := H.ne 5 6 rfl rfl (by decide)
 have ne_od_sh := H.ne 1 5 rfl rfl (by decide)
 have ne_od_bk := H.ne 1 6 rfl rfl (by decide)
 have ne_bk_sh := H.ne 6 5 rfl rfl (by decide)
 have ne_bk_od := H.ne 6 1 rfl rfl (by decide)

 by_cases hE : (o.V T (B.getD o.me cu0).a lp 600 L.length).E = 0
 · by_cases hq0 : o.q = 0
   · have hz := Od.V_lp0 (o := o) (T := T) (a := (B.getD o.me cu0).a) (lp := lp) (n := 600) (m := L.length) hq0
     have hX := (HS.out.ask hT (by omega) ho hE).len
     replace hV := fun W h1 h2 h3 => (hV W h1 h2 h3).mono fun e w' h => RetAsk.zero ⟨hz.2.2.1, hz.2.2.2, hz.2.1⟩ h
     obtain ⟨nw, hnw⟩ : ∃ nw, (o.V T (B.getD o.me cu0).a lp 600 L.length).wl.length = nw := ⟨_, rfl⟩
     rw [hnw, hE] at hV
     rw [hnw] at hX
     unfold RetZero at hV
     have hwz : decide (0 < nw) = true := decide_eq_true (by omega)
     have hwz2 : 0 < nw := by omega
     have hZ := rc_zero
     clear hnw hz hE
     go_wp2_with fail
     refine (hV _ hds hws hps).mono ?_
     rintro e w5 ⟨A5, c5, Aq, nq, cq, rfl, hb5⟩
     replace H := Mem.call H hb5
     have hbF := H.below
     clear hV hds hws hps hb5
     clear shlt sh0 shf0 sh1 shf1 sh2 shf2 sh3 shf3 sh4 shf4 sh5 shf5 sh6 shf6 odlt od0 odf0 od1 odf1 od2 odf2 od3 odf3 od4 odf4 bklt bk0 bkf0 ne_sh_od ne_sh_bk ne_od_sh ne_od_bk ne_bk_sh ne_bk_od
     go_wp2
     go_ret
     exact ⟨rfl, hbF.trans ((below_a2 w5 _ _).mono hbF.size)⟩
   · skip
     obtain ⟨cls, am, tag, hTo⟩ := HS.out.told hT (by omega) ho hq0 hE
     have hse := Od.V_str HS.out hT (by omega) ho hq0 hE
     replace hV := fun W h1 h2 h3 => (hV W h1 h2 h3).mono fun e w' h => RetAsk.had hE h
     have hmB : me < B.length := by have := HS.out.cus; omega
     have hgd : B.getD o.me cu0 = B[me] := by rw [HM.out]; simp [hmB]
     obtain ⟨V, hVe⟩ : ∃ V, o.V T (B.getD o.me cu0).a lp 600 L.length = V := ⟨_, rfl⟩
     rw [hVe] at hV hTo hse
     rw [hgd, HM.out] at hTo
     obtain ⟨bb2, off2, Ad, cd, As, cs, hA, hbl, hdd, hss, p0, p1, p2, p3, p4, p5, p6, p7⟩ := hB1.at_ hmB
     injection hA with hA
     injection hA with e1 e2
     subst e1 e2
     generalize B[me] = cu at hTo p0 p1 p2 p3 p4 p5 p6 p7 hdd hss
     clear hVe hE hgd
     obtain ⟨⟨ame, rev, next, month, bought, free, ld⟩, sld⟩ := cu
     obtain ⟨wl, lq, vme, ⟨id, te2, de, fe, pr, ch, un⟩, s, E⟩ := V
     obtain ⟨q1, q2, q3, q4, q5, q6, q7, q8, q9, q10, q11⟩ := hTo
     unfold RetHad at hV
     dsimp only at hV hse q1 q2 q3 q4 q5 q6 q7 q8 q9 q10 q11 p0 p1 p2 p3 p4 p5 p6 p7 hdd hss
     replace q2 := q2.symm
     subst q2 q3
     obtain ⟨nw, hnw⟩ : ∃ nw, wl.length = nw := ⟨_, rfl⟩
     obtain ⟨nd, hnd⟩ : ∃ nd, ld.length = nd := ⟨_, rfl⟩
     rw [hnw] at hV
     rw [hnd] at p6
     have hCk := fun W => check_right me id te2 de fe pr ch un cls am tag W q1 (by omega) (by omega) q9 q7 (by rcases q10 with ⟨h1, _, h3⟩ | h; exact .inl ⟨h1, h3⟩; exact .inr h)
     have hPa := parse_tok cls id am tag q1 (tokD cls id am tag) rfl (tokD_len q1)
     unfold RetTok at hPa
     rw [← q4] at hCk hPa
     obtain ⟨bd, hbdy⟩ : ∃ bd, tbody cls id am = bd := ⟨_, rfl⟩
     have hBd := fun W => tbody_ok cls id am tag bd W q1 (Lib.hid hbdy)
     rw [hbdy] at q5
     have hbdl : bd ≤ 8796093022207 := by rw [← hbdy]; exact tbody_le q1
     have hVy := fun v W h => verify_ok v lq (me : Int) (rev : Int) (bd : Int) (tag : Int) W h q6 ⟨WalkArith.wf_i64 (by omega), WalkArith.wf_i64 (by omega), WalkArith.wf_i64 (by omega)⟩ _ (Lib.hid q5)
     have hvt : (some (tag : Int) == some (tag : Int)) = true := by simp
     rw [hvt] at hVy
     have HF := Lib.hid (And.intro q6 (And.intro q10 hq0))
     have n32 : (me : Int) < 3 := by omega
     have hwn : IntKind.i64.wrap ((rev : Int) + 1) = (rev : Int) + 1 := IntWalk.i64_in _ (by omega)
     clear hnw hnd q1 q4 q5 q6 q7 q8 q9 q10 q11 hbdy hbdl hdd hss hvt p7 hq0
     go_wp2_with fail
     refine (hV _ hds hws hps).mono ?_
     rintro e w5 ⟨A5, c5, Aq, cq, zv, zn, zx, rfl, ho1, ho2, hq, hb5⟩
     rcases hq with ⟨h, _⟩ | ⟨_, rfl, rfl, rfl⟩
     · exact absurd h HF.out.2.2
     have r0 := (hb5.cell (p := ⟨bb, off + me * 8, none⟩) hbl).trans p0
     have r1 := (hb5.cell (p := ⟨bb, off + me * 8 + 1, none⟩) hbl).trans p1
     have r2 := (hb5.cell (p := ⟨bb, off + me * 8 + 2, none⟩) hbl).trans p2
     have r3 := (hb5.cell (p := ⟨bb, off + me * 8 + 3, none⟩) hbl).trans p3
     have r4 := (hb5.cell (p := ⟨bb, off + me * 8 + 4, none⟩) hbl).trans p4
     have r5 := (hb5.cell (p := ⟨bb, off + me * 8 + 5, none⟩) hbl).trans p5
     have r6 := (hb5.cell (p := ⟨bb, off + me * 8 + 6, none⟩) hbl).trans p6
     have hbl5 : bb < w5.heap.size := Nat.lt_of_lt_of_le hbl hb5.size
     replace H : Mem (w) [] (w5) [.blk (w.heap.size) 24 #[.slice A n m, .int .i64 a, .int .i64 b, .int .i64 c, .int .i64 d], .blk (w.heap.size + 1) 27 #[.int .i64 x0, .int .i64 x1, .int .i64 x2, .int .i64 x3, .int .i64 x4], .row (b1) (161) (2) (.slice At nt ct) (nt) (drs T.tl), .row (b2) (155) (4) (.slice Ap lp.length cp) (lp.length) (prs lp), .row (b3) (86) (1) (.slice Aw 600 cw) (600) (ws cc), .blk (w1.heap.size) 36 #[.slice At nt ct, .int .i64 ↑T.fx, .int .i64 ↑T.fb, .int .i64 ↑T.db, .int .i64 ↑T.al, .slice Aw 600 cw, .slice Ap lp.length cp], .blk (w3.heap.size) 41 #[.slice (some ⟨bb, off, none⟩) 3 cb], .row (w4.heap.size) (155) (4) (.slice Aq lq.length cq) (lq.length) (prs lq)] := Mem.row H hb5 ho1 (Nat.le_refl _)
     clear hV hds hws hps ho1 ho2 hb5 hbl p0 p1 p2 p3 p4 p5 p6 hB1
     clear shlt sh0 shf0 sh1 shf1 sh2 shf2 sh3 shf3 sh4 shf4 sh5 shf5 sh6 shf6 odlt od0 odf0 od1 odf1 od2 odf2 od3 odf3 od4 odf4 bklt bk0 bkf0 ne_sh_od ne_sh_bk ne_od_sh ne_od_bk ne_bk_sh ne_bk_od
     go_wp2_with fail
     obtain ⟨w6, hw6⟩ : ∃ w6, ((w5).alloc (.cells #[.slice Aq lq.length cq] 34)).alloc (.cells #[.int .i64 ↑me, .int .i64 ↑id, .int .i64 ↑te2, .int .i64 ↑de, .int .i64 ↑fe, .int .i64 ↑pr, .int .i64 ↑ch, .int .i64 ↑un, .string s] 50) = w6 := ⟨_, rfl⟩
     replace H := Mem.alloc H (w5.heap.size) (by first | (simp; done) | (simp; omega)) #[.slice Aq lq.length cq] 34
     replace H := Mem.alloc H (w5.heap.size + 1) (by first | (simp; done) | (simp; omega)) #[.int .i64 ↑me, .int .i64 ↑id, .int .i64 ↑te2, .int .i64 ↑de, .int .i64 ↑fe, .int .i64 ↑pr, .int .i64 ↑ch, .int .i64 ↑un, .string s] 50
     simp only [List.cons_append, List.nil_append] at H
     rw [hw6] at H ⊢
     have hb6 : Below w5.heap.size w5 w6 := by rw [← hw6]; exact below_a2 w5 _ _
     clear hw6
     refine (hPa _).mono ?_
     rintro e w7 ⟨rfl, hb7⟩
     replace H := Mem.call H hb7
     have hb67 := hb6.trans (hb7.mono hb6.size)
     clear hPa hb7 hb6
     go_wp2_with fail
     obtain ⟨w8, hw8⟩ : ∃ w8, (w7).alloc (.cells #[.int .i64 ↑cls, .int .i64 ↑id, .int .i64 ↑am, .int .i64 ↑tag] 54) = w8 := ⟨_, rfl⟩
     replace H := Mem.alloc H (w7.heap.size) (by first | (simp; done) | (simp; omega)) #[.int .i64 ↑cls, .int .i64 ↑id, .int .i64 ↑am, .int .i64 ↑tag] 54
     simp only [List.cons_append, List.nil_append] at H
     rw [hw8] at H ⊢
     have hb8 : Below w5.heap.size w5 w8 := by rw [← hw8]; exact hb67.trans ((below_a1 w7 _).mono hb67.size)
     clear hw8 hb67
     refine (hBd _).mono ?_
     rintro e w9 ⟨rfl, hb9⟩
     replace H := Mem.call H hb9
     have hb59 := hb8.trans (hb9.mono hb8.size)
     have t0 := (hb59.cell (p := ⟨bb, off + me * 8, none⟩) hbl5).trans r0
     have t1 := (hb59.cell (p := ⟨bb, off + me * 8 + 1, none⟩) hbl5).trans r1
     have t2 := (hb59.cell (p := ⟨bb, off + me * 8 + 2, none⟩) hbl5).trans r2
     have t3 := (hb59.cell (p := ⟨bb, off + me * 8 + 3, none⟩) hbl5).trans r3
     have t4 := (hb59.cell (p := ⟨bb, off + me * 8 + 4, none⟩) hbl5).trans r4
     have t5 := (hb59.cell (p := ⟨bb, off + me * 8 + 5, none⟩) hbl5).trans r5
     have t6 := (hb59.cell (p := ⟨bb, off + me * 8 + 6, none⟩) hbl5).trans r6
     clear hBd hb9 hb8 hb59 r0 r1 r2 r3 r4 r5 r6 hbl5
     obtain ⟨bklt, bk0, bkf0⟩ := H.c1 6 rfl
     obtain ⟨rolt, ro0, rof0⟩ := H.c1 8 rfl
     obtain ⟨tklt, tk0, tkf0, tk1, tkf1, tk2, tkf2, tk3, tkf3⟩ := H.c4 10 rfl
     have ne_bk_ro := H.ne 6 8 rfl rfl (by decide)
     have ne_bk_tk := H.ne 6 10 rfl rfl (by decide)
     have ne_ro_bk := H.ne 8 6 rfl rfl (by decide)
     have ne_ro_tk := H.ne 8 10 rfl rfl (by decide)
     have ne_tk_bk := H.ne 10 6 rfl rfl (by decide)
     have ne_tk_ro := H.ne 10 8 rfl rfl (by decide)
     go_wp2_with fail
     obtain ⟨w10, hw10⟩ : ∃ w10, (w9).alloc (.cells #[.int .i64 ↑ame, .int .i64 ↑rev, .int .i64 ↑id, .int .i64 ↑month, .int .i64 ↑bought, .int .i64 free, .slice Ad nd cd] 61) = w10 := ⟨_, rfl⟩
     replace H := Mem.alloc H (w9.heap.size) (by first | (simp; done) | (simp; omega)) #[.int .i64 ↑ame, .int .i64 ↑rev, .int .i64 ↑id, .int .i64 ↑month, .int .i64 ↑bought, .int .i64 free, .slice Ad nd cd] 61
     simp only [List.cons_append, List.nil_append] at H
     rw [hw10] at H ⊢
     clear hw10 t0 t1 t2 t3 t4 t5 t6
     have hpq := isps_own (l := lq) rfl (ook_wf HF.out.1) (H.own_ 7 rfl)
     refine (hVy _ _ hpq).mono ?_
     rintro e w11 ⟨rfl, hb11⟩
     replace H := Mem.call H hb11
     clear hVy hb11 hpq
     clear bklt bk0 bkf0 rolt ro0 rof0 tklt tk0 tkf0 tk1 tkf1 tk2 tkf2 tk3 tkf3 ne_bk_ro ne_bk_tk ne_ro_bk ne_ro_tk ne_tk_bk ne_tk_ro
     obtain ⟨rrlt, rr0, rrf0, rr1, rrf1, rr2, rrf2, rr3, rrf3, rr4, rrf4, rr5, rrf5, rr6, rrf6, rr7, rrf7, rr8, rrf8⟩ := H.c9 9 rfl
     go_wp2_with fail
     refine (hCk _).mono ?_
     rintro e w12 ⟨rfl, hb12⟩
     replace H := Mem.call H hb12
     have hbF := H.below
     clear hCk hb12
     clear rrlt rr0 rrf0 rr1 rrf1 rr2 rrf2 rr3 rrf3 rr4 rrf4 rr5 rrf5 rr6 rrf6 rr7 rrf7 rr8 rrf8
     obtain ⟨rrlt, rr0, rrf0, rr1, rrf1, rr2, rrf2, rr3, rrf3, rr4, rrf4, rr5, rrf5, rr6, rrf6, rr7, rrf7, rr8, rrf8⟩ := H.c9 9 rfl
     obtain ⟨tklt, tk0, tkf0, tk1, tkf1, tk2, tkf2, tk3, tkf3⟩ := H.c4 10 rfl
     obtain ⟨aclt, ac0, acf0, ac1, acf1, ac2, acf2, ac3, acf3, ac4, acf4, ac5, acf5, ac6, acf6⟩ := H.c7 11 rfl
     have ne_rr_tk := H.ne 9 10 rfl rfl (by decide)
     have ne_rr_ac := H.ne 9 11 rfl rfl (by decide)
     have ne_tk_rr := H.ne 10 9 rfl rfl (by decide)
     have ne_tk_ac := H.ne 10 11 rfl rfl (by decide)
     have ne_ac_rr := H.ne 11 9 rfl rfl (by decide)
     have ne_ac_tk := H.ne 11 10 rfl rfl (by decide)
     rcases HF.out.2.1 with ⟨rfl, rfl, rfl⟩ | ⟨rfl, rfl⟩
     · clear HF
       go_wp2
       go_ret
       exact ⟨rfl, hbF⟩
     · clear HF
       go_wp2
       go_ret
       exact ⟨rfl, hbF⟩
 · skip
   have hz := Od.V_no (o := o) (T := T) (a := (B.getD o.me cu0).a) (lp := lp) (n := 600) (m := L.length) hE
   replace hV := fun W h1 h2 h3 => (hV W h1 h2 h3).mono fun e w' h => RetAsk.ref hE h
   obtain ⟨E, hEe⟩ : ∃ E, (o.V T (B.getD o.me cu0).a lp 600 L.length).E = E := ⟨_, rfl⟩
   rw [hEe] at hV hE
   unfold RetRef at hV
   have hEb : ((E : Int) == 0) = false := by simp; omega
   have hEn : ¬ (E : Int) = 0 := by omega
   have hZ := rc_zero
   clear hEe hz
   go_wp2_with fail
   refine (hV _ hds hws hps).mono ?_
   rintro e w5 ⟨A5, c5, Aq, nq, cq, rfl, hb5⟩
   replace H := Mem.call H hb5
   have hbF := H.below
   clear hV hds hws hps hb5
   clear shlt sh0 shf0 sh1 shf1 sh2 shf2 sh3 shf3 sh4 shf4 sh5 shf5 sh6 shf6 odlt od0 odf0 od1 odf1 od2 odf2 od3 odf3 od4 odf4 bklt bk0 bkf0 ne_sh_od ne_sh_bk ne_od_sh ne_od_bk ne_bk_sh ne_bk_od
   go_wp2
   go_ret
   exact ⟨rfl, hbF.trans ((below_a2 w5 _ _).mono hbF.size)⟩
end Go.Proofs.YtpcgpnkmjjamhaaGreatDoor

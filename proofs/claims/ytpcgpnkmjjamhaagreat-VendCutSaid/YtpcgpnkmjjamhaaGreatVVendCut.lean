/- The walk of the law VendCut. -/
import Derived.Test.YtpcgpnkmjjamhaaGreatMxAskF
import Derived.Test.YtpcgpnkmjjamhaaGreatMxSameB
namespace Go.Proofs.YtpcgpnkmjjamhaaGreat
open Go.RowKit
set_option linter.unusedVariables false
set_option maxRecDepth 100000 in
set_option maxHeartbeats 16000000 in
theorem walk_vendCut (w : World) (a0 : Value) (w0 : Fit Tryz.prog w 24 a0) (a1 : Value) (w1 : Fit Tryz.prog w 25 a1) (a2 : Value) (w2 : Fit Tryz.prog w 69 a2) (a3 : Int) (w3 : (Lit.int .i64 a3).wf = true) :
   Calls Tryz.prog 6 #[a0, a1, a2, .int .i64 a3] w fun e w' => e = .returned (.bool true) ∧ Below w.heap.size w w' := by
 obtain ⟨A, n, m, g, a, b, c, d, rfl, wa, wb, wc0, wd, hv⟩ := deal_fit w0
 obtain ⟨Al, nl, cl, f, rfl, hl⟩ := orders_fit w1
 obtain ⟨x0, x1, x2, x3, x4, rfl, wf0, wf1, wf2, wf3, wf4⟩ := order_fit w2
 have wf5 := w3
 clear w0 w1 w2 w3
 obtain ⟨o, ho⟩ := od_of x0 x1 x2 x3 x4
 have hO := fun W h1 h2 => opened_ok A n m g a b c d Al nl cl f W wa wb wc0 wd h1 h2
 unfold RetOpd at hO
 have H := Mem.init w
 obtain ⟨W0, hW0⟩ : ∃ W0, ((w).alloc (.cells #[.slice A n m, .int .i64 a, .int .i64 b, .int .i64 c, .int .i64 d] 24)).alloc (.cells #[.int .i64 x0, .int .i64 x1, .int .i64 x2, .int .i64 x3, .int .i64 x4] 69) = W0 := ⟨_, rfl⟩
 replace H := Mem.alloc H (w.heap.size) (by first | (simp; done) | (simp; omega)) #[.slice A n m, .int .i64 a, .int .i64 b, .int .i64 c, .int .i64 d] 24
 replace H := Mem.alloc H (w.heap.size + 1) (by first | (simp; done) | (simp; omega)) #[.int .i64 x0, .int .i64 x1, .int .i64 x2, .int .i64 x3, .int .i64 x4] 69
 simp only [List.nil_append, List.cons_append] at H
 rw [hW0] at H
 have hv0 := hv.below H.below
 have hl0 := hl.below H.below
 obtain ⟨ddlt, dd0, ddf0, dd1, ddf1, dd2, ddf2, dd3, ddf3, dd4, ddf4⟩ := H.c5 0 rfl
 go_enter Tryz.func6, Tryz.ntmps6
 go_wp2_with fail
 refine (hO _ hv0 hl0).mono ?_
 rintro e w1 ⟨T, At, nt, ct, cc, L, B, lp, Aw, cw, Ap, cp, b1, b2, b3, rfl, hT, hnt, hwl, hS, HK⟩
 replace H : Mem (w) [] (w1) [.blk (w.heap.size) 24 #[.slice A n m, .int .i64 a, .int .i64 b, .int .i64 c, .int .i64 d], .blk (w.heap.size + 1) 69 #[.int .i64 x0, .int .i64 x1, .int .i64 x2, .int .i64 x3, .int .i64 x4], .row (b1) (166) (2) (.slice At nt ct) (nt) (drs T.tl), .row (b2) (225) (4) (.slice Ap lp.length cp) (lp.length) (prs lp), .row (b3) (111) (1) (.slice Aw 600 cw) (600) (ws cc)] := Mem.join H HK
 have HN := Lib.hid hnt
 have HS := Lib.hid hS
 have HL := Lib.hid hwl
 clear hO hW0 hv0 hl0 HK hnt hS hwl
 clear ddlt dd0 ddf0 dd1 ddf1 dd2 ddf2 dd3 ddf3 dd4 ddf4
 go_wp2_with fail
 obtain ⟨w2, hw2⟩ : ∃ w2, (w1).alloc (.cells #[.slice At nt ct, .int .i64 ↑T.fx, .int .i64 ↑T.fb, .int .i64 ↑T.db, .int .i64 ↑T.al, .slice Aw 600 cw, .slice Ap lp.length cp] 34) = w2 := ⟨_, rfl⟩
 replace H := Mem.alloc H (w1.heap.size) (by first | (simp; done) | (simp; omega)) #[.slice At nt ct, .int .i64 ↑T.fx, .int .i64 ↑T.fb, .int .i64 ↑T.db, .int .i64 ↑T.al, .slice Aw 600 cw, .slice Ap lp.length cp] 34
 simp only [List.cons_append, List.nil_append] at H
 rw [hw2] at H ⊢
 clear hw2
 have hds := isds_own (l := T.tl) HN.out.symm (H.own_ 2 rfl)
 have hws := isws_own (xs := cc) HS.out.len HL.out (H.own_ 4 rfl)
 obtain ⟨shlt, sh0, shf0, sh1, shf1, sh2, shf2, sh3, shf3, sh4, shf4, sh5, shf5, sh6, shf6⟩ := H.c7 5 rfl
 go_wp2_with fail
 refine (load_ok T hT At nt ct (.slice Aw 600 cw) cc L B _ hds hws HS.out.srv).mono ?_
 rintro e w3 ⟨v, rfl, hbk, hb3⟩
 obtain ⟨Ab, nb, cb, rfl⟩ := hbk.slice
 have hB1 := hbk.is
 have hnb := hB1.len
 have hc3 := HS.out.cus
 obtain rfl : nb = 3 := by omega
 replace H := Mem.call H hb3
 clear hds hws hb3 hnb hbk hc3
 clear shlt sh0 shf0 sh1 shf1 sh2 shf2 sh3 shf3 sh4 shf4 sh5 shf5 sh6 shf6
 obtain ⟨shlt, sh0, shf0, sh1, shf1, sh2, shf2, sh3, shf3, sh4, shf4, sh5, shf5, sh6, shf6⟩ := H.c7 5 rfl
 obtain ⟨odlt, od0, odf0, od1, odf1, od2, odf2, od3, odf3, od4, odf4⟩ := H.c5 1 rfl
 have ne_sh_od := H.ne 5 1 rfl rfl (by decide)
 have ne_od_sh := H.ne 1 5 rfl rfl (by decide)
 go_wp2_with fail
 obtain ⟨w4, hw4⟩ : ∃ w4, (w3).alloc (.cells #[.slice Ab 3 cb] 49) = w4 := ⟨_, rfl⟩
 replace H := Mem.alloc H (w3.heap.size) (by first | (simp; done) | (simp; omega)) #[.slice Ab 3 cb] 49
 simp only [List.cons_append, List.nil_append] at H
 rw [hw4] at H ⊢
 replace hB1 : IsBk w4 (.slice Ab 3 cb) B := by rw [← hw4]; exact hB1.below (below_a1 w3 _)
 clear hw4
 have hds := isds_own (l := T.tl) HN.out.symm (H.own_ 2 rfl)
 have hps := isps_own (l := lp) rfl (ook_wf HS.out.ook) (H.own_ 3 rfl)
 have hws := isws_own (xs := cc) HS.out.len HL.out (H.own_ 4 rfl)
 have hV := fun W h1 h2 h3 => ask_ok T hT At nt ct (.slice Aw 600 cw) cc L B o 12 Ap cp lp x0 x1 x2 x3 x4 W wf0 wf1 wf2 wf3 wf4 ho HS.out (by omega) h1 h2 h3

 by_cases hE : (o.V T (B.getD o.me cu0).a lp 600 L.length).E = 0
 · replace hV := fun W h1 h2 h3 => (hV W h1 h2 h3).mono fun e w' h => RetAsk.had hE h
   have hX := HS.out.ask hT (by omega) ho hE
   obtain ⟨V, hVe⟩ : ∃ V, o.V T (B.getD o.me cu0).a lp 600 L.length = V := ⟨_, rfl⟩
   obtain ⟨c2, hc2⟩ : ∃ c2, o.c T (B.getD o.me cu0) lp = c2 := ⟨_, rfl⟩
   obtain ⟨v, hv⟩ : ∃ v, o.v T (B.getD o.me cu0).a lp = v := ⟨_, rfl⟩
   rw [hVe] at hV hX
   rw [hc2, hv] at hX
   clear hVe hE hc2 hv
   obtain ⟨wl, lq, vme, ⟨id, te2, de, fe, pr, ch, un⟩, s, E⟩ := V
   unfold RetHad at hV
   dsimp only at hV
   obtain ⟨nw, hnw⟩ : ∃ nw, wl.length = nw := ⟨_, rfl⟩
   rw [hnw] at hV
   have hnw1 : 1 ≤ nw ∧ nw ≤ 15 := by have := hX.len; dsimp only at this; omega
   have HX := Lib.hid hX
   have HW := Lib.hid hnw
   clear hX hnw
   clear shlt sh0 shf0 sh1 shf1 sh2 shf2 sh3 shf3 sh4 shf4 sh5 shf5 sh6 shf6 odlt od0 odf0 od1 odf1 od2 odf2 od3 odf3 od4 odf4 ne_sh_od ne_od_sh
   obtain ⟨shlt, sh0, shf0, sh1, shf1, sh2, shf2, sh3, shf3, sh4, shf4, sh5, shf5, sh6, shf6⟩ := H.c7 5 rfl
   obtain ⟨odlt, od0, odf0, od1, odf1, od2, odf2, od3, odf3, od4, odf4⟩ := H.c5 1 rfl
   have ne_sh_od := H.ne 5 1 rfl rfl (by decide)
   have ne_od_sh := H.ne 1 5 rfl rfl (by decide)
   go_wp2_with fail
   refine (hV _ hds hws hps).mono ?_
   rintro e w5 ⟨A5, c5, Aq, cq, zv, zn, zx, rfl, ho1, ho2, hq, hb5⟩
   replace hB1 := hB1.below hb5
   replace H : Mem (w) [] (w5) [.blk (w.heap.size) 24 #[.slice A n m, .int .i64 a, .int .i64 b, .int .i64 c, .int .i64 d], .blk (w.heap.size + 1) 69 #[.int .i64 x0, .int .i64 x1, .int .i64 x2, .int .i64 x3, .int .i64 x4], .row (b1) (166) (2) (.slice At nt ct) (nt) (drs T.tl), .row (b2) (225) (4) (.slice Ap lp.length cp) (lp.length) (prs lp), .row (b3) (111) (1) (.slice Aw 600 cw) (600) (ws cc), .blk (w1.heap.size) 34 #[.slice At nt ct, .int .i64 ↑T.fx, .int .i64 ↑T.fb, .int .i64 ↑T.db, .int .i64 ↑T.al, .slice Aw 600 cw, .slice Ap lp.length cp], .blk (w3.heap.size) 49 #[.slice Ab 3 cb], .row (w4.heap.size) (113) (2) (.slice A5 nw c5) (nw) (wrs wl)] := Mem.row H hb5 ho2 (Nat.le_refl _)
   clear hV hds hws hps ho1 ho2 hq hb5
   clear shlt sh0 shf0 sh1 shf1 sh2 shf2 sh3 shf3 sh4 shf4 sh5 shf5 sh6 shf6 odlt od0 odf0 od1 odf1 od2 odf2 od3 odf3 od4 odf4 ne_sh_od ne_od_sh
   obtain ⟨shlt, sh0, shf0, sh1, shf1, sh2, shf2, sh3, shf3, sh4, shf4, sh5, shf5, sh6, shf6⟩ := H.c7 5 rfl
   go_wp2_with fail
   obtain ⟨w6, hw6⟩ : ∃ w6, ((w5).alloc (.cells #[.slice Aq lq.length cq] 32)).alloc (.cells #[.int .i64 ↑vme, .int .i64 ↑id, .int .i64 ↑te2, .int .i64 ↑de, .int .i64 ↑fe, .int .i64 ↑pr, .int .i64 ↑ch, .int .i64 ↑un, .string s] 72) = w6 := ⟨_, rfl⟩
   replace H := Mem.alloc H (w5.heap.size) (by first | (simp; done) | (simp; omega)) #[.slice Aq lq.length cq] 32
   replace H := Mem.alloc H (w5.heap.size + 1) (by first | (simp; done) | (simp; omega)) #[.int .i64 ↑vme, .int .i64 ↑id, .int .i64 ↑te2, .int .i64 ↑de, .int .i64 ↑fe, .int .i64 ↑pr, .int .i64 ↑ch, .int .i64 ↑un, .string s] 72
   simp only [List.cons_append, List.nil_append] at H
   rw [hw6] at H ⊢
   replace hB1 : IsBk w6 (.slice Ab 3 cb) B := by rw [← hw6]; exact hB1.below (below_a2 w5 _ _)
   clear hw6
   have hws := isws_own (xs := cc) HS.out.len HL.out (H.own_ 4 rfl)
   have hwr := iswr_own (l := wl) HW.out HX.out.lt (H.own_ 7 rfl)
   clear shlt sh0 shf0 sh1 shf1 sh2 shf2 sh3 shf3 sh4 shf4 sh5 shf5 sh6 shf6
   obtain ⟨shlt, sh0, shf0, sh1, shf1, sh2, shf2, sh3, shf3, sh4, shf4, sh5, shf5, sh6, shf6⟩ := H.c7 5 rfl
   go_wp2_with fail
   refine (apply600 Aw cw A5 c5 cc wl nw nw _ HW.out HS.out.len hws hwr HX.out.at_ (by omega) (Nat.le_refl _)).mono ?_
   rintro e w7 ⟨A6, c6, rfl, ⟨hx6, ho6⟩, hb6⟩
   rw [List.take_of_length_le (Nat.le_of_eq HW.out)] at hx6 ho6
   replace hB1 := hB1.below hb6
   replace H : Mem (w) [] (w7) [.blk (w.heap.size) 24 #[.slice A n m, .int .i64 a, .int .i64 b, .int .i64 c, .int .i64 d], .blk (w.heap.size + 1) 69 #[.int .i64 x0, .int .i64 x1, .int .i64 x2, .int .i64 x3, .int .i64 x4], .row (b1) (166) (2) (.slice At nt ct) (nt) (drs T.tl), .row (b2) (225) (4) (.slice Ap lp.length cp) (lp.length) (prs lp), .row (b3) (111) (1) (.slice Aw 600 cw) (600) (ws cc), .blk (w1.heap.size) 34 #[.slice At nt ct, .int .i64 ↑T.fx, .int .i64 ↑T.fb, .int .i64 ↑T.db, .int .i64 ↑T.al, .slice Aw 600 cw, .slice Ap lp.length cp], .blk (w3.heap.size) 49 #[.slice Ab 3 cb], .row (w4.heap.size) (113) (2) (.slice A5 nw c5) (nw) (wrs wl), .blk (w5.heap.size) 32 #[.slice Aq lq.length cq], .blk (w5.heap.size + 1) 72 #[.int .i64 ↑vme, .int .i64 ↑id, .int .i64 ↑te2, .int .i64 ↑de, .int .i64 ↑fe, .int .i64 ↑pr, .int .i64 ↑ch, .int .i64 ↑un, .string s], .row (w6.heap.size) (111) (1) (.slice A6 600 c6) (600) (ws (applyW cc wl))] := Mem.row H hb6 ho6 (Nat.le_refl _)
   clear hws hwr ho6 hb6
   have hds := isds_own (l := T.tl) HN.out.symm (H.own_ 2 rfl)
   have hws := isws_own (xs := applyW cc wl) HX.out.shp.len hx6 (H.own_ 10 rfl)
   clear shlt sh0 shf0 sh1 shf1 sh2 shf2 sh3 shf3 sh4 shf4 sh5 shf5 sh6 shf6
   obtain ⟨shlt, sh0, shf0, sh1, shf1, sh2, shf2, sh3, shf3, sh4, shf4, sh5, shf5, sh6, shf6⟩ := H.c7 5 rfl
   go_wp2_with fail
   refine (load_ok T hT At nt ct (.slice A6 600 c6) (applyW cc wl) (L ++ [v]) (B.set o.me c2) _ hds hws HX.out.shp.srv).mono ?_
   rintro e w8 ⟨u8, rfl, hbk, hb8⟩
   obtain ⟨Ab2, nb, cb2, rfl⟩ := hbk.slice
   have hB2 := hbk.is
   have hnb := hB2.len
   have hc3 := HX.out.shp.cus
   obtain rfl : nb = 3 := by omega
   replace hB1 := hB1.below hb8
   replace H := Mem.call H hb8
   clear hds hws hb8 hnb hbk hc3
   clear shlt sh0 shf0 sh1 shf1 sh2 shf2 sh3 shf3 sh4 shf4 sh5 shf5 sh6 shf6
   obtain ⟨q, hq, hqn⟩ := pk_nat a3 (nw + 1) (by omega)
   have hq2 : Hid (pk a3 ((nw : Int) + 1) = (q : Int)) := hq
   have hpq : (1 : Int) ≤ (nw : Int) + 1 := by omega
   have hpq2 : (nw : Int) + 1 ≤ 9223372036854775807 := by omega
   have hwp : IntKind.i64.wrap ((nw : Int) + 1) = (nw : Int) + 1 := IntWalk.i64_in _ (by omega)
   clear hq
   go_wp2_with fail
   obtain ⟨w9, hw9⟩ : ∃ w9, (w8).alloc (.cells #[.slice Ab2 3 cb2] 49) = w9 := ⟨_, rfl⟩
   replace H := Mem.alloc H (w8.heap.size) (by first | (simp; done) | (simp; omega)) #[.slice Ab2 3 cb2] 49
   simp only [List.cons_append, List.nil_append] at H
   rw [hw9] at H ⊢
   replace hB1 : IsBk w9 (.slice Ab 3 cb) B := by rw [← hw9]; exact hB1.below (below_a1 w8 _)
   replace hB2 : IsBk w9 (.slice Ab2 3 cb2) (B.set o.me c2) := by rw [← hw9]; exact hB2.below (below_a1 w8 _)
   clear hw9
   refine (picked_is _ hq2 wf5 hpq hpq2).mono ?_
   rintro e w' ⟨rfl, rfl⟩
   have hws := isws_own (xs := cc) HS.out.len HL.out (H.own_ 4 rfl)
   have hwr := iswr_own (l := wl) HW.out HX.out.lt (H.own_ 7 rfl)
   obtain ⟨shlt, sh0, shf0, sh1, shf1, sh2, shf2, sh3, shf3, sh4, shf4, sh5, shf5, sh6, shf6⟩ := H.c7 5 rfl
   go_wp2_with fail
   refine (apply600 Aw cw A5 c5 cc wl nw q _ HW.out HS.out.len hws hwr HX.out.at_ (by omega) (by omega)).mono ?_
   rintro e wA ⟨A7, c7, rfl, ⟨hx7, ho7⟩, hb7⟩
   obtain ⟨L3, B3, hS3, hB3l, hor⟩ : ∃ L3 B3, Srv T (applyW cc (wl.take q)) L3 B3 ∧ B3.length = 3 ∧ ((q < nw ∧ B3 = B) ∨ (q = nw ∧ B3 = B.set o.me c2)) := by
     by_cases hqn2 : q < nw
     · have ht := HX.out.torn q (by have h1 := HW.out; dsimp only; omega) cc lp 12 HS.out
       exact ⟨L, B, ht.srv, ht.cus, .inl ⟨hqn2, rfl⟩⟩
     · have e : wl.take q = wl := List.take_of_length_le (by rw [HW.out]; omega)
       rw [e]
       exact ⟨_, _, HX.out.shp.srv, HX.out.shp.cus, .inr ⟨by omega, rfl⟩⟩
   obtain ⟨tn, htn⟩ : ∃ tn, applyW cc (wl.take q) = tn := ⟨_, rfl⟩
   have htl : tn.length = 600 := by rw [← htn, applyW_length]; exact HS.out.len
   rw [htn] at hx7 ho7 hS3
   replace hB1 := hB1.below hb7
   replace hB2 := hB2.below hb7
   replace H : Mem (w) [] (wA) [.blk (w.heap.size) 24 #[.slice A n m, .int .i64 a, .int .i64 b, .int .i64 c, .int .i64 d], .blk (w.heap.size + 1) 69 #[.int .i64 x0, .int .i64 x1, .int .i64 x2, .int .i64 x3, .int .i64 x4], .row (b1) (166) (2) (.slice At nt ct) (nt) (drs T.tl), .row (b2) (225) (4) (.slice Ap lp.length cp) (lp.length) (prs lp), .row (b3) (111) (1) (.slice Aw 600 cw) (600) (ws cc), .blk (w1.heap.size) 34 #[.slice At nt ct, .int .i64 ↑T.fx, .int .i64 ↑T.fb, .int .i64 ↑T.db, .int .i64 ↑T.al, .slice Aw 600 cw, .slice Ap lp.length cp], .blk (w3.heap.size) 49 #[.slice Ab 3 cb], .row (w4.heap.size) (113) (2) (.slice A5 nw c5) (nw) (wrs wl), .blk (w5.heap.size) 32 #[.slice Aq lq.length cq], .blk (w5.heap.size + 1) 72 #[.int .i64 ↑vme, .int .i64 ↑id, .int .i64 ↑te2, .int .i64 ↑de, .int .i64 ↑fe, .int .i64 ↑pr, .int .i64 ↑ch, .int .i64 ↑un, .string s], .row (w6.heap.size) (111) (1) (.slice A6 600 c6) (600) (ws (applyW cc wl)), .blk (w8.heap.size) 49 #[.slice Ab2 3 cb2], .row (w9.heap.size) (111) (1) (.slice A7 600 c7) (600) (ws tn)] := Mem.row H hb7 ho7 (Nat.le_refl _)
   clear hws hwr ho7 hb7 htn hq2 hpq hpq2 hwp
   have hds := isds_own (l := T.tl) HN.out.symm (H.own_ 2 rfl)
   have hws := isws_own (xs := tn) htl hx7 (H.own_ 12 rfl)
   clear htl hx7
   clear shlt sh0 shf0 sh1 shf1 sh2 shf2 sh3 shf3 sh4 shf4 sh5 shf5 sh6 shf6
   obtain ⟨shlt, sh0, shf0, sh1, shf1, sh2, shf2, sh3, shf3, sh4, shf4, sh5, shf5, sh6, shf6⟩ := H.c7 5 rfl
   go_wp2_with fail
   refine (load_ok T hT At nt ct (.slice A7 600 c7) tn L3 B3 _ hds hws hS3).mono ?_
   rintro e wB ⟨u9, rfl, hbk, hb9⟩
   obtain ⟨Ab3, nb, cb3, rfl⟩ := hbk.slice
   have hB3 := hbk.is
   have hnb := hB3.len
   obtain rfl : nb = 3 := by omega
   replace hB1 := hB1.below hb9
   replace hB2 := hB2.below hb9
   replace H := Mem.call H hb9
   clear hds hws hb9 hnb hbk hB3l hS3
   have HO := Lib.hid hor
   clear hor
   clear shlt sh0 shf0 sh1 shf1 sh2 shf2 sh3 shf3 sh4 shf4 sh5 shf5 sh6 shf6
   obtain ⟨bklt, bk0, bkf0⟩ := H.c1 6 rfl
   obtain ⟨bk2lt, bk20, bk2f0⟩ := H.c1 11 rfl
   have ne_bk_bk2 := H.ne 6 11 rfl rfl (by decide)
   have ne_bk2_bk := H.ne 11 6 rfl rfl (by decide)
   go_wp2_with fail
   obtain ⟨wD, hwD⟩ : ∃ wD, (wB).alloc (.cells #[.slice Ab3 3 cb3] 49) = wD := ⟨_, rfl⟩
   replace H := Mem.alloc H (wB.heap.size) (by first | (simp; done) | (simp; omega)) #[.slice Ab3 3 cb3] 49
   simp only [List.cons_append, List.nil_append] at H
   rw [hwD] at H ⊢
   replace hB1 : IsBk wD (.slice Ab 3 cb) B := by rw [← hwD]; exact hB1.below (below_a1 wB _)
   replace hB2 : IsBk wD (.slice Ab2 3 cb2) (B.set o.me c2) := by rw [← hwD]; exact hB2.below (below_a1 wB _)
   replace hB3 : IsBk wD (.slice Ab3 3 cb3) B3 := by rw [← hwD]; exact hB3.below (below_a1 wB _)
   clear hwD
   refine (sameB_no Ab 3 cb Ab2 3 cb2 B o.me c2 _ hB1 hB2 (by omega) HX.out.hi HX.out.mec HX.out.un).mono ?_
   rintro e wE ⟨rfl, hbE⟩
   replace hB1 := hB1.below hbE
   replace hB2 := hB2.below hbE
   replace hB3 := hB3.below hbE
   replace H := Mem.call H hbE
   clear hbE
   have hbF := H.below
   rcases HO.out with ⟨hq1, rfl⟩ | ⟨hq1, rfl⟩
   · have ql : (q : Int) < (nw : Int) := by omega

     clear bklt bk0 bkf0 bk2lt bk20 bk2f0 ne_bk_bk2 ne_bk2_bk
     obtain ⟨bklt, bk0, bkf0⟩ := H.c1 6 rfl
     obtain ⟨bk3lt, bk30, bk3f0⟩ := H.c1 13 rfl
     have ne_bk_bk3 := H.ne 6 13 rfl rfl (by decide)
     have ne_bk3_bk := H.ne 13 6 rfl rfl (by decide)
     clear hB2 HO
     go_wp2_with fail
     refine (sameB_yes Ab3 3 cb3 Ab 3 cb _ _ hB3 hB1 (by omega)).mono ?_
     rintro e wF ⟨rfl, hbG⟩
     go_wp2
     go_ret
     exact ⟨rfl, hbF.trans (hbG.mono hbF.size)⟩
   · have ql : ¬ (q : Int) < (nw : Int) := by omega
     skip
     clear bklt bk0 bkf0 bk2lt bk20 bk2f0 ne_bk_bk2 ne_bk2_bk
     obtain ⟨bk2lt, bk20, bk2f0⟩ := H.c1 11 rfl
     obtain ⟨bk3lt, bk30, bk3f0⟩ := H.c1 13 rfl
     have ne_bk2_bk3 := H.ne 11 13 rfl rfl (by decide)
     have ne_bk3_bk2 := H.ne 13 11 rfl rfl (by decide)
     clear hB1 HO
     go_wp2_with fail
     refine (sameB_yes Ab3 3 cb3 Ab2 3 cb2 _ _ hB3 hB2 (by omega)).mono ?_
     rintro e wF ⟨rfl, hbG⟩
     go_wp2
     go_ret
     exact ⟨rfl, hbF.trans (hbG.mono hbF.size)⟩
 · skip
   replace hV := fun W h1 h2 h3 => (hV W h1 h2 h3).mono fun e w' h => RetAsk.ref hE h
   obtain ⟨E, hEe⟩ : ∃ E, (o.V T (B.getD o.me cu0).a lp 600 L.length).E = E := ⟨_, rfl⟩
   rw [hEe] at hV hE
   unfold RetRef at hV
   have hEb : ((E : Int) == 0) = false := by simp; omega
   have hEn : ¬ (E : Int) = 0 := by omega
   clear hEe
   clear shlt sh0 shf0 sh1 shf1 sh2 shf2 sh3 shf3 sh4 shf4 sh5 shf5 sh6 shf6 odlt od0 odf0 od1 odf1 od2 odf2 od3 odf3 od4 odf4 ne_sh_od ne_od_sh
   obtain ⟨shlt, sh0, shf0, sh1, shf1, sh2, shf2, sh3, shf3, sh4, shf4, sh5, shf5, sh6, shf6⟩ := H.c7 5 rfl
   obtain ⟨odlt, od0, odf0, od1, odf1, od2, odf2, od3, odf3, od4, odf4⟩ := H.c5 1 rfl
   have ne_sh_od := H.ne 5 1 rfl rfl (by decide)
   have ne_od_sh := H.ne 1 5 rfl rfl (by decide)
   go_wp2_with fail
   refine (hV _ hds hws hps).mono ?_
   rintro e w5 ⟨A5, c5, Aq, nq, cq, rfl, hb5⟩
   replace H := Mem.call H hb5
   have hbF := H.below
   have hZ := rc_zero
   clear hV hds hws hps hb5 hB1
   clear shlt sh0 shf0 sh1 shf1 sh2 shf2 sh3 shf3 sh4 shf4 sh5 shf5 sh6 shf6 odlt od0 odf0 od1 odf1 od2 odf2 od3 odf3 od4 odf4 ne_sh_od ne_od_sh
   go_wp2
   go_ret
   exact ⟨rfl, hbF.trans ((below_a2 w5 _ _).mono hbF.size)⟩
end Go.Proofs.YtpcgpnkmjjamhaaGreat

/- The walk of the law VendRetry. -/
import Derived.Test.YtpcgpnkmjjamhaaGreatMxAskF
import Derived.Test.YtpcgpnkmjjamhaaGreatMxAskR
import Derived.Test.YtpcgpnkmjjamhaaGreatMxInts
namespace Go.Proofs.YtpcgpnkmjjamhaaGreat
open Go.RowKit
set_option linter.unusedVariables false
set_option maxRecDepth 100000 in
set_option maxHeartbeats 16000000 in
theorem walk_vendRetry (w : World) (a0 : Value) (w0 : Fit Tryz.prog w 24 a0) (a1 : Value) (w1 : Fit Tryz.prog w 25 a1) (a2 : Value) (w2 : Fit Tryz.prog w 69 a2) (a3 : Int) (w3 : (Lit.int .i64 a3).wf = true) (a4 : Value) (w4 : Fit Tryz.prog w 81 a4) :
   Calls Tryz.prog 8 #[a0, a1, a2, .int .i64 a3, a4] w fun e w' => e = .returned (.bool true) ∧ Below w.heap.size w w' := by
 obtain ⟨A, n, m, g, a, b, c, d, rfl, wa, wb, wc0, wd, hv⟩ := deal_fit w0
 obtain ⟨Al, nl, cl, f, rfl, hl⟩ := orders_fit w1
 obtain ⟨x0, x1, x2, x3, x4, rfl, wf0, wf1, wf2, wf3, wf4⟩ := order_fit w2
 obtain ⟨ny, fy, Ay, cy, rfl, hy1, hy2, hqw, hqc⟩ := ints_fit w4
 have wf5 := w3
 clear w0 w1 w2 w3 w4
 obtain ⟨o, ho⟩ := od_of x0 x1 x2 x3 x4
 have hO := fun W h1 h2 => opened_ok A n m g a b c d Al nl cl f W wa wb wc0 wd h1 h2
 unfold RetOpd at hO
 have H := Mem.init w
 obtain ⟨W0, hW0⟩ : ∃ W0, ((w).alloc (.cells #[.slice A n m, .int .i64 a, .int .i64 b, .int .i64 c, .int .i64 d] 24)).alloc (.cells #[.int .i64 x0, .int .i64 x1, .int .i64 x2, .int .i64 x3, .int .i64 x4] 69) = W0 := ⟨_, rfl⟩
 replace H := Mem.alloc H (w.heap.size) (by first | (simp; done) | (simp; omega)) #[.slice A n m, .int .i64 a, .int .i64 b, .int .i64 c, .int .i64 d] 24
 replace H := Mem.alloc H (w.heap.size + 1) (by first | (simp; done) | (simp; omega)) #[.int .i64 x0, .int .i64 x1, .int .i64 x2, .int .i64 x3, .int .i64 x4] 69
 simp only [List.nil_append, List.cons_append] at H
 rw [hW0] at H
 have hv0 := hv.below H.below
 have hl0 := hl.below H.below
 obtain ⟨ddlt, dd0, ddf0, dd1, ddf1, dd2, ddf2, dd3, ddf3, dd4, ddf4⟩ := H.c5 0 rfl
 go_enter Tryz.func8, Tryz.ntmps8
 go_wp2_with fail
 refine (hO _ hv0 hl0).mono ?_
 rintro e w1 ⟨T, At, nt, ct, cc, L, B, lp, Aw, cw, Ap, cp, b1, b2, b3, rfl, hT, hnt, hwl, hS, HK⟩
 replace H : Mem (w) [] (w1) [.blk (w.heap.size) 24 #[.slice A n m, .int .i64 a, .int .i64 b, .int .i64 c, .int .i64 d], .blk (w.heap.size + 1) 69 #[.int .i64 x0, .int .i64 x1, .int .i64 x2, .int .i64 x3, .int .i64 x4], .row (b1) (166) (2) (.slice At nt ct) (nt) (drs T.tl), .row (b2) (225) (4) (.slice Ap lp.length cp) (lp.length) (prs lp), .row (b3) (111) (1) (.slice Aw 600 cw) (600) (ws cc)] := Mem.join H HK
 have HN := Lib.hid hnt
 have HS := Lib.hid hS
 have HL := Lib.hid hwl
 clear hO hW0 hv0 hl0 HK hnt hS hwl
 clear ddlt dd0 ddf0 dd1 ddf1 dd2 ddf2 dd3 ddf3 dd4 ddf4
 obtain ⟨odlt, od0, odf0, od1, odf1, od2, odf2, od3, odf3, od4, odf4⟩ := H.c5 1 rfl
 go_wp2_with fail
 obtain ⟨w2, hw2⟩ : ∃ w2, (w1).alloc (.cells #[.slice At nt ct, .int .i64 ↑T.fx, .int .i64 ↑T.fb, .int .i64 ↑T.db, .int .i64 ↑T.al, .slice Aw 600 cw, .slice Ap lp.length cp] 34) = w2 := ⟨_, rfl⟩
 replace H := Mem.alloc H (w1.heap.size) (by first | (simp; done) | (simp; omega)) #[.slice At nt ct, .int .i64 ↑T.fx, .int .i64 ↑T.fb, .int .i64 ↑T.db, .int .i64 ↑T.al, .slice Aw 600 cw, .slice Ap lp.length cp] 34
 simp only [List.cons_append, List.nil_append] at H
 rw [hw2] at H ⊢
 clear hw2
 have hds := isds_own (l := T.tl) HN.out.symm (H.own_ 2 rfl)
 have hps := isps_own (l := lp) rfl (ook_wf HS.out.ook) (H.own_ 3 rfl)
 have hws := isws_own (xs := cc) HS.out.len HL.out (H.own_ 4 rfl)
 have hV := fun W h1 h2 h3 => ask_ok T hT At nt ct (.slice Aw 600 cw) cc L B o 12 Ap cp lp x0 x1 x2 x3 x4 W wf0 wf1 wf2 wf3 wf4 ho HS.out (by omega) h1 h2 h3
 clear odlt od0 odf0 od1 odf1 od2 odf2 od3 odf3 od4 odf4
 obtain ⟨shlt, sh0, shf0, sh1, shf1, sh2, shf2, sh3, shf3, sh4, shf4, sh5, shf5, sh6, shf6⟩ := H.c7 5 rfl
 obtain ⟨odlt, od0, odf0, od1, odf1, od2, odf2, od3, odf3, od4, odf4⟩ := H.c5 1 rfl
 have ne_sh_od := H.ne 5 1 rfl rfl (by decide)
 have ne_od_sh := H.ne 1 5 rfl rfl (by decide)

 by_cases hE : (o.V T (B.getD o.me cu0).a lp 600 L.length).E = 0
 · replace hV := fun W h1 h2 h3 => (hV W h1 h2 h3).mono fun e w' h => RetAsk.had hE h
   have HQ := Lib.hid (And.intro (fun hq : o.q = 0 => Od.V_lp0 (T := T) (a := (B.getD o.me cu0).a) (lp := lp) (n := 600) (m := L.length) hq) (fun hq : o.q ≠ 0 => And.intro (Od.V_str HS.out hT (by omega) ho hq hE) (Od.V_sale hq hE).1))
   have HG := Lib.hid (fun hq c3 L3 B3 lp3 k3 h1 h2 h3 => HS.out.again (c3 := c3) (L3 := L3) (B3 := B3) (lp3 := lp3) (k3 := k3) hT (by omega) ho.h3 hq hE h1 h2 h3)
   have HR := Lib.hid (fun d2 => Od.retry d2 hE)
   obtain ⟨d9, hd9, ho9⟩ := ho.draw a3
   have hX := HS.out.ask hT (by omega) ho hE
   obtain ⟨V, hVe⟩ : ∃ V, o.V T (B.getD o.me cu0).a lp 600 L.length = V := ⟨_, rfl⟩
   obtain ⟨c2, hc2⟩ : ∃ c2, o.c T (B.getD o.me cu0) lp = c2 := ⟨_, rfl⟩
   obtain ⟨v, hv⟩ : ∃ v, o.v T (B.getD o.me cu0).a lp = v := ⟨_, rfl⟩
   rw [hVe] at hV hX
   rw [hc2, hv] at hX
   rw [hVe] at HQ HG HR hE
   rw [hc2] at HG
   clear hVe hc2 hv
   obtain ⟨wl, lq, vme, ⟨id, te2, de, fe, pr, ch, un⟩, s, E⟩ := V
   unfold RetHad at hV
   dsimp only at hV HQ HG HR hE
   subst hE
   obtain ⟨nw, hnw⟩ : ∃ nw, wl.length = nw := ⟨_, rfl⟩
   rw [hnw] at hV
   have hnw1 : 1 ≤ nw ∧ nw ≤ 15 := by have := hX.len; dsimp only at this; omega
   have hwz : ((nw : Int) == 0) = false := by simp; omega
   have hwz2 : ¬ (nw : Int) = 0 := by omega
   have HX := Lib.hid hX
   have HW := Lib.hid hnw
   clear hX hnw
   go_wp2_with fail
   refine (hV _ hds hws hps).mono ?_
   rintro e w5 ⟨A5, c5, Aq, cq, zv, zn, zx, rfl, ho1, ho2, hq, hb5⟩
   have HJ := Mem.row2 (Mem.init _) hb5 ho1 ho2 (by decide)
   replace H : Mem (w) [] (w5) [.blk (w.heap.size) 24 #[.slice A n m, .int .i64 a, .int .i64 b, .int .i64 c, .int .i64 d], .blk (w.heap.size + 1) 69 #[.int .i64 x0, .int .i64 x1, .int .i64 x2, .int .i64 x3, .int .i64 x4], .row (b1) (166) (2) (.slice At nt ct) (nt) (drs T.tl), .row (b2) (225) (4) (.slice Ap lp.length cp) (lp.length) (prs lp), .row (b3) (111) (1) (.slice Aw 600 cw) (600) (ws cc), .blk (w1.heap.size) 34 #[.slice At nt ct, .int .i64 ↑T.fx, .int .i64 ↑T.fb, .int .i64 ↑T.db, .int .i64 ↑T.al, .slice Aw 600 cw, .slice Ap lp.length cp], .row (w2.heap.size) (225) (4) (zv) (zn) (zx), .row (w2.heap.size) (113) (2) (.slice A5 nw c5) (nw) (wrs wl)] := Mem.join H HJ
   have HM0 : ∃ bq : Nat, Mem w [] w5 [.row (bq) (225) (4) (.slice Aq lq.length cq) (lq.length) (prs lq), .blk (w.heap.size) 24 #[.slice A n m, .int .i64 a, .int .i64 b, .int .i64 c, .int .i64 d], .blk (w.heap.size + 1) 69 #[.int .i64 x0, .int .i64 x1, .int .i64 x2, .int .i64 x3, .int .i64 x4], .row (b1) (166) (2) (.slice At nt ct) (nt) (drs T.tl), .row (b3) (111) (1) (.slice Aw 600 cw) (600) (ws cc), .blk (w1.heap.size) 34 #[.slice At nt ct, .int .i64 ↑T.fx, .int .i64 ↑T.fb, .int .i64 ↑T.db, .int .i64 ↑T.al, .slice Aw 600 cw, .slice Ap lp.length cp], .row (w2.heap.size) (113) (2) (.slice A5 nw c5) (nw) (wrs wl)] := by
     rcases hq with ⟨h, rfl, rfl⟩ | ⟨_, rfl, rfl, rfl⟩
     · have h2 := (HQ.out.1 h).1
       subst h2
       exact ⟨_, Mem.drop_ 6 (pick_row 3 H rfl)⟩
     · exact ⟨_, Mem.drop_ 4 (pick_row 6 H rfl)⟩
   clear hV hds hws hps ho1 ho2 hb5 HJ hq
   clear shlt sh0 shf0 sh1 shf1 sh2 shf2 sh3 shf3 sh4 shf4 sh5 shf5 sh6 shf6 odlt od0 odf0 od1 odf1 od2 odf2 od3 odf3 od4 odf4 ne_sh_od ne_od_sh
   clear H
   obtain ⟨bq, HM0⟩ := HM0
   have H : Mem (w) [] (w5) [.row (bq) (225) (4) (.slice Aq lq.length cq) (lq.length) (prs lq), .blk (w.heap.size) 24 #[.slice A n m, .int .i64 a, .int .i64 b, .int .i64 c, .int .i64 d], .blk (w.heap.size + 1) 69 #[.int .i64 x0, .int .i64 x1, .int .i64 x2, .int .i64 x3, .int .i64 x4], .row (b1) (166) (2) (.slice At nt ct) (nt) (drs T.tl), .row (b3) (111) (1) (.slice Aw 600 cw) (600) (ws cc), .blk (w1.heap.size) 34 #[.slice At nt ct, .int .i64 ↑T.fx, .int .i64 ↑T.fb, .int .i64 ↑T.db, .int .i64 ↑T.al, .slice Aw 600 cw, .slice Ap lp.length cp], .row (w2.heap.size) (113) (2) (.slice A5 nw c5) (nw) (wrs wl)] := HM0
   clear HM0
   obtain ⟨shlt, sh0, shf0, sh1, shf1, sh2, shf2, sh3, shf3, sh4, shf4, sh5, shf5, sh6, shf6⟩ := H.c7 5 rfl
   go_wp2
   obtain ⟨w6, hw6⟩ : ∃ w6, (((w5).setCell ⟨w1.heap.size, 6, none⟩ (.slice Aq lq.length cq)).alloc (.cells #[.slice Aq lq.length cq] 32)).alloc (.cells #[.int .i64 ↑vme, .int .i64 ↑id, .int .i64 ↑te2, .int .i64 ↑de, .int .i64 ↑fe, .int .i64 ↑pr, .int .i64 ↑ch, .int .i64 ↑un, .string s] 72) = w6 := ⟨_, rfl⟩
   replace H := Mem.set 5 H rfl (6) (.slice Aq lq.length cq)
   replace H := Mem.alloc H (w5.heap.size) (by first | (simp; done) | (simp; omega)) #[.slice Aq lq.length cq] 32
   replace H := Mem.alloc H (w5.heap.size + 1) (by first | (simp; done) | (simp; omega)) #[.int .i64 ↑vme, .int .i64 ↑id, .int .i64 ↑te2, .int .i64 ↑de, .int .i64 ↑fe, .int .i64 ↑pr, .int .i64 ↑ch, .int .i64 ↑un, .string s] 72
   simp only [List.set_cons_zero, List.set_cons_succ, List.setIfInBounds_toArray, List.cons_append, List.nil_append] at H
   rw [hw6] at H ⊢
   clear hw6
   obtain ⟨gs, hgs⟩ : ∃ gs, w1.heap.size = gs := ⟨_, rfl⟩
   obtain ⟨gr, hgr⟩ : ∃ gr, w5.heap.size + 1 = gr := ⟨_, rfl⟩
   have hSh : Shp T cc L B lq 13 := by
     obtain ⟨M, m1, m2, m3⟩ := HS.out.evs
     exact ⟨HS.out.srv, HS.out.len, ⟨M, m1, by omega, m3⟩, HS.out.cus, HS.out.me, HX.out.shp.ook, HX.out.shp.lpl⟩
   have HM0 := pick_row 6 (pick_row 4 (Mem.drop_ 7 H) rfl) rfl
   rw [hgs] at HM0 ⊢
   rw [hgr] at HM0 ⊢
   have hwl := HL.out
   clear shlt sh0 shf0 sh1 shf1 sh2 shf2 sh3 shf3 sh4 shf4 sh5 shf5 sh6 shf6
   clear H hgs hgr HL
   go_loopw [17, 13] (fun i wv wr => ∃ (k : Nat) (cc5 : List Nat) (Aw5 : Option Addr) (cw5 bw5 : Nat) (A5 : Option Addr) (c5 bw9 : Nat) (x9 : Int), k ≤ 5 ∧ k ≤ ny ∧ i = .int .i64 ↑k ∧ wv = .slice A5 nw c5 ∧ (∀ x ∈ cc5, x < 4294967296) ∧ Shp T cc5 L B lq 13 ∧ Mem w [] wr [.row (bw9) (113) (2) (.slice A5 nw c5) (nw) (wrs wl), .row (bw5) (111) (1) (.slice Aw5 600 cw5) (600) (ws cc5), .row (bq) (225) (4) (.slice Aq lq.length cq) (lq.length) (prs lq), .blk (w.heap.size) 24 #[.slice A n m, .int .i64 a, .int .i64 b, .int .i64 c, .int .i64 d], .blk (w.heap.size + 1) 69 #[.int .i64 x0, .int .i64 x1, .int .i64 x2, .int .i64 x3, .int .i64 x9], .row (b1) (166) (2) (.slice At nt ct) (nt) (drs T.tl), .blk (gs) 34 #[.slice At nt ct, .int .i64 ↑T.fx, .int .i64 ↑T.fb, .int .i64 ↑T.db, .int .i64 ↑T.al, .slice Aw5 600 cw5, .slice Aq lq.length cq], .blk (gr) 72 #[.int .i64 ↑vme, .int .i64 ↑id, .int .i64 ↑te2, .int .i64 ↑de, .int .i64 ↑fe, .int .i64 ↑pr, .int .i64 ↑ch, .int .i64 ↑un, .string s]]) (fun i _ _ => 5 - (intOf i).toNat)
   case atStart => exact ⟨0, cc, Aw, cw, _, A5, c5, _, x4, by omega, by omega, rfl, rfl, hwl, hSh, HM0⟩
   case round =>
     clear HM0 hSh hwl
     obtain ⟨k, cc5, Aw5, cw5, bw5, A5, c5, bw9, x9, hk5, hkn, rfl, rfl, hwl5, hS5, HM1⟩ := hrel
     have H : Mem (w) [] (wr) [.row (bw9) (113) (2) (.slice A5 nw c5) (nw) (wrs wl), .row (bw5) (111) (1) (.slice Aw5 600 cw5) (600) (ws cc5), .row (bq) (225) (4) (.slice Aq lq.length cq) (lq.length) (prs lq), .blk (w.heap.size) 24 #[.slice A n m, .int .i64 a, .int .i64 b, .int .i64 c, .int .i64 d], .blk (w.heap.size + 1) 69 #[.int .i64 x0, .int .i64 x1, .int .i64 x2, .int .i64 x3, .int .i64 x9], .row (b1) (166) (2) (.slice At nt ct) (nt) (drs T.tl), .blk (gs) 34 #[.slice At nt ct, .int .i64 ↑T.fx, .int .i64 ↑T.fb, .int .i64 ↑T.db, .int .i64 ↑T.al, .slice Aw5 600 cw5, .slice Aq lq.length cq], .blk (gr) 72 #[.int .i64 ↑vme, .int .i64 ↑id, .int .i64 ↑te2, .int .i64 ↑de, .int .i64 ↑fe, .int .i64 ↑pr, .int .i64 ↑ch, .int .i64 ↑un, .string s]] := HM1
     clear HM1
     have HS5 := Lib.hid hS5
     clear hS5

     by_cases hlt : k < ny ∧ k < 5
     · obtain ⟨hk1, hk2⟩ := hlt
       obtain ⟨bl, ol, rfl, hbl0, hcl⟩ := hqc k hk1
       have hbw := H.below
       have yf0 := hqw k hk1
       have p0 : wr.cell? ⟨bl, ol + k, none⟩ = _ := (hbw.cell (p := ⟨bl, ol + k, none⟩) hbl0).trans hcl
       have hbl : bl < wr.heap.size := Nat.lt_of_lt_of_le hbl0 hbw.size
       generalize fy k = y0 at yf0 p0
       clear hqc hqw hbl0 hbw hcl
       obtain ⟨q, hq, hqn⟩ := pk_nat y0 nw (by omega)
       have hpq : (1 : Int) ≤ (nw : Int) := by omega
       have hpq2 : (nw : Int) ≤ 9223372036854775807 := by omega
       have hws := isws_own (xs := cc5) HS5.out.len hwl5 (H.own_ 1 rfl)
       have hwr := iswr_own (l := wl) HW.out HX.out.lt (H.own_ 0 rfl)
       have B0 : Below wr.heap.size wr wr.drew := below_draws (Below.refl _ _) 1
       have hAp := apply600 Aw5 cw5 A5 c5 cc5 wl nw q _ HW.out HS5.out.len (hws.below B0) (hwr.below B0) HX.out.at_ (by omega) (by omega)
       have ki1 : (k : Int) < (ny : Int) := by omega
       have ki2 : (k : Int) < 5 := by omega
       obtain ⟨shlt, sh0, shf0, sh1, shf1, sh2, shf2, sh3, shf3, sh4, shf4, sh5, shf5, sh6, shf6⟩ := H.c7 6 rfl
       go_upto_region 13 with fail
       go_region_held3 (fun w' => w'.cell? ⟨gs, 5, none⟩ = some (.slice Aw5 600 cw5) ∧ w'.cell? ⟨bl, ol + k, none⟩ = some (.int .i64 y0)) (first | with_reducible exact ⟨s0, s1⟩ | go_keep | fail) (first | (go_at_call 11; (with_reducible refine (picked_is _ hq yf0 hpq hpq2).mono ?_); rintro e w' ⟨rfl, rfl⟩) | (go_at_call 17; (with_reducible refine hAp.mono ?_); rintro e wa ⟨A7, c7, rfl, ⟨hx7, ho7⟩, hba⟩; have hWa := B0.trans (hba.mono B0.size); have s0 := (hWa.cell (p := ⟨gs, 5, none⟩) shlt).trans sh5; have s1 := (hWa.cell (p := ⟨bl, ol + k, none⟩) hbl).trans p0))
       have HS7 := HX.out.torn q (by have h1 := HW.out; dsimp only; omega) cc5 lq 13 HS5.out
       obtain ⟨tn, htn⟩ : ∃ tn, applyW cc5 (wl.take q) = tn := ⟨_, rfl⟩
       dsimp only at HS7
       rw [htn] at hx7 ho7 HS7
       replace H : Mem (w) [] (wa) [.row (bw9) (113) (2) (.slice A5 nw c5) (nw) (wrs wl), .row (bw5) (111) (1) (.slice Aw5 600 cw5) (600) (ws cc5), .row (bq) (225) (4) (.slice Aq lq.length cq) (lq.length) (prs lq), .blk (w.heap.size) 24 #[.slice A n m, .int .i64 a, .int .i64 b, .int .i64 c, .int .i64 d], .blk (w.heap.size + 1) 69 #[.int .i64 x0, .int .i64 x1, .int .i64 x2, .int .i64 x3, .int .i64 x9], .row (b1) (166) (2) (.slice At nt ct) (nt) (drs T.tl), .blk (gs) 34 #[.slice At nt ct, .int .i64 ↑T.fx, .int .i64 ↑T.fb, .int .i64 ↑T.db, .int .i64 ↑T.al, .slice Aw5 600 cw5, .slice Aq lq.length cq], .blk (gr) 72 #[.int .i64 ↑vme, .int .i64 ↑id, .int .i64 ↑te2, .int .i64 ↑de, .int .i64 ↑fe, .int .i64 ↑pr, .int .i64 ↑ch, .int .i64 ↑un, .string s], .row (wr.heap.size) (111) (1) (.slice A7 600 c7) (600) (ws tn)] := Mem.row H hWa ho7 (Nat.le_refl _)
       clear hws hwr hAp ho7 hba hWa s0 s1 B0 htn p0 hbl hq hpq hpq2
       have HT7 := Lib.hid HS7
       clear HS7
       clear shlt sh0 shf0 sh1 shf1 sh2 shf2 sh3 shf3 sh4 shf4 sh5 shf5 sh6 shf6
       obtain ⟨shlt, sh0, shf0, sh1, shf1, sh2, shf2, sh3, shf3, sh4, shf4, sh5, shf5, sh6, shf6⟩ := H.c7 6 rfl
       obtain ⟨odlt, od0, odf0, od1, odf1, od2, odf2, od3, odf3, od4, odf4⟩ := H.c5 4 rfl
       have ne_sh_od := H.ne 6 4 rfl rfl (by decide)
       have ne_od_sh := H.ne 4 6 rfl rfl (by decide)
       go_wp2_with fail
       obtain ⟨w8, hw8⟩ : ∃ w8, ((wa).setCell ⟨gs, 5, none⟩ (.slice A7 600 c7)).setCell ⟨w.heap.size + 1, 4, none⟩ (.int .i64 a3) = w8 := ⟨_, rfl⟩
       replace H := Mem.set 6 H rfl (5) (.slice A7 600 c7)
       replace H := Mem.set 4 H rfl (4) (.int .i64 a3)
       simp only [List.set_cons_zero, List.set_cons_succ, List.setIfInBounds_toArray] at H
       rw [hw8] at H ⊢
       clear hw8
       have hds := isds_own (l := T.tl) HN.out.symm (H.own_ 5 rfl)
       have hps := isps_own (l := lq) rfl (ook_wf HT7.out.ook) (H.own_ 2 rfl)
       have hws := isws_own (xs := tn) HT7.out.len hx7 (H.own_ 8 rfl)
       have hV9 := fun W h1 h2 h3 => ask_ok T hT At nt ct (.slice A7 600 c7) tn L B ⟨o.q, o.me, o.ow, o.bp, o.te, o.mo, d9⟩ 13 Aq cq lq x0 x1 x2 x3 a3 W wf0 wf1 wf2 wf3 wf5 ho9 HT7.out (by omega) h1 h2 h3
       have h9 := HR.out d9
       dsimp only at hV9
       simp only [h9] at hV9
       replace hV9 := fun W h1 h2 h3 => (hV9 W h1 h2 h3).mono fun e w' h => RetAsk.had rfl h
       unfold RetHad at hV9
       dsimp only at hV9
       rw [HW.out] at hV9
       clear h9
       clear shlt sh0 shf0 sh1 shf1 sh2 shf2 sh3 shf3 sh4 shf4 sh5 shf5 sh6 shf6 odlt od0 odf0 od1 odf1 od2 odf2 od3 odf3 od4 odf4 ne_sh_od ne_od_sh
       obtain ⟨shlt, sh0, shf0, sh1, shf1, sh2, shf2, sh3, shf3, sh4, shf4, sh5, shf5, sh6, shf6⟩ := H.c7 6 rfl
       obtain ⟨odlt, od0, odf0, od1, odf1, od2, odf2, od3, odf3, od4, odf4⟩ := H.c5 4 rfl
       have ne_sh_od := H.ne 6 4 rfl rfl (by decide)
       have ne_od_sh := H.ne 4 6 rfl rfl (by decide)
       go_wp2_with fail
       refine (hV9 _ hds hws hps).mono ?_
       rintro e w9 ⟨A8, c8, A9, c9, zv9, zn9, zx9, rfl, ho1, ho2, hq9, hb9⟩
       replace H : Mem (w) [] (w9) [.row (bw9) (113) (2) (.slice A5 nw c5) (nw) (wrs wl), .row (bw5) (111) (1) (.slice Aw5 600 cw5) (600) (ws cc5), .row (bq) (225) (4) (.slice Aq lq.length cq) (lq.length) (prs lq), .blk (w.heap.size) 24 #[.slice A n m, .int .i64 a, .int .i64 b, .int .i64 c, .int .i64 d], .blk (w.heap.size + 1) 69 #[.int .i64 x0, .int .i64 x1, .int .i64 x2, .int .i64 x3, .int .i64 a3], .row (b1) (166) (2) (.slice At nt ct) (nt) (drs T.tl), .blk (gs) 34 #[.slice At nt ct, .int .i64 ↑T.fx, .int .i64 ↑T.fb, .int .i64 ↑T.db, .int .i64 ↑T.al, .slice A7 600 c7, .slice Aq lq.length cq], .blk (gr) 72 #[.int .i64 ↑vme, .int .i64 ↑id, .int .i64 ↑te2, .int .i64 ↑de, .int .i64 ↑fe, .int .i64 ↑pr, .int .i64 ↑ch, .int .i64 ↑un, .string s], .row (wr.heap.size) (111) (1) (.slice A7 600 c7) (600) (ws tn), .row (w8.heap.size) (113) (2) (.slice A8 nw c8) (nw) (wrs wl)] := Mem.row H hb9 ho2 (Nat.le_refl _)
       clear hV9 hds hws hps ho1 ho2 hq9 hb9
       have hZ := rc_same (vme : Int) (id : Int) (te2 : Int) (de : Int) (fe : Int) (pr : Int) (ch : Int) (un : Int) s
       clear shlt sh0 shf0 sh1 shf1 sh2 shf2 sh3 shf3 sh4 shf4 sh5 shf5 sh6 shf6 odlt od0 odf0 od1 odf1 od2 odf2 od3 odf3 od4 odf4 ne_sh_od ne_od_sh
       obtain ⟨shlt, sh0, shf0, sh1, shf1, sh2, shf2, sh3, shf3, sh4, shf4, sh5, shf5, sh6, shf6⟩ := H.c7 6 rfl
       obtain ⟨rrlt, rr0, rrf0, rr1, rrf1, rr2, rrf2, rr3, rrf3, rr4, rrf4, rr5, rrf5, rr6, rrf6, rr7, rrf7, rr8, rrf8⟩ := H.c9 7 rfl
       have ne_sh_rr := H.ne 6 7 rfl rfl (by decide)
       have ne_rr_sh := H.ne 7 6 rfl rfl (by decide)
       go_wp2
       replace H := Mem.alloc H (w9.heap.size) (by first | (simp; done) | (simp; omega)) #[.slice A9 lq.length c9] 32
       replace H := Mem.alloc H (w9.heap.size + 1) (by first | (simp; done) | (simp; omega)) #[.int .i64 ↑vme, .int .i64 ↑id, .int .i64 ↑te2, .int .i64 ↑de, .int .i64 ↑fe, .int .i64 ↑pr, .int .i64 ↑ch, .int .i64 ↑un, .string s] 72
       simp only [List.cons_append, List.nil_append] at H
       go_roundw
       case rel =>
         exact ⟨k + 1, tn, A7, c7, _, A8, c8, _, a3, by omega, by omega, by go_num, rfl, hx7, HT7.out, pick_row 7 (pick_row 6 (Mem.drop_ 0 (Mem.drop_ 0 (Mem.drop_ 10 (Mem.drop_ 10 H)))) rfl) rfl⟩
       case measure => simp [intOf]; omega
     · skip
       have HF := Lib.hid (HX.out.whole cc5 lq 13 HS5.out)
       have hds := isds_own (l := T.tl) HN.out.symm (H.own_ 5 rfl)
       have hws := isws_own (xs := cc5) HS5.out.len hwl5 (H.own_ 1 rfl)
       have hwr := iswr_own (l := wl) HW.out HX.out.lt (H.own_ 0 rfl)
       clear hqc hqw
       by_cases hk1 : k < ny
       · have ki1 : (k : Int) < (ny : Int) := by omega
         have ki2 : ¬ (k : Int) < 5 := by omega
         obtain ⟨shlt, sh0, shf0, sh1, shf1, sh2, shf2, sh3, shf3, sh4, shf4, sh5, shf5, sh6, shf6⟩ := H.c7 6 rfl
         go_wp2_with fail
         refine (apply600 Aw5 cw5 A5 c5 cc5 wl nw nw _ HW.out HS5.out.len hws hwr HX.out.at_ (by omega) (Nat.le_refl _)).mono ?_
         rintro e w6 ⟨A6, c6, rfl, ⟨hx6, ho6⟩, hb6⟩
         rw [List.take_of_length_le (Nat.le_of_eq HW.out)] at hx6 ho6
         replace H : Mem (w) [] (w6) [.row (bw9) (113) (2) (.slice A5 nw c5) (nw) (wrs wl), .row (bw5) (111) (1) (.slice Aw5 600 cw5) (600) (ws cc5), .row (bq) (225) (4) (.slice Aq lq.length cq) (lq.length) (prs lq), .blk (w.heap.size) 24 #[.slice A n m, .int .i64 a, .int .i64 b, .int .i64 c, .int .i64 d], .blk (w.heap.size + 1) 69 #[.int .i64 x0, .int .i64 x1, .int .i64 x2, .int .i64 x3, .int .i64 x9], .row (b1) (166) (2) (.slice At nt ct) (nt) (drs T.tl), .blk (gs) 34 #[.slice At nt ct, .int .i64 ↑T.fx, .int .i64 ↑T.fb, .int .i64 ↑T.db, .int .i64 ↑T.al, .slice Aw5 600 cw5, .slice Aq lq.length cq], .blk (gr) 72 #[.int .i64 ↑vme, .int .i64 ↑id, .int .i64 ↑te2, .int .i64 ↑de, .int .i64 ↑fe, .int .i64 ↑pr, .int .i64 ↑ch, .int .i64 ↑un, .string s], .row (wr.heap.size) (111) (1) (.slice A6 600 c6) (600) (ws (applyW cc5 wl))] := Mem.row H hb6 ho6 (Nat.le_refl _)
         clear hds hws hwr ho6 hb6
         have hds := isds_own (l := T.tl) HN.out.symm (H.own_ 5 rfl)
         have hws := isws_own (xs := applyW cc5 wl) HF.out.len hx6 (H.own_ 8 rfl)
         clear shlt sh0 shf0 sh1 shf1 sh2 shf2 sh3 shf3 sh4 shf4 sh5 shf5 sh6 shf6
         obtain ⟨shlt, sh0, shf0, sh1, shf1, sh2, shf2, sh3, shf3, sh4, shf4, sh5, shf5, sh6, shf6⟩ := H.c7 6 rfl
         go_wp2_with fail
         refine (load_ok T hT At nt ct (.slice A6 600 c6) (applyW cc5 wl) (L ++ [v]) (B.set o.me c2) _ hds hws HF.out.srv).mono ?_
         rintro e w7 ⟨u7, rfl, hbk, hb7⟩
         obtain ⟨Ab, nb, cb, rfl⟩ := hbk.slice
         have hnb := hbk.is.len
         have hc3 := HF.out.cus
         obtain rfl : nb = 3 := by omega
         replace H := Mem.call H hb7
         clear hds hws hb7 hnb hbk hc3
         have hbF := H.below

         by_cases hq0 : o.q = 0
         · obtain ⟨_, hs, _, _⟩ := HQ.out.1 hq0
           subst hs
           clear shlt sh0 shf0 sh1 shf1 sh2 shf2 sh3 shf3 sh4 shf4 sh5 shf5 sh6 shf6
           obtain ⟨rrlt, rr0, rrf0, rr1, rrf1, rr2, rrf2, rr3, rrf3, rr4, rrf4, rr5, rrf5, rr6, rrf6, rr7, rrf7, rr8, rrf8⟩ := H.c9 7 rfl
           go_wp2
           go_ret
           exact ⟨rfl, hbF.trans ((below_a1 _ _).mono hbF.size)⟩
         · obtain ⟨hse, hvm⟩ := HQ.out.2 hq0
           have hR := fun W h1 h2 => reprint_ok T hT At nt ct (.slice A6 600 c6) (applyW cc5 wl) (L ++ [v]) (B.set o.me c2) vme vme id W h1 h2 HF.out.srv (by rw [hvm]; exact HF.out.at_ ho.h3)
           have hG := HG.out hq0 _ _ _ _ _ HF.out (by omega) ⟨[], by simp [HX.out.hi]⟩
           rw [← hvm] at hG
           simp only [← hvm, hG] at hR
           clear hG hvm
           skip
           clear shlt sh0 shf0 sh1 shf1 sh2 shf2 sh3 shf3 sh4 shf4 sh5 shf5 sh6 shf6
           obtain ⟨shlt, sh0, shf0, sh1, shf1, sh2, shf2, sh3, shf3, sh4, shf4, sh5, shf5, sh6, shf6⟩ := H.c7 6 rfl
           obtain ⟨rrlt, rr0, rrf0, rr1, rrf1, rr2, rrf2, rr3, rrf3, rr4, rrf4, rr5, rrf5, rr6, rrf6, rr7, rrf7, rr8, rrf8⟩ := H.c9 7 rfl
           have ne_sh_rr := H.ne 6 7 rfl rfl (by decide)
           have ne_rr_sh := H.ne 7 6 rfl rfl (by decide)
           go_wp2_with fail
           obtain ⟨w8, hw8⟩ : ∃ w8, (w7).alloc (.cells #[.slice Ab 3 cb] 49) = w8 := ⟨_, rfl⟩
           replace H := Mem.alloc H (w7.heap.size) (by first | (simp; done) | (simp; omega)) #[.slice Ab 3 cb] 49
           simp only [List.cons_append, List.nil_append] at H
           rw [hw8] at H ⊢
           clear hw8
           have hds := isds_own (l := T.tl) HN.out.symm (H.own_ 5 rfl)
           have hws := isws_own (xs := applyW cc5 wl) HF.out.len hx6 (H.own_ 8 rfl)
           have hbF := H.below
           refine (hR _ hds hws).mono ?_
           rintro e w9 ⟨rfl, hb9⟩
           replace H := Mem.call H hb9
           clear hR hds hws
           clear shlt sh0 shf0 sh1 shf1 sh2 shf2 sh3 shf3 sh4 shf4 sh5 shf5 sh6 shf6 rrlt rr0 rrf0 rr1 rrf1 rr2 rrf2 rr3 rrf3 rr4 rrf4 rr5 rrf5 rr6 rrf6 rr7 rrf7 rr8 rrf8 ne_sh_rr ne_rr_sh
           obtain ⟨rrlt, rr0, rrf0, rr1, rrf1, rr2, rrf2, rr3, rrf3, rr4, rrf4, rr5, rrf5, rr6, rrf6, rr7, rrf7, rr8, rrf8⟩ := H.c9 7 rfl
           go_wp2
           go_ret
           exact ⟨rfl, hbF.trans (hb9.mono hbF.size)⟩
       · have ki1 : ¬ (k : Int) < (ny : Int) := by omega
         skip
         obtain ⟨shlt, sh0, shf0, sh1, shf1, sh2, shf2, sh3, shf3, sh4, shf4, sh5, shf5, sh6, shf6⟩ := H.c7 6 rfl
         go_wp2_with fail
         refine (apply600 Aw5 cw5 A5 c5 cc5 wl nw nw _ HW.out HS5.out.len hws hwr HX.out.at_ (by omega) (Nat.le_refl _)).mono ?_
         rintro e w6 ⟨A6, c6, rfl, ⟨hx6, ho6⟩, hb6⟩
         rw [List.take_of_length_le (Nat.le_of_eq HW.out)] at hx6 ho6
         replace H : Mem (w) [] (w6) [.row (bw9) (113) (2) (.slice A5 nw c5) (nw) (wrs wl), .row (bw5) (111) (1) (.slice Aw5 600 cw5) (600) (ws cc5), .row (bq) (225) (4) (.slice Aq lq.length cq) (lq.length) (prs lq), .blk (w.heap.size) 24 #[.slice A n m, .int .i64 a, .int .i64 b, .int .i64 c, .int .i64 d], .blk (w.heap.size + 1) 69 #[.int .i64 x0, .int .i64 x1, .int .i64 x2, .int .i64 x3, .int .i64 x9], .row (b1) (166) (2) (.slice At nt ct) (nt) (drs T.tl), .blk (gs) 34 #[.slice At nt ct, .int .i64 ↑T.fx, .int .i64 ↑T.fb, .int .i64 ↑T.db, .int .i64 ↑T.al, .slice Aw5 600 cw5, .slice Aq lq.length cq], .blk (gr) 72 #[.int .i64 ↑vme, .int .i64 ↑id, .int .i64 ↑te2, .int .i64 ↑de, .int .i64 ↑fe, .int .i64 ↑pr, .int .i64 ↑ch, .int .i64 ↑un, .string s], .row (wr.heap.size) (111) (1) (.slice A6 600 c6) (600) (ws (applyW cc5 wl))] := Mem.row H hb6 ho6 (Nat.le_refl _)
         clear hds hws hwr ho6 hb6
         have hds := isds_own (l := T.tl) HN.out.symm (H.own_ 5 rfl)
         have hws := isws_own (xs := applyW cc5 wl) HF.out.len hx6 (H.own_ 8 rfl)
         clear shlt sh0 shf0 sh1 shf1 sh2 shf2 sh3 shf3 sh4 shf4 sh5 shf5 sh6 shf6
         obtain ⟨shlt, sh0, shf0, sh1, shf1, sh2, shf2, sh3, shf3, sh4, shf4, sh5, shf5, sh6, shf6⟩ := H.c7 6 rfl
         go_wp2_with fail
         refine (load_ok T hT At nt ct (.slice A6 600 c6) (applyW cc5 wl) (L ++ [v]) (B.set o.me c2) _ hds hws HF.out.srv).mono ?_
         rintro e w7 ⟨u7, rfl, hbk, hb7⟩
         obtain ⟨Ab, nb, cb, rfl⟩ := hbk.slice
         have hnb := hbk.is.len
         have hc3 := HF.out.cus
         obtain rfl : nb = 3 := by omega
         replace H := Mem.call H hb7
         clear hds hws hb7 hnb hbk hc3
         have hbF := H.below

         by_cases hq0 : o.q = 0
         · obtain ⟨_, hs, _, _⟩ := HQ.out.1 hq0
           subst hs
           clear shlt sh0 shf0 sh1 shf1 sh2 shf2 sh3 shf3 sh4 shf4 sh5 shf5 sh6 shf6
           obtain ⟨rrlt, rr0, rrf0, rr1, rrf1, rr2, rrf2, rr3, rrf3, rr4, rrf4, rr5, rrf5, rr6, rrf6, rr7, rrf7, rr8, rrf8⟩ := H.c9 7 rfl
           go_wp2
           go_ret
           exact ⟨rfl, hbF.trans ((below_a1 _ _).mono hbF.size)⟩
         · obtain ⟨hse, hvm⟩ := HQ.out.2 hq0
           have hR := fun W h1 h2 => reprint_ok T hT At nt ct (.slice A6 600 c6) (applyW cc5 wl) (L ++ [v]) (B.set o.me c2) vme vme id W h1 h2 HF.out.srv (by rw [hvm]; exact HF.out.at_ ho.h3)
           have hG := HG.out hq0 _ _ _ _ _ HF.out (by omega) ⟨[], by simp [HX.out.hi]⟩
           rw [← hvm] at hG
           simp only [← hvm, hG] at hR
           clear hG hvm
           skip
           clear shlt sh0 shf0 sh1 shf1 sh2 shf2 sh3 shf3 sh4 shf4 sh5 shf5 sh6 shf6
           obtain ⟨shlt, sh0, shf0, sh1, shf1, sh2, shf2, sh3, shf3, sh4, shf4, sh5, shf5, sh6, shf6⟩ := H.c7 6 rfl
           obtain ⟨rrlt, rr0, rrf0, rr1, rrf1, rr2, rrf2, rr3, rrf3, rr4, rrf4, rr5, rrf5, rr6, rrf6, rr7, rrf7, rr8, rrf8⟩ := H.c9 7 rfl
           have ne_sh_rr := H.ne 6 7 rfl rfl (by decide)
           have ne_rr_sh := H.ne 7 6 rfl rfl (by decide)
           go_wp2_with fail
           obtain ⟨w8, hw8⟩ : ∃ w8, (w7).alloc (.cells #[.slice Ab 3 cb] 49) = w8 := ⟨_, rfl⟩
           replace H := Mem.alloc H (w7.heap.size) (by first | (simp; done) | (simp; omega)) #[.slice Ab 3 cb] 49
           simp only [List.cons_append, List.nil_append] at H
           rw [hw8] at H ⊢
           clear hw8
           have hds := isds_own (l := T.tl) HN.out.symm (H.own_ 5 rfl)
           have hws := isws_own (xs := applyW cc5 wl) HF.out.len hx6 (H.own_ 8 rfl)
           have hbF := H.below
           refine (hR _ hds hws).mono ?_
           rintro e w9 ⟨rfl, hb9⟩
           replace H := Mem.call H hb9
           clear hR hds hws
           clear shlt sh0 shf0 sh1 shf1 sh2 shf2 sh3 shf3 sh4 shf4 sh5 shf5 sh6 shf6 rrlt rr0 rrf0 rr1 rrf1 rr2 rrf2 rr3 rrf3 rr4 rrf4 rr5 rrf5 rr6 rrf6 rr7 rrf7 rr8 rrf8 ne_sh_rr ne_rr_sh
           obtain ⟨rrlt, rr0, rrf0, rr1, rrf1, rr2, rrf2, rr3, rrf3, rr4, rrf4, rr5, rrf5, rr6, rrf6, rr7, rrf7, rr8, rrf8⟩ := H.c9 7 rfl
           go_wp2
           go_ret
           exact ⟨rfl, hbF.trans (hb9.mono hbF.size)⟩
 · skip
   replace hV := fun W h1 h2 h3 => (hV W h1 h2 h3).mono fun e w' h => RetAsk.ref hE h
   obtain ⟨E, hEe⟩ : ∃ E, (o.V T (B.getD o.me cu0).a lp 600 L.length).E = E := ⟨_, rfl⟩
   rw [hEe] at hV hE
   unfold RetRef at hV
   have hEb : ((E : Int) == 0) = false := by simp; omega
   have hEn : ¬ (E : Int) = 0 := by omega
   clear hEe
   go_wp2_with fail
   refine (hV _ hds hws hps).mono ?_
   rintro e w5 ⟨A5, c5, Aq, nq, cq, rfl, hb5⟩
   replace H := Mem.call H hb5
   have hbF := H.below
   clear hV hds hws hps hb5
   clear shlt sh0 shf0 sh1 shf1 sh2 shf2 sh3 shf3 sh4 shf4 sh5 shf5 sh6 shf6 odlt od0 odf0 od1 odf1 od2 odf2 od3 odf3 od4 odf4 ne_sh_od ne_od_sh
   go_wp2
   go_ret
   exact ⟨rfl, hbF.trans ((below_a2 w5 _ _).mono hbF.size)⟩
end Go.Proofs.YtpcgpnkmjjamhaaGreat

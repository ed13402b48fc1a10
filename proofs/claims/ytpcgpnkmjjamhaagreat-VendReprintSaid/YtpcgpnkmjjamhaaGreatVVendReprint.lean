/- The walk of the law VendReprint. -/
import Derived.Test.YtpcgpnkmjjamhaaGreatMxAskF
import Derived.Test.YtpcgpnkmjjamhaaGreatMxAskR
namespace Go.Proofs.YtpcgpnkmjjamhaaGreat
open Go.RowKit
set_option linter.unusedVariables false
set_option maxRecDepth 100000 in
set_option maxHeartbeats 16000000 in
theorem walk_vendReprint (w : World) (a0 : Value) (w0 : Fit Tryz.prog w 24 a0) (a1 : Value) (w1 : Fit Tryz.prog w 25 a1) (a2 : Value) (w2 : Fit Tryz.prog w 69 a2) (a3 : Value) (w3 : Fit Tryz.prog w 25 a3) :
   Calls Tryz.prog 7 #[a0, a1, a2, a3] w fun e w' => e = .returned (.bool true) ∧ Below w.heap.size w w' := by
 obtain ⟨A, n, m, g, a, b, c, d, rfl, wa, wb, wc0, wd, hv⟩ := deal_fit w0
 obtain ⟨Al, nl, cl, f, rfl, hl⟩ := orders_fit w1
 obtain ⟨x0, x1, x2, x3, x4, rfl, wf0, wf1, wf2, wf3, wf4⟩ := order_fit w2
 obtain ⟨Ay, ny, cy, fy, rfl, hy⟩ := orders_fit w3
 clear w0 w1 w2 w3
 obtain ⟨o, ho⟩ := od_of x0 x1 x2 x3 x4
 have hO := fun W h1 h2 => opened_ok A n m g a b c d Al nl cl f W wa wb wc0 wd h1 h2
 unfold RetOpd at hO
 have H := Mem.init w
 obtain ⟨W0, hW0⟩ : ∃ W0, ((w).alloc (.cells #[.slice A n m, .int .i64 a, .int .i64 b, .int .i64 c, .int .i64 d] 24)).alloc (.cells #[.int .i64 x0, .int .i64 x1, .int .i64 x2, .int .i64 x3, .int .i64 x4] 69) = W0 := ⟨_, rfl⟩
 replace H := Mem.alloc H (w.heap.size) (by first | (simp; done) | (simp; omega)) #[.slice A n m, .int .i64 a, .int .i64 b, .int .i64 c, .int .i64 d] 24
 replace H := Mem.alloc H (w.heap.size + 1) (by first | (simp; done) | (simp; omega)) #[.int .i64 x0, .int .i64 x1, .int .i64 x2, .int .i64 x3, .int .i64 x4] 69
 simp only [List.nil_append, List.cons_append] at H
 rw [hW0] at H
 have hv0 := hv.below H.below
 have hl0 := hl.below H.below
 obtain ⟨ddlt, dd0, ddf0, dd1, ddf1, dd2, ddf2, dd3, ddf3, dd4, ddf4⟩ := H.c5 0 rfl
 go_enter Tryz.func7, Tryz.ntmps7
 go_wp2_with fail
 refine (hO _ hv0 hl0).mono ?_
 rintro e w1 ⟨T, At, nt, ct, cc, L, B, lp, Aw, cw, Ap, cp, b1, b2, b3, rfl, hT, hnt, hwl, hS, HK⟩
 replace H : Mem (w) [] (w1) [.blk (w.heap.size) 24 #[.slice A n m, .int .i64 a, .int .i64 b, .int .i64 c, .int .i64 d], .blk (w.heap.size + 1) 69 #[.int .i64 x0, .int .i64 x1, .int .i64 x2, .int .i64 x3, .int .i64 x4], .row (b1) (166) (2) (.slice At nt ct) (nt) (drs T.tl), .row (b2) (225) (4) (.slice Ap lp.length cp) (lp.length) (prs lp), .row (b3) (111) (1) (.slice Aw 600 cw) (600) (ws cc)] := Mem.join H HK
 have HN := Lib.hid hnt
 have HS := Lib.hid hS
 have HL := Lib.hid hwl
 clear hO hW0 hv0 hl0 HK hnt hS hwl
 clear ddlt dd0 ddf0 dd1 ddf1 dd2 ddf2 dd3 ddf3 dd4 ddf4
 obtain ⟨odlt, od0, odf0, od1, odf1, od2, odf2, od3, odf3, od4, odf4⟩ := H.c5 1 rfl
 go_wp2_with fail
 obtain ⟨w2, hw2⟩ : ∃ w2, (w1).alloc (.cells #[.slice At nt ct, .int .i64 ↑T.fx, .int .i64 ↑T.fb, .int .i64 ↑T.db, .int .i64 ↑T.al, .slice Aw 600 cw, .slice Ap lp.length cp] 34) = w2 := ⟨_, rfl⟩
 replace H := Mem.alloc H (w1.heap.size) (by first | (simp; done) | (simp; omega)) #[.slice At nt ct, .int .i64 ↑T.fx, .int .i64 ↑T.fb, .int .i64 ↑T.db, .int .i64 ↑T.al, .slice Aw 600 cw, .slice Ap lp.length cp] 34
 simp only [List.cons_append, List.nil_append] at H
 rw [hw2] at H ⊢
 clear hw2
 have hds := isds_own (l := T.tl) HN.out.symm (H.own_ 2 rfl)
 have hps := isps_own (l := lp) rfl (ook_wf HS.out.ook) (H.own_ 3 rfl)
 have hws := isws_own (xs := cc) HS.out.len HL.out (H.own_ 4 rfl)
 have hV := fun W h1 h2 h3 => ask_ok T hT At nt ct (.slice Aw 600 cw) cc L B o 12 Ap cp lp x0 x1 x2 x3 x4 W wf0 wf1 wf2 wf3 wf4 ho HS.out (by omega) h1 h2 h3
 have hme3 := ho.h3
 obtain ⟨me, hme⟩ : ∃ me, o.me = me := ⟨_, rfl⟩
 have hpm : Hid (pk x1 3 = (me : Int)) := by rw [← hme]; exact ho.h2
 have hme4 : me ≤ 2 := by omega
 have HM := Lib.hid hme
 have hR13 : ∀ W, IsDs W (.slice At nt ct) T.tl → IsWs W (.slice Aw 600 cw) cc → Calls Tryz.prog 18 #[.agg #[.slice At nt ct, .int .i64 ↑T.fx, .int .i64 ↑T.fb, .int .i64 ↑T.db, .int .i64 ↑T.al], .slice Aw 600 cw, .int .i64 ↑me, .int .i64 13] W fun e w' => e = .returned (.tuple #[.string ⟨#[]⟩, .int .i64 22]) ∧ Below W.heap.size W w' := fun W h1 h2 => by
   have h := reprint_ok T hT At nt ct (.slice Aw 600 cw) cc L B me me 13 W h1 h2 HS.out.srv (HS.out.at_ (by omega))
   rw [HS.out.none hT me 13 (by omega) (by omega)] at h
   exact h
 clear hme
 clear odlt od0 odf0 od1 odf1 od2 odf2 od3 odf3 od4 odf4
 obtain ⟨shlt, sh0, shf0, sh1, shf1, sh2, shf2, sh3, shf3, sh4, shf4, sh5, shf5, sh6, shf6⟩ := H.c7 5 rfl
 obtain ⟨odlt, od0, odf0, od1, odf1, od2, odf2, od3, odf3, od4, odf4⟩ := H.c5 1 rfl
 have ne_sh_od := H.ne 5 1 rfl rfl (by decide)
 have ne_od_sh := H.ne 1 5 rfl rfl (by decide)
 go_wp2_with fail
 refine (picked_is _ hpm wf1 (by omega) (by omega)).mono ?_
 rintro e w' ⟨rfl, rfl⟩

 by_cases hE : (o.V T (B.getD o.me cu0).a lp 600 L.length).E = 0
 · replace hV := fun W h1 h2 h3 => (hV W h1 h2 h3).mono fun e w' h => RetAsk.had hE h
   have HQ := Lib.hid (And.intro (fun hq : o.q = 0 => (Od.V_lp0 (T := T) (a := (B.getD o.me cu0).a) (lp := lp) (n := 600) (m := L.length) hq).2.1) (fun hq => Od.V_str HS.out hT (by omega) ho hq hE))
   have HG := Lib.hid (fun hq c3 L3 B3 lp3 k3 h1 h2 h3 => HS.out.again (c3 := c3) (L3 := L3) (B3 := B3) (lp3 := lp3) (k3 := k3) hT (by omega) ho.h3 hq hE h1 h2 h3)
   have hX := HS.out.ask hT (by omega) ho hE
   obtain ⟨V, hVe⟩ : ∃ V, o.V T (B.getD o.me cu0).a lp 600 L.length = V := ⟨_, rfl⟩
   obtain ⟨c2, hc2⟩ : ∃ c2, o.c T (B.getD o.me cu0) lp = c2 := ⟨_, rfl⟩
   obtain ⟨v, hv⟩ : ∃ v, o.v T (B.getD o.me cu0).a lp = v := ⟨_, rfl⟩
   rw [hVe] at hV hX
   rw [hc2, hv] at hX
   rw [hVe] at HQ HG
   rw [hc2] at HG
   clear hVe hE hc2 hv
   obtain ⟨wl, lq, vme, ⟨id, te2, de, fe, pr, ch, un⟩, s, E⟩ := V
   unfold RetHad at hV
   dsimp only at hV HQ HG
   obtain ⟨nw, hnw⟩ : ∃ nw, wl.length = nw := ⟨_, rfl⟩
   rw [hnw] at hV
   have hnw1 : 1 ≤ nw ∧ nw ≤ 15 := by have := hX.len; dsimp only at this; omega
   have HX := Lib.hid hX
   have HW := Lib.hid hnw
   clear hX hnw
   go_wp2_with fail
   refine (hV _ hds hws hps).mono ?_
   rintro e w5 ⟨A5, c5, Aq, cq, zv, zn, zx, rfl, ho1, ho2, hq, hb5⟩

   by_cases hq0 : o.q = 0
   · have hs := HQ.out.1 hq0
     subst hs
     replace H := Mem.call H hb5
     clear hV hds hws hps ho1 ho2 hq hb5
     clear shlt sh0 shf0 sh1 shf1 sh2 shf2 sh3 shf3 sh4 shf4 sh5 shf5 sh6 shf6 odlt od0 odf0 od1 odf1 od2 odf2 od3 odf3 od4 odf4 ne_sh_od ne_od_sh
     have hds := isds_own (l := T.tl) HN.out.symm (H.own_ 2 rfl)
     have hws := isws_own (xs := cc) HS.out.len HL.out (H.own_ 4 rfl)
     have hb2 := below_a2 w5 (.cells #[.slice Aq lq.length cq] 32) (.cells #[.int .i64 ↑vme, .int .i64 ↑id, .int .i64 ↑te2, .int .i64 ↑de, .int .i64 ↑fe, .int .i64 ↑pr, .int .i64 ↑ch, .int .i64 ↑un, .string ⟨#[]⟩] 72)
     have hbF := H.below
     obtain ⟨shlt, sh0, shf0, sh1, shf1, sh2, shf2, sh3, shf3, sh4, shf4, sh5, shf5, sh6, shf6⟩ := H.c7 5 rfl
     go_wp2_with fail
     refine (hR13 _ (hds.below hb2) (hws.below hb2)).mono ?_
     rintro e w6 ⟨rfl, hb6⟩
     go_wp2
     go_ret
     exact ⟨rfl, hbF.trans ((hb2.trans (hb6.mono hb2.size)).mono hbF.size)⟩
   · have hse := HQ.out.2 hq0
     rcases hq with ⟨h, _⟩ | ⟨_, rfl, rfl, rfl⟩
     · exact absurd h hq0
     have HQ0 := Lib.hid hq0
     clear hq0 HQ
     have HJ := Mem.row2 (Mem.init _) hb5 ho1 ho2 (by decide)
     skip
     replace H : Mem (w) [] (w5) [.blk (w.heap.size) 24 #[.slice A n m, .int .i64 a, .int .i64 b, .int .i64 c, .int .i64 d], .blk (w.heap.size + 1) 69 #[.int .i64 x0, .int .i64 x1, .int .i64 x2, .int .i64 x3, .int .i64 x4], .row (b1) (166) (2) (.slice At nt ct) (nt) (drs T.tl), .row (b2) (225) (4) (.slice Ap lp.length cp) (lp.length) (prs lp), .row (b3) (111) (1) (.slice Aw 600 cw) (600) (ws cc), .blk (w1.heap.size) 34 #[.slice At nt ct, .int .i64 ↑T.fx, .int .i64 ↑T.fb, .int .i64 ↑T.db, .int .i64 ↑T.al, .slice Aw 600 cw, .slice Ap lp.length cp], .row (w2.heap.size) (225) (4) (.slice Aq lq.length cq) (lq.length) (prs lq), .row (w2.heap.size) (113) (2) (.slice A5 nw c5) (nw) (wrs wl)] := Mem.join H HJ
     clear hV hds hws hps ho1 ho2 hb5 HJ hR13
     clear shlt sh0 shf0 sh1 shf1 sh2 shf2 sh3 shf3 sh4 shf4 sh5 shf5 sh6 shf6 odlt od0 odf0 od1 odf1 od2 odf2 od3 odf3 od4 odf4 ne_sh_od ne_od_sh
     obtain ⟨shlt, sh0, shf0, sh1, shf1, sh2, shf2, sh3, shf3, sh4, shf4, sh5, shf5, sh6, shf6⟩ := H.c7 5 rfl
     go_wp2_with fail
     obtain ⟨w6, hw6⟩ : ∃ w6, ((w5).alloc (.cells #[.slice Aq lq.length cq] 32)).alloc (.cells #[.int .i64 ↑vme, .int .i64 ↑id, .int .i64 ↑te2, .int .i64 ↑de, .int .i64 ↑fe, .int .i64 ↑pr, .int .i64 ↑ch, .int .i64 ↑un, .string s] 72) = w6 := ⟨_, rfl⟩
     replace H := Mem.alloc H (w5.heap.size) (by first | (simp; done) | (simp; omega)) #[.slice Aq lq.length cq] 32
     replace H := Mem.alloc H (w5.heap.size + 1) (by first | (simp; done) | (simp; omega)) #[.int .i64 ↑vme, .int .i64 ↑id, .int .i64 ↑te2, .int .i64 ↑de, .int .i64 ↑fe, .int .i64 ↑pr, .int .i64 ↑ch, .int .i64 ↑un, .string s] 72
     simp only [List.cons_append, List.nil_append] at H
     rw [hw6] at H ⊢
     clear hw6
     have hws := isws_own (xs := cc) HS.out.len HL.out (H.own_ 4 rfl)
     have hwr := iswr_own (l := wl) HW.out HX.out.lt (H.own_ 7 rfl)
     refine (apply600 Aw cw A5 c5 cc wl nw nw _ HW.out HS.out.len hws hwr HX.out.at_ (by omega) (Nat.le_refl _)).mono ?_
     rintro e w7 ⟨A6, c6, rfl, ⟨hx6, ho6⟩, hb6⟩
     rw [List.take_of_length_le (Nat.le_of_eq HW.out)] at hx6 ho6
     replace H : Mem (w) [] (w7) [.blk (w.heap.size) 24 #[.slice A n m, .int .i64 a, .int .i64 b, .int .i64 c, .int .i64 d], .blk (w.heap.size + 1) 69 #[.int .i64 x0, .int .i64 x1, .int .i64 x2, .int .i64 x3, .int .i64 x4], .row (b1) (166) (2) (.slice At nt ct) (nt) (drs T.tl), .row (b2) (225) (4) (.slice Ap lp.length cp) (lp.length) (prs lp), .row (b3) (111) (1) (.slice Aw 600 cw) (600) (ws cc), .blk (w1.heap.size) 34 #[.slice At nt ct, .int .i64 ↑T.fx, .int .i64 ↑T.fb, .int .i64 ↑T.db, .int .i64 ↑T.al, .slice Aw 600 cw, .slice Ap lp.length cp], .row (w2.heap.size) (225) (4) (.slice Aq lq.length cq) (lq.length) (prs lq), .row (w2.heap.size) (113) (2) (.slice A5 nw c5) (nw) (wrs wl), .blk (w5.heap.size) 32 #[.slice Aq lq.length cq], .blk (w5.heap.size + 1) 72 #[.int .i64 ↑vme, .int .i64 ↑id, .int .i64 ↑te2, .int .i64 ↑de, .int .i64 ↑fe, .int .i64 ↑pr, .int .i64 ↑ch, .int .i64 ↑un, .string s], .row (w6.heap.size) (111) (1) (.slice A6 600 c6) (600) (ws (applyW cc wl))] := Mem.row H hb6 ho6 (Nat.le_refl _)
     clear hws hwr ho6 hb6 hse
     have HZ := Mem.set 5 (Mem.set 5 H rfl 5 (.slice A6 600 c6)) rfl 6 (.slice Aq lq.length cq)
     have HM0 := pick_row 6 (pick_row 4 (Mem.drop_ 5 (Mem.drop_ 5 (Mem.drop_ 3 (Mem.drop_ 3 HZ)))) rfl) rfl
     have HSh := HX.out.shp
     clear shlt sh0 shf0 sh1 shf1 sh2 shf2 sh3 shf3 sh4 shf4 sh5 shf5 sh6 shf6
     obtain ⟨shlt, sh0, shf0, sh1, shf1, sh2, shf2, sh3, shf3, sh4, shf4, sh5, shf5, sh6, shf6⟩ := H.c7 5 rfl
     obtain ⟨rolt, ro0, rof0⟩ := H.c1 8 rfl
     have ne_sh_ro := H.ne 5 8 rfl rfl (by decide)
     have ne_ro_sh := H.ne 8 5 rfl rfl (by decide)
     go_wp2
     obtain ⟨gs, hgs⟩ : ∃ gs, w1.heap.size = gs := ⟨_, rfl⟩
     obtain ⟨gr, hgr⟩ : ∃ gr, w5.heap.size + 1 = gr := ⟨_, rfl⟩
     rw [hgs] at HM0 ⊢
     rw [hgr] at HM0 ⊢
     clear H hgs hgr HZ
     go_loopw [20] (fun i wr => ∃ (k : Nat) (cc5 : List Nat) (L5 : List Ev) (B5 : List Cu) (lp5 : List Pr) (Aw5 : Option Addr) (cw5 : Nat) (Ap5 : Option Addr) (cp5 bw5 bp5 : Nat), k ≤ 6 ∧ k ≤ ny ∧ i = .int .i64 ↑k ∧ (∀ x ∈ cc5, x < 4294967296) ∧ Shp T cc5 L5 B5 lp5 (13 + k) ∧ (∃ t, (B5.getD me cu0).s = c2.s ++ t) ∧ Mem w [] wr [.row (bw5) (111) (1) (.slice Aw5 600 cw5) (600) (ws cc5), .row (bp5) (225) (4) (.slice Ap5 lp5.length cp5) (lp5.length) (prs lp5), .blk (w.heap.size) 24 #[.slice A n m, .int .i64 a, .int .i64 b, .int .i64 c, .int .i64 d], .blk (w.heap.size + 1) 69 #[.int .i64 x0, .int .i64 x1, .int .i64 x2, .int .i64 x3, .int .i64 x4], .row (b1) (166) (2) (.slice At nt ct) (nt) (drs T.tl), .blk (gs) 34 #[.slice At nt ct, .int .i64 ↑T.fx, .int .i64 ↑T.fb, .int .i64 ↑T.db, .int .i64 ↑T.al, .slice Aw5 600 cw5, .slice Ap5 lp5.length cp5], .blk (gr) 72 #[.int .i64 ↑vme, .int .i64 ↑id, .int .i64 ↑te2, .int .i64 ↑de, .int .i64 ↑fe, .int .i64 ↑pr, .int .i64 ↑ch, .int .i64 ↑un, .string s]]) (fun i _ => 6 - (intOf i).toNat)
     case atStart => exact ⟨0, applyW cc wl, _, _, lq, A6, c6, Aq, cq, _, _, by omega, by omega, rfl, hx6, HSh, ⟨[], by rw [← HM.out]; simp [HX.out.hi]⟩, HM0⟩
     case round =>
       clear HM0 HSh hx6
       obtain ⟨k, cc5, L5, B5, lp5, Aw5, cw5, Ap5, cp5, bw5, bp5, hk6, hkn, rfl, hwl5, hS5, hgrow, HM1⟩ := hrel
       have H : Mem (w) [] (wr) [.row (bw5) (111) (1) (.slice Aw5 600 cw5) (600) (ws cc5), .row (bp5) (225) (4) (.slice Ap5 lp5.length cp5) (lp5.length) (prs lp5), .blk (w.heap.size) 24 #[.slice A n m, .int .i64 a, .int .i64 b, .int .i64 c, .int .i64 d], .blk (w.heap.size + 1) 69 #[.int .i64 x0, .int .i64 x1, .int .i64 x2, .int .i64 x3, .int .i64 x4], .row (b1) (166) (2) (.slice At nt ct) (nt) (drs T.tl), .blk (gs) 34 #[.slice At nt ct, .int .i64 ↑T.fx, .int .i64 ↑T.fb, .int .i64 ↑T.db, .int .i64 ↑T.al, .slice Aw5 600 cw5, .slice Ap5 lp5.length cp5], .blk (gr) 72 #[.int .i64 ↑vme, .int .i64 ↑id, .int .i64 ↑te2, .int .i64 ↑de, .int .i64 ↑fe, .int .i64 ↑pr, .int .i64 ↑ch, .int .i64 ↑un, .string s]] := HM1
       clear HM1
       have HS5 := Lib.hid (And.intro hS5 hgrow)
       clear hS5 hgrow

       by_cases hlt : k < ny ∧ k < 6
       · obtain ⟨hk1, hk2⟩ := hlt
         obtain ⟨A9, c9, e9, _, _, hwf, hcl⟩ := hy
         injection e9 with e91 _ e93
         subst e91 e93
         obtain ⟨bl, ol, rfl, hbl0, hcl⟩ := hcl (by omega)
         have hbw := H.below
         have yf0 := hwf k hk1 0 .i64 rfl
         have yf1 := hwf k hk1 1 .i64 rfl
         have yf2 := hwf k hk1 2 .i64 rfl
         have yf3 := hwf k hk1 3 .i64 rfl
         have yf4 := hwf k hk1 4 .i64 rfl
         have p0 : wr.cell? ⟨bl, ol + k * 5, none⟩ = _ := (hbw.cell (p := ⟨bl, ol + k * 5, none⟩) hbl0).trans (hcl k hk1 0 .i64 rfl)
         have p1 : wr.cell? ⟨bl, ol + k * 5 + 1, none⟩ = _ := (hbw.cell (p := ⟨bl, ol + k * 5 + 1, none⟩) hbl0).trans (hcl k hk1 1 .i64 rfl)
         have p2 : wr.cell? ⟨bl, ol + k * 5 + 2, none⟩ = _ := (hbw.cell (p := ⟨bl, ol + k * 5 + 2, none⟩) hbl0).trans (hcl k hk1 2 .i64 rfl)
         have p3 : wr.cell? ⟨bl, ol + k * 5 + 3, none⟩ = _ := (hbw.cell (p := ⟨bl, ol + k * 5 + 3, none⟩) hbl0).trans (hcl k hk1 3 .i64 rfl)
         have p4 : wr.cell? ⟨bl, ol + k * 5 + 4, none⟩ = _ := (hbw.cell (p := ⟨bl, ol + k * 5 + 4, none⟩) hbl0).trans (hcl k hk1 4 .i64 rfl)
         have hbl : bl < wr.heap.size := Nat.lt_of_lt_of_le hbl0 hbw.size
         generalize fy k 0 = y0 at yf0 p0
         generalize fy k 1 = y1 at yf1 p1
         generalize fy k 2 = y2 at yf2 p2
         generalize fy k 3 = y3 at yf3 p3
         generalize fy k 4 = y4 at yf4 p4
         clear hwf hcl hbw hbl0
         obtain ⟨o5, ho5⟩ := od_of y0 y1 y2 y3 y4
         have hds := isds_own (l := T.tl) HN.out.symm (H.own_ 4 rfl)
         have hws0 := isws_own (xs := cc5) HS5.out.1.len hwl5 (H.own_ 0 rfl)
         have hps0 := isps_own (l := lp5) rfl (ook_wf HS5.out.1.ook) (H.own_ 1 rfl)
         have ki1 : (k : Int) < (ny : Int) := by omega
         have ki2 : (k : Int) < 6 := by omega
         have hV5 := fun W h1 h2 h3 => ask_ok T hT At nt ct (.slice Aw5 600 cw5) cc5 L5 B5 o5 (13 + k) Ap5 cp5 lp5 y0 y1 y2 y3 y4 W yf0 yf1 yf2 yf3 yf4 ho5 HS5.out.1 (by omega) h1 h2 h3
         have hX5 := fun h => HS5.out.1.ask hT (by omega) ho5 h
         have hQ5 := fun h => (Od.V_lp0 (o := o5) (T := T) (a := (B5.getD o5.me cu0).a) (lp := lp5) (n := 600) (m := L5.length) h).1
         obtain ⟨V, hVe⟩ : ∃ V, o5.V T (B5.getD o5.me cu0).a lp5 600 L5.length = V := ⟨_, rfl⟩
         obtain ⟨c25, hc2⟩ : ∃ c2, o5.c T (B5.getD o5.me cu0) lp5 = c2 := ⟨_, rfl⟩
         obtain ⟨v5, hv⟩ : ∃ v, o5.v T (B5.getD o5.me cu0).a lp5 = v := ⟨_, rfl⟩
         obtain ⟨q5, hq5⟩ : ∃ q, o5.q = q := ⟨_, rfl⟩
         rw [hVe, hq5] at hV5
         rw [hVe, hc2, hv] at hX5
         rw [hVe, hq5] at hQ5
         clear hVe hc2 hv hq5
         obtain ⟨wl5, lq5, vme5, ⟨id5, te5, de5, fe5, pr5, ch5, un5⟩, sx5, E5⟩ := V
         unfold RetAsk at hV5
         dsimp only at hV5 hX5 hQ5
         obtain ⟨nw5, hnw5⟩ : ∃ nw, wl5.length = nw := ⟨_, rfl⟩
         rw [hnw5] at hV5
         have HX5 := Lib.hid (And.intro hX5 (And.intro hQ5 hnw5))
         clear hX5 hQ5 hnw5 ho5
         clear shlt sh0 shf0 sh1 shf1 sh2 shf2 sh3 shf3 sh4 shf4 sh5 shf5 sh6 shf6 rolt ro0 rof0 ne_sh_ro ne_ro_sh
         obtain ⟨shlt, sh0, shf0, sh1, shf1, sh2, shf2, sh3, shf3, sh4, shf4, sh5, shf5, sh6, shf6⟩ := H.c7 5 rfl
         go_upto_region 17 with fail
         obtain ⟨LL, hLL⟩ : ∃ LL : List Chunk, [.row (bw5) (111) (1) (.slice Aw5 600 cw5) (600) (ws cc5), .row (bp5) (225) (4) (.slice Ap5 lp5.length cp5) (lp5.length) (prs lp5), .blk (w.heap.size) 24 #[.slice A n m, .int .i64 a, .int .i64 b, .int .i64 c, .int .i64 d], .blk (w.heap.size + 1) 69 #[.int .i64 x0, .int .i64 x1, .int .i64 x2, .int .i64 x3, .int .i64 x4], .row (b1) (166) (2) (.slice At nt ct) (nt) (drs T.tl), .blk (gs) 34 #[.slice At nt ct, .int .i64 ↑T.fx, .int .i64 ↑T.fb, .int .i64 ↑T.db, .int .i64 ↑T.al, .slice Aw5 600 cw5, .slice Ap5 lp5.length cp5], .blk (gr) 72 #[.int .i64 ↑vme, .int .i64 ↑id, .int .i64 ↑te2, .int .i64 ↑de, .int .i64 ↑fe, .int .i64 ↑pr, .int .i64 ↑ch, .int .i64 ↑un, .string s]] = LL := ⟨_, rfl⟩
         rw [hLL] at H
         go_cut [22, 23, 21, 24] from 81 to 118 (fun p0 p1 p2 p3 wx => ∃ (ob rb : Nat) (A5 : Option Addr) (c5 : Nat) (Aq : Option Addr) (cq : Nat) (zv : Value) (zn : Nat) (zx : List Value) (base : Nat), p0 = .pointer (some ⟨ob, 0, none⟩) ∧ p1 = .pointer (some ⟨rb, 0, none⟩) ∧ p2 = .slice A5 nw5 c5 ∧ p3 = .int .i64 ↑E5 ∧ AskQ q5 lq5 Ap5 cp5 Aq cq zv zn zx ∧ Mem (w) [] wx (LL ++ (.blk ob 32 #[.slice Aq lq5.length cq] :: .blk rb 72 #[.int .i64 ↑vme5, .int .i64 ↑id5, .int .i64 ↑te5, .int .i64 ↑de5, .int .i64 ↑fe5, .int .i64 ↑pr5, .int .i64 ↑ch5, .int .i64 ↑un5, .string sx5] :: [.row (base) (225) (4) (zv) (zn) (zx), .row (base) (113) (2) (.slice A5 nw5 c5) (nw5) (wrs wl5)])) ∧ Below wr.heap.size wr wx)
         case first =>
           have nz0a : wr.heap.size ≠ gs := by have := shlt; omega
           have nz0b : wr.heap.size + 1 ≠ gs := by have := shlt; omega
           have nz0c : gs ≠ wr.heap.size := by have := shlt; omega
           have nz0d : gs ≠ wr.heap.size + 1 := by have := shlt; omega
           have nz1a : wr.heap.size ≠ bl := by have := hbl; omega
           have nz1b : wr.heap.size + 1 ≠ bl := by have := hbl; omega
           have nz1c : bl ≠ wr.heap.size := by have := hbl; omega
           have nz1d : bl ≠ wr.heap.size + 1 := by have := hbl; omega
           have V0 : Mem wr [] (wr).drew [] := (Mem.init wr).drew
           have B0 := V0.below
           have V1 : Mem wr [] (wr.alloc (.cells #[.slice none 0 0] 32)).drew [.blk (wr.heap.size) 32 #[.slice none 0 0]] := ((Mem.init wr).alloc _ rfl #[.slice none 0 0] 32).drew
           have B1 := V1.below
           have V1b0 := V1.blk 0 rfl
           have V2 : Mem wr [] (wr.alloc (.cells #[.int .i64 0, .int .i64 0, .int .i64 0, .int .i64 0, .int .i64 0, .int .i64 0, .int .i64 0, .int .i64 0, .string ⟨#[]⟩] 72)).drew [.blk (wr.heap.size) 72 #[.int .i64 0, .int .i64 0, .int .i64 0, .int .i64 0, .int .i64 0, .int .i64 0, .int .i64 0, .int .i64 0, .string ⟨#[]⟩]] := ((Mem.init wr).alloc _ rfl #[.int .i64 0, .int .i64 0, .int .i64 0, .int .i64 0, .int .i64 0, .int .i64 0, .int .i64 0, .int .i64 0, .string ⟨#[]⟩] 72).drew
           have B2 := V2.below
           have V2b1 := V2.blk 0 rfl
           have V3 : Mem wr [] ((wr.alloc (.cells #[.slice none 0 0] 32)).alloc (.cells #[.int .i64 0, .int .i64 0, .int .i64 0, .int .i64 0, .int .i64 0, .int .i64 0, .int .i64 0, .int .i64 0, .string ⟨#[]⟩] 72)).drew [.blk (wr.heap.size) 32 #[.slice none 0 0], .blk (wr.heap.size + 1) 72 #[.int .i64 0, .int .i64 0, .int .i64 0, .int .i64 0, .int .i64 0, .int .i64 0, .int .i64 0, .int .i64 0, .string ⟨#[]⟩]] := (((Mem.init wr).alloc _ rfl #[.slice none 0 0] 32).alloc (wr.heap.size + 1) (by simp) #[.int .i64 0, .int .i64 0, .int .i64 0, .int .i64 0, .int .i64 0, .int .i64 0, .int .i64 0, .int .i64 0, .string ⟨#[]⟩] 72).drew
           have B3 := V3.below
           have V3b0 := V3.blk 0 rfl
           have V3b1 := V3.blk 1 rfl
           have V4 : Mem wr [] ((wr.alloc (.cells #[.int .i64 0, .int .i64 0, .int .i64 0, .int .i64 0, .int .i64 0, .int .i64 0, .int .i64 0, .int .i64 0, .string ⟨#[]⟩] 72)).alloc (.cells #[.slice none 0 0] 32)).drew [.blk (wr.heap.size + 1) 32 #[.slice none 0 0], .blk (wr.heap.size) 72 #[.int .i64 0, .int .i64 0, .int .i64 0, .int .i64 0, .int .i64 0, .int .i64 0, .int .i64 0, .int .i64 0, .string ⟨#[]⟩]] := Mem.perm (List.Perm.swap _ _ _) (((Mem.init wr).alloc _ rfl #[.int .i64 0, .int .i64 0, .int .i64 0, .int .i64 0, .int .i64 0, .int .i64 0, .int .i64 0, .int .i64 0, .string ⟨#[]⟩] 72).alloc (wr.heap.size + 1) (by simp) #[.slice none 0 0] 32).drew
           have B4 := V4.below
           have V4b0 := V4.blk 0 rfl
           have V4b1 := V4.blk 1 rfl
           go_region_held3 (fun w' => w'.cell? ⟨gs, 0, none⟩ = some (.slice At nt ct) ∧ w'.cell? ⟨gs, 1, none⟩ = some (.int .i64 ↑T.fx) ∧ w'.cell? ⟨gs, 2, none⟩ = some (.int .i64 ↑T.fb) ∧ w'.cell? ⟨gs, 3, none⟩ = some (.int .i64 ↑T.db) ∧ w'.cell? ⟨gs, 4, none⟩ = some (.int .i64 ↑T.al) ∧ w'.cell? ⟨gs, 5, none⟩ = some (.slice Aw5 600 cw5) ∧ w'.cell? ⟨gs, 6, none⟩ = some (.slice Ap5 lp5.length cp5) ∧ w'.cell? ⟨bl, ol + k * 5, none⟩ = some (.int .i64 y0) ∧ w'.cell? ⟨bl, ol + k * 5 + 1, none⟩ = some (.int .i64 y1) ∧ w'.cell? ⟨bl, ol + k * 5 + 2, none⟩ = some (.int .i64 y2) ∧ w'.cell? ⟨bl, ol + k * 5 + 3, none⟩ = some (.int .i64 y3) ∧ w'.cell? ⟨bl, ol + k * 5 + 4, none⟩ = some (.int .i64 y4)) (first | with_reducible exact ⟨s0, s1, s2, s3, s4, s5, s6, s7, s8, s9, s10, s11⟩ | go_keep | fail) (first | (go_at_call 16; (with_reducible refine (hV5 (wr).drew (hds.below B0) (hws0.below B0) (hps0.below B0)).mono ?_); rintro e we ⟨A5, c5, Aq, cq, zv, zn, zx, rfl, ho1, ho2, hAQ, hbe⟩; have hV := V0; obtain ⟨bse, hK⟩ : ∃ bse : Nat, Mem (wr).drew [] we [.row (bse) (225) (4) (zv) (zn) (zx), .row (bse) (113) (2) (.slice A5 nw5 c5) (nw5) (wrs wl5)] := ⟨_, Mem.row2 (Mem.init _) hbe ho1 ho2 (by decide)⟩; have hWe : Below wr.heap.size wr we := B0.trans (hbe.mono B0.size); have s0 := (hWe.cell (p := ⟨gs, 0, none⟩) shlt).trans sh0; have s1 := (hWe.cell (p := ⟨gs, 1, none⟩) shlt).trans sh1; have s2 := (hWe.cell (p := ⟨gs, 2, none⟩) shlt).trans sh2; have s3 := (hWe.cell (p := ⟨gs, 3, none⟩) shlt).trans sh3; have s4 := (hWe.cell (p := ⟨gs, 4, none⟩) shlt).trans sh4; have s5 := (hWe.cell (p := ⟨gs, 5, none⟩) shlt).trans sh5; have s6 := (hWe.cell (p := ⟨gs, 6, none⟩) shlt).trans sh6; have s7 := (hWe.cell (p := ⟨bl, ol + k * 5, none⟩) hbl).trans p0; have s8 := (hWe.cell (p := ⟨bl, ol + k * 5 + 1, none⟩) hbl).trans p1; have s9 := (hWe.cell (p := ⟨bl, ol + k * 5 + 2, none⟩) hbl).trans p2; have s10 := (hWe.cell (p := ⟨bl, ol + k * 5 + 3, none⟩) hbl).trans p3; have s11 := (hWe.cell (p := ⟨bl, ol + k * 5 + 4, none⟩) hbl).trans p4; have sz := hWe.size; have ez0a : we.heap.size ≠ gs := (by have := shlt; omega); have ez0b : we.heap.size + 1 ≠ gs := (by have := shlt; omega); have ez1a : we.heap.size ≠ bl := (by have := hbl; omega); have ez1b : we.heap.size + 1 ≠ bl := (by have := hbl; omega)) | (go_at_call 16; (with_reducible refine (hV5 (wr.alloc (.cells #[.slice none 0 0] 32)).drew (hds.below B1) (hws0.below B1) (hps0.below B1)).mono ?_); rintro e we ⟨A5, c5, Aq, cq, zv, zn, zx, rfl, ho1, ho2, hAQ, hbe⟩; have hV := V1; obtain ⟨bse, hK⟩ : ∃ bse : Nat, Mem (wr.alloc (.cells #[.slice none 0 0] 32)).drew [] we [.row (bse) (225) (4) (zv) (zn) (zx), .row (bse) (113) (2) (.slice A5 nw5 c5) (nw5) (wrs wl5)] := ⟨_, Mem.row2 (Mem.init _) hbe ho1 ho2 (by decide)⟩; have hWe : Below wr.heap.size wr we := B1.trans (hbe.mono B1.size); have s0 := (hWe.cell (p := ⟨gs, 0, none⟩) shlt).trans sh0; have s1 := (hWe.cell (p := ⟨gs, 1, none⟩) shlt).trans sh1; have s2 := (hWe.cell (p := ⟨gs, 2, none⟩) shlt).trans sh2; have s3 := (hWe.cell (p := ⟨gs, 3, none⟩) shlt).trans sh3; have s4 := (hWe.cell (p := ⟨gs, 4, none⟩) shlt).trans sh4; have s5 := (hWe.cell (p := ⟨gs, 5, none⟩) shlt).trans sh5; have s6 := (hWe.cell (p := ⟨gs, 6, none⟩) shlt).trans sh6; have s7 := (hWe.cell (p := ⟨bl, ol + k * 5, none⟩) hbl).trans p0; have s8 := (hWe.cell (p := ⟨bl, ol + k * 5 + 1, none⟩) hbl).trans p1; have s9 := (hWe.cell (p := ⟨bl, ol + k * 5 + 2, none⟩) hbl).trans p2; have s10 := (hWe.cell (p := ⟨bl, ol + k * 5 + 3, none⟩) hbl).trans p3; have s11 := (hWe.cell (p := ⟨bl, ol + k * 5 + 4, none⟩) hbl).trans p4; have sz := hWe.size; have ez0a : we.heap.size ≠ gs := (by have := shlt; omega); have ez0b : we.heap.size + 1 ≠ gs := (by have := shlt; omega); have ez1a : we.heap.size ≠ bl := (by have := hbl; omega); have ez1b : we.heap.size + 1 ≠ bl := (by have := hbl; omega); have zb0 := Blk.below V1b0 hbe V1b0.lt; have zb0_0 := zb0.cell 0; have zb0f0 := zb0.frozen 0; have zb0lt : wr.heap.size < we.heap.size := zb0.lt) | (go_at_call 16; (with_reducible refine (hV5 (wr.alloc (.cells #[.int .i64 0, .int .i64 0, .int .i64 0, .int .i64 0, .int .i64 0, .int .i64 0, .int .i64 0, .int .i64 0, .string ⟨#[]⟩] 72)).drew (hds.below B2) (hws0.below B2) (hps0.below B2)).mono ?_); rintro e we ⟨A5, c5, Aq, cq, zv, zn, zx, rfl, ho1, ho2, hAQ, hbe⟩; have hV := V2; obtain ⟨bse, hK⟩ : ∃ bse : Nat, Mem (wr.alloc (.cells #[.int .i64 0, .int .i64 0, .int .i64 0, .int .i64 0, .int .i64 0, .int .i64 0, .int .i64 0, .int .i64 0, .string ⟨#[]⟩] 72)).drew [] we [.row (bse) (225) (4) (zv) (zn) (zx), .row (bse) (113) (2) (.slice A5 nw5 c5) (nw5) (wrs wl5)] := ⟨_, Mem.row2 (Mem.init _) hbe ho1 ho2 (by decide)⟩; have hWe : Below wr.heap.size wr we := B2.trans (hbe.mono B2.size); have s0 := (hWe.cell (p := ⟨gs, 0, none⟩) shlt).trans sh0; have s1 := (hWe.cell (p := ⟨gs, 1, none⟩) shlt).trans sh1; have s2 := (hWe.cell (p := ⟨gs, 2, none⟩) shlt).trans sh2; have s3 := (hWe.cell (p := ⟨gs, 3, none⟩) shlt).trans sh3; have s4 := (hWe.cell (p := ⟨gs, 4, none⟩) shlt).trans sh4; have s5 := (hWe.cell (p := ⟨gs, 5, none⟩) shlt).trans sh5; have s6 := (hWe.cell (p := ⟨gs, 6, none⟩) shlt).trans sh6; have s7 := (hWe.cell (p := ⟨bl, ol + k * 5, none⟩) hbl).trans p0; have s8 := (hWe.cell (p := ⟨bl, ol + k * 5 + 1, none⟩) hbl).trans p1; have s9 := (hWe.cell (p := ⟨bl, ol + k * 5 + 2, none⟩) hbl).trans p2; have s10 := (hWe.cell (p := ⟨bl, ol + k * 5 + 3, none⟩) hbl).trans p3; have s11 := (hWe.cell (p := ⟨bl, ol + k * 5 + 4, none⟩) hbl).trans p4; have sz := hWe.size; have ez0a : we.heap.size ≠ gs := (by have := shlt; omega); have ez0b : we.heap.size + 1 ≠ gs := (by have := shlt; omega); have ez1a : we.heap.size ≠ bl := (by have := hbl; omega); have ez1b : we.heap.size + 1 ≠ bl := (by have := hbl; omega); have zb1 := Blk.below V2b1 hbe V2b1.lt; have zb1_0 := zb1.cell 0; have zb1f0 := zb1.frozen 0; have zb1_1 := zb1.cell 1; have zb1f1 := zb1.frozen 1; have zb1_2 := zb1.cell 2; have zb1f2 := zb1.frozen 2; have zb1_3 := zb1.cell 3; have zb1f3 := zb1.frozen 3; have zb1_4 := zb1.cell 4; have zb1f4 := zb1.frozen 4; have zb1_5 := zb1.cell 5; have zb1f5 := zb1.frozen 5; have zb1_6 := zb1.cell 6; have zb1f6 := zb1.frozen 6; have zb1_7 := zb1.cell 7; have zb1f7 := zb1.frozen 7; have zb1_8 := zb1.cell 8; have zb1f8 := zb1.frozen 8; have zb1lt : wr.heap.size < we.heap.size := zb1.lt) | (go_at_call 16; (with_reducible refine (hV5 ((wr.alloc (.cells #[.slice none 0 0] 32)).alloc (.cells #[.int .i64 0, .int .i64 0, .int .i64 0, .int .i64 0, .int .i64 0, .int .i64 0, .int .i64 0, .int .i64 0, .string ⟨#[]⟩] 72)).drew (hds.below B3) (hws0.below B3) (hps0.below B3)).mono ?_); rintro e we ⟨A5, c5, Aq, cq, zv, zn, zx, rfl, ho1, ho2, hAQ, hbe⟩; have hV := V3; obtain ⟨bse, hK⟩ : ∃ bse : Nat, Mem ((wr.alloc (.cells #[.slice none 0 0] 32)).alloc (.cells #[.int .i64 0, .int .i64 0, .int .i64 0, .int .i64 0, .int .i64 0, .int .i64 0, .int .i64 0, .int .i64 0, .string ⟨#[]⟩] 72)).drew [] we [.row (bse) (225) (4) (zv) (zn) (zx), .row (bse) (113) (2) (.slice A5 nw5 c5) (nw5) (wrs wl5)] := ⟨_, Mem.row2 (Mem.init _) hbe ho1 ho2 (by decide)⟩; have hWe : Below wr.heap.size wr we := B3.trans (hbe.mono B3.size); have s0 := (hWe.cell (p := ⟨gs, 0, none⟩) shlt).trans sh0; have s1 := (hWe.cell (p := ⟨gs, 1, none⟩) shlt).trans sh1; have s2 := (hWe.cell (p := ⟨gs, 2, none⟩) shlt).trans sh2; have s3 := (hWe.cell (p := ⟨gs, 3, none⟩) shlt).trans sh3; have s4 := (hWe.cell (p := ⟨gs, 4, none⟩) shlt).trans sh4; have s5 := (hWe.cell (p := ⟨gs, 5, none⟩) shlt).trans sh5; have s6 := (hWe.cell (p := ⟨gs, 6, none⟩) shlt).trans sh6; have s7 := (hWe.cell (p := ⟨bl, ol + k * 5, none⟩) hbl).trans p0; have s8 := (hWe.cell (p := ⟨bl, ol + k * 5 + 1, none⟩) hbl).trans p1; have s9 := (hWe.cell (p := ⟨bl, ol + k * 5 + 2, none⟩) hbl).trans p2; have s10 := (hWe.cell (p := ⟨bl, ol + k * 5 + 3, none⟩) hbl).trans p3; have s11 := (hWe.cell (p := ⟨bl, ol + k * 5 + 4, none⟩) hbl).trans p4; have sz := hWe.size; have ez0a : we.heap.size ≠ gs := (by have := shlt; omega); have ez0b : we.heap.size + 1 ≠ gs := (by have := shlt; omega); have ez1a : we.heap.size ≠ bl := (by have := hbl; omega); have ez1b : we.heap.size + 1 ≠ bl := (by have := hbl; omega); have zb0 := Blk.below V3b0 hbe V3b0.lt; have zb0_0 := zb0.cell 0; have zb0f0 := zb0.frozen 0; have zb0lt : wr.heap.size < we.heap.size := zb0.lt; have zb1 := Blk.below V3b1 hbe V3b1.lt; have zb1_0 := zb1.cell 0; have zb1f0 := zb1.frozen 0; have zb1_1 := zb1.cell 1; have zb1f1 := zb1.frozen 1; have zb1_2 := zb1.cell 2; have zb1f2 := zb1.frozen 2; have zb1_3 := zb1.cell 3; have zb1f3 := zb1.frozen 3; have zb1_4 := zb1.cell 4; have zb1f4 := zb1.frozen 4; have zb1_5 := zb1.cell 5; have zb1f5 := zb1.frozen 5; have zb1_6 := zb1.cell 6; have zb1f6 := zb1.frozen 6; have zb1_7 := zb1.cell 7; have zb1f7 := zb1.frozen 7; have zb1_8 := zb1.cell 8; have zb1f8 := zb1.frozen 8; have zb1lt : wr.heap.size + 1 < we.heap.size := zb1.lt; have zn1 : wr.heap.size ≠ wr.heap.size + 1 := (by omega); have zn2 : wr.heap.size + 1 ≠ wr.heap.size := (by omega)) | (go_at_call 16; (with_reducible refine (hV5 ((wr.alloc (.cells #[.int .i64 0, .int .i64 0, .int .i64 0, .int .i64 0, .int .i64 0, .int .i64 0, .int .i64 0, .int .i64 0, .string ⟨#[]⟩] 72)).alloc (.cells #[.slice none 0 0] 32)).drew (hds.below B4) (hws0.below B4) (hps0.below B4)).mono ?_); rintro e we ⟨A5, c5, Aq, cq, zv, zn, zx, rfl, ho1, ho2, hAQ, hbe⟩; have hV := V4; obtain ⟨bse, hK⟩ : ∃ bse : Nat, Mem ((wr.alloc (.cells #[.int .i64 0, .int .i64 0, .int .i64 0, .int .i64 0, .int .i64 0, .int .i64 0, .int .i64 0, .int .i64 0, .string ⟨#[]⟩] 72)).alloc (.cells #[.slice none 0 0] 32)).drew [] we [.row (bse) (225) (4) (zv) (zn) (zx), .row (bse) (113) (2) (.slice A5 nw5 c5) (nw5) (wrs wl5)] := ⟨_, Mem.row2 (Mem.init _) hbe ho1 ho2 (by decide)⟩; have hWe : Below wr.heap.size wr we := B4.trans (hbe.mono B4.size); have s0 := (hWe.cell (p := ⟨gs, 0, none⟩) shlt).trans sh0; have s1 := (hWe.cell (p := ⟨gs, 1, none⟩) shlt).trans sh1; have s2 := (hWe.cell (p := ⟨gs, 2, none⟩) shlt).trans sh2; have s3 := (hWe.cell (p := ⟨gs, 3, none⟩) shlt).trans sh3; have s4 := (hWe.cell (p := ⟨gs, 4, none⟩) shlt).trans sh4; have s5 := (hWe.cell (p := ⟨gs, 5, none⟩) shlt).trans sh5; have s6 := (hWe.cell (p := ⟨gs, 6, none⟩) shlt).trans sh6; have s7 := (hWe.cell (p := ⟨bl, ol + k * 5, none⟩) hbl).trans p0; have s8 := (hWe.cell (p := ⟨bl, ol + k * 5 + 1, none⟩) hbl).trans p1; have s9 := (hWe.cell (p := ⟨bl, ol + k * 5 + 2, none⟩) hbl).trans p2; have s10 := (hWe.cell (p := ⟨bl, ol + k * 5 + 3, none⟩) hbl).trans p3; have s11 := (hWe.cell (p := ⟨bl, ol + k * 5 + 4, none⟩) hbl).trans p4; have sz := hWe.size; have ez0a : we.heap.size ≠ gs := (by have := shlt; omega); have ez0b : we.heap.size + 1 ≠ gs := (by have := shlt; omega); have ez1a : we.heap.size ≠ bl := (by have := hbl; omega); have ez1b : we.heap.size + 1 ≠ bl := (by have := hbl; omega); have zb0 := Blk.below V4b0 hbe V4b0.lt; have zb0_0 := zb0.cell 0; have zb0f0 := zb0.frozen 0; have zb0lt : wr.heap.size + 1 < we.heap.size := zb0.lt; have zb1 := Blk.below V4b1 hbe V4b1.lt; have zb1_0 := zb1.cell 0; have zb1f0 := zb1.frozen 0; have zb1_1 := zb1.cell 1; have zb1f1 := zb1.frozen 1; have zb1_2 := zb1.cell 2; have zb1f2 := zb1.frozen 2; have zb1_3 := zb1.cell 3; have zb1f3 := zb1.frozen 3; have zb1_4 := zb1.cell 4; have zb1f4 := zb1.frozen 4; have zb1_5 := zb1.cell 5; have zb1f5 := zb1.frozen 5; have zb1_6 := zb1.cell 6; have zb1f6 := zb1.frozen 6; have zb1_7 := zb1.cell 7; have zb1f7 := zb1.frozen 7; have zb1_8 := zb1.cell 8; have zb1f8 := zb1.frozen 8; have zb1lt : wr.heap.size < we.heap.size := zb1.lt; have zn1 : wr.heap.size + 1 ≠ wr.heap.size := (by omega); have zn2 : wr.heap.size ≠ wr.heap.size + 1 := (by omega)))
           all_goals
             go_wp2_with fail
             go_meet
             refine ⟨_, _, A5, c5, Aq, cq, zv, zn, zx, bse, rfl, rfl, rfl, rfl, hAQ, ?_⟩
             first
             | with_reducible exact ⟨cr2_a H hV hK, (cr2_a (Mem.init wr) hV hK).below⟩
             | with_reducible exact ⟨cr2_b H hV hK, (cr2_b (Mem.init wr) hV hK).below⟩
             | (have h := cr2_c (c1 := #[.slice Aq lq5.length cq]) (c2 := #[.int .i64 ↑vme5, .int .i64 ↑id5, .int .i64 ↑te5, .int .i64 ↑de5, .int .i64 ↑fe5, .int .i64 ↑pr5, .int .i64 ↑ch5, .int .i64 ↑un5, .string sx5]) (t1 := 32) (t2 := 72) H hV hK [(0, .slice Aq lq5.length cq)] (by simp only [List.foldl_cons, List.foldl_nil, List.setIfInBounds_toArray, List.set_cons_zero])
                have h2 := (cr2_c (c1 := #[.slice Aq lq5.length cq]) (c2 := #[.int .i64 ↑vme5, .int .i64 ↑id5, .int .i64 ↑te5, .int .i64 ↑de5, .int .i64 ↑fe5, .int .i64 ↑pr5, .int .i64 ↑ch5, .int .i64 ↑un5, .string sx5]) (t1 := 32) (t2 := 72) (Mem.init wr) hV hK [(0, .slice Aq lq5.length cq)] (by simp only [List.foldl_cons, List.foldl_nil, List.setIfInBounds_toArray, List.set_cons_zero])).below
                simp only [sets, List.foldl_cons, List.foldl_nil] at h h2
                with_reducible exact ⟨h, h2⟩)
             | (have h := cr2_d (c1 := #[.slice Aq lq5.length cq]) (c2 := #[.int .i64 ↑vme5, .int .i64 ↑id5, .int .i64 ↑te5, .int .i64 ↑de5, .int .i64 ↑fe5, .int .i64 ↑pr5, .int .i64 ↑ch5, .int .i64 ↑un5, .string sx5]) (t1 := 32) (t2 := 72) H hV hK [(0, .int .i64 ↑vme5), (1, .int .i64 ↑id5), (2, .int .i64 ↑te5), (3, .int .i64 ↑de5), (4, .int .i64 ↑fe5), (5, .int .i64 ↑pr5), (6, .int .i64 ↑ch5), (7, .int .i64 ↑un5), (8, .string sx5)] (by simp only [List.foldl_cons, List.foldl_nil, List.setIfInBounds_toArray, List.set_cons_zero, List.set_cons_succ])
                have h2 := (cr2_d (c1 := #[.slice Aq lq5.length cq]) (c2 := #[.int .i64 ↑vme5, .int .i64 ↑id5, .int .i64 ↑te5, .int .i64 ↑de5, .int .i64 ↑fe5, .int .i64 ↑pr5, .int .i64 ↑ch5, .int .i64 ↑un5, .string sx5]) (t1 := 32) (t2 := 72) (Mem.init wr) hV hK [(0, .int .i64 ↑vme5), (1, .int .i64 ↑id5), (2, .int .i64 ↑te5), (3, .int .i64 ↑de5), (4, .int .i64 ↑fe5), (5, .int .i64 ↑pr5), (6, .int .i64 ↑ch5), (7, .int .i64 ↑un5), (8, .string sx5)] (by simp only [List.foldl_cons, List.foldl_nil, List.setIfInBounds_toArray, List.set_cons_zero, List.set_cons_succ])).below
                simp only [sets, List.foldl_cons, List.foldl_nil] at h h2
                with_reducible exact ⟨h, h2⟩)
             | (have h := cr2_e (c1 := #[.slice Aq lq5.length cq]) (c2 := #[.int .i64 ↑vme5, .int .i64 ↑id5, .int .i64 ↑te5, .int .i64 ↑de5, .int .i64 ↑fe5, .int .i64 ↑pr5, .int .i64 ↑ch5, .int .i64 ↑un5, .string sx5]) (t1 := 32) (t2 := 72) H hV hK [(0, .slice Aq lq5.length cq)] [(0, .int .i64 ↑vme5), (1, .int .i64 ↑id5), (2, .int .i64 ↑te5), (3, .int .i64 ↑de5), (4, .int .i64 ↑fe5), (5, .int .i64 ↑pr5), (6, .int .i64 ↑ch5), (7, .int .i64 ↑un5), (8, .string sx5)] (by simp only [List.foldl_cons, List.foldl_nil, List.setIfInBounds_toArray, List.set_cons_zero]) (by simp only [List.foldl_cons, List.foldl_nil, List.setIfInBounds_toArray, List.set_cons_zero, List.set_cons_succ])
                have h2 := (cr2_e (c1 := #[.slice Aq lq5.length cq]) (c2 := #[.int .i64 ↑vme5, .int .i64 ↑id5, .int .i64 ↑te5, .int .i64 ↑de5, .int .i64 ↑fe5, .int .i64 ↑pr5, .int .i64 ↑ch5, .int .i64 ↑un5, .string sx5]) (t1 := 32) (t2 := 72) (Mem.init wr) hV hK [(0, .slice Aq lq5.length cq)] [(0, .int .i64 ↑vme5), (1, .int .i64 ↑id5), (2, .int .i64 ↑te5), (3, .int .i64 ↑de5), (4, .int .i64 ↑fe5), (5, .int .i64 ↑pr5), (6, .int .i64 ↑ch5), (7, .int .i64 ↑un5), (8, .string sx5)] (by simp only [List.foldl_cons, List.foldl_nil, List.setIfInBounds_toArray, List.set_cons_zero]) (by simp only [List.foldl_cons, List.foldl_nil, List.setIfInBounds_toArray, List.set_cons_zero, List.set_cons_succ])).below
                simp only [sets, List.foldl_cons, List.foldl_nil] at h h2
                with_reducible exact ⟨h, h2⟩)
             | (have h := cr2_f (c1 := #[.slice Aq lq5.length cq]) (c2 := #[.int .i64 ↑vme5, .int .i64 ↑id5, .int .i64 ↑te5, .int .i64 ↑de5, .int .i64 ↑fe5, .int .i64 ↑pr5, .int .i64 ↑ch5, .int .i64 ↑un5, .string sx5]) (t1 := 32) (t2 := 72) H hV hK [(0, .slice Aq lq5.length cq)] [(0, .int .i64 ↑vme5), (1, .int .i64 ↑id5), (2, .int .i64 ↑te5), (3, .int .i64 ↑de5), (4, .int .i64 ↑fe5), (5, .int .i64 ↑pr5), (6, .int .i64 ↑ch5), (7, .int .i64 ↑un5), (8, .string sx5)] (by simp only [List.foldl_cons, List.foldl_nil, List.setIfInBounds_toArray, List.set_cons_zero]) (by simp only [List.foldl_cons, List.foldl_nil, List.setIfInBounds_toArray, List.set_cons_zero, List.set_cons_succ])
                have h2 := (cr2_f (c1 := #[.slice Aq lq5.length cq]) (c2 := #[.int .i64 ↑vme5, .int .i64 ↑id5, .int .i64 ↑te5, .int .i64 ↑de5, .int .i64 ↑fe5, .int .i64 ↑pr5, .int .i64 ↑ch5, .int .i64 ↑un5, .string sx5]) (t1 := 32) (t2 := 72) (Mem.init wr) hV hK [(0, .slice Aq lq5.length cq)] [(0, .int .i64 ↑vme5), (1, .int .i64 ↑id5), (2, .int .i64 ↑te5), (3, .int .i64 ↑de5), (4, .int .i64 ↑fe5), (5, .int .i64 ↑pr5), (6, .int .i64 ↑ch5), (7, .int .i64 ↑un5), (8, .string sx5)] (by simp only [List.foldl_cons, List.foldl_nil, List.setIfInBounds_toArray, List.set_cons_zero]) (by simp only [List.foldl_cons, List.foldl_nil, List.setIfInBounds_toArray, List.set_cons_zero, List.set_cons_succ])).below
                simp only [sets, List.foldl_cons, List.foldl_nil] at h h2
                with_reducible exact ⟨h, h2⟩)
         case rest =>
           obtain ⟨ob, rb, A5, c5, Aq, cq, zv, zn, zx, base, rfl, rfl, rfl, rfl, hfAQ, H, hCR⟩ := hcut
           subst hLL
           replace H : Mem (w) [] (wc) [.row (bw5) (111) (1) (.slice Aw5 600 cw5) (600) (ws cc5), .row (bp5) (225) (4) (.slice Ap5 lp5.length cp5) (lp5.length) (prs lp5), .blk (w.heap.size) 24 #[.slice A n m, .int .i64 a, .int .i64 b, .int .i64 c, .int .i64 d], .blk (w.heap.size + 1) 69 #[.int .i64 x0, .int .i64 x1, .int .i64 x2, .int .i64 x3, .int .i64 x4], .row (b1) (166) (2) (.slice At nt ct) (nt) (drs T.tl), .blk (gs) 34 #[.slice At nt ct, .int .i64 ↑T.fx, .int .i64 ↑T.fb, .int .i64 ↑T.db, .int .i64 ↑T.al, .slice Aw5 600 cw5, .slice Ap5 lp5.length cp5], .blk (gr) 72 #[.int .i64 ↑vme, .int .i64 ↑id, .int .i64 ↑te2, .int .i64 ↑de, .int .i64 ↑fe, .int .i64 ↑pr, .int .i64 ↑ch, .int .i64 ↑un, .string s], .blk (ob) 32 #[.slice Aq lq5.length cq], .blk (rb) 72 #[.int .i64 ↑vme5, .int .i64 ↑id5, .int .i64 ↑te5, .int .i64 ↑de5, .int .i64 ↑fe5, .int .i64 ↑pr5, .int .i64 ↑ch5, .int .i64 ↑un5, .string sx5], .row (base) (225) (4) (zv) (zn) (zx), .row (base) (113) (2) (.slice A5 nw5 c5) (nw5) (wrs wl5)] := H
           clear hV5 hds hws0 hps0 hCR p0 p1 p2 p3 p4 hbl
           by_cases hE : E5 = 0
           · subst hE
             have hX := HX5.out.1 rfl
             have hnw5 := HX5.out.2.2
             have hnw51 : 1 ≤ nw5 ∧ nw5 ≤ 15 := by have := hX.len; dsimp only at this; omega
             have hws := isws_own (xs := cc5) HS5.out.1.len hwl5 (H.own_ 0 rfl)
             have hwr := iswr_own (l := wl5) hnw5 hX.lt (H.own_ 10 rfl)
             have HXX := Lib.hid hX
             have HW5 := Lib.hid hnw5
             have hAQH := Lib.hid hfAQ
             clear hX hnw5 hfAQ
             clear shlt sh0 shf0 sh1 shf1 sh2 shf2 sh3 shf3 sh4 shf4 sh5 shf5 sh6 shf6
             obtain ⟨shlt, sh0, shf0, sh1, shf1, sh2, shf2, sh3, shf3, sh4, shf4, sh5, shf5, sh6, shf6⟩ := H.c7 5 rfl
             go_wp2_with fail
             refine (apply600 Aw5 cw5 A5 c5 cc5 wl5 nw5 nw5 _ HW5.out HS5.out.1.len hws hwr HXX.out.at_ (by omega) (Nat.le_refl _)).mono ?_
             rintro e wv ⟨A6, c6, rfl, ⟨hx6, ho6⟩, hb6⟩
             rw [List.take_of_length_le (Nat.le_of_eq HW5.out)] at hx6 ho6
             replace H : Mem (w) [] (wv) [.row (bw5) (111) (1) (.slice Aw5 600 cw5) (600) (ws cc5), .row (bp5) (225) (4) (.slice Ap5 lp5.length cp5) (lp5.length) (prs lp5), .blk (w.heap.size) 24 #[.slice A n m, .int .i64 a, .int .i64 b, .int .i64 c, .int .i64 d], .blk (w.heap.size + 1) 69 #[.int .i64 x0, .int .i64 x1, .int .i64 x2, .int .i64 x3, .int .i64 x4], .row (b1) (166) (2) (.slice At nt ct) (nt) (drs T.tl), .blk (gs) 34 #[.slice At nt ct, .int .i64 ↑T.fx, .int .i64 ↑T.fb, .int .i64 ↑T.db, .int .i64 ↑T.al, .slice Aw5 600 cw5, .slice Ap5 lp5.length cp5], .blk (gr) 72 #[.int .i64 ↑vme, .int .i64 ↑id, .int .i64 ↑te2, .int .i64 ↑de, .int .i64 ↑fe, .int .i64 ↑pr, .int .i64 ↑ch, .int .i64 ↑un, .string s], .blk (ob) 32 #[.slice Aq lq5.length cq], .blk (rb) 72 #[.int .i64 ↑vme5, .int .i64 ↑id5, .int .i64 ↑te5, .int .i64 ↑de5, .int .i64 ↑fe5, .int .i64 ↑pr5, .int .i64 ↑ch5, .int .i64 ↑un5, .string sx5], .row (base) (225) (4) (zv) (zn) (zx), .row (base) (113) (2) (.slice A5 nw5 c5) (nw5) (wrs wl5), .row (wc.heap.size) (111) (1) (.slice A6 600 c6) (600) (ws (applyW cc5 wl5))] := Mem.row H hb6 ho6 (Nat.le_refl _)
             clear hws hwr ho6 hb6
             clear shlt sh0 shf0 sh1 shf1 sh2 shf2 sh3 shf3 sh4 shf4 sh5 shf5 sh6 shf6
             obtain ⟨shlt, sh0, shf0, sh1, shf1, sh2, shf2, sh3, shf3, sh4, shf4, sh5, shf5, sh6, shf6⟩ := H.c7 5 rfl
             obtain ⟨oblt, ob0, obf0⟩ := H.c1 7 rfl
             have ne_sh_ob := H.ne 5 7 rfl rfl (by decide)
             have ne_ob_sh := H.ne 7 5 rfl rfl (by decide)
             go_wp2
             go_roundw
             case rel =>
               obtain ⟨t0, ht0⟩ := HS5.out.2
               obtain ⟨t1, ht1⟩ := HXX.out.gr me
               have HZ := Mem.set 5 (Mem.set 5 H rfl 5 (.slice A6 600 c6)) rfl 6 (.slice Aq lq5.length cq)
               rcases hAQH.out with ⟨hq0, rfl, rfl⟩ | ⟨_, rfl, rfl, rfl⟩
               · have hl5 := HX5.out.2.1 hq0
                 subst hl5
                 exact ⟨k + 1, applyW cc5 wl5, _, _, _, A6, c6, _, _, _, _, by omega, by omega, by go_num, hx6, HXX.out.shp, ⟨t0 ++ t1, by rw [ht1, ht0, List.append_assoc]⟩, pick_row 6 (Mem.drop_ 6 (Mem.drop_ 6 (Mem.drop_ 6 (Mem.drop_ 6 (Mem.drop_ 0 HZ))))) rfl⟩
               · exact ⟨k + 1, applyW cc5 wl5, _, _, _, A6, c6, _, _, _, _, by omega, by omega, by go_num, hx6, HXX.out.shp, ⟨t0 ++ t1, by rw [ht1, ht0, List.append_assoc]⟩, pick_row 6 (pick_row 5 (Mem.drop_ 6 (Mem.drop_ 5 (Mem.drop_ 5 (Mem.drop_ 0 (Mem.drop_ 0 HZ))))) rfl) rfl⟩
             case measure => simp [intOf]; omega
           · have hEb : ((E5 : Int) == 0) = false := by simp; omega
             have hEn : ¬ (E5 : Int) = 0 := by omega
             clear HX5 hfAQ
             go_wp2
             go_roundw
             case rel => exact ⟨k + 1, cc5, L5, B5, lp5, Aw5, cw5, Ap5, cp5, _, _, by omega, by omega, by go_num, hwl5, HS5.out.1.more, HS5.out.2, Mem.drop_ 7 (Mem.drop_ 7 (Mem.drop_ 7 (Mem.drop_ 7 H)))⟩
             case measure => simp [intOf]; omega
       · skip
         have hds := isds_own (l := T.tl) HN.out.symm (H.own_ 4 rfl)
         have hws := isws_own (xs := cc5) HS5.out.1.len hwl5 (H.own_ 0 rfl)
         have hR := fun W h1 h2 => reprint_ok T hT At nt ct (.slice Aw5 600 cw5) cc5 L5 B5 me me id W h1 h2 HS5.out.1.srv (HS5.out.1.at_ (by omega))
         have hG := HG.out HQ0.out cc5 L5 B5 lp5 (13 + k) HS5.out.1 (by omega) (by rw [HM.out]; exact HS5.out.2)
         rw [HM.out] at hG
         simp only [hG] at hR
         have hbF := H.below
         clear hG

         by_cases hk1 : k < ny
         · have ki1 : (k : Int) < (ny : Int) := by omega
           have ki2 : ¬ (k : Int) < 6 := by omega
           clear shlt sh0 shf0 sh1 shf1 sh2 shf2 sh3 shf3 sh4 shf4 sh5 shf5 sh6 shf6 rolt ro0 rof0 ne_sh_ro ne_ro_sh
           obtain ⟨shlt, sh0, shf0, sh1, shf1, sh2, shf2, sh3, shf3, sh4, shf4, sh5, shf5, sh6, shf6⟩ := H.c7 5 rfl
           obtain ⟨rrlt, rr0, rrf0, rr1, rrf1, rr2, rrf2, rr3, rrf3, rr4, rrf4, rr5, rrf5, rr6, rrf6, rr7, rrf7, rr8, rrf8⟩ := H.c9 6 rfl
           have ne_sh_rr := H.ne 5 6 rfl rfl (by decide)
           have ne_rr_sh := H.ne 6 5 rfl rfl (by decide)
           go_wp2_with fail
           refine (hR _ hds hws).mono ?_
           rintro e w9 ⟨rfl, hb9⟩
           replace H := Mem.call H hb9
           clear hR hds hws
           clear shlt sh0 shf0 sh1 shf1 sh2 shf2 sh3 shf3 sh4 shf4 sh5 shf5 sh6 shf6 rrlt rr0 rrf0 rr1 rrf1 rr2 rrf2 rr3 rrf3 rr4 rrf4 rr5 rrf5 rr6 rrf6 rr7 rrf7 rr8 rrf8 ne_sh_rr ne_rr_sh
           obtain ⟨rrlt, rr0, rrf0, rr1, rrf1, rr2, rrf2, rr3, rrf3, rr4, rrf4, rr5, rrf5, rr6, rrf6, rr7, rrf7, rr8, rrf8⟩ := H.c9 6 rfl
           go_wp2
           go_ret
           exact ⟨rfl, hbF.trans (hb9.mono hbF.size)⟩
         · have ki1 : ¬ (k : Int) < (ny : Int) := by omega
           skip
           clear shlt sh0 shf0 sh1 shf1 sh2 shf2 sh3 shf3 sh4 shf4 sh5 shf5 sh6 shf6 rolt ro0 rof0 ne_sh_ro ne_ro_sh
           obtain ⟨shlt, sh0, shf0, sh1, shf1, sh2, shf2, sh3, shf3, sh4, shf4, sh5, shf5, sh6, shf6⟩ := H.c7 5 rfl
           obtain ⟨rrlt, rr0, rrf0, rr1, rrf1, rr2, rrf2, rr3, rrf3, rr4, rrf4, rr5, rrf5, rr6, rrf6, rr7, rrf7, rr8, rrf8⟩ := H.c9 6 rfl
           have ne_sh_rr := H.ne 5 6 rfl rfl (by decide)
           have ne_rr_sh := H.ne 6 5 rfl rfl (by decide)
           go_wp2_with fail
           refine (hR _ hds hws).mono ?_
           rintro e w9 ⟨rfl, hb9⟩
           replace H := Mem.call H hb9
           clear hR hds hws
           clear shlt sh0 shf0 sh1 shf1 sh2 shf2 sh3 shf3 sh4 shf4 sh5 shf5 sh6 shf6 rrlt rr0 rrf0 rr1 rrf1 rr2 rrf2 rr3 rrf3 rr4 rrf4 rr5 rrf5 rr6 rrf6 rr7 rrf7 rr8 rrf8 ne_sh_rr ne_rr_sh
           obtain ⟨rrlt, rr0, rrf0, rr1, rrf1, rr2, rrf2, rr3, rrf3, rr4, rrf4, rr5, rrf5, rr6, rrf6, rr7, rrf7, rr8, rrf8⟩ := H.c9 6 rfl
           go_wp2
           go_ret
           exact ⟨rfl, hbF.trans (hb9.mono hbF.size)⟩
 · skip
   replace hV := fun W h1 h2 h3 => (hV W h1 h2 h3).mono fun e w' h => RetAsk.ref hE h
   obtain ⟨E, hEe⟩ : ∃ E, (o.V T (B.getD o.me cu0).a lp 600 L.length).E = E := ⟨_, rfl⟩
   rw [hEe] at hV hE
   unfold RetRef at hV
   have hEb : ((E : Int) == 0) = false := by simp; omega
   have hEn : ¬ (E : Int) = 0 := by omega
   clear hEe
   go_wp2_with fail
   refine (hV _ hds hws hps).mono ?_
   rintro e w5 ⟨A5, c5, Aq, nq, cq, rfl, hb5⟩
   replace H := Mem.call H hb5
   clear hV hds hws hps hb5
   clear shlt sh0 shf0 sh1 shf1 sh2 shf2 sh3 shf3 sh4 shf4 sh5 shf5 sh6 shf6 odlt od0 odf0 od1 odf1 od2 odf2 od3 odf3 od4 odf4 ne_sh_od ne_od_sh
   have hds := isds_own (l := T.tl) HN.out.symm (H.own_ 2 rfl)
   have hws := isws_own (xs := cc) HS.out.len HL.out (H.own_ 4 rfl)
   have hb2 := below_a2 w5 (.cells #[.slice Aq nq cq] 32) (.cells #[.int .i64 0, .int .i64 0, .int .i64 0, .int .i64 0, .int .i64 0, .int .i64 0, .int .i64 0, .int .i64 0, .string ⟨#[]⟩] 72)
   have hbF := H.below
   obtain ⟨shlt, sh0, shf0, sh1, shf1, sh2, shf2, sh3, shf3, sh4, shf4, sh5, shf5, sh6, shf6⟩ := H.c7 5 rfl
   go_wp2_with fail
   refine (hR13 _ (hds.below hb2) (hws.below hb2)).mono ?_
   rintro e w6 ⟨rfl, hb6⟩
   go_wp2
   go_ret
   exact ⟨rfl, hbF.trans ((hb2.trans (hb6.mono hb2.size)).mono hbF.size)⟩
end Go.Proofs.YtpcgpnkmjjamhaaGreat

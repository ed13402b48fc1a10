/- The walk of the law BookNumbers. -/
import Derived.Test.YtpcgpnkmjjamhaaGreatM37
namespace Go.Proofs.YtpcgpnkmjjamhaaGreat
open Go.RowKit
set_option linter.unusedVariables false
set_option maxRecDepth 100000 in
set_option maxHeartbeats 8000000 in
theorem walk_bookNumbers (w : World) (a0 : Value) (w0 : Fit Tryz.prog w 24 a0) (a1 : Value) (w1 : Fit Tryz.prog w 25 a1) :
   Calls Tryz.prog 4 #[a0, a1] w fun e w' => e = .returned (.bool true) ∧ Below w.heap.size w w' := by
 obtain ⟨A, n, m, g, a, b, c, d, rfl, wa, wb, wc0, wd, hv⟩ := deal_fit w0
 obtain ⟨Al, nl, cl, f, rfl, hl⟩ := orders_fit w1
 clear w0 w1
 have hO := fun W h1 h2 => opened_ok A n m g a b c d Al nl cl f W wa wb wc0 wd h1 h2
 unfold RetOpd at hO
 have H := Mem.init w
 obtain ⟨W0, hW0⟩ : ∃ W0, (w).alloc (.cells #[.slice A n m, .int .i64 a, .int .i64 b, .int .i64 c, .int .i64 d] 24) = W0 := ⟨_, rfl⟩
 replace H := Mem.alloc H (w.heap.size) (by first | (simp; done) | (simp; omega)) #[.slice A n m, .int .i64 a, .int .i64 b, .int .i64 c, .int .i64 d] 24
 simp only [List.nil_append] at H
 rw [hW0] at H
 have hv0 := hv.below H.below
 have hl0 := hl.below H.below
 obtain ⟨ddlt, dd0, ddf0, dd1, ddf1, dd2, ddf2, dd3, ddf3, dd4, ddf4⟩ := H.c5 0 rfl
 go_enter Tryz.func4, Tryz.ntmps4
 go_wp2_with fail
 refine (hO _ hv0 hl0).mono ?_
 rintro e w1 ⟨T, At, nt, ct, cc, L, B, lp, Aw, cw, Ap, cp, b1, b2, b3, rfl, hT, hnt, hwl, hS, HK⟩
 have hds := isds_own (l := T.tl) hnt.symm (HK.own_ 0 rfl)
 have hws := isws_own (xs := cc) hS.len hwl (HK.own_ 2 rfl)
 have hbw := HK.below
 replace H := Mem.call H hbw
 have HS := Lib.hid hS
 have hnum := hS.srv.num hT
 have hbok := hS.srv.bok hT
 clear hO hW0 hv0 hl0 HK hbw hnt hwl
 clear ddlt dd0 ddf0 dd1 ddf1 dd2 ddf2 dd3 ddf3 dd4 ddf4
 go_wp2_with fail
 obtain ⟨w2, hw2⟩ : ∃ w2, (w1).alloc (.cells #[.slice At nt ct, .int .i64 ↑T.fx, .int .i64 ↑T.fb, .int .i64 ↑T.db, .int .i64 ↑T.al, .slice Aw 600 cw, .slice Ap lp.length cp] 34) = w2 := ⟨_, rfl⟩
 replace H := Mem.alloc H (w1.heap.size) (by first | (simp; done) | (simp; omega)) #[.slice At nt ct, .int .i64 ↑T.fx, .int .i64 ↑T.fb, .int .i64 ↑T.db, .int .i64 ↑T.al, .slice Aw 600 cw, .slice Ap lp.length cp] 34
 simp only [List.cons_append, List.nil_append] at H
 rw [hw2] at H ⊢
 have hds2 : IsDs w2 (.slice At nt ct) T.tl := by rw [← hw2]; exact hds.below (below_a1 w1 _)
 have hws2 : IsWs w2 (.slice Aw 600 cw) cc := by rw [← hw2]; exact hws.below (below_a1 w1 _)
 clear hds hws hw2
 obtain ⟨shlt, sh0, shf0, sh1, shf1, sh2, shf2, sh3, shf3, sh4, shf4, sh5, shf5, sh6, shf6⟩ := H.c7 1 rfl
 go_wp2_with fail
 refine (load_ok T hT At nt ct (.slice Aw 600 cw) cc L B _ hds2 hws2 HS.out.srv).mono ?_
 rintro e w3 ⟨v, rfl, hbk, hb3⟩
 obtain ⟨Ab, nb, cb, rfl⟩ := hbk.slice
 have hnb := hbk.is.len
 have hc3 := HS.out.cus
 obtain rfl : nb = 3 := by omega
 replace H := Mem.call H hb3
 clear hds2 hws2 hb3 hnb
 clear shlt sh0 shf0 sh1 shf1 sh2 shf2 sh3 shf3 sh4 shf4 sh5 shf5 sh6 shf6
 go_wp2_with fail
 obtain ⟨w4, hw4⟩ : ∃ w4, (w3).alloc (.cells #[.slice Ab 3 cb] 49) = w4 := ⟨_, rfl⟩
 replace H := Mem.alloc H (w3.heap.size) (by first | (simp; done) | (simp; omega)) #[.slice Ab 3 cb] 49
 simp only [List.cons_append, List.nil_append] at H
 rw [hw4] at H ⊢
 have hB4 : IsBk w4 (.slice Ab 3 cb) B := by rw [← hw4]; exact hbk.is.below (below_a1 w3 _)
 clear hw4 hbk
 obtain ⟨bklt, bk0, bkf0⟩ := H.c1 2 rfl
 have hbw := H.below
 have hb0 := bk0
 have hblt := bklt
 have HB := Lib.hid hB4
 have HN := Lib.hid hnum
 have HO := Lib.hid hbok
 clear hB4 hnum hbok
 go_loopw [9] (fun i wr => ∃ k : Nat, k ≤ 3 ∧ i = .int .i64 ↑k ∧ Below w4.heap.size w4 wr) (fun i _ => 3 - (intOf i).toNat)
 case atStart => exact ⟨0, by omega, rfl, Below.refl _ _⟩
 case round =>
   obtain ⟨k, hk, rfl, hbr⟩ := hrel
   obtain ⟨wo, hwo⟩ : ∃ wo, wo = wr := ⟨_, rfl⟩
   subst hwo
   have c0 := (hbr.cell (p := ⟨w3.heap.size, 0, none⟩) hblt).trans hb0
   by_cases hlt : k < 3
   · have hkB : k < B.length := by omega
     obtain ⟨b9, off, Ad, cd, As, cs, rfl, hB, hdd, hss, p0, p1, p2, p3, p4, p5, p6, p7⟩ := HB.out.at_ hkB
     have q0 := (hbr.cell (p := ⟨b9, off + k * 8, none⟩) hB).trans p0
     have q1 := (hbr.cell (p := ⟨b9, off + k * 8 + 1, none⟩) hB).trans p1
     have q2 := (hbr.cell (p := ⟨b9, off + k * 8 + 2, none⟩) hB).trans p2
     have q3 := (hbr.cell (p := ⟨b9, off + k * 8 + 3, none⟩) hB).trans p3
     have q4 := (hbr.cell (p := ⟨b9, off + k * 8 + 4, none⟩) hB).trans p4
     have q5 := (hbr.cell (p := ⟨b9, off + k * 8 + 5, none⟩) hB).trans p5
     have q6 := (hbr.cell (p := ⟨b9, off + k * 8 + 6, none⟩) hB).trans p6
     have q7 := (hbr.cell (p := ⟨b9, off + k * 8 + 7, none⟩) hB).trans p7
     have hss1 := hss.below hbr
     have hme := HS.out.me k hkB
     have hnx := (HO.out.h1 B[k] (List.getElem_mem hkB)).2
     have hnu := HN.out B[k] (List.getElem_mem hkB)
     have hsl := HO.out.sold (List.getElem_mem hkB)
     have hL9 := HS.out.srv.len
     generalize B[k] = cu at hsl q0 q1 q2 q3 q4 q5 q6 q7 hss1 hme hnx hnu
     obtain ⟨⟨me, rev, next, month, bought, free, ld⟩, s⟩ := cu
     dsimp only at hsl q0 q1 q2 q3 q4 q5 q6 q7 hss1 hme hnx hnu
     rw [hme] at q0
     obtain ⟨ns, hns⟩ : ∃ ns, s.length = ns := ⟨_, rfl⟩
     obtain ⟨nd, hnd⟩ : ∃ nd, ld.length = nd := ⟨_, rfl⟩
     rw [hns] at q7 hss1 hnx
     rw [hnd] at q6
     have hnxI : (ns : Int) + 1 = (next : Int) := by omega
     have k3 : (k : Int) < 3 := by omega
     have HU := Lib.hid (And.intro hns hnu)
     have hlim2 : (ns : Int) ≤ 1000 := by omega
     clear p0 p1 p2 p3 p4 p5 p6 p7 hss hdd hB hme hnx hns hnd hnu hsl hL9
     go_wp2_with fail
     obtain ⟨wx, hwx⟩ : ∃ wx, wo.alloc (.cells #[.int .i64 ↑k, .int .i64 ↑rev, .int .i64 ↑next, .int .i64 ↑month, .int .i64 ↑bought, .int .i64 free, .slice Ad nd cd, .slice As ns cs] 61) = wx := ⟨_, rfl⟩
     have hX : Blk wx wo.heap.size 61 #[.int .i64 ↑k, .int .i64 ↑rev, .int .i64 ↑next, .int .i64 ↑month, .int .i64 ↑bought, .int .i64 free, .slice Ad nd cd, .slice As ns cs] := by rw [← hwx]; exact Blk.new _ _ _
     have hbx : Below wo.heap.size wo wx := by rw [← hwx]; exact below_a1 _ _
     have hss2 := hss1.below hbx
     rw [hwx]
     have x1 : wx.cell? ⟨wo.heap.size, 1, none⟩ = some (.int .i64 ↑rev) := hX.cell 1
     have x7 : wx.cell? ⟨wo.heap.size, 7, none⟩ = some (.slice As ns cs) := hX.cell 7
     have xlt := hX.lt
     clear hwx hX hss1 q0 q1 q2 q3 q4 q5 q6 q7 c0
     go_loopw [11] (fun i wr => ∃ j : Nat, j ≤ ns ∧ i = .int .i64 ↑j ∧ Below wx.heap.size wx wr) (fun i _ => ns - (intOf i).toNat)
     case atStart => exact ⟨0, by omega, rfl, Below.refl _ _⟩
     case round =>
       obtain ⟨j, hj, rfl, hbz⟩ := hrel
       have y1 := (hbz.cell (p := ⟨wo.heap.size, 1, none⟩) xlt).trans x1
       have y7 := (hbz.cell (p := ⟨wo.heap.size, 7, none⟩) xlt).trans x7
       by_cases hjl : j < ns
       · obtain ⟨hns, hnu⟩ := HU.out
         have hjs : j < s.length := by omega
         obtain ⟨bs, os, rfl, hBs, r0, r1, r2, r3, r4⟩ := hss2.at_ hjs
         have u0 := (hbz.cell (p := ⟨bs, os + j * 5, none⟩) hBs).trans r0
         have u4 := (hbz.cell (p := ⟨bs, os + j * 5 + 4, none⟩) hBs).trans r4
         obtain ⟨e1, e2⟩ := hnu j hjs
         generalize s[j] = so at u0 u4 e1 e2
         obtain ⟨sid, scl, sam, stg, srv⟩ := so
         dsimp only at u0 u4 e1 e2
         have e1I : (j : Int) + 1 = (sid : Int) := by omega
         have e2I : ¬ (rev : Int) < (srv : Int) := by omega
         have e2N : decide (rev < srv) = false := decide_eq_false (by omega)
         have jl : (j : Int) < (ns : Int) := by omega
         clear r0 r1 r2 r3 r4 e1 hBs hns hnu hjs
         go_wp2_with fail
         go_region
         go_wp2
         go_roundw
         case rel => exact ⟨j + 1, by omega, by go_num, below_draws hbz 1⟩
         case measure => simp [intOf]; omega
       · have jl : ¬ (j : Int) < (ns : Int) := by omega
         go_wp2
         go_roundw
         case rel => exact ⟨k + 1, by omega, by go_num, hbr.trans ((hbx.trans (hbz.mono hbx.size)).mono hbr.size)⟩
         case measure => simp [intOf]; omega
   · have k3 : ¬ (k : Int) < 3 := by omega
     go_wp2
     go_ret
     exact ⟨rfl, hbw.trans (hbr.mono H.keep.size)⟩
end Go.Proofs.YtpcgpnkmjjamhaaGreat

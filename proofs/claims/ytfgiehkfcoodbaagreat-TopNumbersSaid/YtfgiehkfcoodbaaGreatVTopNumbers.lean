/- TopNumbers: numbers of tokens rise, and no customer is told one twice. -/
import Derived.Test.YtfgiehkfcoodbaaGreatM0
import Derived.Test.YtfgiehkfcoodbaaGreatM49
import Derived.BigQuiet
import Derived.Test.YtfgiehkfcoodbaaGreatMxNum
import Derived.Test.YtfgiehkfcoodbaaGreatMxCusT
import Derived.Test.YtfgiehkfcoodbaaGreatM17
namespace Go.Proofs.YtfgiehkfcoodbaaGreat
open Go.RowKit
set_option linter.unusedVariables false
set_option maxRecDepth 100000
set_option maxHeartbeats 16000000
theorem walk_topNumbers (w:World) (a0:Value) (w0:Fit Tryz.prog w 24 a0) (a1:Value) (w1:Fit Tryz.prog w 25 a1) :
 Calls Tryz.prog 7 #[a0,a1] w fun e w' => e = .returned (.bool true) ∧ Below w.heap.size w w':=by
 obtain ⟨A,n,m,g,a,b,c,d,rfl,wa,wb,wc,wd,hv⟩:=deal_fit w0
 obtain ⟨l,hd⟩:=deeds_fit w1
 obtain ⟨Av,cv,rfl⟩:∃ Av cv,a1 = .slice Av l.length cv:=by obtain ⟨A,c,e,_⟩:=hd;exact ⟨A,c,e⟩
 have hL:=fun U h1 h2 => lived_ok true 40 A n m g a b c d Av cv l U wa wb wc wd h1 h2 (by omega)
 clear w0 w1 wa wb wc wd
 unfold RetLived at hL
 have H:=Mem.init w
 replace H:=H.al w.heap.size #[.slice A n m,a,b,c,d] (24) |>.gen
 simp only [List.nil_append] at H
 obtain ⟨W0,hW0,H⟩:=H
 have hv0:=hv.below H.below
 have hd0:=hd.below H.below
 have hb0:=H.below
 have Ldl:=H.c5 0 rfl
 go_enter Tryz.func7,Tryz.ntmps7
 go_wp2_with fail
 clear hW0 hv hd
 refine (hL _ hv0 hd0).mono ?_
 rintro e w1 ⟨T,S,tk,W,gl,hT,rfl,hSl,hLf⟩
 have hS60:3 ≤ S.length ∧ S.length ≤ 43:=by omega
 have hb1:=hb0.step hLf.bel
 clear hL hv0 hd0 hSl H
 clear Ldl
 obtain ⟨x,A1,c1,A2,c2,hLv,hxw,_,HM⟩:=hLf
 have hW:=(hLv.ok hT (by omega)).1
 rw [show min 3 S.length = 3 by omega] at hW
 obtain ⟨ht2,hri⟩:=hLv.rises hT (by omega)
 have hml:=(hLv.toks hT (by omega)).2
 have hme2:=(hLv.toks hT (by omega)).1
 have hln:=fun m hm => last_next hLv hT (by omega) (by omega) (m:=m) hm
 clear hLv
 unfold lifeL at HM
 have H:Mem (W0) [] (w1) [.blk (gl) 42 #[.slice x.At T.tl.length x.ct,T.fx,T.fb,T.db,T.al,.slice x.Ad W.c.length x.cd,.slice x.Ao W.lp.length x.co,.slice x.Ap 3 x.cp,.slice A1 S.length c1,.slice A2 tk.length c2],.row (W0.heap.size) (51) (36) (.slice A1 S.length c1) (S.length) (sns T S),.row (W0.heap.size) (74) (12) (.slice A2 tk.length c2) (tk.length) (sds tk)]:=HM
 clear HM
 go_wp2_with fail
 replace H:=H.al w1.heap.size #[(),(),()] (72) |>.gen
 simp only [List.cons_append,List.nil_append] at H
 obtain ⟨w2,hw2,H⟩:=H
 rw [hw2]
 have hb2:Below w1.heap.size w1 w2:=by rw [← hw2];exact below_a1 w1 _
 clear hw2
 go_loopw [8] (fun i wr => ∃ (j l0 l1 l2:Nat),j ≤ tk.length ∧ i = .int .i64 ↑j ∧ Hid (lastP (tk.take j) 0 = l0 ∧ lastP (tk.take j) 1 = l1 ∧ lastP (tk.take j) 2 = l2) ∧ Below w1.heap.size w1 wr ∧ Mem (W0) [] (wr) [.blk (gl) 42 #[.slice x.At T.tl.length x.ct,T.fx,T.fb,T.db,T.al,.slice x.Ad W.c.length x.cd,.slice x.Ao W.lp.length x.co,.slice x.Ap 3 x.cp,.slice A1 S.length c1,.slice A2 tk.length c2],.row (W0.heap.size) (51) (36) (.slice A1 S.length c1) (S.length) (sns T S),.row (W0.heap.size) (74) (12) (.slice A2 tk.length c2) (tk.length) (sds tk),.blk (w1.heap.size) 72 #[l0,l1,l2]]) (fun i _ => tk.length - (intOf i).toNat)
 case atStart => exact ⟨0,0,0,0,by omega,rfl,Lib.hid ⟨rfl,rfl,rfl⟩,hb2,H⟩
 case round =>
  clear H
  obtain ⟨j,l0,l1,l2,hj,rfl,hl,hbr,H⟩:=hrel
  have H2:Mem (W0) [] (wr) [.blk (gl) 42 #[.slice x.At T.tl.length x.ct,T.fx,T.fb,T.db,T.al,.slice x.Ad W.c.length x.cd,.slice x.Ao W.lp.length x.co,.slice x.Ap 3 x.cp,.slice A1 S.length c1,.slice A2 tk.length c2],.row (W0.heap.size) (51) (36) (.slice A1 S.length c1) (S.length) (sns T S),.row (W0.heap.size) (74) (12) (.slice A2 tk.length c2) (tk.length) (sds tk),.blk (w1.heap.size) 72 #[l0,l1,l2]]:=H
  clear H
  have Llf:=H2.c10 0 rfl
  have Lla:=H2.c3 3 rfl
  have Nlfla:=H2.ne2 0 3 rfl rfl rfl
  by_cases hlt:j < tk.length
  ·have g1:(j:Int) < (tk.length:Int):=by omega
   have hrl:=rises_last hri ht2 hlt
   have hm2:=(hme2 _ (List.getElem_mem hlt)).1
   have hlk:=lastP_take tk j hlt
   obtain ⟨gs,rfl⟩:=own_at (H2.own_ 2 rfl) (by omega)
   have hto:=own_mono (H2.own_ 2 rfl) (Nat.zero_le _)
   obtain ⟨tt,htt⟩:∃ t,tk[j] = t:=⟨_,rfl⟩
   have tc:=fun k v hk hv => sds_cell hto rfl j hlt k hk v (by rw [htt];exact hv)
   obtain ⟨tme,trev,ts,⟨tid,tte,tde,tfe,tpr,tch,tun⟩,tk_,tmo⟩:=tt
   have t0:wr.cell? ⟨gs,j * 12,none⟩ = some (.int .i64 ↑tme):=tc 0 (.int .i64 ↑tme) (by omega) rfl
   have t1:wr.cell? ⟨gs,j * 12 + 1,none⟩ = some (.int .i64 ↑trev):=tc 1 (.int .i64 ↑trev) (by omega) rfl
   have t2:wr.cell? ⟨gs,j * 12 + 2,none⟩ = some (.string ts):=tc 2 (.string ts) (by omega) rfl
   have t3:wr.cell? ⟨gs,j * 12 + 3,none⟩ = some (.int .i64 ↑tid):=tc 3 (.int .i64 ↑tid) (by omega) rfl
   have t4:wr.cell? ⟨gs,j * 12 + 4,none⟩ = some (.int .i64 ↑tte):=tc 4 (.int .i64 ↑tte) (by omega) rfl
   have t5:wr.cell? ⟨gs,j * 12 + 5,none⟩ = some (.int .i64 ↑tde):=tc 5 (.int .i64 ↑tde) (by omega) rfl
   have t6:wr.cell? ⟨gs,j * 12 + 6,none⟩ = some (.int .i64 ↑tfe):=tc 6 (.int .i64 ↑tfe) (by omega) rfl
   have t7:wr.cell? ⟨gs,j * 12 + 7,none⟩ = some (.int .i64 ↑tpr):=tc 7 (.int .i64 ↑tpr) (by omega) rfl
   have t8:wr.cell? ⟨gs,j * 12 + 8,none⟩ = some (.int .i64 ↑tch):=tc 8 (.int .i64 ↑tch) (by omega) rfl
   have t9:wr.cell? ⟨gs,j * 12 + 9,none⟩ = some (.int .i64 ↑tun):=tc 9 (.int .i64 ↑tun) (by omega) rfl
   have t10:wr.cell? ⟨gs,j * 12 + 10,none⟩ = some (.int .i64 ↑tk_):=tc 10 (.int .i64 ↑tk_) (by omega) rfl
   have t11:wr.cell? ⟨gs,j * 12 + 11,none⟩ = some (.int .i64 ↑tmo):=tc 11 (.int .i64 ↑tmo) (by omega) rfl
   clear tc
   rw [htt] at hrl hm2 hlk
   dsimp only at hrl hm2 hlk
   clear hto htt
   go_upto_region 7 with fail
   replace H2:=H2.al wr.heap.size #[tme,trev,.string ts,tid,tte,tde,tfe,tpr,tch,tun,tk_,tmo] (74) |>.gen
   simp only [List.cons_append,List.nil_append] at H2
   obtain ⟨w3,hw3,H2⟩:=H2
   rw [hw3]
   have hb3:Below w1.heap.size w1 w3:=hbr.trans (by rw [← hw3];exact (below_a1 wr _).mono hbr.size)
   clear hw3 t0 t1 t2 t3 t4 t5 t6 t7 t8 t9 t10 t11
   clear Llf Lla Nlfla
   obtain ⟨lalt,la0,-,la1,-,la2,-⟩:=H2.c3 3 rfl
   have Lxt:=H2.c12 4 rfl
   have Nlaxt:=H2.ne2 3 4 rfl rfl rfl
   have hg:∃ lm:Nat,lastP (tk.take j) tme = lm ∧ w3.cell? ⟨w1.heap.size,tme,none⟩ = some (.int .i64 ↑lm):=by
    obtain ⟨q0,q1,q2⟩:=hl.out
    rcases (show tme = 0 ∨ tme = 1 ∨ tme = 2 by omega) with rfl | rfl | rfl
    ·exact ⟨l0,q0,la0⟩
    ·exact ⟨l1,q1,la1⟩
    ·exact ⟨l2,q2,la2⟩
   obtain ⟨lm,hlm,hcell⟩:=hg
   rw [hlm] at hrl
   have g4:¬ (tid:Int) ≤ (lm:Int):=by omega
   have g5:(tme:Int) < 3:=by omega
   have HK:=Lib.hid hlk
   clear hlk hlm hrl
   go_region
   replace H2:=H2.drew |>.gen
   obtain ⟨w4,hw4,H2⟩:=H2
   rw [hw4]
   have hb4:Below w1.heap.size w1 w4:=by rw [← hw4];exact below_draws hb3 1
   replace hcell:w4.cell? ⟨w1.heap.size,tme,none⟩ = some (.int .i64 ↑lm):=by rw [← hw4];exact hcell
   clear hw4
   clear lalt la0 la1 la2 Lxt Nlaxt
   have Lla:=H2.c3 3 rfl
   have Lxt:=H2.c12 4 rfl
   have Nlaxt:=H2.ne2 3 4 rfl rfl rfl
   have hfr:=(H2.blk 3 rfl).frozen tme
   go_wp2_with fail
   have he:(#[Value.int .i64 ↑l0,l1,l2].setIfInBounds tme (.int .i64 ↑tid)) = #[.int .i64 (lastP (tk.take (j + 1)) 0:Int),.int .i64 (lastP (tk.take (j + 1)) 1:Int),.int .i64 (lastP (tk.take (j + 1)) 2:Int)]:=by
    obtain ⟨q0,q1,q2⟩:=hl.out
    rw [HK.out 0,HK.out 1,HK.out 2,q0,q1,q2]
    rcases (show tme = 0 ∨ tme = 1 ∨ tme = 2 by omega) with rfl | rfl | rfl <;> rfl
   have H9:=(H2.set 3 rfl tme tid).drop_ 4
   rw [he] at H9
   go_roundw
   case rel => exact ⟨j + 1,_,_,_,by omega,by go_num,Lib.hid ⟨rfl,rfl,rfl⟩,hb4.setCell (p:=⟨w1.heap.size,tme,none⟩) (Nat.le_refl _) _,H9⟩
   case measure => simp [intOf];omega
  ·skip
   have g1:¬ (j:Int) < (tk.length:Int):=by omega
   obtain rfl:j = tk.length:=by omega
   rw [List.take_length] at hl
   clear hri ht2 hme2
   go_wp2_with fail
   obtain ⟨wo,hwo⟩:∃ wo,wo = wr:=⟨_,rfl⟩
   subst hwo
   go_loopw [10] (fun i wr => ∃ m:Nat,m ≤ 3 ∧ i = .int .i64 ↑m ∧ Below w1.heap.size w1 wr ∧ Mem (W0) [] (wr) [.blk (gl) 42 #[.slice x.At T.tl.length x.ct,T.fx,T.fb,T.db,T.al,.slice x.Ad W.c.length x.cd,.slice x.Ao W.lp.length x.co,.slice x.Ap 3 x.cp,.slice A1 S.length c1,.slice A2 tk.length c2],.row (W0.heap.size) (51) (36) (.slice A1 S.length c1) (S.length) (sns T S),.row (W0.heap.size) (74) (12) (.slice A2 tk.length c2) (tk.length) (sds tk),.blk (w1.heap.size) 72 #[l0,l1,l2]]) (fun i _ => 3 - (intOf i).toNat)
   case atStart => exact ⟨0,by omega,rfl,hbr,H2⟩
   case round =>
    clear H2 hbr
    obtain ⟨m,hm,rfl,hbr,H2⟩:=hrel
    clear Llf Lla Nlfla
    have Llf:=H2.c10 0 rfl
    obtain ⟨lalt,la0,-,la1,-,la2,-⟩:=H2.c3 3 rfl
    have Nlfla:=H2.ne2 0 3 rfl rfl rfl
    by_cases hm3:m < 3
    ·have gm:(m:Int) < 3:=by omega
     obtain ⟨n1,n2⟩:=hln m (by omega)
     have hi:m < W.B.length:=by have:=hW.cus;omega
     have hss:=(hW.srv.bok hT).sold (List.getElem_mem hi)
     rw [show W.B[m] = W.B.getD m cu0 by simp [hi]] at hss
     have hll:=hW.ll
     have hC:=fun U h => customer_top T hT W 3 S.length x m U hW (by omega) (by omega) h
     obtain ⟨c0,hc0⟩:∃ c,W.B.getD m cu0 = c:=⟨_,rfl⟩
     rw [hc0] at n1 n2 hC hss
     obtain ⟨⟨ame,arev,anext,amonth,abought,afree,al⟩,aso⟩:=c0
     unfold RetCus Wv.vs at hC
     dsimp only at hC n1 n2 hss
     have hg:∃ lm:Nat,lastP tk m = lm ∧ wr.cell? ⟨w1.heap.size,m,none⟩ = some (.int .i64 ↑lm):=by
      obtain ⟨q0,q1,q2⟩:=hl.out
      rcases (show m = 0 ∨ m = 1 ∨ m = 2 by omega) with rfl | rfl | rfl
      ·exact ⟨l0,q0,la0⟩
      ·exact ⟨l1,q1,la1⟩
      ·exact ⟨l2,q2,la2⟩
     obtain ⟨lm,hlm,hcell⟩:=hg
     rw [hlm] at n1
     have g4:¬ (anext:Int) ≤ (lm:Int):=by omega
     have g6:(aso.length:Int) + 1 = (anext:Int):=by omega
     have hxr:=hxw.below hbr
     have HN:=Lib.hid (And.intro n1 (And.intro n2 g6))
     clear hlm n1 n2 g6 hc0
     go_wp2_with fail
     refine (hC _ hxr).mono ?_
     rintro e wa ⟨Ad,cd,As,cs,rfl,hda,hba⟩
     have hcell2:=(hba.cell (p:=⟨w1.heap.size,m,none⟩) lalt).trans hcell
     have hmlt:=Nat.lt_of_lt_of_le lalt hba.size
     replace H2:=Mem.call H2 hba
     have hbw:=hbr.trans (hba.mono hbr.size)
     clear hC hxr hcell hda hba
     clear Llf lalt la0 la1 la2 Nlfla
     go_wp2_with fail
     replace H2:=H2.al wa.heap.size #[ame,arev,anext,amonth,abought,afree,.slice Ad al.length cd,.slice As aso.length cs] (67) |>.gen
     simp only [List.cons_append,List.nil_append] at H2
     obtain ⟨wb,hwb,H2⟩:=H2
     rw [hwb]
     have hbw2:Below w1.heap.size w1 wb:=by rw [← hwb];exact hbw.trans ((below_a1 wa _).mono hbw.size)
     have hcell3:wb.cell? ⟨w1.heap.size,m,none⟩ = some (.int .i64 ↑lm):=by rw [← hwb];exact ((below_a1 wa _).cell (p:=⟨w1.heap.size,m,none⟩) hmlt).trans hcell2
     have g6:=HN.out.2.2
     clear hwb hcell2 hbw
     have d1:decide (anext ≤ lm) = false:=decide_eq_false (by have:=HN.out.1;omega)
     have d3:((anext:Int) != (aso.length:Int) + 1) = false:=by simp;omega
     have d2:((anext:Int) != wrap64 ((aso.length:Int) + 1)) = false:=by
      rw [show wrap64 ((aso.length:Int) + 1) = (aso.length:Int) + 1 by unfold wrap64;omega]
      simp;omega
     clear g4 g6
     have Lla:=H2.c3 3 rfl
     have Lcu:=H2.c8 4 rfl
     have Nlacu:=H2.ne2 3 4 rfl rfl rfl
     go_quiet (fail)
     replace H2:=H2.drewN nq |>.gen
     obtain ⟨wc,hwc,H2⟩:=H2
     rw [hwc]
     have hbw3:Below w1.heap.size w1 wc:=by rw [← hwc];exact below_draws hbw2 nq
     have H9:=H2.drop_ 4
     go_wp2_with fail
     go_roundw
     case rel => exact ⟨m + 1,by omega,by go_num,hbw3,H9⟩
     case measure => simp [intOf];omega
    ·skip
     have gm:¬ (m:Int) < 3:=by omega
     go_wp2_with fail
     go_ret
     exact ⟨rfl,hb1.trans (hbr.mono hb1.size)⟩
end Go.Proofs.YtfgiehkfcoodbaaGreat

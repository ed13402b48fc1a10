/- TopMonth: the month's units are those that were bought in it. -/
import Derived.Test.YtfgiehkfcoodbaaGreatM0
import Derived.Test.YtfgiehkfcoodbaaGreatM49
import Derived.BigQuiet
import Derived.Test.YtfgiehkfcoodbaaGreatMxMon
import Derived.Test.YtfgiehkfcoodbaaGreatMxCusT
import Derived.Test.YtfgiehkfcoodbaaGreatM17
import Derived.Test.YtfgiehkfcoodbaaGreatM22
namespace Go.Proofs.YtfgiehkfcoodbaaGreat
open Go.RowKit
set_option linter.unusedVariables false
set_option maxRecDepth 100000
set_option maxHeartbeats 16000000
theorem walk_topMonth (w:World) (a0:Value) (w0:Fit Tryz.prog w 24 a0) (a1:Value) (w1:Fit Tryz.prog w 25 a1) :
 Calls Tryz.prog 11 #[a0,a1] w fun e w' => e=.returned (.bool true)∧Below w.heap.size w w':=by
 obtain ⟨A,n,m,g,a,b,c,d,rfl,wa,wb,wc,wd,hv⟩:=deal_fit w0
 obtain ⟨l,hd⟩:=deeds_fit w1
 obtain ⟨Av,cv,rfl⟩:∃ Av cv,a1=.slice Av l.length cv:=by obtain ⟨A,c,e,_⟩:=hd;exact ⟨A,c,e⟩
 have hL:=fun U h1 h2 => lived_ok false 40 A n m g a b c d Av cv l U wa wb wc wd h1 h2 (by omega)
 clear w0 w1 wa wb wc wd
 unfold RetLived at hL
 have H:=Mem.init w
 replace H:=H.al w.heap.size #[.slice A n m,a,b,c,d] (24) |>.gen
 simp only [List.nil_append] at H
 obtain ⟨W0,hW0,H⟩:=H
 have hv0:=hv.below H.below
 have hd0:=hd.below H.below
 have hb0:=H.below
 have Ldl:=H.c5 0 rfl
 go_enter Tryz.func11,Tryz.ntmps11
 go_wp2_with fail
 clear hW0 hv hd
 refine (hL _ hv0 hd0).mono ?_
 rintro e w1 ⟨T,S,tk,W,gl,hT,rfl,hSl,hLf⟩
 have hS60:3≤S.length∧S.length≤43:=by omega
 have hb1:=hb0.step hLf.bel
 clear hL hv0 hd0 hSl H
 clear Ldl
 obtain ⟨x,A1,c1,A2,c2,hLv,hxw,_,HM⟩:=hLf
 have hW:=(hLv.ok hT (by omega)).1
 rw [show min 3 S.length=3 by omega] at hW
 obtain ⟨mo1,mo2,mo3⟩:=hLv.mon hT (by omega)
 have hml:=(hLv.toks hT (by omega)).2
 clear hLv
 unfold lifeL at HM
 have H:Mem (W0) [] (w1) [.blk (gl) 42 #[.slice x.At T.tl.length x.ct,T.fx,T.fb,T.db,T.al,.slice x.Ad W.c.length x.cd,.slice x.Ao W.lp.length x.co,.slice x.Ap 3 x.cp,.slice A1 S.length c1,.slice A2 tk.length c2],.row (W0.heap.size) (51) (36) (.slice A1 S.length c1) (S.length) (sns T S),.row (W0.heap.size) (74) (12) (.slice A2 tk.length c2) (tk.length) (sds tk)]:=HM
 clear HM
 have Llf:=H.c10 0 rfl
 have hRp:=fun U h => replay_ok (.slice x.Ad W.c.length x.cd) W.c (W.L.map evW) U h hW.srv.tape hW.srv.h1 hW.srv.h2
 unfold RetRep at hRp
 obtain ⟨nl,hnl⟩:∃ nl,W.L.length=nl:=⟨_,rfl⟩
 have hn120:nl≤120:=by have:=hW.srv.len;omega
 have hok:=hW.srv.ok
 simp only [List.length_map,hnl] at hRp
 go_wp2_with fail
 refine (hRp _ (hxw.disk hW)).mono ?_
 rintro e wa ⟨Ar,cr,vs,rfl,hro,hrs,hba⟩
 have hrr:=RetRep.is (L:=W.L.map evW) (by simp only [List.length_map,hnl];exact hro) hrs
 simp only [List.length_map,hnl] at hrr
 have hxa:=hxw.below hba
 replace H:=Mem.call H hba
 clear hRp hxw hro hrs
 go_wp2_with fail
 replace H:=H.al wa.heap.size #[(),(),()] (72) |>.al (wa.heap.size+1) #[(),(),()] (72) |>.gen
 simp only [List.cons_append,List.nil_append] at H
 obtain ⟨w2,hw2,H⟩:=H
 rw [hw2]
 have hb2:Below wa.heap.size wa w2:=by rw [← hw2];exact below_a2 wa _ _
 clear hw2
 have hq0:=toksE_all mo2
 go_loopw [12,13] (fun td i wr => ∃ (j q u0 u1 u2 m0 m1 m2:Nat),j≤nl∧i=.int .i64 ↑j∧td=.int .i64 ↑q∧Hid ((toksE (W.L.take j)).length=q∧(monE 0 (W.L.take j))=(m0,u0)∧(monE 1 (W.L.take j))=(m1,u1)∧(monE 2 (W.L.take j))=(m2,u2))∧Below wa.heap.size wa wr∧Mem (W0) [] (wr) [.blk (gl) 42 #[.slice x.At T.tl.length x.ct,T.fx,T.fb,T.db,T.al,.slice x.Ad W.c.length x.cd,.slice x.Ao W.lp.length x.co,.slice x.Ap 3 x.cp,.slice A1 S.length c1,.slice A2 tk.length c2],.row (W0.heap.size) (51) (36) (.slice A1 S.length c1) (S.length) (sns T S),.row (W0.heap.size) (74) (12) (.slice A2 tk.length c2) (tk.length) (sds tk),.blk (wa.heap.size) 72 #[u0,u1,u2],.blk (wa.heap.size+1) 72 #[m0,m1,m2]]) (fun _ i _ => nl - (intOf i).toNat)
 case atStart => exact ⟨0,0,0,0,0,0,0,0,by omega,rfl,rfl,Lib.hid ⟨rfl,rfl,rfl,rfl⟩,hb2,H⟩
 case round =>
  clear H
  obtain ⟨j,q,u0,u1,u2,m0,m1,m2,hj,rfl,rfl,hl,hbr,H⟩:=hrel
  have H2:Mem (W0) [] (wr) [.blk (gl) 42 #[.slice x.At T.tl.length x.ct,T.fx,T.fb,T.db,T.al,.slice x.Ad W.c.length x.cd,.slice x.Ao W.lp.length x.co,.slice x.Ap 3 x.cp,.slice A1 S.length c1,.slice A2 tk.length c2],.row (W0.heap.size) (51) (36) (.slice A1 S.length c1) (S.length) (sns T S),.row (W0.heap.size) (74) (12) (.slice A2 tk.length c2) (tk.length) (sds tk),.blk (wa.heap.size) 72 #[u0,u1,u2],.blk (wa.heap.size+1) 72 #[m0,m1,m2]]:=H
  clear H
  clear Llf
  have Llf:=H2.c10 0 rfl
  by_cases hlt:j < nl
  ·have g1:(j:Int) < (nl:Int):=by omega
   have hjL:j < W.L.length:=by omega
   have hrq:=hrr.below hbr
   obtain ⟨b,off,u,rfl,hB,hcu,hu⟩:=IsRr.at_ (k:=j) (l:=W.L.map evW) hrq (by rw [List.length_map];omega)
   have hvok:=hok W.L[j] (List.getElem_mem hjL)
   have hvm:=mo3 W.L[j] (List.getElem_mem hjL)
   have htok:=fun h => toksE_at mo2 hjL hl.out.1 h
   have hcnt:=toksE_cnt hjL
   have hmt:=fun me => monE_take me hjL
   have hle:=fun me => monE_le me 1000000001 (L:=W.L) (fun v hv => Nat.lt_succ_of_le ((hok v hv).lt v.un (by simp [evW]))) j (by omega)
   rw [List.getElem_map] at hu
   generalize W.L[j]=v at hu hvok hvm htok hcnt hmt
   obtain ⟨Au,nu,cpu,rfl⟩:∃ Au nu cpu,u=.slice Au nu cpu:=by obtain ⟨X,y,h,_⟩:=hu;exact ⟨X,_,y,h⟩
   have hD:=fun U h => decode_v v hvok Au nu cpu U h
   have hun:v.un≤1000000000:=hvok.lt v.un (by simp [evW])
   clear hvok hrq
   go_wp2_with fail
   refine (hD _ hu).mono ?_
   rintro e wd ⟨rfl,hbd⟩
   replace H2:=Mem.call H2 hbd
   have hbw:=hbr.trans (hbd.mono hbr.size)
   clear hD hu hcu hB hbr hbd
   obtain ⟨vk,vme,vmo,vid,vte,vde,vfe,vpr,vch,vun,vtg,vow,vbp⟩:=v
   unfold evV
   dsimp only at hvm hcnt hun ⊢
   have HMT:=Lib.hid hmt
   have HLE:=Lib.hid hle
   clear hmt hle
   go_upto_region 14 with fail
   replace H2:=H2.al wd.heap.size #[vk,vme,vmo,vid,vte,vde,vfe,vpr,vch,vun,vtg,vow,vbp] (92) |>.gen
   simp only [List.cons_append,List.nil_append] at H2
   obtain ⟨w3,hw3,H2⟩:=H2
   rw [hw3]
   have hbx:Below wa.heap.size wa w3:=hbw.trans (by rw [← hw3];exact (below_a1 wd _).mono hbw.size)
   clear hw3 hbw
   clear Llf
   have Llf:=H2.c10 0 rfl
   obtain ⟨unlt,un0,-,un1,-,un2,-⟩:=H2.c3 3 rfl
   obtain ⟨mnlt,mn0,-,mn1,-,mn2,-⟩:=H2.c3 4 rfl
   have Lev:=H2.c13 5 rfl
   have Nlfun:=H2.ne2 0 3 rfl rfl rfl
   have Nlfmn:=H2.ne2 0 4 rfl rfl rfl
   have Nlfev:=H2.ne2 0 5 rfl rfl rfl
   have Nunmn:=H2.ne2 3 4 rfl rfl rfl
   have Nunev:=H2.ne2 3 5 rfl rfl rfl
   have Nmnev:=H2.ne2 4 5 rfl rfl rfl
   have hme3:¬ (vme:Int) ≥ 3:=by omega
   have hme3':(vme:Int) < 3:=by omega
   obtain ⟨lm,um,hlm,hcm,hcn⟩:∃ lm um:Nat,monE vme (W.L.take j)=(lm,um)∧w3.cell? ⟨wa.heap.size+1,vme,none⟩=some (.int .i64 ↑lm)∧w3.cell? ⟨wa.heap.size,vme,none⟩=some (.int .i64 ↑um):=by
    obtain ⟨_,q1,q2,q3⟩:=hl.out
    rcases (show vme=0∨vme=1∨vme=2 by omega) with rfl | rfl | rfl
    ·exact ⟨m0,u0,q1,mn0,un0⟩
    ·exact ⟨m1,u1,q2,mn1,un1⟩
    ·exact ⟨m2,u2,q3,mn2,un2⟩
   have hum:um≤120000000120:=by
    have h9:=HLE.out vme
    rw [hlm] at h9
    exact Nat.le_trans h9 (Nat.le_trans (Nat.mul_le_mul_right 1000000001 (show j≤120 by omega)) (by decide))
   have hnx:=mon_next (k:=vk) (un:=vun) (mo:=vmo) _ rfl rfl rfl rfl HMT.out hlm
   have HNX:=Lib.hid (And.intro hnx hlm)
   clear hnx hlm HMT HLE
   have hdc:decide (vmo≤lm)=decide (vmo≤lm):=rfl
   rcases (show (vk=2∨vk=3∨vk=4)∨(vk≠2∧vk≠3∧vk≠4) by omega) with hk | ⟨n2,n3,n4⟩
   ·rcases hk with rfl | rfl | rfl
    all_goals
     obtain ⟨hq,htm,htb⟩:=htok rfl
     obtain ⟨gs,rfl⟩:=own_at (H2.own_ 2 rfl) (by omega)
     have hto:=own_mono (H2.own_ 2 rfl) (Nat.zero_le _)
     obtain ⟨tt,htt⟩:∃ t,tk[q]=t:=⟨_,rfl⟩
     have tc:=fun k v hk hv => sds_cell hto rfl q hq k hk v (by rw [htt];exact hv)
     obtain ⟨tme,trev,ts,⟨tid,tte,tde,tfe,tpr,tch,tun⟩,tk_,tmo⟩:=tt
     have t0:w3.cell? ⟨gs,q * 12,none⟩=some (.int .i64 ↑tme):=tc 0 (.int .i64 ↑tme) (by omega) rfl
     have t1:w3.cell? ⟨gs,q * 12+1,none⟩=some (.int .i64 ↑trev):=tc 1 (.int .i64 ↑trev) (by omega) rfl
     have t2:w3.cell? ⟨gs,q * 12+2,none⟩=some (.string ts):=tc 2 (.string ts) (by omega) rfl
     have t3:w3.cell? ⟨gs,q * 12+3,none⟩=some (.int .i64 ↑tid):=tc 3 (.int .i64 ↑tid) (by omega) rfl
     have t4:w3.cell? ⟨gs,q * 12+4,none⟩=some (.int .i64 ↑tte):=tc 4 (.int .i64 ↑tte) (by omega) rfl
     have t5:w3.cell? ⟨gs,q * 12+5,none⟩=some (.int .i64 ↑tde):=tc 5 (.int .i64 ↑tde) (by omega) rfl
     have t6:w3.cell? ⟨gs,q * 12+6,none⟩=some (.int .i64 ↑tfe):=tc 6 (.int .i64 ↑tfe) (by omega) rfl
     have t7:w3.cell? ⟨gs,q * 12+7,none⟩=some (.int .i64 ↑tpr):=tc 7 (.int .i64 ↑tpr) (by omega) rfl
     have t8:w3.cell? ⟨gs,q * 12+8,none⟩=some (.int .i64 ↑tch):=tc 8 (.int .i64 ↑tch) (by omega) rfl
     have t9:w3.cell? ⟨gs,q * 12+9,none⟩=some (.int .i64 ↑tun):=tc 9 (.int .i64 ↑tun) (by omega) rfl
     have t10:w3.cell? ⟨gs,q * 12+10,none⟩=some (.int .i64 ↑tk_):=tc 10 (.int .i64 ↑tk_) (by omega) rfl
     have t11:w3.cell? ⟨gs,q * 12+11,none⟩=some (.int .i64 ↑tmo):=tc 11 (.int .i64 ↑tmo) (by omega) rfl
     clear tc
     rw [htt] at htm htb
     unfold Ev.bil at htb
     dsimp only at htm htb
     injection htb with z1 z2 z3 z4 z5 z6 z7
     replace htm:=htm.symm
     subst htm
     replace z1:=z1.symm
     subst z1
     replace z2:=z2.symm
     subst z2
     replace z3:=z3.symm
     subst z3
     replace z4:=z4.symm
     subst z4
     replace z5:=z5.symm
     subst z5
     replace z6:=z6.symm
     subst z6
     replace z7:=z7.symm
     subst z7
     clear hto htt htok
     have hbq:=fun U => bill_same vid vte vde vfe vpr vch vun vid vte vde vfe vpr vch vun true (by simp) U
     have g5:¬ (q:Int) ≥ (tk.length:Int):=by omega
     have g6:((vme:Int) != (vme:Int))=false:=by simp
     have g7:decide (tk.length≤q)=false:=decide_eq_false (by omega)
     go_upto_region 17 with fail
     go_quiet (fail)
     replace H2:=H2.drewN nq |>.gen
     obtain ⟨w4,hw4,H2⟩:=H2
     rw [hw4]
     have hby:Below wa.heap.size wa w4:=by rw [← hw4];exact below_draws hbx nq
     replace hcm:w4.cell? ⟨wa.heap.size+1,vme,none⟩=some (.int .i64 ↑lm):=by rw [← hw4];exact hcm
     replace hcn:w4.cell? ⟨wa.heap.size,vme,none⟩=some (.int .i64 ↑um):=by rw [← hw4];exact hcn
     clear hw4 g5 g6 g7 hbq t0 t1 t2 t3 t4 t5 t6 t7 t8 t9 t10 t11
     clear Llf unlt un0 un1 un2 mnlt mn0 mn1 mn2 Lev Nlfun Nlfmn Nlfev Nunmn Nunev Nmnev
     have Lev:=H2.c13 5 rfl
     go_upto_region 20 with fail
     go_region
     replace H2:=H2.drew |>.gen
     obtain ⟨w5,hw5,H2⟩:=H2
     rw [hw5]
     have hbz:Below wa.heap.size wa w5:=by rw [← hw5];exact below_draws hby 1
     replace hcm:w5.cell? ⟨wa.heap.size+1,vme,none⟩=some (.int .i64 ↑lm):=by rw [← hw5];exact hcm
     replace hcn:w5.cell? ⟨wa.heap.size,vme,none⟩=some (.int .i64 ↑um):=by rw [← hw5];exact hcn
     clear hw5
     clear Lev
     have Lun:=H2.c3 3 rfl
     have Lmn:=H2.c3 4 rfl
     have Lev:=H2.c13 5 rfl
     have Nunmn:=H2.ne2 3 4 rfl rfl rfl
     have Nunev:=H2.ne2 3 5 rfl rfl rfl
     have Nmnev:=H2.ne2 4 5 rfl rfl rfl
     have hfu:=(H2.blk 3 rfl).frozen vme
     have hfm:=(H2.blk 4 rfl).frozen vme
     by_cases gm:lm < vmo
     ·have g9:(vmo:Int) > (lm:Int):=by omega
      first
       | (go_wp2_with fail;obtain ⟨hnx,hlm⟩:=HNX.out;obtain ⟨q0,q1,q2,q3⟩:=hl.out;replace hnx:∀ i,monE i (W.L.take (j+1))=if vme=i then (vmo,0+0) else monE i (W.L.take j):=fun i => (by rw [hnx i];simp [gm]);have hm3:=mon3 (fun i => monE i (W.L.take j)) vme (by omega) (vmo,0+0) (fun i => monE i (W.L.take (j+1))) hnx;dsimp only at hm3;simp only [q1,q2,q3] at hm3;obtain ⟨he1,he2⟩:=hm3;have H9:=(H2.set 4 rfl vme vmo).set 3 rfl vme ();rw [he1] at H9;rw [show ((0+0:Nat):Int)=0 by rfl] at he2;rw [he2] at H9;replace H9:=H9.drop_ 5;go_roundw;(case rel => exact ⟨j+1,q+1,(monE 0 (W.L.take (j+1))).2,(monE 1 (W.L.take (j+1))).2,(monE 2 (W.L.take (j+1))).2,(monE 0 (W.L.take (j+1))).1,(monE 1 (W.L.take (j+1))).1,(monE 2 (W.L.take (j+1))).1,by omega,by go_num,by go_num,Lib.hid ⟨hcnt.trans (by rw [hl.out.1];rfl),rfl,rfl,rfl⟩,((hbz.setCell (p:=⟨wa.heap.size+1,vme,none⟩) (Nat.le_succ _) _).setCell (p:=⟨wa.heap.size,vme,none⟩) (Nat.le_refl _) _),H9⟩);(case measure => simp [intOf];omega))
       | (go_wp2_with fail;go_region;go_wp2_with fail;obtain ⟨hnx,hlm⟩:=HNX.out;obtain ⟨q0,q1,q2,q3⟩:=hl.out;replace hnx:∀ i,monE i (W.L.take (j+1))=if vme=i then (vmo,0+vun) else monE i (W.L.take j):=fun i => (by rw [hnx i];simp [gm]);have hm3:=mon3 (fun i => monE i (W.L.take j)) vme (by omega) (vmo,0+vun) (fun i => monE i (W.L.take (j+1))) hnx;dsimp only at hm3;simp only [q1,q2,q3] at hm3;obtain ⟨he1,he2⟩:=hm3;have H9:=(H2.set 4 rfl vme vmo).set 3 rfl vme ();rw [he1] at H9;replace H9:=H9.set 3 rfl vme vun;rw [show ((0+vun:Nat):Int)=(vun:Int) by omega] at he2;rw [set_twice _ _ _ _ (by omega),he2] at H9;replace H9:=H9.drop_ 5;replace H9:=H9.drew;go_roundw;(case rel => exact ⟨j+1,q+1,(monE 0 (W.L.take (j+1))).2,(monE 1 (W.L.take (j+1))).2,(monE 2 (W.L.take (j+1))).2,(monE 0 (W.L.take (j+1))).1,(monE 1 (W.L.take (j+1))).1,(monE 2 (W.L.take (j+1))).1,by omega,by go_num,by go_num,Lib.hid ⟨hcnt.trans (by rw [hl.out.1];rfl),rfl,rfl,rfl⟩,(((hbz.setCell (p:=⟨wa.heap.size+1,vme,none⟩) (Nat.le_succ _) _).setCell (p:=⟨wa.heap.size,vme,none⟩) (Nat.le_refl _) _).setCell (p:=⟨wa.heap.size,vme,none⟩) (Nat.le_refl _) _).drew,H9⟩);(case measure => simp [intOf];omega))
     ·skip
      have g9:¬ (vmo:Int) > (lm:Int):=by omega
      first
       | (go_wp2_with fail;obtain ⟨hnx,hlm⟩:=HNX.out;obtain ⟨q0,q1,q2,q3⟩:=hl.out;replace hnx:∀ i,monE i (W.L.take (j+1))=if vme=i then (lm,um+0) else monE i (W.L.take j):=fun i => (by rw [hnx i];simp [gm]);have hm3:=mon3 (fun i => monE i (W.L.take j)) vme (by omega) (lm,um+0) (fun i => monE i (W.L.take (j+1))) hnx;dsimp only at hm3;simp only [q1,q2,q3] at hm3;obtain ⟨he1,he2⟩:=hm3;have H9:=H2;replace H9:=H9.drop_ 5;go_roundw;(case rel => exact ⟨j+1,q+1,u0,u1,u2,m0,m1,m2,by omega,by go_num,by go_num,Lib.hid ⟨hcnt.trans (by rw [hl.out.1];rfl),(hnx 0).trans (by split;(rename_i e;subst e;exact hlm.symm.trans q1);exact q1),(hnx 1).trans (by split;(rename_i e;subst e;exact hlm.symm.trans q2);exact q2),(hnx 2).trans (by split;(rename_i e;subst e;exact hlm.symm.trans q3);exact q3)⟩,hbz,H9⟩);(case measure => simp [intOf];omega))
       | (go_wp2_with fail;go_region;go_wp2_with fail;obtain ⟨hnx,hlm⟩:=HNX.out;obtain ⟨q0,q1,q2,q3⟩:=hl.out;replace hnx:∀ i,monE i (W.L.take (j+1))=if vme=i then (lm,um+vun) else monE i (W.L.take j):=fun i => (by rw [hnx i];simp [gm]);have hm3:=mon3 (fun i => monE i (W.L.take j)) vme (by omega) (lm,um+vun) (fun i => monE i (W.L.take (j+1))) hnx;dsimp only at hm3;simp only [q1,q2,q3] at hm3;obtain ⟨he1,he2⟩:=hm3;have H9:=H2.set 3 rfl vme (.int .i64 ((um:Int)+(vun:Int)));rw [show ((um+vun:Nat):Int)=(um:Int)+(vun:Int) by omega] at he2;rw [he2] at H9;replace H9:=H9.drop_ 5;replace H9:=H9.drew;go_roundw;(case rel => exact ⟨j+1,q+1,(monE 0 (W.L.take (j+1))).2,(monE 1 (W.L.take (j+1))).2,(monE 2 (W.L.take (j+1))).2,m0,m1,m2,by omega,by go_num,by go_num,Lib.hid ⟨hcnt.trans (by rw [hl.out.1];rfl),Prod.ext ((congrArg Prod.fst (hnx 0)).trans (by show _=m0;split;(rename_i e;subst e;exact (congrArg Prod.fst hlm).symm.trans (congrArg Prod.fst q1));exact congrArg Prod.fst q1)) rfl,Prod.ext ((congrArg Prod.fst (hnx 1)).trans (by show _=m1;split;(rename_i e;subst e;exact (congrArg Prod.fst hlm).symm.trans (congrArg Prod.fst q2));exact congrArg Prod.fst q2)) rfl,Prod.ext ((congrArg Prod.fst (hnx 2)).trans (by show _=m2;split;(rename_i e;subst e;exact (congrArg Prod.fst hlm).symm.trans (congrArg Prod.fst q3));exact congrArg Prod.fst q3)) rfl⟩,(hbz.setCell (p:=⟨wa.heap.size,vme,none⟩) (Nat.le_refl _) _).drew,H9⟩);(case measure => simp [intOf];omega))
   ·skip
    clear htok
    have e2:((vk:Int) == 2)=false:=by simp;omega
    have e3:((vk:Int) == 3)=false:=by simp;omega
    have e4:((vk:Int) == 4)=false:=by simp;omega
    have f2:¬ (vk:Int)=2:=by omega
    have f3:¬ (vk:Int)=3:=by omega
    have f4:¬ (vk:Int)=4:=by omega
    have hby:=hbx
    go_upto_region 20 with fail
    go_region
    replace H2:=H2.drew |>.gen
    obtain ⟨w5,hw5,H2⟩:=H2
    rw [hw5]
    have hbz:Below wa.heap.size wa w5:=by rw [← hw5];exact below_draws hby 1
    replace hcm:w5.cell? ⟨wa.heap.size+1,vme,none⟩=some (.int .i64 ↑lm):=by rw [← hw5];exact hcm
    replace hcn:w5.cell? ⟨wa.heap.size,vme,none⟩=some (.int .i64 ↑um):=by rw [← hw5];exact hcn
    clear hw5
    clear Llf unlt un0 un1 un2 mnlt mn0 mn1 mn2 Lev Nlfun Nlfmn Nlfev Nunmn Nunev Nmnev
    have Lun:=H2.c3 3 rfl
    have Lmn:=H2.c3 4 rfl
    have Lev:=H2.c13 5 rfl
    have Nunmn:=H2.ne2 3 4 rfl rfl rfl
    have Nunev:=H2.ne2 3 5 rfl rfl rfl
    have Nmnev:=H2.ne2 4 5 rfl rfl rfl
    have hfu:=(H2.blk 3 rfl).frozen vme
    have hfm:=(H2.blk 4 rfl).frozen vme
    by_cases gm:lm < vmo
    ·have g9:(vmo:Int) > (lm:Int):=by omega
     go_wp2_with fail
     obtain ⟨hnx,hlm⟩:=HNX.out
     obtain ⟨q0,q1,q2,q3⟩:=hl.out
     replace hnx:∀ i,monE i (W.L.take (j+1))=if vme=i then (vmo,0+0) else monE i (W.L.take j):=fun i => (by rw [hnx i];simp [gm,n2])
     have hm3:=mon3 (fun i => monE i (W.L.take j)) vme (by omega) (vmo,0+0) (fun i => monE i (W.L.take (j+1))) hnx
     dsimp only at hm3
     simp only [q1,q2,q3] at hm3
     obtain ⟨he1,he2⟩:=hm3
     have H9:=(H2.set 4 rfl vme vmo).set 3 rfl vme ()
     rw [he1] at H9
     rw [show ((0+0:Nat):Int)=0 by rfl] at he2
     rw [he2] at H9
     replace H9:=H9.drop_ 5
     go_roundw
     case rel => exact ⟨j+1,q,(monE 0 (W.L.take (j+1))).2,(monE 1 (W.L.take (j+1))).2,(monE 2 (W.L.take (j+1))).2,(monE 0 (W.L.take (j+1))).1,(monE 1 (W.L.take (j+1))).1,(monE 2 (W.L.take (j+1))).1,by omega,by go_num,by go_num,Lib.hid ⟨hcnt.trans (by rw [hl.out.1,if_neg (by simp [Ev.tok,n2,n3,n4])];rfl),rfl,rfl,rfl⟩,((hbz.setCell (p:=⟨wa.heap.size+1,vme,none⟩) (Nat.le_succ _) _).setCell (p:=⟨wa.heap.size,vme,none⟩) (Nat.le_refl _) _),H9⟩
     case measure => simp [intOf];omega
    ·skip
     have g9:¬ (vmo:Int) > (lm:Int):=by omega
     go_wp2_with fail
     obtain ⟨hnx,hlm⟩:=HNX.out
     obtain ⟨q0,q1,q2,q3⟩:=hl.out
     replace hnx:∀ i,monE i (W.L.take (j+1))=if vme=i then (lm,um+0) else monE i (W.L.take j):=fun i => (by rw [hnx i];simp [gm,n2])
     have hm3:=mon3 (fun i => monE i (W.L.take j)) vme (by omega) (lm,um+0) (fun i => monE i (W.L.take (j+1))) hnx
     dsimp only at hm3
     simp only [q1,q2,q3] at hm3
     obtain ⟨he1,he2⟩:=hm3
     have H9:=H2
     replace H9:=H9.drop_ 5
     go_roundw
     case rel => exact ⟨j+1,q,u0,u1,u2,m0,m1,m2,by omega,by go_num,by go_num,Lib.hid ⟨hcnt.trans (by rw [hl.out.1,if_neg (by simp [Ev.tok,n2,n3,n4])];rfl),(hnx 0).trans (by split;(rename_i e;subst e;exact hlm.symm.trans q1);exact q1),(hnx 1).trans (by split;(rename_i e;subst e;exact hlm.symm.trans q2);exact q2),(hnx 2).trans (by split;(rename_i e;subst e;exact hlm.symm.trans q3);exact q3)⟩,hbz,H9⟩
     case measure => simp [intOf];omega
  ·skip
   have g1:¬ (j:Int) < (nl:Int):=by omega
   obtain rfl:j=nl:=by omega
   obtain ⟨hq9,q1,q2,q3⟩:=hl.out
   rw [List.take_of_length_le (Nat.le_of_eq hnl)] at hq9 q1 q2 q3
   obtain rfl:q=tk.length:=by omega
   clear hrr mo2 mo3 hok hl
   have HQ:=Lib.hid (And.intro q1 (And.intro q2 q3))
   clear q1 q2 q3
   go_wp2_with fail
   obtain ⟨wo,hwo⟩:∃ wo,wo=wr:=⟨_,rfl⟩
   subst hwo
   go_loopw [16] (fun i wr => ∃ m:Nat,m≤3∧i=.int .i64 ↑m∧Below wa.heap.size wa wr∧Mem (W0) [] (wr) [.blk (gl) 42 #[.slice x.At T.tl.length x.ct,T.fx,T.fb,T.db,T.al,.slice x.Ad W.c.length x.cd,.slice x.Ao W.lp.length x.co,.slice x.Ap 3 x.cp,.slice A1 S.length c1,.slice A2 tk.length c2],.row (W0.heap.size) (51) (36) (.slice A1 S.length c1) (S.length) (sns T S),.row (W0.heap.size) (74) (12) (.slice A2 tk.length c2) (tk.length) (sds tk),.blk (wa.heap.size) 72 #[u0,u1,u2],.blk (wa.heap.size+1) 72 #[m0,m1,m2]]) (fun i _ => 3 - (intOf i).toNat)
   case atStart => exact ⟨0,by omega,rfl,hbr,H2⟩
   case round =>
    clear H2 hbr
    obtain ⟨m,hm,rfl,hbr,H2⟩:=hrel
    clear Llf
    have Llf:=H2.c10 0 rfl
    obtain ⟨unlt,un0,-,un1,-,un2,-⟩:=H2.c3 3 rfl
    obtain ⟨mnlt,mn0,-,mn1,-,mn2,-⟩:=H2.c3 4 rfl
    have Nlfun:=H2.ne2 0 3 rfl rfl rfl
    have Nlfmn:=H2.ne2 0 4 rfl rfl rfl
    have Nunmn:=H2.ne2 3 4 rfl rfl rfl
    by_cases hm3:m < 3
    ·have gm:(m:Int) < 3:=by omega
     have hC:=fun U h => customer_top T hT W 3 S.length x m U hW (by omega) (by omega) h
     have hmm:=mo1 m
     obtain ⟨c0,hc0⟩:∃ c,W.B.getD m cu0=c:=⟨_,rfl⟩
     rw [hc0] at hC hmm
     obtain ⟨⟨ame,arev,anext,amonth,abought,afree,al⟩,aso⟩:=c0
     unfold RetCus Wv.vs at hC
     dsimp only at hC hmm
     obtain ⟨hcm,hcn⟩:wr.cell? ⟨wa.heap.size+1,m,none⟩=some (.int .i64 ↑amonth)∧wr.cell? ⟨wa.heap.size,m,none⟩=some (.int .i64 ↑abought):=by
      obtain ⟨q1,q2,q3⟩:=HQ.out
      rcases (show m=0∨m=1∨m=2 by omega) with rfl | rfl | rfl
      ·rw [q1] at hmm;injection hmm with z1 z2;subst z1 z2;exact ⟨mn0,un0⟩
      ·rw [q2] at hmm;injection hmm with z1 z2;subst z1 z2;exact ⟨mn1,un1⟩
      ·rw [q3] at hmm;injection hmm with z1 z2;subst z1 z2;exact ⟨mn2,un2⟩
     have hxr:=hxa.below (hbr)
     clear hmm hc0
     go_wp2_with fail
     refine (hC _ hxr).mono ?_
     rintro e wb ⟨Ad,cd,As,cs,rfl,hda,hbe⟩
     replace hcm:=(hbe.cell (p:=⟨wa.heap.size+1,m,none⟩) mnlt).trans hcm
     replace hcn:=(hbe.cell (p:=⟨wa.heap.size,m,none⟩) unlt).trans hcn
     have hl1:=Nat.lt_of_lt_of_le mnlt hbe.size
     have hl2:=Nat.lt_of_lt_of_le unlt hbe.size
     replace H2:=Mem.call H2 hbe
     have hbw:=hbr.trans (hbe.mono hbr.size)
     clear hC hxr hda hbe
     clear Llf unlt un0 un1 un2 mnlt mn0 mn1 mn2 Nlfun Nlfmn Nunmn
     go_upto_region 29 with fail
     replace H2:=H2.al wb.heap.size #[ame,arev,anext,amonth,abought,afree,.slice Ad al.length cd,.slice As aso.length cs] (67) |>.gen
     simp only [List.cons_append,List.nil_append] at H2
     obtain ⟨wc,hwc,H2⟩:=H2
     rw [hwc]
     have hbw2:Below wa.heap.size wa wc:=by rw [← hwc];exact hbw.trans ((below_a1 wb _).mono hbw.size)
     replace hcm:wc.cell? ⟨wa.heap.size+1,m,none⟩=some (.int .i64 ↑amonth):=by rw [← hwc];exact ((below_a1 wb _).cell (p:=⟨wa.heap.size+1,m,none⟩) hl1).trans hcm
     replace hcn:wc.cell? ⟨wa.heap.size,m,none⟩=some (.int .i64 ↑abought):=by rw [← hwc];exact ((below_a1 wb _).cell (p:=⟨wa.heap.size,m,none⟩) hl2).trans hcn
     clear hwc hbw hl1 hl2
     have d1:((amonth:Int) != (amonth:Int))=false:=by simp
     have d2:((abought:Int) != (abought:Int))=false:=by simp
     have Lun:=H2.c3 3 rfl
     have Lmn:=H2.c3 4 rfl
     have Lcu:=H2.c8 5 rfl
     have Nunmn:=H2.ne2 3 4 rfl rfl rfl
     have Nuncu:=H2.ne2 3 5 rfl rfl rfl
     have Nmncu:=H2.ne2 4 5 rfl rfl rfl
     go_quiet (fail)
     replace H2:=H2.drewN nq |>.gen
     obtain ⟨wd,hwd,H2⟩:=H2
     rw [hwd]
     have hbw3:Below wa.heap.size wa wd:=by rw [← hwd];exact below_draws hbw2 nq
     have H9:=H2.drop_ 5
     go_wp2_with fail
     go_roundw
     case rel => exact ⟨m+1,by omega,by go_num,hbw3,H9⟩
     case measure => simp [intOf];omega
    ·skip
     have gm:¬ (m:Int) < 3:=by omega
     have gq:((tk.length:Int) == (tk.length:Int))=true:=by simp
     go_wp2_with fail
     go_ret
     exact ⟨rfl,(hb1.step hba).trans (hbr.mono (hb1.step hba).size)⟩
end Go.Proofs.YtfgiehkfcoodbaaGreat

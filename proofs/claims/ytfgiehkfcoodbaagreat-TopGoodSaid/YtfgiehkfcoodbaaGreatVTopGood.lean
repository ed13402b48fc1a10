/- TopGood: what is sold is good. -/
import Derived.Test.YtfgiehkfcoodbaaGreatM0
import Derived.Test.YtfgiehkfcoodbaaGreatM49
import Derived.Test.YtfgiehkfcoodbaaGreatMxGood
import Derived.Test.YtfgiehkfcoodbaaGreatMxCusT
import Derived.Test.YtfgiehkfcoodbaaGreatM48
import Derived.Test.YtfgiehkfcoodbaaGreatM17
namespace Go.Proofs.YtfgiehkfcoodbaaGreat
open Go.RowKit
set_option linter.unusedVariables false
set_option maxRecDepth 100000
set_option maxHeartbeats 16000000
theorem walk_topGood (w:World) (a0:Value) (w0:Fit Tryz.prog w 24 a0) (a1:Value) (w1:Fit Tryz.prog w 25 a1) (a2:Int) (w2:(Lit.int .i64 a2).wf=true) (a3:Int) (w3:(Lit.int .i64 a3).wf=true) (a4:Int) (w4:(Lit.int .i64 a4).wf=true) :
 Calls Tryz.prog 9 #[a0,a1,a2,a3,a4] w fun e w' => e=.returned (.bool true)∧Below w.heap.size w w':=by
 obtain ⟨A,n,m,g,a,b,c,d,rfl,wa,wb,wc,wd,hv⟩:=deal_fit w0
 obtain ⟨l,hd⟩:=deeds_fit w1
 obtain ⟨Av,cv,rfl⟩:∃ Av cv,a1=.slice Av l.length cv:=by obtain ⟨A,c,e,_⟩:=hd;exact ⟨A,c,e⟩
 have hL:=fun U h1 h2 => lived_ok true 30 A n m g a b c d Av cv l U wa wb wc wd h1 h2 (by omega)
 clear w0 w1 wa wb wc wd
 unfold RetLived at hL
 have H:=Mem.init w
 replace H:=H.al w.heap.size #[.slice A n m,a,b,c,d] (24) |>.gen
 simp only [List.nil_append] at H
 obtain ⟨W0,hW0,H⟩:=H
 have hv0:=hv.below H.below
 have hd0:=hd.below H.below
 have hb0:=H.below
 have Ldl:=H.c5 0 rfl
 go_enter Tryz.func9,Tryz.ntmps9
 go_wp2_with fail
 clear hW0 hv hd
 refine (hL _ hv0 hd0).mono ?_
 rintro e w1 ⟨T,S,tk,W,gl,hT,rfl,hSl,hLf⟩
 have hS60:3≤S.length∧S.length≤33:=by omega
 have hb1:=hb0.step hLf.bel
 clear hL hv0 hd0 hSl H
 clear Ldl
 obtain ⟨x,A1,c1,A2,c2,hLv,hxw,_,HM⟩:=hLf
 have hW:=(hLv.ok hT (by omega)).1
 rw [show min 3 S.length=3 by omega] at hW
 have hml:=(hLv.toks hT (by omega)).2
 clear hLv
 have h8:=hT.h1.len
 obtain ⟨me,hpm,hm3⟩:=pk_nat a2 3 (by omega)
 obtain ⟨pt,hpt,hlt8⟩:=pk_nat a3 100000000 (by omega)
 obtain ⟨pd,hpd,hd6⟩:=pk_nat a4 65536 (by omega)
 have hpm:Hid (pk a2 3=(me:Int)):=hpm
 have hpt:Hid (pk a3 100000000=(pt:Int)):=hpt
 have hpd:Hid (pk a4 65536=(pd:Int)):=hpd
 obtain ⟨sl,hsl⟩:∃ sl,S.length=sl:=⟨_,rfl⟩
 rw [hsl] at hS60 hml hW
 go_wp2_with (first | (go_at_call 21;(with_reducible refine (Picked_is _ hpm w2 (by omega) (by omega)).mono ?_);rintro e w' ⟨rfl,rfl⟩) | fail)
 go_loopw [14] (fun i wr => ∃ (j:Nat) (W2:Wd) (S2:List Sn) (y:Wv) (B1:Option Addr) (d1:Nat) (B2:Option Addr) (d2:Nat),j≤30∧i=.int .i64 ↑j∧Hid (Tck T W W2 me sl j)∧y.Is wr T W2∧S2.length=sl+j∧Mem W0 [] wr (lifeL T W2 y S2 tk gl W0.heap.size W0.heap.size B1 d1 B2 d2)) (fun i _ => 30 - (intOf i).toNat)
 case atStart => exact ⟨0,W,S,x,A1,c1,A2,c2,by omega,rfl,Lib.hid (Tck.init hW),hxw,hsl,HM⟩
 case round =>
  clear HM hxw hsl
  obtain ⟨j,W2,S2,y,B1,d1,B2,d2,hj,rfl,hT2,hy,hS2,HM⟩:=hrel
  have hck:=hT2.out
  by_cases hlt:j < 30
  ·have g1:(j:Int) < 30:=by omega
   have hn:=hck.next (me:=me) (by omega)
   have hmy:May W2 (tka me):=by unfold May;rw [if_neg (show ¬ (tka me).k=1 from (by omega:¬ (7:Nat)=1))];exact hck.ok.cus
   have hbw:=HM.keep.size
   have hS1:=lstep_ok T hT W2 3 sl 3 y (tka me) ⟨#[]⟩ S2 tk gl _ _ B1 d1 B2 d2 W0 wr hck.ok (tka_ok (by omega)) (by omega) hmy (hn.1.ok.more (by omega)) hy h8 (by omega) (by omega) hbw hbw HM
   unfold RetLStep tkN at hS1
   rw [if_pos hn.2] at hS1
   clear HM hy
   go_wp2_with fail
   refine hS1.mono ?_
   rintro e we ⟨z,C1,e1,C2,e2,rfl,hz,_,HZ⟩
   clear hS1
   go_wp2_with fail
   go_roundw
   case rel => exact ⟨j+1,_,_,z,C1,e1,C2,e2,by omega,by go_num,Lib.hid hn.1,hz,by simp;omega,HZ⟩
   case measure => simp [intOf];omega
  ·have g1:¬ (j:Int) < 30:=by omega
   have hj30:j=30:=by omega
   rw [hj30] at hck
   have hm0:=hck.lock hW (by omega)
   have hok:=hck.ok
   clear hck hT2
   generalize (W.P.getD me pk0).m=mr at hm0
   obtain ⟨r1,r2,r3,r4,r5,r6⟩:=mr
   dsimp only at hm0
   unfold lifeL at HM
   have H:Mem (W0) [] (wr) [.blk (gl) 42 #[.slice y.At T.tl.length y.ct,T.fx,T.fb,T.db,T.al,.slice y.Ad W2.c.length y.cd,.slice y.Ao W2.lp.length y.co,.slice y.Ap 3 y.cp,.slice B1 S2.length d1,.slice B2 tk.length d2],.row (W0.heap.size) (51) (36) (.slice B1 S2.length d1) (S2.length) (sns T S2),.row (W0.heap.size) (74) (12) (.slice B2 tk.length d2) (tk.length) (sds tk)]:=HM
   clear HM
   have hC:=fun U h => customer_top T hT W2 3 sl y me U hok (by omega) (by omega) h
   have hMt:=fun U h => meterIn_ok T W2 3 sl y me U hok (by omega) h
   rw [hm0] at hMt
   obtain ⟨c0,hc0⟩:∃ c,W2.B.getD me cu0=c:=⟨_,rfl⟩
   rw [hc0] at hC
   obtain ⟨⟨ame,arev,anext,amonth,abought,afree,al⟩,aso⟩:=c0
   unfold RetCus Wv.vs at hC
   unfold Mt.v Wv.vs at hMt
   dsimp only at hC hMt
   have HP:=Lib.hid (And.intro hm0 (And.intro hc0 hok))
   clear hm0 hc0 hok
   have Llf:=H.c10 0 rfl
   go_wp2_with fail
   refine (hC _ hy).mono ?_
   rintro e wa ⟨Ad,cd,As,cs,rfl,hda,hba⟩
   have hy1:=hy.below hba
   replace H:=Mem.call H hba
   clear hC hda hba hy
   clear Llf
   have Llf:=H.c10 0 rfl
   go_wp2_with fail
   replace H:=H.al wa.heap.size #[ame,arev,anext,amonth,abought,afree,.slice Ad al.length cd,.slice As aso.length cs] (67) |>.gen
   simp only [List.cons_append,List.nil_append] at H
   obtain ⟨wb,hwb,H⟩:=H
   rw [hwb]
   have hy2:=hy1.below (show Below wa.heap.size wa wb by rw [← hwb];exact below_a1 wa _)
   clear hwb hy1
   refine (hMt _ hy2).mono ?_
   rintro e wc2 ⟨rfl,hbc⟩
   have hy3:=hy2.below hbc
   replace H:=Mem.call H hbc
   clear hMt hbc hy2
   clear Llf
   have Llf:=H.c10 0 rfl
   go_upto_region 16 with fail
   replace H:=H.al wc2.heap.size #[me,r1,r2,r3,.int .u64 (r4:Int),r5,()] (81) |>.gen
   simp only [List.cons_append,List.nil_append] at H
   obtain ⟨wd,hwd,H⟩:=H
   rw [hwd]
   have hy4:=hy3.below (show Below wc2.heap.size wc2 wd by rw [← hwd];exact below_a1 wc2 _)
   clear hwd hy3
   obtain ⟨hm0,hc0,hok⟩:=HP.out
   have hmo:amonth≤2399:=by
    have hi:me < W2.B.length:=by have:=hok.cus;omega
    have h9:=((hok.srv.bok hT).h1 W2.B[me] (List.getElem_mem hi)).1
    rw [show W2.B[me]=W2.B.getD me cu0 by simp [hi],hc0] at h9
    exact h9.h1.h5
   have hA1:(⟨2,me,1+pt,amonth,pd,⟨#[]⟩,none⟩:Ac).Ok:=⟨by show me≤2;omega,⟨by show 1≤2;omega,by show 2≤7;omega⟩,fun _ => ⟨by show 1≤1+pt;omega,by show 1+pt≤100000000;omega,hmo,by show pd≤65535;omega⟩,fun q => absurd (show (2:Nat)=3 from q) (by decide),fun q => absurd (show (2:Nat)=4 from q) (by decide),fun q => absurd (show (2:Nat)=5 from q) (by decide),fun q => absurd (show (2:Nat)=7 from q) (by decide)⟩
   have hmy1:May W2 ⟨2,me,1+pt,amonth,pd,⟨#[]⟩,none⟩:=by unfold May;rw [if_neg (show ¬ (⟨2,me,1+pt,amonth,pd,⟨#[]⟩,none⟩:Ac).k=1 from (by decide:¬ (2:Nat)=1))];exact hok.cus
   have hn1:=hok.next hT (by omega) hA1 (show (2:Nat)≠1 by decide)
   have hgs:=good_sale (a:=⟨2,me,1+pt,amonth,pd,⟨#[]⟩,none⟩) y y hok hT (by omega) (by omega) hA1 rfl rfl (by show amonth=(W2.B.getD me cu0).a.month;rw [hc0])
   have Hd:=H.drew
   have hbw:=Hd.keep.size
   have hSS:=lstep_ok T hT W2 3 sl 3 y ⟨2,me,1+pt,amonth,pd,⟨#[]⟩,none⟩ ⟨#[]⟩ S2 tk gl _ _ B1 d1 B2 d2 wd.drew wd.drew hok hA1 (by omega) hmy1 hn1 hy4.drew h8 (by omega) (by omega) hbw hbw (Hd.rebaseN 3)
   unfold RetLStep at hSS
   simp only [Ac.vs,cutI] at hSS
   rw [show ((1+pt:Nat):Int)=IntKind.i64.wrap (1+(pt:Int)) by rw [IntWalk.i64_in _ (by omega)];omega,show ((2:Nat):Int)=2 from rfl] at hSS
   clear hmy1 hmo
   have HQ:=Lib.hid (And.intro hgs (And.intro hn1 hA1))
   clear hgs hn1 hA1 hm0 hc0 hok
   clear Llf
   have Llf:=H.c10 0 rfl
   have Lcu:=H.c8 3 rfl
   have Nlfcu:=H.ne2 0 3 rfl rfl rfl
   go_region_held3 (fun w' => w'.cell? ⟨wa.heap.size,3,none⟩=some (.int .i64 ↑amonth)) (first | with_reducible exact s0 | go_keep | fail) (first | (go_at_call 21;(with_reducible refine (Picked_is _ hpt w3 (by omega) (by omega)).mono ?_);rintro e w' ⟨rfl,rfl⟩) | (go_at_call 21;(with_reducible refine (Picked_is _ hpd w4 (by omega) (by omega)).mono ?_);rintro e w' ⟨rfl,rfl⟩) | (go_at_call 22;(with_reducible refine hSS.mono ?_);rintro e we ⟨z,C1,e1,C2,e2,rfl,hz,hkw,HZ⟩;have HF:=Hd.frameN 3 HZ;have s0:we.cell? ⟨wa.heap.size,3,none⟩=some (.int .i64 ↑amonth):=(HF.blk 3 rfl).cell 3) | fail)
   clear Llf Lcu Nlfcu
   obtain ⟨hm0,hc0,hok⟩:=HP.out
   obtain ⟨hgs,hn1,hA1⟩:=HQ.out
   clear hSS Hd hbw s0 HQ
   obtain ⟨N,hN⟩:∃ N,S2.length=N:=⟨_,rfl⟩
   rcases hgs with ⟨hs0,hE⟩ | hs1
   ·obtain ⟨s3,hs3⟩:∃ s,(⟨⟨2,me,1+pt,amonth,pd,⟨#[]⟩,none⟩,W2,y,z,⟨#[]⟩,tk.length⟩:Sn)=s:=⟨_,rfl⟩
    have hv7:(s3.vs T)[7]?=some (.int .i64 ↑19):=by
     have e:(s3.vs T)[7]?=some (.int .i64 ((doP T W2 ⟨2,me,1+pt,amonth,pd,⟨#[]⟩,none⟩).2.E:Int)):=by rw [← hs3];rfl
     rw [e,hE]
     rfl
    unfold tkN at HF
    rw [if_pos hs0,hs3] at HF
    generalize doP T W2 ⟨2,me,1+pt,amonth,pd,⟨#[]⟩,none⟩=D3 at HF
    obtain ⟨W3,D3⟩:=D3
    unfold lifeL at HF
    simp only [List.length_append,List.length_singleton,hN] at HF
    have H5:Mem (W0) [] (we) [.blk (gl) 42 #[.slice z.At T.tl.length z.ct,T.fx,T.fb,T.db,T.al,.slice z.Ad W3.c.length z.cd,.slice z.Ao W3.lp.length z.co,.slice z.Ap 3 z.cp,.slice C1 (N+1) e1,.slice C2 tk.length e2],.row (W0.heap.size) (51) (36) (.slice C1 (N+1) e1) (N+1) (sns T (S2 ++ [s3])),.row (W0.heap.size) (74) (12) (.slice C2 tk.length e2) (tk.length) (sds tk),.blk (wa.heap.size) 67 #[ame,arev,anext,amonth,abought,afree,.slice Ad al.length cd,.slice As aso.length cs],.blk (wc2.heap.size) 81 #[me,r1,r2,r3,.int .u64 (r4:Int),r5,()]]:=HF
    obtain ⟨gs,rfl⟩:=own_at (H5.own_ 1 rfl) (by omega)
    have t7:=sn_last (own_mono (H5.own_ 1 rfl) (Nat.zero_le _)) (by rw [hN]) 7 (by omega) _ hv7
    rw [hN] at t7
    clear HF HZ H hz hkw hs3 hv7 hs0 hE
    have Llf:=H5.c10 0 rfl
    have gq:((tk.length:Int) == (tk.length:Int))=true:=by simp
    go_upto_region 20 with fail
    go_region
    go_wp2_with fail
    go_ret
    exact ⟨rfl,(hb0.step H5.below).drew⟩
   ·have hds:=hds_of hA1 hs1
    skip
    have hw3:=hds.w
    have ht3:=hds.t
    obtain ⟨cls,am,tag,hto⟩:=hds.told hT hok (by omega) hA1
    obtain ⟨rfl,rfl,_,_⟩:=hto.k2 rfl
    have q1:=hto.tk
    have q2:=hto.id
    have q3:=hto.s
    have q4:=hto.lk
    have q5:=hto.size
    have hP3:(doP T W2 ⟨2,me,1+pt,amonth,pd,⟨#[]⟩,none⟩).1.P=W2.P:=by rw [hw3]
    obtain ⟨tk3,htk3⟩:∃ t,tokOf T W2 ⟨2,me,1+pt,amonth,pd,⟨#[]⟩,none⟩=t:=⟨_,rfl⟩
    obtain ⟨s3,hs3⟩:∃ s,(⟨⟨2,me,1+pt,amonth,pd,⟨#[]⟩,none⟩,W2,y,z,⟨#[]⟩,tk.length⟩:Sn)=s:=⟨_,rfl⟩
    unfold tkN at HF
    rw [if_neg hs1,htk3,hs3] at HF
    unfold tokOf at htk3
    dsimp only at q1 q2 q3 q4 htk3
    rw [hc0] at q1 q2 q3 q4 htk3
    dsimp only at q1 q2 q3 q4 htk3
    generalize doP T W2 ⟨2,me,1+pt,amonth,pd,⟨#[]⟩,none⟩=D3 at HF hn1 hz q1 q2 q3 q4 q5 htk3 hP3
    obtain ⟨W3,⟨E3,ad3,st,⟨id,te,de,fe,pr,ch,un⟩,dead3⟩⟩:=D3
    dsimp only at HF hn1 hz q1 q2 q3 q4 q5 htk3 hP3
    clear q2
    have hst:st.size≤100:=by omega
    clear q5
    have hr2:r2≤99999999:=by
     have h9:=(hok.pok me (by omega)).may
     rw [hm0] at h9
     exact (may_bounds h9.1 h9.2).2.2.1
    have hm3':(W3.P.getD me pk0).m=⟨r1,r2,r3,r4,r5,0⟩:=by rw [hP3];exact hm0
    clear hw3 ht3 hto hds hs1 hP3 hm0 hc0 hok hA1 HP hs3 H HZ hkw
    have hsds:sds (tk ++ [tk3])=sds (tk ++ [⟨me,arev,st,⟨id,te,de,fe,pr,ch,un⟩,2,amonth⟩]):=by rw [← htk3];rfl
    unfold lifeL at HF
    simp only [List.length_append,List.length_singleton,hN] at HF
    rw [hsds] at HF
    have H5:Mem (W0) [] (we) [.blk (gl) 42 #[.slice z.At T.tl.length z.ct,T.fx,T.fb,T.db,T.al,.slice z.Ad W3.c.length z.cd,.slice z.Ao W3.lp.length z.co,.slice z.Ap 3 z.cp,.slice C1 (N+1) e1,.slice C2 (tk.length+1) e2],.row (W0.heap.size) (51) (36) (.slice C1 (N+1) e1) (N+1) (sns T (S2 ++ [s3])),.row (W0.heap.size) (74) (12) (.slice C2 (tk.length+1) e2) (tk.length+1) (sds (tk ++ [⟨me,arev,st,⟨id,te,de,fe,pr,ch,un⟩,2,amonth⟩])),.blk (wa.heap.size) 67 #[ame,arev,anext,amonth,abought,afree,.slice Ad al.length cd,.slice As aso.length cs],.blk (wc2.heap.size) 81 #[me,r1,r2,r3,.int .u64 (r4:Int),r5,()]]:=HF
    obtain ⟨gt,rfl⟩:=own_at (H5.own_ 2 rfl) (by omega)
    have hto:=own_mono (H5.own_ 2 rfl) (Nat.zero_le _)
    have t0:we.cell? ⟨gt,tk.length * 12,none⟩=some (.int .i64 ↑me):=sd_last hto rfl 0 (by omega) _ rfl
    have t1:we.cell? ⟨gt,tk.length * 12+1,none⟩=some (.int .i64 ↑arev):=sd_last hto rfl 1 (by omega) _ rfl
    have t2:we.cell? ⟨gt,tk.length * 12+2,none⟩=some (.string st):=sd_last hto rfl 2 (by omega) _ rfl
    have t3:we.cell? ⟨gt,tk.length * 12+3,none⟩=some (.int .i64 ↑id):=sd_last hto rfl 3 (by omega) _ rfl
    have t4:we.cell? ⟨gt,tk.length * 12+4,none⟩=some (.int .i64 ↑te):=sd_last hto rfl 4 (by omega) _ rfl
    have t5:we.cell? ⟨gt,tk.length * 12+5,none⟩=some (.int .i64 ↑de):=sd_last hto rfl 5 (by omega) _ rfl
    have t6:we.cell? ⟨gt,tk.length * 12+6,none⟩=some (.int .i64 ↑fe):=sd_last hto rfl 6 (by omega) _ rfl
    have t7:we.cell? ⟨gt,tk.length * 12+7,none⟩=some (.int .i64 ↑pr):=sd_last hto rfl 7 (by omega) _ rfl
    have t8:we.cell? ⟨gt,tk.length * 12+8,none⟩=some (.int .i64 ↑ch):=sd_last hto rfl 8 (by omega) _ rfl
    have t9:we.cell? ⟨gt,tk.length * 12+9,none⟩=some (.int .i64 ↑un):=sd_last hto rfl 9 (by omega) _ rfl
    have t10:we.cell? ⟨gt,tk.length * 12+10,none⟩=some (.int .i64 ↑2):=sd_last hto rfl 10 (by omega) _ rfl
    have t11:we.cell? ⟨gt,tk.length * 12+11,none⟩=some (.int .i64 ↑amonth):=sd_last hto rfl 11 (by omega) _ rfl
    clear HF hto hsds htk3
    have HR:=Lib.hid (And.intro q1 (And.intro q3 (And.intro q4 hm3')))
    clear q1 q3 q4 hm3'
    have Llf:=H5.c10 0 rfl
    have gq:((tk.length:Int)+1 == (tk.length:Int))=false:=by simp;omega
    go_upto_region 22 with fail
    replace H5:=H5.al we.heap.size #[me,arev,.string st,id,te,de,fe,pr,ch,un,.int .i64 2,amonth] (74) |>.gen
    simp only [List.cons_append,List.nil_append] at H5
    obtain ⟨wx,hwx,H5⟩:=H5
    rw [hwx]
    have hz1:=hz.below (show Below we.heap.size we wx by rw [← hwx];exact below_a1 we _)
    clear hwx hz t0 t1 t2 t3 t4 t5 t6 t7 t8 t9 t10 t11
    obtain ⟨q1,q3,q4,hm3'⟩:=HR.out
    have hA2:(⟨6,me,0,0,0,st ++ ⟨#[35]⟩,none⟩:Ac).Ok:=⟨by show me≤2;omega,⟨by show 1≤6;omega,by show 6≤7;omega⟩,fun q => absurd (show (6:Nat)=2 from q) (by decide),fun q => absurd (show (6:Nat)=3 from q) (by decide),fun q => absurd (show (6:Nat)=4 from q) (by decide),fun q => absurd (show (6:Nat)=5 from q) (by decide),fun q => absurd (show (6:Nat)=7 from q) (by decide)⟩
    obtain ⟨d1',d2',d3'⟩:=doP_meter (T:=T) (a:=⟨6,me,0,0,0,st ++ ⟨#[35]⟩,none⟩) hn1 (show ¬ (6:Nat)≤5 by omega) (show me≤2 by omega) rfl
    have hkr:krP W3 ⟨6,me,0,0,0,st ++ ⟨#[35]⟩,none⟩=textP W3.lp me (W3.P.getD me pk0) (st ++ ⟨#[35]⟩):=by unfold krP;rw [if_pos rfl]
    rw [hkr] at d2'
    have hgk:r1=arev→r3 < anext→_:=fun h1 h2 => good_key (l:=W3.lp) (me:=me) (p:=W3.P.getD me pk0) q1 (by rw [hm3']) (by rw [hm3'];dsimp only;rw [h1];exact q4) (by rw [hm3'];exact h2)
    rw [← q3,hm3'] at hgk
    dsimp only at hgk
    generalize textP W3.lp me (W3.P.getD me pk0) (st ++ ⟨#[35]⟩)=K at d2' hgk
    have hun:un≤2097151:=q1.am
    have hmy2:May W3 ⟨6,me,0,0,0,st ++ ⟨#[35]⟩,none⟩:=by unfold May;rw [if_neg (show ¬ (6:Nat)=1 by decide)];exact hn1.cus
    have hbw:=H5.keep.size
    have HL0:=H5.rebaseN 3
    generalize hGs:List.filterMap Chunk.num (List.take 3 _)=Gs at HL0
    have HL:Mem wx Gs wx (lifeL T W3 z (S2 ++ [s3]) (tk ++ [⟨me,arev,st,⟨id,te,de,fe,pr,ch,un⟩,2,amonth⟩]) gl W0.heap.size W0.heap.size C1 e1 (some ⟨gt,0,none⟩) e2):=by
     unfold lifeL
     simp only [List.length_append,List.length_singleton,hN]
     exact HL0
    have hSS:=lstep_ok T hT W3 3 (sl+1) 3 z ⟨6,me,0,0,0,st ++ ⟨#[35]⟩,none⟩ st (S2 ++ [s3]) (tk ++ [⟨me,arev,st,⟨id,te,de,fe,pr,ch,un⟩,2,amonth⟩]) gl _ _ C1 e1 (some ⟨gt,0,none⟩) e2 wx wx hn1 hA2 (by omega) hmy2 (d3'.more (by omega)) hz1 h8 (by simp;omega) (by simp;omega) hbw hbw HL
    unfold RetLStep tkN at hSS
    rw [if_pos (show (doP T W3 ⟨6,me,0,0,0,st ++ ⟨#[35]⟩,none⟩).2.s.size=0 by rw [d2'];rfl)] at hSS
    have HQ:=Lib.hid (And.intro hgk (And.intro d2' hm3'))
    clear hgk d1' d2' d3' hkr hmy2 hA2 hm3' q1 q3 q4 HR HL HL0 hz1 hn1
    clear Llf
    have Llf:=H5.c10 0 rfl
    have Lxt:=H5.c12 5 rfl
    have Nlfxt:=H5.ne2 0 5 rfl rfl rfl
    go_wp2_with fail
    refine hSS.mono ?_
    rintro e wy ⟨z2,F1,f1,F2,f2,rfl,hz2,_,HZ2⟩
    have HF:=H5.frameN 3 (hGs ▸ HZ2)
    clear hSS HZ2 hGs hz2 H5
    clear Llf Lxt Nlfxt
    obtain ⟨hgk,d2',hm3'⟩:=HQ.out
    clear HQ
    obtain ⟨kp,kw,kad,kE⟩:=K
    dsimp only at d2' hgk
    simp only [List.length_append,List.length_singleton] at HF
    obtain ⟨s4,hs4⟩:∃ s,(⟨⟨6,me,0,0,0,st ++ ⟨#[35]⟩,none⟩,W3,z,z2,st,tk.length+1⟩:Sn)=s:=⟨_,rfl⟩
    obtain ⟨R,hR⟩:∃ R,s4.vs T=(⟨6,me,0,0,0,st ++ ⟨#[35]⟩,none⟩:Ac).vs ++ ((⟨kE,kad,⟨#[]⟩,bil0,false⟩:Td).vs ++ R):=⟨_,by rw [← hs4];unfold Sn.vs;dsimp only;rw [d2']⟩
    rw [hs4] at HF
    generalize doP T W3 ⟨6,me,0,0,0,st ++ ⟨#[35]⟩,none⟩=D4 at HF
    obtain ⟨W4,t4⟩:=D4
    unfold lifeL at HF
    simp only [List.length_append,List.length_singleton,hN] at HF
    have H6:Mem (W0) [] (wy) [.blk (gl) 42 #[.slice z2.At T.tl.length z2.ct,T.fx,T.fb,T.db,T.al,.slice z2.Ad W4.c.length z2.cd,.slice z2.Ao W4.lp.length z2.co,.slice z2.Ap 3 z2.cp,.slice F1 (N+1+1) f1,.slice F2 (tk.length+1) f2],.row (W0.heap.size) (51) (36) (.slice F1 (N+1+1) f1) (N+1+1) (sns T (S2 ++ [s3] ++ [s4])),.row (W0.heap.size) (74) (12) (.slice F2 (tk.length+1) f2) (tk.length+1) (sds (tk ++ [⟨me,arev,st,⟨id,te,de,fe,pr,ch,un⟩,2,amonth⟩])),.blk (wa.heap.size) 67 #[ame,arev,anext,amonth,abought,afree,.slice Ad al.length cd,.slice As aso.length cs],.blk (wc2.heap.size) 81 #[me,r1,r2,r3,.int .u64 (r4:Int),r5,()],.blk (we.heap.size) 74 #[me,arev,.string st,id,te,de,fe,pr,ch,un,.int .i64 2,amonth]]:=HF
    obtain ⟨gs,rfl⟩:=own_at (H6.own_ 1 rfl) (by omega)
    have hto:=own_mono (H6.own_ 1 rfl) (Nat.zero_le _)
    have gslt:gs < wy.heap.size:=(World.ownsRow.lt (H6.own_ 1 rfl) gs rfl).2
    have gsne:gs≠wy.heap.size:=by omega
    have gsne2:wy.heap.size≠gs:=by omega
    have hix:(S2 ++ [s3]).length=N+1:=by simp [hN]
    have tc:=fun j hj v hv => sn_last hto (by rw [hix]) j hj v hv
    rw [hix] at tc
    have t7:wy.cell? ⟨gs,(N+1) * 36+7,none⟩=some (.int .i64 ↑kE):=tc 7 (by omega) _ (by rw [hR];rfl)
    have t8:wy.cell? ⟨gs,(N+1) * 36+8,none⟩=some (.int .i64 ↑kad):=tc 8 (by omega) _ (by rw [hR];rfl)
    have t9:wy.cell? ⟨gs,(N+1) * 36+9,none⟩=some (.string ⟨#[]⟩):=tc 9 (by omega) _ (by rw [hR];rfl)
    have t10:wy.cell? ⟨gs,(N+1) * 36+10,none⟩=some (.int .i64 0):=tc 10 (by omega) _ (by rw [hR];rfl)
    have t11:wy.cell? ⟨gs,(N+1) * 36+11,none⟩=some (.int .i64 0):=tc 11 (by omega) _ (by rw [hR];rfl)
    have t12:wy.cell? ⟨gs,(N+1) * 36+12,none⟩=some (.int .i64 0):=tc 12 (by omega) _ (by rw [hR];rfl)
    have t13:wy.cell? ⟨gs,(N+1) * 36+13,none⟩=some (.int .i64 0):=tc 13 (by omega) _ (by rw [hR];rfl)
    have t14:wy.cell? ⟨gs,(N+1) * 36+14,none⟩=some (.int .i64 0):=tc 14 (by omega) _ (by rw [hR];rfl)
    have t15:wy.cell? ⟨gs,(N+1) * 36+15,none⟩=some (.int .i64 0):=tc 15 (by omega) _ (by rw [hR];rfl)
    have t16:wy.cell? ⟨gs,(N+1) * 36+16,none⟩=some (.int .i64 0):=tc 16 (by omega) _ (by rw [hR];rfl)
    have t17:wy.cell? ⟨gs,(N+1) * 36+17,none⟩=some (.bool false):=tc 17 (by omega) _ (by rw [hR];rfl)
    clear tc hto hix hR hs4 d2' hm3' HF
    have Llf:=H6.c10 0 rfl
    go_upto_region 25 with fail
    go_region
    replace H6:=H6.al wy.heap.size #[kE,kad,.string ⟨#[]⟩,(),(),(),(),(),(),(),.bool false] (49) |>.drew |>.gen
    simp only [List.cons_append,List.nil_append] at H6
    obtain ⟨wz,hwz,H6⟩:=H6
    rw [hwz]
    clear hwz t7 t8 t9 t10 t11 t12 t13 t14 t15 t16 t17
    clear Llf
    have Lcu:=H6.c8 3 rfl
    have Lmt:=H6.c7 4 rfl
    have Lxt:=H6.c12 5 rfl
    have Ltt:=H6.c11 6 rfl
    have Ncumt:=H6.ne2 3 4 rfl rfl rfl
    have Ncuxt:=H6.ne2 3 5 rfl rfl rfl
    have Ncutt:=H6.ne2 3 6 rfl rfl rfl
    have Nmtxt:=H6.ne2 4 5 rfl rfl rfl
    have Nmttt:=H6.ne2 4 6 rfl rfl rfl
    have Nxttt:=H6.ne2 5 6 rfl rfl rfl
    by_cases g2:r1=arev
    ·have f1:((r1:Int) != (arev:Int))=false:=by simp;omega
     by_cases g3:r3 < anext
     ·have f2:¬ (r3:Int) ≥ (anext:Int):=by omega
      have hk:=hgk g2 g3
      clear hgk
      by_cases g4:99999999 < r2+un
      ·have f3:(r2:Int)+(un:Int) > 99999999:=by omega
       have f4:((kE:Int) == 15)=true:=by rw [hk.1 g4];rfl
       clear hk g2
       go_wp2_with fail
       go_ret
       exact ⟨rfl,hb0.step H6.below⟩
      ·skip
       have f3:¬ (r2:Int)+(un:Int) > 99999999:=by omega
       have f4:((kE:Int) == 0)=true:=by rw [(hk.2 g4).1];rfl
       have f5:((kad:Int) == (un:Int))=true:=by rw [(hk.2 g4).2];simp
       clear hk g2
       go_wp2_with fail
       go_ret
       exact ⟨rfl,hb0.step H6.below⟩
     ·skip
      have f2:(r3:Int) ≥ (anext:Int):=by omega
      clear hgk g2
      go_wp2_with fail
      go_ret
      exact ⟨rfl,hb0.step H6.below⟩
    ·skip
     have f1:((r1:Int) != (arev:Int))=true:=by simp;omega
     have f2:¬ (r1:Int)=(arev:Int):=by omega
     clear hgk
     go_wp2_with fail
     go_ret
     exact ⟨rfl,hb0.step H6.below⟩
end Go.Proofs.YtfgiehkfcoodbaaGreat

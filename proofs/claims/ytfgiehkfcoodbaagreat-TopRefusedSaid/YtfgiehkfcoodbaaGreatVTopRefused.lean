/- TopRefused: a sale is refused only where its account refuses it, by that name; else it is had. -/
import Derived.Test.YtfgiehkfcoodbaaGreatM50
import Derived.Test.YtfgiehkfcoodbaaGreatMxRef
import Derived.Test.YtfgiehkfcoodbaaGreatMxCusT
import Derived.Test.YtfgiehkfcoodbaaGreatM20
import Derived.Test.YtfgiehkfcoodbaaGreatM17
namespace Go.Proofs.YtfgiehkfcoodbaaGreat
open Go.RowKit
set_option linter.unusedVariables false
set_option maxRecDepth 100000
set_option maxHeartbeats 16000000
theorem walk_topRefused (w:World) (a0:Value) (w0:Fit Tryz.prog w 24 a0) (a1:Value) (w1:Fit Tryz.prog w 25 a1) :
 Calls Tryz.prog 6 #[a0,a1] w fun e w' => e = .returned (.bool true) ∧ Below w.heap.size w w':=by
 obtain ⟨A,n,m,g,a,b,c,d,rfl,wa,wb,wc,wd,hv⟩:=deal_fit w0
 obtain ⟨l,hd⟩:=deeds_fit w1
 obtain ⟨Av,cv,rfl⟩:∃ Av cv,a1 = .slice Av l.length cv:=by obtain ⟨A,c,e,_⟩:=hd;exact ⟨A,c,e⟩
 have hL:=fun U h1 h2 => lived_ok true 40 A n m g a b c d Av cv l U wa wb wc wd h1 h2 (by omega)
 clear w0 w1 wa wb wc wd
 unfold RetLived at hL
 have H:=Mem.init w
 replace H:=H.al w.heap.size #[.slice A n m,.int .i64 a,.int .i64 b,.int .i64 c,.int .i64 d] (24) |>.gen
 simp only [List.nil_append] at H
 obtain ⟨W0,hW0,H⟩:=H
 have hv0:=hv.below H.below
 have hd0:=hd.below H.below
 have hb0:=H.below
 have Ldl:=H.c5 0 rfl
 go_enter Tryz.func6,Tryz.ntmps6
 go_wp2_with fail
 clear hW0 hv hd
 refine (hL _ hv0 hd0).mono ?_
 rintro e w1 ⟨T,S,tk,W,gl,hT,rfl,hSl,hLf⟩
 have hS60:3 ≤ S.length ∧ S.length ≤ 43:=by omega
 have hb1:=hb0.step hLf.bel
 clear hL hv0 hd0 hSl H
 clear Ldl
 go_wp2_with fail
 go_loopw [7] (fun i wr => ∃ j:Nat,j ≤ S.length ∧ i = .int .i64 ↑j ∧ Below w1.heap.size w1 wr) (fun i _ => S.length - (intOf i).toNat)
 case atStart => exact ⟨0,by omega,rfl,Below.refl _ _⟩
 case round =>
  obtain ⟨j,hj,rfl,hbr⟩:=hrel
  have hbw:=hb1.step hbr
  obtain ⟨x,A1,c1,A2,c2,hLv,hxw,hsn,HM⟩:=hLf.below hbr
  unfold lifeL at HM
  have H:Mem (W0) [] (wr) [.blk (gl) 42 #[.slice x.At T.tl.length x.ct,.int .i64 ↑T.fx,.int .i64 ↑T.fb,.int .i64 ↑T.db,.int .i64 ↑T.al,.slice x.Ad W.c.length x.cd,.slice x.Ao W.lp.length x.co,.slice x.Ap 3 x.cp,.slice A1 S.length c1,.slice A2 tk.length c2],.row (W0.heap.size) (51) (36) (.slice A1 S.length c1) (S.length) (sns T S),.row (W0.heap.size) (74) (12) (.slice A2 tk.length c2) (tk.length) (sds tk)]:=HM
  clear HM
  have Llf:=H.c10 0 rfl
  by_cases hlt:j < S.length
  ·have g1:(j:Int) < (S.length:Int):=by omega
   have hok:=(hLv.ok hT (by omega)).2 j hlt
   have hsw:=hsn S[j] (List.getElem_mem hlt)
   obtain ⟨gs,rfl⟩:=own_at (H.own_ 1 rfl) (by omega)
   obtain ⟨s,hs⟩:∃ s,S[j] = s:=⟨_,rfl⟩
   rw [hs] at hok hsw
   obtain ⟨⟨k,me,aA,aB,aC,sa,cut⟩,Ws,xs,ys,key,many⟩:=s
   obtain ⟨D,hdo⟩:∃ D,doP T Ws ⟨k,me,aA,aB,aC,sa,cut⟩ = D:=⟨_,rfl⟩
   obtain ⟨W2,⟨E2,ad,st,⟨id,te,de,fe,pr,ch,un⟩,dead⟩⟩:=D
   obtain ⟨ci,hci⟩:∃ ci,cutI cut = ci:=⟨_,rfl⟩
   have hvs:S[j].vs T = (.int .i64 ↑k :: .int .i64 ↑me :: .int .i64 ↑aA :: .int .i64 ↑aB :: .int .i64 ↑aC :: .string sa :: .int .i64 ci :: .int .i64 ↑E2 :: .int .i64 ↑ad :: .string st :: .int .i64 ↑id :: .int .i64 ↑te :: .int .i64 ↑de :: .int .i64 ↑fe :: .int .i64 ↑pr :: .int .i64 ↑ch :: .int .i64 ↑un :: .bool dead :: .slice xs.At T.tl.length xs.ct :: .int .i64 ↑T.fx :: .int .i64 ↑T.fb :: .int .i64 ↑T.db :: .int .i64 ↑T.al :: .slice xs.Ad Ws.c.length xs.cd :: .slice xs.Ao Ws.lp.length xs.co :: .slice xs.Ap 3 xs.cp :: .slice ys.At T.tl.length ys.ct :: .int .i64 ↑T.fx :: .int .i64 ↑T.fb :: .int .i64 ↑T.db :: .int .i64 ↑T.al :: .slice ys.Ad W2.c.length ys.cd :: .slice ys.Ao W2.lp.length ys.co :: .slice ys.Ap 3 ys.cp :: .string key :: .int .i64 ↑many :: []):=by rw [hs];unfold Sn.vs Ac.vs;dsimp only;rw [hdo,hci];rfl
   obtain ⟨L,hL⟩:∃ L,S[j].vs T = L:=⟨_,rfl⟩
   have hrg:=sn_range (own_mono (H.own_ 1 rfl) (Nat.zero_le _)) rfl j hlt hL
   rw [hL] at hvs
   clear hL
   have hll:L.length = 36:=by rw [hvs];rfl
   have hsz:(Tryz.prog.info? 51).map (·.size) = some L.length:=by rw [hll];exact sn_size
   have hsz2:(Tryz.prog.info? 51).map (·.size) = some L.toArray.size:=hsz
   have hon:L.toArray.all (·.oneCell') = true:=all_oneCell_toArray (by rw [hvs];intro v hv;simp only [List.mem_cons,List.not_mem_nil,or_false] at hv;rcases hv with rfl | rfl | rfl | rfl | rfl | rfl | rfl | rfl | rfl | rfl | rfl | rfl | rfl | rfl | rfl | rfl | rfl | rfl | rfl | rfl | rfl | rfl | rfl | rfl | rfl | rfl | rfl | rfl | rfl | rfl | rfl | rfl | rfl | rfl | rfl | rfl <;> rfl)
   have HV:=Lib.hid hvs
   clear hvs
   dsimp only at hsw
   rw [hdo] at hsw
   obtain ⟨hsx,hsy⟩:=hsw
   have HD:=Lib.hid (And.intro hdo hci)
   clear hdo hci hs hsn hLv hxw
   have HE:=Lib.hid (And.intro hsz (And.intro hsz2 (And.intro hon hll)))
   clear hsz hsz2 hon hll
   go_upto_region 6 with (first | (refine wpList_load_mid rfl 51 _ rfl gs (j * 36) (by rfl) L _ hrg Tryz.underlying51 rfl HE.out.1 ?_) | (refine wpList_store_mid rfl 51 _ _ rfl wr.heap.size 0 L.toArray (by rfl) (by rfl) (fresh_there _ _ _ _ (by rw [List.size_toArray,HE.out.2.2.2];rfl)) HE.out.2.1 HE.out.2.2.1 ?_))
   obtain ⟨ws,hws,HS,hbs⟩:=H.laid wr.heap.size rfl (.int .i64 0 :: .int .i64 0 :: .int .i64 0 :: .int .i64 0 :: .int .i64 0 :: .string ⟨#[]⟩ :: .int .i64 0 :: .int .i64 0 :: .int .i64 0 :: .string ⟨#[]⟩ :: .int .i64 0 :: .int .i64 0 :: .int .i64 0 :: .int .i64 0 :: .int .i64 0 :: .int .i64 0 :: .int .i64 0 :: .bool false :: .slice none 0 0 :: .int .i64 0 :: .int .i64 0 :: .int .i64 0 :: .int .i64 0 :: .slice none 0 0 :: .slice none 0 0 :: .slice none 0 0 :: .slice none 0 0 :: .int .i64 0 :: .int .i64 0 :: .int .i64 0 :: .int .i64 0 :: .slice none 0 0 :: .slice none 0 0 :: .slice none 0 0 :: .string ⟨#[]⟩ :: .int .i64 0 :: []).toArray L 51 (by rw [HE.out.2.2.2];rfl)
   rw [hws]
   clear hws H hrg HE
   rw [HV.out] at HS
   clear HV
   have hsx2:=hsx.below hbs
   have hsy2:=hsy.below hbs
   clear hsx hsy
   have H:Mem (W0) [] (ws) [.blk (gl) 42 #[.slice x.At T.tl.length x.ct,.int .i64 ↑T.fx,.int .i64 ↑T.fb,.int .i64 ↑T.db,.int .i64 ↑T.al,.slice x.Ad W.c.length x.cd,.slice x.Ao W.lp.length x.co,.slice x.Ap 3 x.cp,.slice (some ⟨gs,0,none⟩) S.length c1,.slice A2 tk.length c2],.row (W0.heap.size) (51) (36) (.slice (some ⟨gs,0,none⟩) S.length c1) (S.length) (sns T S),.row (W0.heap.size) (74) (12) (.slice A2 tk.length c2) (tk.length) (sds tk),.blk (wr.heap.size) 51 #[.int .i64 ↑k,.int .i64 ↑me,.int .i64 ↑aA,.int .i64 ↑aB,.int .i64 ↑aC,.string sa,.int .i64 ci,.int .i64 ↑E2,.int .i64 ↑ad,.string st,.int .i64 ↑id,.int .i64 ↑te,.int .i64 ↑de,.int .i64 ↑fe,.int .i64 ↑pr,.int .i64 ↑ch,.int .i64 ↑un,.bool dead,.slice xs.At T.tl.length xs.ct,.int .i64 ↑T.fx,.int .i64 ↑T.fb,.int .i64 ↑T.db,.int .i64 ↑T.al,.slice xs.Ad Ws.c.length xs.cd,.slice xs.Ao Ws.lp.length xs.co,.slice xs.Ap 3 xs.cp,.slice ys.At T.tl.length ys.ct,.int .i64 ↑T.fx,.int .i64 ↑T.fb,.int .i64 ↑T.db,.int .i64 ↑T.al,.slice ys.Ad W2.c.length ys.cd,.slice ys.Ao W2.lp.length ys.co,.slice ys.Ap 3 ys.cp,.string key,.int .i64 ↑many]]:=HS
   clear HS
   clear Llf
   have Lsn:=H.c36 3 rfl
   obtain ⟨hdo,hci⟩:=HD.out
   cases cut with
   | some q =>
    obtain rfl:ci = (q:Int):=by rw [← hci];rfl
    clear hdo hci HD hok hsx2 hsy2
    have g2:(q:Int) ≥ 0:=by omega
    have g3:(0:Int) ≤ (q:Int):=by omega
    by_cases hk2:k = 2
    ·subst hk2
     go_wp2_with fail
     go_roundw
     case rel => exact ⟨j + 1,by omega,by go_num,hbr.step hbs⟩
     case measure => simp [intOf];omega
    ·have e2:((k:Int) == 2) = false:=by simp;omega
     have e3:((k:Int) != 2) = true:=by simp;omega
     have e4:¬ (k:Int) = 2:=by omega
     go_wp2_with fail
     go_roundw
     case rel => exact ⟨j + 1,by omega,by go_num,hbr.step hbs⟩
     case measure => simp [intOf];omega
   | none =>
    obtain rfl:ci = -1:=by rw [← hci];rfl
    by_cases hk2:k = 2
    ·subst hk2
     obtain ⟨E,acc,bb,hR⟩:=hok.refd hT (by omega) rfl rfl
     have h33:¬ j < 3:=fun g => by have:=hok.reg.2 g;dsimp only at this;omega
     have hWs:=hok.w
     obtain ⟨tk9,hnx⟩:=hok.nx
     have hU:=hnx.next hT (by omega) hWs
     dsimp only at hWs hU
     rw [hdo] at hU
     dsimp only at hU
     rw [show min 3 j = 3 by omega] at hWs
     rw [show min 3 (j + 1) = 3 by omega] at hU
     have hme2:=hok.a.me
     dsimp only at hme2
     have hac:=hok.a.h2 rfl
     obtain ⟨r1,r2,r3,⟨st2,r4,r5,r6⟩,r7,r8⟩:=hR
     dsimp only at r1 r2 r3 r4 r7 hac
     rw [hdo] at r4 r7
     dsimp only at r4 r7
     injection r4 with q1 q2 q3 q4 q5
     subst q1 q2 q3 q4 q5
     clear hdo hci HD hok hnx
     obtain ⟨acme,acrev,acnext,acmonth,acbought,acfree,acl⟩:=acc
     have hi:me < Ws.B.length:=by have:=hWs.cus;omega
     have hss:=(hWs.srv.bok hT).sold (List.getElem_mem hi)
     rw [show Ws.B[me] = Ws.B.getD me cu0 by simp [hi]] at hss
     have hll:=hWs.ll
     have hC1:=fun U h => customer_top T hT Ws 3 j xs me U hWs (by omega) (by omega) h
     have hC2:=fun U h => customer_top T hT W2 3 (j + 1) ys me U hU (by omega) (by omega) h
     obtain ⟨c0,hc0⟩:∃ c,Ws.B.getD me cu0 = c:=⟨_,rfl⟩
     obtain ⟨c9,hc9⟩:∃ c,W2.B.getD me cu0 = c:=⟨_,rfl⟩
     rw [hc0] at hC1 r1 r2 r3 r7 hss
     rw [hc9] at hC2 r7
     obtain ⟨⟨ame,arev,anext,amonth,abought,afree,al⟩,aso⟩:=c0
     obtain ⟨⟨bme,brev,bnext,bmonth,bbought,bfree,bl⟩,bso⟩:=c9
     unfold RetCus Wv.vs at hC1 hC2
     dsimp only at hC1 hC2 r1 r2 r3 r7 hss
     have hS:=fun Ad cd U h1 h2 => sell_all ame arev anext amonth abought afree Ad al.length cd al xs.At T.tl.length xs.ct T.fx T.fb T.db T.al T.tl aA aB E2 acme acrev acnext acmonth acbought acfree acl id te de fe pr ch un U h1 r2.h2 r2.h1 h2 hT.h1 hT.h2 hac.1 hac.2.1 hac.2.2.1 (by omega) (Lib.hid r1)
     unfold RetDI at hS
     have HR:=Lib.hid (And.intro r5 (And.intro r6 (And.intro r7 r8)))
     clear r1 r2 r3 r5 r6 r7 r8 hc0 hc9 hac hWs hU hi
     go_wp2_with fail
     refine (hC1 _ hsx2).mono ?_
     rintro e wa ⟨Ad,cd,As,cs,rfl,hda,hba⟩
     have hB:=(hbr.step hbs).step hba
     have hsx3:=hsx2.below hba
     have hsy3:=hsy2.below hba
     replace H:=Mem.call H hba
     clear hC1 hsx2 hsy2
     clear Lsn
     have Lsn:=H.c36 3 rfl
     go_wp2_with fail
     replace H:=H.al wa.heap.size #[.int .i64 ↑ame,.int .i64 ↑arev,.int .i64 ↑anext,.int .i64 ↑amonth,.int .i64 ↑abought,.int .i64 afree,.slice Ad al.length cd,.slice As aso.length cs] (67) |>.gen
     simp only [List.cons_append,List.nil_append] at H
     obtain ⟨wb,hwb,H⟩:=H
     rw [hwb]
     have hbb:Below wa.heap.size wa wb:=by rw [← hwb];exact below_a1 wa _
     replace hB:=hB.step hbb
     have hsx4:=hsx3.below hbb
     have hsy4:=hsy3.below hbb
     have hda2:=hda.below hbb
     clear hwb hbb hsx3 hsy3 hda
     refine (hS Ad cd _ hda2 hsx4.terms).mono ?_
     rintro e wc ⟨A5,c5,rfl,ho5,hbc⟩
     replace hB:=hB.step hbc
     have hsy5:=hsy4.below hbc
     replace H:=Mem.call H hbc
     clear hS hsx4 hsy4 hda2 ho5
     clear Lsn
     have Lsn:=H.c36 3 rfl
     have Lcu:=H.c8 4 rfl
     have Nsncu:=H.ne2 3 4 rfl rfl rfl
     go_wp2_with fail
     replace H:=H.al wc.heap.size #[.int .i64 ↑acme,.int .i64 ↑acrev,.int .i64 ↑acnext,.int .i64 ↑acmonth,.int .i64 ↑acbought,.int .i64 acfree,.slice A5 acl.length c5] (64) |>.al (wc.heap.size + 1) #[.int .i64 ↑id,.int .i64 ↑te,.int .i64 ↑de,.int .i64 ↑fe,.int .i64 ↑pr,.int .i64 ↑ch,.int .i64 ↑un] (47) |>.gen
     simp only [List.cons_append,List.nil_append] at H
     obtain ⟨wd,hwd,H⟩:=H
     rw [hwd]
     have hbd:Below wc.heap.size wc wd:=by rw [← hwd];exact below_a2 wc _ _
     replace hB:=hB.step hbd
     have hsy6:=hsy5.below hbd
     clear hwd hbd hsy5
     refine (hC2 _ hsy6).mono ?_
     rintro e we ⟨Ae,ce,Be,dbe,rfl,_,hbe⟩
     replace hB:=hB.step hbe
     replace H:=Mem.call H hbe
     clear hC2 hsy6 hbe
     clear Lsn Lcu Nsncu
     have Lsn:=H.c36 3 rfl
     go_upto_region 10 with fail
     replace H:=H.al we.heap.size #[.int .i64 ↑bme,.int .i64 ↑brev,.int .i64 ↑bnext,.int .i64 ↑bmonth,.int .i64 ↑bbought,.int .i64 bfree,.slice Ae bl.length ce,.slice Be bso.length dbe] (67) |>.gen
     simp only [List.cons_append,List.nil_append] at H
     obtain ⟨wf,hwf,H⟩:=H
     rw [hwf]
     replace hB:Below w1.heap.size w1 wf:=by rw [← hwf];exact hB.step (below_a1 we _)
     clear hwf
     obtain ⟨r5,r6,r7,r8⟩:=HR.out
     clear HR
     clear Lsn
     rcases r8 with r8 | r8
     ·subst r8
      have hst:=r5 rfl
      have hte:=ba_full hst
      obtain ⟨z0,hbn⟩:=r7 rfl
      injection z0 with z1 z2 z3 z4 z5 z6 z7
      have d3:((bso.length:Int) != (aso.length:Int) + 1) = false:=by simp;omega
      have d2:((bso.length:Int) != wrap64 ((aso.length:Int) + 1)) = false:=by
       rw [show wrap64 ((aso.length:Int) + 1) = (aso.length:Int) + 1 by unfold wrap64;omega]
       simp;omega
      subst z3 z5
      clear r5 r6 r7 z1 z2 z4 z6 z7 hst hbn
      have Lsn:=H.c36 3 rfl
      have Lcu:=H.c8 4 rfl
      have La2:=H.c7 5 rfl
      have Lb2:=H.c7 6 rfl
      have Lcu2:=H.c8 7 rfl
      have Nsncu:=H.ne2 3 4 rfl rfl rfl
      have Nsna2:=H.ne2 3 5 rfl rfl rfl
      have Nsnb2:=H.ne2 3 6 rfl rfl rfl
      have Nsncu2:=H.ne2 3 7 rfl rfl rfl
      have Ncua2:=H.ne2 4 5 rfl rfl rfl
      have Ncub2:=H.ne2 4 6 rfl rfl rfl
      have Ncucu2:=H.ne2 4 7 rfl rfl rfl
      have Na2b2:=H.ne2 5 6 rfl rfl rfl
      have Na2cu2:=H.ne2 5 7 rfl rfl rfl
      have Nb2cu2:=H.ne2 6 7 rfl rfl rfl
      go_wp2_with fail
      go_roundw
      case rel => exact ⟨j + 1,by omega,by go_num,hB⟩
      case measure => simp [intOf];omega
     ·have hst:=r6 (by omega)
      have hte:=ba_empty hst
      rcases r8 with r8 | r8
      ·subst r8
       clear r5 r6 r7 hst
       skip
       have Lsn:=H.c36 3 rfl
       have Lcu:=H.c8 4 rfl
       have La2:=H.c7 5 rfl
       have Lb2:=H.c7 6 rfl
       have Lcu2:=H.c8 7 rfl
       have Nsncu:=H.ne2 3 4 rfl rfl rfl
       have Nsna2:=H.ne2 3 5 rfl rfl rfl
       have Nsnb2:=H.ne2 3 6 rfl rfl rfl
       have Nsncu2:=H.ne2 3 7 rfl rfl rfl
       have Ncua2:=H.ne2 4 5 rfl rfl rfl
       have Ncub2:=H.ne2 4 6 rfl rfl rfl
       have Ncucu2:=H.ne2 4 7 rfl rfl rfl
       have Na2b2:=H.ne2 5 6 rfl rfl rfl
       have Na2cu2:=H.ne2 5 7 rfl rfl rfl
       have Nb2cu2:=H.ne2 6 7 rfl rfl rfl
       go_wp2_with fail
       go_roundw
       case rel => exact ⟨j + 1,by omega,by go_num,hB⟩
       case measure => simp [intOf];omega
      ·subst r8
       clear r5 r6 r7 hst
       skip
       have Lsn:=H.c36 3 rfl
       have Lcu:=H.c8 4 rfl
       have La2:=H.c7 5 rfl
       have Lb2:=H.c7 6 rfl
       have Lcu2:=H.c8 7 rfl
       have Nsncu:=H.ne2 3 4 rfl rfl rfl
       have Nsna2:=H.ne2 3 5 rfl rfl rfl
       have Nsnb2:=H.ne2 3 6 rfl rfl rfl
       have Nsncu2:=H.ne2 3 7 rfl rfl rfl
       have Ncua2:=H.ne2 4 5 rfl rfl rfl
       have Ncub2:=H.ne2 4 6 rfl rfl rfl
       have Ncucu2:=H.ne2 4 7 rfl rfl rfl
       have Na2b2:=H.ne2 5 6 rfl rfl rfl
       have Na2cu2:=H.ne2 5 7 rfl rfl rfl
       have Nb2cu2:=H.ne2 6 7 rfl rfl rfl
       go_wp2_with fail
       go_roundw
       case rel => exact ⟨j + 1,by omega,by go_num,hB⟩
       case measure => simp [intOf];omega
    ·have e2:((k:Int) == 2) = false:=by simp;omega
     have e3:((k:Int) != 2) = true:=by simp;omega
     have e4:¬ (k:Int) = 2:=by omega
     clear hdo hci HD hok hsx2 hsy2
     go_wp2_with fail
     go_roundw
     case rel => exact ⟨j + 1,by omega,by go_num,hbr.step hbs⟩
     case measure => simp [intOf];omega
  ·skip
   have g1:¬ (j:Int) < (S.length:Int):=by omega
   go_wp2_with fail
   go_ret
   exact ⟨rfl,hbw⟩
end Go.Proofs.YtfgiehkfcoodbaaGreat

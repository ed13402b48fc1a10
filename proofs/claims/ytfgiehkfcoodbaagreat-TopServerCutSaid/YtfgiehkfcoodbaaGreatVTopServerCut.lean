import Derived.Test.YtfgiehkfcoodbaaGreatM0
import Derived.Test.YtfgiehkfcoodbaaGreatM50
import Derived.Test.YtfgiehkfcoodbaaGreatMxSame
import Derived.Test.YtfgiehkfcoodbaaGreatM48
import Derived.Test.YtfgiehkfcoodbaaGreatM28
import Derived.Test.YtfgiehkfcoodbaaGreatM17
namespace Go.Proofs.YtfgiehkfcoodbaaGreat
open Go.RowKit
set_option linter.unusedVariables false
set_option maxRecDepth 100000
set_option maxHeartbeats 16000000
theorem walk_topServerCut (w:World) (a0:Value) (w0:Fit Tryz.prog w 24 a0) (a1:Value) (w1:Fit Tryz.prog w 25 a1) :
 Calls Tryz.prog 3 #[a0,a1] w fun e w' => e=.returned (.bool true)∧Below w.heap.size w w':=by
 obtain ⟨A,n,m,g,a,b,c,d,rfl,wa,wb,wc,wd,hv⟩:=deal_fit w0
 obtain ⟨l,hd⟩:=deeds_fit w1
 obtain ⟨Av,cv,rfl⟩:∃ Av cv,a1=.slice Av l.length cv:=by obtain ⟨A,c,e,_⟩:=hd;exact ⟨A,c,e⟩
 have hL:=fun U h1 h2 => lived_ok true 25 A n m g a b c d Av cv l U wa wb wc wd h1 h2 (by omega)
 clear w0 w1 wa wb wc wd
 unfold RetLived at hL
 have H:=Mem.init w
 replace H:=H.al w.heap.size #[.slice A n m,a,b,c,d] (24) |>.gen
 simp only [List.nil_append] at H
 obtain ⟨W0,hW0,H⟩:=H
 have hv0:=hv.below H.below
 have hd0:=hd.below H.below
 have hb0:=H.below
 have Ldl:=H.c5 0 rfl
 go_enter Tryz.func3,Tryz.ntmps3
 go_wp2_with fail
 clear hW0 hv hd
 refine (hL _ hv0 hd0).mono ?_
 rintro e w1 ⟨T,S,tk,W,gl,hT,rfl,hSl,hLf⟩
 have hS60:3≤S.length∧S.length≤28:=by omega
 have hb1:=hb0.step hLf.bel
 clear hL hv0 hd0 hSl H
 clear Ldl
 have h8:=hT.h1.len
 go_wp2_with fail
 go_loopw [7] (fun i wr => ∃ j:Nat,j≤S.length∧i=.int .i64 ↑j∧Below w1.heap.size w1 wr) (fun i _ => S.length - (intOf i).toNat)
 case atStart => exact ⟨0,by omega,rfl,Below.refl _ _⟩
 case round =>
  obtain ⟨j,hj,rfl,hbr⟩:=hrel
  have hbw:=hb1.step hbr
  obtain ⟨x,A1,c1,A2,c2,hLv,hxw,hsn,HM⟩:=hLf.below hbr
  unfold lifeL at HM
  have H:Mem (W0) [] (wr) [.blk (gl) 42 #[.slice x.At T.tl.length x.ct,T.fx,T.fb,T.db,T.al,.slice x.Ad W.c.length x.cd,.slice x.Ao W.lp.length x.co,.slice x.Ap 3 x.cp,.slice A1 S.length c1,.slice A2 tk.length c2],.row (W0.heap.size) (51) (36) (.slice A1 S.length c1) (S.length) (sns T S),.row (W0.heap.size) (74) (12) (.slice A2 tk.length c2) (tk.length) (sds tk)]:=HM
  clear HM
  have Llf:=H.c10 0 rfl
  by_cases hlt:j < S.length
  ·have g1:(j:Int) < (S.length:Int):=by omega
   have hok:=(hLv.ok hT (by omega)).2 j hlt
   have hsw:=hsn S[j] (List.getElem_mem hlt)
   obtain ⟨gs,rfl⟩:=own_at (H.own_ 1 rfl) (by omega)
   obtain ⟨s,hs⟩:∃ s,S[j]=s:=⟨_,rfl⟩
   rw [hs] at hok hsw
   obtain ⟨⟨k,me,aA,aB,aC,sa,cut⟩,Ws,xs,ys,key,many⟩:=s
   obtain ⟨D,hdo⟩:∃ D,doP T Ws ⟨k,me,aA,aB,aC,sa,cut⟩=D:=⟨_,rfl⟩
   obtain ⟨W2,⟨E2,ad,st,⟨id,te,de,fe,pr,ch,un⟩,dead⟩⟩:=D
   obtain ⟨ci,hci⟩:∃ ci,cutI cut=ci:=⟨_,rfl⟩
   have hvs:S[j].vs T=(k::me::aA::aB::aC::.string sa::.int .i64 ci::E2::ad::.string st::id::te::de::fe::pr::ch::un::.bool dead::.slice xs.At T.tl.length xs.ct::T.fx::T.fb::T.db::T.al::.slice xs.Ad Ws.c.length xs.cd::.slice xs.Ao Ws.lp.length xs.co::.slice xs.Ap 3 xs.cp::.slice ys.At T.tl.length ys.ct::T.fx::T.fb::T.db::T.al::.slice ys.Ad W2.c.length ys.cd::.slice ys.Ao W2.lp.length ys.co::.slice ys.Ap 3 ys.cp::.string key::many::[] : List Value):=by rw [hs];unfold Sn.vs Ac.vs;dsimp only;rw [hdo,hci];rfl
   obtain ⟨L,hL⟩:∃ L,S[j].vs T=L:=⟨_,rfl⟩
   have hrg:=sn_range (own_mono (H.own_ 1 rfl) (Nat.zero_le _)) rfl j hlt hL
   rw [hL] at hvs
   clear hL
   have hll:L.length=36:=by rw [hvs];rfl
   have hsz:(Tryz.prog.info? 51).map (·.size)=some L.length:=by rw [hll];exact sn_size
   have hsz2:(Tryz.prog.info? 51).map (·.size)=some L.toArray.size:=hsz
   have hon:L.toArray.all (·.oneCell')=true:=by rw [hvs];simp [Value.oneCell']
   have HV:=Lib.hid hvs
   clear hvs
   dsimp only at hsw
   rw [hdo] at hsw
   obtain ⟨hsx,hsy⟩:=hsw
   have HD:=Lib.hid (And.intro hdo hci)
   clear hdo hci hs hsn hLv hxw
   have HE:=Lib.hid (And.intro hsz (And.intro hsz2 (And.intro hon hll)))
   clear hsz hsz2 hon hll
   go_upto_region 6 with (first | (refine wpList_load_mid rfl 51 _ rfl gs (j * 36) (by rfl) L _ hrg Tryz.underlying51 rfl HE.out.1 ?_) | (refine wpList_store_mid rfl 51 _ _ rfl wr.heap.size 0 L.toArray (by rfl) (by rfl) (fresh_there _ _ _ _ (by rw [List.size_toArray,HE.out.2.2.2];rfl)) HE.out.2.1 HE.out.2.2.1 ?_))
   obtain ⟨ws,hws,HS,hbs⟩:=H.laid wr.heap.size rfl (List.toArray (()::()::()::()::()::.string ⟨#[]⟩::()::()::()::.string ⟨#[]⟩::()::()::()::()::()::()::()::.bool false::.slice none 0 0::()::()::()::()::.slice none 0 0::.slice none 0 0::.slice none 0 0::.slice none 0 0::()::()::()::()::.slice none 0 0::.slice none 0 0::.slice none 0 0::.string ⟨#[]⟩::()::[])) L 51 (by rw [HE.out.2.2.2];rfl)
   rw [hws]
   clear hws H hrg HE
   rw [HV.out] at HS
   clear HV
   have hsx2:=hsx.below hbs
   have hsy2:=hsy.below hbs
   clear hsx hsy
   have H:=HS
   clear HS
   clear Llf
   have Lsn:=H.c36 3 rfl
   obtain ⟨hdo,hci⟩:=HD.out
   by_cases hk5:k≤5
   ·have e5:¬ (k:Int) > 5:=by omega
    have e6:¬ (5:Int) < (k:Int):=by omega
    have hsv:=hok.svc hT (by omega) hk5
    obtain ⟨r13,r21,hB1,hB2,hB3⟩:=hsv.books
    obtain ⟨v1,v2,v3,_,_⟩:=hsv
    have hWs:=hok.w
    obtain ⟨tk9,hnx⟩:=hok.nx
    have hU:=hnx.next hT (by omega) hWs
    unfold Ac.whole at v1 v2 v3 hB1 hB3
    dsimp only at hWs hU v1 v2 v3 hB1 hB2 hB3
    rw [hdo] at hU hB2 hB3
    have hD:=fun U h => do_ok T hT Ws (min 3 j) j xs ⟨k,me,aA,aB,aC,sa,none⟩ U hWs v1 (by omega) v2 h h8
    unfold RetDo at hD
    obtain ⟨D9,hd9⟩:∃ D,doP T Ws ⟨k,me,aA,aB,aC,sa,none⟩=D:=⟨_,rfl⟩
    rw [hd9] at hD v3 hB1 hB3
    obtain ⟨W9,⟨E9,ad9,st9,⟨zid,zte,zde,zfe,zpr,zch,zun⟩,dead9⟩⟩:=D9
    dsimp only at hU v3 hB1 hB2 hB3
    have hL1:=fun U h1 h2 => load_ok T hT xs.At T.tl.length xs.ct (.slice xs.Ad Ws.c.length xs.cd) Ws.c Ws.L Ws.B U h1 h2 hWs.srv
    have hL2:=fun U h1 h2 => load_ok T hT ys.At T.tl.length ys.ct (.slice ys.Ad W2.c.length ys.cd) W2.c W2.L W2.B U h1 h2 hU.srv
    have hL3:=fun (y:Wv) U h1 h2 => load_ok T hT y.At T.tl.length y.ct (.slice y.Ad W9.c.length y.cd) W9.c W9.L W9.B U h1 h2 v3.srv
    have hq1:=hWs.cus
    have hq2:=hU.cus
    have hcc:(r21=false∨ci < 0)→W2.B=W9.B:=by
     intro q
     refine hB3 ?_
     rcases q with q | q
     ·exact .inl q
     ·cases cut with
      | none => exact .inr rfl
      | some z => rw [← hci] at q;exact absurd (show (z:Int) < 0 from q) (by omega)
    have HB:=Lib.hid (And.intro hB1 (And.intro hB2 (And.intro hcc (And.intro hq1 hq2))))
    simp only [Wv.vs,Td.vs,Ac.vs,cutI] at hD
    clear hcc hB1 hB2 hB3 v1 v2 hdo hci HD hok hnx hd9 hq1 hq2
    go_wp2_with fail
    replace H:=H.al ws.heap.size #[k,me,aA,aB,aC,.string sa,.int .i64 (-1)] (44) |>.gen
    simp only [List.cons_append,List.nil_append] at H
    obtain ⟨wa,hwa,H⟩:=H
    rw [hwa]
    have hB:=(hbr.step hbs).step (show Below ws.heap.size ws wa by rw [← hwa];exact below_a1 ws _)
    replace hsx2:=hsx2.below (show Below ws.heap.size ws wa by rw [← hwa];exact below_a1 ws _)
    replace hsy2:=hsy2.below (show Below ws.heap.size ws wa by rw [← hwa];exact below_a1 ws _)
    clear hwa
    refine (hD _ hsx2).mono ?_
    rintro e wb ⟨y,rfl,hy,hbe⟩
    replace hB:=hB.step hbe
    replace hsx2:=hsx2.below hbe
    replace hsy2:=hsy2.below hbe
    replace H:=Mem.call H hbe
    clear hD hbe
    clear Lsn
    have Lsn:=H.c36 3 rfl
    go_wp2_with fail
    replace H:=H.al wb.heap.size #[.slice y.At T.tl.length y.ct,T.fx,T.fb,T.db,T.al,.slice y.Ad W9.c.length y.cd,.slice y.Ao W9.lp.length y.co,.slice y.Ap 3 y.cp] (38) |>.al (wb.heap.size+1) #[E9,ad9,.string st9,zid,zte,zde,zfe,zpr,zch,zun,.bool dead9] (49) |>.gen
    simp only [List.cons_append,List.nil_append] at H
    obtain ⟨wc,hwc,H⟩:=H
    rw [hwc]
    have hbc:Below wb.heap.size wb wc:=by rw [← hwc];exact below_a2 wb _ _
    replace hB:=hB.step hbc
    replace hsx2:=hsx2.below hbc
    replace hsy2:=hsy2.below hbc
    replace hy:=hy.below hbc
    clear hbc hwc
    refine (hL1 _ hsx2.terms (hsx2.disk hWs)).mono ?_
    rintro e wd ⟨v,rfl,hk1,hb⟩
    obtain ⟨Ab1,nb1,cb1,rfl⟩:=hk1.slice
    replace hk1:=hk1.is
    replace hB:=hB.step hb
    replace hsy2:=hsy2.below hb
    replace hy:=hy.below hb
    replace H:=Mem.call H hb
    clear hb
    clear Lsn
    have Lsn:=H.c36 3 rfl
    go_wp2_with fail
    replace H:=H.al wd.heap.size #[.slice Ab1 nb1 cb1] (56) |>.gen
    simp only [List.cons_append,List.nil_append] at H
    obtain ⟨we,hwe,H⟩:=H
    rw [hwe]
    have hb:Below wd.heap.size wd we:=by rw [← hwe];exact below_a1 wd _
    replace hB:=hB.step hb
    replace hsy2:=hsy2.below hb
    replace hy:=hy.below hb
    replace hk1:=hk1.below hb
    clear hb hwe
    clear hL1 hsx2 hWs
    refine (hL2 _ hsy2.terms (hsy2.disk hU)).mono ?_
    rintro e wf ⟨v,rfl,hk2,hb⟩
    obtain ⟨Ab2,nb2,cb2,rfl⟩:=hk2.slice
    replace hk2:=hk2.is
    replace hB:=hB.step hb
    replace hk1:=hk1.below hb
    replace hy:=hy.below hb
    replace H:=Mem.call H hb
    clear hb
    clear Lsn
    have Lnw:=H.c8 5 rfl
    go_wp2_with fail
    replace H:=H.al wf.heap.size #[.slice Ab2 nb2 cb2] (56) |>.gen
    simp only [List.cons_append,List.nil_append] at H
    obtain ⟨wg,hwg,H⟩:=H
    rw [hwg]
    have hb:Below wf.heap.size wf wg:=by rw [← hwg];exact below_a1 wf _
    replace hB:=hB.step hb
    replace hk1:=hk1.below hb
    replace hy:=hy.below hb
    replace hk2:=hk2.below hb
    clear hb hwg
    clear hL2 hsy2 hU
    refine (hL3 y _ hy.terms (hy.disk v3)).mono ?_
    rintro e wh2 ⟨v,rfl,hk3,hb⟩
    obtain ⟨Ab3,nb3,cb3,rfl⟩:=hk3.slice
    replace hk3:=hk3.is
    replace hB:=hB.step hb
    replace hk1:=hk1.below hb
    replace hk2:=hk2.below hb
    replace H:=Mem.call H hb
    clear hb
    clear Lnw
    go_wp2_with fail
    replace H:=H.al wh2.heap.size #[.slice Ab3 nb3 cb3] (56) |>.gen
    simp only [List.cons_append,List.nil_append] at H
    obtain ⟨wi,hwi,H⟩:=H
    rw [hwi]
    have hb:Below wh2.heap.size wh2 wi:=by rw [← hwi];exact below_a1 wh2 _
    replace hB:=hB.step hb
    replace hk1:=hk1.below hb
    replace hk2:=hk2.below hb
    replace hk3:=hk3.below hb
    clear hb hwi hL3 hy v3
    obtain ⟨hB1,hB2,hB3,hq1,hq2⟩:=HB.out
    have hn1:nb1≤1000:=by have:=hk1.len;omega
    have hn2:nb2≤1000:=by have:=hk2.len;omega
    clear hq1 hq2
    have he:((E9:Int) != 0)=r13:=by
     rcases hB1 with ⟨e1,e2,_⟩ | ⟨e1,e2,_⟩
     ·rw [e2];simp;omega
     ·rw [e2,e1];rfl
    have hr13:(r13=true∧Ws.B=W9.B)∨(r13=false∧Differ Ws.B W9.B):=by
     rcases hB1 with ⟨_,e2,e3⟩ | ⟨_,e2,e3⟩
     ·exact .inl ⟨e2,e3⟩
     ·exact .inr ⟨e2,e3⟩
    have B0:Below wi.heap.size wi wi.drew:=below_draws (Below.refl _ _) 1
    have t1:=sameK_ok Ab1 nb1 cb1 Ab3 nb3 cb3 Ws.B W9.B r13 _ (hk1.below B0) (hk3.below B0) (by omega) hr13
    clear hr13 hB1
    obtain ⟨bk1lt,bk10,-⟩:=H.c1 7 rfl
    obtain ⟨bk3lt,bk30,-⟩:=H.c1 9 rfl
    obtain ⟨tnlt,tn0,-,tn1,-,tn2,-,tn3,-,tn4,-,tn5,-,tn6,-,tn7,-,tn8,-,tn9,-,tn10,-⟩:=H.c11 6 rfl
    have Nbk1bk3:=H.ne2 7 9 rfl rfl rfl
    have Nbk1tn:=H.ne2 7 6 rfl rfl rfl
    have Nbk3tn:=H.ne2 9 6 rfl rfl rfl
    go_region_held3 (fun w' => w'.cell? ⟨wd.heap.size,0,none⟩=some (.slice Ab1 nb1 cb1)∧w'.cell? ⟨wh2.heap.size,0,none⟩=some (.slice Ab3 nb3 cb3)∧w'.cell? ⟨wb.heap.size+1,0,none⟩=some (.int .i64 ↑E9))
     (first | with_reducible exact ⟨s0,s1,s2⟩ | go_keep | fail)
     (first | (go_at_call 17;(with_reducible refine t1.mono ?_);rintro e wj ⟨rfl,hbj⟩;have hWe:=B0.trans (hbj.mono B0.size);have s0:=(hWe.cell (p:=⟨wd.heap.size,0,none⟩) bk1lt).trans bk10;have s1:=(hWe.cell (p:=⟨wh2.heap.size,0,none⟩) bk3lt).trans bk30;have s2:=(hWe.cell (p:=⟨wb.heap.size+1,0,none⟩) tnlt).trans tn0) | fail)
    clear s0 s1 s2
    replace hB:=hB.step hWe
    replace hk1:=hk1.below hWe
    replace hk2:=hk2.below hWe
    replace hk3:=hk3.below hWe
    clear t1 B0 hWe
    replace H:=Mem.call (Mem.drew H) hbj
    clear hbj
    clear bk1lt bk10 bk3lt bk30 tnlt tn0 tn1 tn2 tn3 tn4 tn5 tn6 tn7 tn8 tn9 tn10 Nbk1bk3 Nbk1tn Nbk3tn
    have Lsn:=H.c36 3 rfl
    have Lbk1:=H.c1 7 rfl
    have Lbk2:=H.c1 8 rfl
    have Lbk3:=H.c1 9 rfl
    have Nsnbk1:=H.ne2 3 7 rfl rfl rfl
    have Nsnbk2:=H.ne2 3 8 rfl rfl rfl
    have Nsnbk3:=H.ne2 3 9 rfl rfl rfl
    have Nbk1bk2:=H.ne2 7 8 rfl rfl rfl
    have Nbk1bk3:=H.ne2 7 9 rfl rfl rfl
    have Nbk2bk3:=H.ne2 8 9 rfl rfl rfl
    go_wp2_with fail
    refine (sameK_ok Ab2 nb2 cb2 Ab1 nb1 cb1 W2.B Ws.B r21 _ hk2 hk1 (by omega) hB2).mono ?_
    rintro e wk ⟨rfl,hb⟩
    replace hB:=hB.step hb
    replace hk2:=hk2.below hb
    replace hk3:=hk3.below hb
    replace H:=Mem.call H hb
    clear hb hk1
    clear Lsn Lbk1 Lbk2 Lbk3 Nsnbk1 Nsnbk2 Nsnbk3 Nbk1bk2 Nbk1bk3 Nbk2bk3
    have Lsn:=H.c36 3 rfl
    have Lbk2:=H.c1 8 rfl
    have Lbk3:=H.c1 9 rfl
    have Nsnbk2:=H.ne2 3 8 rfl rfl rfl
    have Nsnbk3:=H.ne2 3 9 rfl rfl rfl
    have Nbk2bk3:=H.ne2 8 9 rfl rfl rfl
    clear hB2 he
    cases r21 with
    | true =>
     by_cases hci:ci < 0
     ·go_wp2_with fail
      refine (sameK_ok Ab2 nb2 cb2 Ab3 nb3 cb3 W2.B W9.B true _ hk2 hk3 (by omega) (.inl ⟨rfl,hB3 (.inr hci)⟩)).mono ?_
      rintro e wl ⟨rfl,hb⟩
      replace hB:=hB.step hb
      replace hk2:=hk2.below hb
      replace hk3:=hk3.below hb
      replace H:=Mem.call H hb
      clear hb
      clear Lsn Lbk2 Lbk3 Nsnbk2 Nsnbk3 Nbk2bk3
      have Lsn:=H.c36 3 rfl
      have Lbk2:=H.c1 8 rfl
      have Lbk3:=H.c1 9 rfl
      have Nsnbk2:=H.ne2 3 8 rfl rfl rfl
      have Nsnbk3:=H.ne2 3 9 rfl rfl rfl
      have Nbk2bk3:=H.ne2 8 9 rfl rfl rfl
      go_wp2_with fail
      go_roundw
      case rel => exact ⟨j+1,by omega,by go_num,hB⟩
      case measure => simp [intOf];omega
     ·skip
      go_wp2_with fail
      go_roundw
      case rel => exact ⟨j+1,by omega,by go_num,hB⟩
      case measure => simp [intOf];omega
    | false =>
     skip
     go_wp2_with fail
     refine (sameK_ok Ab2 nb2 cb2 Ab3 nb3 cb3 W2.B W9.B true _ hk2 hk3 (by omega) (.inl ⟨rfl,hB3 (by simp)⟩)).mono ?_
     rintro e wl ⟨rfl,hb⟩
     replace hB:=hB.step hb
     replace hk2:=hk2.below hb
     replace hk3:=hk3.below hb
     replace H:=Mem.call H hb
     clear hb
     clear Lsn Lbk2 Lbk3 Nsnbk2 Nsnbk3 Nbk2bk3
     have Lsn:=H.c36 3 rfl
     have Lbk2:=H.c1 8 rfl
     have Lbk3:=H.c1 9 rfl
     have Nsnbk2:=H.ne2 3 8 rfl rfl rfl
     have Nsnbk3:=H.ne2 3 9 rfl rfl rfl
     have Nbk2bk3:=H.ne2 8 9 rfl rfl rfl
     by_cases hci:ci < 0
     ·go_wp2_with fail
      refine (sameK_ok Ab2 nb2 cb2 Ab3 nb3 cb3 W2.B W9.B true _ hk2 hk3 (by omega) (.inl ⟨rfl,hB3 (by simp)⟩)).mono ?_
      rintro e wm ⟨rfl,hb⟩
      replace hB:=hB.step hb
      replace hk2:=hk2.below hb
      replace hk3:=hk3.below hb
      replace H:=Mem.call H hb
      clear hb
      clear Lsn Lbk2 Lbk3 Nsnbk2 Nsnbk3 Nbk2bk3
      have Lsn:=H.c36 3 rfl
      have Lbk2:=H.c1 8 rfl
      have Lbk3:=H.c1 9 rfl
      have Nsnbk2:=H.ne2 3 8 rfl rfl rfl
      have Nsnbk3:=H.ne2 3 9 rfl rfl rfl
      have Nbk2bk3:=H.ne2 8 9 rfl rfl rfl
      go_wp2_with fail
      go_roundw
      case rel => exact ⟨j+1,by omega,by go_num,hB⟩
      case measure => simp [intOf];omega
     ·skip
      go_wp2_with fail
      go_roundw
      case rel => exact ⟨j+1,by omega,by go_num,hB⟩
      case measure => simp [intOf];omega
   ·have e5:(k:Int) > 5:=by omega
    have e6:(5:Int) < (k:Int):=by omega
    clear hdo hci HD hok hsx2 hsy2
    go_wp2_with fail
    go_roundw
    case rel => exact ⟨j+1,by omega,by go_num,hbr.step hbs⟩
    case measure => simp [intOf];omega
  ·skip
   have g1:¬ (j:Int) < (S.length:Int):=by omega
   go_wp2_with fail
   go_ret
   exact ⟨rfl,hbw⟩
end Go.Proofs.YtfgiehkfcoodbaaGreat

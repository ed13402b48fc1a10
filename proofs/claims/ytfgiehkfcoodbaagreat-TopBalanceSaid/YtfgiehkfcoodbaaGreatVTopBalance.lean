/- TopBalance: a meter's credit is what was added less what was burned. -/
import Derived.Test.YtfgiehkfcoodbaaGreatM50
import Derived.Test.YtfgiehkfcoodbaaGreatMxBal
import Derived.Test.YtfgiehkfcoodbaaGreatM17
namespace Go.Proofs.YtfgiehkfcoodbaaGreat
open Go.RowKit
set_option linter.unusedVariables false
set_option maxRecDepth 100000
set_option maxHeartbeats 16000000
theorem walk_topBalance (w:World) (a0:Value) (w0:Fit Tryz.prog w 24 a0) (a1:Value) (w1:Fit Tryz.prog w 25 a1) :
 Calls Tryz.prog 10 #[a0,a1] w fun e w' => e = .returned (.bool true) ∧ Below w.heap.size w w':=by
 obtain ⟨A,n,m,g,a,b,c,d,rfl,wa,wb,wc,wd,hv⟩:=deal_fit w0
 obtain ⟨l,hd⟩:=deeds_fit w1
 obtain ⟨Av,cv,rfl⟩:∃ Av cv,a1 = .slice Av l.length cv:=by obtain ⟨A,c,e,_⟩:=hd;exact ⟨A,c,e⟩
 have hL:=fun U h1 h2 => lived_ok false 40 A n m g a b c d Av cv l U wa wb wc wd h1 h2 (by omega)
 clear w0 w1 wa wb wc wd
 unfold RetLived at hL
 have H:=Mem.init w
 replace H:=H.al w.heap.size #[.slice A n m,.int .i64 a,.int .i64 b,.int .i64 c,.int .i64 d] (24) |>.gen
 simp only [List.nil_append] at H
 obtain ⟨W0,hW0,H⟩:=H
 have hv0:=hv.below H.below
 have hd0:=hd.below H.below
 have hb0:=H.below
 have Ldl:=H.c5 0 rfl
 go_enter Tryz.func10,Tryz.ntmps10
 go_wp2_with fail
 clear hW0 hv hd
 refine (hL _ hv0 hd0).mono ?_
 rintro e w1 ⟨T,S,tk,W,gl,hT,rfl,hSl,hLf⟩
 have hS60:3 ≤ S.length ∧ S.length ≤ 43:=by omega
 have hb1:=hb0.step hLf.bel
 clear hL hv0 hd0 hSl H
 clear Ldl
 go_wp2_with fail
 obtain ⟨_,_,_,_,_,hLv0,_,_,_⟩:=hLf.below (Below.refl _ _)
 have hbal:=fun mm hm => hLv0.bal hT (by omega) (mm:=mm) hm
 have hW9:=(hLv0.ok hT (by omega)).1
 rw [show min 3 S.length = 3 by omega] at hW9
 clear hLv0
 go_loopw [7] (fun i wr => ∃ mm:Nat,mm ≤ 3 ∧ i = .int .i64 ↑mm ∧ Below w1.heap.size w1 wr) (fun i _ => 3 - (intOf i).toNat)
 case atStart => exact ⟨0,by omega,rfl,Below.refl _ _⟩
 case round =>
  obtain ⟨mm,hmm,rfl,hbo⟩:=hrel
  obtain ⟨wo,hwo⟩:∃ wo,wo = wr:=⟨_,rfl⟩
  subst hwo
  by_cases hm3:mm < 3
  ·have gm:(mm:Int) < 3:=by omega
   obtain ⟨q0,q1,q2⟩:=hbal mm (by omega)
   go_wp2_with fail
   go_loopw [8,9] (fun sm i wr => ∃ (j cc:Nat),j ≤ S.length ∧ i = .int .i64 ↑j ∧ sm = .int .i64 ↑cc ∧ Hid ((wAt S W j).cr mm = cc) ∧ Below w1.heap.size w1 wr) (fun _ i _ => S.length - (intOf i).toNat)
   case atStart => exact ⟨0,0,by omega,rfl,rfl,Lib.hid q0,hbo⟩
   case round =>
    clear hbo
    obtain ⟨j,cc,hj,rfl,rfl,hcc,hbr⟩:=hrel
    have hbw:=hb1.step hbr
    obtain ⟨x,A1,c1,A2,c2,hLv,hxw,hsn,HM⟩:=hLf.below hbr
    unfold lifeL at HM
    have H:Mem (W0) [] (wr) [.blk (gl) 42 #[.slice x.At T.tl.length x.ct,.int .i64 ↑T.fx,.int .i64 ↑T.fb,.int .i64 ↑T.db,.int .i64 ↑T.al,.slice x.Ad W.c.length x.cd,.slice x.Ao W.lp.length x.co,.slice x.Ap 3 x.cp,.slice A1 S.length c1,.slice A2 tk.length c2],.row (W0.heap.size) (51) (36) (.slice A1 S.length c1) (S.length) (sns T S),.row (W0.heap.size) (74) (12) (.slice A2 tk.length c2) (tk.length) (sds tk)]:=HM
    clear HM
    have Llf:=H.c10 0 rfl
    by_cases hlt:j < S.length
    ·have g1:(j:Int) < (S.length:Int):=by omega
     have hbs2:=q1 j hlt
     have hok:=(hLv.ok hT (by omega)).2 j hlt
     have hsw:=hsn S[j] (List.getElem_mem hlt)
     obtain ⟨gs,rfl⟩:=own_at (H.own_ 1 rfl) (by omega)
     obtain ⟨s,hs⟩:∃ s,S[j] = s:=⟨_,rfl⟩
     rw [hs] at hok hsw hbs2
     obtain ⟨⟨k,me,aA,aB,aC,sa,cut⟩,Ws,xs,ys,key,many⟩:=s
     obtain ⟨D,hdo⟩:∃ D,doP T Ws ⟨k,me,aA,aB,aC,sa,cut⟩ = D:=⟨_,rfl⟩
     obtain ⟨W2,⟨E2,ad,st,⟨id,te,de,fe,pr,ch,un⟩,dead⟩⟩:=D
     obtain ⟨ci,hci⟩:∃ ci,cutI cut = ci:=⟨_,rfl⟩
     have hvs:S[j].vs T = (.int .i64 ↑k :: .int .i64 ↑me :: .int .i64 ↑aA :: .int .i64 ↑aB :: .int .i64 ↑aC :: .string sa :: .int .i64 ci :: .int .i64 ↑E2 :: .int .i64 ↑ad :: .string st :: .int .i64 ↑id :: .int .i64 ↑te :: .int .i64 ↑de :: .int .i64 ↑fe :: .int .i64 ↑pr :: .int .i64 ↑ch :: .int .i64 ↑un :: .bool dead :: .slice xs.At T.tl.length xs.ct :: .int .i64 ↑T.fx :: .int .i64 ↑T.fb :: .int .i64 ↑T.db :: .int .i64 ↑T.al :: .slice xs.Ad Ws.c.length xs.cd :: .slice xs.Ao Ws.lp.length xs.co :: .slice xs.Ap 3 xs.cp :: .slice ys.At T.tl.length ys.ct :: .int .i64 ↑T.fx :: .int .i64 ↑T.fb :: .int .i64 ↑T.db :: .int .i64 ↑T.al :: .slice ys.Ad W2.c.length ys.cd :: .slice ys.Ao W2.lp.length ys.co :: .slice ys.Ap 3 ys.cp :: .string key :: .int .i64 ↑many :: []):=by rw [hs];unfold Sn.vs Ac.vs;dsimp only;rw [hdo,hci];rfl
     obtain ⟨L,hL⟩:∃ L,S[j].vs T = L:=⟨_,rfl⟩
     have hrg:=sn_range (own_mono (H.own_ 1 rfl) (Nat.zero_le _)) rfl j hlt hL
     rw [hL] at hvs
     clear hL
     have hll:L.length = 36:=by rw [hvs];rfl
     have hsz:(Tryz.prog.info? 51).map (·.size) = some L.length:=by rw [hll];exact sn_size
     have hsz2:(Tryz.prog.info? 51).map (·.size) = some L.toArray.size:=hsz
     have hon:L.toArray.all (·.oneCell') = true:=all_oneCell_toArray (by rw [hvs];intro v hv;simp only [List.mem_cons,List.not_mem_nil,or_false] at hv;rcases hv with rfl | rfl | rfl | rfl | rfl | rfl | rfl | rfl | rfl | rfl | rfl | rfl | rfl | rfl | rfl | rfl | rfl | rfl | rfl | rfl | rfl | rfl | rfl | rfl | rfl | rfl | rfl | rfl | rfl | rfl | rfl | rfl | rfl | rfl | rfl | rfl <;> rfl)
     have HV:=Lib.hid hvs
     clear hvs
     dsimp only at hsw
     rw [hdo] at hsw
     obtain ⟨hsx,hsy⟩:=hsw
     have HD:=Lib.hid (And.intro hdo hci)
     clear hdo hci hs hsn hLv hxw
     have HE:=Lib.hid (And.intro hsz (And.intro hsz2 (And.intro hon hll)))
     clear hsz hsz2 hon hll
     go_upto_region 12 with (first | (refine wpList_load_mid rfl 51 _ rfl gs (j * 36) (by rfl) L _ hrg Tryz.underlying51 rfl HE.out.1 ?_) | (refine wpList_store_mid rfl 51 _ _ rfl wr.heap.size 0 L.toArray (by rfl) (by rfl) (fresh_there _ _ _ _ (by rw [List.size_toArray,HE.out.2.2.2];rfl)) HE.out.2.1 HE.out.2.2.1 ?_))
     obtain ⟨ws,hws,HS,hbs⟩:=H.laid wr.heap.size rfl (.int .i64 0 :: .int .i64 0 :: .int .i64 0 :: .int .i64 0 :: .int .i64 0 :: .string ⟨#[]⟩ :: .int .i64 0 :: .int .i64 0 :: .int .i64 0 :: .string ⟨#[]⟩ :: .int .i64 0 :: .int .i64 0 :: .int .i64 0 :: .int .i64 0 :: .int .i64 0 :: .int .i64 0 :: .int .i64 0 :: .bool false :: .slice none 0 0 :: .int .i64 0 :: .int .i64 0 :: .int .i64 0 :: .int .i64 0 :: .slice none 0 0 :: .slice none 0 0 :: .slice none 0 0 :: .slice none 0 0 :: .int .i64 0 :: .int .i64 0 :: .int .i64 0 :: .int .i64 0 :: .slice none 0 0 :: .slice none 0 0 :: .slice none 0 0 :: .string ⟨#[]⟩ :: .int .i64 0 :: []).toArray L 51 (by rw [HE.out.2.2.2];rfl)
     rw [hws]
     clear hws H hrg HE
     rw [HV.out] at HS
     clear HV
     have hsx2:=hsx.below hbs
     have hsy2:=hsy.below hbs
     clear hsx hsy
     have H:Mem (W0) [] (ws) [.blk (gl) 42 #[.slice x.At T.tl.length x.ct,.int .i64 ↑T.fx,.int .i64 ↑T.fb,.int .i64 ↑T.db,.int .i64 ↑T.al,.slice x.Ad W.c.length x.cd,.slice x.Ao W.lp.length x.co,.slice x.Ap 3 x.cp,.slice (some ⟨gs,0,none⟩) S.length c1,.slice A2 tk.length c2],.row (W0.heap.size) (51) (36) (.slice (some ⟨gs,0,none⟩) S.length c1) (S.length) (sns T S),.row (W0.heap.size) (74) (12) (.slice A2 tk.length c2) (tk.length) (sds tk),.blk (wr.heap.size) 51 #[.int .i64 ↑k,.int .i64 ↑me,.int .i64 ↑aA,.int .i64 ↑aB,.int .i64 ↑aC,.string sa,.int .i64 ci,.int .i64 ↑E2,.int .i64 ↑ad,.string st,.int .i64 ↑id,.int .i64 ↑te,.int .i64 ↑de,.int .i64 ↑fe,.int .i64 ↑pr,.int .i64 ↑ch,.int .i64 ↑un,.bool dead,.slice xs.At T.tl.length xs.ct,.int .i64 ↑T.fx,.int .i64 ↑T.fb,.int .i64 ↑T.db,.int .i64 ↑T.al,.slice xs.Ad Ws.c.length xs.cd,.slice xs.Ao Ws.lp.length xs.co,.slice xs.Ap 3 xs.cp,.slice ys.At T.tl.length ys.ct,.int .i64 ↑T.fx,.int .i64 ↑T.fb,.int .i64 ↑T.db,.int .i64 ↑T.al,.slice ys.Ad W2.c.length ys.cd,.slice ys.Ao W2.lp.length ys.co,.slice ys.Ap 3 ys.cp,.string key,.int .i64 ↑many]]:=HS
     clear HS
     clear Llf
     have Lsn:=H.c36 3 rfl
     obtain ⟨hdo,hci⟩:=HD.out
     have hWs:=hok.w
     obtain ⟨tk9,hnx⟩:=hok.nx
     have hU:=hnx.next hT (by omega) hWs
     dsimp only at hWs hU
     rw [hdo] at hU
     dsimp only at hU
     rw [hcc.out] at hbs2
     obtain ⟨bb,hbb⟩:∃ bb,(wAt S W (j + 1)).cr mm = bb:=⟨_,rfl⟩
     rw [hbb] at hbs2
     obtain ⟨z1,z2,z3,z4,z5,z6,z7⟩:=hbs2
     dsimp only at z1 z2 z4 z5 z6 z7
     rw [hdo] at z2 z5 z6
     dsimp only at z2 z5 z6
     have hB:=hbr.step hbs
     by_cases hme:me = mm
     ·have e1:((me:Int) == (mm:Int)) = true:=by simp;omega
      have e2:((me:Int) != (mm:Int)) = false:=by simp;omega
      have hR:=fun U h1 h2 => rise_ok T Ws W2 (min 3 j) j (min 3 (j + 1)) (j + 1) xs ys mm k me aA aB aC E2 ad id te de fe pr ch un many sa st key ci dead U hWs hU (by omega) h1 h2
      unfold Wd.cr at z1 z2
      rw [z1,z2] at hR
      obtain ⟨L2,hL2⟩:∃ L2,((.int .i64 ↑k :: .int .i64 ↑me :: .int .i64 ↑aA :: .int .i64 ↑aB :: .int .i64 ↑aC :: .string sa :: .int .i64 ci :: .int .i64 ↑E2 :: .int .i64 ↑ad :: .string st :: .int .i64 ↑id :: .int .i64 ↑te :: .int .i64 ↑de :: .int .i64 ↑fe :: .int .i64 ↑pr :: .int .i64 ↑ch :: .int .i64 ↑un :: .bool dead :: .slice xs.At T.tl.length xs.ct :: .int .i64 ↑T.fx :: .int .i64 ↑T.fb :: .int .i64 ↑T.db :: .int .i64 ↑T.al :: .slice xs.Ad Ws.c.length xs.cd :: .slice xs.Ao Ws.lp.length xs.co :: .slice xs.Ap 3 xs.cp :: .slice ys.At T.tl.length ys.ct :: .int .i64 ↑T.fx :: .int .i64 ↑T.fb :: .int .i64 ↑T.db :: .int .i64 ↑T.al :: .slice ys.Ad W2.c.length ys.cd :: .slice ys.Ao W2.lp.length ys.co :: .slice ys.Ap 3 ys.cp :: .string key :: .int .i64 ↑many :: []):List Value) = L2:=⟨_,rfl⟩
      have hrg2:ws.rangeAt wr.heap.size 0 L2:=fun q v hq => by
       have h:=(H.blk 3 rfl).cell q
       rw [Nat.zero_add,h]
       subst hL2
       simpa using hq
      have hsz2:(Tryz.prog.info? 51).map (·.size) = some L2.length:=by rw [← hL2];exact sn_size
      rw [hL2] at hR
      have hcn:ci < 0 → cut = none:=by
       intro q
       cases cut with
       | none => rfl
       | some z => rw [← hci] at q;exact absurd (show (z:Int) < 0 from q) (by omega)
      have hcI:ci = -1 ∨ ∃ q:Nat,ci = (q:Int):=by
       cases cut with
       | none => exact .inl hci.symm
       | some z => exact .inr ⟨z,hci.symm⟩
      have HE2:=Lib.hid (And.intro (fun g h => z5 hme (hcn g) h) (And.intro (fun g h => z6 hme (hcn g) h) (And.intro z7 hcI)))
      clear hdo hci HD hok hnx hL2 z1 z2 z4 z5 z6 z7 hWs hU hcn hcI
      go_upto_region 13 with fail
      go_wp2_with (first | (refine wpList_load_mid rfl 51 _ rfl wr.heap.size 0 (by rfl) L2 _ hrg2 Tryz.underlying51 rfl hsz2 ?_) | fail)
      refine (hR _ hsx2 hsy2).mono ?_
      rintro e wa ⟨rfl,hba⟩
      replace hB:=hB.step hba
      replace H:=Mem.call H hba
      clear hR hrg2 hsz2 hsx2 hsy2 hba
      clear Lsn
      have Lsn:=H.c36 3 rfl
      obtain ⟨z5,z6,z7,hcI⟩:=HE2.out
      clear HE2
      rcases hcI with hcI | ⟨qq,hcI⟩
      ·subst hcI
       have g:(-1:Int) < 0:=by omega
       by_cases k6:k = 6
       ·have zz:=z5 g k6
        clear z5 z6 z7
        go_wp2_with fail
        go_roundw
        case rel => first | exact ⟨j + 1,cc + ad,by omega,by go_num,by go_num,Lib.hid (hbb.trans zz),hB⟩ | exact ⟨j + 1,by omega,by omega,cc + ad,by omega,Lib.hid (hbb.trans zz)⟩ | exact ⟨j + 1,by omega,by omega,cc + ad,by omega,Lib.hid (hbb.trans zz),hB⟩
        case measure => simp [intOf];omega
       ·have f1:((k:Int) == 6) = false:=by simp;omega
        have f2:¬ (k:Int) = 6:=by omega
        by_cases k7:k = 7
        ·have zz:=z6 g k7
         have f3:((k:Int) == 7) = true:=by simp;omega
         clear z5 z6 z7
         skip
         go_wp2_with fail
         go_roundw
         case rel => first | exact ⟨j + 1,bb,by omega,by go_num,by go_num,Lib.hid (hbb),hB⟩ | exact ⟨j + 1,by omega,by omega,bb,by omega,Lib.hid (hbb)⟩ | exact ⟨j + 1,by omega,by omega,bb,by omega,Lib.hid (hbb),hB⟩
         case measure => simp [intOf];omega
        ·have zz:=z7 k6 k7
         have f3:((k:Int) == 7) = false:=by simp;omega
         have f4:¬ (k:Int) = 7:=by omega
         clear z5 z6 z7
         skip
         go_wp2_with fail
         go_roundw
         case rel => first | exact ⟨j + 1,cc,by omega,by go_num,by go_num,Lib.hid (hbb.trans zz),hB⟩ | exact ⟨j + 1,by omega,by omega,cc,by omega,Lib.hid (hbb.trans zz)⟩ | exact ⟨j + 1,by omega,by omega,cc,by omega,Lib.hid (hbb.trans zz),hB⟩
         case measure => simp [intOf];omega
      ·subst hcI
       have g2:(qq:Int) ≥ 0:=by omega
       have hb1:=z3.1
       have hb2:=z3.2
       clear z5 z6 z7
       skip
       go_wp2_with fail
       go_roundw
       case rel => first | exact ⟨j + 1,bb,by omega,by go_num,by go_num,Lib.hid (hbb),hB⟩ | exact ⟨j + 1,by omega,by omega,bb,by omega,Lib.hid (hbb)⟩ | exact ⟨j + 1,by omega,by omega,bb,by omega,Lib.hid (hbb),hB⟩
       case measure => simp [intOf];omega
     ·have e1:((me:Int) == (mm:Int)) = false:=by simp;omega
      have e2:((me:Int) != (mm:Int)) = true:=by simp;omega
      obtain rfl:=z4 hme
      clear hdo hci HD hok hnx hsx2 hsy2 z1 z2 z4 z5 z6 z7 hWs hU
      go_wp2_with fail
      go_roundw
      case rel => first | exact ⟨j + 1,bb,by omega,by go_num,by go_num,Lib.hid (hbb),hB⟩ | exact ⟨j + 1,by omega,by omega,bb,by omega,Lib.hid (hbb)⟩ | exact ⟨j + 1,by omega,by omega,bb,by omega,Lib.hid (hbb),hB⟩
      case measure => simp [intOf];omega
    ·skip
     have g1:¬ (j:Int) < (S.length:Int):=by omega
     obtain rfl:j = S.length:=by omega
     have hq:=hcc.out.symm.trans q2
     have hM:=fun U h => meterIn_ok T W 3 S.length x mm U hW9 (by omega) h
     have hmay:=(hW9.pok mm (by omega)).may
     obtain ⟨_,_,a3,_⟩:=may_bounds hmay.1 hmay.2
     clear hmay q0 q1 q2 hcc hbal
     generalize (W.P.getD mm pk0).m = mr at hq hM a3
     obtain ⟨r1,r2,r3,r4,r5,r6⟩:=mr
     unfold Mt.v Wv.vs at hM
     dsimp only at hM hq a3
     subst hq
     have hx9:=hxw
     have hB:=hbr
     go_wp2_with fail
     refine (hM _ hx9).mono ?_
     rintro e wa ⟨rfl,hba⟩
     replace hB:=hB.step hba
     replace H:=Mem.call H hba
     clear hM hx9 hba
     clear Llf
     go_upto_region 23 with fail
     replace H:=H.al wa.heap.size #[.int .i64 ↑mm,.int .i64 ↑r1,.int .i64 ↑cc,.int .i64 ↑r3,.int .u64 (r4:Int),.int .i64 ↑r5,.int .i64 ↑r6] (81) |>.gen
     simp only [List.cons_append,List.nil_append] at H
     obtain ⟨wb,hwb,H⟩:=H
     rw [hwb]
     have hB2:Below w1.heap.size w1 wb:=by rw [← hwb];exact hB.step (below_a1 wa _)
     clear hwb hB
     have Lmt:=H.c7 3 rfl
     have f1:¬ (cc:Int) < 0:=by omega
     have f2:¬ (cc:Int) > 99999999:=by omega
     go_wp2_with fail
     go_roundw
     case rel => exact ⟨mm + 1,by omega,by go_num,hB2⟩
     case measure => simp [intOf];omega
  ·have gm:¬ (mm:Int) < 3:=by omega
   go_wp2_with fail
   go_ret
   exact ⟨rfl,hb1.step hbo⟩
end Go.Proofs.YtfgiehkfcoodbaaGreat

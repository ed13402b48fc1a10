/- TopMoney: of each sale the tender is debt, fee, price and change together, none below 0; an allowance takes no money. -/
import Derived.Test.YtfgiehkfcoodbaaGreatM50
import Derived.Test.YtfgiehkfcoodbaaGreatMxRef
import Derived.Test.YtfgiehkfcoodbaaGreatM17
namespace Go.Proofs.YtfgiehkfcoodbaaGreat
open Go.RowKit
set_option linter.unusedVariables false
set_option maxRecDepth 100000
set_option maxHeartbeats 16000000
theorem walk_topMoney (w:World) (a0:Value) (w0:Fit Tryz.prog w 24 a0) (a1:Value) (w1:Fit Tryz.prog w 25 a1) :
 Calls Tryz.prog 5 #[a0,a1] w fun e w' => e = .returned (.bool true) ∧ Below w.heap.size w w':=by
 obtain ⟨A,n,m,g,a,b,c,d,rfl,wa,wb,wc,wd,hv⟩:=deal_fit w0
 obtain ⟨l,hd⟩:=deeds_fit w1
 obtain ⟨Av,cv,rfl⟩:∃ Av cv,a1 = .slice Av l.length cv:=by obtain ⟨A,c,e,_⟩:=hd;exact ⟨A,c,e⟩
 have hL:=fun U h1 h2 => lived_ok true 40 A n m g a b c d Av cv l U wa wb wc wd h1 h2 (by omega)
 clear w0 w1 wa wb wc wd
 unfold RetLived at hL
 have H:=Mem.init w
 replace H:=H.al w.heap.size #[.slice A n m,.int .i64 a,.int .i64 b,.int .i64 c,.int .i64 d] (24) |>.gen
 simp only [List.nil_append] at H
 obtain ⟨W0,hW0,H⟩:=H
 have hv0:=hv.below H.below
 have hd0:=hd.below H.below
 have hb0:=H.below
 have Ldl:=H.c5 0 rfl
 go_enter Tryz.func5,Tryz.ntmps5
 go_wp2_with fail
 clear hW0 hv hd
 refine (hL _ hv0 hd0).mono ?_
 rintro e w1 ⟨T,S,tk,W,gl,hT,rfl,hSl,hLf⟩
 have hS60:3 ≤ S.length ∧ S.length ≤ 43:=by omega
 have hb1:=hb0.step hLf.bel
 clear hL hv0 hd0 hSl H
 clear Ldl
 go_wp2_with fail
 go_loopw [7] (fun i wr => ∃ j:Nat,j ≤ S.length ∧ i = .int .i64 ↑j ∧ Below w1.heap.size w1 wr) (fun i _ => S.length - (intOf i).toNat)
 case atStart => exact ⟨0,by omega,rfl,Below.refl _ _⟩
 case round =>
  obtain ⟨j,hj,rfl,hbr⟩:=hrel
  have hbw:=hb1.step hbr
  obtain ⟨x,A1,c1,A2,c2,hLv,hxw,hsn,HM⟩:=hLf.below hbr
  unfold lifeL at HM
  have H:Mem (W0) [] (wr) [.blk (gl) 42 #[.slice x.At T.tl.length x.ct,.int .i64 ↑T.fx,.int .i64 ↑T.fb,.int .i64 ↑T.db,.int .i64 ↑T.al,.slice x.Ad W.c.length x.cd,.slice x.Ao W.lp.length x.co,.slice x.Ap 3 x.cp,.slice A1 S.length c1,.slice A2 tk.length c2],.row (W0.heap.size) (51) (36) (.slice A1 S.length c1) (S.length) (sns T S),.row (W0.heap.size) (74) (12) (.slice A2 tk.length c2) (tk.length) (sds tk)]:=HM
  clear HM
  have Llf:=H.c10 0 rfl
  by_cases hlt:j < S.length
  ·have g1:(j:Int) < (S.length:Int):=by omega
   have hok:=(hLv.ok hT (by omega)).2 j hlt
   have hsw:=hsn S[j] (List.getElem_mem hlt)
   obtain ⟨gs,rfl⟩:=own_at (H.own_ 1 rfl) (by omega)
   obtain ⟨s,hs⟩:∃ s,S[j] = s:=⟨_,rfl⟩
   rw [hs] at hok hsw
   obtain ⟨⟨k,me,aA,aB,aC,sa,cut⟩,Ws,xs,ys,key,many⟩:=s
   obtain ⟨D,hdo⟩:∃ D,doP T Ws ⟨k,me,aA,aB,aC,sa,cut⟩ = D:=⟨_,rfl⟩
   obtain ⟨W2,⟨E2,ad,st,⟨id,te,de,fe,pr,ch,un⟩,dead⟩⟩:=D
   obtain ⟨ci,hci⟩:∃ ci,cutI cut = ci:=⟨_,rfl⟩
   have hvs:S[j].vs T = (.int .i64 ↑k :: .int .i64 ↑me :: .int .i64 ↑aA :: .int .i64 ↑aB :: .int .i64 ↑aC :: .string sa :: .int .i64 ci :: .int .i64 ↑E2 :: .int .i64 ↑ad :: .string st :: .int .i64 ↑id :: .int .i64 ↑te :: .int .i64 ↑de :: .int .i64 ↑fe :: .int .i64 ↑pr :: .int .i64 ↑ch :: .int .i64 ↑un :: .bool dead :: .slice xs.At T.tl.length xs.ct :: .int .i64 ↑T.fx :: .int .i64 ↑T.fb :: .int .i64 ↑T.db :: .int .i64 ↑T.al :: .slice xs.Ad Ws.c.length xs.cd :: .slice xs.Ao Ws.lp.length xs.co :: .slice xs.Ap 3 xs.cp :: .slice ys.At T.tl.length ys.ct :: .int .i64 ↑T.fx :: .int .i64 ↑T.fb :: .int .i64 ↑T.db :: .int .i64 ↑T.al :: .slice ys.Ad W2.c.length ys.cd :: .slice ys.Ao W2.lp.length ys.co :: .slice ys.Ap 3 ys.cp :: .string key :: .int .i64 ↑many :: []):=by rw [hs];unfold Sn.vs Ac.vs;dsimp only;rw [hdo,hci];rfl
   obtain ⟨L,hL⟩:∃ L,S[j].vs T = L:=⟨_,rfl⟩
   have hrg:=sn_range (own_mono (H.own_ 1 rfl) (Nat.zero_le _)) rfl j hlt hL
   rw [hL] at hvs
   clear hL
   have hll:L.length = 36:=by rw [hvs];rfl
   have hsz:(Tryz.prog.info? 51).map (·.size) = some L.length:=by rw [hll];exact sn_size
   have hsz2:(Tryz.prog.info? 51).map (·.size) = some L.toArray.size:=hsz
   have hon:L.toArray.all (·.oneCell') = true:=all_oneCell_toArray (by rw [hvs];intro v hv;simp only [List.mem_cons,List.not_mem_nil,or_false] at hv;rcases hv with rfl | rfl | rfl | rfl | rfl | rfl | rfl | rfl | rfl | rfl | rfl | rfl | rfl | rfl | rfl | rfl | rfl | rfl | rfl | rfl | rfl | rfl | rfl | rfl | rfl | rfl | rfl | rfl | rfl | rfl | rfl | rfl | rfl | rfl | rfl | rfl <;> rfl)
   have HV:=Lib.hid hvs
   clear hvs
   dsimp only at hsw
   rw [hdo] at hsw
   obtain ⟨hsx,hsy⟩:=hsw
   have HD:=Lib.hid (And.intro hdo hci)
   clear hdo hci hs hsn hLv hxw
   have HE:=Lib.hid (And.intro hsz (And.intro hsz2 (And.intro hon hll)))
   clear hsz hsz2 hon hll
   go_upto_region 6 with (first | (refine wpList_load_mid rfl 51 _ rfl gs (j * 36) (by rfl) L _ hrg Tryz.underlying51 rfl HE.out.1 ?_) | (refine wpList_store_mid rfl 51 _ _ rfl wr.heap.size 0 L.toArray (by rfl) (by rfl) (fresh_there _ _ _ _ (by rw [List.size_toArray,HE.out.2.2.2];rfl)) HE.out.2.1 HE.out.2.2.1 ?_))
   obtain ⟨ws,hws,HS,hbs⟩:=H.laid wr.heap.size rfl (.int .i64 0 :: .int .i64 0 :: .int .i64 0 :: .int .i64 0 :: .int .i64 0 :: .string ⟨#[]⟩ :: .int .i64 0 :: .int .i64 0 :: .int .i64 0 :: .string ⟨#[]⟩ :: .int .i64 0 :: .int .i64 0 :: .int .i64 0 :: .int .i64 0 :: .int .i64 0 :: .int .i64 0 :: .int .i64 0 :: .bool false :: .slice none 0 0 :: .int .i64 0 :: .int .i64 0 :: .int .i64 0 :: .int .i64 0 :: .slice none 0 0 :: .slice none 0 0 :: .slice none 0 0 :: .slice none 0 0 :: .int .i64 0 :: .int .i64 0 :: .int .i64 0 :: .int .i64 0 :: .slice none 0 0 :: .slice none 0 0 :: .slice none 0 0 :: .string ⟨#[]⟩ :: .int .i64 0 :: []).toArray L 51 (by rw [HE.out.2.2.2];rfl)
   rw [hws]
   clear hws H hrg HE
   rw [HV.out] at HS
   clear HV
   have hsx2:=hsx.below hbs
   have hsy2:=hsy.below hbs
   clear hsx hsy
   have H:Mem (W0) [] (ws) [.blk (gl) 42 #[.slice x.At T.tl.length x.ct,.int .i64 ↑T.fx,.int .i64 ↑T.fb,.int .i64 ↑T.db,.int .i64 ↑T.al,.slice x.Ad W.c.length x.cd,.slice x.Ao W.lp.length x.co,.slice x.Ap 3 x.cp,.slice (some ⟨gs,0,none⟩) S.length c1,.slice A2 tk.length c2],.row (W0.heap.size) (51) (36) (.slice (some ⟨gs,0,none⟩) S.length c1) (S.length) (sns T S),.row (W0.heap.size) (74) (12) (.slice A2 tk.length c2) (tk.length) (sds tk),.blk (wr.heap.size) 51 #[.int .i64 ↑k,.int .i64 ↑me,.int .i64 ↑aA,.int .i64 ↑aB,.int .i64 ↑aC,.string sa,.int .i64 ci,.int .i64 ↑E2,.int .i64 ↑ad,.string st,.int .i64 ↑id,.int .i64 ↑te,.int .i64 ↑de,.int .i64 ↑fe,.int .i64 ↑pr,.int .i64 ↑ch,.int .i64 ↑un,.bool dead,.slice xs.At T.tl.length xs.ct,.int .i64 ↑T.fx,.int .i64 ↑T.fb,.int .i64 ↑T.db,.int .i64 ↑T.al,.slice xs.Ad Ws.c.length xs.cd,.slice xs.Ao Ws.lp.length xs.co,.slice xs.Ap 3 xs.cp,.slice ys.At T.tl.length ys.ct,.int .i64 ↑T.fx,.int .i64 ↑T.fb,.int .i64 ↑T.db,.int .i64 ↑T.al,.slice ys.Ad W2.c.length ys.cd,.slice ys.Ao W2.lp.length ys.co,.slice ys.Ap 3 ys.cp,.string key,.int .i64 ↑many]]:=HS
   clear HS
   clear Llf
   have Lsn:=H.c36 3 rfl
   obtain ⟨hdo,hci⟩:=HD.out
   have hmo:=hok.money hT (by omega)
   have hac:=hok.a
   dsimp only at hmo hac
   rw [hdo] at hmo
   dsimp only at hmo
   clear hdo hci HD hok hsx2 hsy2
   by_cases h0:st.size = 0
   ·have hte:=ba_empty h0
    have e1:=hmo.1 h0
    injection e1 with q1 q2 q3 q4 q5 q6 q7
    subst q1 q2 q3 q4 q5 q6 q7
    clear hmo
    go_wp2_with fail
    go_roundw
    case rel => exact ⟨j + 1,by omega,by go_num,(hbr.step hbs).step (below_a1 ws _)⟩
    case measure => simp [intOf];omega
   ·have hte:=ba_full h0
    obtain ⟨m1,m2,m3⟩:=hmo.2 h0
    clear hmo
    subst m1
    by_cases hk2:k = 2
    ·subst hk2
     obtain ⟨rfl,hun⟩:=m2 rfl
     have hb8:=(hac.h2 rfl).2.1
     dsimp only at hb8
     clear m2 m3
     have hun1:¬ (un:Int) < 1:=by omega
     go_wp2_with fail
     go_roundw
     case rel => exact ⟨j + 1,by omega,by go_num,(hbr.step hbs).step (below_a1 ws _)⟩
     case measure => simp [intOf];omega
    ·have m4:=m3 hk2
     have e2:((k:Int) == 2) = false:=by simp;omega
     have e3:((k:Int) != 2) = true:=by simp;omega
     have e4:¬ (k:Int) = 2:=by omega
     obtain rfl:de = 0:=by omega
     obtain rfl:fe = 0:=by omega
     obtain rfl:pr = 0:=by omega
     obtain rfl:ch = 0:=by omega
     clear m2 m3 m4
     go_wp2_with fail
     go_roundw
     case rel => exact ⟨j + 1,by omega,by go_num,(hbr.step hbs).step (below_a1 ws _)⟩
     case measure => simp [intOf];omega
  ·skip
   have g1:¬ (j:Int) < (S.length:Int):=by omega
   go_wp2_with fail
   go_ret
   exact ⟨rfl,hbw⟩
end Go.Proofs.YtfgiehkfcoodbaaGreat

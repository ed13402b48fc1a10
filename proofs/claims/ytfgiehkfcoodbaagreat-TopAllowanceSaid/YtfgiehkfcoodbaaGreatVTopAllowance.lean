/- TopAllowance: an allowance is had once a month, however often it is asked for. -/
import Derived.Test.YtfgiehkfcoodbaaGreatM0
import Derived.Test.YtfgiehkfcoodbaaGreatM49
import Derived.Test.YtfgiehkfcoodbaaGreatMxNum
import Derived.Test.YtfgiehkfcoodbaaGreatM17
namespace Go.Proofs.YtfgiehkfcoodbaaGreat
open Go.RowKit
set_option linter.unusedVariables false
set_option maxRecDepth 100000
set_option maxHeartbeats 16000000
theorem walk_topAllowance (w:World) (a0:Value) (w0:Fit Tryz.prog w 24 a0) (a1:Value) (w1:Fit Tryz.prog w 25 a1) :
 Calls Tryz.prog 8 #[a0,a1] w fun e w' => e = .returned (.bool true) ∧ Below w.heap.size w w':=by
 obtain ⟨A,n,m,g,a,b,c,d,rfl,wa,wb,wc,wd,hv⟩:=deal_fit w0
 obtain ⟨l,hd⟩:=deeds_fit w1
 obtain ⟨Av,cv,rfl⟩:∃ Av cv,a1 = .slice Av l.length cv:=by obtain ⟨A,c,e,_⟩:=hd;exact ⟨A,c,e⟩
 have hL:=fun U h1 h2 => lived_ok true 40 A n m g a b c d Av cv l U wa wb wc wd h1 h2 (by omega)
 clear w0 w1 wa wb wc wd
 unfold RetLived at hL
 have H:=Mem.init w
 replace H:=H.al w.heap.size #[.slice A n m,a,b,c,d] (24) |>.gen
 simp only [List.nil_append] at H
 obtain ⟨W0,hW0,H⟩:=H
 have hv0:=hv.below H.below
 have hd0:=hd.below H.below
 have hb0:=H.below
 have Ldl:=H.c5 0 rfl
 go_enter Tryz.func8,Tryz.ntmps8
 go_wp2_with fail
 clear hW0 hv hd
 refine (hL _ hv0 hd0).mono ?_
 rintro e w1 ⟨T,S,tk,W,gl,hT,rfl,hSl,hLf⟩
 have hS60:3 ≤ S.length ∧ S.length ≤ 43:=by omega
 have hb1:=hb0.step hLf.bel
 clear hL hv0 hd0 hSl H
 clear Ldl
 obtain ⟨_,_,_,_,_,hLv,_,_,_⟩:=hLf.below (Below.refl _ _)
 have hri:=(hLv.rises hT (by omega)).2
 have hml:=(hLv.toks hT (by omega)).2
 clear hLv
 go_wp2_with fail
 go_loopw [7] (fun i wr => ∃ j:Nat,j ≤ tk.length ∧ i = .int .i64 ↑j ∧ Below w1.heap.size w1 wr) (fun i _ => tk.length - (intOf i).toNat)
 case atStart => exact ⟨0,by omega,rfl,Below.refl _ _⟩
 case round =>
  obtain ⟨j,hj,rfl,hbr⟩:=hrel
  obtain ⟨x,A1,c1,A2,c2,_,_,_,HM⟩:=hLf.below hbr
  unfold lifeL at HM
  have H:Mem (W0) [] (wr) [.blk (gl) 42 #[.slice x.At T.tl.length x.ct,T.fx,T.fb,T.db,T.al,.slice x.Ad W.c.length x.cd,.slice x.Ao W.lp.length x.co,.slice x.Ap 3 x.cp,.slice A1 S.length c1,.slice A2 tk.length c2],.row (W0.heap.size) (51) (36) (.slice A1 S.length c1) (S.length) (sns T S),.row (W0.heap.size) (74) (12) (.slice A2 tk.length c2) (tk.length) (sds tk)]:=HM
  clear HM
  have Llf:=H.c10 0 rfl
  by_cases hlt:j < tk.length
  ·have g1:(j:Int) < (tk.length:Int):=by omega
   go_wp2_with fail
   clear H
   clear Llf
   go_loopw [8] (fun i wr => ∃ q:Nat,q ≤ j ∧ i = .int .i64 ↑q ∧ Below w1.heap.size w1 wr) (fun i _ => j - (intOf i).toNat)
   case atStart => exact ⟨0,by omega,rfl,hbr⟩
   case round =>
    clear hbr
    obtain ⟨q,hq,rfl,hbr⟩:=hrel
    by_cases hqj:q < j
    ·have g2:(q:Int) < (j:Int):=by omega
     have hqt:q < tk.length:=by omega
     have hrq:=hri.at_ hqj hlt
     obtain ⟨x,A1,c1,A2,c2,_,_,_,HM⟩:=hLf.below hbr
     unfold lifeL at HM
     have H:Mem (W0) [] (wr) [.blk (gl) 42 #[.slice x.At T.tl.length x.ct,T.fx,T.fb,T.db,T.al,.slice x.Ad W.c.length x.cd,.slice x.Ao W.lp.length x.co,.slice x.Ap 3 x.cp,.slice A1 S.length c1,.slice A2 tk.length c2],.row (W0.heap.size) (51) (36) (.slice A1 S.length c1) (S.length) (sns T S),.row (W0.heap.size) (74) (12) (.slice A2 tk.length c2) (tk.length) (sds tk)]:=HM
     clear HM
     have Llf:=H.c10 0 rfl
     obtain ⟨gs,rfl⟩:=own_at (H.own_ 2 rfl) (by omega)
     have hto:=own_mono (H.own_ 2 rfl) (Nat.zero_le _)
     obtain ⟨tt,htt⟩:∃ t,tk[j] = t:=⟨_,rfl⟩
     have tc:=fun k v hk hv => sds_cell hto rfl j hlt k hk v (by rw [htt];exact hv)
     obtain ⟨tme,trev,ts,⟨tid,tte,tde,tfe,tpr,tch,tun⟩,tk_,tmo⟩:=tt
     have t0:wr.cell? ⟨gs,j * 12,none⟩ = some (.int .i64 ↑tme):=tc 0 (.int .i64 ↑tme) (by omega) rfl
     have t1:wr.cell? ⟨gs,j * 12 + 1,none⟩ = some (.int .i64 ↑trev):=tc 1 (.int .i64 ↑trev) (by omega) rfl
     have t2:wr.cell? ⟨gs,j * 12 + 2,none⟩ = some (.string ts):=tc 2 (.string ts) (by omega) rfl
     have t3:wr.cell? ⟨gs,j * 12 + 3,none⟩ = some (.int .i64 ↑tid):=tc 3 (.int .i64 ↑tid) (by omega) rfl
     have t4:wr.cell? ⟨gs,j * 12 + 4,none⟩ = some (.int .i64 ↑tte):=tc 4 (.int .i64 ↑tte) (by omega) rfl
     have t5:wr.cell? ⟨gs,j * 12 + 5,none⟩ = some (.int .i64 ↑tde):=tc 5 (.int .i64 ↑tde) (by omega) rfl
     have t6:wr.cell? ⟨gs,j * 12 + 6,none⟩ = some (.int .i64 ↑tfe):=tc 6 (.int .i64 ↑tfe) (by omega) rfl
     have t7:wr.cell? ⟨gs,j * 12 + 7,none⟩ = some (.int .i64 ↑tpr):=tc 7 (.int .i64 ↑tpr) (by omega) rfl
     have t8:wr.cell? ⟨gs,j * 12 + 8,none⟩ = some (.int .i64 ↑tch):=tc 8 (.int .i64 ↑tch) (by omega) rfl
     have t9:wr.cell? ⟨gs,j * 12 + 9,none⟩ = some (.int .i64 ↑tun):=tc 9 (.int .i64 ↑tun) (by omega) rfl
     have t10:wr.cell? ⟨gs,j * 12 + 10,none⟩ = some (.int .i64 ↑tk_):=tc 10 (.int .i64 ↑tk_) (by omega) rfl
     have t11:wr.cell? ⟨gs,j * 12 + 11,none⟩ = some (.int .i64 ↑tmo):=tc 11 (.int .i64 ↑tmo) (by omega) rfl
     clear tc
     go_upto_region 9 with fail
     replace H:=H.al wr.heap.size #[tme,trev,.string ts,tid,tte,tde,tfe,tpr,tch,tun,tk_,tmo] (74) |>.gen
     simp only [List.cons_append,List.nil_append] at H
     obtain ⟨wa,hwa,H⟩:=H
     rw [hwa]
     have hba:Below wr.heap.size wr wa:=by rw [← hwa];exact below_a1 wr _
     replace hto:=own_below hto hba
     clear hwa t0 t1 t2 t3 t4 t5 t6 t7 t8 t9 t10 t11
     clear Llf
     have Llf:=H.c10 0 rfl
     obtain ⟨tb,htb⟩:∃ t,tk[q] = t:=⟨_,rfl⟩
     have tc:=fun k v hk hv => sds_cell hto rfl q hqt k hk v (by rw [htb];exact hv)
     obtain ⟨bme,brev,bs,⟨bid,bte,bde,bfe,bpr,bch,bun⟩,bk_,bmo⟩:=tb
     have b0:wa.cell? ⟨gs,q * 12,none⟩ = some (.int .i64 ↑bme):=tc 0 (.int .i64 ↑bme) (by omega) rfl
     have b1:wa.cell? ⟨gs,q * 12 + 1,none⟩ = some (.int .i64 ↑brev):=tc 1 (.int .i64 ↑brev) (by omega) rfl
     have b2:wa.cell? ⟨gs,q * 12 + 2,none⟩ = some (.string bs):=tc 2 (.string bs) (by omega) rfl
     have b3:wa.cell? ⟨gs,q * 12 + 3,none⟩ = some (.int .i64 ↑bid):=tc 3 (.int .i64 ↑bid) (by omega) rfl
     have b4:wa.cell? ⟨gs,q * 12 + 4,none⟩ = some (.int .i64 ↑bte):=tc 4 (.int .i64 ↑bte) (by omega) rfl
     have b5:wa.cell? ⟨gs,q * 12 + 5,none⟩ = some (.int .i64 ↑bde):=tc 5 (.int .i64 ↑bde) (by omega) rfl
     have b6:wa.cell? ⟨gs,q * 12 + 6,none⟩ = some (.int .i64 ↑bfe):=tc 6 (.int .i64 ↑bfe) (by omega) rfl
     have b7:wa.cell? ⟨gs,q * 12 + 7,none⟩ = some (.int .i64 ↑bpr):=tc 7 (.int .i64 ↑bpr) (by omega) rfl
     have b8:wa.cell? ⟨gs,q * 12 + 8,none⟩ = some (.int .i64 ↑bch):=tc 8 (.int .i64 ↑bch) (by omega) rfl
     have b9:wa.cell? ⟨gs,q * 12 + 9,none⟩ = some (.int .i64 ↑bun):=tc 9 (.int .i64 ↑bun) (by omega) rfl
     have b10:wa.cell? ⟨gs,q * 12 + 10,none⟩ = some (.int .i64 ↑bk_):=tc 10 (.int .i64 ↑bk_) (by omega) rfl
     have b11:wa.cell? ⟨gs,q * 12 + 11,none⟩ = some (.int .i64 ↑bmo):=tc 11 (.int .i64 ↑bmo) (by omega) rfl
     clear tc
     rw [htt,htb] at hrq
     dsimp only at hrq
     have g3:(q:Int) < (tk.length:Int):=by omega
     have hno:((tk_:Int) == 3) = true → ((bk_:Int) == 3) = true → ((tme:Int) == (bme:Int)) = true → ((tmo:Int) == (bmo:Int)) = false:=by
      intro h1 h2 h3
      simp only [beq_iff_eq] at h1 h2 h3
      have h4:=(hrq (by omega)).2
      simp only [beq_eq_false_iff_ne]
      intro h5
      exact h4 ⟨by omega,by omega,by omega⟩
     clear hrq hto htt htb hri
     obtain ⟨p1,e1⟩:∃ b,((tk_:Int) == 3) = b:=⟨_,rfl⟩
     obtain ⟨p2,e2⟩:∃ b,((bk_:Int) == 3) = b:=⟨_,rfl⟩
     obtain ⟨p3,e3⟩:∃ b,((tme:Int) == (bme:Int)) = b:=⟨_,rfl⟩
     obtain ⟨p4,e4⟩:∃ b,((tmo:Int) == (bmo:Int)) = b:=⟨_,rfl⟩
     rw [e1,e2,e3,e4] at hno
     go_upto_region 10 with fail
     replace H:=H.al wa.heap.size #[bme,brev,.string bs,bid,bte,bde,bfe,bpr,bch,bun,bk_,bmo] (74) |>.gen
     simp only [List.cons_append,List.nil_append] at H
     obtain ⟨wb,hwb,H⟩:=H
     rw [hwb]
     have hbb:Below wr.heap.size wr wb:=hba.trans (by rw [← hwb];exact (below_a1 wa _).mono hba.size)
     clear hwb b0 b1 b2 b3 b4 b5 b6 b7 b8 b9 b10 b11
     clear Llf
     have Lta:=H.c12 3 rfl
     have Ltb:=H.c12 4 rfl
     have Ntatb:=H.ne2 3 4 rfl rfl rfl
     cases p1 with
     | false =>
      have f1:¬ (tk_:Int) = 3:=by simpa using e1
      go_wp2_with fail
      go_roundw
      case rel => exact ⟨q + 1,by omega,by go_num,hbr.step hbb⟩
      case measure => simp [intOf];omega
     | true =>
      skip
      cases p2 with
      | false =>
       have f2:¬ (bk_:Int) = 3:=by simpa using e2
       go_wp2_with fail
       go_roundw
       case rel => exact ⟨q + 1,by omega,by go_num,hbr.step hbb⟩
       case measure => simp [intOf];omega
      | true =>
       skip
       cases p3 with
       | false =>
        have f3:¬ (tme:Int) = (bme:Int):=by simpa using e3
        go_wp2_with fail
        go_roundw
        case rel => exact ⟨q + 1,by omega,by go_num,hbr.step hbb⟩
        case measure => simp [intOf];omega
       | true =>
        skip
        obtain rfl:=hno rfl rfl rfl
        have f4:¬ (tmo:Int) = (bmo:Int):=by simpa using e4
        go_wp2_with fail
        go_roundw
        case rel => exact ⟨q + 1,by omega,by go_num,hbr.step hbb⟩
        case measure => simp [intOf];omega
    ·have g2:¬ (q:Int) < (j:Int):=by omega
     go_wp2_with fail
     go_roundw
     case rel => exact ⟨j + 1,by omega,by go_num,hbr⟩
     case measure => simp [intOf];omega
  ·skip
   have g1:¬ (j:Int) < (tk.length:Int):=by omega
   go_wp2_with fail
   go_ret
   exact ⟨rfl,hb1.step hbr⟩
end Go.Proofs.YtfgiehkfcoodbaaGreat

/- vendmetertop.customer: a world's customer of a meter. -/
import Derived.Test.YtfgiehkfcoodbaaGreatM0
import Derived.Test.YtfgiehkfcoodbaaGreatM49
import Derived.Test.YtfgiehkfcoodbaaGreatM28
namespace Go.Proofs.YtfgiehkfcoodbaaGreat
open Go.RowKit
set_option linter.unusedVariables false
set_option maxRecDepth 100000
set_option maxHeartbeats 16000000
def RetCus (c:Cu) (w:World) (e:Ending) (w':World):Prop :=
 ∃ (Ad:Option Addr) (cd:Nat) (As:Option Addr) (cs:Nat),e = .returned (.tuple #[.agg #[c.a.me,c.a.rev,c.a.next,c.a.month,c.a.bought,c.a.free,.slice Ad c.a.l.length cd,.slice As c.s.length cs],.bool true]) ∧ IsDs w' (.slice Ad c.a.l.length cd) c.a.l ∧ Below w.heap.size w w'
theorem OwnBk.at_ {base:Nat} {w:World} {A:Option Addr} {n c:Nat} {B:List Cu} (h:OwnBk base w (.slice A n c) B) {k:Nat} (hk:k < B.length) :
 ∃ b off,∃ (Ad:Option Addr) (cd:Nat) (As:Option Addr) (cs:Nat),A = some ⟨b,off,none⟩ ∧ b < w.heap.size ∧ w.ownsRow base 90 2 (.slice Ad B[k].a.l.length cd) B[k].a.l.length (drs B[k].a.l) ∧
  w.cell? ⟨b,off + k * 8,none⟩ = some (.int .i64 (B[k].a.me:Int)) ∧ w.cell? ⟨b,off + k * 8 + 1,none⟩ = some (.int .i64 (B[k].a.rev:Int)) ∧ w.cell? ⟨b,off + k * 8 + 2,none⟩ = some (.int .i64 (B[k].a.next:Int)) ∧ w.cell? ⟨b,off + k * 8 + 3,none⟩ = some (.int .i64 (B[k].a.month:Int)) ∧ w.cell? ⟨b,off + k * 8 + 4,none⟩ = some (.int .i64 (B[k].a.bought:Int)) ∧ w.cell? ⟨b,off + k * 8 + 5,none⟩ = some (.int .i64 B[k].a.free) ∧ w.cell? ⟨b,off + k * 8 + 6,none⟩ = some (.slice Ad B[k].a.l.length cd) ∧ w.cell? ⟨b,off + k * 8 + 7,none⟩ = some (.slice As B[k].s.length cs):=by
 obtain ⟨A',c',Q,e,hQ,ho,hx⟩:=h
 injection e with e1 e2
 subst e1
 obtain ⟨b,off,rfl,hB,hc⟩:=(Rd.of_own ho).at_ (by omega)
 have hq:k < Q.length:=by rw [← hQ] at hk;simpa using hk
 have hxk:=hx _ (List.getElem_mem hq)
 have e:B[k] = Q[k].1:=by subst hQ;simp
 rw [e]
 exact ⟨b,off,_,_,_,_,rfl,hB,hxk.1,hc (k * 8) _ (cust_get hq (j:=0) (by omega)),hc (k * 8 + 1) _ (cust_get hq (j:=1) (by omega)),hc (k * 8 + 2) _ (cust_get hq (j:=2) (by omega)),hc (k * 8 + 3) _ (cust_get hq (j:=3) (by omega)),hc (k * 8 + 4) _ (cust_get hq (j:=4) (by omega)),hc (k * 8 + 5) _ (cust_get hq (j:=5) (by omega)),hc (k * 8 + 6) _ (cust_get hq (j:=6) (by omega)),hc (k * 8 + 7) _ (cust_get hq (j:=7) (by omega))⟩
theorem customer_top (T:Tm) (hT:T.Ok) (W:Wd) (m n:Nat) (x:Wv) (me:Nat) (w:World) (hW:W.Ok T m n) (hm:m ≤ 3) (hme:me < m) (hx:x.Is w T W) :
 Calls Tryz.prog 19 #[.agg (x.vs T W).toArray,me] w (RetCus (W.B.getD me cu0) w):=by
 have hL:=fun U h1 h2 => load_ok T hT x.At T.tl.length x.ct (.slice x.Ad W.c.length x.cd) W.c W.L W.B U h1 h2 hW.srv
 have hcu:=hW.cus
 have hmes:=hW.me
 obtain ⟨c,hc⟩:∃ c,W.B.getD me cu0 = c:=⟨_,rfl⟩
 rw [hc]
 obtain ⟨⟨ame,arev,anext,amonth,abought,afree,al⟩,aso⟩:=c
 unfold Wv.vs RetCus
 dsimp only
 have H:=Mem.init w
 replace H:=H.al w.heap.size #[.slice x.At T.tl.length x.ct,T.fx,T.fb,T.db,T.al,.slice x.Ad W.c.length x.cd,.slice x.Ao W.lp.length x.co,.slice x.Ap 3 x.cp] (38) |>.al (w.heap.size + 1) #[(),(),(),(),(),(),.slice none 0 0,.slice none 0 0] (67) |>.gen
 simp only [List.nil_append,List.cons_append] at H
 obtain ⟨W0,hW0,H⟩:=H
 have ht0:=hx.terms.below H.below
 have hd0:=(hx.disk hW).below H.below
 have Lwb:=H.c8 0 rfl
 go_enter Tryz.func19,Tryz.ntmps19
 go_wp2_with fail
 have hsz:W0.heap.size = w.heap.size + 2:=by rw [← hW0];simp
 clear hW0 hx hW
 refine (hL _ ht0 hd0).mono ?_
 rintro e w1 ⟨v,rfl,hbk,hb1⟩
 obtain ⟨Ab,nb,cb,rfl⟩:=hbk.slice
 have hnb:nb = m:=hbk.is.len.trans hcu
 subst hnb
 obtain ⟨bb,bo,rfl⟩:∃ bb bo,Ab = some ⟨bb,bo,none⟩:=by
  obtain ⟨b,o,_,_,_,_,h,_⟩:=hbk.is.at_ (k:=0) (by omega)
  exact ⟨b,o,h⟩
 replace H:=Mem.call H hb1
 clear hL hb1 ht0 hd0
 go_wp2_with fail
 have hbk4:=hbk.below (below_a1 w1 (.cells #[.slice (some ⟨bb,bo,none⟩) nb cb] 56))
 replace H:=H.al w1.heap.size #[.slice (some ⟨bb,bo,none⟩) nb cb] (56) |>.gen
 simp only [List.cons_append,List.nil_append] at H
 obtain ⟨w4,hw4,H⟩:=H
 rw [hw4]
 rw [hw4] at hbk4
 clear hw4 hbk
 clear Lwb
 go_loopw [8] (fun i wr => ∃ j:Nat,j ≤ me ∧ i = .int .i64 ↑j ∧ Below w4.heap.size w4 wr ∧ Mem (w) [] (wr) [.blk (w.heap.size) 38 #[.slice x.At T.tl.length x.ct,T.fx,T.fb,T.db,T.al,.slice x.Ad W.c.length x.cd,.slice x.Ao W.lp.length x.co,.slice x.Ap 3 x.cp],.blk (w.heap.size + 1) 67 #[(),(),(),(),(),(),.slice none 0 0,.slice none 0 0],.blk (w1.heap.size) 56 #[.slice (some ⟨bb,bo,none⟩) nb cb]]) (fun i _ => me + 1 - (intOf i).toNat)
 case atStart => exact ⟨0,by omega,rfl,Below.refl _ _,H⟩
 case round =>
  clear H
  obtain ⟨j,hj,rfl,hbr,H⟩:=hrel
  have hjB:j < W.B.length:=by omega
  obtain ⟨b,off,Ad,cd,As,cs,hab,hbl,hds,p0,p1,p2,p3,p4,p5,p6,p7⟩:=(hbk4.below hbr).at_ hjB
  injection hab with hab
  injection hab with hab1 hab2
  subst hab1 hab2
  have hmj:=hmes j hjB
  have g1:(j:Int) < (nb:Int):=by omega
  by_cases hjm:j = me
  ·have hcj:W.B[j] = ⟨⟨ame,arev,anext,amonth,abought,afree,al⟩,aso⟩:=by rw [← hc];subst hjm;simp [hjB]
   rw [hcj] at p0 p1 p2 p3 p4 p5 p6 p7 hds hmj
   dsimp only at p0 p1 p2 p3 p4 p5 p6 p7 hds hmj
   subst hmj
   subst hjm
   clear hc hcj hmes hcu
   obtain ⟨bklt,bk0,bkf0⟩:=H.c1 2 rfl
   obtain ⟨crlt,cr0,crf0,cr1,crf1,cr2,crf2,cr3,crf3,cr4,crf4,cr5,crf5,cr6,crf6,cr7,crf7⟩:=H.c8 1 rfl
   obtain ⟨ne_bk_cr,ne_cr_bk⟩:=H.ne2 2 1 rfl rfl rfl
   go_wp2_with fail
   replace H:=H.set 1 rfl 0 ame |>.set 1 rfl 1 arev |>.set 1 rfl 2 anext |>.set 1 rfl 3 amonth |>.set 1 rfl 4 abought |>.set 1 rfl 5 afree |>.set 1 rfl 6 (.slice Ad al.length cd) |>.set 1 rfl 7 (.slice As aso.length cs) |>.gen
   simp only [List.set_cons_zero,List.set_cons_succ,List.setIfInBounds_toArray] at H
   obtain ⟨wz,hwz,H⟩:=H
   rw [hwz]
   have hbk9:w.heap.size + 1 < W0.heap.size:=by omega
   have hds2:wz.ownsRow W0.heap.size 90 2 (.slice Ad al.length cd) al.length (drs al):=hwz ▸ (own_set (k:=w.heap.size + 1) (o:=7) (own_set (k:=w.heap.size + 1) (o:=6) (own_set (k:=w.heap.size + 1) (o:=5) (own_set (k:=w.heap.size + 1) (o:=4) (own_set (k:=w.heap.size + 1) (o:=3) (own_set (k:=w.heap.size + 1) (o:=2) (own_set (k:=w.heap.size + 1) (o:=1) (own_set (k:=w.heap.size + 1) (o:=0) hds hbk9) hbk9) hbk9) hbk9) hbk9) hbk9) hbk9) hbk9)
   clear hwz
   clear bklt bk0 bkf0 crlt cr0 crf0 cr1 crf1 cr2 crf2 cr3 crf3 cr4 crf4 cr5 crf5 cr6 crf6 cr7 crf7 ne_bk_cr ne_cr_bk
   obtain ⟨crlt,cr0,-,cr1,-,cr2,-,cr3,-,cr4,-,cr5,-,cr6,-,cr7,-⟩:=H.c8 1 rfl
   refine bodyPost_ret (v:=.tuple #[.agg #[ame,arev,anext,amonth,abought,afree,.slice Ad al.length cd,.slice As aso.length cs],.bool true]) (by simp [results,Tryz.results19,go_sem,cr0,cr1,cr2,cr3,cr4,cr5,cr6,cr7];done) rfl ?_
   exact ⟨Ad,cd,⟨As,cs,rfl⟩,isds_own rfl hds2,H.below⟩
  ·skip
   rw [hmj] at p0
   have g2:((j:Int) == (me:Int)) = false:=by simp;omega
   have g3:¬ (j:Int) = (me:Int):=by omega
   clear p1 p2 p3 p4 p5 p6 p7 hds hmes hcu hc
   have Lbk:=H.c1 2 rfl
   go_wp2_with fail
   go_roundw
   case rel => exact ⟨j + 1,by omega,by go_num,hbr,H⟩
   case measure => simp [intOf];omega
end Go.Proofs.YtfgiehkfcoodbaaGreat

/- A meter's credit, step by step: plain. -/
import Derived.Test.YtfgiehkfcoodbaaGreatM48
import Derived.Test.YtfgiehkfcoodbaaGreatM49
namespace Go.Proofs.YtfgiehkfcoodbaaGreat
open Go.RowKit
set_option linter.unusedVariables false
set_option maxRecDepth 100000
set_option maxHeartbeats 16000000
def NoCl (l:List Pr):Prop:=∀ p ∈ l,∀ id am tag:Nat,TkOk 1 id am tag → p.2.2.1 ≠ ((tbody 1 id am:Nat):Int)
theorem NoCl.iss {l:List Pr} {x y d:Int} {cls id am tag:Nat} (h:NoCl l) (hk:TkOk cls id am tag) (hc:cls ≠ 1):NoCl (issL l x y ((tbody cls id am:Nat):Int) d):=by
 unfold issL
 split
 ·intro p hp i2 a2 t2 h2
  rcases List.mem_append.1 hp with hp | hp
  ·exact h p hp i2 a2 t2 h2
  ·obtain rfl:p = _:=by simpa using hp
   dsimp only
   intro e
   have:=(tbody_inj hk h2 (by omega)).1
   omega
 ·exact h
theorem takeS_cr {rev cr H B bad cls id am:Nat} (hc:cls ≠ 1):(takeS rev cr H B bad cls id am).2.1 = cr + (takeS rev cr H B bad cls id am).2.2.2.2.2.1:=by
 unfold takeS
 by_cases g1:judge H B id ≠ 0
 ·rw [if_pos g1];rfl
 ·rw [if_neg g1]
  by_cases g2:cls = 0
  ·rw [if_pos g2]
   by_cases g3:99999999 < cr + am
   ·rw [if_pos g3];rfl
   ·rw [if_neg g3]
  ·rw [if_neg g2,if_neg hc]
   by_cases g3:am ≤ rev
   ·rw [if_pos g3];rfl
   ·rw [if_neg g3];rfl
theorem soldE_no {l:List Pr} {me id am tag rev0:Nat} {t:Int} (hl:NoCl l) (hk:TkOk 1 id am tag):∀ n,soldE l me (tbody 1 id am) rev0 t n ≠ 0
 | 0 => by unfold soldE;decide
 | n + 1 => by
  unfold soldE
  have hn:look l ((me:Int),(n:Int),((tbody 1 id am:Nat):Int)) ≠ some t:=fun e => by
   obtain ⟨p,hp,he,_⟩:=look_some_mem e
   unfold keyP at he
   injection he with _ he
   injection he with _ he
   exact hl p hp id am tag hk he
  rw [if_neg hn]
  exact soldE_no hl hk n
theorem keyS_cr {l:List Pr} {me rev cr H B bad lock cls id am tag:Nat} (hl:NoCl l) (hk:TkOk cls id am tag):(keyS l me rev cr H B bad lock cls id am tag).2.1 = cr + (keyS l me rev cr H B bad lock cls id am tag).2.2.2.2.2.2.1:=by
 unfold keyS
 by_cases g1:0 < lock
 ·rw [if_pos g1];rfl
 ·rw [if_neg g1]
  by_cases g2:cls = 3
  ·rw [if_pos g2];rfl
  ·rw [if_neg g2]
   by_cases g3:soldE l me (tbody cls id am) rev tag (rev + 1) = 0
   ·rw [if_pos g3]
    refine takeS_cr fun e => ?_
    subst e
    exact soldE_no hl hk _ g3
   ·rw [if_neg g3];rfl
theorem keyE_cr {l:List Pr} (hl:NoCl l) (me:Nat) (m:Mt) (D:List Nat):(keyE l me m D).1.cr = m.cr + (keyE l me m D).2.1:=by
 unfold keyE
 by_cases g:(parseE D).2.2.2.2 = 0
 ·rw [if_pos g]
  exact keyS_cr hl (parseE_tok g).1
 ·rw [if_neg g];rfl
theorem entP_cr {l:List Pr} {me:Nat} {p:Pk} {x:Kr} (hl:NoCl l) (h:x.Ok me p) (e:EntS):(entP l me x e).p.m.cr + x.ad = x.p.m.cr + (entP l me x e).ad:=by
 unfold entP
 split
 ·rfl
 ·have h1:=(Pk.to_ok h.ok (keyE_may (l:=l) (D:=e.1) h.ok.may)).2.2.1
  dsimp only
  rw [h1,keyE_cr hl]
  omega
theorem entsP_cr {l:List Pr} {me:Nat} {p:Pk} (hl:NoCl l):∀ (es:List EntS) (x:Kr),x.Ok me p → (entsP l me x es).p.m.cr + x.ad = x.p.m.cr + (entsP l me x es).ad
 | [],x,h => rfl
 | e :: es,x,h => by
  have h1:=entP_cr hl h e
  have h2:=entsP_cr hl es (entP l me x e) (entP_ok h e)
  show (entsP l me (entP l me x e) es).p.m.cr + x.ad = x.p.m.cr + (entsP l me (entP l me x e) es).ad
  omega
theorem textP_cr {l:List Pr} {me:Nat} {p:Pk} (hl:NoCl l) (h:p.Ok me) (s:ByteArray):(textP l me p s).p.m.cr = p.m.cr + (textP l me p s).ad:=by
 unfold textP
 split
 ·rfl
 ·split
  ·rfl
  ·exact entsP_cr hl (entsOf s) _ (Kr.Ok.begin h 0 0)
theorem tickP_cr {me:Nat} {p:Pk} (h:p.Ok me) (load:Nat):(tickP me p load).p.m.cr + (tickP me p load).ad = p.m.cr:=by
 have h1:=(Pk.to_ok h (tickM_may h.may load)).2.2.1
 unfold tickP
 dsimp only
 rw [h1]
 unfold tickM
 dsimp only
 omega
def Wd.cr (W:Wd) (j:Nat):Nat:=(W.P.getD j pk0).m.cr
theorem Wd.Ok.cr_le {T:Tm} {W:Wd} {m n j:Nat} (h:W.Ok T m n) (hj:j ≤ 2):W.cr j ≤ 99999999:=by
 have:=(h.pok j hj).may
 obtain ⟨a1,a2,a3,_⟩:=may_bounds this.1 this.2
 exact a3
theorem doP_cr {T:Tm} {W:Wd} {a:Ac} {m n:Nat} (hW:W.Ok T m n) (hl:NoCl W.lp) (ha:a.Ok) (j:Nat) :
 (a.k ≤ 5 → (doP T W a).1.cr j = W.cr j) ∧ (j ≠ a.me → (doP T W a).1.cr j = W.cr j) ∧ (a.cut = none → a.k = 6 → (doP T W a).1.cr a.me = W.cr a.me + (doP T W a).2.ad) ∧ (a.cut = none → a.k = 7 → (doP T W a).1.cr a.me + (doP T W a).2.ad = W.cr a.me):=by
 have hpl:=hW.pl
 have hme:=ha.me
 have h5:a.k ≤ 5 → (doP T W a).1.P = W.P:=fun h => (doP_srv h).2.2
 have h6:¬ a.k ≤ 5 → (doP T W a).1 = W.poc a.me (krP W a) a.cut ∧ (doP T W a).2 = tdC a.cut (krP W a).E (krP W a).ad ⟨#[]⟩ bil0:=fun h => by
  unfold doP
  rw [if_neg (by omega),if_neg h]
  exact ⟨rfl,rfl⟩
 have hg:∀ p:Pk,(W.P.set a.me p).getD a.me pk0 = p:=fun p => by rw [List.getD_eq_getElem?_getD,List.getElem?_set_self (by omega)];rfl
 have hall:¬ a.k ≤ 5 → a.cut = none → (doP T W a).1.P.getD a.me pk0 = (krP W a).p ∧ (doP T W a).2.ad = (krP W a).ad:=fun h hc => by
  obtain ⟨e1,e2⟩:=h6 h
  rw [e1,e2,hc]
  refine ⟨?_,rfl⟩
  show (W.P.set a.me _).getD a.me pk0 = _
  rw [hg]
  exact Kr.cut_all (Nat.le_refl _)
 refine ⟨fun h => ?_,fun h => ?_,fun hc h => ?_,fun hc h => ?_⟩
 ·unfold Wd.cr
  rw [h5 h]
 ·by_cases g:a.k ≤ 5
  ·unfold Wd.cr
   rw [h5 g]
  ·unfold Wd.cr
   rw [(h6 g).1]
   show ((W.P.set a.me _).getD j pk0).m.cr = _
   rw [List.getD_eq_getElem?_getD,List.getElem?_set_ne (fun e => h e.symm),← List.getD_eq_getElem?_getD]
 ·obtain ⟨e1,e2⟩:=hall (by omega) hc
  unfold Wd.cr
  rw [e1,e2]
  unfold krP
  rw [if_pos h]
  exact textP_cr hl (hW.pok _ hme) _
 ·obtain ⟨e1,e2⟩:=hall (by omega) hc
  unfold Wd.cr
  rw [e1,e2]
  unfold krP
  rw [if_neg (by omega)]
  exact tickP_cr (hW.pok _ hme) _
noncomputable def wAt (S:List Sn) (W:Wd) (j:Nat):Wd:=if h:j < S.length then S[j].W else W
theorem wAt_end (S:List Sn) (W:Wd):wAt S W S.length = W:=by unfold wAt;rw [dif_neg (Nat.lt_irrefl _)]
theorem wAt_at {S:List Sn} {W:Wd} {j:Nat} (h:j < S.length):wAt S W j = S[j].W:=by unfold wAt;rw [dif_pos h]
theorem Lived.chain {T:Tm} {sv:Bool} {S:List Sn} {tk:List Sd} {W:Wd} (h:Lived T sv S tk W):wAt S W 0 = wd0 ∧ ∀ j (hj:j < S.length),wAt S W (j + 1) = (doP T S[j].W S[j].a).1:=by
 induction h with
 | nil => exact ⟨rfl,fun j hj => absurd hj (Nat.not_lt_zero _)⟩
 | step s h hs ih =>
  rename_i S tk W
  obtain ⟨h1,h2⟩:=ih
  have hw:=hs.w
  have key:∀ j,j ≤ S.length → wAt (S ++ [s]) (doP T W s.a).1 j = wAt S W j:=fun j hj => by
   have hl:j < (S ++ [s]).length:=by rw [List.length_append,List.length_singleton];omega
   rw [wAt_at hl]
   by_cases g:j < S.length
   ·rw [List.getElem_append_left g,wAt_at g]
   ·obtain rfl:j = S.length:=by omega
    rw [List.getElem_append_right (Nat.le_refl _),wAt_end]
    simpa using hw
  refine ⟨by rw [key 0 (by omega)];exact h1,fun j hj => ?_⟩
  rw [List.length_append,List.length_singleton] at hj
  by_cases g:j < S.length
  ·rw [key (j + 1) (by omega),List.getElem_append_left g]
   exact h2 j g
  ·obtain rfl:j = S.length:=by omega
   have e:=wAt_end (S ++ [s]) (doP T W s.a).1
   rw [List.length_append,List.length_singleton] at e
   rw [e,List.getElem_append_right (Nat.le_refl _)]
   simp [hw]
theorem doP_lp {T:Tm} {W:Wd} {a:Ac} {m n:Nat} (hT:T.Ok) (hW:W.Ok T m n) (hn:n ≤ 62) (ha:a.Ok) (hm:a.k ≠ 1 → m = 3) :
 (doP T W a).1.lp = W.lp ∨ ∃ (cls id am tag:Nat) (x y d:Int),TkOk cls id am tag ∧ cls ≠ 1 ∧ (doP T W a).1.lp = issL W.lp x y ((tbody cls id am:Nat):Int) d:=by
 by_cases h5:a.k ≤ 5
 ·rw [(doP_srv (T:=T) (W:=W) h5).2.1]
  unfold arP
  by_cases h1:a.k = 1
  ·rw [if_pos h1];exact .inl rfl
  ·rw [if_neg h1,if_pos h5]
   dsimp only
   have hk:=ha.kind
   obtain rfl:=hm h1
   by_cases hE:(askR T W a.od).E = 0
   ·have e:(askR T W a.od).lp = (W.V T a.od).lp:=by
     show (if (W.V T a.od).E = 0 then (W.V T a.od).lp else W.lp) = _
     rw [if_pos (show (W.V T a.od).E = 0 from hE)]
    rw [e]
    by_cases hq:a.od.q = 0
    ·exact .inl (Od.V_lp0 hq).1
    ·have hr:=(Od.V_sale hq hE).2.2.1
     have hod:=ha.od (by omega) h5
     have q1:=hod.h1
     have q4:=hod.h4
     have q5:=hod.h5
     have hc:=hW.cus
     have hll:=hW.ll
     have hB:=hW.srv.bok hT
     have hi:a.od.me < W.B.length:=by omega
     have hgd:W.B.getD a.od.me cu0 = W.B[a.od.me]:=by simp [hi]
     have hao:=hB.h1 W.B[a.od.me] (List.getElem_mem hi)
     have hs:=hB.sold (List.getElem_mem hi)
     rw [← hgd] at hao hs
     have htk:=(Rq.tk (x:=a.od.rq) (T:=T) (a:=(W.B.getD a.od.me cu0).a) ⟨show a.od.me ≤ 49 by omega,show 1 ≤ a.od.te by omega,show a.od.te ≤ 100000000 by omega,show a.od.mo ≤ 2399 by omega⟩ hT hao.1 (by omega) hr).1
     obtain ⟨t1,t2,t3,t4,t5⟩:=htk
     refine .inr ⟨a.od.rq.cls,(a.od.rq.r T (W.B.getD a.od.me cu0).a).2.2.id,amP a.od.rq.cls (a.od.rq.r T (W.B.getD a.od.me cu0).a),0,(a.od.rq.me:Int),((W.B.getD a.od.me cu0).a.rev:Int),(a.od.d:Int),⟨t1,t2,t3,t4,by omega⟩,?_,?_⟩
     ·unfold Rq.cls;split <;> omega
     ·unfold Wd.V Od.V
      rw [if_neg hq]
      unfold saleP
      rw [svP_ok hr]
   ·exact .inl (askR_no hE).2.1
 ·exact .inl (doP_poc (T:=T) hW ha.me h5).2.1
theorem Lived.nocl {T:Tm} {sv:Bool} {S:List Sn} {tk:List Sd} {W:Wd} (h:Lived T sv S tk W) (hT:T.Ok) (hn:S.length ≤ 62):NoCl W.lp ∧ ∀ i (hi:i < S.length),NoCl S[i].W.lp:=by
 induction h with
 | nil => exact ⟨fun p hp => (nomatch (show p ∈ ([]:List Pr) from hp)),fun i hi => absurd hi (Nat.not_lt_zero _)⟩
 | step s h hs ih =>
  rename_i S tk W
  rw [List.length_append,List.length_singleton] at hn
  obtain ⟨h1,h2⟩:=ih (by omega)
  have hW:=(h.ok hT (by omega)).1
  refine ⟨?_,fun i hi => ?_⟩
  ·rcases doP_lp hT hW (by omega) hs.ok (fun q => by have:¬ S.length < 3:=fun g => q (hs.reg.2 g);omega) with e | ⟨cls,id,am,tag,x,y,d,hk,hc,e⟩
   ·rw [e];exact h1
   ·rw [e];exact h1.iss hk hc
  ·by_cases g:i < S.length
   ·rw [List.getElem_append_left g]
    exact h2 i g
   ·obtain rfl:i = S.length:=by simp at hi;omega
    rw [List.getElem_append_right (Nat.le_refl _)]
    simp only [Nat.sub_self,List.getElem_cons_zero]
    rw [hs.w]
    exact h1
structure BalS (T:Tm) (s:Sn) (a b mm:Nat):Prop where
 x:s.W.cr mm = a
 y:(doP T s.W s.a).1.cr mm = b
 bd:a ≤ 99999999 ∧ b ≤ 99999999
 ne:s.a.me ≠ mm → b = a
 k6:s.a.me = mm → s.a.cut = none → s.a.k = 6 → b = a + (doP T s.W s.a).2.ad
 k7:s.a.me = mm → s.a.cut = none → s.a.k = 7 → b + (doP T s.W s.a).2.ad = a
 k5:s.a.k ≠ 6 → s.a.k ≠ 7 → b = a
theorem Lived.bal {T:Tm} {sv:Bool} {S:List Sn} {tk:List Sd} {W:Wd} (h:Lived T sv S tk W) (hT:T.Ok) (hn:S.length ≤ 61) {mm:Nat} (hm:mm ≤ 2) :
 (wAt S W 0).cr mm = 0 ∧ (∀ j (hj:j < S.length),BalS T S[j] ((wAt S W j).cr mm) ((wAt S W (j + 1)).cr mm) mm) ∧ (wAt S W S.length).cr mm = (W.P.getD mm pk0).m.cr:=by
 obtain ⟨h1,h2⟩:=h.chain
 obtain ⟨_,h3⟩:=h.nocl hT (by omega)
 obtain ⟨_,h4⟩:=h.ok hT (by omega)
 refine ⟨?_,fun j hj => ?_,by rw [wAt_end];rfl⟩
 ·rw [h1]
  rcases (show mm = 0 ∨ mm = 1 ∨ mm = 2 by omega) with rfl | rfl | rfl <;> rfl
 ·have ok:=h4 j hj
  obtain ⟨tk9,hx⟩:=ok.nx
  have hU:=hx.next hT (by omega) ok.w
  obtain ⟨c1,c2,c3,c4⟩:=doP_cr (T:=T) ok.w (h3 j hj) ok.a mm
  rw [wAt_at hj,h2 j hj]
  have hk:=ok.a.kind
  exact ⟨rfl,rfl,⟨ok.w.cr_le hm,hU.cr_le hm⟩,fun g => c2 (Ne.symm g),fun g q1 q2 => g ▸ c3 q1 q2,fun g q1 q2 => g ▸ c4 q1 q2,fun q1 q2 => c1 (by omega)⟩
theorem rise_ok (T:Tm) (Ws W2:Wd) (m n m2 n2:Nat) (xs ys:Wv) (j k me aA aB aC E2 ad id te de fe pr ch un many:Nat) (sa st key:ByteArray) (ci:Int) (dead:Bool) (w:World) (hW:Ws.Ok T m n) (hW2:W2.Ok T m2 n2) (hj:j ≤ 2) (hx:xs.Is w T Ws) (hy:ys.Is w T W2) :
 Calls Tryz.prog 24 #[.agg #[.int .i64 ↑k,.int .i64 ↑me,.int .i64 ↑aA,.int .i64 ↑aB,.int .i64 ↑aC,.string sa,.int .i64 ci,.int .i64 ↑E2,.int .i64 ↑ad,.string st,.int .i64 ↑id,.int .i64 ↑te,.int .i64 ↑de,.int .i64 ↑fe,.int .i64 ↑pr,.int .i64 ↑ch,.int .i64 ↑un,.bool dead,.slice xs.At T.tl.length xs.ct,.int .i64 ↑T.fx,.int .i64 ↑T.fb,.int .i64 ↑T.db,.int .i64 ↑T.al,.slice xs.Ad Ws.c.length xs.cd,.slice xs.Ao Ws.lp.length xs.co,.slice xs.Ap 3 xs.cp,.slice ys.At T.tl.length ys.ct,.int .i64 ↑T.fx,.int .i64 ↑T.fb,.int .i64 ↑T.db,.int .i64 ↑T.al,.slice ys.Ad W2.c.length ys.cd,.slice ys.Ao W2.lp.length ys.co,.slice ys.Ap 3 ys.cp,.string key,.int .i64 ↑many],.int .i64 ↑j] w fun e w' => e = .returned (.tuple #[.int .i64 (((W2.P.getD j pk0).m.cr:Int) - ((Ws.P.getD j pk0).m.cr:Int)),.bool true]) ∧ Below w.heap.size w w':=by
 have hM1:=fun U h => meterIn_ok T Ws m n xs j U hW hj h
 have hM2:=fun U h => meterIn_ok T W2 m2 n2 ys j U hW2 hj h
 have ha:=(hW.pok j hj).may
 have hb:=(hW2.pok j hj).may
 obtain ⟨_,_,a3,_⟩:=may_bounds ha.1 ha.2
 obtain ⟨_,_,b3,_⟩:=may_bounds hb.1 hb.2
 clear ha hb
 generalize (Ws.P.getD j pk0).m = ma at *
 generalize (W2.P.getD j pk0).m = mb at *
 obtain ⟨r1,r2,r3,r4,r5,r6⟩:=ma
 obtain ⟨s1,s2,s3,s4,s5,s6⟩:=mb
 unfold Wv.vs Mt.v at hM1 hM2
 dsimp only at hM1 hM2 a3 b3 ⊢
 clear hW hW2
 have H:=Mem.init w
 replace H:=H.al w.heap.size #[.int .i64 ↑k,.int .i64 ↑me,.int .i64 ↑aA,.int .i64 ↑aB,.int .i64 ↑aC,.string sa,.int .i64 ci,.int .i64 ↑E2,.int .i64 ↑ad,.string st,.int .i64 ↑id,.int .i64 ↑te,.int .i64 ↑de,.int .i64 ↑fe,.int .i64 ↑pr,.int .i64 ↑ch,.int .i64 ↑un,.bool dead,.slice xs.At T.tl.length xs.ct,.int .i64 ↑T.fx,.int .i64 ↑T.fb,.int .i64 ↑T.db,.int .i64 ↑T.al,.slice xs.Ad Ws.c.length xs.cd,.slice xs.Ao Ws.lp.length xs.co,.slice xs.Ap 3 xs.cp,.slice ys.At T.tl.length ys.ct,.int .i64 ↑T.fx,.int .i64 ↑T.fb,.int .i64 ↑T.db,.int .i64 ↑T.al,.slice ys.Ad W2.c.length ys.cd,.slice ys.Ao W2.lp.length ys.co,.slice ys.Ap 3 ys.cp,.string key,.int .i64 ↑many] (51) |>.gen
 simp only [List.nil_append] at H
 obtain ⟨W0,hW0,H⟩:=H
 have hx0:=hx.below H.below
 have hy0:=hy.below H.below
 have Lsb:=H.c36 0 rfl
 go_enter Tryz.func24,Tryz.ntmps24
 go_wp2_with fail
 clear hW0 hx hy
 refine (hM1 _ hx0).mono ?_
 rintro e wa ⟨rfl,hba⟩
 have hy1:=hy0.below hba
 replace H:=Mem.call H hba
 clear hM1 hx0 hy0 hba
 clear Lsb
 have Lsb:=H.c36 0 rfl
 go_wp2_with fail
 replace H:=H.al wa.heap.size #[.int .i64 ↑j,.int .i64 ↑r1,.int .i64 ↑r2,.int .i64 ↑r3,.int .u64 (r4:Int),.int .i64 ↑r5,.int .i64 ↑r6] (81) |>.gen
 simp only [List.cons_append,List.nil_append] at H
 obtain ⟨wb,hwb,H⟩:=H
 rw [hwb]
 have hy2:ys.Is wb T W2:=by rw [← hwb];exact hy1.below (below_a1 wa _)
 clear hwb hy1
 refine (hM2 _ hy2).mono ?_
 rintro e wc ⟨rfl,hbc⟩
 replace H:=Mem.call H hbc
 clear hM2 hy2 hbc
 clear Lsb
 have Lm1:=H.c7 1 rfl
 go_wp2_with fail
 replace H:=H.al wc.heap.size #[.int .i64 ↑j,.int .i64 ↑s1,.int .i64 ↑s2,.int .i64 ↑s3,.int .u64 (s4:Int),.int .i64 ↑s5,.int .i64 ↑s6] (81) |>.gen
 simp only [List.cons_append,List.nil_append] at H
 obtain ⟨wd,hwd,H⟩:=H
 rw [hwd]
 clear hwd
 refine bodyPost_ret (v:=.tuple #[.int .i64 ((s2:Int) - (r2:Int)),.bool true]) (by simp [results,Tryz.results24,go_sem];done) rfl ?_
 exact ⟨rfl,H.below⟩
end Go.Proofs.YtfgiehkfcoodbaaGreat

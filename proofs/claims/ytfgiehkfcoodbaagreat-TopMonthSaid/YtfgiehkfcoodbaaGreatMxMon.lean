/- What a step does to the customers; numbers and months of tokens: plain. -/
import Derived.Test.YtfgiehkfcoodbaaGreatM48
namespace Go.Proofs.YtfgiehkfcoodbaaGreat
open Go.RowKit
set_option linter.unusedVariables false
set_option maxRecDepth 100000
set_option maxHeartbeats 16000000
theorem doP_B (T:Tm) (W:Wd) (a:Ac):(doP T W a).1.B=W.B∨(a.k=1∧(doP T W a).1.B=W.B ++ [⟨openP a.me,[]⟩])∨(a.k≠1∧a.k≤5∧(W.V T a.od).E=0∧(doP T W a).1.B=W.B.set a.me (a.od.c T (W.B.getD a.me cu0) W.lp)):=by
 unfold doP
 by_cases h1:a.k=1
 ·rw [if_pos h1]
  unfold Wd.srv
  rw [if_pos (show (regR W a.me).E=0 from rfl)]
  by_cases hc:cutK a.cut (regR W a.me).wl.length=(regR W a.me).wl.length
  ·rw [if_pos hc];exact .inr (.inl ⟨h1,rfl⟩)
  ·rw [if_neg hc];exact .inl rfl
 ·rw [if_neg h1]
  by_cases h5:a.k≤5
  ·rw [if_pos h5]
   unfold Wd.srv
   by_cases hE:(askR T W a.od).E=0
   ·rw [if_pos hE]
    by_cases hc:cutK a.cut (askR T W a.od).wl.length=(askR T W a.od).wl.length
    ·rw [if_pos hc]
     have hE2:(W.V T a.od).E=0:=hE
     refine .inr (.inr ⟨h1,h5,hE2,?_⟩)
     show (askR T W a.od).B2=_
     unfold askR
     rw [Ac.od_me]
    ·rw [if_neg hc];exact .inl rfl
   ·rw [if_neg hE];exact .inl rfl
  ·rw [if_neg h5];exact .inl rfl
structure Goes (a b:Acc):Prop where
 me:b.me=a.me
 next:a.next≤b.next
 month:a.month≤b.month
 free:b.free=a.free∨b.free=(b.month:Int)
theorem Goes.refl (a:Acc):Goes a a:=⟨rfl,Nat.le_refl _,Nat.le_refl _,.inl rfl⟩
theorem Od.goes {o:Od} {T:Tm} {c:Cu} {lp:List Pr} {n m:Nat} (h:(o.V T c.a lp n m).E=0):Goes c.a (o.c T c lp).a:=by
 unfold Od.V at h
 unfold Od.c
 by_cases hq:o.q=0
 ·rw [if_pos hq] at h ⊢
  have h0:(oweP c.a o.ow o.bp).1=0:=h
  have e:oweP c.a o.ow o.bp=(0,(oweP c.a o.ow o.bp).2):=by rw [← h0]
  have hn:=(oweP_ne e).1
  show Goes c.a (oweP c.a o.ow o.bp).2
  rw [hn]
  exact ⟨rfl,Nat.le_refl _,Nat.le_refl _,.inl rfl⟩
 ·rw [if_neg hq] at h ⊢
  unfold saleP at h
  rw [svP_E] at h
  show Goes c.a (o.rq.r T c.a).2.1
  have hm:=Rq.meq h
  have hx:=Rq.next h
  unfold Rq.r at h hm hx ⊢
  by_cases g1:o.rq.q=1
  ·simp only [g1,if_true] at h hm hx ⊢
   have e:grantP T c.a o.rq.mo=(0,(grantP T c.a o.rq.mo).2.1,(grantP T c.a o.rq.mo).2.2):=by rw [← h]
   have q:=grantP_ne e
   exact ⟨hm,by omega,by rw [q.2.2.2.2.1];exact q.1,.inr (by rw [q.2.2.2.2.2.1,q.2.2.2.2.1])⟩
  ·simp only [g1,if_false] at h hm hx ⊢
   by_cases g2:o.rq.q=2
   ·simp only [g2,if_true] at h hm hx ⊢
    have e:rekeyP c.a=(0,(rekeyP c.a).2.1,(rekeyP c.a).2.2):=by rw [← h]
    have q:=(rekeyP_ne e).1
    refine ⟨hm,by omega,?_,.inl ?_⟩
    ·rw [q];exact Nat.le_refl _
    ·rw [q]
   ·simp only [g2,if_false] at h hm hx ⊢
    have e:sellP T c.a o.rq.te o.rq.mo=(0,(sellP T c.a o.rq.te o.rq.mo).2.1,(sellP T c.a o.rq.te o.rq.mo).2.2):=by rw [← h]
    have q:=sellP_ne e
    exact ⟨hm,by omega,by rw [q.2.2.2.2.1];exact q.1,.inl q.2.2.2.2.2.1⟩
theorem doP_goes {T:Tm} {W:Wd} {a:Ac} {j:Nat} (hj:j < W.B.length):Goes (W.B.getD j cu0).a ((doP T W a).1.B.getD j cu0).a:=by
 rcases doP_B T W a with h | ⟨_,h⟩ | ⟨_,_,hE,h⟩
 ·rw [h];exact Goes.refl _
 ·rw [h,List.getD_eq_getElem?_getD,List.getD_eq_getElem?_getD,List.getElem?_append_left hj]
  exact Goes.refl _
 ·rw [h]
  by_cases e:a.me=j
  ·subst e
   rw [List.getD_eq_getElem?_getD (l:=W.B.set _ _),List.getElem?_set_self hj]
   unfold Wd.V at hE
   rw [Ac.od_me] at hE
   exact Od.goes hE
  ·rw [List.getD_eq_getElem?_getD (l:=W.B.set _ _),List.getElem?_set_ne e,← List.getD_eq_getElem?_getD]
   exact Goes.refl _
structure TkOk2 (W:Wd) (tk:List Sd):Prop where
 id:∀ t∈tk,t.me < W.B.length∧1≤t.b.id∧t.b.id < (W.B.getD t.me cu0).a.next
 mo:∀ t∈tk,t.k=3→t.mo≤(W.B.getD t.me cu0).a.month∧((W.B.getD t.me cu0).a.month=t.mo→(W.B.getD t.me cu0).a.free=(t.mo:Int))
def Rises (tk:List Sd):Prop:=tk.Pairwise fun s t => s.me=t.me→s.b.id < t.b.id∧¬ (s.k=3∧t.k=3∧s.mo=t.mo)
theorem TkOk2.goes {T:Tm} {W:Wd} {a:Ac} {tk:List Sd} {m m2 n n2:Nat} (h:TkOk2 W tk) (hW:W.Ok T m n) (hW2:(doP T W a).1.Ok T m2 n2) (hm:m≤m2):TkOk2 (doP T W a).1 tk:=by
 have c1:=hW.cus
 have c2:=hW2.cus
 refine ⟨fun t ht => ?_,fun t ht hk => ?_⟩
 ·obtain ⟨q1,q2,q3⟩:=h.id t ht
  have g:=doP_goes (T:=T) (a:=a) q1
  exact ⟨by omega,q2,Nat.lt_of_lt_of_le q3 g.next⟩
 ·obtain ⟨q1,_,_⟩:=h.id t ht
  obtain ⟨r1,r2⟩:=h.mo t ht hk
  have g:=doP_goes (T:=T) (a:=a) q1
  refine ⟨Nat.le_trans r1 g.month,fun e => ?_⟩
  rcases g.free with f | f
  ·rw [f]
   refine r2 ?_
   have:=g.month
   omega
  ·rw [f,e]
theorem Lived.rises {T:Tm} {sv:Bool} {S:List Sn} {tk:List Sd} {W:Wd} (h:Lived T sv S tk W) (hT:T.Ok) (hn:S.length≤62):TkOk2 W tk∧Rises tk:=by
 induction h with
 | nil => exact ⟨⟨fun t ht => absurd ht (by simp),fun t ht => absurd ht (by simp)⟩,List.Pairwise.nil⟩
 | step s h hs ih =>
  rename_i S tk W
  rw [List.length_append,List.length_singleton] at hn
  obtain ⟨h1,h2⟩:=ih (by omega)
  have hW:=(h.ok hT (by omega)).1
  have hW2:=hs.next hT (by omega) hW
  have h3:=h1.goes hW hW2 (by omega)
  unfold tkN
  by_cases g:(doP T W s.a).2.s.size=0
  ·rw [if_pos g]
   exact ⟨h3,h2⟩
  ·rw [if_neg g]
   have hd:=hds_of hs.ok g
   have hk1:=hd.k1
   have h33:¬ S.length < 3:=fun q => by have:=hs.reg.2 q;omega
   rw [show min 3 S.length=3 by omega] at hW
   obtain ⟨cls,am,tag,ht⟩:=hd.told hT hW (by omega) hs.ok
   have hme:=hs.ok.me
   have hcu:=hW.cus
   have hcu2:=hW2.cus
   have hid:=ht.id
   have hn1:(W.B.getD s.a.me cu0).a.next+1=((doP T W s.a).1.B.getD s.a.me cu0).a.next:=by
    rw [hd.w]
    dsimp only
    rw [List.getD_eq_getElem?_getD (l:=W.B.set _ _),List.getElem?_set_self (by omega)]
    have hq:s.a.od.q≠0:=fun q => by have:=(Ac.od_q s.a).1 q;have:=hd.k2;omega
    unfold Od.c
    rw [if_neg hq]
    exact (Rq.next hd.r).symm
   have hgr:s.a.k=3→((W.B.getD s.a.me cu0).a.month≤s.a.A∧(W.B.getD s.a.me cu0).a.free≠(s.a.A:Int))∧((doP T W s.a).1.B.getD s.a.me cu0).a.month=s.a.A∧((doP T W s.a).1.B.getD s.a.me cu0).a.free=(s.a.A:Int):=fun k3 => by
    have ho:s.a.od=⟨1,s.a.me,1,0,1,s.a.A,s.a.C⟩:=by unfold Ac.od;rw [if_neg (by omega),if_pos k3]
    have hr:=hd.r
    rw [hd.w]
    dsimp only
    rw [List.getD_eq_getElem?_getD (l:=W.B.set _ _),List.getElem?_set_self (by omega)]
    rw [ho] at hr ⊢
    have hr2:(grantP T (W.B.getD s.a.me cu0).a s.a.A).1=0:=hr
    have e:grantP T (W.B.getD s.a.me cu0).a s.a.A=(0,(grantP T (W.B.getD s.a.me cu0).a s.a.A).2.1,(grantP T (W.B.getD s.a.me cu0).a s.a.A).2.2):=by rw [← hr2]
    have q:=grantP_ne e
    exact ⟨⟨q.1,q.2.2.2.2.2.2.1⟩,q.2.2.2.2.1,q.2.2.2.2.2.1⟩
   refine ⟨⟨fun t hm => ?_,fun t hm hk => ?_⟩,?_⟩
   ·rcases List.mem_append.1 hm with hm | hm
    ·exact h3.id t hm
    ·obtain rfl:t=_:=by simpa using hm
     show s.a.me < _∧1≤(doP T W s.a).2.b.id∧(doP T W s.a).2.b.id < _
     rw [hid]
     exact ⟨by omega,ht.tk.h2,by show _ < ((doP T W s.a).1.B.getD s.a.me cu0).a.next;omega⟩
   ·rcases List.mem_append.1 hm with hm | hm
    ·exact h3.mo t hm hk
    ·obtain rfl:t=_:=by simpa using hm
     have k3:s.a.k=3:=hk
     obtain ⟨_,q1,q2⟩:=hgr k3
     show (if s.a.k=3 then s.a.A else s.a.B)≤((doP T W s.a).1.B.getD s.a.me cu0).a.month∧(_→((doP T W s.a).1.B.getD s.a.me cu0).a.free=_)
     rw [if_pos k3,q1,q2]
     exact ⟨Nat.le_refl _,fun _ => by show (s.a.A:Int)=((if s.a.k=3 then s.a.A else s.a.B:Nat):Int);rw [if_pos k3]⟩
   ·unfold Rises
    rw [List.pairwise_append]
    refine ⟨h2,List.pairwise_singleton _ _,fun t hm u hu hme2 => ?_⟩
    obtain rfl:u=_:=by simpa using hu
    have hme3:t.me=s.a.me:=hme2
    obtain ⟨q1,q2,q3⟩:=h1.id t hm
    rw [hme3] at q3
    refine ⟨by show t.b.id < (doP T W s.a).2.b.id;rw [hid];exact q3,fun ⟨k1,k2,k3⟩ => ?_⟩
    have k2:s.a.k=3:=k2
    have k3:t.mo=(if s.a.k=3 then s.a.A else s.a.B):=k3
    rw [if_pos k2] at k3
    obtain ⟨r1,r2⟩:=h1.mo t hm k1
    rw [hme3,k3] at r1 r2
    obtain ⟨⟨p1,p2⟩,_⟩:=hgr k2
    exact p2 (r2 (by omega))
theorem pad_ne (k n:Nat):(pad (k+1) n).length≠0:=by
 unfold pad
 rw [List.length_append,List.length_replicate]
 omega
theorem doP_no {T:Tm} {W:Wd} {a:Ac} (ha:a.Ok) (h:¬ Hds T W a):(doP T W a).2.b=bil0:=by
 have hk:=ha.kind
 by_cases hc:a.cut=none
 ·unfold doP tdC
  rw [hc]
  by_cases h1:a.k=1
  ·rw [if_pos h1];rfl
  ·rw [if_neg h1]
   by_cases h5:a.k≤5
   ·rw [if_pos h5]
    show (askR T W a.od).b=bil0
    by_cases hE:(askR T W a.od).E=0
    ·have hq:a.od.q=0:=by
      refine Classical.byContradiction fun hq => h ?_
      have hs:(doP T W a).2.s.size≠0:=by
       have e:(doP T W a).2.s=(W.V T a.od).s:=by
        unfold doP tdC
        rw [hc,if_neg h1,if_pos h5]
        rfl
       rw [e]
       show ((a.od.V T (W.B.getD a.od.me cu0).a W.lp 900 W.L.length).s).size≠0
       rw [(Od.V_sale hq hE).2.2.2,dstr_size]
       unfold tokD
       exact pad_ne _ _
      exact hds_of ha hs
     exact (Od.V_lp0 hq).2.2.2
    ·exact (askR_no hE).2.2.2
   ·rw [if_neg h5];rfl
 ·cases e:a.cut with
  | none => exact absurd e hc
  | some k => rw [doP_td,e];rfl
theorem Sn.Ok.money {T:Tm} {sv:Bool} {i:Nat} {s:Sn} (h:s.Ok T sv i) (hT:T.Ok) (hi:i≤62) :
 ((doP T s.W s.a).2.s.size=0→(doP T s.W s.a).2.b=bil0)∧((doP T s.W s.a).2.s.size≠0→(doP T s.W s.a).2.b.te=(doP T s.W s.a).2.b.de+(doP T s.W s.a).2.b.fe+(doP T s.W s.a).2.b.pr+(doP T s.W s.a).2.b.ch∧(s.a.k=2→(doP T s.W s.a).2.b.te=s.a.A∧1≤(doP T s.W s.a).2.b.un)∧(s.a.k≠2→(doP T s.W s.a).2.b.te=0)):=by
 have key:Hds T s.W s.a→∃ cls am tag,Tol T s.W s.a cls am tag:=fun hd => by
  have h1:=hd.k1
  have h3:¬ i < 3:=fun q => by have:=h.reg.2 q;omega
  have hW:=h.w
  rw [show min 3 i=3 by omega] at hW
  exact hd.told hT hW hi h.a
 refine ⟨fun h0 => doP_no h.a fun hd => ?_,fun h0 => ?_⟩
 ·obtain ⟨_,_,_,ht⟩:=key hd
  rw [ht.size] at h0
  cases h0
 ·have hd:=hds_of h.a h0
  obtain ⟨_,_,_,ht⟩:=key hd
  have h1:=hd.k1
  have h2:=hd.k2
  refine ⟨ht.sum,fun q => ⟨(ht.k2 q).2.2.1,(ht.k2 q).2.2.2⟩,fun q => ?_⟩
  rcases (show s.a.k=3∨s.a.k=4 by omega) with e | e
  ·exact (ht.k3 e).2.2
  ·exact (ht.k4 e).2.2.2
def Ev.bil (v:Ev):Bil:=⟨v.id,v.te,v.de,v.fe,v.pr,v.ch,v.un⟩
def Ev.tok (v:Ev):Bool:=v.k == 2 || v.k == 3 || v.k == 4
def toksE (L:List Ev):List (Nat×Bil):=(L.filter Ev.tok).map fun v => (v.me,v.bil)
def monS (me:Nat) (x:Nat×Nat) (v:Ev):Nat×Nat:=if v.me=me then ((if x.1 < v.mo then v.mo else x.1),(if x.1 < v.mo then 0 else x.2)+(if v.k=2 then v.un else 0)) else x
def monE (me:Nat) (L:List Ev):Nat×Nat:=L.foldl (monS me) (0,0)
theorem monE_add (me:Nat) (L:List Ev) (v:Ev):monE me (L ++ [v])=monS me (monE me L) v:=by unfold monE;rw [List.foldl_append];rfl
theorem toksE_add (L:List Ev) (v:Ev):toksE (L ++ [v])=toksE L ++ (if v.tok=true then [(v.me,v.bil)] else []):=by
 unfold toksE
 rw [List.filter_append,List.map_append]
 congr 1
 by_cases h:v.tok=true
 ·rw [if_pos h];simp [h]
 ·rw [if_neg h];simp [h]
def MonOk (W:Wd):Prop:=∀ me,monE me W.L=((W.B.getD me cu0).a.month,(W.B.getD me cu0).a.bought)
theorem rollP_1 {a:Acc} {m:Nat} (h:a.month≤m):(rollP a.month a.bought a.l m).1=if a.month < m then 0 else a.bought:=by
 unfold rollP
 by_cases g:a.month < m
 ·rw [if_pos g,if_pos g]
 ·rw [if_neg g,if_neg g]
theorem getD_set_ne {B:List Cu} {i j:Nat} {c:Cu} (h:i≠j):(B.set i c).getD j cu0=B.getD j cu0:=by
 rw [List.getD_eq_getElem?_getD,List.getElem?_set_ne h,← List.getD_eq_getElem?_getD]
theorem getD_set_eq {B:List Cu} {i:Nat} {c:Cu} (h:i < B.length):(B.set i c).getD i cu0=c:=by
 rw [List.getD_eq_getElem?_getD,List.getElem?_set_self h];rfl
theorem Rq.mon {T:Tm} {a:Acc} {x:Rq} {t:Nat} (h:(x.r T a).1=0):((x.r T a).2.1.month,(x.r T a).2.1.bought)=monS x.me (a.month,a.bought) (evP x.k x.me x.m t (x.r T a).2.2):=by
 unfold monS evP
 dsimp only
 rw [if_pos rfl]
 unfold Rq.r Rq.k Rq.m at *
 by_cases g1:x.q=1
 ·have g2:¬ x.q=2:=by omega
  simp only [g1,if_true] at h ⊢
  simp only [show ¬ ((1:Nat)=2) by decide,if_false] at h ⊢
  have e:grantP T a x.mo=(0,(grantP T a x.mo).2.1,(grantP T a x.mo).2.2):=by rw [← h]
  have q:=grantP_ne e
  rw [q.2.2.2.2.1,q.2.2.2.2.2.2.2.2.1,rollP_1 q.1]
  have q1:=q.1
  simp only [show ¬ ((3:Nat)=2) by decide,if_false,Nat.add_zero]
  split
  ·rfl
  ·rw [show x.mo=a.month by omega]
 ·simp only [g1,if_false] at h ⊢
  by_cases g2:x.q=2
  ·simp only [g2,if_true] at h ⊢
   have e:rekeyP a=(0,(rekeyP a).2.1,(rekeyP a).2.2):=by rw [← h]
   rw [(rekeyP_ne e).1]
   simp
  ·simp only [g2,if_false,if_true] at h ⊢
   have e:sellP T a x.te x.mo=(0,(sellP T a x.te x.mo).2.1,(sellP T a x.te x.mo).2.2):=by rw [← h]
   have q:=sellP_ne e
   rw [q.2.2.2.2.1,q.2.2.2.2.2.2.2.2.2.1,rollP_1 q.1]
   have q1:=q.1
   split
   ·rfl
   ·rw [show x.mo=a.month by omega]
theorem Lived.mon {T:Tm} {S:List Sn} {tk:List Sd} {W:Wd} (h:Lived T false S tk W) (hT:T.Ok) (hn:S.length≤62):MonOk W∧toksE W.L=tk.map (fun t => (t.me,t.b))∧∀ v∈W.L,v.me≤2:=by
 induction h with
 | nil => exact ⟨fun me => rfl,rfl,fun v hv => (nomatch (show v∈([]:List Ev) from hv))⟩
 | step s h hs ih =>
  rename_i S tk W
  rw [List.length_append,List.length_singleton] at hn
  obtain ⟨h1,h2,h3⟩:=ih (by omega)
  have hW:=(h.ok hT (by omega)).1
  have ha:=hs.ok
  have hme:=ha.me
  have hcu:=hW.cus
  have hk:=ha.kind
  unfold tkN
  by_cases k5:s.a.k≤5
  ·have hc:=hs.sv rfl k5
   by_cases k1:s.a.k=1
   ·have hi:=hs.reg.1 k1
    have hat:=(hs.at_ k1).1
    have hd:doP T W s.a=(⟨applyW W.c (regR W s.a.me).wl,W.L ++ [regV s.a.me],W.B ++ [⟨openP s.a.me,[]⟩],W.lp,W.P⟩,⟨0,0,⟨#[]⟩,bil0,false⟩):=by
     unfold doP
     rw [if_pos k1,hc]
     unfold Wd.srv
     rw [if_pos (show (regR W s.a.me).E=0 from rfl),if_pos (show cutK none (regR W s.a.me).wl.length=(regR W s.a.me).wl.length from rfl)]
     rfl
    rw [hd,if_pos (show (⟨#[]⟩:ByteArray).size=0 from rfl)]
    dsimp only
    refine ⟨fun me => ?_,?_,fun v hv => ?_⟩
    ·dsimp only
     rw [monE_add,h1 me]
     have e:((W.B ++ [(⟨openP s.a.me,[]⟩:Cu)]).getD me cu0).a.month=(W.B.getD me cu0).a.month∧((W.B ++ [(⟨openP s.a.me,[]⟩:Cu)]).getD me cu0).a.bought=(W.B.getD me cu0).a.bought:=by
      rw [List.getD_eq_getElem?_getD,List.getD_eq_getElem?_getD]
      by_cases g:me < W.B.length
      ·rw [List.getElem?_append_left g];exact ⟨rfl,rfl⟩
      ·rw [List.getElem?_append_right (by omega),List.getElem?_eq_none (by omega:W.B.length≤me)]
       by_cases g2:me=W.B.length
       ·subst g2;simp [openP,cu0,acc0]
       ·rw [List.getElem?_eq_none (by simp;omega)];exact ⟨rfl,rfl⟩
     rw [e.1,e.2]
     unfold monS regV
     dsimp only
     split <;> simp
    ·rw [toksE_add,h2,if_neg (fun h:(regV s.a.me).tok=true => Bool.noConfusion (show false=true from h)),List.append_nil]
    ·rcases List.mem_append.1 hv with hv | hv
     ·exact h3 v hv
     ·obtain rfl:=List.mem_singleton.1 hv
      exact hme
   ·have h33:¬ S.length < 3:=fun q => k1 (hs.reg.2 q)
    rw [show min 3 S.length=3 by omega] at hW hcu
    have hd:doP T W s.a=(W.srv (askR T W s.a.od) none,tdC none (askR T W s.a.od).E 0 (askR T W s.a.od).s (askR T W s.a.od).b):=by
     unfold doP
     rw [if_neg k1,if_pos k5,hc]
    have hom:=Ac.od_me s.a
    by_cases hE:(W.V T s.a.od).E=0
    ·have hA:(askR T W s.a.od).E=0:=hE
     have hw:(doP T W s.a).1.L=W.L ++ [s.a.od.v T (W.B.getD s.a.me cu0).a W.lp]∧(doP T W s.a).1.B=W.B.set s.a.me (s.a.od.c T (W.B.getD s.a.me cu0) W.lp):=by
      rw [hd]
      unfold Wd.srv
      rw [if_pos hA,if_pos (show cutK none (askR T W s.a.od).wl.length=(askR T W s.a.od).wl.length from rfl),← hom]
      exact ⟨rfl,rfl⟩
     have hts:(doP T W s.a).2.s=(W.V T s.a.od).s∧(doP T W s.a).2.b=(W.V T s.a.od).b:=by rw [hd];exact ⟨rfl,rfl⟩
     have hl:s.a.me < W.B.length:=by omega
     by_cases hq:s.a.od.q=0
     ·have ev:s.a.od.v T (W.B.getD s.a.me cu0).a W.lp=chgV s.a.me s.a.od.ow s.a.od.bp:=by unfold Od.v;rw [if_pos hq,hom]
      have ec:s.a.od.c T (W.B.getD s.a.me cu0) W.lp=⟨(oweP (W.B.getD s.a.me cu0).a s.a.od.ow s.a.od.bp).2,(W.B.getD s.a.me cu0).s⟩:=by unfold Od.c;rw [if_pos hq]
      have h0:(oweP (W.B.getD s.a.me cu0).a s.a.od.ow s.a.od.bp).1=0:=by
       unfold Wd.V Od.V at hE
       rw [if_pos hq,hom] at hE
       exact hE
      have eo:oweP (W.B.getD s.a.me cu0).a s.a.od.ow s.a.od.bp=(0,(oweP (W.B.getD s.a.me cu0).a s.a.od.ow s.a.od.bp).2):=by rw [← h0]
      have hn2:=(oweP_ne eo).1
      have es:(W.V T s.a.od).s=⟨#[]⟩:=(Od.V_lp0 hq).2.1
      rw [ev,ec] at hw
      rw [hts.1,es,if_pos (show (⟨#[]⟩:ByteArray).size=0 from rfl)]
      refine ⟨fun me => ?_,?_,fun v hv => ?_⟩
      ·rw [hw.1,hw.2,monE_add,h1 me]
       by_cases g:s.a.me=me
       ·subst g
        rw [getD_set_eq hl]
        dsimp only
        rw [hn2]
        unfold monS chgV
        simp
       ·rw [getD_set_ne g]
        unfold monS chgV
        dsimp only
        rw [if_neg g]
      ·rw [hw.1,toksE_add,h2,if_neg (fun h:(chgV s.a.me s.a.od.ow s.a.od.bp).tok=true => Bool.noConfusion (show false=true from h)),List.append_nil]
      ·rw [hw.1] at hv
       rcases List.mem_append.1 hv with hv | hv
       ·exact h3 v hv
       ·obtain rfl:=List.mem_singleton.1 hv
        exact hme
     ·have hr:=(Od.V_sale hq hE).2.2.1
      have hb:(W.V T s.a.od).b=(s.a.od.rq.r T (W.B.getD s.a.od.me cu0).a).2.2:=(Od.V_sale hq hE).2.1
      have hs4:=(Od.V_sale hq hE).2.2.2
      rw [hom] at hr hb
      have hsz:(W.V T s.a.od).s.size≠0:=by
       rw [show (W.V T s.a.od).s=_ from hs4,dstr_size]
       unfold tokD
       exact pad_ne _ _
      have ev:s.a.od.v T (W.B.getD s.a.me cu0).a W.lp=evP s.a.od.rq.k s.a.me s.a.od.rq.m (tagP W.lp s.a.od.rq.me (W.B.getD s.a.me cu0).a.rev s.a.od.rq.cls s.a.od.d (s.a.od.rq.r T (W.B.getD s.a.me cu0).a)) (s.a.od.rq.r T (W.B.getD s.a.me cu0).a).2.2:=by
       unfold Od.v
       rw [if_neg hq]
       unfold saleV
       rw [show s.a.od.rq.me=s.a.me from hom]
      have ec:(s.a.od.c T (W.B.getD s.a.me cu0) W.lp).a=(s.a.od.rq.r T (W.B.getD s.a.me cu0).a).2.1:=by unfold Od.c;rw [if_neg hq]
      have hmon:=Rq.mon (T:=T) (a:=(W.B.getD s.a.me cu0).a) (x:=s.a.od.rq) (t:=tagP W.lp s.a.od.rq.me (W.B.getD s.a.me cu0).a.rev s.a.od.rq.cls s.a.od.d (s.a.od.rq.r T (W.B.getD s.a.me cu0).a)) hr
      rw [show s.a.od.rq.me=s.a.me from hom] at hmon ev
      obtain ⟨v,hv0⟩:∃ v,s.a.od.v T (W.B.getD s.a.me cu0).a W.lp=v:=⟨_,rfl⟩
      rw [← ev,hv0] at hmon
      rw [hv0] at ev hw
      have hvk:v.tok=true:=by
       rw [ev]
       unfold Ev.tok evP Rq.k
       dsimp only
       split
       ·rfl
       ·split <;> rfl
      have hvm:v.me=s.a.me:=by rw [ev];rfl
      have hvb:v.bil=(s.a.od.rq.r T (W.B.getD s.a.me cu0).a).2.2:=by rw [ev];rfl
      rw [if_neg (by rw [hts.1];exact hsz)]
      refine ⟨fun me => ?_,?_,fun u hu => ?_⟩
      ·rw [hw.1,hw.2,monE_add,h1 me]
       by_cases g:s.a.me=me
       ·subst g
        rw [getD_set_eq hl,ec,hmon]
       ·rw [getD_set_ne g]
        unfold monS
        rw [if_neg (by rw [hvm];exact g)]
      ·rw [hw.1,toksE_add,h2,if_pos hvk,List.map_append,hvm,hvb]
       congr 1
       show _=[(s.a.me,(doP T W s.a).2.b)]
       rw [hts.2,hb]
      ·rw [hw.1] at hu
       rcases List.mem_append.1 hu with hu | hu
       ·exact h3 u hu
       ·obtain rfl:=List.mem_singleton.1 hu
        rw [hvm];exact hme
    ·have hA:¬ (askR T W s.a.od).E=0:=hE
     have hw:(doP T W s.a).1=W:=by
      rw [hd]
      unfold Wd.srv
      rw [if_neg hA]
     have es:(doP T W s.a).2.s=⟨#[]⟩:=by rw [hd];exact (askR_no hE).2.2.1
     rw [hw,es,if_pos (show (⟨#[]⟩:ByteArray).size=0 from rfl)]
     exact ⟨h1,h2,h3⟩
  ·have hd:doP T W s.a=(W.poc s.a.me (krP W s.a) s.a.cut,tdC s.a.cut (krP W s.a).E (krP W s.a).ad ⟨#[]⟩ bil0):=by
    unfold doP
    rw [if_neg (by omega),if_neg k5]
   have es:(doP T W s.a).2.s=⟨#[]⟩:=by
    rw [hd]
    unfold tdC
    split <;> rfl
   rw [es,if_pos (show (⟨#[]⟩:ByteArray).size=0 from rfl),hd]
   exact ⟨h1,h2,h3⟩
theorem toksE_app (L M:List Ev):toksE (L ++ M)=toksE L ++ toksE M:=by unfold toksE;rw [List.filter_append,List.map_append]
theorem take_one {L:List Ev} {j:Nat} (h:j < L.length):L.take (j+1)=L.take j ++ [L[j]]:=by
 rw [List.take_add_one,List.getElem?_eq_getElem h];rfl
theorem toksE_at {L:List Ev} {tk:List Sd} (h:toksE L=tk.map (fun t => (t.me,t.b))) {j q:Nat} (hj:j < L.length) (hq:(toksE (L.take j)).length=q) (ht:L[j].tok=true) :
 ∃ hl:q < tk.length,tk[q].me=L[j].me∧tk[q].b=L[j].bil:=by
 subst hq
 have e:toksE L=toksE (L.take j) ++ (L[j].me,L[j].bil) :: toksE (L.drop (j+1)):=by
  have e0:toksE L=toksE (L.take (j+1) ++ L.drop (j+1)):=by rw [List.take_append_drop]
  rw [e0,toksE_app,take_one hj,toksE_add,if_pos ht,List.append_assoc]
  rfl
 have hl:(toksE (L.take j)).length < tk.length:=by
  have:=congrArg List.length (e.symm.trans h)
  simp only [List.length_append,List.length_cons,List.length_map] at this
  omega
 refine ⟨hl,?_⟩
 have hg:(tk.map (fun t => (t.me,t.b)))[(toksE (L.take j)).length]?=some (L[j].me,L[j].bil):=by
  rw [← h,e,List.getElem?_append_right (Nat.le_refl _),Nat.sub_self]
  rfl
 rw [List.getElem?_map,List.getElem?_eq_getElem hl] at hg
 have hg2:some ((tk[(toksE (L.take j)).length]).me,(tk[(toksE (L.take j)).length]).b)=some (L[j].me,L[j].bil):=hg
 injection hg2 with hg3
 injection hg3 with h1 h2
 exact ⟨h1,h2⟩
theorem toksE_cnt {L:List Ev} {j:Nat} (hj:j < L.length):(toksE (L.take (j+1))).length=(toksE (L.take j)).length+(if L[j].tok=true then 1 else 0):=by
 rw [take_one hj,toksE_add,List.length_append]
 by_cases h:L[j].tok=true
 ·rw [if_pos h,if_pos h];rfl
 ·rw [if_neg h,if_neg h];rfl
theorem monE_take (me:Nat) {L:List Ev} {j:Nat} (hj:j < L.length):monE me (L.take (j+1))=monS me (monE me (L.take j)) L[j]:=by rw [take_one hj,monE_add]
theorem toksE_all {L:List Ev} {tk:List Sd} (h:toksE L=tk.map (fun t => (t.me,t.b))):(toksE L).length=tk.length:=by rw [h,List.length_map]
theorem monE_le (me K:Nat) {L:List Ev} (h:∀ v∈L,v.un < K):∀ j,j≤L.length→(monE me (L.take j)).2≤j * K:=by
 intro j
 induction j with
 | zero => intro _;simp [monE]
 | succ j ih =>
  intro hj
  have h1:=ih (by omega)
  have h2:=h L[j] (List.getElem_mem (by omega))
  rw [monE_take me (by omega),Nat.succ_mul]
  generalize j * K=J at h1 ⊢
  unfold monS
  split
  ·dsimp only
   have h3:(if (monE me (L.take j)).1 < L[j].mo then 0 else (monE me (L.take j)).2)≤J:=by split <;> omega
   have h4:(if L[j].k=2 then L[j].un else 0)≤K:=by split <;> omega
   omega
  ·omega
theorem mon3 (f:Nat→Nat×Nat) (me:Nat) (hm:me≤2) (v:Nat×Nat) (g:Nat→Nat×Nat) (h:∀ i,g i=if me=i then v else f i) :
 (#[Value.int .i64 ((f 0).1:Int),.int .i64 ((f 1).1:Int),.int .i64 ((f 2).1:Int)].setIfInBounds me (.int .i64 ↑v.1))=#[.int .i64 ((g 0).1:Int),.int .i64 ((g 1).1:Int),.int .i64 ((g 2).1:Int)] ∧
 (#[Value.int .i64 ((f 0).2:Int),.int .i64 ((f 1).2:Int),.int .i64 ((f 2).2:Int)].setIfInBounds me (.int .i64 ↑v.2))=#[.int .i64 ((g 0).2:Int),.int .i64 ((g 1).2:Int),.int .i64 ((g 2).2:Int)]:=by
 rw [h 0,h 1,h 2]
 rcases (show me=0∨me=1∨me=2 by omega) with rfl | rfl | rfl <;> exact ⟨rfl,rfl⟩
theorem set_twice (a b c:Value) (me:Nat) (hm:me≤2) (x y:Value):((#[a,b,c].setIfInBounds me x).setIfInBounds me y)=#[a,b,c].setIfInBounds me y:=by
 rcases (show me=0∨me=1∨me=2 by omega) with rfl | rfl | rfl <;> rfl
theorem mon_next {L:List Ev} {j me mo k un lm um:Nat} (v:Ev) (hme:v.me=me) (hmo:v.mo=mo) (hk:v.k=k) (hun:v.un=un) (hmt:∀ i,monE i (L.take (j+1))=monS i (monE i (L.take j)) v) (hlm:monE me (L.take j)=(lm,um)) :
 ∀ i,monE i (L.take (j+1))=if me=i then ((if lm < mo then mo else lm),(if lm < mo then 0 else um)+(if k=2 then un else 0)) else monE i (L.take j):=by
 intro i
 subst hme hmo hk hun
 rw [hmt i]
 unfold monS
 by_cases e:v.me=i
 ·rw [if_pos e,if_pos e]
  subst e
  rw [hlm]
 ·rw [if_neg e,if_neg e]
end Go.Proofs.YtfgiehkfcoodbaaGreat

/- The frame rule: what a call does to some chunks leaves the others as they were. -/
import Derived.Test.YtfgiehkfcoodbaaGreatM48
import Derived.Test.YtfgiehkfcoodbaaGreatM49
import Derived.Laws.RangeString
namespace Go.Proofs.YtfgiehkfcoodbaaGreat
open Go.RowKit
set_option linter.unusedVariables false
set_option maxRecDepth 100000
set_option maxHeartbeats 16000000
theorem Chunk.keptG {w w':World} {Gs:List Nat} {c:Chunk} (h:c.ok w) (K:Keep w Gs w') (hn:∀ k,c.num=some k→k ∉ Gs):c.ok w':=by
 have hlt:=Chunk.lt h
 cases c with
 | blk g t cs => exact (K.block g (hlt g rfl) (hn g rfl)).trans h
 | row base e size v n xs =>
  have h0:w.ownsRow base e size v n xs:=h
  refine (⟨h0.1,?_⟩:w'.ownsRow base e size v n xs)
  rcases h0.2 with h2 | ⟨g,cap,cur,rfl,hb,hg,hr⟩
  ·exact .inl h2
  ·exact .inr ⟨g,cap,cur,rfl,hb,(K.block g (hlt g rfl) (hn g rfl)).trans hg,hr⟩
 | obj g o => exact (K.block g (hlt g rfl) (hn g rfl)).trans h
theorem Mem.rebaseN {w0 w:World} {G:List Nat} {l:List Chunk} (H:Mem w0 G w l) (n:Nat):Mem w ((l.take n).filterMap Chunk.num) w (l.take n) :=
 Mem.rebase (w0:=w0) (G:=G) ⟨H.keep,fun c hc => H.ok c (List.mem_of_mem_take hc),H.pair.sublist (List.take_sublist n l),fun c hc => H.own c (List.mem_of_mem_take hc)⟩
theorem Mem.frameN {w0 w w':World} {G:List Nat} {l l':List Chunk} (H:Mem w0 G w l) (n:Nat) (K:Mem w ((l.take n).filterMap Chunk.num) w' l'):Mem w0 G w' (l' ++ l.drop n):=by
 have hp:=H.pair
 rw [← List.take_append_drop n l,List.pairwise_append] at hp
 obtain ⟨p1,p2,p12⟩:=hp
 have hL:Mem w0 G w (l.take n):=⟨H.keep,fun c hc => H.ok c (List.mem_of_mem_take hc),p1,fun c hc => H.own c (List.mem_of_mem_take hc)⟩
 have hU:=hL.unbase K
 refine ⟨hU.keep,fun c hc => ?_,?_,fun c hc k hk => ?_⟩
 ·rcases List.mem_append.1 hc with hc | hc
  ·exact hU.ok c hc
  ·exact Chunk.keptG (H.ok c (List.mem_of_mem_drop hc)) K.keep (fun k hk hG => by
    obtain ⟨d,hd,he⟩:=List.mem_filterMap.1 hG
    exact p12 d hd c hc k he hk)
 ·rw [List.pairwise_append]
  refine ⟨K.pair,p2,fun a ha b hb k hk hk' => ?_⟩
  have hlt:=Chunk.lt (H.ok b (List.mem_of_mem_drop hb)) k hk'
  rcases K.own a ha k hk with h | h
  ·omega
  ·obtain ⟨d,hd,he⟩:=List.mem_filterMap.1 h
   exact p12 d hd b hb k he hk'
 ·rcases List.mem_append.1 hc with hc | hc
  ·exact hU.own c hc k hk
  ·exact H.own c (List.mem_of_mem_drop hc) k hk
theorem sn_cell {w:World} {T:Tm} {S:List Sn} {g n c:Nat} (h:w.ownsRow 0 51 36 (.slice (some ⟨g,0,none⟩) n c) n (sns T S)) (hn:n=S.length) (i:Nat) (hi:i < S.length) (j:Nat) (hj:j < 36) (v:Value) (hv:(S[i].vs T)[j]?=some v):w.cell? ⟨g,i * 36+j,none⟩=some v:=by
 subst hn
 rw [h.cellAt (i * 36+j) (by omega),sns_get T S i hi j hj,hv]
theorem sn_last {w:World} {T:Tm} {S:List Sn} {s:Sn} {g n c:Nat} (h:w.ownsRow 0 51 36 (.slice (some ⟨g,0,none⟩) n c) n (sns T (S ++ [s]))) (hn:n=S.length+1) (j:Nat) (hj:j < 36) (v:Value) (hv:(s.vs T)[j]?=some v):w.cell? ⟨g,S.length * 36+j,none⟩=some v :=
 sn_cell h (by simp [hn]) S.length (by simp) j hj v (by simp [hv])
theorem sd_last {w:World} {tk:List Sd} {t:Sd} {g n c:Nat} (h:w.ownsRow 0 74 12 (.slice (some ⟨g,0,none⟩) n c) n (sds (tk ++ [t]))) (hn:n=tk.length+1) (j:Nat) (hj:j < 12) (v:Value) (hv:t.vs[j]?=some v):w.cell? ⟨g,tk.length * 12+j,none⟩=some v :=
 sds_cell h (by simp [hn]) tk.length (by omega) j hj v (by simp [hv])
theorem pad_ne (k n:Nat):(pad (k+1) n).length≠0:=by
 unfold pad
 rw [List.length_append,List.length_replicate]
 omega
theorem doP_no {T:Tm} {W:Wd} {a:Ac} (ha:a.Ok) (h:¬ Hds T W a):(doP T W a).2.b=bil0:=by
 have hk:=ha.kind
 by_cases hc:a.cut=none
 ·unfold doP tdC
  rw [hc]
  by_cases h1:a.k=1
  ·rw [if_pos h1];rfl
  ·rw [if_neg h1]
   by_cases h5:a.k≤5
   ·rw [if_pos h5]
    show (askR T W a.od).b=bil0
    by_cases hE:(askR T W a.od).E=0
    ·have hq:a.od.q=0:=by
      refine Classical.byContradiction fun hq => h ?_
      have hs:(doP T W a).2.s.size≠0:=by
       have e:(doP T W a).2.s=(W.V T a.od).s:=by
        unfold doP tdC
        rw [hc,if_neg h1,if_pos h5]
        rfl
       rw [e]
       show ((a.od.V T (W.B.getD a.od.me cu0).a W.lp 900 W.L.length).s).size≠0
       rw [(Od.V_sale hq hE).2.2.2,dstr_size]
       unfold tokD
       exact pad_ne _ _
      exact hds_of ha hs
     exact (Od.V_lp0 hq).2.2.2
    ·exact (askR_no hE).2.2.2
   ·rw [if_neg h5];rfl
 ·cases e:a.cut with
  | none => exact absurd e hc
  | some k => rw [doP_td,e];rfl
theorem Sn.Ok.money {T:Tm} {sv:Bool} {i:Nat} {s:Sn} (h:s.Ok T sv i) (hT:T.Ok) (hi:i≤62) :
 ((doP T s.W s.a).2.s.size=0→(doP T s.W s.a).2.b=bil0)∧((doP T s.W s.a).2.s.size≠0→(doP T s.W s.a).2.b.te=(doP T s.W s.a).2.b.de+(doP T s.W s.a).2.b.fe+(doP T s.W s.a).2.b.pr+(doP T s.W s.a).2.b.ch∧(s.a.k=2→(doP T s.W s.a).2.b.te=s.a.A∧1≤(doP T s.W s.a).2.b.un)∧(s.a.k≠2→(doP T s.W s.a).2.b.te=0)):=by
 have key:Hds T s.W s.a→∃ cls am tag,Tol T s.W s.a cls am tag:=fun hd => by
  have h1:=hd.k1
  have h3:¬ i < 3:=fun q => by have:=h.reg.2 q;omega
  have hW:=h.w
  rw [show min 3 i=3 by omega] at hW
  exact hd.told hT hW hi h.a
 refine ⟨fun h0 => doP_no h.a fun hd => ?_,fun h0 => ?_⟩
 ·obtain ⟨_,_,_,ht⟩:=key hd
  rw [ht.size] at h0
  cases h0
 ·have hd:=hds_of h.a h0
  obtain ⟨_,_,_,ht⟩:=key hd
  have h1:=hd.k1
  have h2:=hd.k2
  refine ⟨ht.sum,fun q => ⟨(ht.k2 q).2.2.1,(ht.k2 q).2.2.2⟩,fun q => ?_⟩
  rcases (show s.a.k=3∨s.a.k=4 by omega) with e | e
  ·exact (ht.k3 e).2.2
  ·exact (ht.k4 e).2.2.2
theorem sellP_E (T:Tm) (a:Acc) (t m:Nat):((sellP T a t m).1=0)∨((sellP T a t m).1=19∧(sellP T a t m).2.2=bil0)∨((sellP T a t m).1=23∧(sellP T a t m).2.2=bil0):=by
 unfold sellP
 by_cases g1:m < a.month
 ·rw [if_pos g1];exact .inr (.inr ⟨rfl,rfl⟩)
 ·rw [if_neg g1]
  dsimp only
  generalize rollP a.month a.bought a.l m=r
  generalize recov (t * T.db / 10000) r.2=rc
  by_cases g2:t < rc.1+(T.fx+t * T.fb / 10000)
  ·rw [if_pos g2];exact .inr (.inl ⟨rfl,rfl⟩)
  ·rw [if_neg g2]
   generalize most (pcs T.tl r.1) (t - rc.1 - (T.fx+t * T.fb / 10000)) 0 0=mo
   by_cases g3:mo.1=0
   ·rw [if_pos g3];exact .inr (.inl ⟨rfl,rfl⟩)
   ·rw [if_neg g3];exact .inl rfl
structure Refd (T:Tm) (W:Wd) (a:Ac) (E:Nat) (acc:Acc) (b:Bil):Prop where
 r:sellP T (W.B.getD a.me cu0).a a.A a.B=(E,acc,b)
 ok:(W.B.getD a.me cu0).a.Ok
 next:(W.B.getD a.me cu0).a.next≤1000
 t:∃ st,(doP T W a).2=⟨E,0,st,b,false⟩∧(E=0→st.size≠0)∧(E≠0→st.size=0)
 had:E=0→((doP T W a).1.B.getD a.me cu0).a=acc∧((doP T W a).1.B.getD a.me cu0).s.length=(W.B.getD a.me cu0).s.length+1
 E:E=0∨E=19∨E=23
theorem Sn.Ok.refd {T:Tm} {sv:Bool} {i:Nat} {s:Sn} (h:s.Ok T sv i) (hT:T.Ok) (hi:i≤62) (hk:s.a.k=2) (hc:s.a.cut=none):∃ E acc b,Refd T s.W s.a E acc b:=by
 obtain ⟨a,W,x,y,key,n⟩:=s
 have hW:=h.w
 have ha:=h.a
 have h3:¬ i < 3:=fun g => by have:=h.reg.2 g;omega
 rw [show min 3 i=3 by omega] at hW
 clear h
 dsimp only at hW ha hk hc ⊢
 obtain ⟨r,hr⟩:∃ r,sellP T (W.B.getD a.me cu0).a a.A a.B=r:=⟨_,rfl⟩
 obtain ⟨E,acc,b⟩:=r
 have hE:=sellP_E T (W.B.getD a.me cu0).a a.A a.B
 rw [hr] at hE
 dsimp only at hE
 have ho:a.od=⟨3,a.me,1,0,a.A,a.B,a.C⟩:=by unfold Ac.od;rw [if_neg (by omega),if_neg (by omega),if_neg (by omega)]
 have hrr:a.od.rq.r T (W.B.getD a.me cu0).a=(E,acc,b):=by rw [ho,← hr];rfl
 have hq:a.od.q≠0:=by rw [ho];dsimp only;omega
 have hom:a.od.me=a.me:=by rw [ho]
 have hd:doP T W a=(W.srv (askR T W a.od) none,tdC none (askR T W a.od).E 0 (askR T W a.od).s (askR T W a.od).b):=by
  unfold doP
  rw [if_neg (by omega),if_pos (by omega),hc]
 have hV:W.V T a.od=saleP T (W.B.getD a.me cu0).a W.lp 900 W.L.length a.od.d a.od.rq:=by
  unfold Wd.V Od.V
  rw [if_neg hq,hom]
 have hVE:(W.V T a.od).E=E:=by rw [hV];unfold saleP;rw [svP_E,hrr]
 have hVb:(W.V T a.od).b=b:=by
  rw [hV]
  unfold saleP
  by_cases g:E=0
  ·rw [svP_ok (by rw [hrr];exact g),hrr]
  ·rw [svP_no (by rw [hrr];exact g)]
   rcases hE with e | e | e
   ·exact absurd e g
   ·exact e.2.symm
   ·exact e.2.symm
 have hcu:=hW.cus
 have hme:=ha.me
 have hl:a.me < W.B.length:=by omega
 have hgd:W.B.getD a.me cu0=W.B[a.me]:=by simp [hl]
 have hB:=hW.srv.bok hT
 have hao:=hB.h1 W.B[a.me] (List.getElem_mem hl)
 have hs:=hB.sold (List.getElem_mem hl)
 have hll:=hW.ll
 rw [← hgd] at hao hs
 refine ⟨E,acc,b,hr,hao.1,by omega,⟨(W.V T a.od).s,?_,fun g => ?_,fun g => ?_⟩,fun g => ?_,?_⟩
 ·rw [hd]
  show (⟨(W.V T a.od).E,0,(W.V T a.od).s,(W.V T a.od).b,false⟩:Td)=_
  rw [hVE,hVb]
 ·rw [show (W.V T a.od).s=_ from (Od.V_sale hq (hVE.trans g)).2.2.2,dstr_size]
  unfold tokD
  exact pad_ne _ _
 ·rw [show (W.V T a.od).s=⟨#[]⟩ from (Od.V_no (show (W.V T a.od).E≠0 by omega)).2.2.2]
  rfl
 ·have e:(doP T W a).1.B=W.B.set a.me (a.od.c T (W.B.getD a.me cu0) W.lp):=by
   rw [hd]
   show (W.srv (askR T W a.od) none).B=_
   have hA:(askR T W a.od).E=0:=hVE.trans g
   unfold Wd.srv
   rw [if_pos hA,if_pos (show cutK none (askR T W a.od).wl.length=(askR T W a.od).wl.length from rfl)]
   show W.B.set a.od.me (a.od.c T (W.B.getD a.od.me cu0) W.lp)=_
   rw [hom]
  have ec:a.od.c T (W.B.getD a.me cu0) W.lp=⟨acc,(W.B.getD a.me cu0).s ++ [soldP (W.B.getD a.me cu0).a.rev (saleV T (W.B.getD a.me cu0).a W.lp a.od.d a.od.rq) acc]⟩:=by
   unfold Od.c
   rw [if_neg hq]
   rw [hrr]
  rw [e,List.getD_eq_getElem?_getD,List.getElem?_set_self hl,ec]
  exact ⟨rfl,by show (_ ++ [_]).length=_;rw [List.length_append,List.length_singleton]⟩
 ·rcases hE with e | e | e <;> omega
def tka (me:Nat):Ac:=⟨7,me,0,0,0,⟨#[]⟩,none⟩
theorem tka_ok {me:Nat} (h:me≤2):(tka me).Ok:=⟨h,⟨show 1≤7 by omega,show 7≤7 by omega⟩,fun q => absurd (show (7:Nat)=2 from q) (by decide),fun q => absurd (show (7:Nat)=3 from q) (by decide),fun q => absurd (show (7:Nat)=4 from q) (by decide),fun q => absurd (show (7:Nat)=5 from q) (by decide),fun _ => show 0≤1000 by omega⟩
theorem doP_meter {T:Tm} {W:Wd} {a:Ac} {m n:Nat} (hW:W.Ok T m n) (hk:¬ a.k≤5) (hm:a.me≤2) (hc:a.cut=none) :
 (doP T W a).1=⟨W.c,W.L,W.B,W.lp,W.P.set a.me (krP W a).p⟩∧(doP T W a).2=⟨(krP W a).E,(krP W a).ad,⟨#[]⟩,bil0,false⟩∧(doP T W a).1.Ok T m n:=by
 have e:doP T W a=(W.poc a.me (krP W a) none,tdC none (krP W a).E (krP W a).ad ⟨#[]⟩ bil0):=by
  unfold doP
  rw [if_neg (by omega),if_neg hk,hc]
 have e1:W.poc a.me (krP W a) none=⟨W.c,W.L,W.B,W.lp,W.P.set a.me (krP W a).p⟩:=by
  unfold Wd.poc
  rw [Kr.cut_all (show (krP W a).wl.length≤cutK none (krP W a).wl.length from Nat.le_refl _)]
 refine ⟨by rw [e];exact e1,by rw [e];rfl,?_⟩
 rw [e]
 exact hW.poc_ok hm (krP_ok hW hm).1 none
structure Tck (T:Tm) (W W2:Wd) (me n i:Nat):Prop where
 ok:W2.Ok T 3 n
 B:W2.B=W.B
 lp:W2.lp=W.lp
 m:(W2.P.getD me pk0).m=⟨(W.P.getD me pk0).m.rev,(W.P.getD me pk0).m.cr,(W.P.getD me pk0).m.H,(W.P.getD me pk0).m.B,(W.P.getD me pk0).m.bad,(W.P.getD me pk0).m.lock - i⟩
theorem Tck.init {T:Tm} {W:Wd} {me n:Nat} (h:W.Ok T 3 n):Tck T W W me n 0:=⟨h,rfl,rfl,rfl⟩
theorem Tck.next {T:Tm} {W W2:Wd} {me n i:Nat} (h:Tck T W W2 me n i) (hm:me≤2):Tck T W (doP T W2 (tka me)).1 me n (i+1)∧(doP T W2 (tka me)).2.s.size=0:=by
 obtain ⟨h1,h2,h3⟩:=doP_meter (a:=tka me) h.ok (show ¬ (7:Nat)≤5 by omega) hm rfl
 have ek:krP W2 (tka me)=tickP me (W2.P.getD me pk0) 0:=by
  unfold krP
  rw [if_neg (show ¬ (tka me).k=6 from (by omega:¬ (7:Nat)=6))]
  rfl
 have hp:=h.ok.pok me hm
 have hpl:=h.ok.pl
 refine ⟨⟨h3,by rw [h1];exact h.B,by rw [h1];exact h.lp,?_⟩,by rw [h2];rfl⟩
 rw [h1]
 show ((W2.P.set me (krP W2 (tka me)).p).getD me pk0).m=_
 rw [List.getD_eq_getElem?_getD,List.getElem?_set_self (by omega),ek]
 show ((W2.P.getD me pk0).to me (tickM (W2.P.getD me pk0).m 0)).m=_
 rw [(Pk.to_ok hp (tickM_may hp.may 0)).2.2.1]
 unfold tickM
 rw [h.m]
 dsimp only
 congr 1
theorem Tck.lock {T:Tm} {W W2:Wd} {me n:Nat} (h:Tck T W W2 me n 30) (hW:W.Ok T 3 n) (hm:me≤2):(W2.P.getD me pk0).m=⟨(W.P.getD me pk0).m.rev,(W.P.getD me pk0).m.cr,(W.P.getD me pk0).m.H,(W.P.getD me pk0).m.B,(W.P.getD me pk0).m.bad,0⟩:=by
 have hp:=(hW.pok me hm).may
 have hb:=(may_bounds hp.1 hp.2).2.2.2.2.1
 rw [h.m]
 congr 1
 omega
theorem good_sale {T:Tm} {W:Wd} {a:Ac} {n:Nat} (x y:Wv) (hW:W.Ok T 3 n) (hT:T.Ok) (h3:3≤n) (hn:n≤62) (ha:a.Ok) (hk:a.k=2) (hc:a.cut=none) (hB:a.B=(W.B.getD a.me cu0).a.month) :
 ((doP T W a).2.s.size=0∧(doP T W a).2.E=19)∨(doP T W a).2.s.size≠0:=by
 have hmy:May W a:=by unfold May;rw [if_neg (by omega)];exact hW.cus
 have hs:Sn.Ok T true n ⟨a,W,x,y,⟨#[]⟩,0⟩:=by
  refine ⟨by rw [show min 3 n=3 by omega];exact hW,ha,hmy,⟨fun q => absurd (show a.k=1 from q) (by omega),fun q => absurd q (by omega)⟩,fun _ => hc,[],⟨rfl,rfl,ha,⟨fun q => absurd (show a.k=1 from q) (by omega),fun q => absurd q (by omega)⟩,fun q => absurd (show a.k=1 from q) (by omega),.inl rfl,fun q => absurd q (by simp)⟩⟩
 obtain ⟨E,acc,b,hR⟩:=hs.refd hT hn hk hc
 obtain ⟨st,r4,r5,r6⟩:=hR.t
 dsimp only at r4
 rw [r4]
 rcases hR.E with e | e | e
 ·exact .inr (r5 e)
 ·exact .inl ⟨r6 (by omega),e⟩
 ·exfalso
  have hr:=hR.r
  dsimp only at hr
  rw [hB] at hr
  have h1:=congrArg Prod.fst hr
  rw [e] at h1
  unfold sellP at h1
  rw [if_neg (Nat.lt_irrefl _)] at h1
  dsimp only at h1
  split at h1
  ·have h2:(19:Nat)=23:=h1
   omega
  ·split at h1
   ·have h2:(19:Nat)=23:=h1
    omega
   ·have h2:(0:Nat)=23:=h1
    omega
theorem told_one {s:ByteArray}:∀ (R R':List Nat) (j:Nat),Told s j R→Told s j R'→R=R'
 | [],[],_,_,_ => rfl
 | [],r :: R',j,h,k => absurd (show s.size≤j from h) (by have:=k.1;omega)
 | r :: R,[],j,h,k => absurd (show s.size≤j from k) (by have:=h.1;omega)
 | r :: R,r' :: R',j,h,k => by
  obtain ⟨h1,h2,h3⟩:=h
  obtain ⟨k1,k2,k3⟩:=k
  rw [← h2,← k2,told_one R R' _ h3 k3]
theorem told_ascii (s:ByteArray) (h:∀ (i:Nat) (hi:i < s.size),(s[i]'hi).toNat < 128):∀ (n j:Nat),s.size - j=n→Told s j ((s.data.toList.drop j).map UInt8.toNat):=by
 have hl0:s.data.toList.length=s.size:=by simp
 intro n
 induction n with
 | zero =>
  intro j hj
  rw [List.drop_eq_nil_of_le (by omega)]
  exact (by omega:s.size≤j)
 | succ n ih =>
  intro j hj
  have hl:j < s.size:=by omega
  have hd:=decode_ascii s j hl (h j hl)
  rw [List.drop_eq_getElem_cons (by omega:j < s.data.toList.length),List.map_cons]
  refine ⟨hl,by rw [hd];rfl,?_⟩
  rw [hd]
  exact ih (j+1) (by omega)
theorem kv_dg {d:Nat} (h:d≤9):kv (((48+d:Nat)):Int)=d:=by
 unfold kv
 rw [if_pos (by omega)]
 omega
theorem keys_dg:∀ (E D:List Nat),(∀ d∈E,d≤9)→D.length+E.length≤30→kkeys (E.map fun d => ((48+d:Nat):Int)) ((D,false),[])=((D ++ E,false),[])
 | [],D,_,_ => by simp [kkeys]
 | e :: E,D,h,hl => by
  have he:=h e (by simp)
  have hv:=kv_dg he
  rw [List.length_cons] at hl
  have h1:kstep ((D,false),[]) ((48+e:Nat):Int)=((D ++ [e],false),[]):=by
   have n1:¬ (((48+e:Nat):Int)=32∨((48+e:Nat):Int)=45∨((48+e:Nat):Int)=160):=by omega
   have n2:¬ ((48+e:Nat):Int)=42:=by omega
   have n3:¬ ((48+e:Nat):Int)=35:=by omega
   have n4:¬ (kv ((48+e:Nat):Int) < 0∨D.length=30):=by rw [hv];omega
   unfold kstep kpress
   dsimp only
   rw [if_neg n1,if_neg n2,if_neg n3,if_neg n4,hv]
   rfl
  rw [List.map_cons]
  show kkeys _ (kstep ((D,false),[]) _)=_
  rw [h1,keys_dg E (D ++ [e]) (fun x hx => h x (by simp [hx])) (by simp;omega)]
  simp
theorem entsOf_end {D:List Nat} (hD:∀ d∈D,d≤9) (h0:0 < D.length) (hl:D.length≤30):entsOf (dstr D ++ ⟨#[35]⟩)=[(D,0)]:=by
 have hs:(dstr D ++ ⟨#[35]⟩:ByteArray).data.toList=D.map dg ++ [35]:=by simp [dstr]
 have hlen:(dstr D ++ ⟨#[35]⟩:ByteArray).size=D.length+1:=by
  rw [ByteArray.size_append,dstr_size]
  rfl
 have ha:∀ (i:Nat) (hi:i < (dstr D ++ ⟨#[35]⟩:ByteArray).size),((dstr D ++ ⟨#[35]⟩:ByteArray)[i]'hi).toNat < 128:=by
  intro i hi
  have hm:(dstr D ++ ⟨#[35]⟩:ByteArray)[i]∈(dstr D ++ ⟨#[35]⟩:ByteArray).data.toList:=Array.mem_toList_iff.2 (Array.getElem_mem hi)
  rw [hs] at hm
  rcases List.mem_append.1 hm with hm | hm
  ·obtain ⟨d,hd,e⟩:=List.mem_map.1 hm
   rw [← e,dg_toNat (hD d hd)]
   have:=hD d hd
   omega
  ·rw [List.mem_singleton.1 hm];decide
 have ht:=told_ascii _ ha _ 0 rfl
 rw [List.drop_zero,hs] at ht
 have hr:=told_one _ _ 0 (runesOf_told _).1 ht
 have e:((D.map dg ++ [35]).map UInt8.toNat).map (fun n:Nat => (n:Int))=D.map (fun d => ((48+d:Nat):Int)) ++ [35]:=by
  rw [List.map_append,List.map_append,List.map_map,List.map_map]
  congr 1
  apply List.map_congr_left
  intro d hd
  show (((dg d).toNat:Nat):Int)=_
  rw [dg_toNat (hD d hd)]
 unfold entsOf
 rw [hr,e]
 have e2:kkeys (D.map (fun d => ((48+d:Nat):Int)) ++ [35]) (([],false),[])=kstep (kkeys (D.map (fun d => ((48+d:Nat):Int))) (([],false),[])) 35:=by
  unfold kkeys
  rw [List.foldl_append]
  rfl
 rw [e2,keys_dg D [] hD (by simpa using hl),List.nil_append]
 have hne:D≠[]:=by intro h;rw [h] at h0;exact absurd h0 (by decide)
 simp [kstep,kpress,hne]
theorem dec_val10 (n:Nat):val10 (dec n)=n:=by
 induction n using Nat.strongRecOn with
 | ind n ih =>
  by_cases h:n < 10
  ·rw [dec,if_pos h];simp [val10]
  ·rw [dec,if_neg h,val10_append,ih (n / 10) (by omega)]
   simp [val10]
   omega
theorem dec_dig (n:Nat):∀ d∈dec n,d≤9:=by
 induction n using Nat.strongRecOn with
 | ind n ih =>
  by_cases h:n < 10
  ·rw [dec,if_pos h];intro d hd;simp at hd;omega
  ·rw [dec,if_neg h]
   intro d hd
   rcases List.mem_append.1 hd with h1 | h1
   ·exact ih (n / 10) (by omega) d h1
   ·simp at h1;omega
theorem val_tok (cls id am tag:Nat):val10 (tokD cls id am tag)=tokN cls id am tag * 97:=by
 unfold tokD pad
 rw [val10_zeros,dec_val10]
theorem tokD_dig (cls id am tag:Nat):∀ d∈tokD cls id am tag,d≤9:=by
 unfold tokD pad
 intro d hd
 rcases List.mem_append.1 hd with h | h
 ·have:=List.eq_of_mem_replicate h;omega
 ·exact dec_dig _ d h
theorem tok_fields {cls id am tag:Nat} (h:TkOk cls id am tag):bitsN (tokN cls id am tag) 0 16=tag∧bitsN (tokN cls id am tag) 16 21=am∧bitsN (tokN cls id am tag) 37 20=id∧bitsN (tokN cls id am tag) 57 2=cls∧bitsN (tokN cls id am tag) 59 32=0:=by
 have h1:=h.am
 obtain ⟨h2,h3,h4,h5,h6⟩:=h
 unfold bitsN tokN
 refine ⟨?_,?_,?_,?_,?_⟩ <;> omega
theorem parse_tok {cls id am tag:Nat} (h:TkOk cls id am tag):parseS (tokN cls id am tag * 97)=(cls,id,am,tag,0):=by
 have h1:=tokN_lt h
 obtain ⟨f1,f2,f3,f4,f5⟩:=tok_fields h
 unfold parseS
 rw [if_neg (by omega),if_neg (by omega),Nat.mul_div_cancel _ (by omega),f1,f2,f3,f4,f5,if_neg (by rw [tfault_ok h];simp)]
theorem judge_up {H B j:Nat} (h:H < j):judge H B j=0:=by
 unfold judge wk
 rw [if_neg (by omega),decide_eq_false (by omega)]
 rfl
theorem good_key {l:List Pr} {me id un tag:Nat} {p:Pk} (htk:TkOk 0 id un tag) (hk:p.m.lock=0) (hlk:look l ((me:Int),(p.m.rev:Int),((tbody 0 id un:Nat):Int))=some (tag:Int)) (hH:p.m.H < id) :
 (99999999 < p.m.cr+un→(textP l me p (dstr (tokD 0 id un tag) ++ ⟨#[35]⟩)).E=15)∧(¬ 99999999 < p.m.cr+un→(textP l me p (dstr (tokD 0 id un tag) ++ ⟨#[35]⟩)).E=0∧(textP l me p (dstr (tokD 0 id un tag) ++ ⟨#[35]⟩)).ad=un):=by
 have hlen:=tokD_len htk
 have he:=entsOf_end (D:=tokD 0 id un tag) (tokD_dig _ _ _ _) (by omega) (by omega)
 have hsz:(dstr (tokD 0 id un tag) ++ ⟨#[35]⟩:ByteArray).size=21:=by
  rw [ByteArray.size_append,dstr_size,hlen]
  rfl
 have hpe:parseE (tokD 0 id un tag)=(0,id,un,tag,0):=by
  unfold parseE
  rw [if_pos hlen,val_tok,parse_tok htk]
 have hso:soldE l me (tbody 0 id un) p.m.rev tag (p.m.rev+1)=0:=by
  unfold soldE
  rw [if_pos hlk,if_neg (Nat.lt_irrefl _)]
 have hks:keyS l me p.m.rev p.m.cr p.m.H p.m.B p.m.bad p.m.lock 0 id un tag=(let r:=takeS p.m.rev p.m.cr p.m.H p.m.B p.m.bad 0 id un;(r.1,r.2.1,r.2.2.1,r.2.2.2.1,r.2.2.2.2.1,p.m.lock,r.2.2.2.2.2.1,r.2.2.2.2.2.2)):=by
  unfold keyS
  rw [if_neg (by omega),if_neg (by decide),if_pos hso]
 have ht:textP l me p (dstr (tokD 0 id un tag) ++ ⟨#[35]⟩)=⟨p.to me (keyE l me p.m (tokD 0 id un tag)).1,[] ++ pw me p (keyE l me p.m (tokD 0 id un tag)).1,0+(keyE l me p.m (tokD 0 id un tag)).2.1,(keyE l me p.m (tokD 0 id un tag)).2.2⟩:=by
  unfold textP
  rw [if_neg (by omega),he,if_neg (by simp)]
  show entP l me ⟨p,[],0,0⟩ (tokD 0 id un tag,0)=_
  unfold entP
  rw [if_neg (by simp)]
 have hke:keyE l me p.m (tokD 0 id un tag)=keyM l me p.m 0 id un tag:=by
  unfold keyE
  rw [hpe,if_pos rfl]
 rw [ht,hke]
 unfold keyM
 rw [hks]
 unfold takeS
 rw [if_neg (by rw [judge_up hH];simp),if_pos rfl]
 refine ⟨fun g => ?_,fun g => ?_⟩
 ·rw [if_pos g]
 ·rw [if_neg g]
  exact ⟨rfl,by show 0+un=un;omega⟩
end Go.Proofs.YtfgiehkfcoodbaaGreat

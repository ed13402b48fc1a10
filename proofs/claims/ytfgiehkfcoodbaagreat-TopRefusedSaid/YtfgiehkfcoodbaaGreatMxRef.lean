/- Of each sale's money: plain. -/
import Derived.Test.YtfgiehkfcoodbaaGreatM48
import Derived.Test.YtfgiehkfcoodbaaGreatM3
namespace Go.Proofs.YtfgiehkfcoodbaaGreat
open Go.RowKit
set_option linter.unusedVariables false
set_option maxRecDepth 100000
set_option maxHeartbeats 16000000
theorem pad_ne (k n:Nat):(pad (k + 1) n).length ≠ 0:=by
 unfold pad
 rw [List.length_append,List.length_replicate]
 omega
theorem doP_no {T:Tm} {W:Wd} {a:Ac} (ha:a.Ok) (h:¬ Hds T W a):(doP T W a).2.b = bil0:=by
 have hk:=ha.kind
 by_cases hc:a.cut = none
 ·unfold doP tdC
  rw [hc]
  by_cases h1:a.k = 1
  ·rw [if_pos h1];rfl
  ·rw [if_neg h1]
   by_cases h5:a.k ≤ 5
   ·rw [if_pos h5]
    show (askR T W a.od).b = bil0
    by_cases hE:(askR T W a.od).E = 0
    ·have hq:a.od.q = 0:=by
      refine Classical.byContradiction fun hq => h ?_
      have hs:(doP T W a).2.s.size ≠ 0:=by
       have e:(doP T W a).2.s = (W.V T a.od).s:=by
        unfold doP tdC
        rw [hc,if_neg h1,if_pos h5]
        rfl
       rw [e]
       show ((a.od.V T (W.B.getD a.od.me cu0).a W.lp 900 W.L.length).s).size ≠ 0
       rw [(Od.V_sale hq hE).2.2.2,dstr_size]
       unfold tokD
       exact pad_ne _ _
      exact hds_of ha hs
     exact (Od.V_lp0 hq).2.2.2
    ·exact (askR_no hE).2.2.2
   ·rw [if_neg h5];rfl
 ·cases e:a.cut with
  | none => exact absurd e hc
  | some k => rw [doP_td,e];rfl
theorem Sn.Ok.money {T:Tm} {sv:Bool} {i:Nat} {s:Sn} (h:s.Ok T sv i) (hT:T.Ok) (hi:i ≤ 62) :
 ((doP T s.W s.a).2.s.size = 0 → (doP T s.W s.a).2.b = bil0) ∧ ((doP T s.W s.a).2.s.size ≠ 0 → (doP T s.W s.a).2.b.te = (doP T s.W s.a).2.b.de + (doP T s.W s.a).2.b.fe + (doP T s.W s.a).2.b.pr + (doP T s.W s.a).2.b.ch ∧ (s.a.k = 2 → (doP T s.W s.a).2.b.te = s.a.A ∧ 1 ≤ (doP T s.W s.a).2.b.un) ∧ (s.a.k ≠ 2 → (doP T s.W s.a).2.b.te = 0)):=by
 have key:Hds T s.W s.a → ∃ cls am tag,Tol T s.W s.a cls am tag:=fun hd => by
  have h1:=hd.k1
  have h3:¬ i < 3:=fun q => by have:=h.reg.2 q;omega
  have hW:=h.w
  rw [show min 3 i = 3 by omega] at hW
  exact hd.told hT hW hi h.a
 refine ⟨fun h0 => doP_no h.a fun hd => ?_,fun h0 => ?_⟩
 ·obtain ⟨_,_,_,ht⟩:=key hd
  rw [ht.size] at h0
  cases h0
 ·have hd:=hds_of h.a h0
  obtain ⟨_,_,_,ht⟩:=key hd
  have h1:=hd.k1
  have h2:=hd.k2
  refine ⟨ht.sum,fun q => ⟨(ht.k2 q).2.2.1,(ht.k2 q).2.2.2⟩,fun q => ?_⟩
  rcases (show s.a.k = 3 ∨ s.a.k = 4 by omega) with e | e
  ·exact (ht.k3 e).2.2
  ·exact (ht.k4 e).2.2.2
theorem sellP_E (T:Tm) (a:Acc) (t m:Nat):((sellP T a t m).1 = 0) ∨ ((sellP T a t m).1 = 19 ∧ (sellP T a t m).2.2 = bil0) ∨ ((sellP T a t m).1 = 23 ∧ (sellP T a t m).2.2 = bil0):=by
 unfold sellP
 by_cases g1:m < a.month
 ·rw [if_pos g1];exact .inr (.inr ⟨rfl,rfl⟩)
 ·rw [if_neg g1]
  dsimp only
  generalize rollP a.month a.bought a.l m = r
  generalize recov (t * T.db / 10000) r.2 = rc
  by_cases g2:t < rc.1 + (T.fx + t * T.fb / 10000)
  ·rw [if_pos g2];exact .inr (.inl ⟨rfl,rfl⟩)
  ·rw [if_neg g2]
   generalize most (pcs T.tl r.1) (t - rc.1 - (T.fx + t * T.fb / 10000)) 0 0 = mo
   by_cases g3:mo.1 = 0
   ·rw [if_pos g3];exact .inr (.inl ⟨rfl,rfl⟩)
   ·rw [if_neg g3];exact .inl rfl
structure Refd (T:Tm) (W:Wd) (a:Ac) (E:Nat) (acc:Acc) (b:Bil):Prop where
 r:sellP T (W.B.getD a.me cu0).a a.A a.B = (E,acc,b)
 ok:(W.B.getD a.me cu0).a.Ok
 next:(W.B.getD a.me cu0).a.next ≤ 1000
 t:∃ st,(doP T W a).2 = ⟨E,0,st,b,false⟩ ∧ (E = 0 → st.size ≠ 0) ∧ (E ≠ 0 → st.size = 0)
 had:E = 0 → ((doP T W a).1.B.getD a.me cu0).a = acc ∧ ((doP T W a).1.B.getD a.me cu0).s.length = (W.B.getD a.me cu0).s.length + 1
 E:E = 0 ∨ E = 19 ∨ E = 23
theorem Sn.Ok.refd {T:Tm} {sv:Bool} {i:Nat} {s:Sn} (h:s.Ok T sv i) (hT:T.Ok) (hi:i ≤ 62) (hk:s.a.k = 2) (hc:s.a.cut = none):∃ E acc b,Refd T s.W s.a E acc b:=by
 obtain ⟨a,W,x,y,key,n⟩:=s
 have hW:=h.w
 have ha:=h.a
 have h3:¬ i < 3:=fun g => by have:=h.reg.2 g;omega
 rw [show min 3 i = 3 by omega] at hW
 clear h
 dsimp only at hW ha hk hc ⊢
 obtain ⟨r,hr⟩:∃ r,sellP T (W.B.getD a.me cu0).a a.A a.B = r:=⟨_,rfl⟩
 obtain ⟨E,acc,b⟩:=r
 have hE:=sellP_E T (W.B.getD a.me cu0).a a.A a.B
 rw [hr] at hE
 dsimp only at hE
 have ho:a.od = ⟨3,a.me,1,0,a.A,a.B,a.C⟩:=by unfold Ac.od;rw [if_neg (by omega),if_neg (by omega),if_neg (by omega)]
 have hrr:a.od.rq.r T (W.B.getD a.me cu0).a = (E,acc,b):=by rw [ho,← hr];rfl
 have hq:a.od.q ≠ 0:=by rw [ho];dsimp only;omega
 have hom:a.od.me = a.me:=by rw [ho]
 have hd:doP T W a = (W.srv (askR T W a.od) none,tdC none (askR T W a.od).E 0 (askR T W a.od).s (askR T W a.od).b):=by
  unfold doP
  rw [if_neg (by omega),if_pos (by omega),hc]
 have hV:W.V T a.od = saleP T (W.B.getD a.me cu0).a W.lp 900 W.L.length a.od.d a.od.rq:=by
  unfold Wd.V Od.V
  rw [if_neg hq,hom]
 have hVE:(W.V T a.od).E = E:=by rw [hV];unfold saleP;rw [svP_E,hrr]
 have hVb:(W.V T a.od).b = b:=by
  rw [hV]
  unfold saleP
  by_cases g:E = 0
  ·rw [svP_ok (by rw [hrr];exact g),hrr]
  ·rw [svP_no (by rw [hrr];exact g)]
   rcases hE with e | e | e
   ·exact absurd e g
   ·exact e.2.symm
   ·exact e.2.symm
 have hcu:=hW.cus
 have hme:=ha.me
 have hl:a.me < W.B.length:=by omega
 have hgd:W.B.getD a.me cu0 = W.B[a.me]:=by simp [hl]
 have hB:=hW.srv.bok hT
 have hao:=hB.h1 W.B[a.me] (List.getElem_mem hl)
 have hs:=hB.sold (List.getElem_mem hl)
 have hll:=hW.ll
 rw [← hgd] at hao hs
 refine ⟨E,acc,b,hr,hao.1,by omega,⟨(W.V T a.od).s,?_,fun g => ?_,fun g => ?_⟩,fun g => ?_,?_⟩
 ·rw [hd]
  show (⟨(W.V T a.od).E,0,(W.V T a.od).s,(W.V T a.od).b,false⟩:Td) = _
  rw [hVE,hVb]
 ·rw [show (W.V T a.od).s = _ from (Od.V_sale hq (hVE.trans g)).2.2.2,dstr_size]
  unfold tokD
  exact pad_ne _ _
 ·rw [show (W.V T a.od).s = ⟨#[]⟩ from (Od.V_no (show (W.V T a.od).E ≠ 0 by omega)).2.2.2]
  rfl
 ·have e:(doP T W a).1.B = W.B.set a.me (a.od.c T (W.B.getD a.me cu0) W.lp):=by
   rw [hd]
   show (W.srv (askR T W a.od) none).B = _
   have hA:(askR T W a.od).E = 0:=hVE.trans g
   unfold Wd.srv
   rw [if_pos hA,if_pos (show cutK none (askR T W a.od).wl.length = (askR T W a.od).wl.length from rfl)]
   show W.B.set a.od.me (a.od.c T (W.B.getD a.od.me cu0) W.lp) = _
   rw [hom]
  have ec:a.od.c T (W.B.getD a.me cu0) W.lp = ⟨acc,(W.B.getD a.me cu0).s ++ [soldP (W.B.getD a.me cu0).a.rev (saleV T (W.B.getD a.me cu0).a W.lp a.od.d a.od.rq) acc]⟩:=by
   unfold Od.c
   rw [if_neg hq]
   rw [hrr]
  rw [e,List.getD_eq_getElem?_getD,List.getElem?_set_self hl,ec]
  exact ⟨rfl,by show (_ ++ [_]).length = _;rw [List.length_append,List.length_singleton]⟩
 ·rcases hE with e | e | e <;> omega
def saA (me A B C:Nat) (s:ByteArray) (cut:Option Nat):Ac:=⟨2,me,A,B,C,s,cut⟩
def saR (T:Tm) (W:Wd) (me A B:Nat):Nat × Acc × Bil:=sellP T (W.B.getD me cu0).a A B
def saT (T:Tm) (W:Wd) (me A B C:Nat):Nat:=tagP W.lp me (W.B.getD me cu0).a.rev 0 C (saR T W me A B)
def saL (T:Tm) (W:Wd) (me A B C:Nat):List Pr:=issL W.lp (me:Int) ((W.B.getD me cu0).a.rev:Int) (tbody 0 (saR T W me A B).2.2.id (saR T W me A B).2.2.un:Nat) (C:Int)
def saW (T:Tm) (W:Wd) (me A B t:Nat):List (Nat × Nat):=putW 900 (W.L.length * 14) (evW (evP 2 me B t (saR T W me A B).2.2))
theorem sale_no {T:Tm} {W:Wd} {me A B C:Nat} {s:ByteArray} {cut:Option Nat} (h:(saR T W me A B).1 ≠ 0):doP T W (saA me A B C s cut) = (W,tdC cut (saR T W me A B).1 0 ⟨#[]⟩ bil0):=by
 have hV:W.V T (saA me A B C s cut).od = ⟨[],[],0,bil0,⟨#[]⟩,(saR T W me A B).1⟩:=svP_no h
 have hE:¬ (askR T W (saA me A B C s cut).od).E = 0:=by show ¬ (W.V T _).E = 0;rw [hV];exact h
 have e:doP T W (saA me A B C s cut) = (W.srv (askR T W (saA me A B C s cut).od) cut,tdC cut (W.V T (saA me A B C s cut).od).E 0 (W.V T (saA me A B C s cut).od).s (W.V T (saA me A B C s cut).od).b):=rfl
 rw [e,hV]
 unfold Wd.srv
 rw [if_neg hE]
theorem sale_yes {T:Tm} {W:Wd} {me A B C:Nat} {s:ByteArray} {cut:Option Nat} (h:(saR T W me A B).1 = 0) :
 doP T W (saA me A B C s cut) = (if cutK cut (saW T W me A B (saT T W me A B C)).length = (saW T W me A B (saT T W me A B C)).length then ⟨applyW W.c (saW T W me A B (saT T W me A B C)),W.L ++ [evP 2 me B (saT T W me A B C) (saR T W me A B).2.2],W.B.set me ⟨(saR T W me A B).2.1,(W.B.getD me cu0).s ++ [soldP (W.B.getD me cu0).a.rev (evP 2 me B (saT T W me A B C) (saR T W me A B).2.2) (saR T W me A B).2.1]⟩,saL T W me A B C,W.P⟩
  else ⟨applyW W.c ((saW T W me A B (saT T W me A B C)).take (cutK cut (saW T W me A B (saT T W me A B C)).length)),W.L,W.B,saL T W me A B C,W.P⟩,
  tdC cut 0 0 (dstr (tokD 0 (saR T W me A B).2.2.id (saR T W me A B).2.2.un (saT T W me A B C))) (saR T W me A B).2.2):=by
 have hV:W.V T (saA me A B C s cut).od = ⟨saW T W me A B (saT T W me A B C),saL T W me A B C,me,(saR T W me A B).2.2,dstr (tokD 0 (saR T W me A B).2.2.id (saR T W me A B).2.2.un (saT T W me A B C)),0⟩:=svP_ok h
 have hA:askR T W (saA me A B C s cut).od = ⟨saW T W me A B (saT T W me A B C),W.L ++ [evP 2 me B (saT T W me A B C) (saR T W me A B).2.2],W.B.set me ⟨(saR T W me A B).2.1,(W.B.getD me cu0).s ++ [soldP (W.B.getD me cu0).a.rev (evP 2 me B (saT T W me A B C) (saR T W me A B).2.2) (saR T W me A B).2.1]⟩,saL T W me A B C,0,dstr (tokD 0 (saR T W me A B).2.2.id (saR T W me A B).2.2.un (saT T W me A B C)),(saR T W me A B).2.2⟩:=by
  unfold askR
  rw [hV,if_pos rfl]
  rfl
 have e:doP T W (saA me A B C s cut) = (W.srv (askR T W (saA me A B C s cut).od) cut,tdC cut (askR T W (saA me A B C s cut).od).E 0 (askR T W (saA me A B C s cut).od).s (askR T W (saA me A B C s cut).od).b):=rfl
 rw [e,hA]
 unfold Wd.srv
 rw [if_pos rfl]
theorem retry_law (T:Tm) (W:Wd) (me A B C d c:Nat) (s:ByteArray) (hc:c ≤ 13) :
 (doP T W (saA me A B C s (some c))).2 = ⟨0,0,⟨#[]⟩,bil0,true⟩ ∧
 (doP T (doP T W (saA me A B C s (some c))).1 (saA me A B d s none)).2 = (doP T W (saA me A B C s none)).2 ∧
 (doP T (doP T W (saA me A B C s (some c))).1 (saA me A B d s none)).1.B = (doP T W (saA me A B C s none)).1.B ∧
 (doP T (doP T W (saA me A B C s (some c))).1 (saA me A B d s none)).1.lp.length = (doP T W (saA me A B C s none)).1.lp.length:=by
 refine ⟨by rw [doP_td];rfl,?_⟩
 by_cases h:(saR T W me A B).1 = 0
 ·have hl:(saW T W me A B (saT T W me A B C)).length ≠ 0 ∧ 14 ≤ (saW T W me A B (saT T W me A B C)).length:=by
   have:=(putW_len 900 (W.L.length * 14) (evW (evP 2 me B (saT T W me A B C) (saR T W me A B).2.2))).1
   have e13:(evW (evP 2 me B (saT T W me A B C) (saR T W me A B).2.2)).length = 13:=rfl
   unfold saW
   omega
  have e1:=sale_yes (C:=C) (s:=s) (cut:=some c) h
  rw [if_neg (by show ¬ min _ c = _;omega)] at e1
  have e0:=sale_yes (C:=C) (s:=s) (cut:=none) h
  rw [if_pos (show cutK none (saW T W me A B (saT T W me A B C)).length = (saW T W me A B (saT T W me A B C)).length from rfl)] at e0
  obtain ⟨X,hX⟩:∃ X,(doP T W (saA me A B C s (some c))).1 = X:=⟨_,rfl⟩
  rw [e1] at hX
  dsimp only at hX
  rw [e1]
  dsimp only
  rw [hX]
  have hXB:X.B = W.B:=by rw [← hX]
  have hXl:X.lp = saL T W me A B C:=by rw [← hX]
  have hr:saR T X me A B = saR T W me A B:=by unfold saR;rw [hXB]
  have e2:=sale_yes (T:=T) (W:=X) (C:=d) (s:=s) (cut:=none) (hr ▸ h:(saR T X me A B).1 = 0)
  rw [if_pos (show cutK none (saW T X me A B (saT T X me A B d)).length = (saW T X me A B (saT T X me A B d)).length from rfl)] at e2
  have hlk:=fun k => issL_look W.lp (me:Int) ((W.B.getD me cu0).a.rev:Int) (tbody 0 (saR T W me A B).2.2.id (saR T W me A B).2.2.un:Nat) (C:Int) k
  have hlk2:look X.lp ((me:Int),((W.B.getD me cu0).a.rev:Int),((tbody 0 (saR T W me A B).2.2.id (saR T W me A B).2.2.un:Nat):Int)) = some (issT W.lp (me:Int) ((W.B.getD me cu0).a.rev:Int) (tbody 0 (saR T W me A B).2.2.id (saR T W me A B).2.2.un:Nat) (C:Int)):=by rw [hXl];exact (hlk _).trans (if_pos rfl)
  have ht:saT T X me A B d = saT T W me A B C:=by
   unfold saT tagP
   rw [hr,hXB]
   congr 1
   unfold issT
   show (look X.lp ((me:Int),((W.B.getD me cu0).a.rev:Int),((tbody 0 (saR T W me A B).2.2.id (saR T W me A B).2.2.un:Nat):Int))).getD (d:Int) = _
   rw [hlk2]
   rfl
  have hlp:saL T X me A B d = saL T W me A B C:=by
   unfold saL issL
   rw [hr,hXB,hlk2,if_neg (by simp),hXl]
   rfl
  rw [e0,e2,ht,hr,hXB,hlp]
  exact ⟨rfl,rfl,rfl⟩
 ·have e1:=sale_no (C:=C) (s:=s) (cut:=some c) h
  have e0:=sale_no (C:=C) (s:=s) (cut:=none) h
  have e2:=sale_no (C:=d) (s:=s) (cut:=none) h
  rw [e1]
  dsimp only
  rw [e0,e2]
  exact ⟨rfl,rfl,rfl⟩
theorem deed_fit {w:World} {v:Value} (h:Fit Tryz.prog w 96 v):∃ d:Dr,v = .agg d.vs.toArray ∧ d.Wf:=by
 obtain ⟨cs,rfl,hcf⟩:=h.struct Tryz.underlying96
 obtain ⟨d,rfl,hw⟩:=deed_row hcf
 exact ⟨d,rfl,hw⟩
end Go.Proofs.YtfgiehkfcoodbaaGreat

/- A world of three meters, as a function: plain. -/
import Derived.Test.YtfgiehkfcoodbaaGreatM0
import Derived.Test.YtfgiehkfcoodbaaGreatM39
import Derived.Test.YtfgiehkfcoodbaaGreatM46
import Derived.Test.YtfgiehkfcoodbaaGreatM7
import Derived.Test.YtfgiehkfcoodbaaGreatM10
import Derived.Test.YtfgiehkfcoodbaaGreatM9
import Derived.Test.YtfgiehkfcoodbaaGreatM2
import Derived.Test.YtfgiehkfcoodbaaGreatM5
import Derived.Test.YtfgiehkfcoodbaaGreatM36
import Derived.Test.YtfgiehkfcoodbaaGreatM28
import Derived.Test.YtfgiehkfcoodbaaGreatM45
import Derived.Test.YtfgiehkfcoodbaaGreatM47
import Derived.Test.YtfgiehkfcoodbaaGreatM17
import Derived.Laws.OwnMore
namespace Go.Proofs.YtfgiehkfcoodbaaGreat
open Go.RowKit
set_option linter.unusedVariables false
set_option maxRecDepth 100000
set_option maxHeartbeats 16000000
def pk0:Pk:=⟨[],0,mt0⟩
structure Wd where
 c:List Nat
 L:List Ev
 B:List Cu
 lp:List Pr
 P:List Pk
structure Td where
 E:Nat
 ad:Nat
 s:ByteArray
 b:Bil
 dead:Bool
structure Ac where
 k:Nat
 me:Nat
 A:Nat
 B:Nat
 C:Nat
 s:ByteArray
 cut:Option Nat
def Ac.od (a:Ac):Od:=if a.k = 5 then ⟨0,a.me,a.A,a.B,1,0,0⟩ else if a.k = 3 then ⟨1,a.me,1,0,1,a.A,a.C⟩ else if a.k = 4 then ⟨2,a.me,1,0,1,0,a.C⟩ else ⟨3,a.me,1,0,a.A,a.B,a.C⟩
structure Od.Ok (o:Od):Prop where
 h1:o.me ≤ 2
 h2:1 ≤ o.ow ∧ o.ow ≤ 1000000000
 h3:o.bp ≤ 10000
 h4:1 ≤ o.te ∧ o.te ≤ 100000000
 h5:o.mo ≤ 2399
 h6:o.d ≤ 65535
structure Ac.Ok (a:Ac):Prop where
 me:a.me ≤ 2
 kind:1 ≤ a.k ∧ a.k ≤ 7
 h2:a.k = 2 → 1 ≤ a.A ∧ a.A ≤ 100000000 ∧ a.B ≤ 2399 ∧ a.C ≤ 65535
 h3:a.k = 3 → a.A ≤ 2399 ∧ a.C ≤ 65535
 h4:a.k = 4 → a.C ≤ 65535
 h5:a.k = 5 → 1 ≤ a.A ∧ a.A ≤ 1000000000 ∧ a.B ≤ 10000
 h7:a.k = 7 → a.A ≤ 1000
theorem Ac.Ok.od {a:Ac} (h:a.Ok) (h2:2 ≤ a.k) (h5:a.k ≤ 5):a.od.Ok:=by
 have hm:=h.me
 unfold Ac.od
 by_cases g5:a.k = 5
 ·rw [if_pos g5]
  obtain ⟨q1,q2,q3⟩:=h.h5 g5
  exact ⟨hm,⟨q1,q2⟩,q3,by dsimp only;omega,by dsimp only;omega,by dsimp only;omega⟩
 ·rw [if_neg g5]
  by_cases g3:a.k = 3
  ·rw [if_pos g3]
   obtain ⟨q1,q2⟩:=h.h3 g3
   exact ⟨hm,by dsimp only;omega,by dsimp only;omega,by dsimp only;omega,q1,q2⟩
  ·rw [if_neg g3]
   by_cases g4:a.k = 4
   ·rw [if_pos g4]
    exact ⟨hm,by dsimp only;omega,by dsimp only;omega,by dsimp only;omega,by dsimp only;omega,h.h4 g4⟩
   ·rw [if_neg g4]
    obtain ⟨q1,q2,q3,q4⟩:=h.h2 (by omega)
    exact ⟨hm,by dsimp only;omega,by dsimp only;omega,⟨q1,q2⟩,q3,q4⟩
structure Sr where
 wl:List (Nat × Nat)
 L2:List Ev
 B2:List Cu
 lp:List Pr
 E:Nat
 s:ByteArray
 b:Bil
def regR (W:Wd) (me:Nat):Sr:=⟨putW 900 (W.L.length * 14) (evW (regV me)),W.L ++ [regV me],W.B ++ [⟨openP me,[]⟩],W.lp,0,⟨#[]⟩,bil0⟩
def Wd.V (W:Wd) (T:Tm) (o:Od):Sv:=o.V T (W.B.getD o.me cu0).a W.lp 900 W.L.length
def askR (T:Tm) (W:Wd) (o:Od):Sr :=
 ⟨(W.V T o).wl,W.L ++ [o.v T (W.B.getD o.me cu0).a W.lp],W.B.set o.me (o.c T (W.B.getD o.me cu0) W.lp),if (W.V T o).E = 0 then (W.V T o).lp else W.lp,(W.V T o).E,(W.V T o).s,(W.V T o).b⟩
def cutK (cut:Option Nat) (n:Nat):Nat:=match cut with | none => n | some k => min n k
theorem cutK_le (cut:Option Nat) (n:Nat):cutK cut n ≤ n:=by unfold cutK;split <;> omega
def Wd.srv (W:Wd) (x:Sr) (cut:Option Nat):Wd :=
 if x.E = 0 then (if cutK cut x.wl.length = x.wl.length then ⟨applyW W.c x.wl,x.L2,x.B2,x.lp,W.P⟩ else ⟨applyW W.c (x.wl.take (cutK cut x.wl.length)),W.L,W.B,x.lp,W.P⟩) else W
noncomputable def Wd.poc (W:Wd) (me:Nat) (x:Kr) (cut:Option Nat):Wd:=⟨W.c,W.L,W.B,W.lp,W.P.set me (x.cut me (W.P.getD me pk0) (cutK cut x.wl.length))⟩
def tdC (cut:Option Nat) (E ad:Nat) (s:ByteArray) (b:Bil):Td:=if cut.isSome then ⟨0,0,⟨#[]⟩,bil0,true⟩ else ⟨E,ad,s,b,false⟩
noncomputable def krP (W:Wd) (a:Ac):Kr:=if a.k = 6 then textP W.lp a.me (W.P.getD a.me pk0) a.s else tickP a.me (W.P.getD a.me pk0) a.A
noncomputable def doP (T:Tm) (W:Wd) (a:Ac):Wd × Td :=
 if a.k = 1 then (W.srv (regR W a.me) a.cut,tdC a.cut 0 0 ⟨#[]⟩ bil0)
 else if a.k ≤ 5 then (W.srv (askR T W a.od) a.cut,tdC a.cut (askR T W a.od).E 0 (askR T W a.od).s (askR T W a.od).b)
 else (W.poc a.me (krP W a) a.cut,tdC a.cut (krP W a).E (krP W a).ad ⟨#[]⟩ bil0)
structure Wd.Ok (T:Tm) (W:Wd) (m n:Nat):Prop where
 srv:Srv T W.c W.L W.B
 len:W.c.length = 900
 lt:∀ x ∈ W.c,x < 4294967296
 ll:W.L.length ≤ n
 cus:W.B.length = m
 me:∀ j (h:j < W.B.length),(W.B[j]'h).a.me = j
 ook:OOk W.lp
 lpl:W.lp.length ≤ n
 pl:W.P.length = 3
 pok:∀ j,j ≤ 2 → (W.P.getD j pk0).Ok j
structure Sr.Good (T:Tm) (W:Wd) (x:Sr) (m2:Nat):Prop where
 len:1 ≤ x.wl.length ∧ x.wl.length ≤ 15
 at_:∀ p ∈ x.wl,p.1 < 900
 lt:∀ p ∈ x.wl,p.2 < 4294967296
 whole:Srv T (applyW W.c x.wl) x.L2 x.B2
 torn:∀ k,k < x.wl.length → Srv T (applyW W.c (x.wl.take k)) W.L W.B
 ll:x.L2.length = W.L.length + 1
 cus:x.B2.length = m2
 me:∀ j (h:j < x.B2.length),(x.B2[j]'h).a.me = j
 ook:OOk x.lp
 lpl:x.lp.length ≤ W.lp.length + 1
theorem Wd.Ok.at_ {T:Tm} {W:Wd} {m n me:Nat} (h:W.Ok T m n) (hm:me < m):place W.B me = some me:=by
 have:=h.cus
 refine place_found (by omega) (fun j hj => ?_) (h.me me (by omega))
 rw [h.me j (by omega)];omega
theorem Wd.Ok.noneAt {T:Tm} {W:Wd} {m n:Nat} (h:W.Ok T m n):place W.B m = none:=by
 rw [place_none]
 intro x hx
 obtain ⟨j,hj,rfl⟩:=List.getElem_of_mem hx
 rw [h.me j hj]
 have:=h.cus
 omega
theorem put_good {T:Tm} {W:Wd} {m n m2:Nat} {v:Ev} {B2:List Cu} {wl:List (Nat × Nat)} {lp:List Pr} {E:Nat} {s:ByteArray} {b:Bil} (h:W.Ok T m n) (hn:n ≤ 62) (hv:v.ok) (hk:keepE T W.B v = (0,B2)) (hw:wl = putW 900 (W.L.length * 14) (evW v)) (hc:B2.length = m2) (hme:∀ j (h:j < B2.length),(B2[j]'h).a.me = j) (ho:OOk lp) (hl:lp.length ≤ W.lp.length + 1) :
 Sr.Good T W ⟨wl,W.L ++ [v],B2,lp,E,s,b⟩ m2:=by
 have hll:=h.ll
 have hlen:=h.len
 obtain ⟨p1,p2⟩:=h.srv.put hv hk (by omega) (by omega)
 have hat:=putW_at (len:=W.c.length) (at0:=W.L.length * 14) (r:=evW v) (by simp only [evW,List.length_cons,List.length_nil];omega)
 have hwn:=putW_len W.c.length (W.L.length * 14) (evW v)
 have e13:(evW v).length = 13:=rfl
 rw [e13] at hwn
 have hlt:=putW_lt (len:=W.c.length) (at0:=W.L.length * 14) (r:=evW v) ⟨by simp [evW],fun x hx => by have:=hv.lt x hx;omega⟩
 rw [hlen,← hw] at p1 p2 hat hwn hlt
 exact ⟨⟨by dsimp only;omega,by dsimp only;omega⟩,fun p hp => by have:=(hat p hp).2;omega,hlt,p1,p2,by simp,hc,hme,ho,hl⟩
theorem Wd.Ok.reg {T:Tm} {W:Wd} {m n:Nat} (h:W.Ok T m n) (hm:m ≤ 2) (hn:n ≤ 62):(regR W m).Good T W (m + 1):=by
 have hk:keepE T W.B (regV m) = (0,W.B ++ [⟨openP m,[]⟩]):=by
  unfold keepE
  rw [show (regV m).me = m from rfl,h.noneAt]
  rfl
 have hcu:=h.cus
 refine put_good h hn (regV_ok (by omega)) hk rfl (by simp [hcu]) (fun j hj => ?_) h.ook (by omega)
 by_cases e:j < W.B.length
 ·rw [List.getElem_append_left e];exact h.me j e
 ·have hj2:j = W.B.length:=by simp at hj;omega
  subst hj2
  rw [List.getElem_append_right (Nat.le_refl _)]
  simp [openP,hcu]
theorem Wd.Ok.ask {T:Tm} {W:Wd} {n:Nat} {o:Od} (h:W.Ok T 3 n) (hT:T.Ok) (hn:n ≤ 62) (ho:o.Ok) (h0:(W.V T o).E = 0) :
 (askR T W o).Good T W 3 ∧ (o.v T (W.B.getD o.me cu0).a W.lp).ok ∧ keepE T W.B (o.v T (W.B.getD o.me cu0).a W.lp) = (0,W.B.set o.me (o.c T (W.B.getD o.me cu0) W.lp)) ∧ Unlike (W.B.getD o.me cu0).a (o.c T (W.B.getD o.me cu0) W.lp).a ∧ (W.V T o).wl = putW 900 (W.L.length * 14) (evW (o.v T (W.B.getD o.me cu0).a W.lp)):=by
 have h1:=ho.h1
 have h2:=ho.h2
 have h3:=ho.h3
 have h4:=ho.h4
 have h5:=ho.h5
 have h6:=ho.h6
 have hp:=h.at_ (me:=o.me) (by omega)
 have hll:=h.ll
 have hlen:=h.len
 have hlpl:=h.lpl
 obtain ⟨hi,_⟩:=place_some hp
 have hgd:W.B.getD o.me cu0 = W.B[o.me]'hi:=by simp [hi]
 have hme:(W.B.getD o.me cu0).a.me = o.me:=by rw [hgd];exact h.me _ _
 have key:(W.V T o).wl = putW W.c.length (W.L.length * 14) (evW (o.v T (W.B.getD o.me cu0).a W.lp)) ∧ (o.v T (W.B.getD o.me cu0).a W.lp).ok ∧ keepE T W.B (o.v T (W.B.getD o.me cu0).a W.lp) = (0,W.B.set o.me (o.c T (W.B.getD o.me cu0) W.lp)) ∧ (o.c T (W.B.getD o.me cu0) W.lp).a.me = o.me ∧ OOk (W.V T o).lp ∧ (W.V T o).lp.length ≤ W.lp.length + 1 ∧ Unlike (W.B.getD o.me cu0).a (o.c T (W.B.getD o.me cu0) W.lp).a:=by
  unfold Wd.V at h0 ⊢
  by_cases hq:o.q = 0
  ·have e1:o.V T (W.B.getD o.me cu0).a W.lp 900 W.L.length = ⟨if (oweP (W.B.getD o.me cu0).a o.ow o.bp).1 = 0 then putW 900 (W.L.length * 14) (evW (chgV o.me o.ow o.bp)) else [],W.lp,0,bil0,⟨#[]⟩,(oweP (W.B.getD o.me cu0).a o.ow o.bp).1⟩:=by unfold Od.V;rw [if_pos hq]
   have e2:o.v T (W.B.getD o.me cu0).a W.lp = chgV o.me o.ow o.bp:=by unfold Od.v;rw [if_pos hq]
   have e3:o.c T (W.B.getD o.me cu0) W.lp = ⟨(oweP (W.B.getD o.me cu0).a o.ow o.bp).2,(W.B.getD o.me cu0).s⟩:=by unfold Od.c;rw [if_pos hq]
   rw [e1] at h0 ⊢
   rw [e2,e3]
   dsimp only at h0 ⊢
   rw [if_pos h0,hlen]
   have e:oweP (W.B.getD o.me cu0).a o.ow o.bp = (0,(oweP (W.B.getD o.me cu0).a o.ow o.bp).2):=by rw [← h0]
   have hn:=(oweP_ne e).1
   refine ⟨rfl,chgV_ok (by omega) (by omega) (by omega) (by omega),chg_law hp h0,?_,h.ook,by omega,.inr ?_⟩
   ·rw [hn];exact hme
   ·rw [hn];exact ⟨rfl,rfl,rfl,rfl,rfl,rfl,by simp⟩
  ·have e1:o.V T (W.B.getD o.me cu0).a W.lp 900 W.L.length = saleP T (W.B.getD o.me cu0).a W.lp W.c.length W.L.length o.d o.rq:=by unfold Od.V;rw [if_neg hq,hlen]
   have e2:o.v T (W.B.getD o.me cu0).a W.lp = saleV T (W.B.getD o.me cu0).a W.lp o.d o.rq:=by unfold Od.v;rw [if_neg hq]
   have e3:o.c T (W.B.getD o.me cu0) W.lp = ⟨(o.rq.r T (W.B.getD o.me cu0).a).2.1,(W.B.getD o.me cu0).s ++ [soldP (W.B.getD o.me cu0).a.rev (saleV T (W.B.getD o.me cu0).a W.lp o.d o.rq) (o.rq.r T (W.B.getD o.me cu0).a).2.1]⟩:=by unfold Od.c;rw [if_neg hq]
   rw [e1] at h0 ⊢
   rw [e2,e3]
   obtain ⟨s1,s2,s3,s4,s5,s6⟩:=sale_law (x:=o.rq) (i:=o.me) hT h.srv ⟨show o.me ≤ 49 by omega,show 1 ≤ o.te by omega,show o.te ≤ 100000000 by omega,show o.mo ≤ 2399 by omega⟩ hp (by omega) (by omega) h.ook (by omega) h6 h0
   exact ⟨s3,s2,s4,(Rq.meq s1).trans hme,s5,s6,.inl (Rq.next s1)⟩
 obtain ⟨k1,k2,k3,k4,k5,k6,k7⟩:=key
 rw [hlen] at k1
 refine ⟨?_,k2,k3,k7,k1⟩
 have hcu:=h.cus
 unfold askR
 rw [if_pos h0]
 refine put_good h hn k2 k3 k1 (by simp [hcu]) (fun j hj => ?_) k5 k6
 rw [List.getElem_set]
 split
 ·rename_i e;subst e;exact k4
 ·exact h.me j (by simpa using hj)
theorem Wd.Ok.more {T:Tm} {W:Wd} {m n n2:Nat} (h:W.Ok T m n) (hn:n ≤ n2):W.Ok T m n2:=⟨h.srv,h.len,h.lt,Nat.le_trans h.ll hn,h.cus,h.me,h.ook,Nat.le_trans h.lpl hn,h.pl,h.pok⟩
theorem Wd.Ok.srv_ok {T:Tm} {W:Wd} {m n m2:Nat} {x:Sr} (h:W.Ok T m n) (hx:x.E = 0 → x.Good T W m2) (cut:Option Nat):(W.srv x cut).Ok T (if x.E = 0 ∧ cutK cut x.wl.length = x.wl.length then m2 else m) (n + 1):=by
 unfold Wd.srv
 by_cases hE:x.E = 0
 ·obtain ⟨g1,g2,g3,g4,g5,g6,g7,g8,g9,g10⟩:=hx hE
  have hl:=h.ll
  have hlp:=h.lpl
  rw [if_pos hE]
  by_cases g:cutK cut x.wl.length = x.wl.length
  ·rw [if_pos g,if_pos ⟨hE,g⟩]
   exact ⟨g4,by rw [applyW_length];exact h.len,applyW_lt h.lt g3,by dsimp only;omega,g7,g8,g9,by dsimp only;omega,h.pl,h.pok⟩
  ·rw [if_neg g,if_neg (fun e => g e.2)]
   have:=cutK_le cut x.wl.length
   exact ⟨g5 _ (by omega),by rw [applyW_length];exact h.len,applyW_lt h.lt (fun p hp => g3 p (List.mem_of_mem_take hp)),by dsimp only;omega,h.cus,h.me,g9,by dsimp only;omega,h.pl,h.pok⟩
 ·rw [if_neg hE,if_neg (fun e => hE e.1)]
  exact h.more (by omega)
theorem krP_ok {T:Tm} {W:Wd} {m n:Nat} {a:Ac} (h:W.Ok T m n) (ha:a.me ≤ 2):(krP W a).Ok a.me (W.P.getD a.me pk0) ∧ (krP W a).wl.length ≤ 700:=by
 have hp:=h.pok a.me ha
 unfold krP
 split
 ·exact textP_ok hp _
 ·have h1:=tickP_ok hp a.A
  exact ⟨h1.1,by omega⟩
theorem Wd.Ok.poc_ok {T:Tm} {W:Wd} {m n me:Nat} {x:Kr} (h:W.Ok T m n) (hm:me ≤ 2) (hx:x.Ok me (W.P.getD me pk0)) (cut:Option Nat):(W.poc me x cut).Ok T m n:=by
 have hpl:=h.pl
 refine ⟨h.srv,h.len,h.lt,h.ll,h.cus,h.me,h.ook,h.lpl,by unfold Wd.poc;simp [hpl],fun j hj => ?_⟩
 unfold Wd.poc
 dsimp only
 by_cases e:j = me
 ·subst e
  rw [List.getD_eq_getElem?_getD,List.getElem?_set_self (by omega)]
  exact (hx.cut_ok _).1
 ·rw [List.getD_eq_getElem?_getD,List.getElem?_set_ne (Ne.symm e),← List.getD_eq_getElem?_getD]
  exact h.pok j hj
theorem Wd.Ok.next {T:Tm} {W:Wd} {n:Nat} {a:Ac} (h:W.Ok T 3 n) (hT:T.Ok) (hn:n ≤ 62) (ha:a.Ok) (hk:a.k ≠ 1):(doP T W a).1.Ok T 3 (n + 1):=by
 have h1:=ha.kind
 unfold doP
 rw [if_neg hk]
 by_cases g:a.k ≤ 5
 ·rw [if_pos g]
  have h:=h.srv_ok (x:=askR T W a.od) (m2:=3) (fun h0 => (h.ask hT hn (ha.od (by omega) g) h0).1) a.cut
  simpa using h
 ·rw [if_neg g]
  exact (h.poc_ok ha.me (krP_ok h ha.me).1 _).more (by omega)
theorem Wd.Ok.first {T:Tm} {W:Wd} {m n:Nat} {a:Ac} (h:W.Ok T m n) (hm:m ≤ 2) (hn:n ≤ 62) (hk:a.k = 1) (hme:a.me = m) (hc:a.cut = none):(doP T W a).1.Ok T (m + 1) (n + 1):=by
 unfold doP
 rw [if_pos hk,hme,hc]
 have h:=h.srv_ok (x:=regR W m) (m2:=m + 1) (fun _ => h.reg hm hn) none
 rwa [if_pos ⟨rfl,rfl⟩] at h
structure Wv where
 At:Option Addr
 ct:Nat
 Ad:Option Addr
 cd:Nat
 Ao:Option Addr
 co:Nat
 Ap:Option Addr
 cp:Nat
 A0:Option Addr
 c0:Nat
 A1:Option Addr
 c1:Nat
 A2:Option Addr
 c2:Nat
structure Wv.Is (x:Wv) (w:World) (T:Tm) (W:Wd):Prop where
 t:w.ownsRow 0 209 2 (.slice x.At T.tl.length x.ct) T.tl.length (drs T.tl)
 d:w.ownsRow 0 143 1 (.slice x.Ad W.c.length x.cd) W.c.length (ws W.c)
 o:w.ownsRow 0 147 4 (.slice x.Ao W.lp.length x.co) W.lp.length (prs W.lp)
 p:w.ownsRow 0 32 1 (.slice x.Ap 3 x.cp) 3 [.slice x.A0 12 x.c0,.slice x.A1 12 x.c1,.slice x.A2 12 x.c2]
 p0:w.ownsRow 0 143 1 (.slice x.A0 12 x.c0) 12 (ws (W.P.getD 0 pk0).C)
 p1:w.ownsRow 0 143 1 (.slice x.A1 12 x.c1) 12 (ws (W.P.getD 1 pk0).C)
 p2:w.ownsRow 0 143 1 (.slice x.A2 12 x.c2) 12 (ws (W.P.getD 2 pk0).C)
def Wv.vs (x:Wv) (T:Tm) (W:Wd):List Value:=[.slice x.At T.tl.length x.ct,.int .i64 ↑T.fx,.int .i64 ↑T.fb,.int .i64 ↑T.db,.int .i64 ↑T.al,.slice x.Ad W.c.length x.cd,.slice x.Ao W.lp.length x.co,.slice x.Ap 3 x.cp]
def NoWd (t:TypeId):Prop:=t ≠ 209 ∧ t ≠ 143 ∧ t ≠ 147 ∧ t ≠ 32
theorem Wv.Is.keptBy {x:Wv} {w w':World} {T:Tm} {W:Wd} (h:x.Is w T W) {row:Option Nat} (hg:w.grownBy w' row) (hr:∀ (b e s n:Nat) (v:Value) (xs:List Value),(e = 209 ∨ e = 143 ∨ e = 147 ∨ e = 32) → w.ownsRow b e s v n xs → v.ownBlock = none ∨ v.ownBlock ≠ row):x.Is w' T W :=
 ⟨h.t.kept hg (hr _ _ _ _ _ _ (by simp) h.t),h.d.kept hg (hr _ _ _ _ _ _ (by simp) h.d),h.o.kept hg (hr _ _ _ _ _ _ (by simp) h.o),h.p.kept hg (hr _ _ _ _ _ _ (by simp) h.p),h.p0.kept hg (hr _ _ _ _ _ _ (by simp) h.p0),h.p1.kept hg (hr _ _ _ _ _ _ (by simp) h.p1),h.p2.kept hg (hr _ _ _ _ _ _ (by simp) h.p2)⟩
theorem Wv.Is.below {x:Wv} {w w':World} {T:Tm} {W:Wd} (h:x.Is w T W) (hb:Below w.heap.size w w'):x.Is w' T W :=
 h.keptBy (grown_of_below hb) (fun _ _ _ _ v _ _ _ => by cases v.ownBlock <;> simp)
theorem Wv.Is.blk {x:Wv} {w w':World} {T:Tm} {W:Wd} (h:x.Is w T W) {g:Nat} {t:TypeId} {cs:Array Value} (hB:Blk w g t cs) (ht:NoWd t) (hg:w.grownBy w' (some g)):x.Is w' T W :=
 h.keptBy hg (fun b e s n v xs he hr => by
  obtain ⟨t1,t2,t3,t4⟩:=ht
  refine .inr fun e2 => blk_not_row hB ?_ hr e2.symm
  rcases he with rfl | rfl | rfl | rfl <;> assumption)
theorem Wv.Is.row {x:Wv} {w w':World} {T:Tm} {W:Wd} (h:x.Is w T W) {b0 e0 s0 n0:Nat} {v0:Value} {xs0:List Value} (hB:w.ownsRow b0 e0 s0 v0 n0 xs0) (ht:NoWd e0) (hg:w.grownBy w' v0.ownBlock):x.Is w' T W :=
 h.keptBy hg (fun b e s n v xs he hr => by
  obtain ⟨t1,t2,t3,t4⟩:=ht
  refine own_ne_type hr hB ?_
  rcases he with rfl | rfl | rfl | rfl <;> exact Ne.symm (by assumption))
theorem Wv.Is.terms {x:Wv} {w:World} {T:Tm} {W:Wd} (h:x.Is w T W):IsDs w (.slice x.At T.tl.length x.ct) T.tl:=isds_own rfl h.t
theorem Wv.Is.disk {x:Wv} {w:World} {T:Tm} {W:Wd} {m n:Nat} (h:x.Is w T W) (hW:W.Ok T m n):IsWs w (.slice x.Ad W.c.length x.cd) W.c:=isws_own rfl hW.lt h.d
theorem Wv.Is.pairs {x:Wv} {w:World} {T:Tm} {W:Wd} {m n:Nat} (h:x.Is w T W) (hW:W.Ok T m n):IsPs w (.slice x.Ao W.lp.length x.co) W.lp:=isps_own rfl (ook_wf hW.ook) h.o
def Wv.A (x:Wv) (j:Nat):Option Addr:=if j = 0 then x.A0 else if j = 1 then x.A1 else x.A2
def Wv.c (x:Wv) (j:Nat):Nat:=if j = 0 then x.c0 else if j = 1 then x.c1 else x.c2
theorem Wv.Is.pocket {x:Wv} {w:World} {T:Tm} {W:Wd} {m n:Nat} (h:x.Is w T W) (hW:W.Ok T m n) (j:Nat) (hj:j ≤ 2):w.ownsRow 0 143 1 (.slice (x.A j) 12 (x.c j)) 12 (ws (W.P.getD j pk0).C) ∧ IsWs w (.slice (x.A j) 12 (x.c j)) (W.P.getD j pk0).C:=by
 have hl:=(hW.pok j hj).len
 have key:w.ownsRow 0 143 1 (.slice (x.A j) 12 (x.c j)) 12 (ws (W.P.getD j pk0).C):=by
  unfold Wv.A Wv.c
  rcases (show j = 0 ∨ j = 1 ∨ j = 2 by omega) with rfl | rfl | rfl
  ·exact h.p0
  ·exact h.p1
  ·exact h.p2
 exact ⟨key,isws_own hl (hW.pok j hj).lt key⟩
def Td.vs (t:Td):List Value:=[.int .i64 ↑t.E,.int .i64 ↑t.ad,.string t.s,.int .i64 ↑t.b.id,.int .i64 ↑t.b.te,.int .i64 ↑t.b.de,.int .i64 ↑t.b.fe,.int .i64 ↑t.b.pr,.int .i64 ↑t.b.ch,.int .i64 ↑t.b.un,.bool t.dead]
def cutI (c:Option Nat):Int:=match c with | none => -1 | some k => (k:Int)
def Ac.vs (a:Ac):List Value:=[.int .i64 ↑a.k,.int .i64 ↑a.me,.int .i64 ↑a.A,.int .i64 ↑a.B,.int .i64 ↑a.C,.string a.s,.int .i64 (cutI a.cut)]
theorem cat_get {α:Type} (f:α → List Value) (s:Nat) (hs:∀ a,(f a).length = s):∀ (l:List α) (i:Nat) (h:i < l.length) (j:Nat) (hj:j < s),(l.flatMap f)[i * s + j]? = (f l[i])[j]?
 | [],i,h,_,_ => by simp at h
 | a :: l,0,h,j,hj => by rw [List.flatMap_cons,Nat.zero_mul,Nat.zero_add,List.getElem?_append_left (by rw [hs];exact hj)];rfl
 | a :: l,i + 1,h,j,hj => by
  rw [List.flatMap_cons,List.getElem?_append_right (by rw [hs,Nat.succ_mul];omega),hs,show (i + 1) * s + j - s = i * s + j by rw [Nat.succ_mul];omega]
  exact cat_get f s hs l i (by simpa using h) j hj
structure Sd where
 me:Nat
 rev:Nat
 s:ByteArray
 b:Bil
 k:Nat
 mo:Nat
def Bil.vs (b:Bil):List Value:=[.int .i64 ↑b.id,.int .i64 ↑b.te,.int .i64 ↑b.de,.int .i64 ↑b.fe,.int .i64 ↑b.pr,.int .i64 ↑b.ch,.int .i64 ↑b.un]
def Sd.vs (t:Sd):List Value:=[.int .i64 ↑t.me,.int .i64 ↑t.rev,.string t.s,.int .i64 ↑t.b.id,.int .i64 ↑t.b.te,.int .i64 ↑t.b.de,.int .i64 ↑t.b.fe,.int .i64 ↑t.b.pr,.int .i64 ↑t.b.ch,.int .i64 ↑t.b.un,.int .i64 ↑t.k,.int .i64 ↑t.mo]
def sds (l:List Sd):List Value:=l.flatMap Sd.vs
theorem sds_get (l:List Sd) (i:Nat) (h:i < l.length) (j:Nat) (hj:j < 12):(sds l)[i * 12 + j]? = l[i].vs[j]?:=cat_get Sd.vs 12 (fun _ => rfl) l i h j hj
theorem sds_cell {w:World} {l:List Sd} {g n c:Nat} (h:w.ownsRow 0 74 12 (.slice (some ⟨g,0,none⟩) n c) n (sds l)) (hn:n = l.length) (i:Nat) (hi:i < n) (j:Nat) (hj:j < 12) (v:Value) (hv:(l[i]'(hn ▸ hi)).vs[j]? = some v):w.cell? ⟨g,i * 12 + j,none⟩ = some v:=by
 subst hn
 rw [h.cellAt (i * 12 + j) (by omega),sds_get l i hi j hj,hv]
def pkB (me:Nat):Pk:=⟨(1 :: mws me 0 0 0 0 0 0) ++ (0 :: List.replicate 5 0),0,mt0⟩
theorem pkB_ok {me:Nat} (h:me ≤ 2):(pkB me).Ok me:=by
 have hm:mt0.May me:=⟨by decide,may_of (by omega) (by decide) (by decide) (by decide) (by decide) (by decide) (.inl ⟨rfl,rfl⟩)⟩
 refine ⟨make_sl _ 5 rfl,hm,fun x hx => ?_⟩
 have hl:=hm.lt
 rcases List.mem_append.1 hx with hx | hx
 ·rcases List.mem_cons.1 hx with rfl | hx
  ·decide
  ·exact hl x hx
 ·rcases List.mem_cons.1 hx with rfl | hx
  ·decide
  ·rw [(List.mem_replicate.1 hx).2];decide
def wd0:Wd:=⟨List.replicate 900 0,[],[],[],[pkB 0,pkB 1,pkB 2]⟩
theorem wd0_ok (T:Tm):wd0.Ok T 0 0 :=
 ⟨⟨blank_tape 900,fun v h => (nomatch (show v ∈ [] from h)),rfl,Nat.zero_le _,(by show 1 ≤ (List.replicate 900 0).length;rw [List.length_replicate];omega),(by show (List.replicate 900 0).length ≤ 2048;rw [List.length_replicate];omega)⟩,List.length_replicate,fun x hx => by rw [(List.mem_replicate.1 hx).2];decide,Nat.le_refl _,rfl,fun j (h:j < 0) => absurd h (Nat.not_lt_zero j),ook_nil0,Nat.le_refl _,rfl,fun j hj => by
  rcases (show j = 0 ∨ j = 1 ∨ j = 2 by omega) with rfl | rfl | rfl
  ·exact pkB_ok (by omega)
  ·exact pkB_ok (by omega)
  ·exact pkB_ok (by omega)⟩
theorem IsRo.setc {w:World} {e:TypeId} {vs:List Value} {l:List (List Nat)} (h:IsRo w e vs l) {p:Addr} (hp:∀ v ∈ vs,some p.block ≠ v.ownBlock) (u:Value):IsRo (w.setCell p u) e vs l :=
 ⟨h.1,fun i hi => by obtain ⟨v,h1,h2⟩:=h.2 i hi;exact ⟨v,h1,own_other h2.1 (hp v (List.mem_of_getElem? h1)) u,h2.2⟩⟩
theorem IsRo.ne {w:World} {e t:TypeId} {g:Nat} {cs:Array Value} {vs:List Value} {l:List (List Nat)} (h:IsRo w e vs l) (hB:Blk w g t cs) (hte:t ≠ e):∀ v ∈ vs,some g ≠ v.ownBlock:=fun v hv => by
 obtain ⟨i,hi,rfl⟩:=List.getElem_of_mem hv
 obtain ⟨u,h1,h2⟩:=h.2 i (by rw [← h.1];exact hi)
 rw [List.getElem?_eq_getElem hi] at h1
 injection h1 with h1
 rw [h1]
 exact blk_not_row hB hte h2.1
theorem IsDs.rd {w:World} {A:Option Addr} {n c:Nat} {l:List (Nat × Nat)} (h:IsDs w (.slice A n c) l):Rd w w.heap.size 2 A n (drs l):=by
 obtain ⟨_,_,e,_,_,hr⟩:=h
 injection e with e1 e2 e3
 rw [e1,e2];exact hr
theorem IsWs.rd {w:World} {A:Option Addr} {n c:Nat} {l:List Nat} (h:IsWs w (.slice A n c) l):Rd w w.heap.size 1 A n (ws l):=by
 obtain ⟨_,_,e,_,_,_,hr⟩:=h
 injection e with e1 e2 e3
 rw [e1,e2];exact hr
theorem IsPs.rd {w:World} {A:Option Addr} {n c:Nat} {l:List Pr} (h:IsPs w (.slice A n c) l):Rd w w.heap.size 4 A n (prs l):=by
 obtain ⟨_,_,e,_,_,_,hr⟩:=h
 injection e with e1 e2 e3
 rw [e1,e2];exact hr
def RetCln (T:Tm) (c:List Nat) (lp:List Pr) (PL:List (List Nat)) (w:World) (e:Ending) (w':World):Prop :=
 ∃ (At:Option Addr) (ct:Nat) (Ad:Option Addr) (cd:Nat) (Ao:Option Addr) (co:Nat) (Ap:Option Addr) (cp:Nat) (vs:List Value),e = .returned (.agg #[.slice At T.tl.length ct,T.fx,T.fb,T.db,T.al,.slice Ad c.length cd,.slice Ao lp.length co,.slice Ap PL.length cp]) ∧
  w'.ownsRow 0 209 2 (.slice At T.tl.length ct) T.tl.length (drs T.tl) ∧ w'.ownsRow 0 143 1 (.slice Ad c.length cd) c.length (ws c) ∧ w'.ownsRow 0 147 4 (.slice Ao lp.length co) lp.length (prs lp) ∧
  w'.ownsRow w.heap.size 32 1 (.slice Ap PL.length cp) PL.length vs ∧ IsRo w' 143 vs PL ∧ Below w.heap.size w w'
theorem cln_ok (T:Tm) (c:List Nat) (lp:List Pr) (PL:List (List Nat)) (At:Option Addr) (ct:Nat) (Ad:Option Addr) (cd:Nat) (Ao:Option Addr) (co:Nat) (Ap:Option Addr) (cp:Nat) (w:World)
 (ht:IsDs w (.slice At T.tl.length ct) T.tl) (hd:IsWs w (.slice Ad c.length cd) c) (ho:IsPs w (.slice Ao lp.length co) lp) (hp:IsRr w (.slice Ap PL.length cp) PL) (h8:T.tl.length ≤ 8) (hc:c.length ≤ 2048) (hl:lp.length ≤ 500) (hP:PL.length ≤ 50) (hP2:∀ x ∈ PL,x.length ≤ 2048) :
 Calls Tryz.prog 32 #[.agg #[.slice At T.tl.length ct,T.fx,T.fb,T.db,T.al,.slice Ad c.length cd,.slice Ao lp.length co,.slice Ap PL.length cp]] w (RetCln T c lp PL w):=by
 obtain ⟨tn,htn⟩:∃ n,T.tl.length = n:=⟨_,rfl⟩
 obtain ⟨cn,hcn⟩:∃ n,c.length = n:=⟨_,rfl⟩
 obtain ⟨ln,hln⟩:∃ n,lp.length = n:=⟨_,rfl⟩
 obtain ⟨pn,hpn⟩:∃ n,PL.length = n:=⟨_,rfl⟩
 have H:=Mem.init w
 replace H:=H.al w.heap.size #[.slice At tn ct,T.fx,T.fb,T.db,T.al,.slice Ad cn cd,.slice Ao ln co,.slice Ap pn cp] (38) |>.al (w.heap.size + 1) #[.slice none 0 0,(),(),(),(),.slice none 0 0,.slice none 0 0,.slice none 0 0] (38) |>.gen
 simp only [List.nil_append,List.cons_append] at H
 obtain ⟨W0,hW0,H⟩:=H
 have ht0:=ht.below H.below
 have hd0:=hd.below H.below
 have ho0:=ho.below H.below
 have hrt:=ht0.rd
 have hrd:=hd0.rd
 have hro:=ho0.rd
 unfold RetCln
 rw [htn] at h8 hrt ⊢
 rw [hcn] at hc hd ⊢
 rw [hln] at hl ho ⊢
 rw [hpn] at hP hp ⊢
 have hws1:∀ u ∈ ws c,u.oneCell' = true:=fun u hu => by obtain ⟨x,_,rfl⟩:=List.mem_map.1 hu;rfl
 have HP:=Lib.hid hpn
 clear ht ht0 hd0 ho0 htn hcn hln hpn hrd hro
 have Lwb:=H.c8 0 rfl
 have Lrs:=H.c8 1 rfl
 have Nwbrs:=H.ne2 0 1 rfl rfl rfl
 go_enter Tryz.func32,Tryz.ntmps32
 go_wp2_with (first | (at_builtin;refine wpList_pushN el_st rfl (.const (.slice none 0 0)) (.tmp 8) rfl W0 _ _ 0 [] rfl (World.ownsRow_nil _ _ _ _) _ At tn ct (drs T.tl) rfl hrt (drs_one _) (by omega) (by unfold maxLen;omega) W0 (Below.refl _ _) (Nat.le_refl _) ?_;intro A1 c1 w1 hown1 hb1;simp only [Nat.zero_add,List.nil_append] at hown1;have K1:=Mem.row H hb1 hown1 (Nat.le_refl _);have H1:=Mem.set 0 K1 rfl 0 (.slice A1 tn c1);simp only [List.set_cons_zero,List.setIfInBounds_toArray,List.cons_append,List.nil_append] at H1;obtain ⟨q1a,q10,q1f0,q11,q1f1,q12,q1f2,q13,q1f3,q14,q1f4,q15,q1f5,q16,q1f6,q17,q1f7⟩:=K1.c8 0 rfl;have hrd2:=(hd.below H1.below).rd;have hro2:=ho.below H1.below) | (at_builtin;refine wpList_pushN el_u32 rfl (.const (.slice none 0 0)) (.tmp 13) rfl (w1.setCell ⟨w.heap.size,0,none⟩ (.slice A1 tn c1)) _ _ 0 [] rfl (World.ownsRow_nil _ _ _ _) _ Ad cn cd (ws c) rfl hrd2 hws1 (by omega) (by unfold maxLen;omega) (w1.setCell ⟨w.heap.size,0,none⟩ (.slice A1 tn c1)) (Below.refl _ _) (Nat.le_refl _) ?_;intro A2 c2 w2 hown2 hb2;simp only [Nat.zero_add,List.nil_append] at hown2;have K2:=Mem.row H1 hb2 hown2 (Nat.le_refl _);have H2:=Mem.set 0 K2 rfl 5 (.slice A2 cn c2);simp only [List.set_cons_zero,List.set_cons_succ,List.setIfInBounds_toArray,List.cons_append,List.nil_append] at H2;obtain ⟨q2a,q20,q2f0,q21,q2f1,q22,q2f2,q23,q2f3,q24,q2f4,q25,q2f5,q26,q2f6,q27,q2f7⟩:=K2.c8 0 rfl;have hro3:=(ho.below H2.below).rd) | (at_builtin;refine wpList_pushN el_pair rfl (.const (.slice none 0 0)) (.tmp 18) rfl (w2.setCell ⟨w.heap.size,5,none⟩ (.slice A2 cn c2)) _ _ 0 [] rfl (World.ownsRow_nil _ _ _ _) _ Ao ln co (prs lp) rfl hro3 (prs_one _) (by omega) (by unfold maxLen;omega) (w2.setCell ⟨w.heap.size,5,none⟩ (.slice A2 cn c2)) (Below.refl _ _) (Nat.le_refl _) ?_;intro A3 c3 w3 hown3 hb3;simp only [Nat.zero_add,List.nil_append] at hown3;have K3:=Mem.row H2 hb3 hown3 (Nat.le_refl _);have H3:=Mem.set 0 K3 rfl 6 (.slice A3 ln c3);simp only [List.set_cons_zero,List.set_cons_succ,List.setIfInBounds_toArray,List.cons_append,List.nil_append] at H3;obtain ⟨q3a,q30,q3f0,q31,q3f1,q32,q3f2,q33,q3f3,q34,q3f4,q35,q3f5,q36,q3f6,q37,q3f7⟩:=K3.c8 0 rfl))
 clear Lwb Lrs Nwbrs
 clear hW0 hown1 hown2 hown3 hb1 hb2 hb3 K1 K2 K3 H1 H2 hrd2 hro2 hro3 q1a q10 q1f0 q11 q1f1 q12 q1f2 q13 q1f3 q14 q1f4 q15 q1f5 q16 q1f6 q17 q1f7 q2a q20 q2f0 q21 q2f1 q22 q2f2 q23 q2f3 q24 q2f4 q25 q2f5 q26 q2f6 q27 q2f7 q3a q30 q3f0 q31 q3f1 q32 q3f2 q33 q3f3 q34 q3f4 q35 q3f5 q36 q3f6 q37 q3f7
 obtain ⟨B3,hB3⟩:∃ B,(w2.setCell ⟨w.heap.size,5,none⟩ (.slice A2 cn c2)).heap.size = B:=⟨_,rfl⟩
 obtain ⟨B2,hB2⟩:∃ B,(w1.setCell ⟨w.heap.size,0,none⟩ (.slice A1 tn c1)).heap.size = B:=⟨_,rfl⟩
 obtain ⟨B1,hB1⟩:∃ B,W0.heap.size = B:=⟨_,rfl⟩
 obtain ⟨W3,hW3⟩:∃ W,w3.setCell ⟨w.heap.size,6,none⟩ (.slice A3 ln c3) = W:=⟨_,rfl⟩
 rw [hB3,hB2,hB1,hW3] at H3
 rw [hW3]
 clear hB1 hB2 hB3 hW3 H
 have H:Mem (w) [] (W3) [.blk (w.heap.size) 38 #[.slice A1 tn c1,T.fx,T.fb,T.db,T.al,.slice A2 cn c2,.slice A3 ln c3,.slice Ap pn cp],.blk (w.heap.size + 1) 38 #[.slice none 0 0,(),(),(),(),.slice none 0 0,.slice none 0 0,.slice none 0 0],.row (B1) (209) (2) (.slice A1 tn c1) (tn) (drs T.tl),.row (B2) (143) (1) (.slice A2 cn c2) (cn) (ws c),.row (B3) (147) (4) (.slice A3 ln c3) (ln) (prs lp)]:=H3
 clear H3
 go_loopw [3,5,25] (fun l _ i wr => ∃ (k:Nat) (A:Option Addr) (cc:Nat) (vs:List Value),k ≤ pn ∧ i = .int .i64 ↑k ∧ l = .slice A k cc ∧ IsRo wr 143 vs (PL.take k) ∧ Mem (w) [] (wr) [.blk (w.heap.size) 38 #[.slice A1 tn c1,T.fx,T.fb,T.db,T.al,.slice A2 cn c2,.slice A3 ln c3,.slice Ap pn cp],.blk (w.heap.size + 1) 38 #[.slice none 0 0,(),(),(),(),.slice none 0 0,.slice none 0 0,.slice none 0 0],.row (B1) (209) (2) (.slice A1 tn c1) (tn) (drs T.tl),.row (B2) (143) (1) (.slice A2 cn c2) (cn) (ws c),.row (B3) (147) (4) (.slice A3 ln c3) (ln) (prs lp),.row (w.heap.size) (32) (1) (.slice A k cc) (k) (vs)]) (fun _ _ i _ => pn - (intOf i).toNat)
 case atStart => exact ⟨0,none,0,[],by omega,rfl,rfl,isro_nil _ _,H.nilrow _ _ _⟩
 case round =>
  obtain ⟨k,A,cc,vs,hk,rfl,rfl,hro,HM⟩:=hrel
  clear H
  have H:Mem (w) [] (wr) [.blk (w.heap.size) 38 #[.slice A1 tn c1,T.fx,T.fb,T.db,T.al,.slice A2 cn c2,.slice A3 ln c3,.slice Ap pn cp],.blk (w.heap.size + 1) 38 #[.slice none 0 0,(),(),(),(),.slice none 0 0,.slice none 0 0,.slice none 0 0],.row (B1) (209) (2) (.slice A1 tn c1) (tn) (drs T.tl),.row (B2) (143) (1) (.slice A2 cn c2) (cn) (ws c),.row (B3) (147) (4) (.slice A3 ln c3) (ln) (prs lp),.row (w.heap.size) (32) (1) (.slice A k cc) (k) (vs)]:=HM
  clear HM
  by_cases hlt:k < pn
  ·have hlt2:(k:Int) < (pn:Int):=by omega
   have hkP:k < PL.length:=by have:=HP.out;omega
   obtain ⟨b,off,v,rfl,hB,hck,hv⟩:=hp.at_ hkP
   replace hck:=(H.below.cell (p:=⟨b,off + k,none⟩) hB).trans hck
   replace hv:=hv.below H.below
   have hx2:=hP2 _ (List.getElem_mem hkP)
   have HT:=Lib.hid (List.take_succ_eq_append_getElem hkP)
   obtain ⟨x,hx⟩:∃ x,PL[k] = x:=⟨_,rfl⟩
   rw [hx] at hv hx2 HT
   obtain ⟨A',c',rfl,_,_,hxl,hrd⟩:=hv
   obtain ⟨xn,hxn⟩:∃ n,x.length = n:=⟨_,rfl⟩
   rw [hxn] at hrd hx2 hck
   have hwsx:∀ u ∈ ws x,u.oneCell' = true:=fun u hu => by obtain ⟨y,_,rfl⟩:=List.mem_map.1 hu;rfl
   have HX:=Lib.hid hxn
   have HXL:=Lib.hid hxl
   have HRO:=Lib.hid hro
   clear hd ho hx hxn hkP hxl hro
   have Lwb:=H.c8 0 rfl
   go_wp2_with (first | (at_builtin;refine wpList_pushN el_u32 rfl (.const (.slice none 0 0)) (.tmp 30) rfl wr _ _ 0 [] rfl (World.ownsRow_nil _ _ _ _) _ A' xn c' (ws x) rfl hrd hwsx (by omega) (by unfold maxLen;omega) wr (Below.refl _ _) (Nat.le_refl _) ?_;intro A4 c4 w4 hown4 hb4;simp only [Nat.zero_add,List.nil_append] at hown4;have K4:=Mem.call H hb4) | (at_builtin;refine wpList_pushMg el_ws rfl (.tmp 29) (.tmp 32) rfl 5 K4 rfl rfl _ rfl rfl (news:=[.slice A4 xn c4]) rfl (fun u hu => by simp at hu;subst hu;rfl) (by omega) (by unfold maxLen;omega) K4.keep.size ?_;intro A5 c5 w5 H5 hg5))
   have hO4:OwnWs w4 143 (.slice A4 xn c4) x:=⟨by rw [HX.out];exact own_mono hown4 (Nat.zero_le _),HXL.out⟩
   have hR5:=(((HRO.out.map fun v xs h => h.below hb4).snoc hO4).map fun v xs h => h.alloc (.cells #[.slice A4 xn c4] 32)).map fun v xs h => h.grown ((K4.own_ 5 rfl).alloc (.cells #[.slice A4 xn c4] 32)) (by decide) hg5
   rw [← HT.out] at hR5
   simp only [List.set_cons_zero,List.set_cons_succ] at H5
   go_roundw
   case rel => exact ⟨k + 1,A5,c5,vs ++ [.slice A4 xn c4],by omega,by go_num,rfl,hR5,H5⟩
   case measure => simp [intOf];omega
  ·skip
   obtain rfl:k = pn:=by omega
   have hR:IsRo wr 143 vs PL:=by rwa [← HP.out,List.take_length] at hro
   clear hro hd ho hp
   have Lwb:=H.c8 0 rfl
   have Lrs:=H.c8 1 rfl
   have Nwbrs:=H.ne2 0 1 rfl rfl rfl
   have n0:=hR.ne (H.blk 0 rfl) (by decide)
   have n1:=hR.ne (H.blk 1 rfl) (by decide)
   have hR2:=((((((((hR.setc (p:=⟨w.heap.size,7,none⟩) n0 (.slice A k cc)).setc (p:=⟨w.heap.size + 1,0,none⟩) n1 (.slice A1 tn c1)).setc (p:=⟨w.heap.size + 1,1,none⟩) n1 (.int .i64 ↑T.fx)).setc (p:=⟨w.heap.size + 1,2,none⟩) n1 (.int .i64 ↑T.fb)).setc (p:=⟨w.heap.size + 1,3,none⟩) n1 (.int .i64 ↑T.db)).setc (p:=⟨w.heap.size + 1,4,none⟩) n1 (.int .i64 ↑T.al)).setc (p:=⟨w.heap.size + 1,5,none⟩) n1 (.slice A2 cn c2)).setc (p:=⟨w.heap.size + 1,6,none⟩) n1 (.slice A3 ln c3)).setc (p:=⟨w.heap.size + 1,7,none⟩) n1 (.slice A k cc)
   clear hR n0 n1
   go_wp2
   replace H:=H.set 0 rfl 7 (.slice A k cc) |>.set 1 rfl 0 (.slice A1 tn c1) |>.set 1 rfl 1 T.fx |>.set 1 rfl 2 T.fb |>.set 1 rfl 3 T.db |>.set 1 rfl 4 T.al |>.set 1 rfl 5 (.slice A2 cn c2) |>.set 1 rfl 6 (.slice A3 ln c3) |>.set 1 rfl 7 (.slice A k cc) |>.gen
   simp only [List.set_cons_zero,List.set_cons_succ,List.setIfInBounds_toArray] at H
   obtain ⟨wz,hwz,H⟩:=H
   rw [hwz]
   rw [hwz] at hR2
   clear hwz
   clear Lwb Lrs Nwbrs
   obtain ⟨rslt,rs0,-,rs1,-,rs2,-,rs3,-,rs4,-,rs5,-,rs6,-,rs7,-⟩:=H.c8 1 rfl
   refine bodyPost_ret (v:=.agg #[.slice A1 tn c1,T.fx,T.fb,T.db,T.al,.slice A2 cn c2,.slice A3 ln c3,.slice A k cc]) (by simp [results,Tryz.results32,go_sem,rs0,rs1,rs2,rs3,rs4,rs5,rs6,rs7];done) rfl ?_
   exact ⟨A1,c1,A2,c2,A3,c3,A,cc,vs,rfl,own_mono (H.own_ 2 rfl) (Nat.zero_le _),own_mono (H.own_ 3 rfl) (Nat.zero_le _),own_mono (H.own_ 4 rfl) (Nat.zero_le _),H.own_ 5 rfl,hR2,H.below⟩
end Go.Proofs.YtfgiehkfcoodbaaGreat
namespace Go.Proofs.YtfgiehkfcoodbaaGreat
open Go.RowKit
set_option linter.unusedVariables false
set_option maxRecDepth 100000
set_option maxHeartbeats 16000000
section
variable {w0 w:World} {G:List Nat} {l:List Chunk}
theorem Mem.c21 {g:Nat} {t:TypeId} {v0 v1 v2 v3 v4 v5 v6 v7 v8 v9 v10 v11 v12 v13 v14 v15 v16 v17 v18 v19 v20:Value} (H:Mem w0 G w l) (i:Nat) (hi:l[i]? = some (.blk g t #[v0,v1,v2,v3,v4,v5,v6,v7,v8,v9,v10,v11,v12,v13,v14,v15,v16,v17,v18,v19,v20])):g < w.heap.size ∧ w.cell? ⟨g,0,none⟩ = some v0 ∧ w.frozen? ⟨g,0,none⟩ = false ∧ w.cell? ⟨g,1,none⟩ = some v1 ∧ w.frozen? ⟨g,1,none⟩ = false ∧ w.cell? ⟨g,2,none⟩ = some v2 ∧ w.frozen? ⟨g,2,none⟩ = false ∧ w.cell? ⟨g,3,none⟩ = some v3 ∧ w.frozen? ⟨g,3,none⟩ = false ∧ w.cell? ⟨g,4,none⟩ = some v4 ∧ w.frozen? ⟨g,4,none⟩ = false ∧ w.cell? ⟨g,5,none⟩ = some v5 ∧ w.frozen? ⟨g,5,none⟩ = false ∧ w.cell? ⟨g,6,none⟩ = some v6 ∧ w.frozen? ⟨g,6,none⟩ = false ∧ w.cell? ⟨g,7,none⟩ = some v7 ∧ w.frozen? ⟨g,7,none⟩ = false ∧ w.cell? ⟨g,8,none⟩ = some v8 ∧ w.frozen? ⟨g,8,none⟩ = false ∧ w.cell? ⟨g,9,none⟩ = some v9 ∧ w.frozen? ⟨g,9,none⟩ = false ∧ w.cell? ⟨g,10,none⟩ = some v10 ∧ w.frozen? ⟨g,10,none⟩ = false ∧ w.cell? ⟨g,11,none⟩ = some v11 ∧ w.frozen? ⟨g,11,none⟩ = false ∧ w.cell? ⟨g,12,none⟩ = some v12 ∧ w.frozen? ⟨g,12,none⟩ = false ∧ w.cell? ⟨g,13,none⟩ = some v13 ∧ w.frozen? ⟨g,13,none⟩ = false ∧ w.cell? ⟨g,14,none⟩ = some v14 ∧ w.frozen? ⟨g,14,none⟩ = false ∧ w.cell? ⟨g,15,none⟩ = some v15 ∧ w.frozen? ⟨g,15,none⟩ = false ∧ w.cell? ⟨g,16,none⟩ = some v16 ∧ w.frozen? ⟨g,16,none⟩ = false ∧ w.cell? ⟨g,17,none⟩ = some v17 ∧ w.frozen? ⟨g,17,none⟩ = false ∧ w.cell? ⟨g,18,none⟩ = some v18 ∧ w.frozen? ⟨g,18,none⟩ = false ∧ w.cell? ⟨g,19,none⟩ = some v19 ∧ w.frozen? ⟨g,19,none⟩ = false ∧ w.cell? ⟨g,20,none⟩ = some v20 ∧ w.frozen? ⟨g,20,none⟩ = false:=⟨H.lt i hi,(H.blk i hi).cell 0,(H.blk i hi).frozen 0,(H.blk i hi).cell 1,(H.blk i hi).frozen 1,(H.blk i hi).cell 2,(H.blk i hi).frozen 2,(H.blk i hi).cell 3,(H.blk i hi).frozen 3,(H.blk i hi).cell 4,(H.blk i hi).frozen 4,(H.blk i hi).cell 5,(H.blk i hi).frozen 5,(H.blk i hi).cell 6,(H.blk i hi).frozen 6,(H.blk i hi).cell 7,(H.blk i hi).frozen 7,(H.blk i hi).cell 8,(H.blk i hi).frozen 8,(H.blk i hi).cell 9,(H.blk i hi).frozen 9,(H.blk i hi).cell 10,(H.blk i hi).frozen 10,(H.blk i hi).cell 11,(H.blk i hi).frozen 11,(H.blk i hi).cell 12,(H.blk i hi).frozen 12,(H.blk i hi).cell 13,(H.blk i hi).frozen 13,(H.blk i hi).cell 14,(H.blk i hi).frozen 14,(H.blk i hi).cell 15,(H.blk i hi).frozen 15,(H.blk i hi).cell 16,(H.blk i hi).frozen 16,(H.blk i hi).cell 17,(H.blk i hi).frozen 17,(H.blk i hi).cell 18,(H.blk i hi).frozen 18,(H.blk i hi).cell 19,(H.blk i hi).frozen 19,(H.blk i hi).cell 20,(H.blk i hi).frozen 20⟩
end
def stV (a0 a1 a2 a3 a4 a5 a6 a7 p wv:Value) (t:Td):Array Value:=#[a0,a1,a2,a3,a4,a5,a6,a7,p,wv,t.E,t.ad,.string t.s,t.b.id,t.b.te,t.b.de,t.b.fe,t.b.pr,t.b.ch,t.b.un,.bool t.dead]
theorem stage_server (g:Nat) (a0 a1 a2 a3 a4 a5 a6 a7 p wv:Value) (Aw:Option Addr) (nw cw:Nat) (t:Td) (e:Int) (w:World) (hB:Blk w g 113 (stV a0 a1 a2 a3 a4 a5 a6 a7 p wv t)) :
 Calls Tryz.prog 122 #[.pointer (some ⟨g,0,none⟩),.slice Aw nw cw,e] w fun r w' => r = .returned (.int .i64 e) ∧ Mem w [g] w' [.blk g 113 (stV a0 a1 a2 a3 a4 a5 a6 a7 (.pointer (some ⟨g,5,none⟩)) (.slice Aw nw cw) t)]:=by
 unfold stV at hB ⊢
 have H:Mem (w) [g] (w) [.blk (g) 113 #[a0,a1,a2,a3,a4,a5,a6,a7,p,wv,t.E,t.ad,.string t.s,t.b.id,t.b.te,t.b.de,t.b.fe,t.b.pr,t.b.ch,t.b.un,.bool t.dead]]:=Mem.init1 hB
 clear hB
 have Lst:=H.c21 0 rfl
 go_enter Tryz.func122,Tryz.ntmps122
 go_wp2
 replace H:=H.set 0 rfl 8 (.pointer (some ⟨g,5,none⟩)) |>.set 0 rfl 9 (.slice Aw nw cw) |>.gen
 simp only [List.set_cons_zero,List.set_cons_succ,List.setIfInBounds_toArray] at H
 obtain ⟨w1,hw1,H⟩:=H
 rw [hw1]
 clear hw1
 go_ret
 exact ⟨rfl,H⟩
theorem stage_pocket (g bp cp me:Nat) (a0 a1 a2 a3 a4 a5 a6 p wv v:Value) (t:Td) (w:World) (hB:Blk w g 113 (stV a0 a1 a2 a3 a4 a5 a6 (.slice (some ⟨bp,0,none⟩) 3 cp) p wv t)) (hme:me ≤ 2) (hc:w.cell? ⟨bp,me,none⟩ = some v) (hne:bp ≠ g) :
 Calls Tryz.prog 119 #[.pointer (some ⟨g,0,none⟩),me] w fun r w' => r = .returned (.tuple #[v,()]) ∧ Mem w [g] w' [.blk g 113 (stV a0 a1 a2 a3 a4 a5 a6 (.slice (some ⟨bp,0,none⟩) 3 cp) (.pointer (some ⟨bp,me,none⟩)) wv t)]:=by
 unfold stV at hB ⊢
 have H:Mem (w) [g] (w) [.blk (g) 113 #[a0,a1,a2,a3,a4,a5,a6,.slice (some ⟨bp,0,none⟩) 3 cp,p,wv,t.E,t.ad,.string t.s,t.b.id,t.b.te,t.b.de,t.b.fe,t.b.pr,t.b.ch,t.b.un,.bool t.dead]]:=Mem.init1 hB
 clear hB
 have Lst:=H.c21 0 rfl
 have g1:¬ (me:Int) < 0:=by omega
 have g2:¬ (3:Int) ≤ (me:Int):=by omega
 have g3:decide ((me:Int) < 0) = false:=by simp
 have g4:decide ((3:Int) ≤ (me:Int)) = false:=by simp;omega
 have g5:(me:Int) < 3:=by omega
 go_enter Tryz.func119,Tryz.ntmps119
 go_wp2
 replace H:=H.set 0 rfl 8 (.pointer (some ⟨bp,me,none⟩)) |>.gen
 simp only [List.set_cons_zero,List.set_cons_succ,List.setIfInBounds_toArray] at H
 obtain ⟨w1,hw1,H⟩:=H
 rw [hw1]
 clear hw1
 go_ret2
 exact ⟨rfl,H⟩
end Go.Proofs.YtfgiehkfcoodbaaGreat
namespace Go.Proofs.YtfgiehkfcoodbaaGreat
open Go.RowKit
set_option linter.unusedVariables false
set_option maxRecDepth 100000
set_option maxHeartbeats 16000000
def td00:Td:=⟨0,0,⟨#[]⟩,bil0,false⟩
def Wv.st (x:Wv) (T:Tm) (W:Wd) (p wv:Value) (t:Td):Array Value:=stV (.slice x.At T.tl.length x.ct) (.int .i64 ↑T.fx) (.int .i64 ↑T.fb) (.int .i64 ↑T.db) (.int .i64 ↑T.al) (.slice x.Ad W.c.length x.cd) (.slice x.Ao W.lp.length x.co) (.slice x.Ap 3 x.cp) p wv t
def RetSrvDo (g:Nat) (x:Wv) (T:Tm) (W:Wd) (wl:List (Nat × Nat)) (E:Nat) (w:World) (r:Ending) (w':World):Prop :=
 ∃ (Aw:Option Addr) (cw b:Nat),r = .returned (.int .i64 ↑E) ∧ Mem w [g] w' [.blk g 113 (x.st T W (.pointer (some ⟨g,5,none⟩)) (.slice Aw wl.length cw) td00),.row b 158 2 (.slice Aw wl.length cw) wl.length (wrs wl)] ∧ ∀ p ∈ wl,p.2 < 4294967296
theorem reg_do (T:Tm) (hT:T.Ok) (W:Wd) (m n:Nat) (x:Wv) (g k A B C:Nat) (s:ByteArray) (cut:Int) (w:World) (hW:W.Ok T m n) (hm:m ≤ 2) (hn:n ≤ 62) (hx:x.Is w T W) (hB:Blk w g 113 (x.st T W (.pointer none) (.slice none 0 0) td00)) :
 Calls Tryz.prog 121 #[.agg #[k,m,A,B,C,.string s,cut],.pointer (some ⟨g,0,none⟩)] w (RetSrvDo g x T W (regR W m).wl 0 w):=by
 have hll:=hW.ll
 have hlen:=hW.len
 have hV:=fun U h1 h2 => register_ok T hT x.At T.tl.length x.ct (.slice x.Ad W.c.length x.cd) W.c W.L W.B m U h1 h2 hW.srv (by omega) hW.noneAt (by omega) (by omega)
 obtain ⟨wl,hwl⟩:∃ wl,(regR W m).wl = wl:=⟨_,rfl⟩
 have hwl2:putW W.c.length (W.L.length * 14) (evW (regV m)) = wl:=by rw [← hwl,hlen];rfl
 rw [hwl2] at hV
 rw [hwl]
 have hS:=fun (U:World) (Aw:Option Addr) (cw:Nat) h => stage_server g (.slice x.At T.tl.length x.ct) (.int .i64 ↑T.fx) (.int .i64 ↑T.fb) (.int .i64 ↑T.db) (.int .i64 ↑T.al) (.slice x.Ad W.c.length x.cd) (.slice x.Ao W.lp.length x.co) (.slice x.Ap 3 x.cp) (.pointer none) (.slice none 0 0) Aw wl.length cw td00 0 U h
 have ht:=hx.terms
 have hd:=hx.disk hW
 unfold RetSrvDo
 unfold Wv.st at hB ⊢
 unfold stV td00 bil0 at hS hB ⊢
 dsimp only at hS hB ⊢
 obtain ⟨nt,hnt⟩:∃ nt,T.tl.length = nt:=⟨_,rfl⟩
 obtain ⟨nc,hnc⟩:∃ nc,W.c.length = nc:=⟨_,rfl⟩
 obtain ⟨nl,hnl⟩:∃ nl,W.lp.length = nl:=⟨_,rfl⟩
 rw [hnt,hnc,hnl] at hS hB ⊢
 rw [hnt] at ht hV
 rw [hnc] at hd hV
 clear hW hx hwl hwl2 hll hlen hnt hnc hnl
 obtain ⟨At,ct,Ad,cd,Ao,co,Ap,cp,_,_,_,_,_,_⟩:=x
 dsimp only at hS hB ht hd hV ⊢
 have H:Mem (w) [g] (w) [.blk (g) 113 #[.slice At nt ct,T.fx,T.fb,T.db,T.al,.slice Ad nc cd,.slice Ao nl co,.slice Ap 3 cp,.pointer none,.slice none 0 0,(),(),.string ⟨#[]⟩,(),(),(),(),(),(),(),.bool false]]:=Mem.init1 hB
 replace H:=H.al w.heap.size #[k,m,A,B,C,.string s,cut] (150) |>.gen
 simp only [List.cons_append,List.nil_append] at H
 obtain ⟨W0,hW0,H⟩:=H
 have B0:Below w.heap.size w W0:=by rw [← hW0];exact below_a1 _ _
 have ht0:=ht.below B0
 have hd0:=hd.below B0
 clear ht hd B0 hB
 obtain ⟨stlt,st0,-,st1,-,st2,-,st3,-,st4,-,st5,-,st6,-,st7,-,st8,-,st9,-,st10,-,st11,-,st12,-,st13,-,st14,-,st15,-,st16,-,st17,-,st18,-,st19,-,st20,-⟩:=H.c21 0 rfl
 obtain ⟨bxlt,bx0,-,bx1,-,bx2,-,bx3,-,bx4,-,bx5,-,bx6,-⟩:=H.c7 1 rfl
 have Nstbx:=H.ne2 0 1 rfl rfl rfl
 go_enter Tryz.func121,Tryz.ntmps121
 go_upto_region 1 with fail
 clear hW0
 have V0:Below W0.heap.size W0 W0.drew:=below_draws (Below.refl _ _) 1
 have hV1:=hV _ (ht0.below V0) (hd0.below V0)
 have bxg:w.heap.size ≠ g:=by omega
 go_region_held3 (fun w' => w'.cell? ⟨g,0,none⟩ = some (.slice At nt ct) ∧ w'.cell? ⟨g,1,none⟩ = some (.int .i64 ↑T.fx) ∧ w'.cell? ⟨g,2,none⟩ = some (.int .i64 ↑T.fb) ∧ w'.cell? ⟨g,3,none⟩ = some (.int .i64 ↑T.db) ∧ w'.cell? ⟨g,4,none⟩ = some (.int .i64 ↑T.al) ∧ w'.cell? ⟨g,5,none⟩ = some (.slice Ad nc cd) ∧ w'.cell? ⟨w.heap.size,1,none⟩ = some (.int .i64 ↑m))
  (first | with_reducible exact ⟨st0,st1,st2,st3,st4,st5,bx1⟩ | with_reducible exact ⟨s0,s1,s2,s3,s4,s5,s6⟩ | with_reducible exact ⟨u0,u1,u2,u3,u4,u5,u6⟩ | go_keep | fail)
  (first | (go_at_call 123;(with_reducible refine hV1.mono ?_);rintro e we ⟨A3,c3,rfl,hwl3,hown,hbe⟩;have H1:=Mem.row H.drew hbe hown (Nat.le_refl _);have hB1:=H1.blk 0 rfl;have s0:=(H1.blk 0 rfl).cell 0;have s1:=(H1.blk 0 rfl).cell 1;have s2:=(H1.blk 0 rfl).cell 2;have s3:=(H1.blk 0 rfl).cell 3;have s4:=(H1.blk 0 rfl).cell 4;have s5:=(H1.blk 0 rfl).cell 5;have s6:=(H1.blk 1 rfl).cell 1;have s7:=H1.lt 1 rfl) | (go_at_call 122;(with_reducible refine (hS _ A3 c3 hB1).mono ?_);rintro e wf ⟨rfl,K⟩;have u0:=(K.blk 0 rfl).cell 0;have u1:=(K.blk 0 rfl).cell 1;have u2:=(K.blk 0 rfl).cell 2;have u3:=(K.blk 0 rfl).cell 3;have u4:=(K.blk 0 rfl).cell 4;have u5:=(K.blk 0 rfl).cell 5;have u6:=(World.cell?_of_block (K.keep.block w.heap.size s7 (by simp;omega))).trans s6))
 have HJ:=H1.joinAt 0 rfl K
 simp only [List.append_nil] at HJ
 go_wp2
 go_ret
 exact ⟨A3,c3,_,rfl,HJ.drop_ 1,hwl3⟩
theorem Wv.Is.pcell {x:Wv} {w:World} {T:Tm} {W:Wd} (h:x.Is w T W) {bp:Nat} (hp:x.Ap = some ⟨bp,0,none⟩) {me:Nat} (hme:me ≤ 2):bp < w.heap.size ∧ w.cell? ⟨bp,me,none⟩ = some (.slice (x.A me) 12 (x.c me)):=by
 obtain ⟨b,off,e,hB,hc⟩:=(Rd.of_own h.p).2 (by omega)
 rw [hp] at e
 injection e with e
 injection e with e1 e2
 subst e1 e2
 refine ⟨hB,?_⟩
 have h:=hc me (.slice (x.A me) 12 (x.c me)) (by rcases (show me = 0 ∨ me = 1 ∨ me = 2 by omega) with rfl | rfl | rfl <;> rfl)
 rwa [Nat.zero_add] at h
theorem iswr_grown {w w':World} {v:Value} {l:List (Nat × Nat)} {g:Nat} {t:TypeId} {cs:Array Value} (h:IsWr w v l) (hb:Blk w g t cs) (hne:∀ x ∈ cs.toList,∀ n,x ≠ .int .u32 n) (hg:w.grownBy w' (some g)):IsWr w' v l:=by
 obtain ⟨A,c,e,h1,h2,h3,h4,h5⟩:=h
 refine ⟨A,c,e,h1,h2,h3,h4,fun hn => ?_⟩
 obtain ⟨b,off,e2,hB,hc⟩:=h5 hn
 have hbg:b ≠ g:=by
  rintro rfl
  match l,hn,hc with
  | p :: l,_,hc =>
   have hx:=hc 1 (.int .u32 ↑p.2) rfl
   rw [hb.cell] at hx
   exact hne _ (Array.mem_toList_iff.2 (Array.mem_of_getElem? hx)) _ rfl
 exact ⟨b,off,e2,Nat.lt_of_lt_of_le hB hg.size,fun j u hu => (World.cell?_of_block (hg.block b hB (fun e => hbg (Option.some.inj e)))).trans (hc j u hu)⟩
def RetPocDo (g bp me:Nat) (x:Wv) (T:Tm) (W:Wd) (y:Kr) (w:World) (r:Ending) (w':World):Prop :=
 ∃ (wv:Value),r = .returned (.int .i64 ↑y.E) ∧ Mem w [g] w' [.blk g 113 (stV (.slice x.At T.tl.length x.ct) (.int .i64 ↑T.fx) (.int .i64 ↑T.fb) (.int .i64 ↑T.db) (.int .i64 ↑T.al) (.slice x.Ad W.c.length x.cd) (.slice x.Ao W.lp.length x.co) (.slice x.Ap 3 x.cp) (.pointer (some ⟨bp,me,none⟩)) wv ⟨0,y.ad,⟨#[]⟩,bil0,false⟩)] ∧ IsWr w' wv y.wl
theorem tick_do (T:Tm) (W:Wd) (m n:Nat) (x:Wv) (g bp k me A B C:Nat) (s:ByteArray) (cut:Int) (w:World) (hW:W.Ok T m n) (hme:me ≤ 2) (hA:A ≤ 1000) (hx:x.Is w T W) (hp:x.Ap = some ⟨bp,0,none⟩) (hbp:bp ≠ g) (hB:Blk w g 113 (x.st T W (.pointer none) (.slice none 0 0) td00)) :
 Calls Tryz.prog 218 #[.agg #[k,me,A,B,C,.string s,cut],.pointer (some ⟨g,0,none⟩)] w (RetPocDo g bp me x T W (tickP me (W.P.getD me pk0) A) w):=by
 obtain ⟨hbl,hcell⟩:=hx.pcell hp hme
 have hXP:∀ w',w.grownBy w' (some g) → IsWs w' (.slice (x.A me) 12 (x.c me)) (W.P.getD me pk0).C:=fun w' hg => ((hx.blk hB (by unfold NoWd;decide) hg).pocket hW me hme).2
 have hXB:∀ w',w.grownBy w' (some g) → w'.cell? ⟨bp,me,none⟩ = some (.slice (x.A me) 12 (x.c me)):=fun w' hg => ((hx.blk hB (by unfold NoWd;decide) hg).pcell hp hme).2
 obtain ⟨vA,hvA⟩:∃ v,x.A me = v:=⟨_,rfl⟩
 obtain ⟨vc,hvc⟩:∃ v,x.c me = v:=⟨_,rfl⟩
 rw [hvA,hvc] at hXP hXB hcell
 obtain ⟨p,hpp⟩:∃ p,W.P.getD me pk0 = p:=⟨_,rfl⟩
 have hpk:=hW.pok me hme
 rw [hpp] at hXP hpk ⊢
 have hT:=fun U h => ticked_ok (.slice vA 12 vc) p.C me p.m.rev p.m.cr p.m.H p.m.B p.m.bad p.m.lock A (min A p.m.cr) (p.m.cr - min A p.m.cr) (p.m.lock - 1) p.s U h hpk.sl hpk.may.1 hpk.may.2 hA rfl rfl rfl
 obtain ⟨wl,hwl⟩:∃ wl,(tickP me p A).wl = wl:=⟨_,rfl⟩
 have hwl2:pkW p.C p.s me p.m.rev p.m.cr p.m.H p.m.B p.m.bad p.m.lock p.m.rev (p.m.cr - min A p.m.cr) p.m.H p.m.B p.m.bad (p.m.lock - 1) = wl:=hwl
 obtain ⟨ad,had⟩:∃ ad,(tickP me p A).ad = ad:=⟨_,rfl⟩
 have had2:min A p.m.cr = ad:=had
 have hE:(tickP me p A).E = 0:=rfl
 rw [hwl2,had2] at hT
 unfold RetPocDo
 rw [hwl,had,hE,hp]
 unfold Wv.st at hB
 rw [hp] at hB
 obtain ⟨At,ct,Ad,cd,Ao,co,Ap,cp,_,_,_,_,_,_⟩:=x
 dsimp only at hB ⊢
 obtain ⟨nt,hnt⟩:∃ nt,T.tl.length = nt:=⟨_,rfl⟩
 obtain ⟨nc,hnc⟩:∃ nc,W.c.length = nc:=⟨_,rfl⟩
 obtain ⟨nl,hnl⟩:∃ nl,W.lp.length = nl:=⟨_,rfl⟩
 rw [hnt,hnc,hnl] at hB ⊢
 have hPo:=fun (U:World) h h2 => stage_pocket g bp cp me (.slice At nt ct) (.int .i64 ↑T.fx) (.int .i64 ↑T.fb) (.int .i64 ↑T.db) (.int .i64 ↑T.al) (.slice Ad nc cd) (.slice Ao nl co) (.pointer none) (.slice none 0 0) (.slice vA 12 vc) td00 U h hme h2 hbp
 clear hwl hwl2 had had2 hE hpk hpp hvA hvc hx hW hp hnt hnc hnl hcell
 unfold stV td00 bil0 at hB hPo
 unfold stV bil0
 dsimp only at hB hPo ⊢
 have H:Mem (w) [g] (w) [.blk (g) 113 #[.slice At nt ct,T.fx,T.fb,T.db,T.al,.slice Ad nc cd,.slice Ao nl co,.slice (some ⟨bp,0,none⟩) 3 cp,.pointer none,.slice none 0 0,(),(),.string ⟨#[]⟩,(),(),(),(),(),(),(),.bool false]]:=Mem.init1 hB
 replace H:=H.al w.heap.size #[k,me,A,B,C,.string s,cut] (154) |>.gen
 simp only [List.cons_append,List.nil_append] at H
 obtain ⟨W0,hW0,H⟩:=H
 have hP0:=hPo W0 (H.blk 0 rfl) (hXB W0 H.grown)
 clear hPo hXB
 have Lst:=H.c21 0 rfl
 have Lbx:=H.c7 1 rfl
 have Nstbx:=H.ne2 0 1 rfl rfl rfl
 go_enter Tryz.func218,Tryz.ntmps218
 go_wp2_with fail
 clear hW0
 refine hP0.mono ?_
 rintro e wa ⟨rfl,K⟩
 replace H:Mem (w) [g] (wa) [.blk (g) 113 #[.slice At nt ct,T.fx,T.fb,T.db,T.al,.slice Ad nc cd,.slice Ao nl co,.slice (some ⟨bp,0,none⟩) 3 cp,.pointer (some ⟨bp,me,none⟩),.slice none 0 0,(),(),.string ⟨#[]⟩,(),(),(),(),(),(),(),.bool false],.blk (w.heap.size) 154 #[k,me,A,B,C,.string s,cut]]:=Mem.joinAt 0 H rfl K
 clear hP0 K
 have hva:=hXP wa H.grown
 clear hXP
 clear Lst Lbx Nstbx
 have Lst:=H.c21 0 rfl
 have Lbx:=H.c7 1 rfl
 have Nstbx:=H.ne2 0 1 rfl rfl rfl
 go_wp2_with fail
 refine (hT _ hva).mono ?_
 rintro e wb ⟨u,rfl,hwr,hb⟩
 replace H:=Mem.call H hb
 obtain ⟨Au,cu,rfl⟩:∃ Au cu,u = .slice Au wl.length cu:=by obtain ⟨X,y,h,_⟩:=hwr;exact ⟨X,y,h⟩
 clear Lst Lbx Nstbx
 have Lst:=H.c21 0 rfl
 clear hT hva hb
 go_wp2
 have hwz:=iswr_grown hwr (H.blk 0 rfl) (by simp) (grownBy_sets [(9,.slice Au wl.length cu),(11,.int .i64 ↑ad)] wb)
 have HZ:=(H.set 0 rfl 9 (.slice Au wl.length cu)).set 0 rfl 11 ad
 go_ret
 exact ⟨_,rfl,HZ.drop_ 1,hwz⟩
theorem pw_nil {me:Nat} {p:Pk} {m:Mt} (h:pw me p m = []):p.to me m = p:=by
 unfold Pk.to
 unfold pw at h
 by_cases g:p.m.rev = m.rev ∧ p.m.cr = m.cr ∧ p.m.H = m.H ∧ p.m.B = m.B ∧ p.m.bad = m.bad ∧ p.m.lock = m.lock
 ·rw [if_pos g]
 ·rw [if_neg g] at h
  have:=congrArg List.length h
  unfold slW at this
  rw [halfW_len] at this
  simp at this
theorem keyE_ad (l:List Pr) (me:Nat) (m:Mt) (D:List Nat):(keyE l me m D).2.1 ≤ 2097151:=by
 unfold keyE
 by_cases g:(parseE D).2.2.2.2 = 0
 ·rw [if_pos g]
  have hk:=(parseE_tok g).1
  have ha:(parseE D).2.2.1 ≤ 2097151:=by
   obtain ⟨_,_,_,h,_⟩:=hk
   rcases h with ⟨_,_,h⟩ | ⟨_,h⟩ | ⟨_,_,h⟩ | ⟨_,h⟩ <;> omega
  unfold keyM keyS
  dsimp only
  split
  ·exact Nat.zero_le _
  ·split
   ·exact Nat.zero_le _
   ·split
    ·dsimp only
     unfold takeS
     split
     ·exact Nat.zero_le _
     ·split
      ·split
       ·exact Nat.zero_le _
       ·exact ha
      ·split
       ·exact Nat.zero_le _
       ·split <;> exact Nat.zero_le _
    ·exact Nat.zero_le _
 ·rw [if_neg g];exact Nat.zero_le _
theorem entP_ad (l:List Pr) (me:Nat) (x:Kr) (e:EntS):(entP l me x e).ad ≤ x.ad + 2097151:=by
 unfold entP
 split
 ·exact Nat.le_add_right _ _
 ·exact Nat.add_le_add_left (keyE_ad _ _ _ _) _
theorem entsP_ad (l:List Pr) (me:Nat):∀ (es:List EntS) (x:Kr),(entsP l me x es).ad ≤ x.ad + es.length * 2097151
 | [],x => Nat.le_add_right _ _
 | e :: es,x => by
  have h1:=entsP_ad l me es (entP l me x e)
  have h2:=entP_ad l me x e
  show (entsP l me (entP l me x e) es).ad ≤ _
  rw [List.length_cons]
  omega
theorem entsV_at {es:List EntS} {k:Nat} (h:k < es.length):(entsV es)[k * 2]? = some (.string (dstr es[k].1)) ∧ (entsV es)[k * 2 + 1]? = some (.int .i64 (es[k].2:Int)):=by
 induction es generalizing k with
 | nil => simp at h
 | cons e es ih =>
  cases k with
  | zero => exact ⟨rfl,rfl⟩
  | succ k =>
   have:=ih (k:=k) (by simpa using h)
   rw [show (k + 1) * 2 = k * 2 + 1 + 1 by omega]
   exact this
theorem wrs_one (l:List (Nat × Nat)):∀ u ∈ wrs l,u.oneCell' = true:=by
 intro u hu
 obtain ⟨p,_,hp⟩:=List.mem_flatMap.1 hu
 simp only [List.mem_cons,List.not_mem_nil,or_false] at hp
 rcases hp with rfl | rfl <;> rfl
theorem lens_take_le (es:List EntS) (j:Nat):lens (es.take j) ≤ lens es:=by
 have h:=lens_append (es.take j) (es.drop j)
 rw [List.take_append_drop] at h
 omega
theorem IsWr.rd {w:World} {A:Option Addr} {n c:Nat} {l:List (Nat × Nat)} (h:IsWr w (.slice A n c) l):Rd w w.heap.size 2 A n (wrs l):=by
 obtain ⟨_,_,e,_,_,_,hr⟩:=h
 injection e with e1 e2 e3
 rw [e1,e2];exact hr
theorem keys_long (s:ByteArray) (w:World) (h:2000 < s.size):Calls Tryz.prog 177 #[.string s] w fun e w' => e = .returned (.tuple #[.slice none 0 0,.agg #[.string ⟨#[]⟩,.bool false],.int .i64 1]) ∧ Below w.heap.size w w':=by
 have h1:(2000:Int) < (s.size:Int):=by omega
 have h2:2000 < s.size:=h
 go_enter Tryz.func177,Tryz.ntmps177
 go_wp2
 refine bodyPost_ret (v:=.tuple #[.slice none 0 0,.agg #[.string ⟨#[]⟩,.bool false],.int .i64 1]) (by simp [results,Tryz.results177,go_sem];done) rfl ?_
 exact ⟨rfl,below_a1 _ _⟩
theorem key_do (T:Tm) (W:Wd) (m n:Nat) (x:Wv) (g bp k me A B C:Nat) (s:ByteArray) (cut:Int) (w:World) (hW:W.Ok T m n) (hme:me ≤ 2) (hx:x.Is w T W) (hp:x.Ap = some ⟨bp,0,none⟩) (hbp:bp ≠ g) (hB:Blk w g 113 (x.st T W (.pointer none) (.slice none 0 0) td00)) :
 Calls Tryz.prog 176 #[.agg #[k,me,A,B,C,.string s,cut],.pointer (some ⟨g,0,none⟩)] w (RetPocDo g bp me x T W (textP W.lp me (W.P.getD me pk0) s) w):=by
 obtain ⟨hbl,hcell⟩:=hx.pcell hp hme
 have hXP:∀ w',w.grownBy w' (some g) → IsWs w' (.slice (x.A me) 12 (x.c me)) (W.P.getD me pk0).C:=fun w' hg => ((hx.blk hB (by unfold NoWd;decide) hg).pocket hW me hme).2
 have hXB:∀ w',w.grownBy w' (some g) → w'.cell? ⟨bp,me,none⟩ = some (.slice (x.A me) 12 (x.c me)):=fun w' hg => ((hx.blk hB (by unfold NoWd;decide) hg).pcell hp hme).2
 obtain ⟨vA,hvA⟩:∃ v,x.A me = v:=⟨_,rfl⟩
 obtain ⟨vc,hvc⟩:∃ v,x.c me = v:=⟨_,rfl⟩
 rw [hvA,hvc] at hXP hXB hcell
 have hXW:∀ w',w.grownBy w' (some g) → OwnWs w' 143 (.slice vA 12 vc) (W.P.getD me pk0).C:=fun w' hg => by
  have h:=((hx.blk hB (by unfold NoWd;decide) hg).pocket hW me hme).1
  rw [hvA,hvc] at h
  have hl:=(hW.pok me hme).len
  exact ⟨by rw [hl];exact h,(hW.pok me hme).lt⟩
 have hXO:∀ w',w.grownBy w' (some g) → IsPs w' (.slice x.Ao W.lp.length x.co) W.lp:=fun w' hg => (hx.blk hB (by unfold NoWd;decide) hg).pairs hW
 obtain ⟨p,hpp⟩:∃ p,W.P.getD me pk0 = p:=⟨_,rfl⟩
 have hpk:=hW.pok me hme
 have hook:=hW.ook
 rw [hpp] at hXW hpk ⊢
 obtain ⟨lp,hlp⟩:∃ lp,W.lp = lp:=⟨_,rfl⟩
 unfold RetPocDo
 unfold Wv.st at hB
 rw [hp] at hB ⊢
 rw [hlp] at hook hXO hB ⊢
 obtain ⟨At,ct,Ad,cd,Ao,co,Ap,cp,_,_,_,_,_,_⟩:=x
 dsimp only at hB hXO ⊢
 obtain ⟨nt,hnt⟩:∃ nt,T.tl.length = nt:=⟨_,rfl⟩
 obtain ⟨nc,hnc⟩:∃ nc,W.c.length = nc:=⟨_,rfl⟩
 obtain ⟨nl,hnl⟩:∃ nl,lp.length = nl:=⟨_,rfl⟩
 rw [hnt,hnc,hnl] at hB ⊢
 rw [hnl] at hXO
 have hPo:=fun (U:World) h h2 => stage_pocket g bp cp me (.slice At nt ct) (.int .i64 ↑T.fx) (.int .i64 ↑T.fb) (.int .i64 ↑T.db) (.int .i64 ↑T.al) (.slice Ad nc cd) (.slice Ao nl co) (.pointer none) (.slice none 0 0) (.slice vA 12 vc) td00 U h hme h2 hbp
 clear hpp hvA hvc hx hW hp hnt hnc hnl hcell hlp hXP
 unfold stV td00 bil0 at hB hPo
 unfold stV bil0
 dsimp only at hB hPo ⊢
 have qT:∀ (w:World) (a:Option Addr) (n c n' c':Nat),(binOp .neq 111 (.slice a n c) (.slice none n' c')).run Tryz.prog w = .ok (.bool (!a.isNone)) w:=fun w a n c n' c' => run_neq_slice_nil_any w _ _ a n c n' c' Tryz.underlying111
 have H:Mem (w) [g] (w) [.blk (g) 113 #[.slice At nt ct,T.fx,T.fb,T.db,T.al,.slice Ad nc cd,.slice Ao nl co,.slice (some ⟨bp,0,none⟩) 3 cp,.pointer none,.slice none 0 0,(),(),.string ⟨#[]⟩,(),(),(),(),(),(),(),.bool false]]:=Mem.init1 hB
 replace H:=H.al w.heap.size #[k,me,A,B,C,.string s,cut] (153) |>.gen
 simp only [List.cons_append,List.nil_append] at H
 obtain ⟨W0,hW0,H⟩:=H
 have hP0:=hPo W0 (H.blk 0 rfl) (hXB W0 H.grown)
 clear hPo hXB hB
 have Lst:=H.c21 0 rfl
 have Lbx:=H.c7 1 rfl
 have Nstbx:=H.ne2 0 1 rfl rfl rfl
 go_enter Tryz.func176,Tryz.ntmps176
 go_wp2_with fail
 clear hW0
 refine hP0.mono ?_
 rintro e wa ⟨rfl,K⟩
 replace H:Mem (w) [g] (wa) [.blk (g) 113 #[.slice At nt ct,T.fx,T.fb,T.db,T.al,.slice Ad nc cd,.slice Ao nl co,.slice (some ⟨bp,0,none⟩) 3 cp,.pointer (some ⟨bp,me,none⟩),.slice none 0 0,(),(),.string ⟨#[]⟩,(),(),(),(),(),(),(),.bool false],.blk (w.heap.size) 153 #[k,me,A,B,C,.string s,cut]]:=Mem.joinAt 0 H rfl K
 clear hP0 K
 clear Lst Lbx Nstbx
 have Lst:=H.c21 0 rfl
 have Lbx:=H.c7 1 rfl
 have Nstbx:=H.ne2 0 1 rfl rfl rfl
 by_cases hlong:2000 < s.size
 ·go_wp2_with fail
  refine (keys_long s _ hlong).mono ?_
  rintro e wb ⟨rfl,hb⟩
  replace H:=Mem.call H hb
  clear Lst Lbx Nstbx
  have Lst:=H.c21 0 rfl
  go_wp2
  replace H:=H.al wb.heap.size #[.string ⟨#[]⟩,.bool false] (329) |>.gen
  simp only [List.cons_append,List.nil_append] at H
  obtain ⟨wd,hwd,H⟩:=H
  rw [hwd]
  clear hwd
  go_ret
  rw [show textP lp me p s = ⟨p,[],0,1⟩ from if_pos hlong]
  exact ⟨_,rfl,(H.drop_ 1).drop_ 1,iswr_nil _⟩
 ·skip
  have hKs:=fun U => keys_told s (runesOf s) U (runesOf_told s).1 (by omega)
  unfold RetKeys padv at hKs
  obtain ⟨es,hes⟩:∃ es,entsOf s = es:=⟨_,rfl⟩
  have hq:(kkeys ((runesOf s).map fun (n:Nat) => (n:Int)) (([],false),[])).2 = es:=hes
  have heo:∀ e ∈ es,EntOk e:=by rw [← hes];exact entsOf_ok s
  have hel:=entsOf_len s
  have hlens:=entsOf_lens s
  rw [hes] at hel hlens
  obtain ⟨q,hqq⟩:∃ q,kkeys ((runesOf s).map fun (n:Nat) => (n:Int)) (([],false),[]) = q:=⟨_,rfl⟩
  rw [hqq] at hKs hq
  obtain ⟨⟨pD,pB⟩,es'⟩:=q
  dsimp only at hq hKs
  subst hq
  have hy:textP lp me p s = if es' = [] then ⟨p,[],0,22⟩ else entsP lp me ⟨p,[],0,0⟩ es':=by unfold textP;rw [if_neg hlong,hes]
  have HY:=Lib.hid hy
  clear hqq hes hy
  obtain ⟨ne,hne⟩:∃ n,es'.length = n:=⟨_,rfl⟩
  rw [hne] at hKs hel
  have HNE:=Lib.hid hne
  clear hne
  go_wp2_with fail
  refine (hKs _).mono ?_
  rintro e wb ⟨Ae,ce,rfl,hown,hb⟩
  replace H:Mem (w) [g] (wb) [.blk (g) 113 #[.slice At nt ct,T.fx,T.fb,T.db,T.al,.slice Ad nc cd,.slice Ao nl co,.slice (some ⟨bp,0,none⟩) 3 cp,.pointer (some ⟨bp,me,none⟩),.slice none 0 0,(),(),.string ⟨#[]⟩,(),(),(),(),(),(),(),.bool false],.blk (w.heap.size) 153 #[k,me,A,B,C,.string s,cut],.row (wa.heap.size) (333) (2) (.slice Ae ne ce) (ne) (entsV es')]:=Mem.row H hb hown (Nat.le_refl _)
  clear hKs hown hb
  clear Lst Lbx Nstbx
  have Lst:=H.c21 0 rfl
  by_cases hn0:ne = 0
  ·have he0:es' = []:=List.eq_nil_of_length_eq_zero (by rw [HNE.out];exact hn0)
   subst hn0
   go_wp2
   replace H:=H.al wb.heap.size #[.string (dstr pD),.bool pB] (329) |>.gen
   simp only [List.cons_append,List.nil_append] at H
   obtain ⟨wd,hwd,H⟩:=H
   rw [hwd]
   clear hwd
   go_ret
   rw [HY.out,if_pos he0]
   exact ⟨_,rfl,((H.drop_ 1).drop_ 1).drop_ 1,iswr_nil _⟩
  ·skip
   have he0:es' ≠ []:=fun h => hn0 (by rw [← HNE.out,h];rfl)
   have hnz:((ne:Int) == 0) = false:=by simp;omega
   have hnz2:¬ (ne:Int) = 0:=by omega
   go_wp2_with fail
   replace H:=H.al wb.heap.size #[.string (dstr pD),.bool pB] (329) |>.gen
   simp only [List.cons_append,List.nil_append] at H
   obtain ⟨wd,hwd,H⟩:=H
   rw [hwd]
   clear hwd
   clear Lst
   go_loopw [5,6,38] (fun c e i wr => ∃ (j:Nat) (y:Kr) (Aw:Option Addr) (cw n:Nat) (v:Value),j ≤ ne ∧ i = .int .i64 ↑j ∧ Hid (entsP lp me ⟨p,[],0,0⟩ (es'.take j) = y) ∧ e = .int .i64 ↑y.E ∧ v = c ∧ OwnWs wr 143 v y.p.C ∧ y.Ok me p ∧ 20 * y.wl.length ≤ 7 * lens (es'.take j) ∧ y.wl.length = n ∧ Mem w [g] wr [.blk g 113 #[.slice At nt ct,T.fx,T.fb,T.db,T.al,.slice Ad nc cd,.slice Ao nl co,.slice (some ⟨bp,0,none⟩) 3 cp,.pointer (some ⟨bp,me,none⟩),.slice Aw n cw,(),y.ad,.string ⟨#[]⟩,(),(),(),(),(),(),(),.bool false],.row wa.heap.size 333 2 (.slice Ae ne ce) ne (entsV es'),.row w.heap.size 158 2 (.slice Aw n cw) n (wrs y.wl)]) (fun _ _ i _ => ne - (intOf i).toNat)
   case atStart => exact ⟨0,⟨p,[],0,0⟩,none,0,0,_,by omega,rfl,Lib.hid rfl,rfl,rfl,hXW wd H.grown,Kr.Ok.begin hpk 0 0,by simp,rfl,((H.drop_ 3).drop_ 1).nilrow w.heap.size 158 2⟩
   case round =>
    obtain ⟨j,y,Aw,cw,n,v,hj,rfl,hy,rfl,rfl,hO,hyo,hyl,hyn,HM⟩:=hrel
    clear H hXW
    have H:Mem (w) [g] (wr) [.blk (g) 113 #[.slice At nt ct,T.fx,T.fb,T.db,T.al,.slice Ad nc cd,.slice Ao nl co,.slice (some ⟨bp,0,none⟩) 3 cp,.pointer (some ⟨bp,me,none⟩),.slice Aw n cw,(),y.ad,.string ⟨#[]⟩,(),(),(),(),(),(),(),.bool false],.row (wa.heap.size) (333) (2) (.slice Ae ne ce) (ne) (entsV es'),.row (w.heap.size) (158) (2) (.slice Aw n cw) (n) (wrs y.wl)]:=HM
    clear HM
    by_cases hlt:j < ne
    ·have hlt2:(j:Int) < (ne:Int):=by omega
     have hje:j < es'.length:=by rw [HNE.out];exact hlt
     obtain ⟨ev1,ev2⟩:=entsV_at hje
     obtain ⟨b,off,rfl,hBe,hce⟩:=(Rd.of_own (H.own_ 1 rfl)).2 (by omega)
     have c1:=hce _ _ ev1
     have c2:=hce _ _ ev2
     rw [← Nat.add_assoc] at c2
     obtain ⟨hD9,hD30,hcd9⟩:=heo _ (List.getElem_mem hje)
     have hst:entsP lp me ⟨p,[],0,0⟩ (es'.take (j + 1)) = entP lp me y es'[j]:=by rw [List.take_succ_eq_append_getElem hje,entsP_snoc,hy.out]
     have hln:lens (es'.take (j + 1)) = lens (es'.take j) + es'[j].1.length:=by rw [List.take_succ_eq_append_getElem hje,lens_append];simp [lens]
     have hyo2:=entP_ok (l:=lp) hyo es'[j]
     have hyl2:=entP_len (l:=lp) hyo es'[j]
     obtain ⟨⟨D,code⟩,hDc⟩:∃ e,es'[j] = e:=⟨_,rfl⟩
     rw [hDc] at c1 c2 hD9 hD30 hcd9 hst hln hyo2 hyl2
     dsimp only at c1 c2 hD9 hD30 hcd9 hln hyl2
     have HL:=Lib.hid (show 20 * (entP lp me y (D,code)).wl.length ≤ 7 * lens (es'.take (j + 1)) by omega)
     have HS:=Lib.hid hst
     have HO2:=Lib.hid hyo2
     have hba:y.ad ≤ 2000 * 2097151:=by
      have h:=entsP_ad lp me (es'.take j) ⟨p,[],0,0⟩
      rw [hy.out] at h
      have h2:(es'.take j).length ≤ 2000:=by rw [List.length_take,HNE.out];omega
      have h3:(es'.take j).length * 2097151 ≤ 2000 * 2097151:=Nat.mul_le_mul_right _ h2
      dsimp only at h
      omega
     have hnb:n ≤ 700:=by have:=lens_take_le es' j;omega
     clear ev1 ev2 hce hDc hst hln hyo2 hyl2 hyl hje
     have Lst:=H.c21 0 rfl
     by_cases hcd:code = 0
     ·subst hcd
      obtain ⟨⟨m2,a2,E2⟩,hr⟩:∃ r,keyE lp me y.p.m D = r:=⟨_,rfl⟩
      have hm2:m2.May me:=by have h:=keyE_may (l:=lp) (D:=D) hyo.ok.may;rw [hr] at h;exact h
      have ha2:a2 ≤ 2097151:=by have h:=keyE_ad lp me y.p.m D;rw [hr] at h;exact h
      obtain ⟨wl2,hw2⟩:∃ l,pw me y.p m2 = l:=⟨_,rfl⟩
      have e1:entP lp me y (D,0) = ⟨y.p.to me m2,y.wl ++ wl2,y.ad + a2,E2⟩:=by unfold entP;rw [if_neg (fun h => h rfl),hr,hw2]
      rw [e1] at HL HS HO2
      have hKe:=fun U h1 h2 => keyed_e v (.slice Ao nl co) lp D me y.p U h1 h2 hook hyo.ok hD9
      rw [hr,hw2] at hKe
      obtain ⟨pa1,pa2,pa3⟩:=pw_at hyo.ok hm2
      obtain ⟨_,pt,_⟩:=Pk.to_ok hyo.ok hm2
      rw [hw2] at pa1 pa2 pa3 pt
      have HN0:=Lib.hid (show wl2 = [] → y.p.to me m2 = y.p from fun h => pw_nil (hw2.trans h))
      have h12:=hyo.ok.len
      clear hr hw2 e1 hm2
      go_upto_region 16 with fail
      have hOx:=hO.alloc (.cells #[.string (dstr D),()] 333)
      replace H:=H.al wr.heap.size #[.string (dstr D),()] (333) |>.gen
      simp only [List.cons_append,List.nil_append] at H
      obtain ⟨wx,hwx,H⟩:=H
      rw [hwx]
      rw [hwx] at hOx
      clear hwx
      have hOn:OwnWs wx.drew 143 v y.p.C:=hOx.below (below_draws (Below.refl _ _) 1)
      clear Lst
      obtain ⟨stlt,st0,-,st1,-,st2,-,st3,-,st4,-,st5,-,st6,-,st7,-,st8,-,st9,-,st10,-,st11,-,st12,-,st13,-,st14,-,st15,-,st16,-,st17,-,st18,-,st19,-,st20,-⟩:=H.c21 0 rfl
      obtain ⟨xblt,xb0,-,xb1,-⟩:=H.c2 3 rfl
      have Nstxb:=H.ne2 0 3 rfl rfl rfl
      have hK1:=hKe wx.drew hOn.is (hXO _ H.drew.grown)
      go_region_held3 (fun w' => w'.cell? ⟨g,6,none⟩ = some (.slice Ao nl co) ∧ w'.cell? ⟨wr.heap.size,0,none⟩ = some (.string (dstr D)))
       (first | with_reducible exact ⟨st6,xb0⟩ | with_reducible exact ⟨s0,s1⟩ | go_keep | fail)
       ((go_at_call 178;(with_reducible refine hK1.mono ?_);rintro e wk ⟨u,rfl,hwr,hbk⟩;have H1:=Mem.call H.drew hbk;have s0:=(H1.blk 0 rfl).cell 6;have s1:=(H1.blk 3 rfl).cell 0))
      obtain ⟨Au,cu,rfl⟩:∃ Au cu,u = .slice Au wl2.length cu:=by obtain ⟨X,y',h,_⟩:=hwr;exact ⟨X,y',h⟩
      have hOk:=hOn.below hbk
      replace H:=Mem.call (Mem.drew H) hbk
      clear H1 s0 s1 hK1 hKe hOn hOx hbk hO
      obtain ⟨C2,hC2⟩:∃ C,(y.p.to me m2).C = C:=⟨_,rfl⟩
      have hAp:=fun U h1 h2 => apply_own v (.slice Au wl2.length cu) y.p.C wl2 wl2.length U h1 h2 (by omega) (by omega) (by omega) (fun p hp => by rw [h12];exact pa1 p hp) (Nat.le_refl _)
      rw [List.take_length,← pt,hC2] at hAp
      unfold RetWsOwn at hAp
      have hone:∀ u ∈ wrs wl2,u.oneCell' = true:=wrs_one _
      have hsum:IntKind.i64.wrap ((y.ad:Int) + (a2:Int)) = ((y.ad + a2:Nat):Int):=by rw [← Int.natCast_add];exact IntWalk.i64_in _ ⟨by omega,by omega⟩
      have hsum2:wrap64 ((y.ad:Int) + (a2:Int)) = ((y.ad + a2:Nat):Int):=by rw [← Int.natCast_add];exact IntWalk.wrap64_in _ ⟨by omega,by omega⟩
      have HP:=Lib.hid pa3
      have HC:=Lib.hid hC2
      clear pa1 pa2 pa3 h12 hba ha2 hC2
      clear stlt st0 st1 st2 st3 st4 st5 st6 st7 st8 st9 st10 st11 st12 st13 st14 st15 st16 st17 st18 st19 st20 xblt xb0 xb1 Nstxb
      rcases Au with _ | au
      ·have hw0:wl2 = []:=by
        obtain ⟨A',c',e,_,_,_,hr⟩:=hwr
        injection e with e1 e2 e3
        rcases Nat.eq_zero_or_pos wl2.length with h | h
        ·exact List.eq_nil_of_length_eq_zero h
        ·obtain ⟨b',o',h3,_⟩:=hr.2 h
         rw [h3] at e1;cases e1
       have hO2:OwnWs wk 143 v C2:=by rw [← HC.out,HN0.out hw0];exact hOk
       clear hw0 hAp HN0 hOk pt
       go_upto_region 19 with fail
       obtain ⟨w2,hw2⟩:∃ w2,w2 = wk:=⟨_,rfl⟩
       subst hw2
       obtain ⟨v2,hv2⟩:∃ v2,v2 = v:=⟨_,rfl⟩
       subst hv2
       have Lst:=H.c21 0 rfl
       have hrw:=hwr.rd
       have hp3:=HP.out
       have hRow:=H.own_ 2 rfl
       go_wp2_with (at_builtin;refine wpList_pushNr el_wr rfl (.tmp 73) (.tmp 74) rfl 2 H rfl rfl rfl hrw hone (by omega) (by unfold maxLen;omega) H.keep.size ?_;intro A5 c5 w3 H3 hg3;obtain ⟨stlt,st0,stf0,st1,stf1,st2,stf2,st3,stf3,st4,stf4,st5,stf5,st6,stf6,st7,stf7,st8,stf8,st9,stf9,st10,stf10,st11,stf11,st12,stf12,st13,stf13,st14,stf14,st15,stf15,st16,stf16,st17,stf17,st18,stf18,st19,stf19,st20,stf20⟩:=H3.c21 0 rfl)
       have hO3:=hO2.grown hRow (by decide) hg3
       have HG:=grownBy_sets [(9,.slice A5 (n + wl2.length) c5),(11,.int .i64 ((y.ad:Int) + (a2:Int)))] w3 (b:=g)
       have hO4:OwnWs _ 143 v2 C2:=⟨hO3.1.kept HG (.inr (fun e => blk_not_row (H3.blk 0 rfl) (by decide) hO3.1 e.symm)),hO3.2⟩
       have HZ:=(H3.set 0 rfl 9 (.slice A5 (n + wl2.length) c5)).set 0 rfl 11 (.int .i64 ((y.ad:Int) + (a2:Int)))
       have hln:=hyn
       clear hO3 HG hO2 H3 hRow hrw hp3 hwr H hg3
       clear Lst stlt st0 stf0 st1 stf1 st2 stf2 st3 stf3 st4 stf4 st5 stf5 st6 stf6 st7 stf7 st8 stf8 st9 stf9 st10 stf10 st11 stf11 st12 stf12 st13 stf13 st14 stf14 st15 stf15 st16 stf16 st17 stf17 st18 stf18 st19 stf19 st20 stf20
       rw [← wrs_append] at HZ
       go_roundw
       case rel => exact ⟨j + 1,⟨y.p.to me m2,y.wl ++ wl2,y.ad + a2,E2⟩,A5,c5,n + wl2.length,v2,by omega,by go_num,HS,rfl,rfl,by rw [HC.out];exact hO4,HO2.out,HL.out,by rw [List.length_append,hln],HZ.drop_ 3⟩
       case measure => simp [intOf];omega
      ·skip
       go_wp2_with fail
       refine (hAp _ hOk.is hwr).mono ?_
       rintro e w2 ⟨A4,c4,rfl,⟨hlt4,hown4⟩,hb4⟩
       have hO2:OwnWs w2 143 (.slice A4 C2.length c4) C2:=⟨own_mono hown4 (Nat.zero_le _),hlt4⟩
       replace hwr:=hwr.below hb4
       replace H:=Mem.call H hb4
       clear hAp HN0 hOk pt hlt4 hown4 hb4
       go_upto_region 19 with fail
       obtain ⟨v2,hv2⟩:∃ v2,v2 = Value.slice A4 C2.length c4:=⟨_,rfl⟩
       rw [← hv2] at hO2 ⊢
       clear hv2
       have Lst:=H.c21 0 rfl
       have hrw:=hwr.rd
       have hp3:=HP.out
       have hRow:=H.own_ 2 rfl
       go_wp2_with (at_builtin;refine wpList_pushNr el_wr rfl (.tmp 73) (.tmp 74) rfl 2 H rfl rfl rfl hrw hone (by omega) (by unfold maxLen;omega) H.keep.size ?_;intro A5 c5 w3 H3 hg3;obtain ⟨stlt,st0,stf0,st1,stf1,st2,stf2,st3,stf3,st4,stf4,st5,stf5,st6,stf6,st7,stf7,st8,stf8,st9,stf9,st10,stf10,st11,stf11,st12,stf12,st13,stf13,st14,stf14,st15,stf15,st16,stf16,st17,stf17,st18,stf18,st19,stf19,st20,stf20⟩:=H3.c21 0 rfl)
       have hO3:=hO2.grown hRow (by decide) hg3
       have HG:=grownBy_sets [(9,.slice A5 (n + wl2.length) c5),(11,.int .i64 ((y.ad:Int) + (a2:Int)))] w3 (b:=g)
       have hO4:OwnWs _ 143 v2 C2:=⟨hO3.1.kept HG (.inr (fun e => blk_not_row (H3.blk 0 rfl) (by decide) hO3.1 e.symm)),hO3.2⟩
       have HZ:=(H3.set 0 rfl 9 (.slice A5 (n + wl2.length) c5)).set 0 rfl 11 (.int .i64 ((y.ad:Int) + (a2:Int)))
       have hln:=hyn
       clear hO3 HG hO2 H3 hRow hrw hp3 hwr H hg3
       clear Lst stlt st0 stf0 st1 stf1 st2 stf2 st3 stf3 st4 stf4 st5 stf5 st6 stf6 st7 stf7 st8 stf8 st9 stf9 st10 stf10 st11 stf11 st12 stf12 st13 stf13 st14 stf14 st15 stf15 st16 stf16 st17 stf17 st18 stf18 st19 stf19 st20 stf20
       rw [← wrs_append] at HZ
       go_roundw
       case rel => exact ⟨j + 1,⟨y.p.to me m2,y.wl ++ wl2,y.ad + a2,E2⟩,A5,c5,n + wl2.length,v2,by omega,by go_num,HS,rfl,rfl,by rw [HC.out];exact hO4,HO2.out,HL.out,by rw [List.length_append,hln],HZ.drop_ 3⟩
       case measure => simp [intOf];omega
     ·skip
      have i1:((code:Int) == 0) = false:=by simp;omega
      have i2:¬ (code:Int) = 0:=by omega
      have e1:entP lp me y (D,code) = ⟨y.p,y.wl,y.ad,code⟩:=by unfold entP;rw [if_pos hcd]
      rw [e1] at HL HS HO2
      clear e1
      go_wp2
      have hOn:=hO.alloc (.cells #[.string (dstr D),code] 333)
      replace H:=H.al wr.heap.size #[.string (dstr D),code] (333) |>.gen
      simp only [List.cons_append,List.nil_append] at H
      obtain ⟨wn,hwn,H⟩:=H
      rw [hwn]
      rw [hwn] at hOn
      clear hwn
      go_roundw
      case rel => exact ⟨j + 1,⟨y.p,y.wl,y.ad,code⟩,Aw,cw,n,v,by omega,by go_num,HS,rfl,rfl,hOn,HO2.out,HL.out,hyn,H.drop_ 3⟩
      case measure => simp [intOf];omega
    ·skip
     obtain rfl:j = ne:=by omega
     have hyy:entsP lp me ⟨p,[],0,0⟩ es' = y:=by rw [← hy.out,← HNE.out,List.take_length]
     have Lst:=H.c21 0 rfl
     go_wp2
     go_ret
     rw [HY.out,if_neg he0,hyy]
     exact ⟨.slice Aw n cw,rfl,(H.drop_ 2).drop_ 1,iswr_own hyn hyo.lt (H.own_ 2 rfl)⟩
def RetSellDo (g:Nat) (x:Wv) (T:Tm) (W:Wd) (y:Sr) (w:World) (r:Ending) (w':World):Prop :=
 ∃ (Ao2:Option Addr) (co2:Nat) (Aw:Option Addr) (cw b:Nat),r = .returned (.int .i64 ↑y.E) ∧ Mem w [g] w' [.blk g 113 (stV (.slice x.At T.tl.length x.ct) (.int .i64 ↑T.fx) (.int .i64 ↑T.fb) (.int .i64 ↑T.db) (.int .i64 ↑T.al) (.slice x.Ad W.c.length x.cd) (.slice Ao2 y.lp.length co2) (.slice x.Ap 3 x.cp) (.pointer (some ⟨g,5,none⟩)) (.slice Aw y.wl.length cw) ⟨0,0,y.s,y.b,false⟩),.row b 158 2 (.slice Aw y.wl.length cw) y.wl.length (wrs y.wl)] ∧ w'.ownsRow 0 147 4 (.slice Ao2 y.lp.length co2) y.lp.length (prs y.lp)
theorem sell_do (T:Tm) (hT:T.Ok) (W:Wd) (n:Nat) (x:Wv) (g k me A B C:Nat) (s:ByteArray) (cut:Int) (w:World) (hW:W.Ok T 3 n) (hk:k = 2 ∨ k = 3 ∨ k = 4) (ha:Ac.Ok ⟨k,me,A,B,C,s,none⟩) (hn:n ≤ 62) (hx:x.Is w T W) (hB:Blk w g 113 (x.st T W (.pointer none) (.slice none 0 0) td00)) :
 Calls Tryz.prog 132 #[.agg #[k,me,A,B,C,.string s,cut],.pointer (some ⟨g,0,none⟩)] w (RetSellDo g x T W (askR T W (Ac.od ⟨k,me,A,B,C,s,none⟩)) w):=by
 have hll:=hW.ll
 have hlen:=hW.len
 have hlpl:=hW.lpl
 have hme:=ha.me
 dsimp only at hme
 obtain ⟨v,hv⟩:∃ v,W.V T (Ac.od ⟨k,me,A,B,C,s,none⟩) = v:=⟨_,rfl⟩
 have hV2:k = 2 → ∀ U,IsDs U (.slice x.At T.tl.length x.ct) T.tl → IsWs U (.slice x.Ad W.c.length x.cd) W.c → IsPs U (.slice x.Ao W.lp.length x.co) W.lp → Calls Tryz.prog 133 #[.agg #[.slice x.At T.tl.length x.ct,T.fx,T.fb,T.db,T.al],.slice x.Ad W.c.length x.cd,.agg #[.slice x.Ao W.lp.length x.co],me,A,B,C] U (RetServe v U):=by
  rintro rfl U h1 h2 h3
  obtain ⟨q1,q2,q3,q4⟩:=ha.h2 rfl
  have h:=vserve2_ok T hT x.At T.tl.length x.ct (.slice x.Ad W.c.length x.cd) W.c W.L W.B me me A B C x.Ao W.lp.length x.co W.lp U h1 h2 hW.srv (by omega) (hW.at_ (by omega)) (by omega) (by omega) h3 hW.ook (by omega) q4 q1 q2 q3
  rw [hlen,show svP (sellP T (W.B.getD me cu0).a A B) 2 me B 0 (W.B.getD me cu0).a.rev C W.lp 900 W.L.length = v from hv] at h
  rw [hlen];exact h
 have hV3:k = 3 → ∀ U,IsDs U (.slice x.At T.tl.length x.ct) T.tl → IsWs U (.slice x.Ad W.c.length x.cd) W.c → IsPs U (.slice x.Ao W.lp.length x.co) W.lp → Calls Tryz.prog 134 #[.agg #[.slice x.At T.tl.length x.ct,T.fx,T.fb,T.db,T.al],.slice x.Ad W.c.length x.cd,.agg #[.slice x.Ao W.lp.length x.co],me,A,C] U (RetServe v U):=by
  rintro rfl U h1 h2 h3
  obtain ⟨q1,q2⟩:=ha.h3 rfl
  have h:=vserve3_ok T hT x.At T.tl.length x.ct (.slice x.Ad W.c.length x.cd) W.c W.L W.B me me A C x.Ao W.lp.length x.co W.lp U h1 h2 hW.srv (by omega) (hW.at_ (by omega)) (by omega) (by omega) h3 hW.ook (by omega) q2 q1
  rw [hlen,show svP (grantP T (W.B.getD me cu0).a A) 3 me A 0 (W.B.getD me cu0).a.rev C W.lp 900 W.L.length = v from hv] at h
  rw [hlen];exact h
 have hV4:k = 4 → ∀ U,IsDs U (.slice x.At T.tl.length x.ct) T.tl → IsWs U (.slice x.Ad W.c.length x.cd) W.c → IsPs U (.slice x.Ao W.lp.length x.co) W.lp → Calls Tryz.prog 135 #[.agg #[.slice x.At T.tl.length x.ct,T.fx,T.fb,T.db,T.al],.slice x.Ad W.c.length x.cd,.agg #[.slice x.Ao W.lp.length x.co],me,C] U (RetServe v U):=by
  rintro rfl U h1 h2 h3
  have h:=vserve4_ok T hT x.At T.tl.length x.ct (.slice x.Ad W.c.length x.cd) W.c W.L W.B me me C x.Ao W.lp.length x.co W.lp U h1 h2 hW.srv (by omega) (hW.at_ (by omega)) (by omega) (by omega) h3 hW.ook (by omega) (ha.h4 rfl)
  rw [hlen,show svP (rekeyP (W.B.getD me cu0).a) 4 me 0 2 (W.B.getD me cu0).a.rev C W.lp 900 W.L.length = v from hv] at h
  rw [hlen];exact h
 have hno:v.E ≠ 0 → v.wl = [] ∧ v.s = ⟨#[]⟩ ∧ v.b = bil0:=fun h => by
  rw [← hv] at h ⊢
  obtain ⟨q1,_,q3,q4⟩:=Od.V_no h
  exact ⟨q1,q4,q3⟩
 obtain ⟨y,hy⟩:∃ y,askR T W (Ac.od ⟨k,me,A,B,C,s,none⟩) = y:=⟨_,rfl⟩
 have y1:y.wl = v.wl:=by rw [← hy,← hv];rfl
 have y2:y.E = v.E:=by rw [← hy,← hv];rfl
 have y3:y.s = v.s:=by rw [← hy,← hv];rfl
 have y4:y.b = v.b:=by rw [← hy,← hv];rfl
 have y5:y.lp = if v.E = 0 then v.lp else W.lp:=by rw [← hy,← hv];rfl
 have hXO:=hx.o
 have hXK:∀ w',Mem w [g] w' [] → w'.ownsRow 0 147 4 (.slice x.Ao W.lp.length x.co) W.lp.length (prs W.lp):=fun w' h => (hx.blk hB (by unfold NoWd;decide) h.keep.grown).o
 have ht:=hx.terms
 have hd:=hx.disk hW
 have hp:=hx.pairs hW
 rw [hy]
 clear hy hv hW hll hlen hlpl ha hx hXO
 unfold RetSellDo
 rw [y1,y2,y3,y4,y5]
 clear y1 y2 y3 y4 y5 y
 unfold Wv.st at hB
 obtain ⟨At,ct,Ad,cd,Ao,co,Ap,cp,_,_,_,_,_,_⟩:=x
 dsimp only at hB ht hd hp hV2 hV3 hV4 hXK ⊢
 obtain ⟨wl,lq,vme,b,vs,E⟩:=v
 dsimp only at hno ⊢
 unfold RetServe at hV2 hV3 hV4
 dsimp only at hV2 hV3 hV4
 obtain ⟨nt,hnt⟩:∃ nt,T.tl.length = nt:=⟨_,rfl⟩
 obtain ⟨nc,hnc⟩:∃ nc,W.c.length = nc:=⟨_,rfl⟩
 obtain ⟨nl,hnl⟩:∃ nl,W.lp.length = nl:=⟨_,rfl⟩
 rw [hnt,hnc,hnl] at hB hV2 hV3 hV4
 rw [hnt,hnc]
 rw [hnt] at ht
 rw [hnc] at hd
 rw [hnl] at hp
 have HN:=Lib.hid hnl
 clear hnt hnc hnl
 unfold stV td00 bil0 at hB
 dsimp only at hB
 have H:Mem (w) [g] (w) [.blk (g) 113 #[.slice At nt ct,T.fx,T.fb,T.db,T.al,.slice Ad nc cd,.slice Ao nl co,.slice Ap 3 cp,.pointer none,.slice none 0 0,(),(),.string ⟨#[]⟩,(),(),(),(),(),(),(),.bool false]]:=Mem.init1 hB
 replace H:=H.al w.heap.size #[k,me,A,B,C,.string s,cut] (151) |>.al (w.heap.size + 1) #[.slice none 0 0] (35) |>.al (w.heap.size + 1 + 1) #[(),(),(),(),(),(),(),(),.string ⟨#[]⟩] (261) |>.gen
 simp only [List.cons_append,List.nil_append] at H
 obtain ⟨W0,hW0,H⟩:=H
 have B0:Below w.heap.size w W0:=by rw [← hW0];exact below_a3 _ _ _ _
 have ht0:=ht.below B0
 have hd0:=hd.below B0
 have hp0:=hp.below B0
 have V0:Below W0.heap.size W0 W0.drew:=below_draws (Below.refl _ _) 1
 clear ht hd hp B0 hB
 have HNO:=Lib.hid hno
 clear hno
 rcases hk with rfl | rfl | rfl
 ·skip
  simp only [Int.cast_ofNat_Int] at hW0 H
  have hV:=hV2 rfl
  clear hV2 hV3 hV4
  go_enter Tryz.func132,Tryz.ntmps132
  obtain ⟨stlt,st0,-,st1,-,st2,-,st3,-,st4,-,st5,-,st6,-,st7,-,st8,-,st9,-,st10,-,st11,-,st12,-,st13,-,st14,-,st15,-,st16,-,st17,-,st18,-,st19,-,st20,-⟩:=H.c21 0 rfl
  obtain ⟨bxlt,bx0,-,bx1,-,bx2,-,bx3,-,bx4,-,bx5,-,bx6,-⟩:=H.c7 1 rfl
  have Nstbx:=H.ne2 0 1 rfl rfl rfl
  go_upto_region 8 with fail
  go_region_held3 (fun w' => w'.cell? ⟨g,0,none⟩ = some (.slice At nt ct) ∧ w'.cell? ⟨g,1,none⟩ = some (.int .i64 ↑T.fx) ∧ w'.cell? ⟨g,2,none⟩ = some (.int .i64 ↑T.fb) ∧ w'.cell? ⟨g,3,none⟩ = some (.int .i64 ↑T.db) ∧ w'.cell? ⟨g,4,none⟩ = some (.int .i64 ↑T.al) ∧ w'.cell? ⟨g,5,none⟩ = some (.slice Ad nc cd) ∧ w'.cell? ⟨g,6,none⟩ = some (.slice Ao nl co) ∧ w'.cell? ⟨w.heap.size,1,none⟩ = some (.int .i64 ↑me) ∧ w'.cell? ⟨w.heap.size,2,none⟩ = some (.int .i64 ↑A) ∧ w'.cell? ⟨w.heap.size,3,none⟩ = some (.int .i64 ↑B) ∧ w'.cell? ⟨w.heap.size,4,none⟩ = some (.int .i64 ↑C))
   (first | with_reducible exact ⟨st0,st1,st2,st3,st4,st5,st6,bx1,bx2,bx3,bx4⟩ | with_reducible exact ⟨s0,s1,s2,s3,s4,s5,s6,b1,b2,b3,b4⟩ | go_keep | fail)
   ((go_at_call 133;(with_reducible refine (hV _ (ht0.below V0) (hd0.below V0) (hp0.below V0)).mono ?_);rintro e we ⟨A3,c3,A2,c2,rfl,ho1,ho2,hbe⟩;have H1:=Mem.row2 H.drew hbe ho1 ho2 (by decide);have s0:=(H1.blk 0 rfl).cell 0;have s1:=(H1.blk 0 rfl).cell 1;have s2:=(H1.blk 0 rfl).cell 2;have s3:=(H1.blk 0 rfl).cell 3;have s4:=(H1.blk 0 rfl).cell 4;have s5:=(H1.blk 0 rfl).cell 5;have s6:=(H1.blk 0 rfl).cell 6;have b1:=(H1.blk 1 rfl).cell 1;have b2:=(H1.blk 1 rfl).cell 2;have b3:=(H1.blk 1 rfl).cell 3;have b4:=(H1.blk 1 rfl).cell 4;obtain ⟨q4a,q40,q4f0⟩:=H1.c1 2 rfl;obtain ⟨q5a,q50,q5f0,q51,q5f1,q52,q5f2,q53,q5f3,q54,q5f4,q55,q5f5,q56,q5f6,q57,q5f7,q58,q5f8⟩:=H1.c9 3 rfl;have q45:=H1.ne 2 3 rfl rfl (by decide);have q99:=H1.ne 3 2 rfl rfl (by decide);have n20:=H1.ne 2 0 rfl rfl (by decide);have n02:=H1.ne 0 2 rfl rfl (by decide);have n21:=H1.ne 2 1 rfl rfl (by decide);have n12:=H1.ne 1 2 rfl rfl (by decide);have n30:=H1.ne 3 0 rfl rfl (by decide);have n03:=H1.ne 0 3 rfl rfl (by decide);have n31:=H1.ne 3 1 rfl rfl (by decide);have n13:=H1.ne 1 3 rfl rfl (by decide)))
  clear hW0 hV ht0 hd0 hp0 V0 H
  have H:Mem (w) [g] (we) [.blk (g) 113 #[.slice At nt ct,T.fx,T.fb,T.db,T.al,.slice Ad nc cd,.slice Ao nl co,.slice Ap 3 cp,.pointer none,.slice none 0 0,(),(),.string ⟨#[]⟩,(),(),(),(),(),(),(),.bool false],.blk (w.heap.size) 151 #[.int .i64 2,me,A,B,C,.string s,cut],.blk (w.heap.size + 1) 35 #[.slice none 0 0],.blk (w.heap.size + 1 + 1) 261 #[(),(),(),(),(),(),(),(),.string ⟨#[]⟩],.row (W0.drew.heap.size) (147) (4) (.slice A2 lq.length c2) (lq.length) (prs lq),.row (W0.drew.heap.size) (158) (2) (.slice A3 wl.length c3) (wl.length) (wrs wl)]:=H1
  clear H1 s0 s1 s2 s3 s4 s5 s6 q4a q40 q4f0 q5a q50 q5f0 q51 q5f1 q52 q5f2 q53 q5f3 q54 q5f4 q55 q5f5 q56 q5f6 q57 q5f7 q58 q5f8 q45 n20 n02 n21 n12 n30 n03 n31 n13 hbe ho1 ho2 q99 b1 b2 b3 b4
  clear stlt st0 st1 st2 st3 st4 st5 st6 st7 st8 st9 st10 st11 st12 st13 st14 st15 st16 st17 st18 st19 st20 bxlt bx0 bx1 bx2 bx3 bx4 bx5 bx6 Nstbx
  replace H:=H.set 2 rfl 0 (.slice A2 lq.length c2) |>.set 3 rfl 0 vme |>.set 3 rfl 1 b.id |>.set 3 rfl 2 b.te |>.set 3 rfl 3 b.de |>.set 3 rfl 4 b.fe |>.set 3 rfl 5 b.pr |>.set 3 rfl 6 b.ch |>.set 3 rfl 7 b.un |>.set 3 rfl 8 (.string vs) |>.gen
  simp only [List.set_cons_zero,List.set_cons_succ,List.setIfInBounds_toArray] at H
  obtain ⟨wf,hwf,H⟩:=H
  rw [hwf]
  clear hwf
  by_cases hE:E = 0
  ·subst hE
   have Lst:=H.c21 0 rfl
   have Lro:=H.c1 2 rfl
   have Lrr:=H.c9 3 rfl
   have Nstro:=H.ne2 0 2 rfl rfl rfl
   have Nstrr:=H.ne2 0 3 rfl rfl rfl
   have Nrorr:=H.ne2 2 3 rfl rfl rfl
   go_upto_region 13 with fail
   replace H:=H.set 0 rfl 6 (.slice A2 lq.length c2) |>.gen
   simp only [List.set_cons_zero,List.set_cons_succ,List.setIfInBounds_toArray] at H
   obtain ⟨wg,hwg,H⟩:=H
   rw [hwg]
   clear hwg
   clear Lst Lro Lrr Nstro Nstrr Nrorr
   have Lst:=H.c21 0 rfl
   have Lrr:=H.c9 3 rfl
   have Nstrr:=H.ne2 0 3 rfl rfl rfl
   go_region
   replace H:=H.set 0 rfl 12 (.string vs) |>.set 0 rfl 13 b.id |>.set 0 rfl 14 b.te |>.set 0 rfl 15 b.de |>.set 0 rfl 16 b.fe |>.set 0 rfl 17 b.pr |>.set 0 rfl 18 b.ch |>.set 0 rfl 19 b.un |>.drew |>.gen
   simp only [List.set_cons_zero,List.set_cons_succ,List.setIfInBounds_toArray] at H
   obtain ⟨wh,hwh,H⟩:=H
   rw [hwh]
   clear hwh
   clear Lst Lrr Nstrr
   go_wp2_with fail
   refine (stage_server g (.slice At nt ct) (.int .i64 ↑T.fx) (.int .i64 ↑T.fb) (.int .i64 ↑T.db) (.int .i64 ↑T.al) (.slice Ad nc cd) (.slice A2 lq.length c2) (.slice Ap 3 cp) (.pointer none) (.slice none 0 0) A3 wl.length c3 ⟨0,0,vs,b,false⟩ 0 _ (H.blk 0 rfl)).mono ?_
   rintro e wi ⟨rfl,K⟩
   have HJ:=H.joinAt 0 rfl K
   clear H K
   go_wp2
   go_ret
   exact ⟨rfl,A2,c2,⟨A3,c3,_,(((HJ.drop_ 1).drop_ 1).drop_ 1).drop_ 1⟩,own_mono (HJ.own_ 4 rfl) (Nat.zero_le _)⟩
  ·have i1:((E:Int) == 0) = false:=by simp;omega
   have i2:¬ (E:Int) = 0:=by omega
   have Lst:=H.c21 0 rfl
   go_wp2_with fail
   refine (stage_server g (.slice At nt ct) (.int .i64 ↑T.fx) (.int .i64 ↑T.fb) (.int .i64 ↑T.db) (.int .i64 ↑T.al) (.slice Ad nc cd) (.slice Ao nl co) (.slice Ap 3 cp) (.pointer none) (.slice none 0 0) A3 wl.length c3 ⟨0,0,⟨#[]⟩,bil0,false⟩ (E:Int) _ (H.blk 0 rfl)).mono ?_
   rintro e wi ⟨rfl,K⟩
   have HJ:=H.joinAt 0 rfl K
   clear H K
   clear Lst
   go_wp2
   go_ret
   obtain ⟨_,e2,e3⟩:=HNO.out hE
   rw [e2,e3]
   have hO:=hXK _ (HJ.sub (List.nil_sublist _))
   rw [HN.out] at hO ⊢
   exact ⟨rfl,Ao,co,⟨A3,c3,_,(((HJ.drop_ 1).drop_ 1).drop_ 1).drop_ 1⟩,hO⟩
 ·skip
  simp only [Int.cast_ofNat_Int] at hW0 H
  have hV:=hV3 rfl
  clear hV2 hV3 hV4
  go_enter Tryz.func132,Tryz.ntmps132
  obtain ⟨stlt,st0,-,st1,-,st2,-,st3,-,st4,-,st5,-,st6,-,st7,-,st8,-,st9,-,st10,-,st11,-,st12,-,st13,-,st14,-,st15,-,st16,-,st17,-,st18,-,st19,-,st20,-⟩:=H.c21 0 rfl
  obtain ⟨bxlt,bx0,-,bx1,-,bx2,-,bx3,-,bx4,-,bx5,-,bx6,-⟩:=H.c7 1 rfl
  have Nstbx:=H.ne2 0 1 rfl rfl rfl
  go_upto_region 10 with fail
  go_region_held3 (fun w' => w'.cell? ⟨g,0,none⟩ = some (.slice At nt ct) ∧ w'.cell? ⟨g,1,none⟩ = some (.int .i64 ↑T.fx) ∧ w'.cell? ⟨g,2,none⟩ = some (.int .i64 ↑T.fb) ∧ w'.cell? ⟨g,3,none⟩ = some (.int .i64 ↑T.db) ∧ w'.cell? ⟨g,4,none⟩ = some (.int .i64 ↑T.al) ∧ w'.cell? ⟨g,5,none⟩ = some (.slice Ad nc cd) ∧ w'.cell? ⟨g,6,none⟩ = some (.slice Ao nl co) ∧ w'.cell? ⟨w.heap.size,1,none⟩ = some (.int .i64 ↑me) ∧ w'.cell? ⟨w.heap.size,2,none⟩ = some (.int .i64 ↑A) ∧ w'.cell? ⟨w.heap.size,4,none⟩ = some (.int .i64 ↑C))
   (first | with_reducible exact ⟨st0,st1,st2,st3,st4,st5,st6,bx1,bx2,bx4⟩ | with_reducible exact ⟨s0,s1,s2,s3,s4,s5,s6,b1,b2,b4⟩ | go_keep | fail)
   ((go_at_call 134;(with_reducible refine (hV _ (ht0.below V0) (hd0.below V0) (hp0.below V0)).mono ?_);rintro e we ⟨A3,c3,A2,c2,rfl,ho1,ho2,hbe⟩;have H1:=Mem.row2 H.drew hbe ho1 ho2 (by decide);have s0:=(H1.blk 0 rfl).cell 0;have s1:=(H1.blk 0 rfl).cell 1;have s2:=(H1.blk 0 rfl).cell 2;have s3:=(H1.blk 0 rfl).cell 3;have s4:=(H1.blk 0 rfl).cell 4;have s5:=(H1.blk 0 rfl).cell 5;have s6:=(H1.blk 0 rfl).cell 6;have b1:=(H1.blk 1 rfl).cell 1;have b2:=(H1.blk 1 rfl).cell 2;have b4:=(H1.blk 1 rfl).cell 4;obtain ⟨q4a,q40,q4f0⟩:=H1.c1 2 rfl;obtain ⟨q5a,q50,q5f0,q51,q5f1,q52,q5f2,q53,q5f3,q54,q5f4,q55,q5f5,q56,q5f6,q57,q5f7,q58,q5f8⟩:=H1.c9 3 rfl;have q45:=H1.ne 2 3 rfl rfl (by decide);have q99:=H1.ne 3 2 rfl rfl (by decide);have n20:=H1.ne 2 0 rfl rfl (by decide);have n02:=H1.ne 0 2 rfl rfl (by decide);have n21:=H1.ne 2 1 rfl rfl (by decide);have n12:=H1.ne 1 2 rfl rfl (by decide);have n30:=H1.ne 3 0 rfl rfl (by decide);have n03:=H1.ne 0 3 rfl rfl (by decide);have n31:=H1.ne 3 1 rfl rfl (by decide);have n13:=H1.ne 1 3 rfl rfl (by decide)))
  clear hW0 hV ht0 hd0 hp0 V0 H
  have H:Mem (w) [g] (we) [.blk (g) 113 #[.slice At nt ct,T.fx,T.fb,T.db,T.al,.slice Ad nc cd,.slice Ao nl co,.slice Ap 3 cp,.pointer none,.slice none 0 0,(),(),.string ⟨#[]⟩,(),(),(),(),(),(),(),.bool false],.blk (w.heap.size) 151 #[.int .i64 3,me,A,B,C,.string s,cut],.blk (w.heap.size + 1) 35 #[.slice none 0 0],.blk (w.heap.size + 1 + 1) 261 #[(),(),(),(),(),(),(),(),.string ⟨#[]⟩],.row (W0.drew.heap.size) (147) (4) (.slice A2 lq.length c2) (lq.length) (prs lq),.row (W0.drew.heap.size) (158) (2) (.slice A3 wl.length c3) (wl.length) (wrs wl)]:=H1
  clear H1 s0 s1 s2 s3 s4 s5 s6 q4a q40 q4f0 q5a q50 q5f0 q51 q5f1 q52 q5f2 q53 q5f3 q54 q5f4 q55 q5f5 q56 q5f6 q57 q5f7 q58 q5f8 q45 n20 n02 n21 n12 n30 n03 n31 n13 hbe ho1 ho2 q99 b1 b2 b4
  clear stlt st0 st1 st2 st3 st4 st5 st6 st7 st8 st9 st10 st11 st12 st13 st14 st15 st16 st17 st18 st19 st20 bxlt bx0 bx1 bx2 bx3 bx4 bx5 bx6 Nstbx
  replace H:=H.set 2 rfl 0 (.slice A2 lq.length c2) |>.set 3 rfl 0 vme |>.set 3 rfl 1 b.id |>.set 3 rfl 2 b.te |>.set 3 rfl 3 b.de |>.set 3 rfl 4 b.fe |>.set 3 rfl 5 b.pr |>.set 3 rfl 6 b.ch |>.set 3 rfl 7 b.un |>.set 3 rfl 8 (.string vs) |>.gen
  simp only [List.set_cons_zero,List.set_cons_succ,List.setIfInBounds_toArray] at H
  obtain ⟨wf,hwf,H⟩:=H
  rw [hwf]
  clear hwf
  by_cases hE:E = 0
  ·subst hE
   have Lst:=H.c21 0 rfl
   have Lro:=H.c1 2 rfl
   have Lrr:=H.c9 3 rfl
   have Nstro:=H.ne2 0 2 rfl rfl rfl
   have Nstrr:=H.ne2 0 3 rfl rfl rfl
   have Nrorr:=H.ne2 2 3 rfl rfl rfl
   go_upto_region 13 with fail
   replace H:=H.set 0 rfl 6 (.slice A2 lq.length c2) |>.gen
   simp only [List.set_cons_zero,List.set_cons_succ,List.setIfInBounds_toArray] at H
   obtain ⟨wg,hwg,H⟩:=H
   rw [hwg]
   clear hwg
   clear Lst Lro Lrr Nstro Nstrr Nrorr
   have Lst:=H.c21 0 rfl
   have Lrr:=H.c9 3 rfl
   have Nstrr:=H.ne2 0 3 rfl rfl rfl
   go_region
   replace H:=H.set 0 rfl 12 (.string vs) |>.set 0 rfl 13 b.id |>.set 0 rfl 14 b.te |>.set 0 rfl 15 b.de |>.set 0 rfl 16 b.fe |>.set 0 rfl 17 b.pr |>.set 0 rfl 18 b.ch |>.set 0 rfl 19 b.un |>.drew |>.gen
   simp only [List.set_cons_zero,List.set_cons_succ,List.setIfInBounds_toArray] at H
   obtain ⟨wh,hwh,H⟩:=H
   rw [hwh]
   clear hwh
   clear Lst Lrr Nstrr
   go_wp2_with fail
   refine (stage_server g (.slice At nt ct) (.int .i64 ↑T.fx) (.int .i64 ↑T.fb) (.int .i64 ↑T.db) (.int .i64 ↑T.al) (.slice Ad nc cd) (.slice A2 lq.length c2) (.slice Ap 3 cp) (.pointer none) (.slice none 0 0) A3 wl.length c3 ⟨0,0,vs,b,false⟩ 0 _ (H.blk 0 rfl)).mono ?_
   rintro e wi ⟨rfl,K⟩
   have HJ:=H.joinAt 0 rfl K
   clear H K
   go_wp2
   go_ret
   exact ⟨rfl,A2,c2,⟨A3,c3,_,(((HJ.drop_ 1).drop_ 1).drop_ 1).drop_ 1⟩,own_mono (HJ.own_ 4 rfl) (Nat.zero_le _)⟩
  ·have i1:((E:Int) == 0) = false:=by simp;omega
   have i2:¬ (E:Int) = 0:=by omega
   have Lst:=H.c21 0 rfl
   go_wp2_with fail
   refine (stage_server g (.slice At nt ct) (.int .i64 ↑T.fx) (.int .i64 ↑T.fb) (.int .i64 ↑T.db) (.int .i64 ↑T.al) (.slice Ad nc cd) (.slice Ao nl co) (.slice Ap 3 cp) (.pointer none) (.slice none 0 0) A3 wl.length c3 ⟨0,0,⟨#[]⟩,bil0,false⟩ (E:Int) _ (H.blk 0 rfl)).mono ?_
   rintro e wi ⟨rfl,K⟩
   have HJ:=H.joinAt 0 rfl K
   clear H K
   clear Lst
   go_wp2
   go_ret
   obtain ⟨_,e2,e3⟩:=HNO.out hE
   rw [e2,e3]
   have hO:=hXK _ (HJ.sub (List.nil_sublist _))
   rw [HN.out] at hO ⊢
   exact ⟨rfl,Ao,co,⟨A3,c3,_,(((HJ.drop_ 1).drop_ 1).drop_ 1).drop_ 1⟩,hO⟩
 ·skip
  simp only [Int.cast_ofNat_Int] at hW0 H
  have hV:=hV4 rfl
  clear hV2 hV3 hV4
  go_enter Tryz.func132,Tryz.ntmps132
  obtain ⟨stlt,st0,-,st1,-,st2,-,st3,-,st4,-,st5,-,st6,-,st7,-,st8,-,st9,-,st10,-,st11,-,st12,-,st13,-,st14,-,st15,-,st16,-,st17,-,st18,-,st19,-,st20,-⟩:=H.c21 0 rfl
  obtain ⟨bxlt,bx0,-,bx1,-,bx2,-,bx3,-,bx4,-,bx5,-,bx6,-⟩:=H.c7 1 rfl
  have Nstbx:=H.ne2 0 1 rfl rfl rfl
  go_upto_region 6 with fail
  go_region_held3 (fun w' => w'.cell? ⟨g,0,none⟩ = some (.slice At nt ct) ∧ w'.cell? ⟨g,1,none⟩ = some (.int .i64 ↑T.fx) ∧ w'.cell? ⟨g,2,none⟩ = some (.int .i64 ↑T.fb) ∧ w'.cell? ⟨g,3,none⟩ = some (.int .i64 ↑T.db) ∧ w'.cell? ⟨g,4,none⟩ = some (.int .i64 ↑T.al) ∧ w'.cell? ⟨g,5,none⟩ = some (.slice Ad nc cd) ∧ w'.cell? ⟨g,6,none⟩ = some (.slice Ao nl co) ∧ w'.cell? ⟨w.heap.size,1,none⟩ = some (.int .i64 ↑me) ∧ w'.cell? ⟨w.heap.size,4,none⟩ = some (.int .i64 ↑C))
   (first | with_reducible exact ⟨st0,st1,st2,st3,st4,st5,st6,bx1,bx4⟩ | with_reducible exact ⟨s0,s1,s2,s3,s4,s5,s6,b1,b4⟩ | go_keep | fail)
   ((go_at_call 135;(with_reducible refine (hV _ (ht0.below V0) (hd0.below V0) (hp0.below V0)).mono ?_);rintro e we ⟨A3,c3,A2,c2,rfl,ho1,ho2,hbe⟩;have H1:=Mem.row2 H.drew hbe ho1 ho2 (by decide);have s0:=(H1.blk 0 rfl).cell 0;have s1:=(H1.blk 0 rfl).cell 1;have s2:=(H1.blk 0 rfl).cell 2;have s3:=(H1.blk 0 rfl).cell 3;have s4:=(H1.blk 0 rfl).cell 4;have s5:=(H1.blk 0 rfl).cell 5;have s6:=(H1.blk 0 rfl).cell 6;have b1:=(H1.blk 1 rfl).cell 1;have b4:=(H1.blk 1 rfl).cell 4;obtain ⟨q4a,q40,q4f0⟩:=H1.c1 2 rfl;obtain ⟨q5a,q50,q5f0,q51,q5f1,q52,q5f2,q53,q5f3,q54,q5f4,q55,q5f5,q56,q5f6,q57,q5f7,q58,q5f8⟩:=H1.c9 3 rfl;have q45:=H1.ne 2 3 rfl rfl (by decide);have q99:=H1.ne 3 2 rfl rfl (by decide);have n20:=H1.ne 2 0 rfl rfl (by decide);have n02:=H1.ne 0 2 rfl rfl (by decide);have n21:=H1.ne 2 1 rfl rfl (by decide);have n12:=H1.ne 1 2 rfl rfl (by decide);have n30:=H1.ne 3 0 rfl rfl (by decide);have n03:=H1.ne 0 3 rfl rfl (by decide);have n31:=H1.ne 3 1 rfl rfl (by decide);have n13:=H1.ne 1 3 rfl rfl (by decide)))
  clear hW0 hV ht0 hd0 hp0 V0 H
  have H:Mem (w) [g] (we) [.blk (g) 113 #[.slice At nt ct,T.fx,T.fb,T.db,T.al,.slice Ad nc cd,.slice Ao nl co,.slice Ap 3 cp,.pointer none,.slice none 0 0,(),(),.string ⟨#[]⟩,(),(),(),(),(),(),(),.bool false],.blk (w.heap.size) 151 #[.int .i64 4,me,A,B,C,.string s,cut],.blk (w.heap.size + 1) 35 #[.slice none 0 0],.blk (w.heap.size + 1 + 1) 261 #[(),(),(),(),(),(),(),(),.string ⟨#[]⟩],.row (W0.drew.heap.size) (147) (4) (.slice A2 lq.length c2) (lq.length) (prs lq),.row (W0.drew.heap.size) (158) (2) (.slice A3 wl.length c3) (wl.length) (wrs wl)]:=H1
  clear H1 s0 s1 s2 s3 s4 s5 s6 q4a q40 q4f0 q5a q50 q5f0 q51 q5f1 q52 q5f2 q53 q5f3 q54 q5f4 q55 q5f5 q56 q5f6 q57 q5f7 q58 q5f8 q45 n20 n02 n21 n12 n30 n03 n31 n13 hbe ho1 ho2 q99 b1 b4
  clear stlt st0 st1 st2 st3 st4 st5 st6 st7 st8 st9 st10 st11 st12 st13 st14 st15 st16 st17 st18 st19 st20 bxlt bx0 bx1 bx2 bx3 bx4 bx5 bx6 Nstbx
  replace H:=H.set 2 rfl 0 (.slice A2 lq.length c2) |>.set 3 rfl 0 vme |>.set 3 rfl 1 b.id |>.set 3 rfl 2 b.te |>.set 3 rfl 3 b.de |>.set 3 rfl 4 b.fe |>.set 3 rfl 5 b.pr |>.set 3 rfl 6 b.ch |>.set 3 rfl 7 b.un |>.set 3 rfl 8 (.string vs) |>.gen
  simp only [List.set_cons_zero,List.set_cons_succ,List.setIfInBounds_toArray] at H
  obtain ⟨wf,hwf,H⟩:=H
  rw [hwf]
  clear hwf
  by_cases hE:E = 0
  ·subst hE
   have Lst:=H.c21 0 rfl
   have Lro:=H.c1 2 rfl
   have Lrr:=H.c9 3 rfl
   have Nstro:=H.ne2 0 2 rfl rfl rfl
   have Nstrr:=H.ne2 0 3 rfl rfl rfl
   have Nrorr:=H.ne2 2 3 rfl rfl rfl
   go_upto_region 13 with fail
   replace H:=H.set 0 rfl 6 (.slice A2 lq.length c2) |>.gen
   simp only [List.set_cons_zero,List.set_cons_succ,List.setIfInBounds_toArray] at H
   obtain ⟨wg,hwg,H⟩:=H
   rw [hwg]
   clear hwg
   clear Lst Lro Lrr Nstro Nstrr Nrorr
   have Lst:=H.c21 0 rfl
   have Lrr:=H.c9 3 rfl
   have Nstrr:=H.ne2 0 3 rfl rfl rfl
   go_region
   replace H:=H.set 0 rfl 12 (.string vs) |>.set 0 rfl 13 b.id |>.set 0 rfl 14 b.te |>.set 0 rfl 15 b.de |>.set 0 rfl 16 b.fe |>.set 0 rfl 17 b.pr |>.set 0 rfl 18 b.ch |>.set 0 rfl 19 b.un |>.drew |>.gen
   simp only [List.set_cons_zero,List.set_cons_succ,List.setIfInBounds_toArray] at H
   obtain ⟨wh,hwh,H⟩:=H
   rw [hwh]
   clear hwh
   clear Lst Lrr Nstrr
   go_wp2_with fail
   refine (stage_server g (.slice At nt ct) (.int .i64 ↑T.fx) (.int .i64 ↑T.fb) (.int .i64 ↑T.db) (.int .i64 ↑T.al) (.slice Ad nc cd) (.slice A2 lq.length c2) (.slice Ap 3 cp) (.pointer none) (.slice none 0 0) A3 wl.length c3 ⟨0,0,vs,b,false⟩ 0 _ (H.blk 0 rfl)).mono ?_
   rintro e wi ⟨rfl,K⟩
   have HJ:=H.joinAt 0 rfl K
   clear H K
   go_wp2
   go_ret
   exact ⟨rfl,A2,c2,⟨A3,c3,_,(((HJ.drop_ 1).drop_ 1).drop_ 1).drop_ 1⟩,own_mono (HJ.own_ 4 rfl) (Nat.zero_le _)⟩
  ·have i1:((E:Int) == 0) = false:=by simp;omega
   have i2:¬ (E:Int) = 0:=by omega
   have Lst:=H.c21 0 rfl
   go_wp2_with fail
   refine (stage_server g (.slice At nt ct) (.int .i64 ↑T.fx) (.int .i64 ↑T.fb) (.int .i64 ↑T.db) (.int .i64 ↑T.al) (.slice Ad nc cd) (.slice Ao nl co) (.slice Ap 3 cp) (.pointer none) (.slice none 0 0) A3 wl.length c3 ⟨0,0,⟨#[]⟩,bil0,false⟩ (E:Int) _ (H.blk 0 rfl)).mono ?_
   rintro e wi ⟨rfl,K⟩
   have HJ:=H.joinAt 0 rfl K
   clear H K
   clear Lst
   go_wp2
   go_ret
   obtain ⟨_,e2,e3⟩:=HNO.out hE
   rw [e2,e3]
   have hO:=hXK _ (HJ.sub (List.nil_sublist _))
   rw [HN.out] at hO ⊢
   exact ⟨rfl,Ao,co,⟨A3,c3,_,(((HJ.drop_ 1).drop_ 1).drop_ 1).drop_ 1⟩,hO⟩
theorem chg_do (T:Tm) (hT:T.Ok) (W:Wd) (n:Nat) (x:Wv) (g k me ow bp C:Nat) (s:ByteArray) (cut:Int) (w:World) (hW:W.Ok T 3 n) (hm:me ≤ 2) (hn:n ≤ 62) (how:1 ≤ ow ∧ ow ≤ 1000000000) (hbp:bp ≤ 10000) (hx:x.Is w T W) (hB:Blk w g 113 (x.st T W (.pointer none) (.slice none 0 0) td00)) :
 Calls Tryz.prog 174 #[.agg #[k,me,ow,bp,C,.string s,cut],.pointer (some ⟨g,0,none⟩)] w (RetSrvDo g x T W (askR T W ⟨0,me,ow,bp,1,0,0⟩).wl (askR T W ⟨0,me,ow,bp,1,0,0⟩).E w):=by
 have hll:=hW.ll
 have hlen:=hW.len
 have hV:=fun U h1 h2 => charge_ok T hT x.At T.tl.length x.ct (.slice x.Ad W.c.length x.cd) W.c W.L W.B me me ow bp U h1 h2 hW.srv (by omega) (hW.at_ (by omega)) (by omega) (by omega) how.1 how.2 hbp
 obtain ⟨E,hE⟩:∃ E,(oweP (W.B.getD me cu0).a ow bp).1 = E:=⟨_,rfl⟩
 obtain ⟨wl0,hwl0⟩:∃ wl0,putW W.c.length (W.L.length * 14) (evW (chgV me ow bp)) = wl0:=⟨_,rfl⟩
 obtain ⟨wl,hwl⟩:∃ wl,(if E = 0 then wl0 else []) = wl:=⟨_,rfl⟩
 have e1:(askR T W ⟨0,me,ow,bp,1,0,0⟩).wl = wl:=by rw [← hwl,← hwl0,← hE,hlen];rfl
 have e2:(askR T W ⟨0,me,ow,bp,1,0,0⟩).E = E:=hE
 rw [e1,e2]
 rw [hE,hwl0] at hV
 replace hV:∀ U,IsDs U (.slice x.At T.tl.length x.ct) T.tl → IsWs U (.slice x.Ad W.c.length x.cd) W.c → Calls Tryz.prog 175 #[.agg #[.slice x.At T.tl.length x.ct,T.fx,T.fb,T.db,T.al],.slice x.Ad W.c.length x.cd,me,.agg #[ow,bp]] U (fun e w' => ∃ (A3:Option Addr) (c3:Nat),e = .returned (.tuple #[.slice A3 wl.length c3,E]) ∧ (∀ p ∈ wl,p.2 < 4294967296) ∧ w'.ownsRow U.heap.size 158 2 (.slice A3 wl.length c3) wl.length (wrs wl) ∧ Below U.heap.size U w'):=by
  intro U h1 h2
  refine (hV U h1 h2).mono ?_
  rintro e w' (⟨h0,A,c',rfl,hl,ho,hb⟩ | ⟨h0,rfl,hb⟩)
  ·subst h0
   rw [if_pos rfl] at hwl
   subst hwl
   exact ⟨A,c',rfl,hl,ho,hb⟩
  ·rw [if_neg h0] at hwl
   subst hwl
   exact ⟨none,0,rfl,by simp,World.ownsRow_nil _ _ _ _,hb⟩
 have hS:=fun (U:World) (Aw:Option Addr) (cw:Nat) h => stage_server g (.slice x.At T.tl.length x.ct) (.int .i64 ↑T.fx) (.int .i64 ↑T.fb) (.int .i64 ↑T.db) (.int .i64 ↑T.al) (.slice x.Ad W.c.length x.cd) (.slice x.Ao W.lp.length x.co) (.slice x.Ap 3 x.cp) (.pointer none) (.slice none 0 0) Aw wl.length cw td00 (E:Int) U h
 have ht:=hx.terms
 have hd:=hx.disk hW
 unfold RetSrvDo
 unfold Wv.st at hB ⊢
 unfold stV td00 bil0 at hS hB ⊢
 dsimp only at hS hB ⊢
 obtain ⟨nt,hnt⟩:∃ nt,T.tl.length = nt:=⟨_,rfl⟩
 obtain ⟨nc,hnc⟩:∃ nc,W.c.length = nc:=⟨_,rfl⟩
 obtain ⟨nl,hnl⟩:∃ nl,W.lp.length = nl:=⟨_,rfl⟩
 rw [hnt,hnc,hnl] at hS hB ⊢
 rw [hnt] at ht hV
 rw [hnc] at hd hV
 clear hW hx hwl hwl0 hE e1 e2 hll hlen hnt hnc hnl
 obtain ⟨At,ct,Ad,cd,Ao,co,Ap,cp,_,_,_,_,_,_⟩:=x
 dsimp only at hS hB ht hd hV ⊢
 have H:Mem (w) [g] (w) [.blk (g) 113 #[.slice At nt ct,T.fx,T.fb,T.db,T.al,.slice Ad nc cd,.slice Ao nl co,.slice Ap 3 cp,.pointer none,.slice none 0 0,(),(),.string ⟨#[]⟩,(),(),(),(),(),(),(),.bool false]]:=Mem.init1 hB
 replace H:=H.al w.heap.size #[k,me,ow,bp,C,.string s,cut] (152) |>.gen
 simp only [List.cons_append,List.nil_append] at H
 obtain ⟨W0,hW0,H⟩:=H
 have B0:Below w.heap.size w W0:=by rw [← hW0];exact below_a1 _ _
 have ht0:=ht.below B0
 have hd0:=hd.below B0
 clear ht hd B0 hB
 obtain ⟨stlt,st0,-,st1,-,st2,-,st3,-,st4,-,st5,-,st6,-,st7,-,st8,-,st9,-,st10,-,st11,-,st12,-,st13,-,st14,-,st15,-,st16,-,st17,-,st18,-,st19,-,st20,-⟩:=H.c21 0 rfl
 obtain ⟨bxlt,bx0,-,bx1,-,bx2,-,bx3,-,bx4,-,bx5,-,bx6,-⟩:=H.c7 1 rfl
 have Nstbx:=H.ne2 0 1 rfl rfl rfl
 go_enter Tryz.func174,Tryz.ntmps174
 go_upto_region 1 with fail
 clear hW0
 have V0:Below W0.heap.size W0 W0.drew:=below_draws (Below.refl _ _) 1
 have hV1:=hV _ (ht0.below V0) (hd0.below V0)
 have bxg:w.heap.size ≠ g:=by omega
 go_region_held3 (fun w' => w'.cell? ⟨g,0,none⟩ = some (.slice At nt ct) ∧ w'.cell? ⟨g,1,none⟩ = some (.int .i64 ↑T.fx) ∧ w'.cell? ⟨g,2,none⟩ = some (.int .i64 ↑T.fb) ∧ w'.cell? ⟨g,3,none⟩ = some (.int .i64 ↑T.db) ∧ w'.cell? ⟨g,4,none⟩ = some (.int .i64 ↑T.al) ∧ w'.cell? ⟨g,5,none⟩ = some (.slice Ad nc cd) ∧ w'.cell? ⟨w.heap.size,1,none⟩ = some (.int .i64 ↑me) ∧ w'.cell? ⟨w.heap.size,2,none⟩ = some (.int .i64 ↑ow) ∧ w'.cell? ⟨w.heap.size,3,none⟩ = some (.int .i64 ↑bp))
  (first | with_reducible exact ⟨st0,st1,st2,st3,st4,st5,bx1,bx2,bx3⟩ | with_reducible exact ⟨s0,s1,s2,s3,s4,s5,s6,s8,s9⟩ | with_reducible exact ⟨u0,u1,u2,u3,u4,u5,u6,u8,u9⟩ | go_keep | fail)
  (first | (go_at_call 175;(with_reducible refine hV1.mono ?_);rintro e we ⟨A3,c3,rfl,hwl3,hown,hbe⟩;have H1:=Mem.row H.drew hbe hown (Nat.le_refl _);have hB1:=H1.blk 0 rfl;have s0:=(H1.blk 0 rfl).cell 0;have s1:=(H1.blk 0 rfl).cell 1;have s2:=(H1.blk 0 rfl).cell 2;have s3:=(H1.blk 0 rfl).cell 3;have s4:=(H1.blk 0 rfl).cell 4;have s5:=(H1.blk 0 rfl).cell 5;have s6:=(H1.blk 1 rfl).cell 1;have s8:=(H1.blk 1 rfl).cell 2;have s9:=(H1.blk 1 rfl).cell 3;have s7:=H1.lt 1 rfl) | (go_at_call 122;(with_reducible refine (hS _ A3 c3 hB1).mono ?_);rintro e wf ⟨rfl,K⟩;have u0:=(K.blk 0 rfl).cell 0;have u1:=(K.blk 0 rfl).cell 1;have u2:=(K.blk 0 rfl).cell 2;have u3:=(K.blk 0 rfl).cell 3;have u4:=(K.blk 0 rfl).cell 4;have u5:=(K.blk 0 rfl).cell 5;have u6:=(World.cell?_of_block (K.keep.block w.heap.size s7 (by simp;omega))).trans s6;have u8:=(World.cell?_of_block (K.keep.block w.heap.size s7 (by simp;omega))).trans s8;have u9:=(World.cell?_of_block (K.keep.block w.heap.size s7 (by simp;omega))).trans s9))
 have HJ:=H1.joinAt 0 rfl K
 simp only [List.append_nil] at HJ
 go_wp2
 go_ret
 exact ⟨A3,c3,_,rfl,HJ.drop_ 1,hwl3⟩
def dTy (k:Nat):TypeId:=if k = 1 then 150 else if k ≤ 4 then 151 else if k = 5 then 152 else if k = 6 then 153 else 154
theorem doer_ok (k me A B C:Nat) (s:ByteArray) (cut:Int) (w:World) (hk:1 ≤ k ∧ k ≤ 7) :
 Calls Tryz.prog 31 #[.agg #[k,me,A,B,C,.string s,cut]] w fun e w' => e = .returned (.iface (dTy k) (.agg #[k,me,A,B,C,.string s,cut])) ∧ Below w.heap.size w w':=by
 rcases (show k = 1 ∨ k = 2 ∨ k = 3 ∨ k = 4 ∨ k = 5 ∨ k = 6 ∨ k = 7 by omega) with rfl | rfl | rfl | rfl | rfl | rfl | rfl
 all_goals
  clear hk
  simp only [Int.cast_ofNat_Int]
  go_enter Tryz.func31,Tryz.ntmps31
  go_wp2
  go_ret
  exact ⟨rfl,below_a1 _ _⟩
structure Ar where
 wl:List (Nat × Nat)
 E:Nat
 ad:Nat
 s:ByteArray
 b:Bil
 lp:List Pr
noncomputable def arP (T:Tm) (W:Wd) (a:Ac):Ar :=
 if a.k = 1 then ⟨(regR W a.me).wl,0,0,⟨#[]⟩,bil0,W.lp⟩
 else if a.k ≤ 5 then ⟨(askR T W a.od).wl,(askR T W a.od).E,0,(askR T W a.od).s,(askR T W a.od).b,(askR T W a.od).lp⟩
 else ⟨(krP W a).wl,(krP W a).E,(krP W a).ad,⟨#[]⟩,bil0,W.lp⟩
def tgt (W:Wd) (a:Ac):List Nat:=if a.k ≤ 5 then W.c else (W.P.getD a.me pk0).C
def May (W:Wd) (a:Ac):Prop:=if a.k = 1 then W.B.length = a.me else W.B.length = 3
theorem askR_no {T:Tm} {W:Wd} {o:Od} (h:(askR T W o).E ≠ 0):(askR T W o).wl = [] ∧ (askR T W o).lp = W.lp ∧ (askR T W o).s = ⟨#[]⟩ ∧ (askR T W o).b = bil0:=by
 obtain ⟨q1,_,q3,q4⟩:=Od.V_no h
 exact ⟨q1,if_neg h,q4,q3⟩
theorem arP_ok {T:Tm} {W:Wd} {m n:Nat} {a:Ac} (hT:T.Ok) (hW:W.Ok T m n) (ha:a.Ok) (hn:n ≤ 62) (hm:May W a):(∀ u ∈ (arP T W a).wl,u.1 < (tgt W a).length) ∧ (∀ u ∈ (arP T W a).wl,u.2 < 4294967296) ∧ (arP T W a).wl.length ≤ 700 ∧ OOk (arP T W a).lp:=by
 have hc:=hW.cus
 unfold May at hm
 unfold arP tgt
 by_cases h1:a.k = 1
 ·rw [if_pos h1] at hm
  rw [if_pos h1,if_pos (by omega)]
  have hme:=ha.me
  have hG:=hW.reg (by omega) hn
  rw [← hc,hm] at hG
  have hl:=hG.len.2
  exact ⟨by rw [hW.len];exact hG.at_,hG.lt,by dsimp only;omega,hW.ook⟩
 ·rw [if_neg h1] at hm
  rw [if_neg h1]
  have hk:=ha.kind
  obtain rfl:m = 3:=by omega
  by_cases h5:a.k ≤ 5
  ·rw [if_pos h5,if_pos h5]
   dsimp only
   by_cases hE:(askR T W a.od).E = 0
   ·have hG:=(hW.ask hT hn (ha.od (by omega) h5) hE).1
    have hl:=hG.len.2
    exact ⟨by rw [hW.len];exact hG.at_,hG.lt,by omega,hG.ook⟩
   ·obtain ⟨e1,e2,_⟩:=askR_no hE
    rw [e1,e2]
    exact ⟨by simp,by simp,by simp,hW.ook⟩
  ·rw [if_neg h5,if_neg h5]
   obtain ⟨k1,k2⟩:=krP_ok hW ha.me
   exact ⟨by rw [(hW.pok a.me ha.me).len];exact k1.at_,k1.lt,k2,hW.ook⟩
theorem doP_td (T:Tm) (W:Wd) (a:Ac):(doP T W a).2 = tdC a.cut (arP T W a).E (arP T W a).ad (arP T W a).s (arP T W a).b:=by
 unfold doP arP
 split
 ·rfl
 ·split <;> rfl
theorem doP_srv {T:Tm} {W:Wd} {a:Ac} (h:a.k ≤ 5):(doP T W a).1.c = applyW W.c ((arP T W a).wl.take (cutK a.cut (arP T W a).wl.length)) ∧ (doP T W a).1.lp = (arP T W a).lp ∧ (doP T W a).1.P = W.P:=by
 have key:∀ x:Sr,(x.E ≠ 0 → x.wl = [] ∧ x.lp = W.lp) → (W.srv x a.cut).c = applyW W.c (x.wl.take (cutK a.cut x.wl.length)) ∧ (W.srv x a.cut).lp = x.lp ∧ (W.srv x a.cut).P = W.P:=by
  intro x hx
  unfold Wd.srv
  by_cases hE:x.E = 0
  ·rw [if_pos hE]
   by_cases hc:cutK a.cut x.wl.length = x.wl.length
   ·rw [if_pos hc,hc,List.take_length]
    exact ⟨rfl,rfl,rfl⟩
   ·rw [if_neg hc]
    exact ⟨rfl,rfl,rfl⟩
  ·rw [if_neg hE]
   obtain ⟨e1,e2⟩:=hx hE
   rw [e1,e2]
   exact ⟨by simp [applyW],rfl,rfl⟩
 unfold doP arP
 by_cases h1:a.k = 1
 ·rw [if_pos h1,if_pos h1]
  exact key _ (fun h => absurd rfl h)
 ·rw [if_neg h1,if_neg h1,if_pos h,if_pos h]
  exact key _ (fun h => ⟨(askR_no h).1,(askR_no h).2.1⟩)
theorem doP_poc {T:Tm} {W:Wd} {m n:Nat} {a:Ac} (hW:W.Ok T m n) (ha:a.me ≤ 2) (h:¬ a.k ≤ 5):(doP T W a).1.c = W.c ∧ (doP T W a).1.lp = W.lp ∧ (arP T W a).lp = W.lp ∧ ∀ j,((doP T W a).1.P.getD j pk0).C = if j = a.me then applyW (W.P.getD a.me pk0).C ((arP T W a).wl.take (cutK a.cut (arP T W a).wl.length)) else (W.P.getD j pk0).C:=by
 have hpl:=hW.pl
 unfold doP arP
 rw [if_neg (by omega),if_neg h,if_neg (by omega),if_neg h]
 refine ⟨rfl,rfl,rfl,fun j => ?_⟩
 unfold Wd.poc
 dsimp only
 by_cases e:j = a.me
 ·rw [if_pos e,e,List.getD_eq_getElem?_getD,List.getElem?_set_self (by omega)]
  exact ((krP_ok hW ha).1.cut_ok _).2
 ·rw [if_neg e,List.getD_eq_getElem?_getD,List.getElem?_set_ne (fun h => e h.symm),← List.getD_eq_getElem?_getD]
theorem Ac.od_me (a:Ac):a.od.me = a.me:=by unfold Ac.od;split;rfl;split;rfl;split <;> rfl
theorem Ac.od_q (a:Ac):a.od.q = 0 ↔ a.k = 5:=by
 unfold Ac.od
 by_cases h5:a.k = 5
 ·rw [if_pos h5];simp [h5]
 ·rw [if_neg h5]
  by_cases h3:a.k = 3
  ·rw [if_pos h3];simp [h5]
  ·rw [if_neg h3]
   by_cases h4:a.k = 4
   ·rw [if_pos h4];simp [h5]
   ·rw [if_neg h4];simp [h5]
structure Hds (T:Tm) (W:Wd) (a:Ac):Prop where
 cut:a.cut = none
 k1:2 ≤ a.k
 k2:a.k ≤ 4
 E:(W.V T a.od).E = 0
 r:(a.od.rq.r T (W.B.getD a.me cu0).a).1 = 0
 t:(doP T W a).2 = ⟨0,0,(W.V T a.od).s,(W.V T a.od).b,false⟩
 w:(doP T W a).1 = ⟨applyW W.c (W.V T a.od).wl,W.L ++ [a.od.v T (W.B.getD a.me cu0).a W.lp],W.B.set a.me (a.od.c T (W.B.getD a.me cu0) W.lp),(W.V T a.od).lp,W.P⟩
theorem hds_of {T:Tm} {W:Wd} {a:Ac} (ha:a.Ok) (h:(doP T W a).2.s.size ≠ 0):Hds T W a:=by
 have h0:(⟨#[]⟩:ByteArray).size = 0:=rfl
 have hk:=ha.kind
 have hcut:a.cut = none:=by
  by_cases g:a.cut.isSome = true
  ·exfalso
   unfold doP tdC at h
   rw [if_pos g,if_pos g,if_pos g] at h
   split at h
   ·exact h h0
   ·split at h <;> exact h h0
  ·cases hc:a.cut with
   | none => rfl
   | some k => rw [hc] at g;exact absurd rfl g
 by_cases h1:a.k = 1
 ·unfold doP tdC at h
  rw [if_pos h1,hcut] at h
  exact absurd h0 h
 by_cases h5:a.k ≤ 5
 ·have hd:doP T W a = (W.srv (askR T W a.od) none,tdC none (askR T W a.od).E 0 (askR T W a.od).s (askR T W a.od).b):=by
   unfold doP
   rw [if_neg h1,if_pos h5,hcut]
  have hs:(W.V T a.od).s.size ≠ 0:=by
   rw [hd] at h
   exact h
  have hE:(W.V T a.od).E = 0:=by
   by_cases g:(W.V T a.od).E = 0
   ·exact g
   ·exact absurd (by rw [show (W.V T a.od).s = ⟨#[]⟩ from (Od.V_no g).2.2.2];exact h0) hs
  have hq:a.od.q ≠ 0:=fun g => hs (by rw [show (W.V T a.od).s = ⟨#[]⟩ from (Od.V_lp0 g).2.1];exact h0)
  have hk5:a.k ≠ 5:=fun g => hq ((Ac.od_q a).2 g)
  have hr:=(Od.V_sale hq hE).2.2.1
  rw [Ac.od_me] at hr
  have hE2:(askR T W a.od).E = 0:=hE
  refine ⟨hcut,by omega,by omega,hE,hr,?_,?_⟩
  ·rw [hd]
   show tdC none (askR T W a.od).E 0 _ _ = _
   rw [hE2]
   rfl
  ·rw [hd]
   show W.srv (askR T W a.od) none = _
   unfold Wd.srv
   rw [if_pos hE2,if_pos (show cutK none (askR T W a.od).wl.length = (askR T W a.od).wl.length from rfl)]
   unfold askR
   rw [if_pos hE,Ac.od_me]
 ·unfold doP tdC at h
  rw [if_neg h1,if_neg h5,hcut] at h
  exact absurd h0 h
theorem Rq.rev {T:Tm} {a:Acc} {x:Rq} (h:(x.r T a).1 = 0):(x.r T a).2.1.rev = if x.q = 2 then a.rev + 1 else a.rev:=by
 unfold Rq.r at h ⊢
 by_cases g1:x.q = 1
 ·have g2:¬ x.q = 2:=by omega
  rw [if_neg g2]
  simp only [g1,if_true] at h ⊢
  have e:grantP T a x.mo = (0,(grantP T a x.mo).2.1,(grantP T a x.mo).2.2):=by rw [← h]
  exact (grantP_ne e).2.2.2.1
 ·simp only [g1,if_false] at h ⊢
  by_cases g2:x.q = 2
  ·simp only [g2,if_true] at h ⊢
   have e:rekeyP a = (0,(rekeyP a).2.1,(rekeyP a).2.2):=by rw [← h]
   rw [(rekeyP_ne e).1]
  ·simp only [g2,if_false] at h ⊢
   have e:sellP T a x.te x.mo = (0,(sellP T a x.te x.mo).2.1,(sellP T a x.te x.mo).2.2):=by rw [← h]
   exact (sellP_ne e).2.2.2.1
theorem Ac.rq_q {a:Ac} (h1:2 ≤ a.k) (h2:a.k ≤ 4):a.od.rq.q = 2 ↔ a.k = 4:=by
 unfold Ac.od Od.rq
 rcases (show a.k = 2 ∨ a.k = 3 ∨ a.k = 4 by omega) with h | h | h
 ·rw [if_neg (by omega),if_neg (by omega),if_neg (by omega)];simp [h]
 ·rw [if_neg (by omega),if_pos (by omega)];simp [h]
 ·rw [if_neg (by omega),if_neg (by omega),if_pos (by omega)];simp [h]
theorem Hds.rev {T:Tm} {W:Wd} {a:Ac} {m n:Nat} (h:Hds T W a) (hW:W.Ok T m n) (hm:a.me < m):((doP T W a).1.B.getD a.me cu0).a.rev = (W.B.getD a.me cu0).a.rev + (if a.k = 4 then 1 else 0):=by
 have hc:=hW.cus
 rw [h.w]
 dsimp only
 rw [List.getD_eq_getElem?_getD,List.getElem?_set_self (by omega)]
 have hq:a.od.q ≠ 0:=fun g => by have:=(Ac.od_q a).1 g;have:=h.k2;omega
 unfold Od.c
 rw [if_neg hq]
 show ((a.od.rq.r T (W.B.getD a.me cu0).a).2.1).rev = _
 rw [Rq.rev h.r]
 by_cases g:a.k = 4
 ·rw [if_pos g,if_pos ((Ac.rq_q h.k1 h.k2).2 g)]
 ·rw [if_neg g,if_neg (fun e => g ((Ac.rq_q h.k1 h.k2).1 e)),Nat.add_zero]
def tokS (T:Tm) (W:Wd) (a:Ac):Nat:=(W.B.getD a.me cu0).a.rev
noncomputable def tokOf (T:Tm) (W:Wd) (a:Ac):Sd:=⟨a.me,(W.B.getD a.me cu0).a.rev,(doP T W a).2.s,(doP T W a).2.b,a.k,if a.k = 3 then a.A else a.B⟩
noncomputable def tkN (T:Tm) (W:Wd) (a:Ac) (tk:List Sd):List Sd:=if (doP T W a).2.s.size = 0 then tk else tk ++ [tokOf T W a]
structure Sn where
 a:Ac
 W:Wd
 x:Wv
 y:Wv
 key:ByteArray
 n:Nat
noncomputable def Sn.vs (T:Tm) (s:Sn):List Value:=s.a.vs ++ ((doP T s.W s.a).2.vs ++ (s.x.vs T s.W ++ (s.y.vs T (doP T s.W s.a).1 ++ [.string s.key,.int .i64 ↑s.n])))
theorem Sn.vs_len (T:Tm) (s:Sn):(s.vs T).length = 36:=rfl
noncomputable def sns (T:Tm) (l:List Sn):List Value:=l.flatMap (Sn.vs T)
theorem sns_get (T:Tm) (l:List Sn) (i:Nat) (h:i < l.length) (j:Nat) (hj:j < 36):(sns T l)[i * 36 + j]? = (l[i].vs T)[j]?:=cat_get (Sn.vs T) 36 (Sn.vs_len T) l i h j hj
structure Nx (sv:Bool) (i:Nat) (W:Wd) (tk:List Sd) (s:Sn):Prop where
 w:s.W = W
 n:s.n = tk.length
 ok:s.a.Ok
 reg:s.a.k = 1 ↔ i < 3
 at_:s.a.k = 1 → s.a.me = i ∧ s.a.cut = none
 key:s.key = ⟨#[]⟩ ∨ ∃ t ∈ tk,t.s = s.key ∧ s.a.k = 6 ∧ s.a.s = t.s ++ ⟨#[35]⟩
 sv:sv = false → s.a.k ≤ 5 → s.a.cut = none
inductive Lived (T:Tm) (sv:Bool):List Sn → List Sd → Wd → Prop
 | nil:Lived T sv [] [] wd0
 | step {S:List Sn} {tk:List Sd} {W:Wd} (s:Sn) (h:Lived T sv S tk W) (hs:Nx sv S.length W tk s):Lived T sv (S ++ [s]) (tkN T W s.a tk) (doP T W s.a).1
structure Sn.Ok (T:Tm) (sv:Bool) (i:Nat) (s:Sn):Prop where
 w:s.W.Ok T (min 3 i) i
 a:s.a.Ok
 may:May s.W s.a
 reg:s.a.k = 1 ↔ i < 3
 cut:s.a.k = 1 → s.a.cut = none
 nx:∃ tk,Nx sv i s.W tk s
theorem Nx.may {T:Tm} {sv:Bool} {i:Nat} {W:Wd} {tk:List Sd} {s:Sn} (h:Nx sv i W tk s) (hW:W.Ok T (min 3 i) i):May W s.a:=by
 have hc:=hW.cus
 unfold May
 by_cases g:s.a.k = 1
 ·rw [if_pos g]
  have:=h.reg.1 g
  have:=(h.at_ g).1
  omega
 ·rw [if_neg g]
  have:¬ i < 3:=fun q => g (h.reg.2 q)
  omega
theorem Nx.next {T:Tm} {sv:Bool} {i:Nat} {W:Wd} {tk:List Sd} {s:Sn} (h:Nx sv i W tk s) (hT:T.Ok) (hi:i ≤ 62) (hW:W.Ok T (min 3 i) i):(doP T W s.a).1.Ok T (min 3 (i + 1)) (i + 1):=by
 by_cases g:s.a.k = 1
 ·have h1:=h.reg.1 g
  have h2:=h.at_ g
  have h3:=hW.first (a:=s.a) (by omega) hi g (by omega) h2.2
  rwa [show min 3 i + 1 = min 3 (i + 1) by omega] at h3
 ·have h1:¬ i < 3:=fun q => g (h.reg.2 q)
  rw [show min 3 i = 3 by omega] at hW
  have h3:=hW.next hT hi h.ok g
  rwa [show 3 = min 3 (i + 1) by omega] at h3
theorem Lived.ok {T:Tm} {sv:Bool} {S:List Sn} {tk:List Sd} {W:Wd} (h:Lived T sv S tk W) (hT:T.Ok) (hn:S.length ≤ 62):W.Ok T (min 3 S.length) S.length ∧ ∀ i (hi:i < S.length),S[i].Ok T sv i:=by
 induction h with
 | nil => exact ⟨wd0_ok T,fun i hi => absurd hi (Nat.not_lt_zero _)⟩
 | step s h hs ih =>
  rw [List.length_append,List.length_singleton] at hn
  obtain ⟨h1,h2⟩:=ih (by omega)
  refine ⟨?_,fun i hi => ?_⟩
  ·rw [List.length_append,List.length_singleton]
   exact hs.next hT (by omega) h1
  ·rename_i S tk W
   by_cases g:i < S.length
   ·rw [List.getElem_append_left g]
    exact h2 i g
   ·have hi2:i = S.length:=by simp at hi;omega
    subst hi2
    rw [List.getElem_append_right (Nat.le_refl _)]
    simp only [Nat.sub_self,List.getElem_cons_zero]
    have e:=hs.w
    refine ⟨by rw [e];exact h1,hs.ok,by rw [e];exact hs.may h1,hs.reg,fun q => (hs.at_ q).2,tk,?_⟩
    rw [e]
    exact hs
theorem Rq.sums {T:Tm} {a:Acc} {x:Rq} (hT:T.Ok) (ha:a.Ok) (h:(x.r T a).1 = 0):((x.r T a).2.2.te = (x.r T a).2.2.de + (x.r T a).2.2.fe + (x.r T a).2.2.pr + (x.r T a).2.2.ch ∧ (x.r T a).2.2.un ≤ 2097151) ∧ (x.q = 2 → amP x.cls (x.r T a) = a.rev + 1 ∧ (x.r T a).2.2.un = 0 ∧ (x.r T a).2.2.te = 0) ∧ (x.q = 1 → amP x.cls (x.r T a) = (x.r T a).2.2.un ∧ (x.r T a).2.2.te = 0 ∧ (x.r T a).2.2 = ⟨a.next,0,0,0,0,0,T.al⟩) ∧ (x.q ≠ 1 → x.q ≠ 2 → amP x.cls (x.r T a) = (x.r T a).2.2.un ∧ (x.r T a).2.2.te = x.te ∧ 1 ≤ (x.r T a).2.2.un):=by
 unfold Rq.r Rq.cls amP at *
 by_cases g1:x.q = 1
 ·have g2:¬ x.q = 2:=by omega
  simp only [g1,if_true] at h ⊢
  have e:grantP T a x.mo = (0,(grantP T a x.mo).2.1,(grantP T a x.mo).2.2):=by rw [← h]
  have hal:=hT.h2.h4
  rw [(grantP_ne e).2.2.2.2.2.2.2.1]
  refine ⟨⟨rfl,?_⟩,fun q => absurd q (by decide),fun _ => ⟨rfl,rfl,rfl⟩,fun q => absurd rfl q⟩
  dsimp only;omega
 ·simp only [g1,if_false] at h ⊢
  by_cases g2:x.q = 2
  ·simp only [g2,if_true] at h ⊢
   have e:rekeyP a = (0,(rekeyP a).2.1,(rekeyP a).2.2):=by rw [← h]
   rw [(rekeyP_ne e).1,(rekeyP_ne e).2.1]
   exact ⟨⟨rfl,Nat.zero_le _⟩,fun _ => ⟨rfl,rfl,rfl⟩,fun q => absurd q (by decide),fun _ q => absurd rfl q⟩
  ·simp only [g2,if_false] at h ⊢
   have e:sellP T a x.te x.mo = (0,(sellP T a x.te x.mo).2.1,(sellP T a x.te x.mo).2.2):=by rw [← h]
   have hn:=sellP_ne e
   exact ⟨sellP_sum hT ha e,fun q => q.elim,fun q => q.elim,fun _ _ => ⟨rfl,hn.2.2.2.2.2.2.2.1,hn.2.2.2.2.2.2.2.2.1⟩⟩
structure Tol (T:Tm) (W:Wd) (a:Ac) (cls am tag:Nat):Prop where
 tk:TkOk cls (W.B.getD a.me cu0).a.next am tag
 id:(doP T W a).2.b.id = (W.B.getD a.me cu0).a.next
 s:(doP T W a).2.s = dstr (tokD cls (W.B.getD a.me cu0).a.next am tag)
 lk:look (doP T W a).1.lp ((a.me:Int),((W.B.getD a.me cu0).a.rev:Int),((tbody cls (W.B.getD a.me cu0).a.next am:Nat):Int)) = some (tag:Int)
 sum:(doP T W a).2.b.te = (doP T W a).2.b.de + (doP T W a).2.b.fe + (doP T W a).2.b.pr + (doP T W a).2.b.ch
 un:(doP T W a).2.b.un ≤ 2097151
 bd:(W.B.getD a.me cu0).a.rev ≤ 15
 k4:a.k = 4 → cls = 2 ∧ am = (W.B.getD a.me cu0).a.rev + 1 ∧ (doP T W a).2.b.un = 0 ∧ (doP T W a).2.b.te = 0
 k3:a.k = 3 → cls = 0 ∧ am = (doP T W a).2.b.un ∧ (doP T W a).2.b.te = 0
 k2:a.k = 2 → cls = 0 ∧ am = (doP T W a).2.b.un ∧ (doP T W a).2.b.te = a.A ∧ 1 ≤ (doP T W a).2.b.un
theorem Hds.told {T:Tm} {W:Wd} {a:Ac} {n:Nat} (h:Hds T W a) (hT:T.Ok) (hW:W.Ok T 3 n) (hn:n ≤ 62) (ha:a.Ok):∃ cls am tag,Tol T W a cls am tag:=by
 have hk1:=h.k1
 have hk2:=h.k2
 have hq:a.od.q ≠ 0:=fun g => by have:=(Ac.od_q a).1 g;omega
 have hE:=h.E
 have hod:=ha.od hk1 (by omega)
 have h1:=hod.h1
 have h4:=hod.h4
 have h5:=hod.h5
 have h6:=hod.h6
 have hom:=Ac.od_me a
 have hc:=hW.cus
 have hll:=hW.ll
 have hB:=hW.srv.bok hT
 have hi:a.me < W.B.length:=by omega
 have hgd:W.B.getD a.me cu0 = W.B[a.me]:=by simp [hi]
 have hao:=hB.h1 W.B[a.me] (List.getElem_mem hi)
 have hs:=hB.sold (List.getElem_mem hi)
 rw [← hgd] at hao hs
 have hr:=h.r
 have htk:=(Rq.tk (x:=a.od.rq) (T:=T) (a:=(W.B.getD a.me cu0).a) ⟨show a.od.me ≤ 49 by omega,show 1 ≤ a.od.te by omega,show a.od.te ≤ 100000000 by omega,show a.od.mo ≤ 2399 by omega⟩ hT hao.1 (by omega) hr).1
 have hid:=Rq.id hr
 obtain ⟨s1,s2,s3,s4⟩:=Rq.sums hT hao.1 hr
 have htg:=tagP_le (r:=a.od.rq.r T (W.B.getD a.me cu0).a) (me:=a.me) (rev:=(W.B.getD a.me cu0).a.rev) (cls:=a.od.rq.cls) hW.ook h6
 have hlk:=issL_look W.lp (a.me:Int) ((W.B.getD a.me cu0).a.rev:Int) (tbody a.od.rq.cls (a.od.rq.r T (W.B.getD a.me cu0).a).2.2.id (amP a.od.rq.cls (a.od.rq.r T (W.B.getD a.me cu0).a)):Nat) (a.od.d:Int) ((a.me:Int),((W.B.getD a.me cu0).a.rev:Int),((tbody a.od.rq.cls (a.od.rq.r T (W.B.getD a.me cu0).a).2.2.id (amP a.od.rq.cls (a.od.rq.r T (W.B.getD a.me cu0).a)):Nat):Int))
 rw [if_pos rfl] at hlk
 have hbd:=issT_bd (x:=(a.me:Int)) (y:=((W.B.getD a.me cu0).a.rev:Int)) (z:=(tbody a.od.rq.cls (a.od.rq.r T (W.B.getD a.me cu0).a).2.2.id (amP a.od.rq.cls (a.od.rq.r T (W.B.getD a.me cu0).a)):Nat)) (d:=(a.od.d:Int)) hW.ook (by omega) (by omega)
 have hV:W.V T a.od = ⟨putW 900 (W.L.length * 14) (evW (saleV T (W.B.getD a.me cu0).a W.lp a.od.d a.od.rq)),issL W.lp (a.me:Int) ((W.B.getD a.me cu0).a.rev:Int) (tbody a.od.rq.cls (a.od.rq.r T (W.B.getD a.me cu0).a).2.2.id (amP a.od.rq.cls (a.od.rq.r T (W.B.getD a.me cu0).a)):Nat) (a.od.d:Int),a.me,(a.od.rq.r T (W.B.getD a.me cu0).a).2.2,dstr (tokD a.od.rq.cls (a.od.rq.r T (W.B.getD a.me cu0).a).2.2.id (amP a.od.rq.cls (a.od.rq.r T (W.B.getD a.me cu0).a)) (tagP W.lp a.me (W.B.getD a.me cu0).a.rev a.od.rq.cls a.od.d (a.od.rq.r T (W.B.getD a.me cu0).a))),0⟩:=by
  unfold Wd.V Od.V
  rw [if_neg hq,hom]
  unfold saleP
  rw [svP_ok hr]
  have hom2:a.od.rq.me = a.me:=hom
  rw [hom2]
  unfold saleV
  rw [hom2]
 have et:(doP T W a).2.b = (a.od.rq.r T (W.B.getD a.me cu0).a).2.2:=by rw [h.t,hV]
 have es:(doP T W a).2.s = dstr (tokD a.od.rq.cls (a.od.rq.r T (W.B.getD a.me cu0).a).2.2.id (amP a.od.rq.cls (a.od.rq.r T (W.B.getD a.me cu0).a)) (tagP W.lp a.me (W.B.getD a.me cu0).a.rev a.od.rq.cls a.od.d (a.od.rq.r T (W.B.getD a.me cu0).a))):=by rw [h.t,hV]
 have el:(doP T W a).1.lp = issL W.lp (a.me:Int) ((W.B.getD a.me cu0).a.rev:Int) (tbody a.od.rq.cls (a.od.rq.r T (W.B.getD a.me cu0).a).2.2.id (amP a.od.rq.cls (a.od.rq.r T (W.B.getD a.me cu0).a)):Nat) (a.od.d:Int):=by rw [h.w,hV]
 clear hV
 have hq2:=Ac.rq_q hk1 hk2
 have hq1:a.od.rq.q = 1 ↔ a.k = 3:=by
  unfold Ac.od Od.rq
  rcases (show a.k = 2 ∨ a.k = 3 ∨ a.k = 4 by omega) with h | h | h
  ·rw [if_neg (by omega),if_neg (by omega),if_neg (by omega)];simp [h]
  ·rw [if_neg (by omega),if_pos (by omega)];simp [h]
  ·rw [if_neg (by omega),if_neg (by omega),if_pos (by omega)];simp [h]
 rw [hid] at es el hlk htk hbd
 obtain ⟨t1,t2,t3,t4,t5⟩:=htk
 refine ⟨a.od.rq.cls,amP a.od.rq.cls (a.od.rq.r T (W.B.getD a.me cu0).a),tagP W.lp a.me (W.B.getD a.me cu0).a.rev a.od.rq.cls a.od.d (a.od.rq.r T (W.B.getD a.me cu0).a),⟨t1,t2,t3,t4,htg⟩,by rw [et,hid],es,?_,by rw [et];exact s1.1,by rw [et];exact s1.2,hao.1.h1.h2,fun g => ?_,fun g => ?_,fun g => ?_⟩
 ·rw [el,hlk]
  unfold tagP
  rw [hid]
  congr 1
  omega
 ·have q:=hq2.2 g
  obtain ⟨z1,z2,z3⟩:=s2 q
  rw [et]
  exact ⟨by unfold Rq.cls;rw [if_pos q],z1,z2,z3⟩
 ·have q:=hq1.2 g
  obtain ⟨z1,z2,z3⟩:=s3 q
  rw [et]
  exact ⟨by unfold Rq.cls;rw [if_neg (by omega)],z1,z2⟩
 ·have q1:a.od.rq.q ≠ 1:=fun q => by have:=hq1.1 q;omega
  have q2:a.od.rq.q ≠ 2:=fun q => by have:=hq2.1 q;omega
  obtain ⟨z1,z2,z3⟩:=s4 q1 q2
  rw [et]
  refine ⟨by unfold Rq.cls;rw [if_neg q2],z1,z2.trans ?_,z3⟩
  unfold Ac.od Od.rq
  rw [if_neg (by omega),if_neg (by omega),if_neg (by omega)]
theorem Tol.size {T:Tm} {W:Wd} {a:Ac} {cls am tag:Nat} (h:Tol T W a cls am tag):(doP T W a).2.s.size = 20:=by
 rw [h.s,dstr_size,tokD_len h.tk]
theorem Lived.toks {T:Tm} {sv:Bool} {S:List Sn} {tk:List Sd} {W:Wd} (h:Lived T sv S tk W) (hT:T.Ok) (hn:S.length ≤ 62):(∀ t ∈ tk,t.me ≤ 2 ∧ t.s.size ≤ 100) ∧ tk.length ≤ S.length:=by
 induction h with
 | nil => exact ⟨fun t ht => absurd ht (by simp),Nat.le_refl _⟩
 | step s h hs ih =>
  rename_i S tk W
  rw [List.length_append,List.length_singleton] at hn ⊢
  obtain ⟨h1,h2⟩:=ih (by omega)
  have hW:=(h.ok hT (by omega)).1
  unfold tkN
  by_cases g:(doP T W s.a).2.s.size = 0
  ·rw [if_pos g]
   exact ⟨h1,by omega⟩
  ·rw [if_neg g]
   refine ⟨fun t ht => ?_,by simp;omega⟩
   rcases List.mem_append.1 ht with ht | ht
   ·exact h1 t ht
   ·obtain rfl:t = _:=by simpa using ht
    have hd:=hds_of hs.ok g
    have hk:=hd.k1
    have h3:¬ S.length < 3:=fun q => by have:=hs.reg.2 q;omega
    rw [show min 3 S.length = 3 by omega] at hW
    obtain ⟨cls,am,tag,hto⟩:=hd.told hT hW (by omega) hs.ok
    exact ⟨hs.ok.me,by show (doP T W s.a).2.s.size ≤ 100;rw [hto.size];omega⟩
def Kb (w w':World):Prop:=w.heap.size ≤ w'.heap.size ∧ ∀ (k:Nat) (cs:Array Value) (t:TypeId),w.heap[k]? = some (Obj.cells cs t (0,0)) → ¬ NoWd t → w'.heap[k]? = w.heap[k]?
def Kw (T:Tm) (w w':World):Prop:=∀ (z:Wv) (U:Wd),z.Is w T U → z.Is w' T U
theorem Kw.refl (T:Tm) (w:World):Kw T w w:=fun _ _ h => h
theorem Kw.trans {T:Tm} {w w1 w2:World} (h:Kw T w w1) (k:Kw T w1 w2):Kw T w w2:=fun z U hz => k z U (h z U hz)
theorem Kw.below {T:Tm} {w w':World} (h:Below w.heap.size w w'):Kw T w w':=fun z U hz => hz.below h
theorem kb_row {w w':World} {b e s n:Nat} {v:Value} {xs:List Value} (h:w.ownsRow b e s v n xs) (hk:Kb w w') (he:¬ NoWd e):w'.ownsRow b e s v n xs:=by
 refine ⟨h.1,?_⟩
 rcases h.2 with h2 | ⟨g,cap,cur,rfl,hb,hg,hr⟩
 ·exact .inl h2
 ·exact .inr ⟨g,cap,cur,rfl,hb,(hk.2 g cur e hg he).trans hg,hr⟩
theorem Kb.kw {w w':World} (T:Tm) (h:Kb w w'):Kw T w w':=fun z U hz =>
 ⟨kb_row hz.t h (by unfold NoWd;decide),kb_row hz.d h (by unfold NoWd;decide),kb_row hz.o h (by unfold NoWd;decide),kb_row hz.p h (by unfold NoWd;decide),kb_row hz.p0 h (by unfold NoWd;decide),kb_row hz.p1 h (by unfold NoWd;decide),kb_row hz.p2 h (by unfold NoWd;decide)⟩
theorem Kb.refl (w:World):Kb w w:=⟨Nat.le_refl _,fun _ _ _ _ _ => rfl⟩
theorem Kb.drew {w w':World} (h:Kb w w'):Kb w w'.drew:=h
theorem Kb.grown {w w1 w2:World} {row:Option Nat} (h:Kb w w1) (hg:w1.grownBy w2 row) (hr:∀ (k:Nat) (cs:Array Value) (t:TypeId),row = some k → w.heap[k]? = some (Obj.cells cs t (0,0)) → NoWd t):Kb w w2:=by
 refine ⟨Nat.le_trans h.1 hg.size,fun k cs t hk ht => ?_⟩
 have hlt:k < w.heap.size:=(Array.getElem?_eq_some_iff.1 hk).1
 rw [hg.block k (Nat.lt_of_lt_of_le hlt h.1) (fun e => ht (hr k cs t e.symm hk))]
 exact h.2 k cs t hk ht
theorem Kb.alloc {w w':World} (h:Kb w w') (o:Obj):Kb w (w'.alloc o):=h.grown (World.grownBy_alloc w' o none) (by simp)
theorem Kb.set {w w':World} {p:Addr} (h:Kb w w') (hp:∀ (cs:Array Value) (t:TypeId),w.heap[p.block]? = some (Obj.cells cs t (0,0)) → NoWd t) (v:Value):Kb w (w'.setCell p v) :=
 h.grown (grown_setCell w' p v) (fun k cs t e hk => by injection e with e;subst e;exact hp cs t hk)
theorem now_blk {w:World} {g:Nat} {t:TypeId} {cs:Array Value} (h:Blk w g t cs) (ht:NoWd t):∀ (cs:Array Value) (t:TypeId),w.heap[g]? = some (Obj.cells cs t (0,0)) → NoWd t:=fun cs' t' h' => by
 have h2:w.heap[g]? = some (Obj.cells cs t (0,0)):=h
 rw [h2] at h'
 injection h' with e
 injection e with e1 e2
 subst e2
 exact ht
theorem now_ge {w:World} {g:Nat} (h:w.heap.size ≤ g):∀ (cs:Array Value) (t:TypeId),w.heap[g]? = some (Obj.cells cs t (0,0)) → NoWd t:=fun cs' t' h' => by
 have:=(Array.getElem?_eq_some_iff.1 h').1
 omega
def Chunk.noWd:Chunk → Prop
 | .blk _ t _ => NoWd t
 | .row _ e _ _ _ _ => NoWd e
 | .obj _ _ => False
theorem Mem.rebase {w0 w:World} {G:List Nat} {l:List Chunk} (H:Mem w0 G w l):Mem w (l.filterMap Chunk.num) w l :=
 ⟨⟨rfl,rfl,rfl,Nat.le_refl _,fun _ _ _ => rfl⟩,H.ok,H.pair,fun c hc k hk => .inr (List.mem_filterMap.2 ⟨c,hc,hk⟩)⟩
theorem Mem.unbase {w0 w w':World} {G:List Nat} {l l':List Chunk} (H:Mem w0 G w l) (K:Mem w (l.filterMap Chunk.num) w' l'):Mem w0 G w' l':=by
 have key:∀ k,k ∈ l.filterMap Chunk.num → w0.heap.size ≤ k ∨ k ∈ G:=fun k hk => by
  obtain ⟨c,hc,h⟩:=List.mem_filterMap.1 hk
  exact H.own c hc k h
 refine ⟨⟨K.keep.os.trans H.keep.os,K.keep.tape.trans H.keep.tape,K.keep.output.trans H.keep.output,Nat.le_trans H.keep.size K.keep.size,fun k hk hG => ?_⟩,K.ok,K.pair,fun c hc k hk => ?_⟩
 ·refine (K.keep.block k (Nat.lt_of_lt_of_le hk H.keep.size) (fun h => ?_)).trans (H.keep.block k hk hG)
  rcases key k h with h | h
  ·omega
  ·exact hG h
 ·rcases K.own c hc k hk with h | h
  ·exact .inl (Nat.le_trans H.keep.size h)
  ·exact key k h
theorem Mem.kb {w0 w w':World} {G:List Nat} {l l':List Chunk} (H:Mem w0 G w l) (hn:∀ c ∈ l,c.noWd) (K:Mem w (l.filterMap Chunk.num) w' l'):Kb w w':=by
 refine ⟨K.keep.size,fun k cs t hk ht => K.keep.block k (Array.getElem?_eq_some_iff.1 hk).1 (fun hm => ?_)⟩
 obtain ⟨c,hc,hcn⟩:=List.mem_filterMap.1 hm
 have hok:=H.ok c hc
 have hnw:=hn c hc
 cases c with
 | blk g t' cs' =>
  obtain rfl:g = k:=by simpa [Chunk.num] using hcn
  exact ht (now_blk (show Blk w g t' cs' from hok) hnw cs t hk)
 | row b e s v n xs =>
  rcases (show w.ownsRow b e s v n xs from hok).2 with h2 | ⟨g,cap,cur,rfl,_,hg,_⟩
  ·obtain ⟨rfl,_⟩:=h2
   simp [Chunk.num,Value.ownBlock] at hcn
  ·obtain rfl:g = k:=by simpa [Chunk.num,Value.ownBlock] using hcn
   exact ht (now_blk (show Blk w g e cur from hg) hnw cs t hk)
 | obj g o => exact hnw
theorem Mem.rebase2 {w0 w:World} {G:List Nat} {l:List Chunk} (H:Mem w0 G w l) (hn:∀ c ∈ l,c.noWd):∃ Gs,Mem w Gs w l ∧ (∀ w' l',Mem w Gs w' l' → Mem w0 G w' l' ∧ Kb w w'):=⟨_,H.rebase,fun w' l' K => ⟨H.unbase K,H.kb hn K⟩⟩
def tgtA (g bp:Nat) (a:Ac):Addr:=if a.k ≤ 5 then ⟨g,5,none⟩ else ⟨bp,a.me,none⟩
def RetAny (g bp:Nat) (x:Wv) (T:Tm) (W:Wd) (a:Ac) (w:World) (r:Ending) (w':World):Prop :=
 ∃ (Ao2:Option Addr) (co2:Nat) (Aw:Option Addr) (cw:Nat),r = .returned (.int .i64 ((arP T W a).E:Int)) ∧ Mem w [g] w' [.blk g 113 (stV (.slice x.At T.tl.length x.ct) (.int .i64 ↑T.fx) (.int .i64 ↑T.fb) (.int .i64 ↑T.db) (.int .i64 ↑T.al) (.slice x.Ad W.c.length x.cd) (.slice Ao2 (arP T W a).lp.length co2) (.slice x.Ap 3 x.cp) (.pointer (some (tgtA g bp a))) (.slice Aw (arP T W a).wl.length cw) ⟨0,(arP T W a).ad,(arP T W a).s,(arP T W a).b,false⟩)] ∧ IsWr w' (.slice Aw (arP T W a).wl.length cw) (arP T W a).wl ∧ w'.ownsRow 0 147 4 (.slice Ao2 (arP T W a).lp.length co2) (arP T W a).lp.length (prs (arP T W a).lp)
theorem iswr_slice {w:World} {v:Value} {l:List (Nat × Nat)} (h:IsWr w v l):∃ A c,v = .slice A l.length c:=by
 obtain ⟨A,c,e,_⟩:=h
 exact ⟨A,c,e⟩
def dFn (k:Nat):Nat:=if k = 1 then 121 else if k ≤ 4 then 132 else if k = 5 then 174 else if k = 6 then 176 else 218
theorem dfn_enter (k:Nat) (hk:1 ≤ k ∧ k ≤ 7):∀ args U,(callFunc (dFn k) args).run Tryz.prog U = .ok (.enter (dFn k) args) U:=by
 rcases (show k = 1 ∨ k = 2 ∨ k = 3 ∨ k = 4 ∨ k = 5 ∨ k = 6 ∨ k = 7 by omega) with rfl | rfl | rfl | rfl | rfl | rfl | rfl
 ·exact enters_of Tryz.func121 (by kernel_rfl) rfl
 ·exact enters_of Tryz.func132 (by kernel_rfl) rfl
 ·exact enters_of Tryz.func132 (by kernel_rfl) rfl
 ·exact enters_of Tryz.func132 (by kernel_rfl) rfl
 ·exact enters_of Tryz.func174 (by kernel_rfl) rfl
 ·exact enters_of Tryz.func176 (by kernel_rfl) rfl
 ·exact enters_of Tryz.func218 (by kernel_rfl) rfl
theorem dfn_method (k:Nat) (hk:1 ≤ k ∧ k ≤ 7):∀ (v:Value) (U:World),(method 486 (dTy k) v "vendmeter/world.do").run Tryz.prog U = .ok (dFn k,v) U:=by
 intro v U
 rcases (show k = 1 ∨ k = 2 ∨ k = 3 ∨ k = 4 ∨ k = 5 ∨ k = 6 ∨ k = 7 by omega) with rfl | rfl | rfl | rfl | rfl | rfl | rfl
 all_goals kernel_rfl
theorem dty_nil (k:Nat) (hk:1 ≤ k ∧ k ≤ 7):∀ (v:Value) (U:World),(binOp .eql 106 (.iface (dTy k) v) .nilIface).run Tryz.prog U = .ok (.bool false) U:=by
 intro v U
 rcases (show k = 1 ∨ k = 2 ∨ k = 3 ∨ k = 4 ∨ k = 5 ∨ k = 6 ∨ k = 7 by omega) with rfl | rfl | rfl | rfl | rfl | rfl | rfl
 all_goals kernel_rfl
theorem any_do (T:Tm) (hT:T.Ok) (W:Wd) (m n:Nat) (x:Wv) (g bp k me A B C:Nat) (s:ByteArray) (cut:Option Nat) (ci:Int) (w:World) (hW:W.Ok T m n) (ha:Ac.Ok ⟨k,me,A,B,C,s,cut⟩) (hn:n ≤ 62) (hm:May W ⟨k,me,A,B,C,s,cut⟩) (hx:x.Is w T W) (hp:x.Ap = some ⟨bp,0,none⟩) (hbp:bp ≠ g) (hB:Blk w g 113 (x.st T W (.pointer none) (.slice none 0 0) td00)) :
 Calls Tryz.prog (dFn k) #[.agg #[k,me,A,B,C,.string s,ci],.pointer (some ⟨g,0,none⟩)] w (RetAny g bp x T W ⟨k,me,A,B,C,s,cut⟩ w):=by
 have hcu:=hW.cus
 have hme:me ≤ 2:=ha.me
 have hk1:1 ≤ k ∧ k ≤ 7:=ha.kind
 have hXO:∀ w',w.grownBy w' (some g) → w'.ownsRow 0 147 4 (.slice x.Ao W.lp.length x.co) W.lp.length (prs W.lp):=fun w' hg => (hx.blk hB (by unfold NoWd;decide) hg).o
 unfold May at hm
 dsimp only at hm
 by_cases h1:k = 1
 ·subst h1
  rw [if_pos rfl] at hm
  obtain rfl:m = me:=by omega
  refine (reg_do T hT W m n x g 1 A B C s ci w hW hme hn hx hB).mono ?_
  rintro r w' ⟨Aw,cw,b,rfl,HM,hl⟩
  exact ⟨x.Ao,x.co,Aw,cw,rfl,HM.drop_ 1,iswr_own rfl hl (HM.own_ 1 rfl),hXO _ HM.grown⟩
 ·rw [if_neg h1] at hm
  obtain rfl:m = 3:=by omega
  by_cases h4:k ≤ 4
  ·have e1:dFn k = 132:=by unfold dFn;rw [if_neg h1,if_pos h4]
   have e2:arP T W ⟨k,me,A,B,C,s,cut⟩ = ⟨(askR T W (Ac.od ⟨k,me,A,B,C,s,none⟩)).wl,(askR T W (Ac.od ⟨k,me,A,B,C,s,none⟩)).E,0,(askR T W (Ac.od ⟨k,me,A,B,C,s,none⟩)).s,(askR T W (Ac.od ⟨k,me,A,B,C,s,none⟩)).b,(askR T W (Ac.od ⟨k,me,A,B,C,s,none⟩)).lp⟩:=by
    unfold arP
    rw [if_neg h1,if_pos (show k ≤ 5 by omega)]
    rfl
   have hlt:=(arP_ok hT hW ha hn (by unfold May;rw [if_neg h1];exact hm)).2.1
   have ha2:Ac.Ok ⟨k,me,A,B,C,s,none⟩:=⟨ha.me,ha.kind,ha.h2,ha.h3,ha.h4,ha.h5,ha.h7⟩
   rw [e1]
   unfold RetAny
   rw [e2] at hlt ⊢
   have e3:tgtA g bp ⟨k,me,A,B,C,s,cut⟩ = ⟨g,5,none⟩:=if_pos (show k ≤ 5 by omega)
   rw [e3]
   refine (sell_do T hT W n x g k me A B C s ci w hW (by omega) ha2 hn hx hB).mono ?_
   rintro r w' ⟨Ao2,co2,Aw,cw,b,rfl,HM,ho⟩
   exact ⟨Ao2,co2,Aw,cw,rfl,HM.drop_ 1,iswr_own rfl hlt (HM.own_ 1 rfl),ho⟩
  ·by_cases h5:k = 5
   ·subst h5
    obtain ⟨q1,q2,q3⟩:=ha.h5 rfl
    refine (chg_do T hT W n x g 5 me A B C s ci w hW hme hn ⟨q1,q2⟩ q3 hx hB).mono ?_
    rintro r w' ⟨Aw,cw,b,rfl,HM,hl⟩
    have e2:arP T W ⟨5,me,A,B,C,s,cut⟩ = ⟨(askR T W ⟨0,me,A,B,1,0,0⟩).wl,(askR T W ⟨0,me,A,B,1,0,0⟩).E,0,⟨#[]⟩,bil0,W.lp⟩:=by
     have e:(askR T W ⟨0,me,A,B,1,0,0⟩).lp = W.lp:=by
      unfold askR
      dsimp only
      split
      ·exact (Od.V_lp0 rfl).1
      ·rfl
     have e':arP T W ⟨5,me,A,B,C,s,cut⟩ = ⟨(askR T W ⟨0,me,A,B,1,0,0⟩).wl,(askR T W ⟨0,me,A,B,1,0,0⟩).E,0,⟨#[]⟩,bil0,(askR T W ⟨0,me,A,B,1,0,0⟩).lp⟩:=rfl
     rw [e',e]
    unfold RetAny
    rw [e2]
    exact ⟨x.Ao,x.co,Aw,cw,rfl,HM.drop_ 1,iswr_own rfl hl (HM.own_ 1 rfl),hXO _ HM.grown⟩
   ·by_cases h6:k = 6
    ·subst h6
     refine (key_do T W 3 n x g bp 6 me A B C s ci w hW hme hx hp hbp hB).mono ?_
     rintro r w' ⟨wv,rfl,HM,hw⟩
     obtain ⟨Aw,cw,rfl⟩:=iswr_slice hw
     exact ⟨x.Ao,x.co,Aw,cw,rfl,HM,hw,hXO _ HM.grown⟩
    ·obtain rfl:k = 7:=by omega
     refine (tick_do T W 3 n x g bp 7 me A B C s ci w hW hme (ha.h7 rfl) hx hp hbp hB).mono ?_
     rintro r w' ⟨wv,rfl,HM,hw⟩
     obtain ⟨Aw,cw,rfl⟩:=iswr_slice hw
     exact ⟨x.Ao,x.co,Aw,cw,rfl,HM,hw,hXO _ HM.grown⟩
theorem Mem.rowset {w0 w:World} {G:List Nat} {l:List Chunk} {g base:Nat} {e:TypeId} {size n cap:Nat} {xs:List Value} (i:Nat) (H:Mem w0 G w l) (hi:l[i]? = some (.row base e size (.slice (some ⟨g,0,none⟩) n cap) n xs)) (j:Nat) (u:Value) :
 Mem w0 G (w.setCell ⟨g,j,none⟩ u) (l.set i (.row base e size (.slice (some ⟨g,0,none⟩) n cap) n (xs.set j u))):=by
 have h:=(H.own_ i hi).stored j u
 exact H.turn hi (c':=.row base e size (.slice (some ⟨g,0,none⟩) n cap) n (xs.set j u)) h.2 h.1 (fun k hk => .inl hk)
def Wv.Far (x:Wv) (T:Tm) (W:Wd) (g:Nat):Prop:=some g ≠ (Value.slice x.At T.tl.length x.ct).ownBlock ∧ some g ≠ (Value.slice x.Ad W.c.length x.cd).ownBlock ∧ some g ≠ (Value.slice x.Ao W.lp.length x.co).ownBlock ∧ some g ≠ (Value.slice x.Ap 3 x.cp).ownBlock ∧ some g ≠ (Value.slice x.A0 12 x.c0).ownBlock ∧ some g ≠ (Value.slice x.A1 12 x.c1).ownBlock ∧ some g ≠ (Value.slice x.A2 12 x.c2).ownBlock
theorem Wv.Is.far {x:Wv} {w:World} {T:Tm} {W:Wd} (h:x.Is w T W) {g:Nat} {t:TypeId} {cs:Array Value} (hB:Blk w g t cs) (ht:NoWd t):x.Far T W g:=by
 obtain ⟨t1,t2,t3,t4⟩:=ht
 exact ⟨blk_not_row hB t1 h.t,blk_not_row hB t2 h.d,blk_not_row hB t3 h.o,blk_not_row hB t4 h.p,blk_not_row hB t2 h.p0,blk_not_row hB t2 h.p1,blk_not_row hB t2 h.p2⟩
theorem Wv.Is.setc {x:Wv} {w:World} {T:Tm} {W:Wd} (h:x.Is w T W) {g:Nat} (f:x.Far T W g) (o:Nat) (v:Value):x.Is (w.setCell ⟨g,o,none⟩ v) T W:=by
 obtain ⟨f1,f2,f3,f4,f5,f6,f7⟩:=f
 exact ⟨own_other h.t f1 v,own_other h.d f2 v,own_other h.o f3 v,own_other h.p f4 v,own_other h.p0 f5 v,own_other h.p1 f6 v,own_other h.p2 f7 v⟩
theorem Wv.Is.drew {x:Wv} {w:World} {T:Tm} {W:Wd} (h:x.Is w T W):x.Is w.drew T W:=h.below (below_draws (Below.refl _ _) 1)
theorem fin_srv {T:Tm} {W:Wd} {a:Ac} {y:Wv} {w:World} {Ad Ao:Option Addr} {cd co E ad:Nat} {wl:List (Nat × Nat)} {ds:ByteArray} {bb:Bil} {lq:List Pr} {c:List Nat} (h:y.Is w T W) (ho:w.ownsRow 0 147 4 (.slice Ao lq.length co) lq.length (prs lq)) (hd:w.ownsRow 0 143 1 (.slice Ad c.length cd) c.length (ws c)) (h5:a.k ≤ 5) (hY:arP T W a = ⟨wl,E,ad,ds,bb,lq⟩) (hc:c = applyW W.c (wl.take (cutK a.cut wl.length))) :
 (doP T W a).1.c = c ∧ (doP T W a).1.lp = lq ∧ Wv.Is ⟨y.At,y.ct,Ad,cd,Ao,co,y.Ap,y.cp,y.A0,y.c0,y.A1,y.c1,y.A2,y.c2⟩ w T (doP T W a).1:=by
 obtain ⟨e1,e2,e3⟩:=doP_srv (T:=T) (W:=W) (a:=a) h5
 rw [hY] at e1 e2
 dsimp only at e1 e2
 rw [← hc] at e1
 exact ⟨e1,e2,h.t,by rw [e1];exact hd,by rw [e2];exact ho,h.p,by rw [e3];exact h.p0,by rw [e3];exact h.p1,by rw [e3];exact h.p2⟩
theorem fin_poc {T:Tm} {W:Wd} {m n:Nat} {a:Ac} {y:Wv} {w w':World} {A Ao:Option Addr} {bp c co E ad:Nat} {wl:List (Nat × Nat)} {ds:ByteArray} {bb:Bil} {lq:List Pr} {C:List Nat} (hW:W.Ok T m n) (ha:a.me ≤ 2) (h:y.Is w T W) (hb:y.Ap = some ⟨bp,0,none⟩) (ho:w.ownsRow 0 147 4 (.slice Ao lq.length co) lq.length (prs lq)) (hw:w.ownsRow 0 143 1 (.slice A 12 c) 12 (ws C)) (h5:¬ a.k ≤ 5) (hY:arP T W a = ⟨wl,E,ad,ds,bb,lq⟩) (hC:C = applyW (W.P.getD a.me pk0).C (wl.take (cutK a.cut wl.length))) (hw':w' = w.setCell ⟨bp,a.me,none⟩ (.slice A 12 c)) :
 (doP T W a).1.c = W.c ∧ (doP T W a).1.lp = lq ∧ ∃ B0 d0 B1 d1 B2 d2,Wv.Is ⟨y.At,y.ct,y.Ad,y.cd,Ao,co,y.Ap,y.cp,B0,d0,B1,d1,B2,d2⟩ w' T (doP T W a).1:=by
 obtain ⟨e1,e2,e0,e3⟩:=doP_poc (T:=T) hW ha h5
 rw [hY] at e0 e3
 dsimp only at e0 e3
 rw [← hC] at e3
 rw [← e0] at e2
 have hp:=h.p
 rw [hb] at hp
 obtain ⟨hs,hg⟩:=hp.stored a.me (.slice A 12 c)
 rw [← hw'] at hs hg
 have hk:∀ {e s k:Nat} {v:Value} {xs:List Value},e ≠ 32 → w.ownsRow 0 e s v k xs → w'.ownsRow 0 e s v k xs:=fun hne hr => hr.kept hg (own_ne_type hr hp hne)
 refine ⟨e1,e2,?_⟩
 rw [← hb] at hs
 have f0:=e3 0
 have f1:=e3 1
 have f2:=e3 2
 rcases (show a.me = 0 ∨ a.me = 1 ∨ a.me = 2 by omega) with q | q | q
 all_goals
  rw [q] at hs f0 f1 f2
  simp only [if_true,if_false,show (1:Nat) ≠ 0 by decide,show (2:Nat) ≠ 0 by decide,show (0:Nat) ≠ 1 by decide,show (2:Nat) ≠ 1 by decide,show (0:Nat) ≠ 2 by decide,show (1:Nat) ≠ 2 by decide] at f0 f1 f2
 ·exact ⟨A,c,y.A1,y.c1,y.A2,y.c2,hk (by decide) h.t,by rw [e1];exact hk (by decide) h.d,by rw [e2];exact hk (by decide) ho,hs,by rw [f0];exact hk (by decide) hw,by rw [f1];exact hk (by decide) h.p1,by rw [f2];exact hk (by decide) h.p2⟩
 ·exact ⟨y.A0,y.c0,A,c,y.A2,y.c2,hk (by decide) h.t,by rw [e1];exact hk (by decide) h.d,by rw [e2];exact hk (by decide) ho,hs,by rw [f0];exact hk (by decide) h.p0,by rw [f1];exact hk (by decide) hw,by rw [f2];exact hk (by decide) h.p2⟩
 ·exact ⟨y.A0,y.c0,y.A1,y.c1,A,c,hk (by decide) h.t,by rw [e1];exact hk (by decide) h.d,by rw [e2];exact hk (by decide) ho,hs,by rw [f0];exact hk (by decide) h.p0,by rw [f1];exact hk (by decide) h.p1,by rw [f2];exact hk (by decide) hw⟩
theorem fin_none {T:Tm} {W:Wd} {m n:Nat} {a:Ac} {y:Wv} {w:World} {Ao:Option Addr} {co E ad:Nat} {wl:List (Nat × Nat)} {ds:ByteArray} {bb:Bil} {lq:List Pr} (hW:W.Ok T m n) (ha:a.me ≤ 2) (h:y.Is w T W) (ho:w.ownsRow 0 147 4 (.slice Ao lq.length co) lq.length (prs lq)) (hY:arP T W a = ⟨wl,E,ad,ds,bb,lq⟩) (hwl:wl = []) :
 (doP T W a).1.c = W.c ∧ (doP T W a).1.lp = lq ∧ Wv.Is ⟨y.At,y.ct,y.Ad,y.cd,Ao,co,y.Ap,y.cp,y.A0,y.c0,y.A1,y.c1,y.A2,y.c2⟩ w T (doP T W a).1:=by
 subst hwl
 by_cases h5:a.k ≤ 5
 ·exact fin_srv h ho h.d h5 hY (by simp [applyW])
 ·obtain ⟨e1,e2,e0,e3⟩:=doP_poc (T:=T) hW ha h5
  rw [hY] at e0 e3
  dsimp only at e0 e3
  rw [← e0] at e2
  have f:∀ j,((doP T W a).1.P.getD j pk0).C = (W.P.getD j pk0).C:=fun j => by
   rw [e3 j]
   split
   ·rename_i e;rw [e];simp [applyW]
   ·rfl
  exact ⟨e1,e2,h.t,by rw [e1];exact h.d,by rw [e2];exact ho,h.p,by rw [f];exact h.p0,by rw [f];exact h.p1,by rw [f];exact h.p2⟩
def Wd.pl (W:Wd):List (List Nat):=[(W.P.getD 0 pk0).C,(W.P.getD 1 pk0).C,(W.P.getD 2 pk0).C]
theorem Wv.Is.rr {x:Wv} {w:World} {T:Tm} {W:Wd} {m n:Nat} (h:x.Is w T W) (hW:W.Ok T m n):IsRr w (.slice x.Ap 3 x.cp) W.pl:=by
 have hc:=own_cap h.p
 refine ⟨x.Ap,x.cp,[.slice x.A0 12 x.c0,.slice x.A1 12 x.c1,.slice x.A2 12 x.c2],rfl,hc.1,hc.2,Rd.of_own h.p,rfl,fun i hi => ?_⟩
 have hi:i < 3:=hi
 rcases (show i = 0 ∨ i = 1 ∨ i = 2 by omega) with rfl | rfl | rfl
 ·exact ⟨_,rfl,(h.pocket hW 0 (by omega)).2⟩
 ·exact ⟨_,rfl,(h.pocket hW 1 (by omega)).2⟩
 ·exact ⟨_,rfl,(h.pocket hW 2 (by omega)).2⟩
theorem wv_of {w:World} {T:Tm} {W:Wd} {m n b:Nat} {At Ad Ao Ap:Option Addr} {ct cd co cp:Nat} {vs:List Value} (hW:W.Ok T m n) (h1:w.ownsRow 0 209 2 (.slice At T.tl.length ct) T.tl.length (drs T.tl)) (h2:w.ownsRow 0 143 1 (.slice Ad W.c.length cd) W.c.length (ws W.c)) (h3:w.ownsRow 0 147 4 (.slice Ao W.lp.length co) W.lp.length (prs W.lp)) (h4:w.ownsRow b 32 1 (.slice Ap 3 cp) 3 vs) (h5:IsRo w 143 vs W.pl) :
 ∃ (A0:Option Addr) (c0:Nat) (A1:Option Addr) (c1:Nat) (A2:Option Addr) (c2:Nat),vs = [.slice A0 12 c0,.slice A1 12 c1,.slice A2 12 c2] ∧ Wv.Is ⟨At,ct,Ad,cd,Ao,co,Ap,cp,A0,c0,A1,c1,A2,c2⟩ w T W:=by
 obtain ⟨hl,h⟩:=h5
 match vs,hl,h4,h with
 | [v0,v1,v2],_,h4,h =>
  obtain ⟨u0,e0,q0,_⟩:=h 0 (show 0 < 3 by omega)
  obtain ⟨u1,e1,q1,_⟩:=h 1 (show 1 < 3 by omega)
  obtain ⟨u2,e2,q2,_⟩:=h 2 (show 2 < 3 by omega)
  injection e0 with e0
  injection e1 with e1
  injection e2 with e2
  subst e0 e1 e2
  have l0:=(hW.pok 0 (by omega)).len
  have l1:=(hW.pok 1 (by omega)).len
  have l2:=(hW.pok 2 (by omega)).len
  change w.ownsRow 0 143 1 _ (W.P.getD 0 pk0).C.length (ws (W.P.getD 0 pk0).C) at q0
  change w.ownsRow 0 143 1 _ (W.P.getD 1 pk0).C.length (ws (W.P.getD 1 pk0).C) at q1
  change w.ownsRow 0 143 1 _ (W.P.getD 2 pk0).C.length (ws (W.P.getD 2 pk0).C) at q2
  rw [l0] at q0
  rw [l1] at q1
  rw [l2] at q2
  obtain ⟨A0,c0,rfl⟩:=own_slice q0
  obtain ⟨A1,c1,rfl⟩:=own_slice q1
  obtain ⟨A2,c2,rfl⟩:=own_slice q2
  exact ⟨A0,c0,A1,c1,A2,c2,rfl,h1,h2,h3,own_mono h4 (Nat.zero_le _),q0,q1,q2⟩
structure StQ (y:Wv) (T:Tm) (W:Wd) (lq:List Pr) (wl:List (Nat × Nat)) (Ao:Option Addr) (co:Nat) (Aw:Option Addr) (cw:Nat) (w:World):Prop where
 wr:IsWr w (.slice Aw wl.length cw) wl
 y:y.Is w T W
 o:w.ownsRow 0 147 4 (.slice Ao lq.length co) lq.length (prs lq)
theorem StQ.kept {y:Wv} {T:Tm} {W:Wd} {lq:List Pr} {wl:List (Nat × Nat)} {Ao Aw:Option Addr} {co cw g:Nat} {cs:Array Value} {w w':World} (h:StQ y T W lq wl Ao co Aw cw w) (hB:Blk w g 113 cs) (hne:∀ x ∈ cs.toList,∀ n,x ≠ .int .u32 n) (hg:w.grownBy w' (some g)):StQ y T W lq wl Ao co Aw cw w' :=
 ⟨iswr_grown h.wr hB hne hg,h.y.blk hB (by unfold NoWd;decide) hg,h.o.kept hg (.inr (fun e => blk_not_row hB (by decide) h.o e.symm))⟩
def RetDo (T:Tm) (W:Wd) (a:Ac) (w:World) (e:Ending) (w':World):Prop :=
 ∃ y:Wv,e = .returned (.tuple #[.agg (y.vs T (doP T W a).1).toArray,.agg (doP T W a).2.vs.toArray,()]) ∧ y.Is w' T (doP T W a).1 ∧ Below w.heap.size w w'
theorem do_ok (T:Tm) (hT:T.Ok) (W:Wd) (m n:Nat) (x:Wv) (a:Ac) (w:World) (hW:W.Ok T m n) (ha:a.Ok) (hn:n ≤ 62) (hm:May W a) (hx:x.Is w T W) (h8:T.tl.length ≤ 8) :
 Calls Tryz.prog 15 #[.agg (x.vs T W).toArray,.agg a.vs.toArray] w (RetDo T W a w):=by
 have hpl:∀ c ∈ W.pl,c.length ≤ 2048:=by
  have l0:=(hW.pok 0 (by omega)).len
  have l1:=(hW.pok 1 (by omega)).len
  have l2:=(hW.pok 2 (by omega)).len
  intro c hc
  unfold Wd.pl at hc
  simp only [List.mem_cons,List.not_mem_nil,or_false] at hc
  rcases hc with rfl | rfl | rfl <;> omega
 obtain ⟨k,me,A,B,C,s,cut⟩:=a
 obtain ⟨ci,hci⟩:∃ ci,cutI cut = ci:=⟨_,rfl⟩
 have hci1:¬ ci < -1:=by rw [← hci];unfold cutI;split <;> omega
 have hci2:decide (ci < -1) = false:=decide_eq_false hci1
 have hD:=fun U => doer_ok k me A B C s ci U ha.kind
 unfold Wv.vs Ac.vs
 dsimp only
 rw [hci]
 have hMe:=dfn_method k ha.kind
 have hEn:=dfn_enter k ha.kind
 have hnil:=dty_nil k ha.kind
 obtain ⟨ar1,ar2,ar3,ar4⟩:=arP_ok hT hW ha hn hm
 have hTd:=doP_td T W ⟨k,me,A,B,C,s,cut⟩
 have hAny:=fun (x:Wv) (g bp:Nat) U h1 h2 h3 h4 => any_do T hT W m n x g bp k me A B C s cut ci U hW ha hn hm h1 h2 h3 h4
 obtain ⟨ty,hty⟩:∃ t,dTy k = t:=⟨_,rfl⟩
 obtain ⟨fn,hfn⟩:∃ t,dFn k = t:=⟨_,rfl⟩
 rw [hty] at hD hMe hnil
 rw [hfn] at hMe hEn hAny
 unfold RetAny at hAny
 obtain ⟨⟨wl,E,ad,ds,bb,lq⟩,hY⟩:∃ Y,arP T W ⟨k,me,A,B,C,s,cut⟩ = Y:=⟨_,rfl⟩
 rw [hY] at hAny ar1 ar2 ar3 ar4 hTd
 dsimp only at hAny ar1 ar2 ar3 ar4 hTd
 have hC:=cln_ok T W.c W.lp W.pl x.At x.ct x.Ad x.cd x.Ao x.co x.Ap x.cp
 unfold RetCln at hC
 rw [show W.pl.length = 3 from rfl] at hC
 have H:=Mem.init w
 replace H:=H.al w.heap.size #[.slice x.At T.tl.length x.ct,T.fx,T.fb,T.db,T.al,.slice x.Ad W.c.length x.cd,.slice x.Ao W.lp.length x.co,.slice x.Ap 3 x.cp] (38) |>.al (w.heap.size + 1) #[k,me,A,B,C,.string s,ci] (44) |>.al (w.heap.size + 1 + 1) #[.slice none 0 0,(),(),(),(),.slice none 0 0,.slice none 0 0,.slice none 0 0] (38) |>.al (w.heap.size + 1 + 1 + 1) #[(),(),.string ⟨#[]⟩,(),(),(),(),(),(),(),.bool false] (49) |>.gen
 simp only [List.nil_append,List.cons_append] at H
 obtain ⟨W0,hW0,H⟩:=H
 have Lwb:=H.c8 0 rfl
 have Lab:=H.c7 1 rfl
 have Nwbab:=H.ne2 0 1 rfl rfl rfl
 go_enter Tryz.func15,Tryz.ntmps15
 go_wp2_with fail
 clear hW0
 refine (hD _).mono ?_
 rintro e wa ⟨rfl,hb⟩
 replace H:=Mem.call H hb
 clear Lwb Lab Nwbab
 have Lwb:=H.c8 0 rfl
 have Lab:=H.c7 1 rfl
 have Nwbab:=H.ne2 0 1 rfl rfl rfl
 clear hD hb
 go_wp2_with fail
 refine (hC _ (hx.terms.below H.below) ((hx.disk hW).below H.below) ((hx.pairs hW).below H.below) ((hx.rr hW).below H.below) h8 (by have:=hW.len;omega) (by have:=hW.lpl;omega) (show 3 ≤ 50 by omega) hpl).mono ?_
 rintro e wn ⟨At,ct,Ad,cd,Ao,co,Ap,cp,vs,rfl,o1,o2,o3,o4,o5,hb⟩
 obtain ⟨A0,c0,A1,c1,A2,c2,rfl,hy⟩:=wv_of hW o1 o2 o3 o4 o5
 obtain ⟨bp,rfl⟩:∃ bp,Ap = some ⟨bp,0,none⟩:=by
  rcases o4.2 with ⟨h,_⟩ | ⟨g,cap,cur,h,_⟩
  ·injection h with h1 h2;omega
  ·injection h with h1 h2;exact ⟨g,h1⟩
 replace H:Mem (w) [] (wn) [.blk (w.heap.size) 38 #[.slice x.At T.tl.length x.ct,T.fx,T.fb,T.db,T.al,.slice x.Ad W.c.length x.cd,.slice x.Ao W.lp.length x.co,.slice x.Ap 3 x.cp],.blk (w.heap.size + 1) 44 #[k,me,A,B,C,.string s,ci],.blk (w.heap.size + 1 + 1) 38 #[.slice none 0 0,(),(),(),(),.slice none 0 0,.slice none 0 0,.slice none 0 0],.blk (w.heap.size + 1 + 1 + 1) 49 #[(),(),.string ⟨#[]⟩,(),(),(),(),(),(),(),.bool false],.row (wa.heap.size) (32) (1) (.slice (some ⟨bp,0,none⟩) 3 cp) (3) ([.slice A0 12 c0,.slice A1 12 c1,.slice A2 12 c2])]:=Mem.row H hb o4 (Nat.le_refl _)
 have hbpl:=(o4.lt bp rfl).2
 clear o1 o2 o3 o4 o5 hb hC hx hpl
 clear Lwb Lab Nwbab
 have Lab:=H.c7 1 rfl
 go_wp2_with fail
 have hyS:=hy.below (below_a1 wn (.cells #[.slice At T.tl.length ct,T.fx,T.fb,T.db,T.al,.slice Ad W.c.length cd,.slice Ao W.lp.length co,.slice (some ⟨bp,0,none⟩) 3 cp,.pointer none,.slice none 0 0,(),(),.string ⟨#[]⟩,(),(),(),(),(),(),(),.bool false] 113))
 replace H:=H.al wn.heap.size #[.slice At T.tl.length ct,T.fx,T.fb,T.db,T.al,.slice Ad W.c.length cd,.slice Ao W.lp.length co,.slice (some ⟨bp,0,none⟩) 3 cp,.pointer none,.slice none 0 0,(),(),.string ⟨#[]⟩,(),(),(),(),(),(),(),.bool false] (113) |>.gen
 simp only [List.cons_append,List.nil_append] at H
 obtain ⟨wS,hwS,H⟩:=H
 rw [hwS]
 rw [hwS] at hyS
 clear hwS hy
 have hbg:bp ≠ wn.heap.size:=by omega
 refine (hAny _ wn.heap.size bp wS hyS rfl hbg (H.blk 5 rfl)).mono ?_
 rintro r wd ⟨Ao2,co2,Aw,cw,rfl,K,hwr,hop⟩
 have hQ0:StQ _ T W lq wl Ao2 co2 Aw cw wd:=⟨hwr,hyS.blk (H.blk 5 rfl) (by unfold NoWd;decide) K.grown,hop⟩
 obtain ⟨pt,hpt⟩:∃ pt,tgtA wn.heap.size bp ⟨k,me,A,B,C,s,cut⟩ = pt:=⟨_,rfl⟩
 rw [hpt] at K
 unfold stV at K
 dsimp only at K
 replace H:Mem (w) [] (wd) [.blk (w.heap.size) 38 #[.slice x.At T.tl.length x.ct,T.fx,T.fb,T.db,T.al,.slice x.Ad W.c.length x.cd,.slice x.Ao W.lp.length x.co,.slice x.Ap 3 x.cp],.blk (w.heap.size + 1) 44 #[k,me,A,B,C,.string s,ci],.blk (w.heap.size + 1 + 1) 38 #[.slice none 0 0,(),(),(),(),.slice none 0 0,.slice none 0 0,.slice none 0 0],.blk (w.heap.size + 1 + 1 + 1) 49 #[(),(),.string ⟨#[]⟩,(),(),(),(),(),(),(),.bool false],.row (wa.heap.size) (32) (1) (.slice (some ⟨bp,0,none⟩) 3 cp) (3) ([.slice A0 12 c0,.slice A1 12 c1,.slice A2 12 c2]),.blk (wn.heap.size) 113 #[.slice At T.tl.length ct,T.fx,T.fb,T.db,T.al,.slice Ad W.c.length cd,.slice Ao2 lq.length co2,.slice (some ⟨bp,0,none⟩) 3 cp,.pointer (some pt),.slice Aw wl.length cw,(),ad,.string ds,bb.id,bb.te,bb.de,bb.fe,bb.pr,bb.ch,bb.un,.bool false]]:=Mem.joinAt 5 H rfl K
 clear K hwr hop hAny hyS
 clear Lab
 have Lab:=H.c7 1 rfl
 have Lsg:=H.c21 5 rfl
 have Nabsg:=H.ne2 1 5 rfl rfl rfl
 go_upto_if 47 with fail
 have HB0:=H.blk 5 rfl
 replace H:=H.set 5 rfl 10 E |>.gen
 simp only [List.set_cons_zero,List.set_cons_succ,List.setIfInBounds_toArray] at H
 obtain ⟨we,hwe,H⟩:=H
 rw [hwe]
 have hQ:=hQ0.kept (w':=we) HB0 (by simp) (by rw [← hwe];exact grown_setCell _ ⟨wn.heap.size,10,none⟩ _)
 clear hQ0 hwe
 clear hMe hEn hnil
 go_cut [9] (fun k9 wx => k9 = .int .i64 ((cutK cut wl.length:Nat):Int) ∧ StQ ⟨At,ct,Ad,cd,Ao,co,some ⟨bp,0,none⟩,cp,A0,c0,A1,c1,A2,c2⟩ T W lq wl Ao2 co2 Aw cw wx ∧ Mem w [] wx [.blk (w.heap.size) 38 #[.slice x.At T.tl.length x.ct,T.fx,T.fb,T.db,T.al,.slice x.Ad W.c.length x.cd,.slice x.Ao W.lp.length x.co,.slice x.Ap 3 x.cp],.blk (w.heap.size + 1) 44 #[k,me,A,B,C,.string s,ci],.blk (w.heap.size + 1 + 1) 38 #[.slice none 0 0,(),(),(),(),.slice none 0 0,.slice none 0 0,.slice none 0 0],.blk (w.heap.size + 1 + 1 + 1) 49 #[(),(),.string ⟨#[]⟩,(),(),(),(),(),(),(),.bool false],.row (wa.heap.size) (32) (1) (.slice (some ⟨bp,0,none⟩) 3 cp) (3) ([.slice A0 12 c0,.slice A1 12 c1,.slice A2 12 c2]),.blk (wn.heap.size) 113 #[.slice At T.tl.length ct,T.fx,T.fb,T.db,T.al,.slice Ad W.c.length cd,.slice Ao2 lq.length co2,.slice (some ⟨bp,0,none⟩) 3 cp,.pointer (some pt),.slice Aw wl.length cw,.int .i64 ((tdC cut E ad ds bb).E:Int),.int .i64 ((tdC cut E ad ds bb).ad:Int),.string (tdC cut E ad ds bb).s,.int .i64 ((tdC cut E ad ds bb).b.id:Int),.int .i64 ((tdC cut E ad ds bb).b.te:Int),.int .i64 ((tdC cut E ad ds bb).b.de:Int),.int .i64 ((tdC cut E ad ds bb).b.fe:Int),.int .i64 ((tdC cut E ad ds bb).b.pr:Int),.int .i64 ((tdC cut E ad ds bb).b.ch:Int),.int .i64 ((tdC cut E ad ds bb).b.un:Int),.bool (tdC cut E ad ds bb).dead]])
 case first =>
  clear Lab Lsg Nabsg
  have Lab:=H.c7 1 rfl
  have Lsg:=H.c21 5 rfl
  have Nabsg:=H.ne2 1 5 rfl rfl rfl
  rcases cut with _ | kk
  ·obtain rfl:ci = -1:=hci.symm
   go_wp2
   go_meet
   case rel => exact ⟨rfl,hQ,H⟩
  ·skip
   obtain rfl:ci = (kk:Int):=hci.symm
   have g1:(0:Int) ≤ (kk:Int):=by omega
   have hmin:min (wl.length:Int) (kk:Int) = ((min wl.length kk:Nat):Int):=by omega
   have HB1:=H.blk 5 rfl
   go_wp2
   replace H:=H.set 5 rfl 10 () |>.set 5 rfl 11 () |>.set 5 rfl 12 (.string ⟨#[]⟩) |>.set 5 rfl 13 () |>.set 5 rfl 14 () |>.set 5 rfl 15 () |>.set 5 rfl 16 () |>.set 5 rfl 17 () |>.set 5 rfl 18 () |>.set 5 rfl 19 () |>.set 5 rfl 20 (.bool true) |>.gen
   simp only [List.set_cons_zero,List.set_cons_succ,List.setIfInBounds_toArray] at H
   obtain ⟨wf,hwf,H⟩:=H
   rw [hwf]
   have hQ3:=hQ.kept (w':=wf) HB1 (by simp) (by rw [← hwf];exact grownBy_sets [(10,.int .i64 0),(11,.int .i64 0),(12,.string ⟨#[]⟩),(13,.int .i64 0),(14,.int .i64 0),(15,.int .i64 0),(16,.int .i64 0),(17,.int .i64 0),(18,.int .i64 0),(19,.int .i64 0),(20,.bool true)] we (b:=wn.heap.size))
   clear hwf
   go_meet
   case rel => exact ⟨rfl,hQ3,H⟩
 case rest =>
  obtain ⟨rfl,hQ2,HM⟩:=hcut
  clear hQ H HB0
  obtain ⟨⟨tE,tad,ts,tb,tdd⟩,htd⟩:∃ t,tdC cut E ad ds bb = t:=⟨_,rfl⟩
  obtain ⟨kk,hkk⟩:∃ q,cutK cut wl.length = q:=⟨_,rfl⟩
  have hkl:kk ≤ wl.length:=by rw [← hkk];exact cutK_le _ _
  rw [htd] at HM hTd
  rw [hkk]
  dsimp only at HM
  have H:Mem (w) [] (wc) [.blk (w.heap.size) 38 #[.slice x.At T.tl.length x.ct,T.fx,T.fb,T.db,T.al,.slice x.Ad W.c.length x.cd,.slice x.Ao W.lp.length x.co,.slice x.Ap 3 x.cp],.blk (w.heap.size + 1) 44 #[k,me,A,B,C,.string s,ci],.blk (w.heap.size + 1 + 1) 38 #[.slice none 0 0,(),(),(),(),.slice none 0 0,.slice none 0 0,.slice none 0 0],.blk (w.heap.size + 1 + 1 + 1) 49 #[(),(),.string ⟨#[]⟩,(),(),(),(),(),(),(),.bool false],.row (wa.heap.size) (32) (1) (.slice (some ⟨bp,0,none⟩) 3 cp) (3) ([.slice A0 12 c0,.slice A1 12 c1,.slice A2 12 c2]),.blk (wn.heap.size) 113 #[.slice At T.tl.length ct,T.fx,T.fb,T.db,T.al,.slice Ad W.c.length cd,.slice Ao2 lq.length co2,.slice (some ⟨bp,0,none⟩) 3 cp,.pointer (some pt),.slice Aw wl.length cw,tE,tad,.string ts,tb.id,tb.te,tb.de,tb.fe,tb.pr,tb.ch,tb.un,.bool tdd]]:=HM
  clear HM htd
  obtain ⟨w1,hw1⟩:∃ w1,w1 = wc:=⟨_,rfl⟩
  subst hw1
  clear Lab Lsg Nabsg
  obtain ⟨sglt,sg0,-,sg1,-,sg2,-,sg3,-,sg4,-,sg5,-,sg6,-,sg7,-,sg8,-,sg9,-,sg10,-,sg11,-,sg12,-,sg13,-,sg14,-,sg15,-,sg16,-,sg17,-,sg18,-,sg19,-,sg20,-⟩:=H.c21 5 rfl
  by_cases hwl:wl.length = 0
  ·have hwl2:wl = []:=List.eq_nil_of_length_eq_zero hwl
   have hwn:((wl.length:Nat):Int) = 0:=by omega
   have hwn2:¬ (0:Int) < (wl.length:Int):=by omega
   have hwn3:decide (0 < wl.length) = false:=decide_eq_false (by omega)
   obtain ⟨e1,e2,hz⟩:=fin_none (a:=⟨k,me,A,B,C,s,cut⟩) hW ha.me hQ2.y hQ2.o hY hwl2
   clear hQ2 hwl2 hwn
   clear sglt sg0 sg1 sg2 sg3 sg4 sg5 sg6 sg7 sg8 sg9 sg10 sg11 sg12 sg13 sg14 sg15 sg16 sg17 sg18 sg19 sg20
   have Lrw:=H.c8 2 rfl
   have Lrt:=H.c11 3 rfl
   have Lsg:=H.c21 5 rfl
   have Nrwrt:=H.ne2 2 3 rfl rfl rfl
   have Nrwsg:=H.ne2 2 5 rfl rfl rfl
   have Nrtsg:=H.ne2 3 5 rfl rfl rfl
   have f1:=hz.far (H.blk 2 rfl) (by unfold NoWd;decide)
   have f2:=hz.far (H.blk 3 rfl) (by unfold NoWd;decide)
   go_upto_region 16 with fail
   go_region
   replace H:=H.set 2 rfl 0 (.slice At T.tl.length ct) |>.set 2 rfl 1 T.fx |>.set 2 rfl 2 T.fb |>.set 2 rfl 3 T.db |>.set 2 rfl 4 T.al |>.set 2 rfl 5 (.slice Ad W.c.length cd) |>.set 2 rfl 6 (.slice Ao2 lq.length co2) |>.set 2 rfl 7 (.slice (some ⟨bp,0,none⟩) 3 cp) |>.gen
   simp only [List.set_cons_zero,List.set_cons_succ,List.setIfInBounds_toArray] at H
   obtain ⟨wy,hwy,H⟩:=H
   rw [hwy]
   replace H:=H.set 3 rfl 0 tE |>.set 3 rfl 1 tad |>.set 3 rfl 2 (.string ts) |>.set 3 rfl 3 tb.id |>.set 3 rfl 4 tb.te |>.set 3 rfl 5 tb.de |>.set 3 rfl 6 tb.fe |>.set 3 rfl 7 tb.pr |>.set 3 rfl 8 tb.ch |>.set 3 rfl 9 tb.un |>.set 3 rfl 10 (.bool tdd) |>.drew |>.gen
   simp only [List.set_cons_zero,List.set_cons_succ,List.setIfInBounds_toArray] at H
   obtain ⟨wz,hwz,H⟩:=H
   rw [hwz]
   have hZ3:Wv.Is ⟨At,ct,Ad,cd,Ao2,co2,some ⟨bp,0,none⟩,cp,A0,c0,A1,c1,A2,c2⟩ wz T (doP T W ⟨k,me,A,B,C,s,cut⟩).1:=by rw [← hwz,← hwy];exact (((((((((((((((((((hz.setc f1 0 _).setc f1 1 _).setc f1 2 _).setc f1 3 _).setc f1 4 _).setc f1 5 _).setc f1 6 _).setc f1 7 _).setc f2 0 _).setc f2 1 _).setc f2 2 _).setc f2 3 _).setc f2 4 _).setc f2 5 _).setc f2 6 _).setc f2 7 _).setc f2 8 _).setc f2 9 _).setc f2 10 _).drew
   clear hwz hwy f1 f2 hz
   clear Lrw Lrt Lsg Nrwrt Nrwsg Nrtsg
   obtain ⟨rwlt,rw0,-,rw1,-,rw2,-,rw3,-,rw4,-,rw5,-,rw6,-,rw7,-⟩:=H.c8 2 rfl
   obtain ⟨rtlt,rt0,-,rt1,-,rt2,-,rt3,-,rt4,-,rt5,-,rt6,-,rt7,-,rt8,-,rt9,-,rt10,-⟩:=H.c11 3 rfl
   have Nrwrt:=H.ne2 2 3 rfl rfl rfl
   go_wp2
   refine bodyPost_ret (v:=.tuple #[.agg #[.slice At T.tl.length ct,T.fx,T.fb,T.db,T.al,.slice Ad W.c.length cd,.slice Ao2 lq.length co2,.slice (some ⟨bp,0,none⟩) 3 cp],.agg #[tE,tad,.string ts,tb.id,tb.te,tb.de,tb.fe,tb.pr,tb.ch,tb.un,.bool tdd],()]) (by simp [results,Tryz.results15,go_sem,rw0,rw1,rw2,rw3,rw4,rw5,rw6,rw7,rt0,rt1,rt2,rt3,rt4,rt5,rt6,rt7,rt8,rt9,rt10];done) rfl ?_
   refine ⟨_,?_,hZ3,H.below⟩
   unfold Wv.vs Td.vs
   rw [e1,e2,hTd]
   try rfl
  ·skip
   have hwp:0 < wl.length:=by omega
   have hwp2:(0:Int) < (wl.length:Int):=by omega
   by_cases h5:k ≤ 5
   ·obtain rfl:⟨wn.heap.size,5,none⟩ = pt:=by rw [← hpt];exact (if_pos h5).symm
    have hd0:=hQ2.y.disk hW
    have htg:tgt W ⟨k,me,A,B,C,s,cut⟩ = W.c:=if_pos h5
    rw [htg] at ar1
    have hAp:=fun U h1 h2 => apply_own (.slice Ad W.c.length cd) (.slice Aw wl.length cw) W.c wl kk U h1 h2 hW.srv.h1 hW.srv.h2 (by omega) ar1 hkl
    unfold RetWsOwn at hAp
    obtain ⟨c',hc'⟩:∃ c,applyW W.c (wl.take kk) = c:=⟨_,rfl⟩
    rw [hc'] at hAp
    go_upto_region 13 with fail
    have hA1:=hAp w1.drew (hd0.below (below_draws (Below.refl _ _) 1)) (hQ2.wr.below (below_draws (Below.refl _ _) 1))
    go_region_held3 (fun w' => w'.cell? ⟨wn.heap.size,8,none⟩ = some (.pointer (some ⟨wn.heap.size,5,none⟩)) ∧ w'.cell? ⟨wn.heap.size,5,none⟩ = some (.slice Ad W.c.length cd) ∧ w'.cell? ⟨wn.heap.size,9,none⟩ = some (.slice Aw wl.length cw))
     (first | with_reducible exact ⟨sg8,sg5,sg9⟩ | with_reducible exact ⟨s0,s1,s2⟩ | go_keep | fail)
     ((go_at_call 33;(with_reducible refine hA1.mono ?_);rintro e w2 ⟨A5,c5,rfl,⟨hlt5,hown5⟩,hb5⟩;have H1:=Mem.call H.drew hb5;have s0:=(H1.blk 5 rfl).cell 8;have s1:=(H1.blk 5 rfl).cell 5;have s2:=(H1.blk 5 rfl).cell 9))
    replace H:=Mem.call (Mem.drew H) hb5
    have hQ2d:StQ _ T W lq wl Ao2 co2 Aw cw w2:=⟨(hQ2.wr.below (below_draws (Below.refl _ _) 1)).below hb5,(hQ2.y.below (below_draws (Below.refl _ _) 1)).below hb5,own_below (own_below hQ2.o (below_draws (Below.refl _ _) 1)) hb5⟩
    clear H1 s0 s1 s2 hA1 hAp hb5 hQ2 hd0 ar1
    clear sglt sg0 sg1 sg2 sg3 sg4 sg5 sg6 sg7 sg8 sg9 sg10 sg11 sg12 sg13 sg14 sg15 sg16 sg17 sg18 sg19 sg20
    have Lsg:=H.c21 5 rfl
    have HB3:=H.blk 5 rfl
    go_upto_region 16 with fail
    replace H:=H.set 5 rfl 5 (.slice A5 c'.length c5) |>.gen
    simp only [List.set_cons_zero,List.set_cons_succ,List.setIfInBounds_toArray] at H
    obtain ⟨w3,hw3,H⟩:=H
    rw [hw3]
    have hQ3:=hQ2d.kept (w':=w3) HB3 (by simp) (by rw [← hw3];exact grown_setCell _ ⟨wn.heap.size,5,none⟩ _)
    have hO3:w3.ownsRow 0 143 1 (.slice A5 c'.length c5) c'.length (ws c'):=(own_mono hown5 (Nat.zero_le _)).kept (row:=some wn.heap.size) (by rw [← hw3];exact grown_setCell _ ⟨wn.heap.size,5,none⟩ _) (.inr (fun e => blk_not_row HB3 (by decide) hown5 e.symm))
    clear hw3 hown5 hlt5 hQ2d HB3
    obtain ⟨e1,e2,hz⟩:=fin_srv (a:=⟨k,me,A,B,C,s,cut⟩) hQ3.y hQ3.o hO3 h5 hY (by dsimp only;rw [hkk];exact hc'.symm)
    clear hQ3 hO3
    clear Lsg
    have Lrw:=H.c8 2 rfl
    have Lrt:=H.c11 3 rfl
    have Lsg:=H.c21 5 rfl
    have Nrwrt:=H.ne2 2 3 rfl rfl rfl
    have Nrwsg:=H.ne2 2 5 rfl rfl rfl
    have Nrtsg:=H.ne2 3 5 rfl rfl rfl
    have f1:=hz.far (H.blk 2 rfl) (by unfold NoWd;decide)
    have f2:=hz.far (H.blk 3 rfl) (by unfold NoWd;decide)
    go_region
    replace H:=H.set 2 rfl 0 (.slice At T.tl.length ct) |>.set 2 rfl 1 T.fx |>.set 2 rfl 2 T.fb |>.set 2 rfl 3 T.db |>.set 2 rfl 4 T.al |>.set 2 rfl 5 (.slice A5 c'.length c5) |>.set 2 rfl 6 (.slice Ao2 lq.length co2) |>.set 2 rfl 7 (.slice (some ⟨bp,0,none⟩) 3 cp) |>.gen
    simp only [List.set_cons_zero,List.set_cons_succ,List.setIfInBounds_toArray] at H
    obtain ⟨wy,hwy,H⟩:=H
    rw [hwy]
    replace H:=H.set 3 rfl 0 tE |>.set 3 rfl 1 tad |>.set 3 rfl 2 (.string ts) |>.set 3 rfl 3 tb.id |>.set 3 rfl 4 tb.te |>.set 3 rfl 5 tb.de |>.set 3 rfl 6 tb.fe |>.set 3 rfl 7 tb.pr |>.set 3 rfl 8 tb.ch |>.set 3 rfl 9 tb.un |>.set 3 rfl 10 (.bool tdd) |>.drew |>.gen
    simp only [List.set_cons_zero,List.set_cons_succ,List.setIfInBounds_toArray] at H
    obtain ⟨wz,hwz,H⟩:=H
    rw [hwz]
    have hZ3:Wv.Is ⟨At,ct,A5,c5,Ao2,co2,some ⟨bp,0,none⟩,cp,A0,c0,A1,c1,A2,c2⟩ wz T (doP T W ⟨k,me,A,B,C,s,cut⟩).1:=by rw [← hwz,← hwy];exact (((((((((((((((((((hz.setc f1 0 _).setc f1 1 _).setc f1 2 _).setc f1 3 _).setc f1 4 _).setc f1 5 _).setc f1 6 _).setc f1 7 _).setc f2 0 _).setc f2 1 _).setc f2 2 _).setc f2 3 _).setc f2 4 _).setc f2 5 _).setc f2 6 _).setc f2 7 _).setc f2 8 _).setc f2 9 _).setc f2 10 _).drew
    clear hwz hwy f1 f2 hz
    clear Lrw Lrt Lsg Nrwrt Nrwsg Nrtsg
    obtain ⟨rwlt,rw0,-,rw1,-,rw2,-,rw3,-,rw4,-,rw5,-,rw6,-,rw7,-⟩:=H.c8 2 rfl
    obtain ⟨rtlt,rt0,-,rt1,-,rt2,-,rt3,-,rt4,-,rt5,-,rt6,-,rt7,-,rt8,-,rt9,-,rt10,-⟩:=H.c11 3 rfl
    have Nrwrt:=H.ne2 2 3 rfl rfl rfl
    go_wp2
    refine bodyPost_ret (v:=.tuple #[.agg #[.slice At T.tl.length ct,T.fx,T.fb,T.db,T.al,.slice A5 c'.length c5,.slice Ao2 lq.length co2,.slice (some ⟨bp,0,none⟩) 3 cp],.agg #[tE,tad,.string ts,tb.id,tb.te,tb.de,tb.fe,tb.pr,tb.ch,tb.un,.bool tdd],()]) (by simp [results,Tryz.results15,go_sem,rw0,rw1,rw2,rw3,rw4,rw5,rw6,rw7,rt0,rt1,rt2,rt3,rt4,rt5,rt6,rt7,rt8,rt9,rt10];done) rfl ?_
    refine ⟨_,?_,hZ3,H.below⟩
    unfold Wv.vs Td.vs
    rw [e1,e2,hTd]
    try rfl
   ·skip
    obtain rfl:⟨bp,me,none⟩ = pt:=by rw [← hpt];exact (if_neg h5).symm
    have hme:me ≤ 2:=ha.me
    obtain ⟨hbl,hpc⟩:=hQ2.y.pcell rfl hme
    have hpk:=(hQ2.y.pocket hW me hme).2
    have hpf:=hQ2.y.p.frozenAt me
    have htg:tgt W ⟨k,me,A,B,C,s,cut⟩ = (W.P.getD me pk0).C:=if_neg h5
    rw [htg] at ar1
    have hp12:=(hW.pok me hme).len
    obtain ⟨vA,hvA⟩:∃ v,Wv.A ⟨At,ct,Ad,cd,Ao,co,some ⟨bp,0,none⟩,cp,A0,c0,A1,c1,A2,c2⟩ me = v:=⟨_,rfl⟩
    obtain ⟨vc,hvc⟩:∃ v,Wv.c ⟨At,ct,Ad,cd,Ao,co,some ⟨bp,0,none⟩,cp,A0,c0,A1,c1,A2,c2⟩ me = v:=⟨_,rfl⟩
    rw [hvA,hvc] at hpc hpk
    have hAp:=fun U h1 h2 => apply_own (.slice vA 12 vc) (.slice Aw wl.length cw) (W.P.getD me pk0).C wl kk U h1 h2 (by omega) (by omega) (by omega) ar1 hkl
    unfold RetWsOwn at hAp
    have hcl:(applyW (W.P.getD me pk0).C (wl.take kk)).length = 12:=by rw [applyW_length];exact hp12
    rw [hcl] at hAp
    obtain ⟨c',hc'⟩:∃ c,applyW (W.P.getD me pk0).C (wl.take kk) = c:=⟨_,rfl⟩
    rw [hc'] at hAp
    clear hvA hvc hcl hp12
    go_upto_region 13 with fail
    have hA1:=hAp w1.drew (hpk.below (below_draws (Below.refl _ _) 1)) (hQ2.wr.below (below_draws (Below.refl _ _) 1))
    go_region_held3 (fun w' => w'.cell? ⟨wn.heap.size,8,none⟩ = some (.pointer (some ⟨bp,me,none⟩)) ∧ w'.cell? ⟨bp,me,none⟩ = some (.slice vA 12 vc) ∧ w'.cell? ⟨wn.heap.size,9,none⟩ = some (.slice Aw wl.length cw))
     (first | with_reducible exact ⟨sg8,hpc,sg9⟩ | with_reducible exact ⟨s0,s1,s2⟩ | go_keep | fail)
     ((go_at_call 33;(with_reducible refine hA1.mono ?_);rintro e w2 ⟨A5,c5,rfl,⟨hlt5,hown5⟩,hb5⟩;have H1:=Mem.call H.drew hb5;have s0:=(H1.blk 5 rfl).cell 8;have s1:=(hb5.cell (p:=⟨bp,me,none⟩) hbl).trans hpc;have s2:=(H1.blk 5 rfl).cell 9))
    replace H:=Mem.call (Mem.drew H) hb5
    have hQ2d:StQ _ T W lq wl Ao2 co2 Aw cw w2:=⟨(hQ2.wr.below (below_draws (Below.refl _ _) 1)).below hb5,(hQ2.y.below (below_draws (Below.refl _ _) 1)).below hb5,own_below (own_below hQ2.o (below_draws (Below.refl _ _) 1)) hb5⟩
    have hpf2:=hQ2d.y.p.frozenAt me
    clear H1 s0 s2 hA1 hAp hb5 hQ2 ar1 hpc hpk hpf
    clear sglt sg0 sg1 sg2 sg3 sg4 sg5 sg6 sg7 sg8 sg9 sg10 sg11 sg12 sg13 sg14 sg15 sg16 sg17 sg18 sg19 sg20
    have Lsg:=H.c21 5 rfl
    go_upto_region 16 with fail
    obtain ⟨w3,hw3⟩:∃ w3,w2.setCell ⟨bp,me,none⟩ (.slice A5 12 c5) = w3:=⟨_,rfl⟩
    have H3:=(Mem.rowset 4 H rfl me (.slice A5 12 c5))
    simp only [List.set_cons_succ,List.set_cons_zero] at H3
    rw [hw3] at H3 ⊢
    obtain ⟨e1,e2,B0,d0,B1,d1,B2,d2,hz⟩:=fin_poc (a:=⟨k,me,A,B,C,s,cut⟩) (w':=w3) hW hme hQ2d.y rfl hQ2d.o (own_mono hown5 (Nat.zero_le _)) h5 hY (by dsimp only;rw [hkk];exact hc'.symm) hw3.symm
    clear hw3 hown5 hlt5 hQ2d s1 hpf2 H
    clear Lsg
    have H:Mem (w) [] (w3) [.blk (w.heap.size) 38 #[.slice x.At T.tl.length x.ct,T.fx,T.fb,T.db,T.al,.slice x.Ad W.c.length x.cd,.slice x.Ao W.lp.length x.co,.slice x.Ap 3 x.cp],.blk (w.heap.size + 1) 44 #[k,me,A,B,C,.string s,ci],.blk (w.heap.size + 1 + 1) 38 #[.slice none 0 0,(),(),(),(),.slice none 0 0,.slice none 0 0,.slice none 0 0],.blk (w.heap.size + 1 + 1 + 1) 49 #[(),(),.string ⟨#[]⟩,(),(),(),(),(),(),(),.bool false],.row (wa.heap.size) (32) (1) (.slice (some ⟨bp,0,none⟩) 3 cp) (3) ([.slice A0 12 c0,.slice A1 12 c1,.slice A2 12 c2].set me (.slice A5 12 c5)),.blk (wn.heap.size) 113 #[.slice At T.tl.length ct,T.fx,T.fb,T.db,T.al,.slice Ad W.c.length cd,.slice Ao2 lq.length co2,.slice (some ⟨bp,0,none⟩) 3 cp,.pointer (some ⟨bp,me,none⟩),.slice Aw wl.length cw,tE,tad,.string ts,tb.id,tb.te,tb.de,tb.fe,tb.pr,tb.ch,tb.un,.bool tdd]]:=H3
    clear H3
    have Lrw:=H.c8 2 rfl
    have Lrt:=H.c11 3 rfl
    have Lsg:=H.c21 5 rfl
    have Nrwrt:=H.ne2 2 3 rfl rfl rfl
    have Nrwsg:=H.ne2 2 5 rfl rfl rfl
    have Nrtsg:=H.ne2 3 5 rfl rfl rfl
    have f1:=hz.far (H.blk 2 rfl) (by unfold NoWd;decide)
    have f2:=hz.far (H.blk 3 rfl) (by unfold NoWd;decide)
    go_region
    replace H:=H.set 2 rfl 0 (.slice At T.tl.length ct) |>.set 2 rfl 1 T.fx |>.set 2 rfl 2 T.fb |>.set 2 rfl 3 T.db |>.set 2 rfl 4 T.al |>.set 2 rfl 5 (.slice Ad W.c.length cd) |>.set 2 rfl 6 (.slice Ao2 lq.length co2) |>.set 2 rfl 7 (.slice (some ⟨bp,0,none⟩) 3 cp) |>.gen
    simp only [List.set_cons_zero,List.set_cons_succ,List.setIfInBounds_toArray] at H
    obtain ⟨wy,hwy,H⟩:=H
    rw [hwy]
    replace H:=H.set 3 rfl 0 tE |>.set 3 rfl 1 tad |>.set 3 rfl 2 (.string ts) |>.set 3 rfl 3 tb.id |>.set 3 rfl 4 tb.te |>.set 3 rfl 5 tb.de |>.set 3 rfl 6 tb.fe |>.set 3 rfl 7 tb.pr |>.set 3 rfl 8 tb.ch |>.set 3 rfl 9 tb.un |>.set 3 rfl 10 (.bool tdd) |>.drew |>.gen
    simp only [List.set_cons_zero,List.set_cons_succ,List.setIfInBounds_toArray] at H
    obtain ⟨wz,hwz,H⟩:=H
    rw [hwz]
    have hZ3:Wv.Is ⟨At,ct,Ad,cd,Ao2,co2,some ⟨bp,0,none⟩,cp,B0,d0,B1,d1,B2,d2⟩ wz T (doP T W ⟨k,me,A,B,C,s,cut⟩).1:=by rw [← hwz,← hwy];exact (((((((((((((((((((hz.setc f1 0 _).setc f1 1 _).setc f1 2 _).setc f1 3 _).setc f1 4 _).setc f1 5 _).setc f1 6 _).setc f1 7 _).setc f2 0 _).setc f2 1 _).setc f2 2 _).setc f2 3 _).setc f2 4 _).setc f2 5 _).setc f2 6 _).setc f2 7 _).setc f2 8 _).setc f2 9 _).setc f2 10 _).drew
    clear hwz hwy f1 f2 hz
    clear Lrw Lrt Lsg Nrwrt Nrwsg Nrtsg
    obtain ⟨rwlt,rw0,-,rw1,-,rw2,-,rw3,-,rw4,-,rw5,-,rw6,-,rw7,-⟩:=H.c8 2 rfl
    obtain ⟨rtlt,rt0,-,rt1,-,rt2,-,rt3,-,rt4,-,rt5,-,rt6,-,rt7,-,rt8,-,rt9,-,rt10,-⟩:=H.c11 3 rfl
    have Nrwrt:=H.ne2 2 3 rfl rfl rfl
    go_wp2
    refine bodyPost_ret (v:=.tuple #[.agg #[.slice At T.tl.length ct,T.fx,T.fb,T.db,T.al,.slice Ad W.c.length cd,.slice Ao2 lq.length co2,.slice (some ⟨bp,0,none⟩) 3 cp],.agg #[tE,tad,.string ts,tb.id,tb.te,tb.de,tb.fe,tb.pr,tb.ch,tb.un,.bool tdd],()]) (by simp [results,Tryz.results15,go_sem,rw0,rw1,rw2,rw3,rw4,rw5,rw6,rw7,rt0,rt1,rt2,rt3,rt4,rt5,rt6,rt7,rt8,rt9,rt10];done) rfl ?_
    refine ⟨_,?_,hZ3,H.below⟩
    unfold Wv.vs Td.vs
    rw [e1,e2,hTd]
    try rfl
end Go.Proofs.YtfgiehkfcoodbaaGreat

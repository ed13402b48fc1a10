/- vend.sell: its answer. -/
import Derived.Test.YtfgiehkfcoodbaaGreatM0
import Derived.Test.YtfgiehkfcoodbaaGreatM28
import Derived.Test.YtfgiehkfcoodbaaGreatM35
import Derived.Test.YtfgiehkfcoodbaaGreatM38
import Derived.Test.YtfgiehkfcoodbaaGreatM19
import Derived.Test.YtfgiehkfcoodbaaGreatM25
import Derived.Test.YtfgiehkfcoodbaaGreatM20
namespace Go.Proofs.YtfgiehkfcoodbaaGreat
open Go.RowKit
set_option linter.unusedVariables false
set_option maxRecDepth 100000
set_option maxHeartbeats 16000000
def RetVSell (E k me mo id te de fe pr ch un cls am rev d:Nat) (lp:List Pr) (c:List Nat) (L:List Ev) (w:World) (e:Ending) (w':World):Prop :=
 (E = 0 ∧ ∃ (t2:Nat) (lp2:List Pr) (A2:Option Addr) (c2:Nat) (A3:Option Addr) (c3:Nat),t2 ≤ 65535 ∧ issL lp (me:Int) (rev:Int) (tbody cls id am:Nat) (d:Int) = lp2 ∧ issT lp (me:Int) (rev:Int) (tbody cls id am:Nat) (d:Int) = (t2:Int) ∧ OOk lp2 ∧
  e = .returned (.tuple #[.agg #[.slice A3 (putW c.length (L.length * 14) (evW ⟨k,me,mo,id,te,de,fe,pr,ch,un,t2,0,0⟩)).length c3,.slice A2 lp2.length c2,me,id,te,de,fe,pr,ch,un,.string (dstr (tokD cls id am t2))],()]) ∧
  w'.ownsRow w.heap.size 147 4 (.slice A2 lp2.length c2) lp2.length (prs lp2) ∧ w'.ownsRow w.heap.size 158 2 (.slice A3 (putW c.length (L.length * 14) (evW ⟨k,me,mo,id,te,de,fe,pr,ch,un,t2,0,0⟩)).length c3) (putW c.length (L.length * 14) (evW ⟨k,me,mo,id,te,de,fe,pr,ch,un,t2,0,0⟩)).length (wrs (putW c.length (L.length * 14) (evW ⟨k,me,mo,id,te,de,fe,pr,ch,un,t2,0,0⟩))) ∧ Below w.heap.size w w') ∨
 (E ≠ 0 ∧ e = .returned (.tuple #[.agg #[.slice none 0 0,.slice none 0 0,(),(),(),(),(),(),(),(),.string ⟨#[]⟩],E]) ∧ Below w.heap.size w w')
structure Sv where
 wl:List (Nat × Nat)
 lp:List Pr
 me:Nat
 b:Bil
 s:ByteArray
 E:Nat
def amP (cls:Nat) (r:Nat × Acc × Bil):Nat:=if cls = 2 then r.2.1.rev else r.2.2.un
def evP (k me mo t:Nat) (b:Bil):Ev:=⟨k,me,mo,b.id,b.te,b.de,b.fe,b.pr,b.ch,b.un,t,0,0⟩
def tagP (lp:List Pr) (me rev cls d:Nat) (r:Nat × Acc × Bil):Nat:=(issT lp (me:Int) (rev:Int) (tbody cls r.2.2.id (amP cls r):Nat) (d:Int)).toNat
def svP (r:Nat × Acc × Bil) (k me mo cls rev d:Nat) (lp:List Pr) (n m:Nat):Sv :=
 if r.1 = 0 then ⟨putW n (m * 14) (evW (evP k me mo (tagP lp me rev cls d r) r.2.2)),issL lp (me:Int) (rev:Int) (tbody cls r.2.2.id (amP cls r):Nat) (d:Int),me,r.2.2,dstr (tokD cls r.2.2.id (amP cls r) (tagP lp me rev cls d r)),0⟩
 else ⟨[],[],0,bil0,⟨#[]⟩,r.1⟩
theorem sellP_sum {T:Tm} {a:Acc} {t m:Nat} {a2:Acc} {b:Bil} (hT:T.Ok) (ha:a.Ok) (h:sellP T a t m = (0,a2,b)):b.te = b.de + b.fe + b.pr + b.ch ∧ b.un ≤ 2097151:=by
 unfold sellP at h
 by_cases g1:m < a.month
 ·rw [if_pos g1] at h;injection h with h _;exact absurd h (by decide)
 ·rw [if_neg g1] at h
  dsimp only at h
  have hr:=rolled_P (b:=a.bought) (l:=a.l) (show a.month ≤ m by omega)
  generalize rollP a.month a.bought a.l m = r at h hr
  obtain ⟨b2,l2⟩:=r
  dsimp only at h hr
  generalize recov (t * T.db / 10000) l2 = rc at h
  obtain ⟨paid,out⟩:=rc
  dsimp only at h
  generalize T.fx + t * T.fb / 10000 = F at h
  by_cases g2:t < paid + F
  ·rw [if_pos g2] at h;injection h with h _;exact absurd h (by decide)
  ·rw [if_neg g2] at h
   generalize hmo:most (pcs T.tl b2) (t - paid - F) 0 0 = mo at h
   obtain ⟨U,P⟩:=mo
   dsimp only at h
   by_cases g3:U = 0
   ·rw [if_pos g3] at h;injection h with h _;exact absurd h (by decide)
   ·rw [if_neg g3] at h
    injection h with _ h
    injection h with h h'
    subst h h'
    have a6:=ha.h1.h6
    have hb2:b2 ≤ 10000000:=by rcases hr with ⟨_,h,_⟩ | ⟨_,h,_⟩ <;> omega
    obtain ⟨m1,m2,m3,m4,_⟩:=most_law hT.h1 hb2 hmo
    dsimp only
    omega
theorem sell_ev {T:Tm} {a:Acc} {t m me:Nat} {a2:Acc} {b:Bil} (hT:T.Ok) (ha:a.Ok) (hn:a.next ≤ 1048575) (hm:m ≤ 2399) (hme:me ≤ 49) (ht1:1 ≤ t) (ht:t ≤ 100000000) (h:sellP T a t m = (0,a2,b)) :
 TkOk 0 b.id b.un 0 ∧ ∀ tg,tg ≤ 65535 → (Ev.mk 2 me m b.id b.te b.de b.fe b.pr b.ch b.un tg 0 0).ok:=by
 obtain ⟨s1,s2⟩:=sellP_sum hT ha h
 have e:=sellP_ne h
 have a3:=ha.h1.h3
 have e7:=e.2.2.2.2.2.2.1
 have e8:=e.2.2.2.2.2.2.2.1
 have e9:=e.2.2.2.2.2.2.2.2.1
 refine ⟨⟨by omega,by omega,by omega,.inl ⟨rfl,by omega,by omega⟩,by omega⟩,fun tg htg => ?_⟩
 clear h e
 unfold Ev.ok evOk
 dsimp only
 exact ⟨by omega,by omega,.inr (.inl ⟨rfl,by omega,by omega,by omega,by omega,by omega,by omega,by omega,by omega,by omega,by omega,by omega,by omega,by omega,by omega,by omega,by omega,by omega,by omega,by omega,rfl,rfl⟩)⟩
theorem grant_ev {T:Tm} {a:Acc} {m me:Nat} {a2:Acc} {b:Bil} (hT:T.Ok) (ha:a.Ok) (hn:a.next ≤ 1048575) (hm:m ≤ 2399) (hme:me ≤ 49) (h:grantP T a m = (0,a2,b)) :
 TkOk 0 b.id b.un 0 ∧ ∀ tg,tg ≤ 65535 → (Ev.mk 3 me m b.id b.te b.de b.fe b.pr b.ch b.un tg 0 0).ok:=by
 have e:=grantP_ne h
 have a3:=ha.h1.h3
 have e8:=e.2.2.2.2.2.2.2.1
 have e9:=e.2.2.2.2.2.2.2.2.2
 have hal:=hT.h2.h4
 subst e8
 dsimp only
 refine ⟨⟨by omega,by omega,by omega,.inl ⟨rfl,by omega,by omega⟩,by omega⟩,fun tg htg => ?_⟩
 clear h e
 unfold Ev.ok evOk
 dsimp only
 exact ⟨by omega,by omega,.inr (.inr (.inl ⟨rfl,by omega,by omega,by omega,by omega,by omega,by omega,by omega,by omega,rfl,rfl,rfl,rfl,rfl,rfl,rfl⟩))⟩
theorem rekey_ev {a:Acc} {me:Nat} {a2:Acc} {b:Bil} (ha:a.Ok) (hn:a.next ≤ 1048575) (hme:me ≤ 49) (h:rekeyP a = (0,a2,b)) :
 TkOk 2 b.id a2.rev 0 ∧ ∀ tg,tg ≤ 65535 → (Ev.mk 4 me 0 b.id b.te b.de b.fe b.pr b.ch b.un tg 0 0).ok:=by
 obtain ⟨e1,e2,e3⟩:=rekeyP_ne h
 have a3:=ha.h1.h3
 have a2':=ha.h1.h2
 subst e1 e2
 dsimp only
 refine ⟨⟨by omega,by omega,by omega,.inr (.inr (.inl ⟨rfl,by omega,by omega⟩)),by omega⟩,fun tg htg => ?_⟩
 clear h
 unfold Ev.ok evOk
 dsimp only
 exact ⟨by omega,by omega,.inr (.inr (.inr (.inl ⟨rfl,by omega,by omega,by omega,by omega,rfl,rfl,rfl,rfl,rfl,rfl,rfl,rfl,rfl⟩)))⟩
theorem own_set {base e size n k o:Nat} {v x:Value} {xs:List Value} {w:World} (h:w.ownsRow base e size v n xs) (hk:k < base):(w.setCell ⟨k,o,none⟩ x).ownsRow base e size v n xs :=
 own_kept h (grown_setCell w ⟨k,o,none⟩ x) (fun j hj => by injection hj with e;subst e;exact hk)
theorem own_drewK {base e size n:Nat} {v:Value} {xs:List Value} {w:World} (h:w.ownsRow base e size v n xs):w.drew.ownsRow base e size v n xs :=
 own_kept (row:=none) h ⟨rfl,rfl,rfl,Nat.le_refl _,fun _ _ _ => rfl⟩ (by simp)
def RetSv (v:Sv) (w:World) (e:Ending) (w':World):Prop :=
 ∃ (A3:Option Addr) (c3:Nat) (A2:Option Addr) (c2:Nat),e = .returned (.tuple #[.agg #[.slice A3 v.wl.length c3,.slice A2 v.lp.length c2,v.me,v.b.id,v.b.te,v.b.de,v.b.fe,v.b.pr,v.b.ch,v.b.un,.string v.s],v.E]) ∧
  w'.ownsRow w.heap.size 147 4 (.slice A2 v.lp.length c2) v.lp.length (prs v.lp) ∧ w'.ownsRow w.heap.size 158 2 (.slice A3 v.wl.length c3) v.wl.length (wrs v.wl) ∧ Below w.heap.size w w'
theorem retsv_of {r:Nat × Acc × Bil} {k me mo cls rev d am:Nat} {lp:List Pr} {c:List Nat} {L:List Ev} {w w':World} {e:Ending} (ham:r.1 = 0 → am = amP cls r)
 (h:RetVSell r.1 k me mo r.2.2.id r.2.2.te r.2.2.de r.2.2.fe r.2.2.pr r.2.2.ch r.2.2.un cls am rev d lp c L w e w'):RetSv (svP r k me mo cls rev d lp c.length L.length) w e w':=by
 rcases h with ⟨h0,t2,lp2,A2,c2,A3,c3,ht,hl2,ht2,hO,rfl,ho1,ho2,hb⟩ | ⟨h0,rfl,hb⟩
 ·have ha:=ham h0
  subst ha
  have et:tagP lp me rev cls d r = t2:=by unfold tagP;rw [ht2];simp
  unfold svP
  rw [if_pos h0,et,hl2]
  exact ⟨A3,c3,A2,c2,rfl,ho1,ho2,hb⟩
 ·unfold svP
  rw [if_neg h0]
  exact ⟨none,0,none,0,rfl,World.ownsRow_nil _ _ _ _,World.ownsRow_nil _ _ _ _,hb⟩
def RetServe (v:Sv) (w:World) (e:Ending) (w':World):Prop :=
 ∃ (A3:Option Addr) (c3:Nat) (A2:Option Addr) (c2:Nat),e = .returned (.tuple #[.slice A3 v.wl.length c3,.agg #[.slice A2 v.lp.length c2],.agg #[v.me,v.b.id,v.b.te,v.b.de,v.b.fe,v.b.pr,v.b.ch,v.b.un,.string v.s],v.E]) ∧
  w'.ownsRow w.heap.size 147 4 (.slice A2 v.lp.length c2) v.lp.length (prs v.lp) ∧ w'.ownsRow w.heap.size 158 2 (.slice A3 v.wl.length c3) v.wl.length (wrs v.wl) ∧ Below w.heap.size w w'
theorem Srv.put {T:Tm} {c:List Nat} {L:List Ev} {B B2:List Cu} {v:Ev} (hS:Srv T c L B) (hv:v.ok) (hk:keepE T B v = (0,B2)) (hL:L.length < 120) (hf:(L.length + 1) * 14 ≤ c.length) :
 Srv T (applyW c (putW c.length (L.length * 14) (evW v))) (L ++ [v]) B2 ∧ ∀ k,k < (putW c.length (L.length * 14) (evW v)).length → Srv T (applyW c ((putW c.length (L.length * 14) (evW v)).take k)) L B:=by
 have hp:=put_tape (r:=evW v) hS.tape ⟨by simp [evW],by simp [evW],fun x hx => by have:=hv.lt x hx;omega⟩ (by rw [enc_evs];simp only [evW,List.length_cons,List.length_nil];omega)
 rw [enc_evs] at hp
 refine ⟨⟨by rw [List.map_append];exact hp.2,?_,?_,by simp;omega,by rw [applyW_length];exact hS.h1,by rw [applyW_length];exact hS.h2⟩,fun k hk' => ⟨hp.1 k hk',hS.ok,hS.run,hS.len,by rw [applyW_length];exact hS.h1,by rw [applyW_length];exact hS.h2⟩⟩
 ·intro u hu
  rcases List.mem_append.1 hu with h | h
  ·exact hS.ok u h
  ·obtain rfl:=List.mem_singleton.1 h;exact hv
 ·rw [runE_append,hS.run]
  exact runE_one.2 hk
theorem Srv.bok {T:Tm} {c:List Nat} {L:List Ev} {B:List Cu} (hT:T.Ok) (hS:Srv T c L B):BOk T B L.length:=by
 have:=runE_bok hT L [] B 0 (bok_nil T) (by have:=hS.len;omega) hS.ok hS.run
 rwa [Nat.zero_add] at this
theorem svP_E {r:Nat × Acc × Bil} {k me mo cls rev d:Nat} {lp:List Pr} {n m:Nat}:(svP r k me mo cls rev d lp n m).E = r.1:=by
 unfold svP
 by_cases h:r.1 = 0
 ·rw [if_pos h,h]
 ·rw [if_neg h]
theorem svP_ok {r:Nat × Acc × Bil} {k me mo cls rev d:Nat} {lp:List Pr} {n m:Nat} (h:r.1 = 0):svP r k me mo cls rev d lp n m = ⟨putW n (m * 14) (evW (evP k me mo (tagP lp me rev cls d r) r.2.2)),issL lp (me:Int) (rev:Int) (tbody cls r.2.2.id (amP cls r):Nat) (d:Int),me,r.2.2,dstr (tokD cls r.2.2.id (amP cls r) (tagP lp me rev cls d r)),0⟩:=by
 unfold svP;rw [if_pos h]
theorem svP_no {r:Nat × Acc × Bil} {k me mo cls rev d:Nat} {lp:List Pr} {n m:Nat} (h:r.1 ≠ 0):svP r k me mo cls rev d lp n m = ⟨[],[],0,bil0,⟨#[]⟩,r.1⟩:=by
 unfold svP;rw [if_neg h]
theorem tagP_le {r:Nat × Acc × Bil} {me rev cls d:Nat} {lp:List Pr} (hl:OOk lp) (hd:d ≤ 65535):tagP lp me rev cls d r ≤ 65535:=by
 have:=issT_bd (x:=(me:Int)) (y:=(rev:Int)) (z:=(tbody cls r.2.2.id (amP cls r):Nat)) (d:=(d:Int)) hl (by omega) (by omega)
 unfold tagP;omega
structure Rq where
 q:Nat
 me:Nat
 te:Nat
 mo:Nat
structure Rq.Ok (x:Rq):Prop where
 h1:x.me ≤ 49
 h2:1 ≤ x.te
 h3:x.te ≤ 1000000
 h4:x.mo ≤ 2399
structure Rq.OkW (x:Rq):Prop where
 h1:x.me ≤ 49
 h2:1 ≤ x.te
 h3:x.te ≤ 100000000
 h4:x.mo ≤ 2399
theorem Rq.Ok.wide {x:Rq} (h:x.Ok):x.OkW:=⟨h.h1,h.h2,by have:=h.h3;omega,h.h4⟩
def Rq.k (x:Rq):Nat:=if x.q = 1 then 3 else if x.q = 2 then 4 else 2
def Rq.cls (x:Rq):Nat:=if x.q = 2 then 2 else 0
def Rq.m (x:Rq):Nat:=if x.q = 2 then 0 else x.mo
def Rq.r (x:Rq) (T:Tm) (a:Acc):Nat × Acc × Bil:=if x.q = 1 then grantP T a x.mo else if x.q = 2 then rekeyP a else sellP T a x.te x.mo
def saleP (T:Tm) (a:Acc) (lp:List Pr) (n m d:Nat) (x:Rq):Sv:=svP (x.r T a) x.k x.me x.m x.cls a.rev d lp n m
def saleV (T:Tm) (a:Acc) (lp:List Pr) (d:Nat) (x:Rq):Ev:=evP x.k x.me x.m (tagP lp x.me a.rev x.cls d (x.r T a)) (x.r T a).2.2
theorem Rq.deed {T:Tm} {a:Acc} {x:Rq} (t:Nat) (h:(x.r T a).1 = 0):deedP T a (evP x.k x.me x.m t (x.r T a).2.2) = x.r T a:=by
 unfold deedP evP Rq.k Rq.m Rq.r
 unfold Rq.r at h
 by_cases g1:x.q = 1
 ·simp only [g1,if_true]
  rfl
 ·simp only [g1,if_false] at h ⊢
  by_cases g2:x.q = 2
  ·simp only [g2,if_true]
   rfl
  ·simp only [g2,if_false] at h ⊢
   have e:sellP T a x.te x.mo = (0,(sellP T a x.te x.mo).2.1,(sellP T a x.te x.mo).2.2):=by rw [← h]
   have:=(sellP_ne e).2.2.2.2.2.2.2.1
   simp only [if_true]
   rw [this]
theorem Rq.tk {T:Tm} {a:Acc} {x:Rq} (hx:x.OkW) (hT:T.Ok) (ha:a.Ok) (hn:a.next ≤ 1048575) (h:(x.r T a).1 = 0):TkOk x.cls (x.r T a).2.2.id (amP x.cls (x.r T a)) 0 ∧ ∀ t,t ≤ 65535 → (evP x.k x.me x.m t (x.r T a).2.2).ok:=by
 unfold evP Rq.k Rq.m Rq.r Rq.cls amP
 unfold Rq.r at h
 by_cases g1:x.q = 1
 ·simp only [g1,if_true] at h ⊢
  have e:grantP T a x.mo = (0,(grantP T a x.mo).2.1,(grantP T a x.mo).2.2):=by rw [← h]
  exact grant_ev hT ha hn hx.h4 hx.h1 e
 ·simp only [g1,if_false] at h ⊢
  by_cases g2:x.q = 2
  ·simp only [g2,if_true] at h ⊢
   have e:rekeyP a = (0,(rekeyP a).2.1,(rekeyP a).2.2):=by rw [← h]
   exact rekey_ev ha hn hx.h1 e
  ·simp only [g2,if_false] at h ⊢
   have e:sellP T a x.te x.mo = (0,(sellP T a x.te x.mo).2.1,(sellP T a x.te x.mo).2.2):=by rw [← h]
   exact sell_ev hT ha hn hx.h4 hx.h1 hx.h2 (by have:=hx.h3;omega) e
theorem Rq.k_ne (x:Rq):x.k ≠ 1 ∧ x.k ≠ 5:=by
 unfold Rq.k
 split
 ·omega
 ·split <;> omega
theorem Rq.cust {T:Tm} {c:Cu} {x:Rq} (t:Nat) (h:(x.r T c.a).1 = 0):custP T c (evP x.k x.me x.m t (x.r T c.a).2.2) = (0,⟨(x.r T c.a).2.1,c.s ++ [soldP c.a.rev (evP x.k x.me x.m t (x.r T c.a).2.2) (x.r T c.a).2.1]⟩):=by
 have hd:=Rq.deed (T:=T) (a:=c.a) t h
 unfold custP
 rw [if_neg (show ¬ (evP x.k x.me x.m t (x.r T c.a).2.2).k = 5 from x.k_ne.2),hd,if_pos h,if_pos (show (x.r T c.a).2.2.same _ from ⟨rfl,rfl,rfl,rfl,rfl,rfl,rfl⟩)]
theorem keepE_at {T:Tm} {B:List Cu} {v:Ev} {i:Nat} {c2:Cu} (hp:place B v.me = some i) (hk:v.k ≠ 1) (h:custP T (B.getD i cu0) v = (0,c2)):keepE T B v = (0,B.set i c2):=by
 unfold keepE
 rw [hp]
 dsimp only
 rw [if_neg hk,h,if_pos rfl]
theorem sale_law {T:Tm} {c:List Nat} {L:List Ev} {B:List Cu} {lp:List Pr} {i d:Nat} {x:Rq} (hT:T.Ok) (hS:Srv T c L B) (hx:x.OkW) (hp:place B x.me = some i) (hL:L.length < 120) (hf:(L.length + 1) * 14 ≤ c.length) (hl:OOk lp) (h5:lp.length < 500) (hd:d ≤ 65535) (h:(saleP T (B.getD i cu0).a lp c.length L.length d x).E = 0) :
 (x.r T (B.getD i cu0).a).1 = 0 ∧ (saleV T (B.getD i cu0).a lp d x).ok ∧ (saleP T (B.getD i cu0).a lp c.length L.length d x).wl = putW c.length (L.length * 14) (evW (saleV T (B.getD i cu0).a lp d x)) ∧
 keepE T B (saleV T (B.getD i cu0).a lp d x) = (0,B.set i ⟨(x.r T (B.getD i cu0).a).2.1,(B.getD i cu0).s ++ [soldP (B.getD i cu0).a.rev (saleV T (B.getD i cu0).a lp d x) (x.r T (B.getD i cu0).a).2.1]⟩) ∧
 OOk (saleP T (B.getD i cu0).a lp c.length L.length d x).lp ∧ (saleP T (B.getD i cu0).a lp c.length L.length d x).lp.length ≤ lp.length + 1:=by
 unfold saleP at h ⊢
 rw [svP_E] at h
 have hB:=hS.bok hT
 obtain ⟨hi,hme⟩:=place_some hp
 have hgd:B.getD i cu0 = B[i]:=by simp [hi]
 have hao:=hB.h1 B[i] (List.getElem_mem hi)
 have hsl:=hB.sold (List.getElem_mem hi)
 have hlen:=hS.len
 rw [hgd] at h ⊢
 have hn:B[i].a.next ≤ 1048575:=by omega
 obtain ⟨k1,k2⟩:=Rq.tk hx hT hao.1 hn h
 have ht:=tagP_le (r:=x.r T B[i].a) (me:=x.me) (rev:=B[i].a.rev) (cls:=x.cls) hl hd
 refine ⟨h,k2 _ ht,?_,?_,?_,?_⟩
 ·rw [svP_ok h];rfl
 ·refine keepE_at (v:=saleV T B[i].a lp d x) hp x.k_ne.1 ?_
  rw [hgd]
  exact Rq.cust _ h
 ·rw [svP_ok h]
  refine issL_ok hl ?_ (by omega) (by omega) h5
  have:=tbody_le k1
  have h2:=hao.1.h1.h2
  have h3:=hx.h1
  unfold mayK;dsimp only;omega
 ·rw [svP_ok h]
  exact (issL_len _ _ _ _ _).2
theorem chg_law {T:Tm} {B:List Cu} {i me ow bp:Nat} (hp:place B me = some i) (h:(oweP (B.getD i cu0).a ow bp).1 = 0):keepE T B ⟨5,me,0,0,0,0,0,0,0,0,0,ow,bp⟩ = (0,B.set i ⟨(oweP (B.getD i cu0).a ow bp).2,(B.getD i cu0).s⟩):=by
 refine keepE_at (v:=⟨5,me,0,0,0,0,0,0,0,0,0,ow,bp⟩) hp (show (5:Nat) ≠ 1 by decide) ?_
 unfold custP
 rw [if_pos rfl,if_pos h]
structure Opn (T:Tm) (c:List Nat) (L:List Ev) (B:List Cu) (m:Nat):Prop where
 srv:Srv T c L B
 len:c.length = 600
 evs:L = (List.range m).map regV
 cus:B.length = m
 me:∀ j (h:j < B.length),(B[j]'h).a.me = j
theorem Opn.none {T:Tm} {c:List Nat} {L:List Ev} {B:List Cu} {m:Nat} (h:Opn T c L B m):place B m = none:=by
 rw [place_none]
 intro x hx
 obtain ⟨j,hj,rfl⟩:=List.getElem_of_mem hx
 rw [h.me j hj]
 have:=h.cus
 omega
theorem Opn.next {T:Tm} {c:List Nat} {L:List Ev} {B:List Cu} {m:Nat} (h:Opn T c L B m) (hm:m ≤ 2):Opn T (applyW c (putW c.length (L.length * 14) (evW (regV m)))) (L ++ [regV m]) (B ++ [⟨openP m,[]⟩]) (m + 1):=by
 have hl:L.length = m:=by rw [h.evs];simp
 have hk:keepE T B (regV m) = (0,B ++ [⟨openP m,[]⟩]):=by
  unfold keepE
  rw [show (regV m).me = m from rfl,h.none]
  rfl
 have hlen:=h.len
 refine ⟨(h.srv.put (regV_ok (by omega)) hk (by omega) (by omega)).1,by rw [applyW_length];exact hlen,?_,by simp [h.cus],fun j hj => ?_⟩
 ·rw [h.evs,List.range_succ,List.map_append];rfl
 ·by_cases e:j < B.length
  ·rw [List.getElem_append_left e];exact h.me j e
  ·have hj2:j = B.length:=by simp at hj;omega
   subst hj2
   rw [List.getElem_append_right (Nat.le_refl _)]
   simp [openP,h.cus]
structure Shp (T:Tm) (c:List Nat) (L:List Ev) (B:List Cu) (lp:List Pr) (k:Nat):Prop where
 srv:Srv T c L B
 len:c.length = 600
 evs:∃ M,L = [regV 0,regV 1,regV 2] ++ M ∧ M.length ≤ k ∧ ∀ v ∈ M,v.k ≠ 1 ∧ v.te ≤ 1000000
 cus:B.length = 3
 me:∀ j (h:j < B.length),(B[j]'h).a.me = j
 ook:OOk lp
 lpl:lp.length ≤ k
theorem ook_nil0:OOk []:=⟨by simp,by simp,by simp⟩
theorem Shp.at_ {T:Tm} {c:List Nat} {L:List Ev} {B:List Cu} {lp:List Pr} {k me:Nat} (h:Shp T c L B lp k) (hm:me ≤ 2):place B me = some me:=by
 have:=h.cus
 refine place_found (by omega) (fun j hj => ?_) (h.me me (by omega))
 rw [h.me j (by omega)];omega
theorem Shp.lens {T:Tm} {c:List Nat} {L:List Ev} {B:List Cu} {lp:List Pr} {k:Nat} (h:Shp T c L B lp k):L.length ≤ 3 + k:=by
 obtain ⟨M,h1,h2,_⟩:=h.evs
 rw [h1];simp;omega
theorem Shp.step {T:Tm} {c:List Nat} {L:List Ev} {B:List Cu} {lp lp2:List Pr} {k i:Nat} {v:Ev} {c2:Cu} (h:Shp T c L B lp k) (hk:k ≤ 30) (hv:v.ok) (hv1:v.k ≠ 1 ∧ v.te ≤ 1000000) (hi:i < B.length) (hkp:keepE T B v = (0,B.set i c2)) (hme:c2.a.me = i) (ho:OOk lp2) (hl:lp2.length ≤ lp.length + 1) :
 Shp T (applyW c (putW c.length (L.length * 14) (evW v))) (L ++ [v]) (B.set i c2) lp2 (k + 1):=by
 have hlen:=h.lens
 have h6:=h.len
 obtain ⟨M,h1,h2,h3⟩:=h.evs
 refine ⟨(h.srv.put hv hkp (by omega) (by omega)).1,by rw [applyW_length];exact h6,⟨M ++ [v],by rw [h1];simp,by simp;omega,fun u hu => ?_⟩,by rw [List.length_set];exact h.cus,fun j hj => ?_,ho,by have:=h.lpl;omega⟩
 ·rcases List.mem_append.1 hu with hu | hu
  ·exact h3 u hu
  ·obtain rfl:=List.mem_singleton.1 hu;exact hv1
 ·rw [List.getElem_set]
  split
  ·rename_i e;subst e;exact hme
  ·exact h.me j (by simpa using hj)
theorem Rq.meq {T:Tm} {a:Acc} {x:Rq} (h:(x.r T a).1 = 0):(x.r T a).2.1.me = a.me:=by
 unfold Rq.r at h ⊢
 by_cases g1:x.q = 1
 ·simp only [g1,if_true] at h ⊢
  have e:grantP T a x.mo = (0,(grantP T a x.mo).2.1,(grantP T a x.mo).2.2):=by rw [← h]
  exact (grantP_ne e).2.1
 ·simp only [g1,if_false] at h ⊢
  by_cases g2:x.q = 2
  ·simp only [g2,if_true] at h ⊢
   have e:rekeyP a = (0,(rekeyP a).2.1,(rekeyP a).2.2):=by rw [← h]
   rw [(rekeyP_ne e).1]
  ·simp only [g2,if_false] at h ⊢
   have e:sellP T a x.te x.mo = (0,(sellP T a x.te x.mo).2.1,(sellP T a x.te x.mo).2.2):=by rw [← h]
   exact (sellP_ne e).2.1
theorem Rq.tel {T:Tm} {a:Acc} {x:Rq} (h:(x.r T a).1 = 0) (hx:x.te ≤ 1000000):(x.r T a).2.2.te ≤ 1000000:=by
 unfold Rq.r at h ⊢
 by_cases g1:x.q = 1
 ·simp only [g1,if_true] at h ⊢
  have e:grantP T a x.mo = (0,(grantP T a x.mo).2.1,(grantP T a x.mo).2.2):=by rw [← h]
  rw [(grantP_ne e).2.2.2.2.2.2.2.1]
  exact Nat.zero_le _
 ·simp only [g1,if_false] at h ⊢
  by_cases g2:x.q = 2
  ·simp only [g2,if_true] at h ⊢
   have e:rekeyP a = (0,(rekeyP a).2.1,(rekeyP a).2.2):=by rw [← h]
   rw [(rekeyP_ne e).2.1]
   exact Nat.zero_le _
  ·simp only [g2,if_false] at h ⊢
   have e:sellP T a x.te x.mo = (0,(sellP T a x.te x.mo).2.1,(sellP T a x.te x.mo).2.2):=by rw [← h]
   rw [(sellP_ne e).2.2.2.2.2.2.2.1]
   exact hx
theorem Shp.sale {T:Tm} {c:List Nat} {L:List Ev} {B:List Cu} {lp:List Pr} {k d:Nat} {x:Rq} (h:Shp T c L B lp k) (hT:T.Ok) (hk:k ≤ 30) (hx:x.Ok) (hme:x.me ≤ 2) (hd:d ≤ 65535) (h0:(saleP T (B.getD x.me cu0).a lp c.length L.length d x).E = 0) :
 (1 ≤ (saleP T (B.getD x.me cu0).a lp c.length L.length d x).wl.length ∧ (saleP T (B.getD x.me cu0).a lp c.length L.length d x).wl.length ≤ 15) ∧ (∀ p ∈ (saleP T (B.getD x.me cu0).a lp c.length L.length d x).wl,p.1 < 600) ∧ (∀ p ∈ (saleP T (B.getD x.me cu0).a lp c.length L.length d x).wl,p.2 < 4294967296) ∧ ∃ L2 B2,Shp T (applyW c (saleP T (B.getD x.me cu0).a lp c.length L.length d x).wl) L2 B2 (saleP T (B.getD x.me cu0).a lp c.length L.length d x).lp (k + 1):=by
 have hp:=h.at_ hme
 have hlens:=h.lens
 have hlen:=h.len
 have hlpl:=h.lpl
 obtain ⟨s1,s2,s3,s4,s5,s6⟩:=sale_law hT h.srv hx.wide hp (by omega) (by omega) h.ook (by omega) hd h0
 have hat:=putW_at (len:=c.length) (at0:=L.length * 14) (r:=evW (saleV T (B.getD x.me cu0).a lp d x)) (by simp only [evW,List.length_cons,List.length_nil];omega)
 have hwn:=putW_len c.length (L.length * 14) (evW (saleV T (B.getD x.me cu0).a lp d x))
 have hlt:=putW_lt (len:=c.length) (at0:=L.length * 14) (r:=evW (saleV T (B.getD x.me cu0).a lp d x)) ⟨by simp [evW],fun y hy => by have:=s2.lt y hy;omega⟩
 have hgd:B.getD x.me cu0 = B[x.me]'(place_some hp).1:=by simp [(place_some hp).1]
 have hsh:=h.step hk s2 ⟨x.k_ne.1,Rq.tel s1 hx.h3⟩ (place_some hp).1 s4 (by
  dsimp only
  rw [Rq.meq s1,hgd];exact h.me _ _) s5 s6
 rw [s3]
 have e13:(evW (saleV T (B.getD x.me cu0).a lp d x)).length = 13:=rfl
 rw [e13] at hwn
 exact ⟨by omega,fun p hp => by have:=(hat p hp).2;omega,hlt,_,_,hsh⟩
def NumOk (B:List Cu):Prop:=∀ c ∈ B,∀ k (h:k < c.s.length),(c.s[k]'h).id = k + 1 ∧ (c.s[k]'h).rev ≤ c.a.rev
structure Od where
 q:Nat
 me:Nat
 ow:Nat
 bp:Nat
 te:Nat
 mo:Nat
 d:Nat
structure Od.Is (o:Od) (x0 x1 x2 x3 x4:Int):Prop where
 h1:Hid (pk x0 8 = (o.q:Int))
 h2:Hid (pk x1 3 = (o.me:Int))
 h3:o.me ≤ 2
 h4:Hid (1 + pk x2 100000 = (o.ow:Int))
 h5:1 ≤ o.ow ∧ o.ow ≤ 100000
 h6:Hid (pk x3 1000 = (o.bp:Int))
 h7:o.bp ≤ 999
 h8:Hid (1 + pk x2 1000000 = (o.te:Int))
 h9:1 ≤ o.te ∧ o.te ≤ 1000000
 h10:Hid (pk x3 12 = (o.mo:Int))
 h11:o.mo ≤ 11
 h12:Hid (pk x4 65536 = (o.d:Int))
 h13:o.d ≤ 65535
def Od.rq (o:Od):Rq:=⟨o.q,o.me,o.te,o.mo⟩
def Od.V (o:Od) (T:Tm) (a:Acc) (lp:List Pr) (n m:Nat):Sv :=
 if o.q = 0 then ⟨if (oweP a o.ow o.bp).1 = 0 then putW n (m * 14) (evW (chgV o.me o.ow o.bp)) else [],lp,0,bil0,⟨#[]⟩,(oweP a o.ow o.bp).1⟩
 else saleP T a lp n m o.d o.rq
def Od.v (o:Od) (T:Tm) (a:Acc) (lp:List Pr):Ev:=if o.q = 0 then chgV o.me o.ow o.bp else saleV T a lp o.d o.rq
def Od.c (o:Od) (T:Tm) (c:Cu) (lp:List Pr):Cu:=if o.q = 0 then ⟨(oweP c.a o.ow o.bp).2,c.s⟩ else ⟨(o.rq.r T c.a).2.1,c.s ++ [soldP c.a.rev (saleV T c.a lp o.d o.rq) (o.rq.r T c.a).2.1]⟩
theorem Od.V_no {o:Od} {T:Tm} {a:Acc} {lp:List Pr} {n m:Nat} (h:(o.V T a lp n m).E ≠ 0):(o.V T a lp n m).wl = [] ∧ (o.V T a lp n m).me = 0 ∧ (o.V T a lp n m).b = bil0 ∧ (o.V T a lp n m).s = ⟨#[]⟩:=by
 unfold Od.V at h ⊢
 by_cases hq:o.q = 0
 ·rw [if_pos hq] at h ⊢
  dsimp only at h ⊢
  rw [if_neg h]
  exact ⟨rfl,rfl,rfl,rfl⟩
 ·rw [if_neg hq] at h ⊢
  unfold saleP at h ⊢
  rw [svP_E] at h
  rw [svP_no h]
  exact ⟨rfl,rfl,rfl,rfl⟩
theorem Rq.next {T:Tm} {a:Acc} {x:Rq} (h:(x.r T a).1 = 0):(x.r T a).2.1.next = a.next + 1:=by
 unfold Rq.r at h ⊢
 by_cases g1:x.q = 1
 ·simp only [g1,if_true] at h ⊢
  have e:grantP T a x.mo = (0,(grantP T a x.mo).2.1,(grantP T a x.mo).2.2):=by rw [← h]
  exact (grantP_ne e).2.2.1
 ·simp only [g1,if_false] at h ⊢
  by_cases g2:x.q = 2
  ·simp only [g2,if_true] at h ⊢
   have e:rekeyP a = (0,(rekeyP a).2.1,(rekeyP a).2.2):=by rw [← h]
   rw [(rekeyP_ne e).1]
  ·simp only [g2,if_false] at h ⊢
   have e:sellP T a x.te x.mo = (0,(sellP T a x.te x.mo).2.1,(sellP T a x.te x.mo).2.2):=by rw [← h]
   exact (sellP_ne e).2.2.1
theorem Rq.id {T:Tm} {a:Acc} {x:Rq} (h:(x.r T a).1 = 0):(x.r T a).2.2.id = a.next:=by
 unfold Rq.r at h ⊢
 by_cases g1:x.q = 1
 ·simp only [g1,if_true] at h ⊢
  have e:grantP T a x.mo = (0,(grantP T a x.mo).2.1,(grantP T a x.mo).2.2):=by rw [← h]
  rw [(grantP_ne e).2.2.2.2.2.2.2.1]
 ·simp only [g1,if_false] at h ⊢
  by_cases g2:x.q = 2
  ·simp only [g2,if_true] at h ⊢
   have e:rekeyP a = (0,(rekeyP a).2.1,(rekeyP a).2.2):=by rw [← h]
   rw [(rekeyP_ne e).2.1]
  ·simp only [g2,if_false] at h ⊢
   have e:sellP T a x.te x.mo = (0,(sellP T a x.te x.mo).2.1,(sellP T a x.te x.mo).2.2):=by rw [← h]
   exact (sellP_ne e).2.2.2.2.2.2.1
def Unlike (a b:Acc):Prop:=b.next = a.next + 1 ∨ (b.me = a.me ∧ b.rev = a.rev ∧ b.next = a.next ∧ b.month = a.month ∧ b.bought = a.bought ∧ b.free = a.free ∧ b.l.length = a.l.length + 1)
structure Had (T:Tm) (c:List Nat) (L:List Ev) (B:List Cu) (lp:List Pr) (k:Nat) (me:Nat) (c2:Cu) (v:Ev) (V:Sv):Prop where
 wl:V.wl = putW 600 (L.length * 14) (evW v)
 len:1 ≤ V.wl.length ∧ V.wl.length ≤ 15
 at_:∀ p ∈ V.wl,p.1 < 600
 lt:∀ p ∈ V.wl,p.2 < 4294967296
 shp:Shp T (applyW c V.wl) (L ++ [v]) (B.set me c2) V.lp (k + 1)
 torn:∀ j,j < V.wl.length → ∀ c5 lp2 k2,Shp T c5 L B lp2 k2 → Shp T (applyW c5 (V.wl.take j)) L B lp2 k2
 whole:∀ c5 lp2 k2,Shp T c5 L B lp2 k2 → Shp T (applyW c5 V.wl) (L ++ [v]) (B.set me c2) V.lp (k + 1)
 un:Unlike (B.getD me cu0).a c2.a
 lpl:V.lp.length ≤ lp.length + 1
 hv:v.ok
 gr:∀ j,∃ t,((B.set me c2).getD j cu0).s = (B.getD j cu0).s ++ t
 hi:me < B.length
 mec:c2.a.me = (B.getD me cu0).a.me
theorem Shp.ask {T:Tm} {c:List Nat} {L:List Ev} {B:List Cu} {lp:List Pr} {k:Nat} {o:Od} {x0 x1 x2 x3 x4:Int} (h:Shp T c L B lp k) (hT:T.Ok) (hk:k ≤ 30) (ho:o.Is x0 x1 x2 x3 x4) (h0:(o.V T (B.getD o.me cu0).a lp 600 L.length).E = 0) :
 Had T c L B lp k o.me (o.c T (B.getD o.me cu0) lp) (o.v T (B.getD o.me cu0).a lp) (o.V T (B.getD o.me cu0).a lp 600 L.length):=by
 have hp:=h.at_ ho.h3
 have hlens:=h.lens
 have hlen:=h.len
 have hlpl:=h.lpl
 have h3:=ho.h3
 have h5:=ho.h5
 have h7:=ho.h7
 have h9:=ho.h9
 have h11:=ho.h11
 have h13:=ho.h13
 obtain ⟨hi,_⟩:=place_some hp
 have hgd:B.getD o.me cu0 = B[o.me]'hi:=by simp [hi]
 have hme:(B.getD o.me cu0).a.me = o.me:=by rw [hgd];exact h.me _ _
 have key:(o.V T (B.getD o.me cu0).a lp 600 L.length).wl = putW c.length (L.length * 14) (evW (o.v T (B.getD o.me cu0).a lp)) ∧ (o.v T (B.getD o.me cu0).a lp).ok ∧ ((o.v T (B.getD o.me cu0).a lp).k ≠ 1 ∧ (o.v T (B.getD o.me cu0).a lp).te ≤ 1000000) ∧ keepE T B (o.v T (B.getD o.me cu0).a lp) = (0,B.set o.me (o.c T (B.getD o.me cu0) lp)) ∧ (o.c T (B.getD o.me cu0) lp).a.me = o.me ∧ OOk (o.V T (B.getD o.me cu0).a lp 600 L.length).lp ∧ (o.V T (B.getD o.me cu0).a lp 600 L.length).lp.length ≤ lp.length + 1 ∧ Unlike (B.getD o.me cu0).a (o.c T (B.getD o.me cu0) lp).a ∧ ∃ t,(o.c T (B.getD o.me cu0) lp).s = (B.getD o.me cu0).s ++ t:=by
  by_cases hq:o.q = 0
  ·have e1:o.V T (B.getD o.me cu0).a lp 600 L.length = ⟨if (oweP (B.getD o.me cu0).a o.ow o.bp).1 = 0 then putW 600 (L.length * 14) (evW (chgV o.me o.ow o.bp)) else [],lp,0,bil0,⟨#[]⟩,(oweP (B.getD o.me cu0).a o.ow o.bp).1⟩:=by unfold Od.V;rw [if_pos hq]
   have e2:o.v T (B.getD o.me cu0).a lp = chgV o.me o.ow o.bp:=by unfold Od.v;rw [if_pos hq]
   have e3:o.c T (B.getD o.me cu0) lp = ⟨(oweP (B.getD o.me cu0).a o.ow o.bp).2,(B.getD o.me cu0).s⟩:=by unfold Od.c;rw [if_pos hq]
   rw [e1] at h0 ⊢
   rw [e2,e3]
   dsimp only at h0 ⊢
   rw [if_pos h0,hlen]
   have e:oweP (B.getD o.me cu0).a o.ow o.bp = (0,(oweP (B.getD o.me cu0).a o.ow o.bp).2):=by rw [← h0]
   have hn:=(oweP_ne e).1
   refine ⟨rfl,chgV_ok (by omega) (by omega) (by omega) (by omega),⟨show (5:Nat) ≠ 1 by decide,show (0:Nat) ≤ 1000000 by decide⟩,chg_law hp h0,?_,h.ook,by omega,.inr ?_,[],by simp⟩
   ·rw [hn];exact hme
   ·rw [hn];exact ⟨rfl,rfl,rfl,rfl,rfl,rfl,by simp⟩
  ·have e1:o.V T (B.getD o.me cu0).a lp 600 L.length = saleP T (B.getD o.me cu0).a lp c.length L.length o.d o.rq:=by unfold Od.V;rw [if_neg hq,hlen]
   have e2:o.v T (B.getD o.me cu0).a lp = saleV T (B.getD o.me cu0).a lp o.d o.rq:=by unfold Od.v;rw [if_neg hq]
   have e3:o.c T (B.getD o.me cu0) lp = ⟨(o.rq.r T (B.getD o.me cu0).a).2.1,(B.getD o.me cu0).s ++ [soldP (B.getD o.me cu0).a.rev (saleV T (B.getD o.me cu0).a lp o.d o.rq) (o.rq.r T (B.getD o.me cu0).a).2.1]⟩:=by unfold Od.c;rw [if_neg hq]
   rw [e1] at h0 ⊢
   rw [e2,e3]
   obtain ⟨s1,s2,s3,s4,s5,s6⟩:=sale_law (x:=o.rq) (i:=o.me) hT h.srv ⟨show o.me ≤ 49 by omega,show 1 ≤ o.te by omega,show o.te ≤ 100000000 by omega,show o.mo ≤ 2399 by omega⟩ hp (by omega) (by omega) h.ook (by omega) h13 h0
   exact ⟨s3,s2,⟨o.rq.k_ne.1,Rq.tel s1 (show o.te ≤ 1000000 by omega)⟩,s4,(Rq.meq s1).trans hme,s5,s6,.inl (Rq.next s1),_,rfl⟩
 obtain ⟨k1,k2,k3,k4,k5,k6,k7,k8,k9⟩:=key
 have hat:=putW_at (len:=c.length) (at0:=L.length * 14) (r:=evW (o.v T (B.getD o.me cu0).a lp)) (by simp only [evW,List.length_cons,List.length_nil];omega)
 have hwn:=putW_len c.length (L.length * 14) (evW (o.v T (B.getD o.me cu0).a lp))
 have e13:(evW (o.v T (B.getD o.me cu0).a lp)).length = 13:=rfl
 rw [e13] at hwn
 have hlt:=putW_lt (len:=c.length) (at0:=L.length * 14) (r:=evW (o.v T (B.getD o.me cu0).a lp)) ⟨by simp [evW],fun x hx => by have:=k2.lt x hx;omega⟩
 have hsh:=h.step hk k2 k3 hi k4 k5 k6 k7
 have hput:∀ c5 lp2 k2',Shp T c5 L B lp2 k2' → Srv T (applyW c5 (putW 600 (L.length * 14) (evW (o.v T (B.getD o.me cu0).a lp)))) (L ++ [o.v T (B.getD o.me cu0).a lp]) (B.set o.me (o.c T (B.getD o.me cu0) lp)) ∧ ∀ k,k < (putW 600 (L.length * 14) (evW (o.v T (B.getD o.me cu0).a lp))).length → Srv T (applyW c5 ((putW 600 (L.length * 14) (evW (o.v T (B.getD o.me cu0).a lp))).take k)) L B:=by
  intro c5 lp2 k2' h5
  have h:=h5.srv.put k2 k4 (by omega) (by have:=h5.len;omega)
  rwa [h5.len] at h
 have k1':=k1
 rw [hlen] at k1'
 rw [← k1] at hat hwn hlt hsh
 rw [← k1'] at hput
 refine ⟨k1',by omega,fun p hp => by have:=(hat p hp).2;omega,hlt,hsh,fun j hj c5 lp2 k2' h2 => ⟨(hput c5 lp2 k2' h2).2 j hj,by rw [applyW_length];exact h2.len,h2.evs,h2.cus,h2.me,h2.ook,h2.lpl⟩,fun c5 lp2 k2' h2 => ⟨(hput c5 lp2 k2' h2).1,by rw [applyW_length];exact h2.len,hsh.evs,hsh.cus,hsh.me,hsh.ook,hsh.lpl⟩,k8,k7,k2,fun j => ?_,hi,k5.trans hme.symm⟩
 by_cases hj:j = o.me
 ·subst hj
  obtain ⟨t,ht⟩:=k9
  exact ⟨t,by rw [← ht];simp [hi]⟩
 ·refine ⟨[],?_⟩
  simp only [List.append_nil,List.getD_eq_getElem?_getD,List.getElem?_set_ne (Ne.symm hj)]
theorem Od.V_lp0 {o:Od} {T:Tm} {a:Acc} {lp:List Pr} {n m:Nat} (hq:o.q = 0):(o.V T a lp n m).lp = lp ∧ (o.V T a lp n m).s = ⟨#[]⟩ ∧ (o.V T a lp n m).me = 0 ∧ (o.V T a lp n m).b = bil0:=by
 unfold Od.V
 rw [if_pos hq]
 exact ⟨rfl,rfl,rfl,rfl⟩
theorem Od.V_sale {o:Od} {T:Tm} {a:Acc} {lp:List Pr} {n m:Nat} (hq:o.q ≠ 0) (h:(o.V T a lp n m).E = 0):(o.V T a lp n m).me = o.me ∧ (o.V T a lp n m).b = (o.rq.r T a).2.2 ∧ (o.rq.r T a).1 = 0 ∧ (o.V T a lp n m).s = dstr (tokD o.rq.cls (o.rq.r T a).2.2.id (amP o.rq.cls (o.rq.r T a)) (tagP lp o.me a.rev o.rq.cls o.d (o.rq.r T a))):=by
 unfold Od.V at h ⊢
 rw [if_neg hq] at h ⊢
 unfold saleP at h ⊢
 rw [svP_E] at h
 rw [svP_ok h]
 exact ⟨rfl,rfl,h,rfl⟩
theorem vsellg_ok (T:Tm) (hT:T.Ok) (At:Option Addr) (nt ct:Nat) (cv:Value) (c:List Nat) (L:List Ev) (B:List Cu) (me i mo d:Nat) (Ao:Option Addr) (no co:Nat) (lp:List Pr) (kk fn cls am:Nat) (cap:Array Value) (E me2 rev2 next2 month2 bought2:Nat) (free2:Int) (l2:List (Nat × Nat)) (id te de fe pr ch un:Nat) (w:World)
 (hvt:IsDs w (.slice At nt ct) T.tl) (hc:IsWs w cv c) (hS:Srv T c L B) (hme:me ≤ 49) (hp:place B me = some i) (hL:L.length < 120) (hf:(L.length + 1) * 14 ≤ c.length) (hps:IsPs w (.slice Ao no co) lp) (hlp:OOk lp) (h5:lp.length < 500) (hd:d ≤ 65535)
 (hW:∀ (W:World) (Ad:Option Addr) (cd:Nat),Below w.heap.size w W → IsDs W (.slice Ad (B.getD i cu0).a.l.length cd) (B.getD i cu0).a.l → Calls Tryz.prog fn (#[.agg #[.int .i64 ((B.getD i cu0).a.me:Int),.int .i64 ((B.getD i cu0).a.rev:Int),.int .i64 ((B.getD i cu0).a.next:Int),.int .i64 ((B.getD i cu0).a.month:Int),.int .i64 ((B.getD i cu0).a.bought:Int),.int .i64 (B.getD i cu0).a.free,.slice Ad (B.getD i cu0).a.l.length cd]] ++ cap) W (RetDI E me2 rev2 next2 month2 bought2 free2 l2 id te de fe pr ch un W))
 (hEn:∀ args U,(callFunc fn args).run Tryz.prog U = .ok (.enter fn args) U) (hcl:(cls = 0 ∧ am = un) ∨ (cls = 2 ∧ am = rev2))
 (hz:E = 0 → TkOk cls id am 0 ∧ ∀ t,t ≤ 65535 → (Ev.mk kk me mo id te de fe pr ch un t 0 0).ok) :
 Calls Tryz.prog 136 #[.agg #[.slice At nt ct,T.fx,T.fb,T.db,T.al],cv,.agg #[.slice Ao no co],.int .i64 ↑d,.agg #[.int .i64 ↑kk,.int .i64 ↑me,.int .i64 ↑mo,.int .i64 0,.int .i64 0,.int .i64 0,.int .i64 0,.int .i64 0,.int .i64 0,.int .i64 0,.int .i64 0,.int .i64 0,.int .i64 0,.int .i64 ↑cls,.func (.func fn) #[] cap]] w (RetVSell E kk me mo id te de fe pr ch un cls am (B.getD i cu0).a.rev d lp c L w):=by
 obtain ⟨hi,hime⟩:=place_some hp
 clear hime
 have hBk:=runE_bok hT L [] B 0 (bok_nil T) (by omega) hS.ok hS.run
 have hgd:B.getD i cu0 = B[i]:=by simp [hi]
 have hao:=(hBk.h1 B[i] (List.getElem_mem hi)).1
 rw [hgd] at hW ⊢
 have hO:=fun W h1 h2 => vopen_ok T hT At nt ct cv c L B W h1 h2 hS
 unfold RetShop at hO
 have hK:=fun g x0 x1 x2 x3 x4 x5 v W hv hs hw => vkeep_ok g x0 x1 x2 x3 x4 x5 cv c L v W hs hw hS.tape hS.h2 hL hv hf
 unfold RetWrOwn at hK
 obtain ⟨Ac,nc,cc,rfl⟩:∃ Ac nc cc,cv = .slice Ac nc cc:=by obtain ⟨X,y,h,_⟩:=hc;exact ⟨X,_,y,h⟩
 have HI:=Lib.hid (And.intro hi hp)
 have hat:=fun W A n c (h:IsBk W (.slice A n c) B) => h.at_ hi
 generalize B[i] = cu at hao hat hW ⊢
 obtain ⟨⟨ame,rev,next,month,bought,free,l⟩,s⟩:=cu
 dsimp only at hao hat hW ⊢
 have hrev:rev ≤ 15:=hao.h1.h2
 have HB:=Lib.hid (And.intro hrev (And.intro hme (And.intro hlp (And.intro h5 hd))))
 clear hS hL hf hgd hBk hi hao hp hrev
 have H:=Mem.init w
 replace H:=H.al w.heap.size #[.slice At nt ct,T.fx,T.fb,T.db,T.al] (31) |>.al (w.heap.size + 1) #[.slice Ao no co] (35) |>.al (w.heap.size + 1 + 1) #[.int .i64 ↑kk,.int .i64 ↑me,.int .i64 ↑mo,.int .i64 0,.int .i64 0,.int .i64 0,.int .i64 0,.int .i64 0,.int .i64 0,.int .i64 0,.int .i64 0,.int .i64 0,.int .i64 0,.int .i64 ↑cls,.func (.func fn) #[] cap] (271) |>.al (w.heap.size + 1 + 1 + 1) #[.slice none 0 0,.slice none 0 0,(),(),(),(),(),(),(),(),.string ⟨#[]⟩] (267) |>.gen
 simp only [List.nil_append,List.cons_append] at H
 obtain ⟨W0,hW0,H⟩:=H
 have hvt0:=hvt.below H.below
 have hc0:=hc.below H.below
 have Ltt:=H.c5 0 rfl
 go_enter Tryz.func136,Tryz.ntmps136
 go_wp2_with fail
 refine (hO _ hvt0 hc0).mono ?_
 rintro e w1 ⟨g,u,rfl,HK,hbk⟩
 obtain ⟨Ab,nb,cb,rfl⟩:=hbk.slice
 have hbw:=HK.below
 obtain ⟨b,off,Ad,cd,As,cs,rfl,hbl,hds,hss,p0,p1,p2,p3,p4,p5,p6,p7⟩:=hat w1 Ab nb cb hbk.is
 clear p7 hss
 have hc1:=hc0.below hbw
 replace H:Mem (w) [] (w1) [.blk (w.heap.size) 31 #[.slice At nt ct,T.fx,T.fb,T.db,T.al],.blk (w.heap.size + 1) 35 #[.slice Ao no co],.blk (w.heap.size + 1 + 1) 271 #[.int .i64 ↑kk,.int .i64 ↑me,.int .i64 ↑mo,.int .i64 0,.int .i64 0,.int .i64 0,.int .i64 0,.int .i64 0,.int .i64 0,.int .i64 0,.int .i64 0,.int .i64 0,.int .i64 0,.int .i64 ↑cls,.func (.func fn) #[] cap],.blk (w.heap.size + 1 + 1 + 1) 267 #[.slice none 0 0,.slice none 0 0,(),(),(),(),(),(),(),(),.string ⟨#[]⟩],.blk (g) 121 #[.slice (some ⟨b,off,none⟩) nb cb,.slice At nt ct,T.fx,T.fb,T.db,T.al,.slice Ac nc cc,L.length]]:=Mem.join H HK
 clear hO hvt0 hc0 hW0 HK hbw
 clear Ltt
 have Lod:=H.c15 2 rfl
 go_wp2_with fail
 refine (customer_some g b off nb cb i me _ _ _ _ _ _ _ B _ (H.blk 4 rfl) hbk.is HI.out.2).mono ?_
 rintro e w2 ⟨rfl,hb2⟩
 obtain ⟨o,ho⟩:∃ o,off + i * 8 = o:=⟨_,rfl⟩
 rw [ho] at p0 p1 p2 p3 p4 p5 p6 ⊢
 have q0:=(hb2.cell (p:=⟨b,o,none⟩) hbl).trans p0
 have q1:=(hb2.cell (p:=⟨b,o + 1,none⟩) hbl).trans p1
 have q2:=(hb2.cell (p:=⟨b,o + 2,none⟩) hbl).trans p2
 have q3:=(hb2.cell (p:=⟨b,o + 3,none⟩) hbl).trans p3
 have q4:=(hb2.cell (p:=⟨b,o + 4,none⟩) hbl).trans p4
 have q5:=(hb2.cell (p:=⟨b,o + 5,none⟩) hbl).trans p5
 have q6:=(hb2.cell (p:=⟨b,o + 6,none⟩) hbl).trans p6
 have hbl2:=Nat.lt_of_lt_of_le hbl hb2.size
 have hds2:=hds.below hb2
 have hc2:=hc1.below hb2
 replace H:=Mem.call H hb2
 have hbww:=H.below
 have hWk:=fun W h h2 => hW W Ad cd (hbww.trans (Below.mono h hbww.size)) h2
 unfold RetDI at hWk
 clear ho p0 p1 p2 p3 p4 p5 p6 hc1 hb2 hbl hbk hds hW hbww
 clear Lod
 obtain ⟨odlt,od0,-,od1,-,od2,-,od3,-,od4,-,od5,-,od6,-,od7,-,od8,-,od9,-,od10,-,od11,-,od12,-,od13,-,od14,-⟩:=H.c15 2 rfl
 go_upto_region 7 with fail
 obtain ⟨LL,hLL⟩:∃ LL:List Chunk,[.blk (w.heap.size) 31 #[.slice At nt ct,T.fx,T.fb,T.db,T.al],.blk (w.heap.size + 1) 35 #[.slice Ao no co],.blk (w.heap.size + 1 + 1) 271 #[.int .i64 ↑kk,.int .i64 ↑me,.int .i64 ↑mo,.int .i64 0,.int .i64 0,.int .i64 0,.int .i64 0,.int .i64 0,.int .i64 0,.int .i64 0,.int .i64 0,.int .i64 0,.int .i64 0,.int .i64 ↑cls,.func (.func fn) #[] cap],.blk (w.heap.size + 1 + 1 + 1) 267 #[.slice none 0 0,.slice none 0 0,(),(),(),(),(),(),(),(),.string ⟨#[]⟩],.blk (g) 121 #[.slice (some ⟨b,off,none⟩) nb cb,.slice At nt ct,T.fx,T.fb,T.db,T.al,.slice Ac nc cc,L.length]] = LL:=⟨_,rfl⟩
 rw [hLL] at H
 go_cut [15,16,13] (fun p0 p1 p2 wx => ∃ (na bi:Nat) (A2:Option Addr) (d2:Nat) (base:Nat),p0 = .pointer (some ⟨na,0,none⟩) ∧ p1 = .pointer (some ⟨bi,0,none⟩) ∧ p2 = .int .i64 ↑E ∧ Mem (w) [] wx (LL ++ (.blk na 64 #[me2,rev2,next2,month2,bought2,free2,.slice A2 l2.length d2] :: .blk bi 47 #[id,te,de,fe,pr,ch,un] :: [.row (base) (90) (2) (.slice A2 l2.length d2) (l2.length) (drs l2)])) ∧ Below w2.heap.size w2 wx)
 case first =>
  obtain ⟨Sd,hSd⟩:∃ Sd:World → Prop,Sd = fun w' => w'.cell? ⟨w.heap.size + 1 + 1,14,none⟩ = some (.func (.func fn) #[] cap) ∧ w'.cell? ⟨b,o,none⟩ = some (.int .i64 ↑ame) ∧ w'.cell? ⟨b,o + 1,none⟩ = some (.int .i64 ↑rev) ∧ w'.cell? ⟨b,o + 2,none⟩ = some (.int .i64 ↑next) ∧ w'.cell? ⟨b,o + 3,none⟩ = some (.int .i64 ↑month) ∧ w'.cell? ⟨b,o + 4,none⟩ = some (.int .i64 ↑bought) ∧ w'.cell? ⟨b,o + 5,none⟩ = some (.int .i64 free) ∧ w'.cell? ⟨b,o + 6,none⟩ = some (.slice Ad l.length cd):=⟨_,rfl⟩
  have hSk:∀ we,Below w2.heap.size w2 we → Sd we:=fun we hWe => by rw [hSd];exact ⟨(hWe.cell odlt).trans od14,(hWe.cell hbl2).trans q0,(hWe.cell hbl2).trans q1,(hWe.cell hbl2).trans q2,(hWe.cell hbl2).trans q3,(hWe.cell hbl2).trans q4,(hWe.cell hbl2).trans q5,(hWe.cell hbl2).trans q6⟩
  have nz0a:w2.heap.size ≠ w.heap.size + 1 + 1:=by have:=odlt;omega
  have nz0b:w2.heap.size + 1 ≠ w.heap.size + 1 + 1:=by have:=odlt;omega
  have nz0c:w.heap.size + 1 + 1 ≠ w2.heap.size:=by have:=odlt;omega
  have nz0d:w.heap.size + 1 + 1 ≠ w2.heap.size + 1:=by have:=odlt;omega
  have nz1a:w2.heap.size ≠ b:=by have:=hbl2;omega
  have nz1b:w2.heap.size + 1 ≠ b:=by have:=hbl2;omega
  have nz1c:b ≠ w2.heap.size:=by have:=hbl2;omega
  have nz1d:b ≠ w2.heap.size + 1:=by have:=hbl2;omega
  have nz0e:w2.heap.size ≠ w.heap.size + 1:=by have:=odlt;omega
  have nz0f:w.heap.size + 1 ≠ w2.heap.size:=by have:=odlt;omega
  have V0:Mem w2 [] (w2).drew []:=(Mem.init w2).drew
  have B0:=V0.below
  have V1:Mem w2 [] (w2.alloc (.cells #[(),(),(),(),(),(),.slice none 0 0] 64)).drew [.blk (w2.heap.size) 64 #[(),(),(),(),(),(),.slice none 0 0]]:=((Mem.init w2).alloc _ rfl #[(),(),(),(),(),(),.slice none 0 0] 64).drew
  have B1:=V1.below
  have V1b0:=V1.blk 0 rfl
  have V2:Mem w2 [] (w2.alloc (.cells #[(),(),(),(),(),(),()] 47)).drew [.blk (w2.heap.size) 47 #[(),(),(),(),(),(),()]]:=((Mem.init w2).alloc _ rfl #[(),(),(),(),(),(),()] 47).drew
  have B2:=V2.below
  have V2b1:=V2.blk 0 rfl
  have V3:Mem w2 [] ((w2.alloc (.cells #[(),(),(),(),(),(),.slice none 0 0] 64)).alloc (.cells #[(),(),(),(),(),(),()] 47)).drew [.blk (w2.heap.size) 64 #[(),(),(),(),(),(),.slice none 0 0],.blk (w2.heap.size + 1) 47 #[(),(),(),(),(),(),()]]:=(((Mem.init w2).alloc _ rfl #[(),(),(),(),(),(),.slice none 0 0] 64).alloc (w2.heap.size + 1) (by simp) #[(),(),(),(),(),(),()] 47).drew
  have B3:=V3.below
  have V3b0:=V3.blk 0 rfl
  have V3b1:=V3.blk 1 rfl
  have V4:Mem w2 [] ((w2.alloc (.cells #[(),(),(),(),(),(),()] 47)).alloc (.cells #[(),(),(),(),(),(),.slice none 0 0] 64)).drew [.blk (w2.heap.size + 1) 64 #[(),(),(),(),(),(),.slice none 0 0],.blk (w2.heap.size) 47 #[(),(),(),(),(),(),()]]:=Mem.perm (List.Perm.swap _ _ _) (((Mem.init w2).alloc _ rfl #[(),(),(),(),(),(),()] 47).alloc (w2.heap.size + 1) (by simp) #[(),(),(),(),(),(),.slice none 0 0] 64).drew
  have B4:=V4.below
  have V4b0:=V4.blk 0 rfl
  have V4b1:=V4.blk 1 rfl
  go_region_held3 (fun w' => w'.cell? ⟨w.heap.size + 1 + 1,14,none⟩ = some (.func (.func fn) #[] cap) ∧ w'.cell? ⟨b,o,none⟩ = some (.int .i64 ↑ame) ∧ w'.cell? ⟨b,o + 1,none⟩ = some (.int .i64 ↑rev) ∧ w'.cell? ⟨b,o + 2,none⟩ = some (.int .i64 ↑next) ∧ w'.cell? ⟨b,o + 3,none⟩ = some (.int .i64 ↑month) ∧ w'.cell? ⟨b,o + 4,none⟩ = some (.int .i64 ↑bought) ∧ w'.cell? ⟨b,o + 5,none⟩ = some (.int .i64 free) ∧ w'.cell? ⟨b,o + 6,none⟩ = some (.slice Ad l.length cd)) (first | with_reducible exact ⟨s0,s1,s2,s3,s4,s5,s6,s7⟩ | go_keep | fail) (first | ((with_reducible refine (hWk (w2).drew B0 (hds2.below B0)).mono ?_);rintro e we ⟨A2,d2,rfl,hown,hbe⟩;have hV:=V0;obtain ⟨bse,hK⟩:∃ bse:Nat,Mem (w2).drew [] we [.row (bse) (90) (2) (.slice A2 l2.length d2) (l2.length) (drs l2)]:=⟨_,Mem.row (Mem.init _) hbe hown (Nat.le_refl _)⟩;have hWe:Below w2.heap.size w2 we:=B0.trans (hbe.mono B0.size);have q:=hSk _ hWe;rw [hSd] at q;obtain ⟨s0,s1,s2,s3,s4,s5,s6,s7⟩:=q;have sz:=hWe.size;have ez0c:we.heap.size ≠ w.heap.size + 1:=(by have:=odlt;omega);have ez0a:we.heap.size ≠ w.heap.size + 1 + 1:=(by have:=odlt;omega);have ez0b:we.heap.size + 1 ≠ w.heap.size + 1 + 1:=(by have:=odlt;omega);have ez1a:we.heap.size ≠ b:=(by have:=hbl2;omega);have ez1b:we.heap.size + 1 ≠ b:=(by have:=hbl2;omega)) | ((with_reducible refine (hWk (w2.alloc (.cells #[(),(),(),(),(),(),.slice none 0 0] 64)).drew B1 (hds2.below B1)).mono ?_);rintro e we ⟨A2,d2,rfl,hown,hbe⟩;have hV:=V1;obtain ⟨bse,hK⟩:∃ bse:Nat,Mem (w2.alloc (.cells #[(),(),(),(),(),(),.slice none 0 0] 64)).drew [] we [.row (bse) (90) (2) (.slice A2 l2.length d2) (l2.length) (drs l2)]:=⟨_,Mem.row (Mem.init _) hbe hown (Nat.le_refl _)⟩;have hWe:Below w2.heap.size w2 we:=B1.trans (hbe.mono B1.size);have q:=hSk _ hWe;rw [hSd] at q;obtain ⟨s0,s1,s2,s3,s4,s5,s6,s7⟩:=q;have sz:=hWe.size;have ez0c:we.heap.size ≠ w.heap.size + 1:=(by have:=odlt;omega);have ez0a:we.heap.size ≠ w.heap.size + 1 + 1:=(by have:=odlt;omega);have ez0b:we.heap.size + 1 ≠ w.heap.size + 1 + 1:=(by have:=odlt;omega);have ez1a:we.heap.size ≠ b:=(by have:=hbl2;omega);have ez1b:we.heap.size + 1 ≠ b:=(by have:=hbl2;omega);have zb0:=Blk.below V1b0 hbe V1b0.lt;obtain ⟨zb0lt,zb0_0,zb0f0,zb0_1,zb0f1,zb0_2,zb0f2,zb0_3,zb0f3,zb0_4,zb0f4,zb0_5,zb0f5,zb0_6,zb0f6⟩:=(V1.call hbe).c7 0 rfl) | ((with_reducible refine (hWk (w2.alloc (.cells #[(),(),(),(),(),(),()] 47)).drew B2 (hds2.below B2)).mono ?_);rintro e we ⟨A2,d2,rfl,hown,hbe⟩;have hV:=V2;obtain ⟨bse,hK⟩:∃ bse:Nat,Mem (w2.alloc (.cells #[(),(),(),(),(),(),()] 47)).drew [] we [.row (bse) (90) (2) (.slice A2 l2.length d2) (l2.length) (drs l2)]:=⟨_,Mem.row (Mem.init _) hbe hown (Nat.le_refl _)⟩;have hWe:Below w2.heap.size w2 we:=B2.trans (hbe.mono B2.size);have q:=hSk _ hWe;rw [hSd] at q;obtain ⟨s0,s1,s2,s3,s4,s5,s6,s7⟩:=q;have sz:=hWe.size;have ez0c:we.heap.size ≠ w.heap.size + 1:=(by have:=odlt;omega);have ez0a:we.heap.size ≠ w.heap.size + 1 + 1:=(by have:=odlt;omega);have ez0b:we.heap.size + 1 ≠ w.heap.size + 1 + 1:=(by have:=odlt;omega);have ez1a:we.heap.size ≠ b:=(by have:=hbl2;omega);have ez1b:we.heap.size + 1 ≠ b:=(by have:=hbl2;omega);have zb1:=Blk.below V2b1 hbe V2b1.lt;obtain ⟨zb1lt,zb1_0,zb1f0,zb1_1,zb1f1,zb1_2,zb1f2,zb1_3,zb1f3,zb1_4,zb1f4,zb1_5,zb1f5,zb1_6,zb1f6⟩:=(V2.call hbe).c7 0 rfl) | ((with_reducible refine (hWk ((w2.alloc (.cells #[(),(),(),(),(),(),.slice none 0 0] 64)).alloc (.cells #[(),(),(),(),(),(),()] 47)).drew B3 (hds2.below B3)).mono ?_);rintro e we ⟨A2,d2,rfl,hown,hbe⟩;have hV:=V3;obtain ⟨bse,hK⟩:∃ bse:Nat,Mem ((w2.alloc (.cells #[(),(),(),(),(),(),.slice none 0 0] 64)).alloc (.cells #[(),(),(),(),(),(),()] 47)).drew [] we [.row (bse) (90) (2) (.slice A2 l2.length d2) (l2.length) (drs l2)]:=⟨_,Mem.row (Mem.init _) hbe hown (Nat.le_refl _)⟩;have hWe:Below w2.heap.size w2 we:=B3.trans (hbe.mono B3.size);have q:=hSk _ hWe;rw [hSd] at q;obtain ⟨s0,s1,s2,s3,s4,s5,s6,s7⟩:=q;have sz:=hWe.size;have ez0c:we.heap.size ≠ w.heap.size + 1:=(by have:=odlt;omega);have ez0a:we.heap.size ≠ w.heap.size + 1 + 1:=(by have:=odlt;omega);have ez0b:we.heap.size + 1 ≠ w.heap.size + 1 + 1:=(by have:=odlt;omega);have ez1a:we.heap.size ≠ b:=(by have:=hbl2;omega);have ez1b:we.heap.size + 1 ≠ b:=(by have:=hbl2;omega);have zb0:=Blk.below V3b0 hbe V3b0.lt;obtain ⟨zb0lt,zb0_0,zb0f0,zb0_1,zb0f1,zb0_2,zb0f2,zb0_3,zb0f3,zb0_4,zb0f4,zb0_5,zb0f5,zb0_6,zb0f6⟩:=(V3.call hbe).c7 0 rfl;have zb1:=Blk.below V3b1 hbe V3b1.lt;obtain ⟨zb1lt,zb1_0,zb1f0,zb1_1,zb1f1,zb1_2,zb1f2,zb1_3,zb1f3,zb1_4,zb1f4,zb1_5,zb1f5,zb1_6,zb1f6⟩:=(V3.call hbe).c7 1 rfl;have zn1:w2.heap.size ≠ w2.heap.size + 1:=(by omega);have zn2:w2.heap.size + 1 ≠ w2.heap.size:=(by omega)) | ((with_reducible refine (hWk ((w2.alloc (.cells #[(),(),(),(),(),(),()] 47)).alloc (.cells #[(),(),(),(),(),(),.slice none 0 0] 64)).drew B4 (hds2.below B4)).mono ?_);rintro e we ⟨A2,d2,rfl,hown,hbe⟩;have hV:=V4;obtain ⟨bse,hK⟩:∃ bse:Nat,Mem ((w2.alloc (.cells #[(),(),(),(),(),(),()] 47)).alloc (.cells #[(),(),(),(),(),(),.slice none 0 0] 64)).drew [] we [.row (bse) (90) (2) (.slice A2 l2.length d2) (l2.length) (drs l2)]:=⟨_,Mem.row (Mem.init _) hbe hown (Nat.le_refl _)⟩;have hWe:Below w2.heap.size w2 we:=B4.trans (hbe.mono B4.size);have q:=hSk _ hWe;rw [hSd] at q;obtain ⟨s0,s1,s2,s3,s4,s5,s6,s7⟩:=q;have sz:=hWe.size;have ez0c:we.heap.size ≠ w.heap.size + 1:=(by have:=odlt;omega);have ez0a:we.heap.size ≠ w.heap.size + 1 + 1:=(by have:=odlt;omega);have ez0b:we.heap.size + 1 ≠ w.heap.size + 1 + 1:=(by have:=odlt;omega);have ez1a:we.heap.size ≠ b:=(by have:=hbl2;omega);have ez1b:we.heap.size + 1 ≠ b:=(by have:=hbl2;omega);have zb0:=Blk.below V4b0 hbe V4b0.lt;obtain ⟨zb0lt,zb0_0,zb0f0,zb0_1,zb0f1,zb0_2,zb0f2,zb0_3,zb0f3,zb0_4,zb0f4,zb0_5,zb0f5,zb0_6,zb0f6⟩:=(V4.call hbe).c7 0 rfl;have zb1:=Blk.below V4b1 hbe V4b1.lt;obtain ⟨zb1lt,zb1_0,zb1f0,zb1_1,zb1f1,zb1_2,zb1f2,zb1_3,zb1f3,zb1_4,zb1f4,zb1_5,zb1f5,zb1_6,zb1f6⟩:=(V4.call hbe).c7 1 rfl;have zn1:w2.heap.size + 1 ≠ w2.heap.size:=(by omega);have zn2:w2.heap.size ≠ w2.heap.size + 1:=(by omega)))
  all_goals
   go_wp2_with fail
   go_meet
   refine ⟨_,_,A2,d2,bse,rfl,rfl,rfl,?_⟩
   first
   | with_reducible exact ⟨cr2_a H hV hK,(cr2_a (Mem.init w2) hV hK).below⟩
   | with_reducible exact ⟨cr2_b H hV hK,(cr2_b (Mem.init w2) hV hK).below⟩
   | (have h:=cr2_c (c1:=#[me2,rev2,next2,month2,bought2,free2,.slice A2 l2.length d2]) (c2:=#[id,te,de,fe,pr,ch,un]) (t1:=64) (t2:=47) (Mem.init w2) hV hK [(0,.int .i64 ↑me2),(1,.int .i64 ↑rev2),(2,.int .i64 ↑next2),(3,.int .i64 ↑month2),(4,.int .i64 ↑bought2),(5,.int .i64 free2),(6,.slice A2 l2.length d2)] (by simp only [List.foldl_cons,List.foldl_nil,List.setIfInBounds_toArray,List.set_cons_zero,List.set_cons_succ])
      simp only [sets,List.foldl_cons,List.foldl_nil,List.nil_append] at h
      with_reducible exact ⟨H.join h,h.below⟩)
   | (have h:=cr2_d (c1:=#[me2,rev2,next2,month2,bought2,free2,.slice A2 l2.length d2]) (c2:=#[id,te,de,fe,pr,ch,un]) (t1:=64) (t2:=47) (Mem.init w2) hV hK [(0,.int .i64 ↑id),(1,.int .i64 ↑te),(2,.int .i64 ↑de),(3,.int .i64 ↑fe),(4,.int .i64 ↑pr),(5,.int .i64 ↑ch),(6,.int .i64 ↑un)] (by simp only [List.foldl_cons,List.foldl_nil,List.setIfInBounds_toArray,List.set_cons_zero,List.set_cons_succ])
      simp only [sets,List.foldl_cons,List.foldl_nil,List.nil_append] at h
      with_reducible exact ⟨H.join h,h.below⟩)
   | (have h:=cr2_e (c1:=#[me2,rev2,next2,month2,bought2,free2,.slice A2 l2.length d2]) (c2:=#[id,te,de,fe,pr,ch,un]) (t1:=64) (t2:=47) (Mem.init w2) hV hK [(0,.int .i64 ↑me2),(1,.int .i64 ↑rev2),(2,.int .i64 ↑next2),(3,.int .i64 ↑month2),(4,.int .i64 ↑bought2),(5,.int .i64 free2),(6,.slice A2 l2.length d2)] [(0,.int .i64 ↑id),(1,.int .i64 ↑te),(2,.int .i64 ↑de),(3,.int .i64 ↑fe),(4,.int .i64 ↑pr),(5,.int .i64 ↑ch),(6,.int .i64 ↑un)] (by simp only [List.foldl_cons,List.foldl_nil,List.setIfInBounds_toArray,List.set_cons_zero,List.set_cons_succ]) (by simp only [List.foldl_cons,List.foldl_nil,List.setIfInBounds_toArray,List.set_cons_zero,List.set_cons_succ])
      simp only [sets,List.foldl_cons,List.foldl_nil,List.nil_append] at h
      with_reducible exact ⟨H.join h,h.below⟩)
   | (have h:=cr2_f (c1:=#[me2,rev2,next2,month2,bought2,free2,.slice A2 l2.length d2]) (c2:=#[id,te,de,fe,pr,ch,un]) (t1:=64) (t2:=47) (Mem.init w2) hV hK [(0,.int .i64 ↑me2),(1,.int .i64 ↑rev2),(2,.int .i64 ↑next2),(3,.int .i64 ↑month2),(4,.int .i64 ↑bought2),(5,.int .i64 free2),(6,.slice A2 l2.length d2)] [(0,.int .i64 ↑id),(1,.int .i64 ↑te),(2,.int .i64 ↑de),(3,.int .i64 ↑fe),(4,.int .i64 ↑pr),(5,.int .i64 ↑ch),(6,.int .i64 ↑un)] (by simp only [List.foldl_cons,List.foldl_nil,List.setIfInBounds_toArray,List.set_cons_zero,List.set_cons_succ]) (by simp only [List.foldl_cons,List.foldl_nil,List.setIfInBounds_toArray,List.set_cons_zero,List.set_cons_succ])
      simp only [sets,List.foldl_cons,List.foldl_nil,List.nil_append] at h
      with_reducible exact ⟨H.join h,h.below⟩)
 case rest =>
  obtain ⟨na,bi,A2,d2,base,rfl,rfl,rfl,H,hCR⟩:=hcut
  subst hLL
  replace H:Mem (w) [] (wc) [.blk (w.heap.size) 31 #[.slice At nt ct,T.fx,T.fb,T.db,T.al],.blk (w.heap.size + 1) 35 #[.slice Ao no co],.blk (w.heap.size + 1 + 1) 271 #[.int .i64 ↑kk,.int .i64 ↑me,.int .i64 ↑mo,.int .i64 0,.int .i64 0,.int .i64 0,.int .i64 0,.int .i64 0,.int .i64 0,.int .i64 0,.int .i64 0,.int .i64 0,.int .i64 0,.int .i64 ↑cls,.func (.func fn) #[] cap],.blk (w.heap.size + 1 + 1 + 1) 267 #[.slice none 0 0,.slice none 0 0,(),(),(),(),(),(),(),(),.string ⟨#[]⟩],.blk (g) 121 #[.slice (some ⟨b,off,none⟩) nb cb,.slice At nt ct,T.fx,T.fb,T.db,T.al,.slice Ac nc cc,L.length],.blk (na) 64 #[me2,rev2,next2,month2,bought2,free2,.slice A2 l2.length d2],.blk (bi) 47 #[id,te,de,fe,pr,ch,un],.row (base) (90) (2) (.slice A2 l2.length d2) (l2.length) (drs l2)]:=H
  obtain ⟨wk,hwk⟩:∃ wk,wk = wc:=⟨_,rfl⟩
  subst hwk
  have hc3:=hc2.below (Below.mono hCR (Nat.le_refl _))
  have q1c:=(hCR.cell (p:=⟨b,o + 1,none⟩) hbl2).trans q1
  have hbl3:=Nat.lt_of_lt_of_le hbl2 hCR.size
  clear q0 q1 q2 q3 q4 q5 q6 hbl2 hds2 hWk hc2 hCR
  by_cases hE:E = 0
  rotate_left
  ·have hEb:((E:Int) == 0) = false:=by simp;omega
   have hEn:¬ (E:Int) = 0:=by omega
   clear hK q1c
   clear odlt od0 od1 od2 od3 od4 od5 od6 od7 od8 od9 od10 od11 od12 od13 od14
   have Lrs:=H.c11 3 rfl
   go_wp2
   replace H:=H.set 3 rfl 0 (.slice none 0 0) |>.set 3 rfl 1 (.slice none 0 0) |>.set 3 rfl 2 () |>.set 3 rfl 3 () |>.set 3 rfl 4 () |>.set 3 rfl 5 () |>.set 3 rfl 6 () |>.set 3 rfl 7 () |>.set 3 rfl 8 () |>.set 3 rfl 9 () |>.set 3 rfl 10 (.string ⟨#[]⟩) |>.gen
   simp only [List.set_cons_zero,List.set_cons_succ,List.setIfInBounds_toArray] at H
   obtain ⟨wz,hwz,H⟩:=H
   rw [hwz]
   clear hwz
   clear Lrs
   obtain ⟨rslt,rs0,-,rs1,-,rs2,-,rs3,-,rs4,-,rs5,-,rs6,-,rs7,-,rs8,-,rs9,-,rs10,-⟩:=H.c11 3 rfl
   refine bodyPost_ret (v:=.tuple #[.agg #[.slice none 0 0,.slice none 0 0,(),(),(),(),(),(),(),(),.string ⟨#[]⟩],E]) (by simp [results,Tryz.results136,go_sem,rs0,rs1,rs2,rs3,rs4,rs5,rs6,rs7,rs8,rs9,rs10];done) rfl ?_
   exact .inr ⟨hE,rfl,H.below⟩
  ·subst hE
   skip
   obtain ⟨hk0,hvo⟩:=hz rfl
   clear hz
   obtain ⟨hrev,hme,hlp,h5,hd⟩:=HB.out
   obtain ⟨body,hbody⟩:∃ bb,tbody cls id am = bb:=⟨_,rfl⟩
   have hB:=fun W => tbody_ok cls id am 0 body W hk0 (Lib.hid hbody)
   have hbl:=tbody_le hk0
   rw [hbody] at hbl
   have hmk:mayK ((me:Int),(rev:Int),(body:Int)):=by unfold mayK;dsimp only;omega
   have hwf:wf3 (me:Int) (rev:Int) (body:Int):=⟨WalkArith.wf_i64 (by omega),WalkArith.wf_i64 (by omega),WalkArith.wf_i64 (by omega)⟩
   obtain ⟨t0,t9⟩:=issT_bd (x:=(me:Int)) (y:=(rev:Int)) (z:=(body:Int)) (d:=(d:Int)) hlp (by omega) (by omega)
   obtain ⟨t2,ht2⟩:∃ t2:Nat,issT lp (me:Int) (rev:Int) (body:Int) (d:Int) = (t2:Int):=⟨(issT lp (me:Int) (rev:Int) (body:Int) (d:Int)).toNat,by omega⟩
   rw [ht2] at t0 t9
   obtain ⟨lp2,hl2⟩:∃ lp2,issL lp (me:Int) (rev:Int) (body:Int) (d:Int) = lp2:=⟨_,rfl⟩
   have hO2:=issL_ok (x:=(me:Int)) (y:=(rev:Int)) (z:=(body:Int)) (d:=(d:Int)) hlp hmk (by omega) (by omega) h5
   rw [hl2] at hO2
   have hI:=fun W h => issue_ok (.slice Ao no co) lp lp2 (me:Int) (rev:Int) (body:Int) (d:Int) (t2:Int) W h hlp hmk hwf (by omega) (by omega) h5 (Lib.hid hl2) (Lib.hid ht2)
   unfold RetIss at hI
   have ht65:t2 ≤ 65535:=by omega
   have hk2:TkOk cls id am t2:=⟨hk0.h1,hk0.h2,hk0.h3,hk0.h4,ht65⟩
   have hFm:=fun W => format_ok cls id am t2 W hk2
   have hKv:=fun g x0 x1 x2 x3 x4 x5 W hs hw => hK g x0 x1 x2 x3 x4 x5 (Ev.mk kk me mo id te de fe pr ch un t2 0 0) W (hvo t2 ht65) hs hw
   have hev:evV (Ev.mk kk me mo id te de fe pr ch un t2 0 0) = .agg #[kk,me,mo,id,te,de,fe,pr,ch,un,t2,(),()]:=rfl
   rw [hev] at hKv
   obtain ⟨wl,hwl⟩:∃ wl,putW c.length (L.length * 14) (evW ⟨kk,me,mo,id,te,de,fe,pr,ch,un,t2,0,0⟩) = wl:=⟨_,rfl⟩
   rw [hwl] at hKv
   have HF:=Lib.hid (And.intro ht65 (And.intro hl2 (And.intro ht2 (And.intro hO2 (And.intro hwl hbody)))))
   simp only [Int.cast_ofNat_Int] at hB hFm
   obtain ⟨dg,hdg⟩:∃ dg,dstr (tokD cls id am t2) = dg:=⟨_,rfl⟩
   rw [hdg] at hFm
   clear hK hk0 hvo hbl hmk hwf t0 t9 ht2 hl2 hO2 ht65 hk2 hev hwl hbody
   clear odlt od0 od1 od2 od3 od4 od5 od6 od7 od8 od9 od10 od11 od12 od13 od14
   have Lod:=H.c15 2 rfl
   have Lbi:=H.c7 6 rfl
   have Lna:=H.c7 5 rfl
   have Nodbi:=H.ne2 2 6 rfl rfl rfl
   have Nodna:=H.ne2 2 5 rfl rfl rfl
   have Nbina:=H.ne2 6 5 rfl rfl rfl
   go_upto_if 70 with fail
   replace H:=H.al wk.heap.size #[cls,id,un,()] (273) |>.gen
   simp only [List.cons_append,List.nil_append] at H
   obtain ⟨w6,hw6,H⟩:=H
   rw [hw6]
   have hb6:Below wk.heap.size wk w6:=by rw [← hw6];exact below_a1 wk _
   clear hw6
   go_cut [] (fun wx => Mem (w) [] (wx) [.blk (w.heap.size) 31 #[.slice At nt ct,T.fx,T.fb,T.db,T.al],.blk (w.heap.size + 1) 35 #[.slice Ao no co],.blk (w.heap.size + 1 + 1) 271 #[.int .i64 ↑kk,.int .i64 ↑me,.int .i64 ↑mo,.int .i64 0,.int .i64 0,.int .i64 0,.int .i64 0,.int .i64 0,.int .i64 0,.int .i64 0,.int .i64 0,.int .i64 0,.int .i64 0,.int .i64 ↑cls,.func (.func fn) #[] cap],.blk (w.heap.size + 1 + 1 + 1) 267 #[.slice none 0 0,.slice none 0 0,(),(),(),(),(),(),(),(),.string ⟨#[]⟩],.blk (g) 121 #[.slice (some ⟨b,off,none⟩) nb cb,.slice At nt ct,T.fx,T.fb,T.db,T.al,.slice Ac nc cc,L.length],.blk (na) 64 #[me2,rev2,next2,month2,bought2,free2,.slice A2 l2.length d2],.blk (bi) 47 #[id,te,de,fe,pr,ch,un],.row (base) (90) (2) (.slice A2 l2.length d2) (l2.length) (drs l2),.blk (wk.heap.size) 273 #[cls,id,am,()]] ∧ Below wk.heap.size wk wx)
   case first =>
    clear Lod Lbi Lna Nodbi Nodna Nbina
    have Ltk:=H.c4 8 rfl
    have Lod:=H.c15 2 rfl
    have Lna:=H.c7 5 rfl
    have Ntkod:=H.ne2 8 2 rfl rfl rfl
    have Ntkna:=H.ne2 8 5 rfl rfl rfl
    have Nodna:=H.ne2 2 5 rfl rfl rfl
    rcases hcl with ⟨h1,h2⟩ | ⟨h1,h2⟩
    ·have c1:((cls:Int) == 2) = false:=by subst h1;rfl
     have c2:¬ (cls:Int) = 2:=by omega
     go_wp2
     go_meet
     rw [h2]
     exact ⟨H,hb6⟩
    ·have c1:((cls:Int) == 2) = true:=by subst h1;rfl
     have hb7:=hb6.setCell (p:=⟨wk.heap.size,2,none⟩) (Nat.le_refl _) (.int .i64 ↑rev2)
     go_wp2
     replace H:=H.set 8 rfl 2 rev2 |>.gen
     simp only [List.set_cons_zero,List.set_cons_succ,List.setIfInBounds_toArray] at H
     obtain ⟨w7,hw7,H⟩:=H
     rw [hw7]
     rw [hw7] at hb7
     go_meet
     rw [h2]
     exact ⟨H,hb7⟩
   case rest =>
   clear hcl hb6 H
   obtain ⟨H7,hb7⟩:=hcut
   obtain ⟨wt,hwt⟩:∃ wt,wt = wc:=⟨_,rfl⟩
   subst hwt
   skip
   have H:Mem (w) [] (wt) [.blk (w.heap.size) 31 #[.slice At nt ct,T.fx,T.fb,T.db,T.al],.blk (w.heap.size + 1) 35 #[.slice Ao no co],.blk (w.heap.size + 1 + 1) 271 #[.int .i64 ↑kk,.int .i64 ↑me,.int .i64 ↑mo,.int .i64 0,.int .i64 0,.int .i64 0,.int .i64 0,.int .i64 0,.int .i64 0,.int .i64 0,.int .i64 0,.int .i64 0,.int .i64 0,.int .i64 ↑cls,.func (.func fn) #[] cap],.blk (w.heap.size + 1 + 1 + 1) 267 #[.slice none 0 0,.slice none 0 0,(),(),(),(),(),(),(),(),.string ⟨#[]⟩],.blk (g) 121 #[.slice (some ⟨b,off,none⟩) nb cb,.slice At nt ct,T.fx,T.fb,T.db,T.al,.slice Ac nc cc,L.length],.blk (na) 64 #[me2,rev2,next2,month2,bought2,free2,.slice A2 l2.length d2],.blk (bi) 47 #[id,te,de,fe,pr,ch,un],.row (base) (90) (2) (.slice A2 l2.length d2) (l2.length) (drs l2),.blk (wk.heap.size) 273 #[cls,id,am,()]]:=H7
   clear H7
   clear Lod Lbi Lna Nodbi Nodna Nbina
   have Ltk:=H.c4 8 rfl
   go_wp2_with fail
   refine (hB _).mono ?_
   rintro e wd ⟨rfl,hbd⟩
   have hbw2:Below wk.heap.size wk wd:=hb7.trans (Below.mono hbd hb7.size)
   have hc4:=hc3.below hbw2
   have q1d:=(hbw2.cell (p:=⟨b,o + 1,none⟩) hbl3).trans q1c
   have hbl4:=Nat.lt_of_lt_of_le hbl3 hbw2.size
   replace H:=Mem.call H hbd
   have hpsd:=hps.below H.below
   clear hB hbd hc3 q1c hbl3 hbw2
   clear Ltk
   obtain ⟨oolt,oo0,-⟩:=H.c1 1 rfl
   obtain ⟨odlt,od0,-,od1,-,od2,-,od3,-,od4,-,od5,-,od6,-,od7,-,od8,-,od9,-,od10,-,od11,-,od12,-,od13,-,od14,-⟩:=H.c15 2 rfl
   obtain ⟨ne_oo_od,ne_od_oo⟩:=H.ne2 1 2 rfl rfl rfl
   go_upto_region 16 with fail
   obtain ⟨LL,hLL⟩:∃ LL:List Chunk,[.blk (w.heap.size) 31 #[.slice At nt ct,T.fx,T.fb,T.db,T.al],.blk (w.heap.size + 1) 35 #[.slice Ao no co],.blk (w.heap.size + 1 + 1) 271 #[.int .i64 ↑kk,.int .i64 ↑me,.int .i64 ↑mo,.int .i64 0,.int .i64 0,.int .i64 0,.int .i64 0,.int .i64 0,.int .i64 0,.int .i64 0,.int .i64 0,.int .i64 0,.int .i64 0,.int .i64 ↑cls,.func (.func fn) #[] cap],.blk (w.heap.size + 1 + 1 + 1) 267 #[.slice none 0 0,.slice none 0 0,(),(),(),(),(),(),(),(),.string ⟨#[]⟩],.blk (g) 121 #[.slice (some ⟨b,off,none⟩) nb cb,.slice At nt ct,T.fx,T.fb,T.db,T.al,.slice Ac nc cc,L.length],.blk (na) 64 #[me2,rev2,next2,month2,bought2,free2,.slice A2 l2.length d2],.blk (bi) 47 #[id,te,de,fe,pr,ch,un],.row (base) (90) (2) (.slice A2 l2.length d2) (l2.length) (drs l2),.blk (wk.heap.size) 273 #[cls,id,am,()]] = LL:=⟨_,rfl⟩
   rw [hLL] at H
   go_cut [19,20,13] (fun p0 p1 p2 wx => ∃ (no2:Nat) (A4:Option Addr) (c4:Nat) (base:Nat),p0 = .pointer (some ⟨no2,0,none⟩) ∧ p1 = .int .i64 ↑t2 ∧ p2 = .int .i64 0 ∧ Mem (w) [] wx (LL ++ (.blk no2 35 #[.slice A4 lp2.length c4] :: [.row (base) (147) (4) (.slice A4 lp2.length c4) (lp2.length) (prs lp2)])) ∧ Below wd.heap.size wd wx)
   case first =>
    obtain ⟨Sd,hSd⟩:∃ Sd:World → Prop,Sd = fun w' => w'.cell? ⟨w.heap.size + 1,0,none⟩ = some (.slice Ao no co) ∧ w'.cell? ⟨w.heap.size + 1 + 1,0,none⟩ = some (.int .i64 ↑kk) ∧ w'.cell? ⟨w.heap.size + 1 + 1,1,none⟩ = some (.int .i64 ↑me) ∧ w'.cell? ⟨w.heap.size + 1 + 1,2,none⟩ = some (.int .i64 ↑mo) ∧ w'.cell? ⟨w.heap.size + 1 + 1,3,none⟩ = some (.int .i64 0) ∧ w'.cell? ⟨w.heap.size + 1 + 1,4,none⟩ = some (.int .i64 0) ∧ w'.cell? ⟨w.heap.size + 1 + 1,5,none⟩ = some (.int .i64 0) ∧ w'.cell? ⟨w.heap.size + 1 + 1,6,none⟩ = some (.int .i64 0) ∧ w'.cell? ⟨w.heap.size + 1 + 1,7,none⟩ = some (.int .i64 0) ∧ w'.cell? ⟨w.heap.size + 1 + 1,8,none⟩ = some (.int .i64 0) ∧ w'.cell? ⟨w.heap.size + 1 + 1,9,none⟩ = some (.int .i64 0) ∧ w'.cell? ⟨w.heap.size + 1 + 1,10,none⟩ = some (.int .i64 0) ∧ w'.cell? ⟨w.heap.size + 1 + 1,11,none⟩ = some (.int .i64 0) ∧ w'.cell? ⟨w.heap.size + 1 + 1,12,none⟩ = some (.int .i64 0) ∧ w'.cell? ⟨w.heap.size + 1 + 1,13,none⟩ = some (.int .i64 ↑cls) ∧ w'.cell? ⟨w.heap.size + 1 + 1,14,none⟩ = some (.func (.func fn) #[] cap) ∧ w'.cell? ⟨b,o + 1,none⟩ = some (.int .i64 ↑rev):=⟨_,rfl⟩
    have hSk:∀ we,Below wd.heap.size wd we → Sd we:=fun we hWe => by rw [hSd];exact ⟨(hWe.cell oolt).trans oo0,(hWe.cell odlt).trans od0,(hWe.cell odlt).trans od1,(hWe.cell odlt).trans od2,(hWe.cell odlt).trans od3,(hWe.cell odlt).trans od4,(hWe.cell odlt).trans od5,(hWe.cell odlt).trans od6,(hWe.cell odlt).trans od7,(hWe.cell odlt).trans od8,(hWe.cell odlt).trans od9,(hWe.cell odlt).trans od10,(hWe.cell odlt).trans od11,(hWe.cell odlt).trans od12,(hWe.cell odlt).trans od13,(hWe.cell odlt).trans od14,(hWe.cell hbl4).trans q1d⟩
    have nz0a:wd.heap.size ≠ w.heap.size + 1:=by have:=oolt;omega
    have nz0b:wd.heap.size + 1 ≠ w.heap.size + 1:=by have:=oolt;omega
    have nz0c:w.heap.size + 1 ≠ wd.heap.size:=by have:=oolt;omega
    have nz0d:w.heap.size + 1 ≠ wd.heap.size + 1:=by have:=oolt;omega
    have nz1a:wd.heap.size ≠ w.heap.size + 1 + 1:=by have:=odlt;omega
    have nz1b:wd.heap.size + 1 ≠ w.heap.size + 1 + 1:=by have:=odlt;omega
    have nz1c:w.heap.size + 1 + 1 ≠ wd.heap.size:=by have:=odlt;omega
    have nz1d:w.heap.size + 1 + 1 ≠ wd.heap.size + 1:=by have:=odlt;omega
    have nz2a:wd.heap.size ≠ b:=by have:=hbl4;omega
    have nz2b:wd.heap.size + 1 ≠ b:=by have:=hbl4;omega
    have nz2c:b ≠ wd.heap.size:=by have:=hbl4;omega
    have nz2d:b ≠ wd.heap.size + 1:=by have:=hbl4;omega
    have nz0e:wd.heap.size ≠ w.heap.size:=by have:=oolt;omega
    have nz0f:w.heap.size ≠ wd.heap.size:=by have:=oolt;omega
    have nz1e:wd.heap.size ≠ w.heap.size + 1:=by have:=odlt;omega
    have nz1f:w.heap.size + 1 ≠ wd.heap.size:=by have:=odlt;omega
    have V0:Mem wd [] (wd).drew []:=(Mem.init wd).drew
    have B0:=V0.below
    have V1:Mem wd [] (wd.alloc (.cells #[.slice none 0 0] 35)).drew [.blk (wd.heap.size) 35 #[.slice none 0 0]]:=((Mem.init wd).alloc _ rfl #[.slice none 0 0] 35).drew
    have B1:=V1.below
    have V1b0:=V1.blk 0 rfl
    go_region_held3 (fun w' => w'.cell? ⟨w.heap.size + 1,0,none⟩ = some (.slice Ao no co) ∧ w'.cell? ⟨w.heap.size + 1 + 1,0,none⟩ = some (.int .i64 ↑kk) ∧ w'.cell? ⟨w.heap.size + 1 + 1,1,none⟩ = some (.int .i64 ↑me) ∧ w'.cell? ⟨w.heap.size + 1 + 1,2,none⟩ = some (.int .i64 ↑mo) ∧ w'.cell? ⟨w.heap.size + 1 + 1,3,none⟩ = some (.int .i64 0) ∧ w'.cell? ⟨w.heap.size + 1 + 1,4,none⟩ = some (.int .i64 0) ∧ w'.cell? ⟨w.heap.size + 1 + 1,5,none⟩ = some (.int .i64 0) ∧ w'.cell? ⟨w.heap.size + 1 + 1,6,none⟩ = some (.int .i64 0) ∧ w'.cell? ⟨w.heap.size + 1 + 1,7,none⟩ = some (.int .i64 0) ∧ w'.cell? ⟨w.heap.size + 1 + 1,8,none⟩ = some (.int .i64 0) ∧ w'.cell? ⟨w.heap.size + 1 + 1,9,none⟩ = some (.int .i64 0) ∧ w'.cell? ⟨w.heap.size + 1 + 1,10,none⟩ = some (.int .i64 0) ∧ w'.cell? ⟨w.heap.size + 1 + 1,11,none⟩ = some (.int .i64 0) ∧ w'.cell? ⟨w.heap.size + 1 + 1,12,none⟩ = some (.int .i64 0) ∧ w'.cell? ⟨w.heap.size + 1 + 1,13,none⟩ = some (.int .i64 ↑cls) ∧ w'.cell? ⟨w.heap.size + 1 + 1,14,none⟩ = some (.func (.func fn) #[] cap) ∧ w'.cell? ⟨b,o + 1,none⟩ = some (.int .i64 ↑rev)) (first | with_reducible exact ⟨s0,s1,s2,s3,s4,s5,s6,s7,s8,s9,s10,s11,s12,s13,s14,s15,s16⟩ | go_keep | fail) (first | (go_at_call 140;(with_reducible refine (hI (wd).drew (hpsd.below B0)).mono ?_);rintro e we ⟨A4,c4,rfl,_,hown,hbe⟩;have hV:=V0;obtain ⟨bse,hK⟩:∃ bse:Nat,Mem (wd).drew [] we [.row (bse) (147) (4) (.slice A4 lp2.length c4) (lp2.length) (prs lp2)]:=⟨_,Mem.row (Mem.init _) hbe hown (Nat.le_refl _)⟩;have hWe:Below wd.heap.size wd we:=B0.trans (hbe.mono B0.size);have q:=hSk _ hWe;rw [hSd] at q;obtain ⟨s0,s1,s2,s3,s4,s5,s6,s7,s8,s9,s10,s11,s12,s13,s14,s15,s16⟩:=q;have sz:=hWe.size;have ez0c:we.heap.size ≠ w.heap.size:=(by have:=oolt;omega);have ez0a:we.heap.size ≠ w.heap.size + 1:=(by have:=oolt;omega);have ez0b:we.heap.size + 1 ≠ w.heap.size + 1:=(by have:=oolt;omega);have ez1c:we.heap.size ≠ w.heap.size + 1:=(by have:=odlt;omega);have ez1a:we.heap.size ≠ w.heap.size + 1 + 1:=(by have:=odlt;omega);have ez1b:we.heap.size + 1 ≠ w.heap.size + 1 + 1:=(by have:=odlt;omega);have ez2a:we.heap.size ≠ b:=(by have:=hbl4;omega);have ez2b:we.heap.size + 1 ≠ b:=(by have:=hbl4;omega)) | (go_at_call 140;(with_reducible refine (hI (wd.alloc (.cells #[.slice none 0 0] 35)).drew (hpsd.below B1)).mono ?_);rintro e we ⟨A4,c4,rfl,_,hown,hbe⟩;have hV:=V1;obtain ⟨bse,hK⟩:∃ bse:Nat,Mem (wd.alloc (.cells #[.slice none 0 0] 35)).drew [] we [.row (bse) (147) (4) (.slice A4 lp2.length c4) (lp2.length) (prs lp2)]:=⟨_,Mem.row (Mem.init _) hbe hown (Nat.le_refl _)⟩;have hWe:Below wd.heap.size wd we:=B1.trans (hbe.mono B1.size);have q:=hSk _ hWe;rw [hSd] at q;obtain ⟨s0,s1,s2,s3,s4,s5,s6,s7,s8,s9,s10,s11,s12,s13,s14,s15,s16⟩:=q;have sz:=hWe.size;have ez0c:we.heap.size ≠ w.heap.size:=(by have:=oolt;omega);have ez0a:we.heap.size ≠ w.heap.size + 1:=(by have:=oolt;omega);have ez0b:we.heap.size + 1 ≠ w.heap.size + 1:=(by have:=oolt;omega);have ez1c:we.heap.size ≠ w.heap.size + 1:=(by have:=odlt;omega);have ez1a:we.heap.size ≠ w.heap.size + 1 + 1:=(by have:=odlt;omega);have ez1b:we.heap.size + 1 ≠ w.heap.size + 1 + 1:=(by have:=odlt;omega);have ez2a:we.heap.size ≠ b:=(by have:=hbl4;omega);have ez2b:we.heap.size + 1 ≠ b:=(by have:=hbl4;omega);have zb0:=Blk.below V1b0 hbe V1b0.lt;obtain ⟨zb0lt,zb0_0,zb0f0⟩:=(V1.call hbe).c1 0 rfl))
    all_goals
     go_wp2_with fail
     go_meet
     refine ⟨_,A4,c4,bse,rfl,rfl,rfl,?_⟩
     first
     | with_reducible exact ⟨cr1_a H hV hK,(cr1_a (Mem.init wd) hV hK).below⟩
     | (have h:=cr1_b (c:=#[.slice A4 lp2.length c4]) (Mem.init wd) hV hK [(0,.slice A4 lp2.length c4)] (by simp only [List.foldl_cons,List.foldl_nil,List.setIfInBounds_toArray,List.set_cons_zero])
        simp only [sets,List.foldl_cons,List.foldl_nil,List.nil_append] at h
        with_reducible exact ⟨H.join h,h.below⟩)
   case rest =>
    obtain ⟨no2,A4,c4,base2,rfl,rfl,rfl,H,hCR2⟩:=hcut
    subst hLL
    replace H:Mem (w) [] (wc) [.blk (w.heap.size) 31 #[.slice At nt ct,T.fx,T.fb,T.db,T.al],.blk (w.heap.size + 1) 35 #[.slice Ao no co],.blk (w.heap.size + 1 + 1) 271 #[.int .i64 ↑kk,.int .i64 ↑me,.int .i64 ↑mo,.int .i64 0,.int .i64 0,.int .i64 0,.int .i64 0,.int .i64 0,.int .i64 0,.int .i64 0,.int .i64 0,.int .i64 0,.int .i64 0,.int .i64 ↑cls,.func (.func fn) #[] cap],.blk (w.heap.size + 1 + 1 + 1) 267 #[.slice none 0 0,.slice none 0 0,(),(),(),(),(),(),(),(),.string ⟨#[]⟩],.blk (g) 121 #[.slice (some ⟨b,off,none⟩) nb cb,.slice At nt ct,T.fx,T.fb,T.db,T.al,.slice Ac nc cc,L.length],.blk (na) 64 #[me2,rev2,next2,month2,bought2,free2,.slice A2 l2.length d2],.blk (bi) 47 #[id,te,de,fe,pr,ch,un],.row (base) (90) (2) (.slice A2 l2.length d2) (l2.length) (drs l2),.blk (wk.heap.size) 273 #[cls,id,am,()],.blk (no2) 35 #[.slice A4 lp2.length c4],.row (base2) (147) (4) (.slice A4 lp2.length c4) (lp2.length) (prs lp2)]:=H
    have hc5:=hc4.below hCR2
    clear hI hpsd hc4 q1d hbl4 hCR2
    clear oolt oo0 odlt od0 od1 od2 od3 od4 od5 od6 od7 od8 od9 od10 od11 od12 od13 od14 ne_oo_od ne_od_oo
    have Lod:=H.c15 2 rfl
    have Lbi:=H.c7 6 rfl
    have Ltk:=H.c4 8 rfl
    have Nodbi:=H.ne2 2 6 rfl rfl rfl
    have Nodtk:=H.ne2 2 8 rfl rfl rfl
    have Nbitk:=H.ne2 6 8 rfl rfl rfl
    go_wp2_with fail
    replace H:=H.set 8 rfl 3 t2 |>.set 2 rfl 3 id |>.set 2 rfl 4 te |>.set 2 rfl 5 de |>.set 2 rfl 6 fe |>.set 2 rfl 7 pr |>.set 2 rfl 8 ch |>.set 2 rfl 9 un |>.set 2 rfl 10 t2 |>.gen
    simp only [List.set_cons_zero,List.set_cons_succ,List.setIfInBounds_toArray] at H
    obtain ⟨Wd,hWd,H⟩:=H
    rw [hWd]
    clear hWd
    refine (hKv g _ _ _ _ _ _ _ (H.blk 4 rfl) (hc.below H.below)).mono ?_
    rintro e wf ⟨A5,c5,rfl,hp2,hown,hbf⟩
    replace H:Mem (w) [] (wf) [.blk (w.heap.size) 31 #[.slice At nt ct,T.fx,T.fb,T.db,T.al],.blk (w.heap.size + 1) 35 #[.slice Ao no co],.blk (w.heap.size + 1 + 1) 271 #[.int .i64 ↑kk,.int .i64 ↑me,.int .i64 ↑mo,.int .i64 ↑id,.int .i64 ↑te,.int .i64 ↑de,.int .i64 ↑fe,.int .i64 ↑pr,.int .i64 ↑ch,.int .i64 ↑un,.int .i64 ↑t2,.int .i64 0,.int .i64 0,.int .i64 ↑cls,.func (.func fn) #[] cap],.blk (w.heap.size + 1 + 1 + 1) 267 #[.slice none 0 0,.slice none 0 0,(),(),(),(),(),(),(),(),.string ⟨#[]⟩],.blk (g) 121 #[.slice (some ⟨b,off,none⟩) nb cb,.slice At nt ct,T.fx,T.fb,T.db,T.al,.slice Ac nc cc,L.length],.blk (na) 64 #[me2,rev2,next2,month2,bought2,free2,.slice A2 l2.length d2],.blk (bi) 47 #[id,te,de,fe,pr,ch,un],.row (base) (90) (2) (.slice A2 l2.length d2) (l2.length) (drs l2),.blk (wk.heap.size) 273 #[cls,id,am,t2],.blk (no2) 35 #[.slice A4 lp2.length c4],.row (base2) (147) (4) (.slice A4 lp2.length c4) (lp2.length) (prs lp2),.row (Wd.heap.size) (158) (2) (.slice A5 wl.length c5) (wl.length) (wrs wl)]:=Mem.row H hbf hown (Nat.le_refl _)
    clear hKv hc5 hp2 hown hbf
    clear Lod Lbi Ltk Nodbi Nodtk Nbitk
    have Ltk:=H.c4 8 rfl
    go_wp2_with fail
    refine (hFm _).mono ?_
    rintro e wg ⟨rfl,hbg⟩
    replace H:=Mem.call H hbg
    clear hFm hbg
    clear Ltk
    have Lod:=H.c15 2 rfl
    have Lbi:=H.c7 6 rfl
    have Lno2:=H.c1 9 rfl
    have Lrs:=H.c11 3 rfl
    have Nodbi:=H.ne2 2 6 rfl rfl rfl
    have Nodno2:=H.ne2 2 9 rfl rfl rfl
    have Nodrs:=H.ne2 2 3 rfl rfl rfl
    have Nbino2:=H.ne2 6 9 rfl rfl rfl
    have Nbirs:=H.ne2 6 3 rfl rfl rfl
    have Nno2rs:=H.ne2 9 3 rfl rfl rfl
    go_wp2
    replace H:=H.set 3 rfl 0 (.slice A5 wl.length c5) |>.set 3 rfl 1 (.slice A4 lp2.length c4) |>.set 3 rfl 2 me |>.set 3 rfl 3 id |>.set 3 rfl 4 te |>.set 3 rfl 5 de |>.set 3 rfl 6 fe |>.set 3 rfl 7 pr |>.set 3 rfl 8 ch |>.set 3 rfl 9 un |>.set 3 rfl 10 (.string dg) |>.gen
    simp only [List.set_cons_zero,List.set_cons_succ,List.setIfInBounds_toArray] at H
    obtain ⟨wz,hwz,H⟩:=H
    rw [hwz]
    clear hwz
    clear Lod Lbi Lno2 Lrs Nodbi Nodno2 Nodrs Nbino2 Nbirs Nno2rs
    obtain ⟨rslt,rs0,-,rs1,-,rs2,-,rs3,-,rs4,-,rs5,-,rs6,-,rs7,-,rs8,-,rs9,-,rs10,-⟩:=H.c11 3 rfl
    refine bodyPost_ret (v:=.tuple #[.agg #[.slice A5 wl.length c5,.slice A4 lp2.length c4,me,id,te,de,fe,pr,ch,un,.string dg],()]) (by simp [results,Tryz.results136,go_sem,rs0,rs1,rs2,rs3,rs4,rs5,rs6,rs7,rs8,rs9,rs10];done) rfl ?_
    obtain ⟨ht65,hl2,ht2,hO2,hwl,hbody⟩:=HF.out
    refine .inl ⟨rfl,t2,lp2,A4,c4,A5,c5,ht65,by rw [hbody];exact hl2,by rw [hbody];exact ht2,hO2,by rw [hwl,hdg],H.ownb 10 rfl,by rw [hwl];exact H.ownb 11 rfl,H.below⟩
theorem vserve2_ok (T:Tm) (hT:T.Ok) (At:Option Addr) (nt ct:Nat) (cv:Value) (c:List Nat) (L:List Ev) (B:List Cu) (me i te mo d:Nat) (Ao:Option Addr) (no co:Nat) (lp:List Pr) (w:World)
 (hvt:IsDs w (.slice At nt ct) T.tl) (hc:IsWs w cv c) (hS:Srv T c L B) (hme:me ≤ 49) (hp:place B me = some i) (hL:L.length < 120) (hf:(L.length + 1) * 14 ≤ c.length) (hps:IsPs w (.slice Ao no co) lp) (hlp:OOk lp) (h5:lp.length < 500) (hd:d ≤ 65535) (ht1:1 ≤ te) (ht9:te ≤ 100000000) (hmo:mo ≤ 2399) :
 Calls Tryz.prog 133 #[.agg #[.slice At nt ct,T.fx,T.fb,T.db,T.al],cv,.agg #[.slice Ao no co],me,te,mo,d] w (RetServe (svP (sellP T (B.getD i cu0).a te mo) 2 me mo 0 (B.getD i cu0).a.rev d lp c.length L.length) w):=by
 obtain ⟨hi,hime⟩:=place_some hp
 have hBk:=runE_bok hT L [] B 0 (bok_nil T) (by omega) hS.ok hS.run
 have hgd:B.getD i cu0 = B[i]:=by simp [hi]
 have hao:(B.getD i cu0).a.Ok ∧ (B.getD i cu0).a.next = (B.getD i cu0).s.length + 1:=by rw [hgd];exact hBk.h1 B[i] (List.getElem_mem hi)
 have hsl:(B.getD i cu0).s.length ≤ 1000:=by rw [hgd];have:=hBk.sold (List.getElem_mem hi);omega
 have hnx:(B.getD i cu0).a.next ≤ 1048575:=by omega
 obtain ⟨r,hr⟩:∃ r,sellP T (B.getD i cu0).a te mo = r:=⟨_,rfl⟩
 rw [hr]
 obtain ⟨Ac,nc,cc,rfl⟩:∃ Ac nc cc,cv = .slice Ac nc cc:=by obtain ⟨X,y,h,_⟩:=hc;exact ⟨X,_,y,h⟩
 have H:=Mem.init w
 replace H:=H.al w.heap.size #[.slice At nt ct,T.fx,T.fb,T.db,T.al] (31) |>.al (w.heap.size + 1) #[.slice Ao no co] (35) |>.al (w.heap.size + 1 + 1) #[te] (3) |>.al (w.heap.size + 1 + 1 + 1) #[mo] (3) |>.al (w.heap.size + 1 + 1 + 1 + 1) #[.slice none 0 0] (35) |>.al (w.heap.size + 1 + 1 + 1 + 1 + 1) #[(),(),(),(),(),(),(),(),.string ⟨#[]⟩] (261) |>.gen
 simp only [List.nil_append,List.cons_append] at H
 obtain ⟨W0,hW0,H⟩:=H
 have hvt0:=hvt.below H.below
 have hc0:=hc.below H.below
 have hps0:=hps.below H.below
 obtain ⟨ttlt,tt0,-,tt1,-,tt2,-,tt3,-,tt4,-⟩:=H.c5 0 rfl
 have Loo:=H.c1 1 rfl
 obtain ⟨btelt,bte0,-⟩:=H.c1 2 rfl
 obtain ⟨bmolt,bmo0,-⟩:=H.c1 3 rfl
 have Nttoo:=H.ne2 0 1 rfl rfl rfl
 have Nttbte:=H.ne2 0 2 rfl rfl rfl
 have Nttbmo:=H.ne2 0 3 rfl rfl rfl
 have Noobte:=H.ne2 1 2 rfl rfl rfl
 have Noobmo:=H.ne2 1 3 rfl rfl rfl
 have Nbtebmo:=H.ne2 2 3 rfl rfl rfl
 have hz:r.1 = 0 → TkOk 0 r.2.2.id r.2.2.un 0 ∧ ∀ t,t ≤ 65535 → (Ev.mk 2 me mo r.2.2.id r.2.2.te r.2.2.de r.2.2.fe r.2.2.pr r.2.2.ch r.2.2.un t 0 0).ok:=by
  intro h0
  have h:sellP T (B.getD i cu0).a te mo = (0,r.2.1,r.2.2):=by rw [hr,← h0]
  exact sell_ev hT hao.1 hnx hmo hme ht1 ht9 h
 have hWk:∀ (W:World) (Ad:Option Addr) (cd:Nat),Below W0.heap.size W0 W → IsDs W (.slice Ad (B.getD i cu0).a.l.length cd) (B.getD i cu0).a.l → Calls Tryz.prog 137 #[.agg #[.int .i64 ((B.getD i cu0).a.me:Int),.int .i64 ((B.getD i cu0).a.rev:Int),.int .i64 ((B.getD i cu0).a.next:Int),.int .i64 ((B.getD i cu0).a.month:Int),.int .i64 ((B.getD i cu0).a.bought:Int),.int .i64 (B.getD i cu0).a.free,.slice Ad (B.getD i cu0).a.l.length cd],.pointer (some ⟨w.heap.size,0,none⟩),.pointer (some ⟨w.heap.size + 1 + 1,0,none⟩),.pointer (some ⟨w.heap.size + 1 + 1 + 1,0,none⟩)] W (RetDI r.1 r.2.1.me r.2.1.rev r.2.1.next r.2.1.month r.2.1.bought r.2.1.free r.2.1.l r.2.2.id r.2.2.te r.2.2.de r.2.2.fe r.2.2.pr r.2.2.ch r.2.2.un W):=by
  intro W Ad cd hbW h2
  exact vsellw_ok w.heap.size (w.heap.size + 1 + 1) (w.heap.size + 1 + 1 + 1) (B.getD i cu0).a.me (B.getD i cu0).a.rev (B.getD i cu0).a.next (B.getD i cu0).a.month (B.getD i cu0).a.bought (B.getD i cu0).a.free Ad (B.getD i cu0).a.l.length cd (B.getD i cu0).a.l At nt ct T.fx T.fb T.db T.al T.tl te mo r.1 r.2.1.me r.2.1.rev r.2.1.next r.2.1.month r.2.1.bought r.2.1.free r.2.1.l r.2.2.id r.2.2.te r.2.2.de r.2.2.fe r.2.2.pr r.2.2.ch r.2.2.un W h2 hao.1.h2 hao.1.h1 (hvt0.below hbW) hT.h1 hT.h2 ht1 ht9 hmo hnx (Lib.hid hr) ((hbW.cell (p:=⟨w.heap.size,0,none⟩) (Nat.lt_of_lt_of_le ttlt (Nat.le_refl _))).trans tt0) ((hbW.cell (p:=⟨w.heap.size,1,none⟩) (Nat.lt_of_lt_of_le ttlt (Nat.le_refl _))).trans tt1) ((hbW.cell (p:=⟨w.heap.size,2,none⟩) (Nat.lt_of_lt_of_le ttlt (Nat.le_refl _))).trans tt2) ((hbW.cell (p:=⟨w.heap.size,3,none⟩) (Nat.lt_of_lt_of_le ttlt (Nat.le_refl _))).trans tt3) ((hbW.cell (p:=⟨w.heap.size,4,none⟩) (Nat.lt_of_lt_of_le ttlt (Nat.le_refl _))).trans tt4) ((hbW.cell (p:=⟨w.heap.size + 1 + 1,0,none⟩) (Nat.lt_of_lt_of_le btelt (Nat.le_refl _))).trans bte0) ((hbW.cell (p:=⟨w.heap.size + 1 + 1 + 1,0,none⟩) (Nat.lt_of_lt_of_le bmolt (Nat.le_refl _))).trans bmo0)
 have hSl:=vsellg_ok T hT At nt ct (.slice Ac nc cc) c L B me i mo d Ao no co lp 2 137 0 r.2.2.un #[.pointer (some ⟨w.heap.size,0,none⟩),.pointer (some ⟨w.heap.size + 1 + 1,0,none⟩),.pointer (some ⟨w.heap.size + 1 + 1 + 1,0,none⟩)] r.1 r.2.1.me r.2.1.rev r.2.1.next r.2.1.month r.2.1.bought r.2.1.free r.2.1.l r.2.2.id r.2.2.te r.2.2.de r.2.2.fe r.2.2.pr r.2.2.ch r.2.2.un W0 hvt0 hc0 hS hme hp hL hf hps0 hlp h5 hd (fun W Ad cd h1 h2 => by simpa using hWk W Ad cd h1 h2) (enters_of Tryz.func137 (by kernel_rfl) rfl) (.inl ⟨rfl,rfl⟩) hz
 simp only [Int.cast_ofNat_Int] at hSl
 replace hSl:=hSl.mono fun e w' h => retsv_of (r:=r) (cls:=0) (am:=r.2.2.un) (fun _ => by unfold amP;simp) h
 obtain ⟨v,hv⟩:∃ v,svP r 2 me mo 0 (B.getD i cu0).a.rev d lp c.length L.length = v:=⟨_,rfl⟩
 rw [hv] at hSl ⊢
 unfold RetSv at hSl
 obtain ⟨wl,lq,vme,⟨id,te',de,fe,pr,ch,un⟩,s,E⟩:=v
 dsimp only at hSl
 unfold RetServe
 dsimp only
 clear hWk hz hr hv hvt hc hps hS hf
 go_enter Tryz.func133,Tryz.ntmps133
 go_wp2_with fail
 refine hSl.mono ?_
 rintro e w1 ⟨A3,c3,A2,c2,rfl,ho1,ho2,hb1⟩
 replace H:=Mem.call H hb1
 have hsz:W0.heap.size = w.heap.size + 1 + 1 + 1 + 1 + 1 + 1:=by rw [← hW0];simp
 clear hSl hW0 hvt0 hc0 hps0 hb1
 clear ttlt tt0 tt1 tt2 tt3 tt4 Loo btelt bte0 bmolt bmo0 Nttoo Nttbte Nttbmo Noobte Noobmo Nbtebmo
 go_wp2
 replace H:=H.al w1.heap.size #[.slice A3 wl.length c3,.slice A2 lq.length c2,vme,id,.int .i64 (te':Int),de,fe,pr,ch,un,.string s] (267) |>.gen
 simp only [List.cons_append,List.nil_append] at H
 obtain ⟨w2,hw2,H⟩:=H
 rw [hw2]
 have hq1:=own_kept ho1 (World.grownBy_alloc w1 (.cells #[.slice A3 wl.length c3,.slice A2 lq.length c2,vme,id,.int .i64 (te':Int),de,fe,pr,ch,un,.string s] 267) none) (by simp)
 have hq2:=own_kept ho2 (World.grownBy_alloc w1 (.cells #[.slice A3 wl.length c3,.slice A2 lq.length c2,vme,id,.int .i64 (te':Int),de,fe,pr,ch,un,.string s] 267) none) (by simp)
 rw [hw2] at hq1 hq2
 clear hw2 ho1 ho2
 have Lsv:=H.c11 6 rfl
 have Lro:=H.c1 4 rfl
 have Lrr:=H.c9 5 rfl
 have Nsvro:=H.ne2 6 4 rfl rfl rfl
 have Nsvrr:=H.ne2 6 5 rfl rfl rfl
 have Nrorr:=H.ne2 4 5 rfl rfl rfl
 go_region
 go_wp2
 clear Lsv Lro Lrr Nsvro Nsvrr Nrorr
 replace H:=H.set 4 rfl 0 (.slice A2 lq.length c2) |>.set 5 rfl 0 vme |>.set 5 rfl 1 id |>.set 5 rfl 2 (.int .i64 (te':Int)) |>.set 5 rfl 3 de |>.set 5 rfl 4 fe |>.set 5 rfl 5 pr |>.set 5 rfl 6 ch |>.set 5 rfl 7 un |>.set 5 rfl 8 (.string s) |>.drew |>.gen
 simp only [List.set_cons_zero,List.set_cons_succ,List.setIfInBounds_toArray] at H
 obtain ⟨w3,hw3,H⟩:=H
 rw [hw3]
 have hz1:=own_drewK ((own_set (k:=w.heap.size + 1 + 1 + 1 + 1 + 1) (o:=8) (x:=.string s) (own_set (k:=w.heap.size + 1 + 1 + 1 + 1 + 1) (o:=7) (x:=.int .i64 ↑un) (own_set (k:=w.heap.size + 1 + 1 + 1 + 1 + 1) (o:=6) (x:=.int .i64 ↑ch) (own_set (k:=w.heap.size + 1 + 1 + 1 + 1 + 1) (o:=5) (x:=.int .i64 ↑pr) (own_set (k:=w.heap.size + 1 + 1 + 1 + 1 + 1) (o:=4) (x:=.int .i64 ↑fe) (own_set (k:=w.heap.size + 1 + 1 + 1 + 1 + 1) (o:=3) (x:=.int .i64 ↑de) (own_set (k:=w.heap.size + 1 + 1 + 1 + 1 + 1) (o:=2) (x:=.int .i64 (te':Int)) (own_set (k:=w.heap.size + 1 + 1 + 1 + 1 + 1) (o:=1) (x:=.int .i64 ↑id) (own_set (k:=w.heap.size + 1 + 1 + 1 + 1 + 1) (o:=0) (x:=.int .i64 ↑vme) (own_set (k:=w.heap.size + 1 + 1 + 1 + 1) (o:=0) (x:=.slice A2 lq.length c2) hq1 (by omega)) (by omega)) (by omega)) (by omega)) (by omega)) (by omega)) (by omega)) (by omega)) (by omega)) (by omega)))
 have hz2:=own_drewK ((own_set (k:=w.heap.size + 1 + 1 + 1 + 1 + 1) (o:=8) (x:=.string s) (own_set (k:=w.heap.size + 1 + 1 + 1 + 1 + 1) (o:=7) (x:=.int .i64 ↑un) (own_set (k:=w.heap.size + 1 + 1 + 1 + 1 + 1) (o:=6) (x:=.int .i64 ↑ch) (own_set (k:=w.heap.size + 1 + 1 + 1 + 1 + 1) (o:=5) (x:=.int .i64 ↑pr) (own_set (k:=w.heap.size + 1 + 1 + 1 + 1 + 1) (o:=4) (x:=.int .i64 ↑fe) (own_set (k:=w.heap.size + 1 + 1 + 1 + 1 + 1) (o:=3) (x:=.int .i64 ↑de) (own_set (k:=w.heap.size + 1 + 1 + 1 + 1 + 1) (o:=2) (x:=.int .i64 (te':Int)) (own_set (k:=w.heap.size + 1 + 1 + 1 + 1 + 1) (o:=1) (x:=.int .i64 ↑id) (own_set (k:=w.heap.size + 1 + 1 + 1 + 1 + 1) (o:=0) (x:=.int .i64 ↑vme) (own_set (k:=w.heap.size + 1 + 1 + 1 + 1) (o:=0) (x:=.slice A2 lq.length c2) hq2 (by omega)) (by omega)) (by omega)) (by omega)) (by omega)) (by omega)) (by omega)) (by omega)) (by omega)) (by omega)))
 rw [hw3] at hz1 hz2
 clear hw3 hq1 hq2
 obtain ⟨rolt,ro0,-⟩:=H.c1 4 rfl
 obtain ⟨rrlt,rr0,-,rr1,-,rr2,-,rr3,-,rr4,-,rr5,-,rr6,-,rr7,-,rr8,-⟩:=H.c9 5 rfl
 have Nrorr:=H.ne2 4 5 rfl rfl rfl
 refine bodyPost_ret (v:=.tuple #[.slice A3 wl.length c3,.agg #[.slice A2 lq.length c2],.agg #[vme,id,.int .i64 (te':Int),de,fe,pr,ch,un,.string s],E]) (by simp [results,Tryz.results133,go_sem,ro0,rr0,rr1,rr2,rr3,rr4,rr5,rr6,rr7,rr8];done) rfl ?_
 exact ⟨A3,c3,A2,c2,rfl,own_mono hz1 (by omega),own_mono hz2 (by omega),H.below⟩
theorem vserve3_ok (T:Tm) (hT:T.Ok) (At:Option Addr) (nt ct:Nat) (cv:Value) (c:List Nat) (L:List Ev) (B:List Cu) (me i mo d:Nat) (Ao:Option Addr) (no co:Nat) (lp:List Pr) (w:World)
 (hvt:IsDs w (.slice At nt ct) T.tl) (hc:IsWs w cv c) (hS:Srv T c L B) (hme:me ≤ 49) (hp:place B me = some i) (hL:L.length < 120) (hf:(L.length + 1) * 14 ≤ c.length) (hps:IsPs w (.slice Ao no co) lp) (hlp:OOk lp) (h5:lp.length < 500) (hd:d ≤ 65535) (hmo:mo ≤ 2399) :
 Calls Tryz.prog 134 #[.agg #[.slice At nt ct,T.fx,T.fb,T.db,T.al],cv,.agg #[.slice Ao no co],me,mo,d] w (RetServe (svP (grantP T (B.getD i cu0).a mo) 3 me mo 0 (B.getD i cu0).a.rev d lp c.length L.length) w):=by
 obtain ⟨hi,hime⟩:=place_some hp
 have hBk:=runE_bok hT L [] B 0 (bok_nil T) (by omega) hS.ok hS.run
 have hgd:B.getD i cu0 = B[i]:=by simp [hi]
 have hao:(B.getD i cu0).a.Ok ∧ (B.getD i cu0).a.next = (B.getD i cu0).s.length + 1:=by rw [hgd];exact hBk.h1 B[i] (List.getElem_mem hi)
 have hsl:(B.getD i cu0).s.length ≤ 1000:=by rw [hgd];have:=hBk.sold (List.getElem_mem hi);omega
 have hnx:(B.getD i cu0).a.next ≤ 1048575:=by omega
 obtain ⟨r,hr⟩:∃ r,grantP T (B.getD i cu0).a mo = r:=⟨_,rfl⟩
 rw [hr]
 obtain ⟨Ac,nc,cc,rfl⟩:∃ Ac nc cc,cv = .slice Ac nc cc:=by obtain ⟨X,y,h,_⟩:=hc;exact ⟨X,_,y,h⟩
 have H:=Mem.init w
 replace H:=H.al w.heap.size #[.slice At nt ct,T.fx,T.fb,T.db,T.al] (31) |>.al (w.heap.size + 1) #[.slice Ao no co] (35) |>.al (w.heap.size + 1 + 1) #[mo] (3) |>.al (w.heap.size + 1 + 1 + 1) #[.slice none 0 0] (35) |>.al (w.heap.size + 1 + 1 + 1 + 1) #[(),(),(),(),(),(),(),(),.string ⟨#[]⟩] (261) |>.gen
 simp only [List.nil_append,List.cons_append] at H
 obtain ⟨W0,hW0,H⟩:=H
 have hvt0:=hvt.below H.below
 have hc0:=hc.below H.below
 have hps0:=hps.below H.below
 obtain ⟨ttlt,tt0,-,tt1,-,tt2,-,tt3,-,tt4,-⟩:=H.c5 0 rfl
 have Loo:=H.c1 1 rfl
 obtain ⟨bmolt,bmo0,-⟩:=H.c1 2 rfl
 have Nttoo:=H.ne2 0 1 rfl rfl rfl
 have Nttbmo:=H.ne2 0 2 rfl rfl rfl
 have Noobmo:=H.ne2 1 2 rfl rfl rfl
 have hz:r.1 = 0 → TkOk 0 r.2.2.id r.2.2.un 0 ∧ ∀ t,t ≤ 65535 → (Ev.mk 3 me mo r.2.2.id r.2.2.te r.2.2.de r.2.2.fe r.2.2.pr r.2.2.ch r.2.2.un t 0 0).ok:=by
  intro h0
  have h:grantP T (B.getD i cu0).a mo = (0,r.2.1,r.2.2):=by rw [hr,← h0]
  exact grant_ev hT hao.1 hnx hmo hme h
 have hWk:∀ (W:World) (Ad:Option Addr) (cd:Nat),Below W0.heap.size W0 W → IsDs W (.slice Ad (B.getD i cu0).a.l.length cd) (B.getD i cu0).a.l → Calls Tryz.prog 138 #[.agg #[.int .i64 ((B.getD i cu0).a.me:Int),.int .i64 ((B.getD i cu0).a.rev:Int),.int .i64 ((B.getD i cu0).a.next:Int),.int .i64 ((B.getD i cu0).a.month:Int),.int .i64 ((B.getD i cu0).a.bought:Int),.int .i64 (B.getD i cu0).a.free,.slice Ad (B.getD i cu0).a.l.length cd],.pointer (some ⟨w.heap.size,0,none⟩),.pointer (some ⟨w.heap.size + 1 + 1,0,none⟩)] W (RetDI r.1 r.2.1.me r.2.1.rev r.2.1.next r.2.1.month r.2.1.bought r.2.1.free r.2.1.l r.2.2.id r.2.2.te r.2.2.de r.2.2.fe r.2.2.pr r.2.2.ch r.2.2.un W):=by
  intro W Ad cd hbW h2
  exact vgrantw_ok w.heap.size (w.heap.size + 1 + 1) (B.getD i cu0).a.me (B.getD i cu0).a.rev (B.getD i cu0).a.next (B.getD i cu0).a.month (B.getD i cu0).a.bought (B.getD i cu0).a.free Ad (B.getD i cu0).a.l.length cd (B.getD i cu0).a.l At nt ct T.fx T.fb T.db T.al T.tl mo r.1 r.2.1.me r.2.1.rev r.2.1.next r.2.1.month r.2.1.bought r.2.1.free r.2.1.l r.2.2.id r.2.2.te r.2.2.de r.2.2.fe r.2.2.pr r.2.2.ch r.2.2.un W h2 hao.1.h2 hao.1.h1 (hvt0.below hbW) hT.h1 hT.h2 hmo hnx (Lib.hid hr) ((hbW.cell (p:=⟨w.heap.size,0,none⟩) (Nat.lt_of_lt_of_le ttlt (Nat.le_refl _))).trans tt0) ((hbW.cell (p:=⟨w.heap.size,1,none⟩) (Nat.lt_of_lt_of_le ttlt (Nat.le_refl _))).trans tt1) ((hbW.cell (p:=⟨w.heap.size,2,none⟩) (Nat.lt_of_lt_of_le ttlt (Nat.le_refl _))).trans tt2) ((hbW.cell (p:=⟨w.heap.size,3,none⟩) (Nat.lt_of_lt_of_le ttlt (Nat.le_refl _))).trans tt3) ((hbW.cell (p:=⟨w.heap.size,4,none⟩) (Nat.lt_of_lt_of_le ttlt (Nat.le_refl _))).trans tt4) ((hbW.cell (p:=⟨w.heap.size + 1 + 1,0,none⟩) (Nat.lt_of_lt_of_le bmolt (Nat.le_refl _))).trans bmo0)
 have hSl:=vsellg_ok T hT At nt ct (.slice Ac nc cc) c L B me i mo d Ao no co lp 3 138 0 r.2.2.un #[.pointer (some ⟨w.heap.size,0,none⟩),.pointer (some ⟨w.heap.size + 1 + 1,0,none⟩)] r.1 r.2.1.me r.2.1.rev r.2.1.next r.2.1.month r.2.1.bought r.2.1.free r.2.1.l r.2.2.id r.2.2.te r.2.2.de r.2.2.fe r.2.2.pr r.2.2.ch r.2.2.un W0 hvt0 hc0 hS hme hp hL hf hps0 hlp h5 hd (fun W Ad cd h1 h2 => by simpa using hWk W Ad cd h1 h2) (enters_of Tryz.func138 (by kernel_rfl) rfl) (.inl ⟨rfl,rfl⟩) hz
 simp only [Int.cast_ofNat_Int] at hSl
 replace hSl:=hSl.mono fun e w' h => retsv_of (r:=r) (cls:=0) (am:=r.2.2.un) (fun _ => by unfold amP;simp) h
 obtain ⟨v,hv⟩:∃ v,svP r 3 me mo 0 (B.getD i cu0).a.rev d lp c.length L.length = v:=⟨_,rfl⟩
 rw [hv] at hSl ⊢
 unfold RetSv at hSl
 obtain ⟨wl,lq,vme,⟨id,te',de,fe,pr,ch,un⟩,s,E⟩:=v
 dsimp only at hSl
 unfold RetServe
 dsimp only
 clear hWk hz hr hv hvt hc hps hS hf
 go_enter Tryz.func134,Tryz.ntmps134
 go_wp2_with fail
 refine hSl.mono ?_
 rintro e w1 ⟨A3,c3,A2,c2,rfl,ho1,ho2,hb1⟩
 replace H:=Mem.call H hb1
 have hsz:W0.heap.size = w.heap.size + 1 + 1 + 1 + 1 + 1:=by rw [← hW0];simp
 clear hSl hW0 hvt0 hc0 hps0 hb1
 clear ttlt tt0 tt1 tt2 tt3 tt4 Loo bmolt bmo0 Nttoo Nttbmo Noobmo
 go_wp2
 replace H:=H.al w1.heap.size #[.slice A3 wl.length c3,.slice A2 lq.length c2,vme,id,.int .i64 (te':Int),de,fe,pr,ch,un,.string s] (267) |>.gen
 simp only [List.cons_append,List.nil_append] at H
 obtain ⟨w2,hw2,H⟩:=H
 rw [hw2]
 have hq1:=own_kept ho1 (World.grownBy_alloc w1 (.cells #[.slice A3 wl.length c3,.slice A2 lq.length c2,vme,id,.int .i64 (te':Int),de,fe,pr,ch,un,.string s] 267) none) (by simp)
 have hq2:=own_kept ho2 (World.grownBy_alloc w1 (.cells #[.slice A3 wl.length c3,.slice A2 lq.length c2,vme,id,.int .i64 (te':Int),de,fe,pr,ch,un,.string s] 267) none) (by simp)
 rw [hw2] at hq1 hq2
 clear hw2 ho1 ho2
 have Lsv:=H.c11 5 rfl
 have Lro:=H.c1 3 rfl
 have Lrr:=H.c9 4 rfl
 have Nsvro:=H.ne2 5 3 rfl rfl rfl
 have Nsvrr:=H.ne2 5 4 rfl rfl rfl
 have Nrorr:=H.ne2 3 4 rfl rfl rfl
 go_region
 go_wp2
 clear Lsv Lro Lrr Nsvro Nsvrr Nrorr
 replace H:=H.set 3 rfl 0 (.slice A2 lq.length c2) |>.set 4 rfl 0 vme |>.set 4 rfl 1 id |>.set 4 rfl 2 (.int .i64 (te':Int)) |>.set 4 rfl 3 de |>.set 4 rfl 4 fe |>.set 4 rfl 5 pr |>.set 4 rfl 6 ch |>.set 4 rfl 7 un |>.set 4 rfl 8 (.string s) |>.drew |>.gen
 simp only [List.set_cons_zero,List.set_cons_succ,List.setIfInBounds_toArray] at H
 obtain ⟨w3,hw3,H⟩:=H
 rw [hw3]
 have hz1:=own_drewK ((own_set (k:=w.heap.size + 1 + 1 + 1 + 1) (o:=8) (x:=.string s) (own_set (k:=w.heap.size + 1 + 1 + 1 + 1) (o:=7) (x:=.int .i64 ↑un) (own_set (k:=w.heap.size + 1 + 1 + 1 + 1) (o:=6) (x:=.int .i64 ↑ch) (own_set (k:=w.heap.size + 1 + 1 + 1 + 1) (o:=5) (x:=.int .i64 ↑pr) (own_set (k:=w.heap.size + 1 + 1 + 1 + 1) (o:=4) (x:=.int .i64 ↑fe) (own_set (k:=w.heap.size + 1 + 1 + 1 + 1) (o:=3) (x:=.int .i64 ↑de) (own_set (k:=w.heap.size + 1 + 1 + 1 + 1) (o:=2) (x:=.int .i64 (te':Int)) (own_set (k:=w.heap.size + 1 + 1 + 1 + 1) (o:=1) (x:=.int .i64 ↑id) (own_set (k:=w.heap.size + 1 + 1 + 1 + 1) (o:=0) (x:=.int .i64 ↑vme) (own_set (k:=w.heap.size + 1 + 1 + 1) (o:=0) (x:=.slice A2 lq.length c2) hq1 (by omega)) (by omega)) (by omega)) (by omega)) (by omega)) (by omega)) (by omega)) (by omega)) (by omega)) (by omega)))
 have hz2:=own_drewK ((own_set (k:=w.heap.size + 1 + 1 + 1 + 1) (o:=8) (x:=.string s) (own_set (k:=w.heap.size + 1 + 1 + 1 + 1) (o:=7) (x:=.int .i64 ↑un) (own_set (k:=w.heap.size + 1 + 1 + 1 + 1) (o:=6) (x:=.int .i64 ↑ch) (own_set (k:=w.heap.size + 1 + 1 + 1 + 1) (o:=5) (x:=.int .i64 ↑pr) (own_set (k:=w.heap.size + 1 + 1 + 1 + 1) (o:=4) (x:=.int .i64 ↑fe) (own_set (k:=w.heap.size + 1 + 1 + 1 + 1) (o:=3) (x:=.int .i64 ↑de) (own_set (k:=w.heap.size + 1 + 1 + 1 + 1) (o:=2) (x:=.int .i64 (te':Int)) (own_set (k:=w.heap.size + 1 + 1 + 1 + 1) (o:=1) (x:=.int .i64 ↑id) (own_set (k:=w.heap.size + 1 + 1 + 1 + 1) (o:=0) (x:=.int .i64 ↑vme) (own_set (k:=w.heap.size + 1 + 1 + 1) (o:=0) (x:=.slice A2 lq.length c2) hq2 (by omega)) (by omega)) (by omega)) (by omega)) (by omega)) (by omega)) (by omega)) (by omega)) (by omega)) (by omega)))
 rw [hw3] at hz1 hz2
 clear hw3 hq1 hq2
 obtain ⟨rolt,ro0,-⟩:=H.c1 3 rfl
 obtain ⟨rrlt,rr0,-,rr1,-,rr2,-,rr3,-,rr4,-,rr5,-,rr6,-,rr7,-,rr8,-⟩:=H.c9 4 rfl
 have Nrorr:=H.ne2 3 4 rfl rfl rfl
 refine bodyPost_ret (v:=.tuple #[.slice A3 wl.length c3,.agg #[.slice A2 lq.length c2],.agg #[vme,id,.int .i64 (te':Int),de,fe,pr,ch,un,.string s],E]) (by simp [results,Tryz.results134,go_sem,ro0,rr0,rr1,rr2,rr3,rr4,rr5,rr6,rr7,rr8];done) rfl ?_
 exact ⟨A3,c3,A2,c2,rfl,own_mono hz1 (by omega),own_mono hz2 (by omega),H.below⟩
theorem vserve4_ok (T:Tm) (hT:T.Ok) (At:Option Addr) (nt ct:Nat) (cv:Value) (c:List Nat) (L:List Ev) (B:List Cu) (me i d:Nat) (Ao:Option Addr) (no co:Nat) (lp:List Pr) (w:World)
 (hvt:IsDs w (.slice At nt ct) T.tl) (hc:IsWs w cv c) (hS:Srv T c L B) (hme:me ≤ 49) (hp:place B me = some i) (hL:L.length < 120) (hf:(L.length + 1) * 14 ≤ c.length) (hps:IsPs w (.slice Ao no co) lp) (hlp:OOk lp) (h5:lp.length < 500) (hd:d ≤ 65535) :
 Calls Tryz.prog 135 #[.agg #[.slice At nt ct,T.fx,T.fb,T.db,T.al],cv,.agg #[.slice Ao no co],me,d] w (RetServe (svP (rekeyP (B.getD i cu0).a) 4 me 0 2 (B.getD i cu0).a.rev d lp c.length L.length) w):=by
 obtain ⟨hi,hime⟩:=place_some hp
 have hBk:=runE_bok hT L [] B 0 (bok_nil T) (by omega) hS.ok hS.run
 have hgd:B.getD i cu0 = B[i]:=by simp [hi]
 have hao:(B.getD i cu0).a.Ok ∧ (B.getD i cu0).a.next = (B.getD i cu0).s.length + 1:=by rw [hgd];exact hBk.h1 B[i] (List.getElem_mem hi)
 have hsl:(B.getD i cu0).s.length ≤ 1000:=by rw [hgd];have:=hBk.sold (List.getElem_mem hi);omega
 have hnx:(B.getD i cu0).a.next ≤ 1048575:=by omega
 obtain ⟨r,hr⟩:∃ r,rekeyP (B.getD i cu0).a = r:=⟨_,rfl⟩
 rw [hr]
 obtain ⟨Ac,nc,cc,rfl⟩:∃ Ac nc cc,cv = .slice Ac nc cc:=by obtain ⟨X,y,h,_⟩:=hc;exact ⟨X,_,y,h⟩
 have H:=Mem.init w
 replace H:=H.al w.heap.size #[.slice At nt ct,T.fx,T.fb,T.db,T.al] (31) |>.al (w.heap.size + 1) #[.slice Ao no co] (35) |>.al (w.heap.size + 1 + 1) #[.slice none 0 0] (35) |>.al (w.heap.size + 1 + 1 + 1) #[(),(),(),(),(),(),(),(),.string ⟨#[]⟩] (261) |>.gen
 simp only [List.nil_append,List.cons_append] at H
 obtain ⟨W0,hW0,H⟩:=H
 have hvt0:=hvt.below H.below
 have hc0:=hc.below H.below
 have hps0:=hps.below H.below
 have Ltt:=H.c5 0 rfl
 have Loo:=H.c1 1 rfl
 have Nttoo:=H.ne2 0 1 rfl rfl rfl
 have hz:r.1 = 0 → TkOk 2 r.2.2.id r.2.1.rev 0 ∧ ∀ t,t ≤ 65535 → (Ev.mk 4 me 0 r.2.2.id r.2.2.te r.2.2.de r.2.2.fe r.2.2.pr r.2.2.ch r.2.2.un t 0 0).ok:=by
  intro h0
  have h:rekeyP (B.getD i cu0).a = (0,r.2.1,r.2.2):=by rw [hr,← h0]
  exact rekey_ev hao.1 hnx hme h
 have hWk:∀ (W:World) (Ad:Option Addr) (cd:Nat),Below W0.heap.size W0 W → IsDs W (.slice Ad (B.getD i cu0).a.l.length cd) (B.getD i cu0).a.l → Calls Tryz.prog 100 #[.agg #[.int .i64 ((B.getD i cu0).a.me:Int),.int .i64 ((B.getD i cu0).a.rev:Int),.int .i64 ((B.getD i cu0).a.next:Int),.int .i64 ((B.getD i cu0).a.month:Int),.int .i64 ((B.getD i cu0).a.bought:Int),.int .i64 (B.getD i cu0).a.free,.slice Ad (B.getD i cu0).a.l.length cd]] W (RetDI r.1 r.2.1.me r.2.1.rev r.2.1.next r.2.1.month r.2.1.bought r.2.1.free r.2.1.l r.2.2.id r.2.2.te r.2.2.de r.2.2.fe r.2.2.pr r.2.2.ch r.2.2.un W):=by
  intro W Ad cd hbW h2
  exact rekey_all (B.getD i cu0).a.me (B.getD i cu0).a.rev (B.getD i cu0).a.next (B.getD i cu0).a.month (B.getD i cu0).a.bought (B.getD i cu0).a.free Ad (B.getD i cu0).a.l.length cd (B.getD i cu0).a.l r.1 r.2.1.me r.2.1.rev r.2.1.next r.2.1.month r.2.1.bought r.2.1.free r.2.1.l r.2.2.id r.2.2.te r.2.2.de r.2.2.fe r.2.2.pr r.2.2.ch r.2.2.un W h2 hao.1.h2 hao.1.h1 hnx (Lib.hid hr)
 have hSl:=vsellg_ok T hT At nt ct (.slice Ac nc cc) c L B me i 0 d Ao no co lp 4 100 2 r.2.1.rev #[] r.1 r.2.1.me r.2.1.rev r.2.1.next r.2.1.month r.2.1.bought r.2.1.free r.2.1.l r.2.2.id r.2.2.te r.2.2.de r.2.2.fe r.2.2.pr r.2.2.ch r.2.2.un W0 hvt0 hc0 hS hme hp hL hf hps0 hlp h5 hd (fun W Ad cd h1 h2 => by simpa using hWk W Ad cd h1 h2) (enters_of Tryz.func100 (by kernel_rfl) rfl) (.inr ⟨rfl,rfl⟩) hz
 simp only [Int.cast_ofNat_Int] at hSl
 replace hSl:=hSl.mono fun e w' h => retsv_of (r:=r) (cls:=2) (am:=r.2.1.rev) (fun _ => by unfold amP;simp) h
 obtain ⟨v,hv⟩:∃ v,svP r 4 me 0 2 (B.getD i cu0).a.rev d lp c.length L.length = v:=⟨_,rfl⟩
 rw [hv] at hSl ⊢
 unfold RetSv at hSl
 obtain ⟨wl,lq,vme,⟨id,te',de,fe,pr,ch,un⟩,s,E⟩:=v
 dsimp only at hSl
 unfold RetServe
 dsimp only
 clear hWk hz hr hv hvt hc hps hS hf
 go_enter Tryz.func135,Tryz.ntmps135
 go_wp2_with fail
 refine hSl.mono ?_
 rintro e w1 ⟨A3,c3,A2,c2,rfl,ho1,ho2,hb1⟩
 replace H:=Mem.call H hb1
 have hsz:W0.heap.size = w.heap.size + 1 + 1 + 1 + 1:=by rw [← hW0];simp
 clear hSl hW0 hvt0 hc0 hps0 hb1
 clear Ltt Loo Nttoo
 go_wp2
 replace H:=H.al w1.heap.size #[.slice A3 wl.length c3,.slice A2 lq.length c2,vme,id,.int .i64 (te':Int),de,fe,pr,ch,un,.string s] (267) |>.gen
 simp only [List.cons_append,List.nil_append] at H
 obtain ⟨w2,hw2,H⟩:=H
 rw [hw2]
 have hq1:=own_kept ho1 (World.grownBy_alloc w1 (.cells #[.slice A3 wl.length c3,.slice A2 lq.length c2,vme,id,.int .i64 (te':Int),de,fe,pr,ch,un,.string s] 267) none) (by simp)
 have hq2:=own_kept ho2 (World.grownBy_alloc w1 (.cells #[.slice A3 wl.length c3,.slice A2 lq.length c2,vme,id,.int .i64 (te':Int),de,fe,pr,ch,un,.string s] 267) none) (by simp)
 rw [hw2] at hq1 hq2
 clear hw2 ho1 ho2
 have Lsv:=H.c11 4 rfl
 have Lro:=H.c1 2 rfl
 have Lrr:=H.c9 3 rfl
 have Nsvro:=H.ne2 4 2 rfl rfl rfl
 have Nsvrr:=H.ne2 4 3 rfl rfl rfl
 have Nrorr:=H.ne2 2 3 rfl rfl rfl
 go_region
 go_wp2
 clear Lsv Lro Lrr Nsvro Nsvrr Nrorr
 replace H:=H.set 2 rfl 0 (.slice A2 lq.length c2) |>.set 3 rfl 0 vme |>.set 3 rfl 1 id |>.set 3 rfl 2 (.int .i64 (te':Int)) |>.set 3 rfl 3 de |>.set 3 rfl 4 fe |>.set 3 rfl 5 pr |>.set 3 rfl 6 ch |>.set 3 rfl 7 un |>.set 3 rfl 8 (.string s) |>.drew |>.gen
 simp only [List.set_cons_zero,List.set_cons_succ,List.setIfInBounds_toArray] at H
 obtain ⟨w3,hw3,H⟩:=H
 rw [hw3]
 have hz1:=own_drewK ((own_set (k:=w.heap.size + 1 + 1 + 1) (o:=8) (x:=.string s) (own_set (k:=w.heap.size + 1 + 1 + 1) (o:=7) (x:=.int .i64 ↑un) (own_set (k:=w.heap.size + 1 + 1 + 1) (o:=6) (x:=.int .i64 ↑ch) (own_set (k:=w.heap.size + 1 + 1 + 1) (o:=5) (x:=.int .i64 ↑pr) (own_set (k:=w.heap.size + 1 + 1 + 1) (o:=4) (x:=.int .i64 ↑fe) (own_set (k:=w.heap.size + 1 + 1 + 1) (o:=3) (x:=.int .i64 ↑de) (own_set (k:=w.heap.size + 1 + 1 + 1) (o:=2) (x:=.int .i64 (te':Int)) (own_set (k:=w.heap.size + 1 + 1 + 1) (o:=1) (x:=.int .i64 ↑id) (own_set (k:=w.heap.size + 1 + 1 + 1) (o:=0) (x:=.int .i64 ↑vme) (own_set (k:=w.heap.size + 1 + 1) (o:=0) (x:=.slice A2 lq.length c2) hq1 (by omega)) (by omega)) (by omega)) (by omega)) (by omega)) (by omega)) (by omega)) (by omega)) (by omega)) (by omega)))
 have hz2:=own_drewK ((own_set (k:=w.heap.size + 1 + 1 + 1) (o:=8) (x:=.string s) (own_set (k:=w.heap.size + 1 + 1 + 1) (o:=7) (x:=.int .i64 ↑un) (own_set (k:=w.heap.size + 1 + 1 + 1) (o:=6) (x:=.int .i64 ↑ch) (own_set (k:=w.heap.size + 1 + 1 + 1) (o:=5) (x:=.int .i64 ↑pr) (own_set (k:=w.heap.size + 1 + 1 + 1) (o:=4) (x:=.int .i64 ↑fe) (own_set (k:=w.heap.size + 1 + 1 + 1) (o:=3) (x:=.int .i64 ↑de) (own_set (k:=w.heap.size + 1 + 1 + 1) (o:=2) (x:=.int .i64 (te':Int)) (own_set (k:=w.heap.size + 1 + 1 + 1) (o:=1) (x:=.int .i64 ↑id) (own_set (k:=w.heap.size + 1 + 1 + 1) (o:=0) (x:=.int .i64 ↑vme) (own_set (k:=w.heap.size + 1 + 1) (o:=0) (x:=.slice A2 lq.length c2) hq2 (by omega)) (by omega)) (by omega)) (by omega)) (by omega)) (by omega)) (by omega)) (by omega)) (by omega)) (by omega)))
 rw [hw3] at hz1 hz2
 clear hw3 hq1 hq2
 obtain ⟨rolt,ro0,-⟩:=H.c1 2 rfl
 obtain ⟨rrlt,rr0,-,rr1,-,rr2,-,rr3,-,rr4,-,rr5,-,rr6,-,rr7,-,rr8,-⟩:=H.c9 3 rfl
 have Nrorr:=H.ne2 2 3 rfl rfl rfl
 refine bodyPost_ret (v:=.tuple #[.slice A3 wl.length c3,.agg #[.slice A2 lq.length c2],.agg #[vme,id,.int .i64 (te':Int),de,fe,pr,ch,un,.string s],E]) (by simp [results,Tryz.results135,go_sem,ro0,rr0,rr1,rr2,rr3,rr4,rr5,rr6,rr7,rr8];done) rfl ?_
 exact ⟨A3,c3,A2,c2,rfl,own_mono hz1 (by omega),own_mono hz2 (by omega),H.below⟩
end Go.Proofs.YtfgiehkfcoodbaaGreat

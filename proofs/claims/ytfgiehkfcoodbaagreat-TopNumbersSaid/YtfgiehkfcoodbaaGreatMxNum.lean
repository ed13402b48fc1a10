/- What a step does to the customers; numbers and months of tokens: plain. -/
import Derived.Test.YtfgiehkfcoodbaaGreatM48
namespace Go.Proofs.YtfgiehkfcoodbaaGreat
open Go.RowKit
set_option linter.unusedVariables false
set_option maxRecDepth 100000
set_option maxHeartbeats 16000000
theorem doP_B (T:Tm) (W:Wd) (a:Ac):(doP T W a).1.B = W.B ∨ (a.k = 1 ∧ (doP T W a).1.B = W.B ++ [⟨openP a.me,[]⟩]) ∨ (a.k ≠ 1 ∧ a.k ≤ 5 ∧ (W.V T a.od).E = 0 ∧ (doP T W a).1.B = W.B.set a.me (a.od.c T (W.B.getD a.me cu0) W.lp)):=by
 unfold doP
 by_cases h1:a.k = 1
 ·rw [if_pos h1]
  unfold Wd.srv
  rw [if_pos (show (regR W a.me).E = 0 from rfl)]
  by_cases hc:cutK a.cut (regR W a.me).wl.length = (regR W a.me).wl.length
  ·rw [if_pos hc];exact .inr (.inl ⟨h1,rfl⟩)
  ·rw [if_neg hc];exact .inl rfl
 ·rw [if_neg h1]
  by_cases h5:a.k ≤ 5
  ·rw [if_pos h5]
   unfold Wd.srv
   by_cases hE:(askR T W a.od).E = 0
   ·rw [if_pos hE]
    by_cases hc:cutK a.cut (askR T W a.od).wl.length = (askR T W a.od).wl.length
    ·rw [if_pos hc]
     have hE2:(W.V T a.od).E = 0:=hE
     refine .inr (.inr ⟨h1,h5,hE2,?_⟩)
     show (askR T W a.od).B2 = _
     unfold askR
     rw [Ac.od_me]
    ·rw [if_neg hc];exact .inl rfl
   ·rw [if_neg hE];exact .inl rfl
  ·rw [if_neg h5];exact .inl rfl
structure Goes (a b:Acc):Prop where
 me:b.me = a.me
 next:a.next ≤ b.next
 month:a.month ≤ b.month
 free:b.free = a.free ∨ b.free = (b.month:Int)
theorem Goes.refl (a:Acc):Goes a a:=⟨rfl,Nat.le_refl _,Nat.le_refl _,.inl rfl⟩
theorem Od.goes {o:Od} {T:Tm} {c:Cu} {lp:List Pr} {n m:Nat} (h:(o.V T c.a lp n m).E = 0):Goes c.a (o.c T c lp).a:=by
 unfold Od.V at h
 unfold Od.c
 by_cases hq:o.q = 0
 ·rw [if_pos hq] at h ⊢
  have h0:(oweP c.a o.ow o.bp).1 = 0:=h
  have e:oweP c.a o.ow o.bp = (0,(oweP c.a o.ow o.bp).2):=by rw [← h0]
  have hn:=(oweP_ne e).1
  show Goes c.a (oweP c.a o.ow o.bp).2
  rw [hn]
  exact ⟨rfl,Nat.le_refl _,Nat.le_refl _,.inl rfl⟩
 ·rw [if_neg hq] at h ⊢
  unfold saleP at h
  rw [svP_E] at h
  show Goes c.a (o.rq.r T c.a).2.1
  have hm:=Rq.meq h
  have hx:=Rq.next h
  unfold Rq.r at h hm hx ⊢
  by_cases g1:o.rq.q = 1
  ·simp only [g1,if_true] at h hm hx ⊢
   have e:grantP T c.a o.rq.mo = (0,(grantP T c.a o.rq.mo).2.1,(grantP T c.a o.rq.mo).2.2):=by rw [← h]
   have q:=grantP_ne e
   exact ⟨hm,by omega,by rw [q.2.2.2.2.1];exact q.1,.inr (by rw [q.2.2.2.2.2.1,q.2.2.2.2.1])⟩
  ·simp only [g1,if_false] at h hm hx ⊢
   by_cases g2:o.rq.q = 2
   ·simp only [g2,if_true] at h hm hx ⊢
    have e:rekeyP c.a = (0,(rekeyP c.a).2.1,(rekeyP c.a).2.2):=by rw [← h]
    have q:=(rekeyP_ne e).1
    refine ⟨hm,by omega,?_,.inl ?_⟩
    ·rw [q];exact Nat.le_refl _
    ·rw [q]
   ·simp only [g2,if_false] at h hm hx ⊢
    have e:sellP T c.a o.rq.te o.rq.mo = (0,(sellP T c.a o.rq.te o.rq.mo).2.1,(sellP T c.a o.rq.te o.rq.mo).2.2):=by rw [← h]
    have q:=sellP_ne e
    exact ⟨hm,by omega,by rw [q.2.2.2.2.1];exact q.1,.inl q.2.2.2.2.2.1⟩
theorem doP_goes {T:Tm} {W:Wd} {a:Ac} {j:Nat} (hj:j < W.B.length):Goes (W.B.getD j cu0).a ((doP T W a).1.B.getD j cu0).a:=by
 rcases doP_B T W a with h | ⟨_,h⟩ | ⟨_,_,hE,h⟩
 ·rw [h];exact Goes.refl _
 ·rw [h,List.getD_eq_getElem?_getD,List.getD_eq_getElem?_getD,List.getElem?_append_left hj]
  exact Goes.refl _
 ·rw [h]
  by_cases e:a.me = j
  ·subst e
   rw [List.getD_eq_getElem?_getD (l:=W.B.set _ _),List.getElem?_set_self hj]
   unfold Wd.V at hE
   rw [Ac.od_me] at hE
   exact Od.goes hE
  ·rw [List.getD_eq_getElem?_getD (l:=W.B.set _ _),List.getElem?_set_ne e,← List.getD_eq_getElem?_getD]
   exact Goes.refl _
structure TkOk2 (W:Wd) (tk:List Sd):Prop where
 id:∀ t ∈ tk,t.me < W.B.length ∧ 1 ≤ t.b.id ∧ t.b.id < (W.B.getD t.me cu0).a.next
 mo:∀ t ∈ tk,t.k = 3 → t.mo ≤ (W.B.getD t.me cu0).a.month ∧ ((W.B.getD t.me cu0).a.month = t.mo → (W.B.getD t.me cu0).a.free = (t.mo:Int))
def Rises (tk:List Sd):Prop:=tk.Pairwise fun s t => s.me = t.me → s.b.id < t.b.id ∧ ¬ (s.k = 3 ∧ t.k = 3 ∧ s.mo = t.mo)
theorem TkOk2.goes {T:Tm} {W:Wd} {a:Ac} {tk:List Sd} {m m2 n n2:Nat} (h:TkOk2 W tk) (hW:W.Ok T m n) (hW2:(doP T W a).1.Ok T m2 n2) (hm:m ≤ m2):TkOk2 (doP T W a).1 tk:=by
 have c1:=hW.cus
 have c2:=hW2.cus
 refine ⟨fun t ht => ?_,fun t ht hk => ?_⟩
 ·obtain ⟨q1,q2,q3⟩:=h.id t ht
  have g:=doP_goes (T:=T) (a:=a) q1
  exact ⟨by omega,q2,Nat.lt_of_lt_of_le q3 g.next⟩
 ·obtain ⟨q1,_,_⟩:=h.id t ht
  obtain ⟨r1,r2⟩:=h.mo t ht hk
  have g:=doP_goes (T:=T) (a:=a) q1
  refine ⟨Nat.le_trans r1 g.month,fun e => ?_⟩
  rcases g.free with f | f
  ·rw [f]
   refine r2 ?_
   have:=g.month
   omega
  ·rw [f,e]
theorem Lived.rises {T:Tm} {sv:Bool} {S:List Sn} {tk:List Sd} {W:Wd} (h:Lived T sv S tk W) (hT:T.Ok) (hn:S.length ≤ 62):TkOk2 W tk ∧ Rises tk:=by
 induction h with
 | nil => exact ⟨⟨fun t ht => absurd ht (by simp),fun t ht => absurd ht (by simp)⟩,List.Pairwise.nil⟩
 | step s h hs ih =>
  rename_i S tk W
  rw [List.length_append,List.length_singleton] at hn
  obtain ⟨h1,h2⟩:=ih (by omega)
  have hW:=(h.ok hT (by omega)).1
  have hW2:=hs.next hT (by omega) hW
  have h3:=h1.goes hW hW2 (by omega)
  unfold tkN
  by_cases g:(doP T W s.a).2.s.size = 0
  ·rw [if_pos g]
   exact ⟨h3,h2⟩
  ·rw [if_neg g]
   have hd:=hds_of hs.ok g
   have hk1:=hd.k1
   have h33:¬ S.length < 3:=fun q => by have:=hs.reg.2 q;omega
   rw [show min 3 S.length = 3 by omega] at hW
   obtain ⟨cls,am,tag,ht⟩:=hd.told hT hW (by omega) hs.ok
   have hme:=hs.ok.me
   have hcu:=hW.cus
   have hcu2:=hW2.cus
   have hid:=ht.id
   have hn1:(W.B.getD s.a.me cu0).a.next + 1 = ((doP T W s.a).1.B.getD s.a.me cu0).a.next:=by
    rw [hd.w]
    dsimp only
    rw [List.getD_eq_getElem?_getD (l:=W.B.set _ _),List.getElem?_set_self (by omega)]
    have hq:s.a.od.q ≠ 0:=fun q => by have:=(Ac.od_q s.a).1 q;have:=hd.k2;omega
    unfold Od.c
    rw [if_neg hq]
    exact (Rq.next hd.r).symm
   have hgr:s.a.k = 3 → ((W.B.getD s.a.me cu0).a.month ≤ s.a.A ∧ (W.B.getD s.a.me cu0).a.free ≠ (s.a.A:Int)) ∧ ((doP T W s.a).1.B.getD s.a.me cu0).a.month = s.a.A ∧ ((doP T W s.a).1.B.getD s.a.me cu0).a.free = (s.a.A:Int):=fun k3 => by
    have ho:s.a.od = ⟨1,s.a.me,1,0,1,s.a.A,s.a.C⟩:=by unfold Ac.od;rw [if_neg (by omega),if_pos k3]
    have hr:=hd.r
    rw [hd.w]
    dsimp only
    rw [List.getD_eq_getElem?_getD (l:=W.B.set _ _),List.getElem?_set_self (by omega)]
    rw [ho] at hr ⊢
    have hr2:(grantP T (W.B.getD s.a.me cu0).a s.a.A).1 = 0:=hr
    have e:grantP T (W.B.getD s.a.me cu0).a s.a.A = (0,(grantP T (W.B.getD s.a.me cu0).a s.a.A).2.1,(grantP T (W.B.getD s.a.me cu0).a s.a.A).2.2):=by rw [← hr2]
    have q:=grantP_ne e
    exact ⟨⟨q.1,q.2.2.2.2.2.2.1⟩,q.2.2.2.2.1,q.2.2.2.2.2.1⟩
   refine ⟨⟨fun t hm => ?_,fun t hm hk => ?_⟩,?_⟩
   ·rcases List.mem_append.1 hm with hm | hm
    ·exact h3.id t hm
    ·obtain rfl:t = _:=by simpa using hm
     show s.a.me < _ ∧ 1 ≤ (doP T W s.a).2.b.id ∧ (doP T W s.a).2.b.id < _
     rw [hid]
     exact ⟨by omega,ht.tk.h2,by show _ < ((doP T W s.a).1.B.getD s.a.me cu0).a.next;omega⟩
   ·rcases List.mem_append.1 hm with hm | hm
    ·exact h3.mo t hm hk
    ·obtain rfl:t = _:=by simpa using hm
     have k3:s.a.k = 3:=hk
     obtain ⟨_,q1,q2⟩:=hgr k3
     show (if s.a.k = 3 then s.a.A else s.a.B) ≤ ((doP T W s.a).1.B.getD s.a.me cu0).a.month ∧ (_ → ((doP T W s.a).1.B.getD s.a.me cu0).a.free = _)
     rw [if_pos k3,q1,q2]
     exact ⟨Nat.le_refl _,fun _ => by show (s.a.A:Int) = ((if s.a.k = 3 then s.a.A else s.a.B:Nat):Int);rw [if_pos k3]⟩
   ·unfold Rises
    rw [List.pairwise_append]
    refine ⟨h2,List.pairwise_singleton _ _,fun t hm u hu hme2 => ?_⟩
    obtain rfl:u = _:=by simpa using hu
    have hme3:t.me = s.a.me:=hme2
    obtain ⟨q1,q2,q3⟩:=h1.id t hm
    rw [hme3] at q3
    refine ⟨by show t.b.id < (doP T W s.a).2.b.id;rw [hid];exact q3,fun ⟨k1,k2,k3⟩ => ?_⟩
    have k2:s.a.k = 3:=k2
    have k3:t.mo = (if s.a.k = 3 then s.a.A else s.a.B):=k3
    rw [if_pos k2] at k3
    obtain ⟨r1,r2⟩:=h1.mo t hm k1
    rw [hme3,k3] at r1 r2
    obtain ⟨⟨p1,p2⟩,_⟩:=hgr k2
    exact p2 (r2 (by omega))
def lastP (l:List Sd) (m:Nat):Nat:=l.foldl (fun x t => if t.me = m then t.b.id else x) 0
theorem lastP_add (l:List Sd) (t:Sd) (m:Nat):lastP (l ++ [t]) m = if t.me = m then t.b.id else lastP l m:=by unfold lastP;rw [List.foldl_append];rfl
theorem lastP_lt {n m:Nat} (h0:0 < n) (l:List Sd) (h:∀ t ∈ l,t.me = m → t.b.id < n):lastP l m < n:=by
 unfold lastP
 suffices H:∀ (l:List Sd) (x:Nat),x < n → (∀ t ∈ l,t.me = m → t.b.id < n) → l.foldl (fun x t => if t.me = m then t.b.id else x) x < n from H l 0 h0 h
 intro l
 induction l with
 | nil => intro x hx _;exact hx
 | cons t l ih =>
  intro x hx h
  refine ih _ ?_ (fun u hu => h u (List.mem_cons_of_mem _ hu))
  show (if t.me = m then t.b.id else x) < n
  split
  ·rename_i e;exact h t List.mem_cons_self e
  ·exact hx
theorem lastP_take (l:List Sd) (j:Nat) (h:j < l.length) (m:Nat):lastP (l.take (j + 1)) m = if l[j].me = m then l[j].b.id else lastP (l.take j) m:=by
 rw [← lastP_add,List.take_append_getElem]
theorem Rises.at_ {tk:List Sd} (h:Rises tk) {i j:Nat} (hij:i < j) (hj:j < tk.length) (hm:tk[i].me = tk[j].me):tk[i].b.id < tk[j].b.id ∧ ¬ (tk[i].k = 3 ∧ tk[j].k = 3 ∧ tk[i].mo = tk[j].mo) :=
 (List.pairwise_iff_getElem.1 h) i j (by omega) hj hij hm
theorem rises_last {W:Wd} {tk:List Sd} (h:Rises tk) (h2:TkOk2 W tk) {j:Nat} (hj:j < tk.length):lastP (tk.take j) tk[j].me < tk[j].b.id:=by
 refine lastP_lt (h2.id _ (List.getElem_mem hj)).2.1 _ fun t ht e => ?_
 obtain ⟨i,hi,rfl⟩:=List.getElem_of_mem ht
 rw [List.length_take] at hi
 rw [List.getElem_take] at e ⊢
 exact (h.at_ (by omega) hj e).1
theorem last_next {T:Tm} {sv:Bool} {S:List Sn} {tk:List Sd} {W:Wd} (h:Lived T sv S tk W) (hT:T.Ok) (h3:3 ≤ S.length) (hn:S.length ≤ 62) {m:Nat} (hm:m ≤ 2):lastP tk m < (W.B.getD m cu0).a.next ∧ (W.B.getD m cu0).a.next = (W.B.getD m cu0).s.length + 1:=by
 have hW:=(h.ok hT hn).1
 have hcu:=hW.cus
 have hi:m < W.B.length:=by omega
 have hgd:W.B.getD m cu0 = W.B[m]:=by simp [hi]
 have hx:=((hW.srv.bok hT).h1 W.B[m] (List.getElem_mem hi)).2
 rw [← hgd] at hx
 obtain ⟨h1,_⟩:=h.rises hT hn
 refine ⟨lastP_lt (by omega) _ fun t ht e => ?_,hx⟩
 have:=(h1.id t ht).2.2
 rwa [e] at this
end Go.Proofs.YtfgiehkfcoodbaaGreat

/- A meter's words behind what is keyed and behind a tick, as functions: plain. -/
import Derived.Test.YtfgiehkfcoodbaaGreatM38
import Derived.Test.YtfgiehkfcoodbaaGreatM41
import Derived.Test.YtfgiehkfcoodbaaGreatM45
import Derived.Test.YtfgiehkfcoodbaaGreatM9
import Derived.Test.YtfgiehkfcoodbaaGreatM2
import Derived.Maps.AppendAt
import Derived.Deep.RegionHeld
namespace Go.Proofs.YtfgiehkfcoodbaaGreat
open Go.RowKit
set_option linter.unusedVariables false
set_option maxRecDepth 100000
set_option maxHeartbeats 16000000
structure Mt where
 rev:Nat
 cr:Nat
 H:Nat
 B:Nat
 bad:Nat
 lock:Nat
def Mt.ws (me:Nat) (m:Mt):List Nat:=mws me m.rev m.cr m.H m.B m.bad m.lock
def Mt.May (me:Nat) (m:Mt):Prop:=m.B < 2 ^ 64 ∧ mmay me m.rev m.cr m.H m.B m.bad m.lock = true
def mt0:Mt:=⟨0,0,0,0,0,0⟩
structure Pk where
 C:List Nat
 s:Nat
 m:Mt
instance:Nonempty Pk:=⟨⟨[],0,mt0⟩⟩
structure Pk.Ok (me:Nat) (p:Pk):Prop where
 sl:IsSl p.C 5 (p.m.ws me) p.s
 may:p.m.May me
 lt:∀ x ∈ p.C,x < 4294967296
theorem Pk.Ok.len {me:Nat} {p:Pk} (h:p.Ok me):p.C.length = 12:=h.sl.len
def pw (me:Nat) (p:Pk) (m:Mt):List (Nat × Nat):=if p.m.rev = m.rev ∧ p.m.cr = m.cr ∧ p.m.H = m.H ∧ p.m.B = m.B ∧ p.m.bad = m.bad ∧ p.m.lock = m.lock then [] else slW p.C 5 (mws me m.rev m.cr m.H m.B m.bad m.lock) p.s
def Pk.to (me:Nat) (p:Pk) (m:Mt):Pk:=if p.m.rev = m.rev ∧ p.m.cr = m.cr ∧ p.m.H = m.H ∧ p.m.B = m.B ∧ p.m.bad = m.bad ∧ p.m.lock = m.lock then p else ⟨applyW p.C (pw me p m),1 - p.s,m⟩
theorem Mt.May.lt {me:Nat} {m:Mt} (h:m.May me):∀ x ∈ m.ws me,x < 4294967296:=by
 obtain ⟨hB,hm⟩:=h
 obtain ⟨a1,a2,a3,a4,a5,a6,hW⟩:=may_bounds hB hm
 have hH:m.H ≤ 1048575:=by rcases hW with ⟨h,_⟩ | ⟨_,h,_⟩ <;> omega
 intro x hx
 unfold Mt.ws mws at hx
 simp only [List.mem_cons,List.not_mem_nil,or_false] at hx
 rcases hx with rfl | rfl | rfl | rfl | rfl <;> omega
theorem pw_at {me:Nat} {p:Pk} {m:Mt} (h:p.Ok me) (hm:m.May me):(∀ u ∈ pw me p m,u.1 < 12) ∧ (∀ u ∈ pw me p m,u.2 < 4294967296) ∧ (pw me p m).length ≤ 7:=by
 unfold pw
 split
 ·simp
 ·obtain ⟨_,_,_,_,_,_,_,_,hs,_⟩:=h.sl
  unfold slW
  refine ⟨fun u hu => ?_,halfW_lt hm.lt (by have:=slNx_le (slMk (p.C.getD (p.s * (5 + 1)) 0));omega),by rw [halfW_len,mws_len];omega⟩
  have:=(halfW_at u hu).2
  rw [mws_len] at this
  rcases (show p.s = 0 ∨ p.s = 1 by omega) with e | e <;> rw [e] at this <;> omega
theorem Pk.to_ok {me:Nat} {p:Pk} {m:Mt} (h:p.Ok me) (hm:m.May me):(p.to me m).Ok me ∧ (p.to me m).C = applyW p.C (pw me p m) ∧ (p.to me m).m = m ∧ ∀ k,k < (pw me p m).length → Pk.Ok me ⟨applyW p.C ((pw me p m).take k),p.s,p.m⟩:=by
 obtain ⟨w1,w2,w3⟩:=pw_at h hm
 unfold Pk.to
 by_cases g:p.m.rev = m.rev ∧ p.m.cr = m.cr ∧ p.m.H = m.H ∧ p.m.B = m.B ∧ p.m.bad = m.bad ∧ p.m.lock = m.lock
 ·have e:pw me p m = []:=if_pos g
  rw [if_pos g,e]
  obtain ⟨g1,g2,g3,g4,g5,g6⟩:=g
  refine ⟨h,rfl,?_,fun k hk => by simp at hk⟩
  obtain ⟨C,s,⟨a1,a2,a3,a4,a5,a6⟩⟩:=p
  obtain ⟨b1,b2,b3,b4,b5,b6⟩:=m
  dsimp only at g1 g2 g3 g4 g5 g6 ⊢
  rw [g1,g2,g3,g4,g5,g6]
 ·rw [if_neg g]
  have e:pw me p m = slW p.C 5 (mws me m.rev m.cr m.H m.B m.bad m.lock) p.s:=if_neg g
  obtain ⟨q1,q2⟩:=sl_store (rec:=mws me m.rev m.cr m.H m.B m.bad m.lock) h.sl (mws_len _ _ _ _ _ _ _)
  refine ⟨⟨by rw [e];exact q2,hm,applyW_lt h.lt w2⟩,rfl,rfl,fun k hk => ⟨?_,h.may,applyW_lt h.lt (fun u hu => w2 u (List.mem_of_mem_take hu))⟩⟩
  rw [e] at hk ⊢
  exact q1 k hk
def parseE (D:List Nat):Nat × Nat × Nat × Nat × Nat:=if D.length = 20 then parseS (val10 D) else (0,0,0,0,6)
def keyM (l:List Pr) (me:Nat) (m:Mt) (c i a t:Nat):Mt × Nat × Nat :=
 (⟨(keyS l me m.rev m.cr m.H m.B m.bad m.lock c i a t).1,(keyS l me m.rev m.cr m.H m.B m.bad m.lock c i a t).2.1,(keyS l me m.rev m.cr m.H m.B m.bad m.lock c i a t).2.2.1,(keyS l me m.rev m.cr m.H m.B m.bad m.lock c i a t).2.2.2.1,(keyS l me m.rev m.cr m.H m.B m.bad m.lock c i a t).2.2.2.2.1,(keyS l me m.rev m.cr m.H m.B m.bad m.lock c i a t).2.2.2.2.2.1⟩,(keyS l me m.rev m.cr m.H m.B m.bad m.lock c i a t).2.2.2.2.2.2.1,(keyS l me m.rev m.cr m.H m.B m.bad m.lock c i a t).2.2.2.2.2.2.2)
def keyE (l:List Pr) (me:Nat) (m:Mt) (D:List Nat):Mt × Nat × Nat :=
 if (parseE D).2.2.2.2 = 0 then keyM l me m (parseE D).1 (parseE D).2.1 (parseE D).2.2.1 (parseE D).2.2.2.1 else (m,0,(parseE D).2.2.2.2)
theorem parseE_tok {D:List Nat} (h:(parseE D).2.2.2.2 = 0):TkOk (parseE D).1 (parseE D).2.1 (parseE D).2.2.1 (parseE D).2.2.2.1 ∧ D.length = 20:=by
 unfold parseE at h ⊢
 by_cases g:D.length = 20
 ·rw [if_pos g] at h ⊢
  rcases hx:parseS (val10 D) with ⟨c,i,a,t,E⟩
  rw [hx] at h
  dsimp only at h ⊢
  subst h
  exact ⟨(parseS_ok hx).1,g⟩
 ·rw [if_neg g] at h;exact absurd h (by decide)
theorem keyE_may {l:List Pr} {me:Nat} {m:Mt} {D:List Nat} (h:m.May me):(keyE l me m D).1.May me:=by
 unfold keyE
 by_cases g:(parseE D).2.2.2.2 = 0
 ·rw [if_pos g]
  obtain ⟨q1,q2⟩:=keyS_may (l:=l) h.1 h.2 (parseE_tok g).1 rfl
  exact ⟨q2,q1⟩
 ·rw [if_neg g];exact h
structure Kr where
 p:Pk
 wl:List (Nat × Nat)
 ad:Nat
 E:Nat
def entP (l:List Pr) (me:Nat) (x:Kr) (e:EntS):Kr :=
 if e.2 ≠ 0 then ⟨x.p,x.wl,x.ad,e.2⟩ else ⟨x.p.to me (keyE l me x.p.m e.1).1,x.wl ++ pw me x.p (keyE l me x.p.m e.1).1,x.ad + (keyE l me x.p.m e.1).2.1,(keyE l me x.p.m e.1).2.2⟩
def entsP (l:List Pr) (me:Nat) (x:Kr) (es:List EntS):Kr:=es.foldl (entP l me) x
structure Kr.Ok (me:Nat) (p:Pk) (x:Kr):Prop where
 ok:x.p.Ok me
 c:x.p.C = applyW p.C x.wl
 cut:∀ k,∃ q:Pk,q.Ok me ∧ q.C = applyW p.C (x.wl.take k)
 at_:∀ u ∈ x.wl,u.1 < 12
 lt:∀ u ∈ x.wl,u.2 < 4294967296
theorem Kr.Ok.begin {me:Nat} {p:Pk} (h:p.Ok me) (a E:Nat):Kr.Ok me p ⟨p,[],a,E⟩:=⟨h,rfl,fun k => ⟨p,h,by simp [applyW]⟩,by simp,by simp⟩
theorem applyW_app (c:List Nat) (a b:List (Nat × Nat)):applyW c (a ++ b) = applyW (applyW c a) b:=by unfold applyW;rw [List.foldl_append]
theorem Kr.Ok.next {me:Nat} {p:Pk} {x:Kr} {m:Mt} (h:x.Ok me p) (hm:m.May me) (a E:Nat):Kr.Ok me p ⟨x.p.to me m,x.wl ++ pw me x.p m,a,E⟩:=by
 obtain ⟨t1,t2,t3,t4⟩:=Pk.to_ok h.ok hm
 obtain ⟨w1,w2,w3⟩:=pw_at h.ok hm
 refine ⟨t1,by dsimp only;rw [t2,h.c,applyW_app],fun k => ?_,fun u hu => ?_,fun u hu => ?_⟩
 ·dsimp only
  by_cases g:k ≤ x.wl.length
  ·rw [List.take_append_of_le_length g]
   exact h.cut k
  ·rw [List.take_append,List.take_of_length_le (by omega),applyW_app,← h.c]
   by_cases g2:k - x.wl.length < (pw me x.p m).length
   ·exact ⟨_,t4 _ g2,rfl⟩
   ·rw [List.take_of_length_le (by omega)]
    exact ⟨_,t1,t2⟩
 ·rcases List.mem_append.1 hu with h2 | h2
  ·exact h.at_ u h2
  ·exact w1 u h2
 ·rcases List.mem_append.1 hu with h2 | h2
  ·exact h.lt u h2
  ·exact w2 u h2
theorem entP_ok {l:List Pr} {me:Nat} {p:Pk} {x:Kr} (h:x.Ok me p) (e:EntS):(entP l me x e).Ok me p:=by
 unfold entP
 split
 ·exact ⟨h.ok,h.c,h.cut,h.at_,h.lt⟩
 ·exact h.next (keyE_may h.ok.may) _ _
theorem entsP_ok {l:List Pr} {me:Nat} {p:Pk}:∀ (es:List EntS) (x:Kr),x.Ok me p → (entsP l me x es).Ok me p
 | [],_,h => h
 | e :: es,x,h => entsP_ok es (entP l me x e) (entP_ok h e)
theorem entsP_snoc (l:List Pr) (me:Nat) (x:Kr) (es:List EntS) (e:EntS):entsP l me x (es ++ [e]) = entP l me (entsP l me x es) e:=by unfold entsP;rw [List.foldl_append];rfl
theorem entP_len {l:List Pr} {me:Nat} {p:Pk} {x:Kr} (h:x.Ok me p) (e:EntS):20 * (entP l me x e).wl.length ≤ 20 * x.wl.length + 7 * e.1.length:=by
 unfold entP
 split
 ·dsimp only;omega
 ·have w3:=(pw_at h.ok (keyE_may (l:=l) (D:=e.1) h.ok.may)).2.2
  dsimp only
  rw [List.length_append]
  by_cases g:(parseE e.1).2.2.2.2 = 0
  ·have:=(parseE_tok g).2
   omega
  ·have e0:pw me x.p (keyE l me x.p.m e.1).1 = []:=by
    unfold keyE
    rw [if_neg g]
    exact if_pos ⟨rfl,rfl,rfl,rfl,rfl,rfl⟩
   rw [e0]
   simp
def lens (es:List EntS):Nat:=(es.map fun e => e.1.length).sum
theorem entsP_len {l:List Pr} {me:Nat} {p:Pk}:∀ (es:List EntS) (x:Kr),x.Ok me p → 20 * (entsP l me x es).wl.length ≤ 20 * x.wl.length + 7 * lens es
 | [],x,h => by unfold lens;simp [entsP]
 | e :: es,x,h => by
  have h1:=entP_len (l:=l) h e
  have h2:=entsP_len (l:=l) es (entP l me x e) (entP_ok h e)
  unfold lens at *
  rw [List.map_cons,List.sum_cons]
  show 20 * (entsP l me (entP l me x e) es).wl.length ≤ _
  omega
theorem kpress_lens (p:PadS) (r:Int):(kpress p r).1.1.length + lens (kpress p r).2.toList ≤ p.1.length + 1:=by
 unfold kpress lens
 by_cases g1:r = 32 ∨ r = 45 ∨ r = 160
 ·rw [if_pos g1];simp
 ·rw [if_neg g1]
  by_cases g2:r = 42
  ·rw [if_pos g2];simp;omega
  ·rw [if_neg g2]
   by_cases g3:r = 35
   ·rw [if_pos g3]
    cases p.2 with
    | true => simp
    | false =>
     by_cases g4:p.1 = []
     ·simp [g4]
     ·simp [g4]
   ·rw [if_neg g3]
    by_cases g4:kv r < 0 ∨ p.1.length = 30
    ·rw [if_pos g4];simp
    ·rw [if_neg g4];simp
theorem lens_append (a b:List EntS):lens (a ++ b) = lens a + lens b:=by unfold lens;rw [List.map_append,List.sum_append]
theorem kkeys_lens (R:List Int):∀ (x:PadS × List EntS),(kkeys R x).1.1.length + lens (kkeys R x).2 ≤ x.1.1.length + lens x.2 + R.length:=by
 induction R with
 | nil => intro x;simp [kkeys]
 | cons r R ih =>
  intro x
  have h:=ih (kstep x r)
  have h2:=kpress_lens x.1 r
  have h3:(kstep x r).1.1.length + lens (kstep x r).2 ≤ x.1.1.length + lens x.2 + 1:=by
   show (kpress x.1 r).1.1.length + lens (x.2 ++ (kpress x.1 r).2.toList) ≤ _
   rw [lens_append]
   omega
  show (kkeys R (kstep x r)).1.1.length + lens (kkeys R (kstep x r)).2 ≤ _
  rw [List.length_cons]
  omega
theorem told_ex (s:ByteArray):∀ (n j:Nat),s.size - j ≤ n → ∃ R:List Nat,Told s j R ∧ R.length ≤ s.size - j:=by
 intro n
 induction n with
 | zero => intro j hj;exact ⟨[],show s.size ≤ j by omega,by simp⟩
 | succ n ih =>
  intro j hj
  by_cases g:j < s.size
  ·have hd:=dec_posP s j g
   obtain ⟨R,h1,h2⟩:=ih (j + (Utf8.decode s j).2) (by omega)
   exact ⟨_ :: R,⟨g,rfl,h1⟩,by rw [List.length_cons];omega⟩
  ·exact ⟨[],show s.size ≤ j by omega,by simp⟩
noncomputable def runesOf (s:ByteArray):List Nat:=Classical.epsilon fun R => Told s 0 R ∧ R.length ≤ s.size
theorem runesOf_told (s:ByteArray):Told s 0 (runesOf s) ∧ (runesOf s).length ≤ s.size:=by
 obtain ⟨R,h1,h2⟩:=told_ex s s.size 0 (by omega)
 exact Classical.epsilon_spec (p:=fun R => Told s 0 R ∧ R.length ≤ s.size) ⟨R,h1,by omega⟩
noncomputable def entsOf (s:ByteArray):List EntS:=(kkeys ((runesOf s).map fun (n:Nat) => (n:Int)) (([],false),[])).2
theorem entsOf_lens (s:ByteArray):lens (entsOf s) ≤ s.size:=by
 have h:=kkeys_lens ((runesOf s).map fun (n:Nat) => (n:Int)) (([],false),[])
 have h2:=(runesOf_told s).2
 unfold entsOf
 rw [List.length_map] at h
 have h0:lens [] = 0:=rfl
 dsimp only at h
 rw [h0,List.length_nil] at h
 omega
theorem entsOf_ok (s:ByteArray):∀ e ∈ entsOf s,EntOk e:=kkeys_ents _ _ ⟨by simp,by simp⟩ (by simp)
theorem entsOf_len (s:ByteArray):(entsOf s).length ≤ s.size:=by
 have h:=kkeys_len ((runesOf s).map fun (n:Nat) => (n:Int)) (([],false),[])
 have h2:=(runesOf_told s).2
 rw [List.length_map] at h
 unfold entsOf
 simpa using Nat.le_trans h (by simpa using h2)
noncomputable def textP (l:List Pr) (me:Nat) (p:Pk) (s:ByteArray):Kr :=
 if 2000 < s.size then ⟨p,[],0,1⟩ else if entsOf s = [] then ⟨p,[],0,22⟩ else entsP l me ⟨p,[],0,0⟩ (entsOf s)
def tickM (m:Mt) (load:Nat):Mt:=⟨m.rev,m.cr - min load m.cr,m.H,m.B,m.bad,m.lock - 1⟩
def tickP (me:Nat) (p:Pk) (load:Nat):Kr:=⟨p.to me (tickM p.m load),pw me p (tickM p.m load),min load p.m.cr,0⟩
theorem tickM_may {me:Nat} {m:Mt} (h:m.May me) (load:Nat):(tickM m load).May me:=by
 obtain ⟨hB,hm⟩:=h
 obtain ⟨a1,a2,a3,a4,a5,a6,hW⟩:=may_bounds hB hm
 unfold tickM
 exact ⟨hB,may_of a1 a2 (by dsimp only;omega) a4 (by dsimp only;omega) (by dsimp only;omega) hW⟩
theorem tickP_ok {me:Nat} {p:Pk} (h:p.Ok me) (load:Nat):(tickP me p load).Ok me p ∧ (tickP me p load).wl.length ≤ 7:=by
 have h1:=(Kr.Ok.begin h 0 0).next (tickM_may h.may load) (min load p.m.cr) 0
 have h2:=(pw_at h (tickM_may h.may load)).2.2
 exact ⟨h1,h2⟩
theorem textP_ok {l:List Pr} {me:Nat} {p:Pk} (h:p.Ok me) (s:ByteArray):(textP l me p s).Ok me p ∧ (textP l me p s).wl.length ≤ 700:=by
 unfold textP
 split
 ·exact ⟨Kr.Ok.begin h _ _,by simp⟩
 ·split
  ·exact ⟨Kr.Ok.begin h _ _,by simp⟩
  ·have h1:=entsP_len (l:=l) (entsOf s) _ (Kr.Ok.begin h 0 0)
   have h2:=entsOf_lens s
   exact ⟨entsP_ok _ _ (Kr.Ok.begin h _ _),by simp at h1;omega⟩
noncomputable def Kr.cut (me:Nat) (p:Pk) (x:Kr) (k:Nat):Pk:=if x.wl.length ≤ k then x.p else Classical.epsilon fun q:Pk => q.Ok me ∧ q.C = applyW p.C (x.wl.take k)
theorem Kr.Ok.cut_ok {me:Nat} {p:Pk} {x:Kr} (h:x.Ok me p) (k:Nat):(x.cut me p k).Ok me ∧ (x.cut me p k).C = applyW p.C (x.wl.take k):=by
 unfold Kr.cut
 split
 ·rename_i g
  rw [List.take_of_length_le g]
  exact ⟨h.ok,h.c⟩
 ·exact Classical.epsilon_spec (h.cut k)
theorem Kr.cut_all {me:Nat} {p:Pk} {x:Kr} {k:Nat} (h:x.wl.length ≤ k):x.cut me p k = x.p:=by unfold Kr.cut;rw [if_pos h]
theorem keyS_no5 (l:List Pr) (me rev cr H B bad lock cls id am tag:Nat):(keyS l me rev cr H B bad lock cls id am tag).2.2.2.2.2.2.2 ≠ 5:=by
 unfold keyS
 by_cases g1:0 < lock
 ·rw [if_pos g1];(dsimp only;decide)
 ·rw [if_neg g1]
  by_cases g2:cls = 3
  ·rw [if_pos g2];(dsimp only;decide)
  ·rw [if_neg g2]
   rcases soldE_vals l me (tbody cls id am) rev tag (rev + 1) with h | h | h
   ·rw [h,if_pos rfl]
    dsimp only
    unfold takeS
    by_cases g4:judge H B id ≠ 0
    ·rw [if_pos g4]
     show judge H B id ≠ 5
     unfold judge
     split
     ·decide
     ·split <;> decide
    ·rw [if_neg g4]
     split
     ·split <;> (dsimp only;decide)
     ·split
      ·(dsimp only;decide)
      ·split <;> (dsimp only;decide)
   ·rw [h,if_neg (by decide)];(dsimp only;decide)
   ·rw [h,if_neg (by decide)];(dsimp only;decide)
theorem parseE_ok (D:List Nat) (hD:∀ d ∈ D,d ≤ 9) (w:World):Calls Tryz.prog 180 #[.string (dstr D)] w (RetTok (parseE D).1 (parseE D).2.1 (parseE D).2.2.1 (parseE D).2.2.2.1 (parseE D).2.2.2.2 w):=by
 unfold parseE
 by_cases g:D.length = 20
 ·rw [if_pos g]
  exact parse_ok D w hD g _ _ _ _ _ (Lib.hid rfl)
 ·rw [if_neg g]
  exact parse_len (dstr D) w (by rw [dstr_size];exact g)
theorem keyed_e (v o:Value) (l:List Pr) (D:List Nat) (me:Nat) (p:Pk) (w:World) (hv:IsWs w v p.C) (ho:IsPs w o l) (hO:OOk l) (hp:p.Ok me) (hD:∀ d ∈ D,d ≤ 9) :
 Calls Tryz.prog 178 #[v,.agg #[o],.string (dstr D)] w (RetKeyed (pw me p (keyE l me p.m D).1) (keyE l me p.m D).2.1 (keyE l me p.m D).2.2 w):=by
 have hP:=parseE_ok D hD
 unfold keyE
 by_cases g:(parseE D).2.2.2.2 = 0
 ·rw [if_pos g]
  rw [g] at hP
  exact keyed_ok v o p.C l (dstr D) me p.m.rev p.m.cr p.m.H p.m.B p.m.bad p.m.lock p.s _ _ _ _ _ _ _ _ _ _ _ _ w hv ho hO hp.sl hp.may.1 hp.may.2 (parseE_tok g).1 hP (Lib.hid rfl) (keyS_no5 _ _ _ _ _ _ _ _ _ _ _ _)
 ·rw [if_neg g]
  have e:pw me p p.m = []:=if_pos ⟨rfl,rfl,rfl,rfl,rfl,rfl⟩
  show Calls _ _ _ _ (RetKeyed (pw me p p.m) 0 (parseE D).2.2.2.2 w)
  rw [e]
  exact keyed_err v o p.C (dstr D) me p.m.rev p.m.cr p.m.H p.m.B p.m.bad p.m.lock p.s _ _ _ _ _ w hv hp.sl hp.may.1 hp.may.2 g hP
end Go.Proofs.YtfgiehkfcoodbaaGreat
namespace Go.Proofs.YtfgiehkfcoodbaaGreat
open Go.RowKit
set_option linter.unusedVariables false
set_option maxRecDepth 100000
set_option maxHeartbeats 16000000
section
variable {P:Program} {ops:Array Oper} {rest:List Oper} {o:Oper} {a:Act} {t e:TypeId} {size bytes:Nat} {w0 W:World} {G:List Nat} {L:List Chunk} {base n:Nat} {v:Value} {xs news:List Value}
theorem wpList_pushNr {Q:Exit → Act → World → Prop} (E:Elem P t e size bytes) (hgd:o.guard = none) (s x:Operand)
 (ho:o.op = .call { callee:=.builtin .append,args:=#[s,x],argTypes:=#[t,t] })
 {m c B:Nat} {A:Option Addr} (i:Nat) (H:Mem w0 G W L) (hi:L[i]? = some (.row base e size v n xs)) (hs:a.eval s = v) (hx:a.eval x = .slice A m c) (hr:Rd W B size A m news)
 (h1:∀ u ∈ news,u.oneCell' = true) (hbytes:(n + m) * bytes ≤ 140737488355328) (hmax:n + m ≤ maxLen) (hbase:base ≤ W.heap.size)
 (h:∀ A' c' w',Mem w0 G w' (L.set i (.row base e size (.slice A' (n + m) c') (n + m) (xs ++ news))) → W.grownBy w' v.ownBlock → wpList P ops Q rest (a.put o.dst (.slice A' (n + m) c')) w'):wpList P ops Q (o :: rest) a W:=by
 have hown:=H.own_ i hi
 rcases A with _ | ad
 ·have hm:m = 0:=by
   rcases Nat.eq_zero_or_pos m with h0 | h0
   ·exact h0
   ·obtain ⟨b,off,h,_⟩:=hr.2 h0
    cases h
  subst hm
  have hn:news = []:=List.eq_nil_of_length_eq_zero (by simpa using hr.1)
  subst hn
  obtain ⟨A',c',rfl⟩:=own_slice hown
  have hil:=List.getElem?_eq_some_iff.1 hi
  have hset:L.set i (.row base e size (.slice A' (n + 0) c') (n + 0) (xs ++ [])) = L:=by
   rw [Nat.add_zero,List.append_nil]
   apply List.ext_getElem?
   intro k
   rw [List.getElem?_set]
   split
   ·subst_vars;rw [if_pos hil.1,hi]
   ·rfl
  have hh:=h A' c' W (by rw [hset];exact H) ⟨rfl,rfl,rfl,Nat.le_refl _,fun _ _ _ => rfl⟩
  refine wpList_plain hgd fun K hK => ?_
  have hrun:=run_append_empty (P:=P) (ty:=o.type) E hown c
  unfold Oper.wp
  simp [execOp,ho,resolve,invoke,builtin,hs,hx,hrun,Result.andThen]
  exact hK _ _ hh
 ·obtain ⟨i',z,hi',hz,hsize,hby,hzs⟩:=E.info
  refine wpList_append_own_at W hgd s x t ho base e i' z size bytes E.und hi' hz hsize hby hzs E.pos v n xs hs hown ad m c news hx hr.1 ?_ h1 hmax hbytes hbase ?_
  ·intro k u hu
   rcases Nat.eq_zero_or_pos m with h0 | h0
   ·subst h0
    have hn:news = []:=List.eq_nil_of_length_eq_zero (by simpa using hr.1)
    subst hn
    simp at hu
   ·obtain ⟨b,off,h,_,hc⟩:=hr.2 h0
    injection h with h
    subst h
    rw [add_none]
    exact hc k u hu
  ·intro v' w' ho' hg _ hor
   obtain ⟨A',c',rfl⟩:=own_slice ho'
   refine h A' c' w' (Mem.push i H hi hg ho' (fun k hk => ?_)) hg
   rcases hor with h2 | h2
   ·exact .inl (by rw [← h2];exact hk)
   ·rw [h2] at hk
    injection hk with hk
    exact .inr (by omega)
end
end Go.Proofs.YtfgiehkfcoodbaaGreat
namespace Go.Proofs.YtfgiehkfcoodbaaGreat
set_option linter.unusedVariables false
set_option maxRecDepth 100000
set_option maxHeartbeats 16000000
section
variable {P:Program} {ops:Array Oper} {Q:Exit → Act → World → Prop} {md:Region.Mode} {S:World → Prop} {n:Nat}
def AnyN (P:Program) (md:Region.Mode) (ops:Array Oper) (Q:Exit → Act → World → Prop) (S:World → Prop) (n:Nat):Nat → Array Bool → Act → World → Prop
 | 0,L,a,w => Region.ready md ops L = [] ∧ Q .normal a w
 | f + 1,L,a,w => (Region.ready md ops L = [] → Q .normal a w) ∧ ∀ i ∈ Region.ready md ops L,wpOp P ops Q i (fun a' w' => (i ≠ n → S w') ∧ AnyN P md ops Q S n f (L.setIfInBounds i true) a' w') a w
theorem AnyN.any:∀ (f:Nat) (L:Array Bool) (a:Act) (w:World),AnyN P md ops Q S n f L a w → wpAny P md ops Q f L a w
 | 0,_,_,_,h => h
 | f + 1,_,_,_,h => ⟨h.1,fun i hi => wpOp_mono (fun a' w' h' => AnyN.any f _ a' w' h'.2) (h.2 i hi)⟩
def waits (md:Region.Mode) (ops:Array Oper) (n i:Nat):Bool:=match ops[n]? with
 | some o => o.after.toList.any fun e => Region.binds md e && e.on == i
 | none => true
theorem not_ready {i:Nat} {L:Array Bool} (h:waits md ops n i = true) (hi:L.getD i true = false):n ∉ Region.ready md ops L:=by
 intro hn
 obtain ⟨_,o,ho,hall⟩:=mem_ready.1 hn
 unfold waits at h
 rw [ho] at h
 obtain ⟨e,he,hb⟩:=List.any_eq_true.1 h
 rw [Bool.and_eq_true,beq_iff_eq] at hb
 have h1:=hall e (Array.mem_toList_iff.1 he) hb.1
 rw [hb.2] at h1
 rcases Nat.lt_or_ge i L.size with q | q
 ·simp [q] at hi h1;rw [hi] at h1;cases h1
 ·simp [Array.getElem?_eq_none q] at h1
theorem AnyN.first {i:Nat} {oi:Oper} {v:Value} (hi:ops[i]? = some oi) (hsel:∀ (j:Nat) (o:Oper) cs b,ops[j]? = some o → o.op ≠ .select cs b) (hQ:∀ c a w,Q (.panic c) (a.put oi.dst v) w → Q (.panic c) a w) (hw:waits md ops n i = true) (hin:i ≠ n) :
 ∀ (f:Nat) (L:Array Bool) (a:Act) (w:World),(∀ j oj,ops[j]? = some oj → j ≠ i → L.getD j true = false → (∀ e ∈ oj.after,Region.binds md e = true → e.on ≠ i) → oi.apart ops oj = true) → i ∈ Region.ready md ops L → YieldsIf P ops S oi v a → S w →
  AnyN P md ops Q S n f (L.setIfInBounds i true) (a.put oi.dst v) w → AnyN P md ops Q S n (f + 1) L a w:=by
 intro f
 induction f with
 | zero =>
  intro L a w _ hr hy hS H
  refine ⟨fun h => absurd hr (by rw [h];simp),fun j hj => ?_⟩
  by_cases e:j = i
  ·subst e
   exact hy.wpOp hi hS ⟨fun _ => hS,H⟩
  ·exact absurd (ready_mono hj e) (by rw [H.1];simp)
 | succ f ih =>
  intro L a w hfr hr hy hS H
  refine ⟨fun h => absurd hr (by rw [h];simp),fun j hj => ?_⟩
  by_cases e:j = i
  ·subst e
   exact hy.wpOp hi hS ⟨fun _ => hS,H⟩
  ·have h0:=(mem_ready.1 hr).1
   obtain ⟨hju,oj,hoj,hall⟩:=mem_ready.1 hj
   have hno:∀ e ∈ oj.after,Region.binds md e = true → e.on ≠ i:=fun e he hb q => by
    have h1:=hall e he hb
    rw [q] at h1
    rcases Nat.lt_or_ge i L.size with q | q
    ·simp [q] at h0 h1;rw [h0] at h1;cases h1
    ·simp [Array.getElem?_eq_none q] at h1
   have hjn:j ≠ n:=fun q => not_ready hw h0 (q ▸ hj)
   have h2:=wpOp_putIf hoj (hfr j oj hoj e hju hno) (fun cs b => hsel i oi cs b hi) (fun cs b => hsel j oj cs b hoj) hQ hy (H.2 j (ready_mono hj e))
   refine wpOp_mono (fun a' w' h3 => ⟨h3.2.1,ih (L.setIfInBounds j true) a' w' (fun k ok hk hki hun => hfr k ok hk hki ?_) (ready_mono hr (Ne.symm e)) h3.1 (h3.2.1 hjn) ?_⟩) h2
   ·by_cases q:j = k
    ·subst q;exact hju
    ·rwa [getD_set_ne true q] at hun
   ·rw [Array.setIfInBounds_comm _ _ e]
    exact h3.2.2
theorem AnyN.take {i:Nat} {oi:Oper} {v:Value} {f:Nat} {L:Array Bool} {a:Act} {w:World} (hi:ops[i]? = some oi) (hs:Region.noSelect ops = true) (hf:Region.free md ops L i = true) (hr:(Region.ready md ops L).contains i = true) (hw:waits md ops n i = true) (hin:i ≠ n)
 (hQ:∀ c a w,Q (.panic c) (a.put oi.dst v) w → Q (.panic c) a w) (hy:YieldsIf P ops S oi v a) (hS:S w) (h:AnyN P md ops Q S n f (L.setIfInBounds i true) (a.put oi.dst v) w):AnyN P md ops Q S n (f + 1) L a w :=
 AnyN.first hi (Region.noSelect_spec hs) hQ hw hin f L a w (Region.free_spec hi hf) (by simpa using hr) hy hS h
theorem AnyN.one {i:Nat} {o:Oper} {f:Nat} {L:Array Bool} {a:Act} {w:World} (ho:ops[i]? = some o) (hr:Region.ready md ops L = [i])
 (h:∀ K:Act → World → Prop,(∀ a' w',(i ≠ n → S w') → AnyN P md ops Q S n f (L.setIfInBounds i true) a' w' → K a' w') → if Region.wanted o (yielded ops a.tmps) = true then Oper.wp P o a w K Q else K (a.put o.dst undef) w):AnyN P md ops Q S n (f + 1) L a w:=by
 refine ⟨fun q => absurd q (by rw [hr];simp),fun j hj => ?_⟩
 rw [hr,List.mem_singleton] at hj
 subst hj
 exact wpOp_step ho fun K hK => h K fun a' w' h1 h2 => hK a' w' ⟨h1,h2⟩
theorem AnyN.done {f:Nat} {L:Array Bool} {a:Act} {w:World} (hr:Region.ready md ops L = []) (h:Q .normal a w):AnyN P md ops Q S n f L a w:=by
 cases f with
 | zero => exact ⟨hr,h⟩
 | succ f => exact ⟨fun _ => h,by rw [hr];simp⟩
end
end Go.Proofs.YtfgiehkfcoodbaaGreat

/- What a sale comes to: it buys something, or nothing. -/
import Derived.Test.YtfgiehkfcoodbaaGreatM0
import Derived.Test.YtfgiehkfcoodbaaGreatM16
import Derived.Test.YtfgiehkfcoodbaaGreatM17
import Derived.Test.YtfgiehkfcoodbaaGreatM10
import Derived.Test.YtfgiehkfcoodbaaGreatM4
import Derived.Test.YtfgiehkfcoodbaaGreatM18
import Derived.Test.YtfgiehkfcoodbaaGreatM9
namespace Go.Proofs.YtfgiehkfcoodbaaGreat
open Go.RowKit
set_option linter.unusedVariables false
set_option maxRecDepth 100000
set_option maxHeartbeats 16000000
structure Tm where
 tl:List (Nat × Nat)
 fx:Nat
 fb:Nat
 db:Nat
 al:Nat
structure Tm.Ok (T:Tm):Prop where
 h1:TOk T.tl
 h2:TmOk T.fx T.fb T.db T.al
structure Acc where
 me:Nat
 rev:Nat
 next:Nat
 month:Nat
 bought:Nat
 free:Int
 l:List (Nat × Nat)
structure Acc.Ok (a:Acc):Prop where
 h1:AOk a.me a.rev a.next a.month a.bought a.free
 h2:DOk a.l
def acc0:Acc:=⟨0,0,0,0,0,0,[]⟩
structure Bil where
 id:Nat
 te:Nat
 de:Nat
 fe:Nat
 pr:Nat
 ch:Nat
 un:Nat
def bil0:Bil:=⟨0,0,0,0,0,0,0⟩
def rollP (m b:Nat) (l:List (Nat × Nat)) (m2:Nat):Nat × List (Nat × Nat):=if m < m2 then (0,aged (m2 - m) l) else (b,l)
theorem rolled_P {m b:Nat} {l:List (Nat × Nat)} {m2:Nat} (h:m ≤ m2):Rolled m b l m2 (rollP m b l m2).1 (rollP m b l m2).2:=by
 unfold rollP
 by_cases g:m < m2
 ·rw [if_pos g];exact .inr ⟨g,rfl,rfl⟩
 ·rw [if_neg g];exact .inl ⟨by omega,rfl,rfl⟩
def sellP (T:Tm) (a:Acc) (t m:Nat):Nat × Acc × Bil :=
 if m < a.month then (23,acc0,bil0) else
 let r:=rollP a.month a.bought a.l m
 let rc:=recov (t * T.db / 10000) r.2
 let F:=T.fx + t * T.fb / 10000
 if t < rc.1 + F then (19,acc0,bil0) else
 let mo:=most (pcs T.tl r.1) (t - rc.1 - F) 0 0
 if mo.1 = 0 then (19,acc0,bil0) else
 (0,⟨a.me,a.rev,a.next + 1,m,r.1 + mo.1,a.free,rc.2⟩,⟨a.next,t,rc.1,F,mo.2,t - rc.1 - F - mo.2,mo.1⟩)
def grantP (T:Tm) (a:Acc) (m:Nat):Nat × Acc × Bil :=
 if m < a.month then (23,acc0,bil0) else
 if T.al = 0 then (22,acc0,bil0) else
 if a.free = (m:Int) then (21,acc0,bil0) else
 (0,⟨a.me,a.rev,a.next + 1,m,(rollP a.month a.bought a.l m).1,(m:Int),(rollP a.month a.bought a.l m).2⟩,⟨a.next,0,0,0,0,0,T.al⟩)
def rekeyP (a:Acc):Nat × Acc × Bil :=
 if a.rev = 15 then (24,acc0,bil0) else (0,⟨a.me,a.rev + 1,a.next + 1,a.month,a.bought,a.free,a.l⟩,⟨a.next,0,0,0,0,0,0⟩)
def oweP (a:Acc) (ow bp:Nat):Nat × Acc :=
 if a.l.length = 8 then (16,acc0) else (0,⟨a.me,a.rev,a.next,a.month,a.bought,a.free,a.l ++ [(ow,bp)]⟩)
def openP (me:Nat):Acc:=⟨me,0,1,0,0,-1,[]⟩
theorem openP_ok {me:Nat} (h:me ≤ 49):(openP me).Ok:=by
 refine ⟨⟨h,?_,?_,?_,?_,?_,?_,?_⟩,⟨by simp [openP],fun p hp => by simp [openP] at hp⟩⟩ <;> simp [openP]
theorem oweP_ok {a:Acc} {ow bp:Nat} {a2:Acc} (ha:a.Ok) (h1:ow ≤ 1000000000) (h2:bp ≤ 10000) (h:oweP a ow bp = (0,a2)):a2.Ok:=by
 unfold oweP at h
 by_cases g:a.l.length = 8
 ·rw [if_pos g] at h;injection h with h _;exact absurd h (by decide)
 ·rw [if_neg g] at h
  injection h with _ h
  subst h
  refine ⟨ha.h1,⟨?_,?_⟩⟩
  ·have:=ha.h2.1
   simp only [List.length_append,List.length_cons,List.length_nil];omega
  ·intro p hp
   rcases List.mem_append.1 hp with hp | hp
   ·exact ha.h2.2 p hp
   ·obtain rfl:=List.mem_singleton.1 hp
    exact ⟨h1,h2⟩
theorem rekeyP_ok {a:Acc} {a2:Acc} {b:Bil} (ha:a.Ok) (hn:a.next ≤ 1048575) (h:rekeyP a = (0,a2,b)):a2.Ok:=by
 unfold rekeyP at h
 by_cases g:a.rev = 15
 ·rw [if_pos g] at h;injection h with h _;exact absurd h (by decide)
 ·rw [if_neg g] at h
  injection h with _ h
  injection h with h _
  subst h
  obtain ⟨a1,a2,a3,a4,a5,a6,a7,a8⟩:=ha.h1
  exact ⟨⟨a1,by dsimp only;omega,by dsimp only;omega,by dsimp only;omega,a5,a6,a7,a8⟩,ha.h2⟩
theorem grantP_ok {T:Tm} {a:Acc} {m:Nat} {a2:Acc} {b:Bil} (ha:a.Ok) (hn:a.next ≤ 1048575) (hm:m ≤ 2399) (h:grantP T a m = (0,a2,b)):a2.Ok:=by
 unfold grantP at h
 by_cases g1:m < a.month
 ·rw [if_pos g1] at h;injection h with h _;exact absurd h (by decide)
 ·rw [if_neg g1] at h
  by_cases g2:T.al = 0
  ·rw [if_pos g2] at h;injection h with h _;exact absurd h (by decide)
  ·rw [if_neg g2] at h
   by_cases g3:a.free = (m:Int)
   ·rw [if_pos g3] at h;injection h with h _;exact absurd h (by decide)
   ·rw [if_neg g3] at h
    injection h with _ h
    injection h with h _
    subst h
    have hr:=rolled_P (b:=a.bought) (l:=a.l) (show a.month ≤ m by omega)
    obtain ⟨a1,a2,a3,a4,a5,a6,a7,a8⟩:=ha.h1
    refine ⟨⟨a1,a2,by dsimp only;omega,by dsimp only;omega,hm,?_,by dsimp only;omega,by dsimp only;omega⟩,hr.ok ha.h2⟩
    dsimp only
    rcases hr with ⟨_,h,_⟩ | ⟨_,h,_⟩ <;> omega
theorem sellP_ok {T:Tm} {a:Acc} {t m:Nat} {a2:Acc} {b:Bil} (hT:T.Ok) (ha:a.Ok) (hn:a.next ≤ 1048575) (hm:m ≤ 2399) (h:sellP T a t m = (0,a2,b)):a2.Ok ∧ 1 ≤ b.un ∧ b.un ≤ 2097151:=by
 unfold sellP at h
 by_cases g1:m < a.month
 ·rw [if_pos g1] at h;injection h with h _;exact absurd h (by decide)
 ·rw [if_neg g1] at h
  dsimp only at h
  have hr:=rolled_P (b:=a.bought) (l:=a.l) (show a.month ≤ m by omega)
  generalize rollP a.month a.bought a.l m = r at h hr
  obtain ⟨b2,l2⟩:=r
  dsimp only at h hr
  generalize hrc:recov (t * T.db / 10000) l2 = rc at h
  obtain ⟨paid,out⟩:=rc
  dsimp only at h
  generalize T.fx + t * T.fb / 10000 = F at h
  by_cases g2:t < paid + F
  ·rw [if_pos g2] at h;injection h with h _;exact absurd h (by decide)
  ·rw [if_neg g2] at h
   generalize hmo:most (pcs T.tl b2) (t - paid - F) 0 0 = mo at h
   obtain ⟨U,P⟩:=mo
   dsimp only at h
   by_cases g3:U = 0
   ·rw [if_pos g3] at h;injection h with h _;exact absurd h (by decide)
   ·rw [if_neg g3] at h
    injection h with _ h
    injection h with h h'
    subst h h'
    obtain ⟨a1,a2,a3,a4,a5,a6,a7,a8⟩:=ha.h1
    have hb2:b2 ≤ 10000000:=by rcases hr with ⟨_,h,_⟩ | ⟨_,h,_⟩ <;> omega
    obtain ⟨m1,m2,m3,m4,_⟩:=most_law hT.h1 hb2 hmo
    have hD:=hr.ok ha.h2
    have hinv:=recov_inv (t * T.db / 10000) l2 hD.2
    rw [hrc] at hinv
    refine ⟨⟨⟨a1,a2,by dsimp only;omega,by dsimp only;omega,hm,by dsimp only;omega,a7,by dsimp only;omega⟩,?_⟩,by dsimp only;omega,by dsimp only;omega⟩
    exact ⟨Nat.le_trans hinv.2.2.1 hD.1,fun p hp => (hinv.2.2.2 p hp).2⟩
structure Ev where
 k:Nat
 me:Nat
 mo:Nat
 id:Nat
 te:Nat
 de:Nat
 fe:Nat
 pr:Nat
 ch:Nat
 un:Nat
 tg:Nat
 ow:Nat
 bp:Nat
def Ev.ok (v:Ev):Prop:=evOk v.k v.me v.mo v.id v.te v.de v.fe v.pr v.ch v.un v.tg v.ow v.bp
structure So where
 id:Nat
 cls:Nat
 am:Nat
 tag:Nat
 rev:Nat
structure Cu where
 a:Acc
 s:List So
def cu0:Cu:=⟨acc0,[]⟩
def place (B:List Cu) (me:Nat):Option Nat:=B.findIdx? (fun c => c.a.me == me)
def deedP (T:Tm) (a:Acc) (v:Ev):Nat × Acc × Bil:=if v.k = 2 then sellP T a v.te v.mo else if v.k = 3 then grantP T a v.mo else rekeyP a
def soldP (rev:Nat) (v:Ev) (a2:Acc):So:=if v.k = 4 then ⟨v.id,2,a2.rev,v.tg,rev⟩ else ⟨v.id,0,v.un,v.tg,rev⟩
def Bil.same (b:Bil) (v:Ev):Prop:=b.id = v.id ∧ b.te = v.te ∧ b.de = v.de ∧ b.fe = v.fe ∧ b.pr = v.pr ∧ b.ch = v.ch ∧ b.un = v.un
instance (b:Bil) (v:Ev):Decidable (b.same v):=by unfold Bil.same;exact inferInstance
def custP (T:Tm) (c:Cu) (v:Ev):Nat × Cu :=
 if v.k = 5 then (if (oweP c.a v.ow v.bp).1 = 0 then (0,⟨(oweP c.a v.ow v.bp).2,c.s⟩) else ((oweP c.a v.ow v.bp).1,cu0))
 else if (deedP T c.a v).1 = 0 then (if (deedP T c.a v).2.2.same v then (0,⟨(deedP T c.a v).2.1,c.s ++ [soldP c.a.rev v (deedP T c.a v).2.1]⟩) else (8,cu0))
 else ((deedP T c.a v).1,cu0)
def keepE (T:Tm) (B:List Cu) (v:Ev):Nat × List Cu :=
 match place B v.me with
 | none => if v.k = 1 then (0,B ++ [⟨openP v.me,[]⟩]) else (18,[])
 | some i => if v.k = 1 then (21,[]) else if (custP T (B.getD i cu0) v).1 = 0 then (0,B.set i (custP T (B.getD i cu0) v).2) else ((custP T (B.getD i cu0) v).1,[])
def bookE (T:Tm):List Ev → Nat → List Cu → Nat × Nat × List Cu
 | [],_,B => (0,0,B)
 | v :: l,i,B => if (keepE T B v).1 = 0 then bookE T l (i + 1) (keepE T B v).2 else ((keepE T B v).1,i,[])
structure BOk (T:Tm) (B:List Cu) (n:Nat):Prop where
 h1:∀ c ∈ B,c.a.Ok ∧ c.a.next = c.s.length + 1
 h2:(B.map fun c => c.a.me).Nodup
 h3:(B.map fun c => c.s.length).sum + B.length ≤ n
theorem place_none {B:List Cu} {me:Nat}:place B me = none ↔ ∀ c ∈ B,c.a.me ≠ me:=by
 unfold place
 rw [List.findIdx?_eq_none_iff]
 constructor
 ·intro h c hc;have:=h c hc;simpa using this
 ·intro h c hc;have:=h c hc;simpa using this
theorem place_some {B:List Cu} {me i:Nat} (h:place B me = some i):∃ hi:i < B.length,B[i].a.me = me:=by
 unfold place at h
 rw [List.findIdx?_eq_some_iff_getElem] at h
 obtain ⟨hi,h1,_⟩:=h
 exact ⟨hi,by simpa using h1⟩
theorem roll_early (B g me rev next month bought:Nat) (free:Int) (l:List (Nat × Nat)) (At:Option Addr) (nt ct fx fb db al m2:Nat) (w:World) (hk:Ck B w g me rev next month bought free l At nt ct fx fb db al) (hm:m2 ≤ 2399) (hlt:m2 < month) :
 Calls Tryz.prog 38 #[.pointer (some ⟨g,0,none⟩),m2] w fun e w' => e = .returned (.int .i64 23) ∧ w = w':=by
 obtain ⟨hBg,A,c,hblk,hown⟩:=hk
 have k0:w.cell? ⟨g,0,none⟩ = some (.int .i64 ↑me):=hblk.cell 0
 have kf0:w.frozen? ⟨g,0,none⟩ = false:=hblk.frozen 0
 have k1:w.cell? ⟨g,1,none⟩ = some (.int .i64 ↑rev):=hblk.cell 1
 have kf1:w.frozen? ⟨g,1,none⟩ = false:=hblk.frozen 1
 have k2:w.cell? ⟨g,2,none⟩ = some (.int .i64 ↑next):=hblk.cell 2
 have kf2:w.frozen? ⟨g,2,none⟩ = false:=hblk.frozen 2
 have k3:w.cell? ⟨g,3,none⟩ = some (.int .i64 ↑month):=hblk.cell 3
 have kf3:w.frozen? ⟨g,3,none⟩ = false:=hblk.frozen 3
 have k4:w.cell? ⟨g,4,none⟩ = some (.int .i64 ↑bought):=hblk.cell 4
 have kf4:w.frozen? ⟨g,4,none⟩ = false:=hblk.frozen 4
 have k5:w.cell? ⟨g,5,none⟩ = some (.int .i64 free):=hblk.cell 5
 have kf5:w.frozen? ⟨g,5,none⟩ = false:=hblk.frozen 5
 have k6:w.cell? ⟨g,6,none⟩ = some (.slice A l.length c):=hblk.cell 6
 have kf6:w.frozen? ⟨g,6,none⟩ = false:=hblk.frozen 6
 have h1:m2 < month:=hlt
 clear hlt hblk hown
 go_enter Tryz.func38,Tryz.ntmps38
 go_wp2_with (go_at_call 62;refine (within_yes _ _ _ _ (by omega) (by omega)).mono ?_;rintro e w' ⟨rfl,rfl⟩)
 go_ret
 exact ⟨rfl,rfl⟩
theorem sellX_early (me rev next month bought:Nat) (free:Int) (A:Option Addr) (n c:Nat) (l:List (Nat × Nat)) (At:Option Addr) (nt ct fx fb db al:Nat) (tl:List (Nat × Nat)) (m2:Nat) (t:Int) (w:World)
 (hv:IsDs w (.slice A n c) l) (hl:DOk l) (ha:AOk me rev next month bought free) (hv2:IsDs w (.slice At nt ct) tl) (hl2:TOk tl) (ht:TmOk fx fb db al) (hm:m2 ≤ 2399) (hlt:m2 < month) :
 Calls Tryz.prog 20 #[.agg #[me,rev,next,month,bought,free,.slice A n c],.agg #[.slice At nt ct,fx,fb,db,al],t,m2] w fun e w' =>
  e = .returned (.tuple #[.agg #[(),(),(),(),(),(),.slice none 0 0],.agg #[(),(),(),(),(),(),()],.int .i64 23]) ∧ Below w.heap.size w w':=by
 have hO:=fun W h h2 => open_ok me rev next month bought free A n c l At nt ct fx fb db al tl W h hl ha h2 hl2 ht
 have hR:=fun B g W hk => roll_early B g me rev next month bought free l At nt ct fx fb db al m2 W hk hm hlt
 have H:=Mem.init w
 replace H:=H.al w.heap.size #[me,rev,next,month,bought,free,.slice A n c] (64) |>.al (w.heap.size + 1) #[.slice At nt ct,fx,fb,db,al] (31) |>.al (w.heap.size + 1 + 1) #[(),(),(),(),(),(),.slice none 0 0] (64) |>.al (w.heap.size + 1 + 1 + 1) #[(),(),(),(),(),(),()] (47) |>.gen
 simp only [List.nil_append,List.cons_append] at H
 obtain ⟨W0,hW0,H⟩:=H
 have hv0:=hv.below H.below
 have hv20:=hv2.below H.below
 clear ha ht hl2 hv hv2 hlt
 have La:=H.c7 0 rfl
 have Lt:=H.c5 1 rfl
 have Nat:=H.ne2 0 1 rfl rfl rfl
 go_enter Tryz.func20,Tryz.ntmps20
 go_wp2_with fail
 refine (hO _ hv0 hv20).mono ?_
 rintro e w1 ⟨g,rfl,hk,hb1⟩
 replace H:=Mem.call H hb1
 clear La Lt Nat
 have Lx:=H.c7 2 rfl
 have Ly:=H.c7 3 rfl
 have Nxy:=H.ne2 2 3 rfl rfl rfl
 clear hW0 hb1
 go_wp2_with fail
 refine (hR _ g _ hk).mono ?_
 rintro e w2 ⟨rfl,rfl⟩
 clear hR hk hO hv0 hv20
 go_wp2_with fail
 replace H:=H.set 2 rfl 0 () |>.set 2 rfl 1 () |>.set 2 rfl 2 () |>.set 2 rfl 3 () |>.set 2 rfl 4 () |>.set 2 rfl 5 () |>.set 2 rfl 6 (.slice none 0 0) |>.set 3 rfl 0 () |>.set 3 rfl 1 () |>.set 3 rfl 2 () |>.set 3 rfl 3 () |>.set 3 rfl 4 () |>.set 3 rfl 5 () |>.set 3 rfl 6 () |>.gen
 simp only [List.set_cons_zero,List.set_cons_succ,List.setIfInBounds_toArray] at H
 obtain ⟨W5,hW5,H⟩:=H
 rw [hW5]
 clear hW5
 clear Lx Ly Nxy
 obtain ⟨xlt,x0,-,x1,-,x2,-,x3,-,x4,-,x5,-,x6,-⟩:=H.c7 2 rfl
 obtain ⟨ylt,y0,-,y1,-,y2,-,y3,-,y4,-,y5,-,y6,-⟩:=H.c7 3 rfl
 have Nxy:=H.ne2 2 3 rfl rfl rfl
 refine bodyPost_ret (v:=.tuple #[.agg #[(),(),(),(),(),(),.slice none 0 0],.agg #[(),(),(),(),(),(),()],.int .i64 23]) (by simp [results,Tryz.results20,go_sem,x0,x1,x2,x3,x4,x5,x6,y0,y1,y2,y3,y4,y5,y6];done) rfl ?_
 exact ⟨rfl,H.below⟩
theorem grant_early (me rev next month bought:Nat) (free:Int) (A:Option Addr) (n c:Nat) (l:List (Nat × Nat)) (At:Option Addr) (nt ct fx fb db al:Nat) (tl:List (Nat × Nat)) (m2:Nat) (w:World)
 (hv:IsDs w (.slice A n c) l) (hl:DOk l) (ha:AOk me rev next month bought free) (hv2:IsDs w (.slice At nt ct) tl) (hl2:TOk tl) (ht:TmOk fx fb db al) (hm:m2 ≤ 2399) (hlt:m2 < month) :
 Calls Tryz.prog 99 #[.agg #[me,rev,next,month,bought,free,.slice A n c],.agg #[.slice At nt ct,fx,fb,db,al],m2] w fun e w' =>
  e = .returned (.tuple #[.agg #[(),(),(),(),(),(),.slice none 0 0],.agg #[(),(),(),(),(),(),()],.int .i64 23]) ∧ Below w.heap.size w w':=by
 have hO:=fun W h h2 => open_ok me rev next month bought free A n c l At nt ct fx fb db al tl W h hl ha h2 hl2 ht
 have hR:=fun B g W hk => roll_early B g me rev next month bought free l At nt ct fx fb db al m2 W hk hm hlt
 have H:=Mem.init w
 replace H:=H.al w.heap.size #[me,rev,next,month,bought,free,.slice A n c] (64) |>.al (w.heap.size + 1) #[.slice At nt ct,fx,fb,db,al] (31) |>.al (w.heap.size + 1 + 1) #[(),(),(),(),(),(),.slice none 0 0] (64) |>.al (w.heap.size + 1 + 1 + 1) #[(),(),(),(),(),(),()] (47) |>.gen
 simp only [List.nil_append,List.cons_append] at H
 obtain ⟨W0,hW0,H⟩:=H
 have hv0:=hv.below H.below
 have hv20:=hv2.below H.below
 clear ha ht hl2 hv hv2 hlt
 have La:=H.c7 0 rfl
 have Lt:=H.c5 1 rfl
 have Nat:=H.ne2 0 1 rfl rfl rfl
 go_enter Tryz.func99,Tryz.ntmps99
 go_wp2_with fail
 refine (hO _ hv0 hv20).mono ?_
 rintro e w1 ⟨g,rfl,hk,hb1⟩
 replace H:=Mem.call H hb1
 clear La Lt Nat
 have Lx:=H.c7 2 rfl
 have Ly:=H.c7 3 rfl
 have Nxy:=H.ne2 2 3 rfl rfl rfl
 clear hW0 hb1
 go_wp2_with fail
 refine (hR _ g _ hk).mono ?_
 rintro e w2 ⟨rfl,rfl⟩
 clear hR hk hO hv0 hv20
 go_wp2_with fail
 replace H:=H.set 2 rfl 0 () |>.set 2 rfl 1 () |>.set 2 rfl 2 () |>.set 2 rfl 3 () |>.set 2 rfl 4 () |>.set 2 rfl 5 () |>.set 2 rfl 6 (.slice none 0 0) |>.set 3 rfl 0 () |>.set 3 rfl 1 () |>.set 3 rfl 2 () |>.set 3 rfl 3 () |>.set 3 rfl 4 () |>.set 3 rfl 5 () |>.set 3 rfl 6 () |>.gen
 simp only [List.set_cons_zero,List.set_cons_succ,List.setIfInBounds_toArray] at H
 obtain ⟨W5,hW5,H⟩:=H
 rw [hW5]
 clear hW5
 clear Lx Ly Nxy
 obtain ⟨xlt,x0,-,x1,-,x2,-,x3,-,x4,-,x5,-,x6,-⟩:=H.c7 2 rfl
 obtain ⟨ylt,y0,-,y1,-,y2,-,y3,-,y4,-,y5,-,y6,-⟩:=H.c7 3 rfl
 have Nxy:=H.ne2 2 3 rfl rfl rfl
 refine bodyPost_ret (v:=.tuple #[.agg #[(),(),(),(),(),(),.slice none 0 0],.agg #[(),(),(),(),(),(),()],.int .i64 23]) (by simp [results,Tryz.results99,go_sem,x0,x1,x2,x3,x4,x5,x6,y0,y1,y2,y3,y4,y5,y6];done) rfl ?_
 exact ⟨rfl,H.below⟩
theorem grant_none (me rev next month bought:Nat) (free:Int) (A:Option Addr) (n c:Nat) (l:List (Nat × Nat)) (At:Option Addr) (nt ct fx fb db:Nat) (tl:List (Nat × Nat)) (m2 b2:Nat) (l2:List (Nat × Nat)) (w:World)
 (hv:IsDs w (.slice A n c) l) (hl:DOk l) (ha:AOk me rev next month bought free) (hv2:IsDs w (.slice At nt ct) tl) (hl2:TOk tl) (ht:TmOk fx fb db 0) (hr:Rolled month bought l m2 b2 l2) (hm:m2 ≤ 2399) :
 Calls Tryz.prog 99 #[.agg #[me,rev,next,month,bought,free,.slice A n c],.agg #[.slice At nt ct,fx,fb,db,()],m2] w fun e w' =>
  e = .returned (.tuple #[.agg #[(),(),(),(),(),(),.slice none 0 0],.agg #[(),(),(),(),(),(),()],.int .i64 22]) ∧ Below w.heap.size w w':=by
 have hO:=fun W h h2 => open_ok me rev next month bought free A n c l At nt ct fx fb db 0 tl W h hl ha h2 hl2 ht
 have hR:=fun B g W hk hB => roll_ok B g me rev next month bought free l At nt ct fx fb db 0 m2 b2 l2 W hk hl hB hr hm
 simp only [Int.cast_ofNat_Int] at hO
 have H:=Mem.init w
 replace H:=H.al w.heap.size #[me,rev,next,month,bought,free,.slice A n c] (64) |>.al (w.heap.size + 1) #[.slice At nt ct,fx,fb,db,()] (31) |>.al (w.heap.size + 1 + 1) #[(),(),(),(),(),(),.slice none 0 0] (64) |>.al (w.heap.size + 1 + 1 + 1) #[(),(),(),(),(),(),()] (47) |>.gen
 simp only [List.nil_append,List.cons_append] at H
 obtain ⟨W0,hW0,H⟩:=H
 have hv0:=hv.below H.below
 have hv20:=hv2.below H.below
 clear ha ht hl2 hv hv2 hr
 have La:=H.c7 0 rfl
 have Lt:=H.c5 1 rfl
 have Nat:=H.ne2 0 1 rfl rfl rfl
 go_enter Tryz.func99,Tryz.ntmps99
 go_wp2_with fail
 refine (hO _ hv0 hv20).mono ?_
 rintro e w1 ⟨g,rfl,hk,hb1⟩
 go_wp2_with fail
 refine (hR _ g _ hk hb1.size).mono ?_
 rintro e w2 ⟨rfl,hk2,hb2⟩
 have hB2:=hb1.trans hb2
 replace H:=Mem.call H hB2
 clear La Lt Nat
 have Lx:=H.c7 2 rfl
 have Ly:=H.c7 3 rfl
 have Lt:=H.c5 1 rfl
 have Nxy:=H.ne2 2 3 rfl rfl rfl
 have Nxt:=H.ne2 2 1 rfl rfl rfl
 have Nyt:=H.ne2 3 1 rfl rfl rfl
 clear hW0 hb1 hb2 hB2 hR hk hk2 hO hv0 hv20
 go_wp2_with fail
 replace H:=H.set 2 rfl 0 () |>.set 2 rfl 1 () |>.set 2 rfl 2 () |>.set 2 rfl 3 () |>.set 2 rfl 4 () |>.set 2 rfl 5 () |>.set 2 rfl 6 (.slice none 0 0) |>.set 3 rfl 0 () |>.set 3 rfl 1 () |>.set 3 rfl 2 () |>.set 3 rfl 3 () |>.set 3 rfl 4 () |>.set 3 rfl 5 () |>.set 3 rfl 6 () |>.gen
 simp only [List.set_cons_zero,List.set_cons_succ,List.setIfInBounds_toArray] at H
 obtain ⟨W5,hW5,H⟩:=H
 rw [hW5]
 clear hW5
 clear Lx Ly Lt Nxy Nxt Nyt
 obtain ⟨xlt,x0,-,x1,-,x2,-,x3,-,x4,-,x5,-,x6,-⟩:=H.c7 2 rfl
 obtain ⟨ylt,y0,-,y1,-,y2,-,y3,-,y4,-,y5,-,y6,-⟩:=H.c7 3 rfl
 have Nxy:=H.ne2 2 3 rfl rfl rfl
 refine bodyPost_ret (v:=.tuple #[.agg #[(),(),(),(),(),(),.slice none 0 0],.agg #[(),(),(),(),(),(),()],.int .i64 22]) (by simp [results,Tryz.results99,go_sem,x0,x1,x2,x3,x4,x5,x6,y0,y1,y2,y3,y4,y5,y6];done) rfl ?_
 exact ⟨rfl,H.below⟩
def RetDeed (E me rev next month bought:Nat) (free:Int) (l:List (Nat × Nat)) (id te de fe pr ch un:Nat) (w:World) (e:Ending) (w':World):Prop :=
 ∃ (A2:Option Addr) (c2:Nat),e = .returned (.tuple #[.agg #[me,rev,next,month,bought,free,.slice A2 l.length c2],.agg #[id,te,de,fe,pr,ch,un],E]) ∧ w'.ownsRow w.heap.size 90 2 (.slice A2 l.length c2) l.length (drs l) ∧ Below w.heap.size w w'
theorem rekey_no (me next month bought:Nat) (free:Int) (A:Option Addr) (n c:Nat) (l:List (Nat × Nat)) (w:World) (hv:IsDs w (.slice A n c) l) (hl:DOk l) (ha:AOk me 15 next month bought free) :
 Calls Tryz.prog 100 #[.agg #[me,.int .i64 15,next,month,bought,free,.slice A n c]] w (RetDeed 24 0 0 0 0 0 0 [] 0 0 0 0 0 0 0 w):=by
 have hM:=fun W h => amay_ok me 15 next month bought free A n c l W h hl ha
 simp only [Int.cast_ofNat_Int] at hM
 clear ha hl
 have H:=Mem.init w
 replace H:=H.al w.heap.size #[me,.int .i64 15,next,month,bought,free,.slice A n c] (64) |>.al (w.heap.size + 1) #[(),(),(),(),(),(),.slice none 0 0] (64) |>.al (w.heap.size + 1 + 1) #[(),(),(),(),(),(),()] (47) |>.gen
 simp only [List.nil_append,List.cons_append] at H
 obtain ⟨W0,hW0,H⟩:=H
 have hv0:=hv.below H.below
 clear hv
 have La:=H.c7 0 rfl
 go_enter Tryz.func100,Tryz.ntmps100
 go_wp2_with fail
 refine (hM _ hv0).mono ?_
 rintro e w1 ⟨rfl,hb1⟩
 replace H:=Mem.call H hb1
 clear La
 have La:=H.c7 0 rfl
 have Lx:=H.c7 1 rfl
 have Ly:=H.c7 2 rfl
 have Nax:=H.ne2 0 1 rfl rfl rfl
 have Nay:=H.ne2 0 2 rfl rfl rfl
 have Nxy:=H.ne2 1 2 rfl rfl rfl
 clear hM hb1 hW0 hv0
 go_wp2
 replace H:=H.set 1 rfl 0 () |>.set 1 rfl 1 () |>.set 1 rfl 2 () |>.set 1 rfl 3 () |>.set 1 rfl 4 () |>.set 1 rfl 5 () |>.set 1 rfl 6 (.slice none 0 0) |>.set 2 rfl 0 () |>.set 2 rfl 1 () |>.set 2 rfl 2 () |>.set 2 rfl 3 () |>.set 2 rfl 4 () |>.set 2 rfl 5 () |>.set 2 rfl 6 () |>.gen
 simp only [List.set_cons_zero,List.set_cons_succ,List.setIfInBounds_toArray] at H
 obtain ⟨W5,hW5,H⟩:=H
 rw [hW5]
 clear hW5
 clear La Lx Ly Nax Nay Nxy
 obtain ⟨xlt,x0,-,x1,-,x2,-,x3,-,x4,-,x5,-,x6,-⟩:=H.c7 1 rfl
 obtain ⟨ylt,y0,-,y1,-,y2,-,y3,-,y4,-,y5,-,y6,-⟩:=H.c7 2 rfl
 have Nxy:=H.ne2 1 2 rfl rfl rfl
 refine bodyPost_ret (v:=.tuple #[.agg #[(),(),(),(),(),(),.slice none 0 0],.agg #[(),(),(),(),(),(),()],.int .i64 24]) (by simp [results,Tryz.results100,go_sem,x0,x1,x2,x3,x4,x5,x6,y0,y1,y2,y3,y4,y5,y6];done) rfl ?_
 exact ⟨none,0,rfl,World.ownsRow_nil _ _ _ _,H.below⟩
theorem rekey_yes (me rev next month bought rev1 next1:Nat) (free:Int) (A:Option Addr) (n c:Nat) (l:List (Nat × Nat)) (w:World) (hv:IsDs w (.slice A n c) l) (hl:DOk l) (ha:AOk me rev next month bought free) (hr:rev ≤ 14) (hn:next ≤ 1048575) (h1:Hid (rev1 = rev + 1)) (h2:Hid (next1 = next + 1)) :
 Calls Tryz.prog 100 #[.agg #[me,rev,next,month,bought,free,.slice A n c]] w (RetDeed 0 me rev1 next1 month bought free l next 0 0 0 0 0 0 w):=by
 have hM:=fun W h => amay_ok me rev next month bought free A n c l W h hl ha
 have g1:(rev:Int) + 1 = (rev1:Int):=by have:=h1.out;omega
 have g2:(next:Int) + 1 = (next1:Int):=by have:=h2.out;omega
 have g3:IntKind.i64.wrap ((next1:Int) - 1) = (next:Int):=by rw [show (next1:Int) - 1 = (next:Int) by omega];exact IntWalk.i64_in _ (by omega)
 have g4:((rev:Int) == 15) = false:=by simp;omega
 have g5:decide (1048575 < (next:Int)) = false:=by simp;omega
 have b1:(rev:Int) ≤ 14:=by omega
 have b2:(next:Int) ≤ 1048575:=by omega
 obtain ⟨A',c',hAc⟩:∃ A' c',(Value.slice A n c) = .slice A' l.length c':=by obtain ⟨X,y,h,_⟩:=hv;exact ⟨X,y,h⟩
 rw [hAc] at hv hM ⊢
 clear ha h1 h2 hr hn hAc
 have H:=Mem.init w
 replace H:=H.al w.heap.size #[me,rev,next,month,bought,free,.slice A' l.length c'] (64) |>.al (w.heap.size + 1) #[(),(),(),(),(),(),.slice none 0 0] (64) |>.al (w.heap.size + 1 + 1) #[(),(),(),(),(),(),()] (47) |>.gen
 simp only [List.nil_append,List.cons_append] at H
 obtain ⟨W0,hW0,H⟩:=H
 have hv0:=hv.below H.below
 clear hv
 have La:=H.c7 0 rfl
 go_enter Tryz.func100,Tryz.ntmps100
 go_wp2_with fail
 refine (hM _ hv0).mono ?_
 rintro e w1 ⟨rfl,hb1⟩
 have hv1:=hv0.below hb1
 replace H:=Mem.call H hb1
 clear La
 have La:=H.c7 0 rfl
 clear hM hb1 hW0 hv0
 have h8:=hl.1
 have a6':=(H.blk 0 rfl).cell 6
 have hrd:Rd w1 w1.heap.size 2 A' l.length (drs l):=by obtain ⟨X,y,h,_,_,h3⟩:=hv1;injection h with h _ _;subst h;exact h3
 go_wp2_with (at_builtin;refine wpList_pushN el_d rfl (.const (.slice none 0 0)) (.tmp 21) rfl w1 w1.heap.size _ 0 [] rfl (World.ownsRow_nil _ _ _ _) w1.heap.size A' l.length c' (drs l) rfl hrd (drs_one l) (by omega) (by unfold maxLen;omega) w1 (Below.refl _ _) (Nat.le_refl _) ?_;intro A1 c1 w2 hown1 hb2;have hown1:=(show w2.ownsRow w1.heap.size 90 2 (.slice A1 l.length c1) l.length (drs l) by simpa only [Nat.zero_add,List.nil_append] using hown1);have H2:=Mem.row H hb2 hown1 (Nat.le_refl _);obtain ⟨alt,a0,af0,a1,af1,a2,af2,a3,af3,a4,af4,a5,af5,a6,af6⟩:=H2.c7 0 rfl)
 replace H:Mem (w) [] (w2) [.blk (w.heap.size) 64 #[me,rev,next,month,bought,free,.slice A' l.length c'],.blk (w.heap.size + 1) 64 #[(),(),(),(),(),(),.slice none 0 0],.blk (w.heap.size + 1 + 1) 47 #[(),(),(),(),(),(),()],.row (w1.heap.size) (90) (2) (.slice A1 l.length c1) (l.length) (drs l)]:=Mem.row H hb2 hown1 (Nat.le_refl _)
 clear H2 hb2 hown1 hrd hv1
 replace H:=H.set 0 rfl 6 (.slice A1 l.length c1) |>.set 0 rfl 1 rev1 |>.set 0 rfl 2 next1 |>.gen
 simp only [List.set_cons_zero,List.set_cons_succ,List.setIfInBounds_toArray] at H
 obtain ⟨W4,hW4,H⟩:=H
 rw [hW4]
 clear hW4
 clear La alt a0 af0 a1 af1 a2 af2 a3 af3 a4 af4 a5 af5 a6 af6
 have La:=H.c7 0 rfl
 have Lx:=H.c7 1 rfl
 have Ly:=H.c7 2 rfl
 have Nax:=H.ne2 0 1 rfl rfl rfl
 have Nay:=H.ne2 0 2 rfl rfl rfl
 have Nxy:=H.ne2 1 2 rfl rfl rfl
 go_region
 replace H:=H.set 1 rfl 0 me |>.set 1 rfl 1 rev1 |>.set 1 rfl 2 next1 |>.set 1 rfl 3 month |>.set 1 rfl 4 bought |>.set 1 rfl 5 free |>.set 1 rfl 6 (.slice A1 l.length c1) |>.set 2 rfl 0 next |>.set 2 rfl 1 () |>.set 2 rfl 2 () |>.set 2 rfl 3 () |>.set 2 rfl 4 () |>.set 2 rfl 5 () |>.set 2 rfl 6 () |>.drew |>.gen
 simp only [List.set_cons_zero,List.set_cons_succ,List.setIfInBounds_toArray] at H
 obtain ⟨W5,hW5,H⟩:=H
 rw [hW5]
 clear hW5
 clear La Lx Ly Nax Nay Nxy
 obtain ⟨xlt,x0,-,x1,-,x2,-,x3,-,x4,-,x5,-,x6,-⟩:=H.c7 1 rfl
 obtain ⟨ylt,y0,-,y1,-,y2,-,y3,-,y4,-,y5,-,y6,-⟩:=H.c7 2 rfl
 have Nxy:=H.ne2 1 2 rfl rfl rfl
 go_wp2
 refine bodyPost_ret (v:=.tuple #[.agg #[me,rev1,next1,month,bought,free,.slice A1 l.length c1],.agg #[next,(),(),(),(),(),()],()]) (by simp [results,Tryz.results100,go_sem,x0,x1,x2,x3,x4,x5,x6,y0,y1,y2,y3,y4,y5,y6];done) rfl ?_
 exact ⟨A1,c1,rfl,H.ownb 3 rfl,H.below⟩
theorem aopen_ok (me:Nat) (w:World) (h:me ≤ 49) :
 Calls Tryz.prog 89 #[me] w fun e w' => e = .returned (.tuple #[.agg #[me,(),.int .i64 1,(),(),.int .i64 (-1),.slice none 0 0],()]) ∧ Below w.heap.size w w':=by
 have hM:=fun W h' => amay_ok me 0 1 0 0 (-1) none 0 0 [] W h' (openP_ok h).h2 (openP_ok h).h1
 have hnil:∀ W,IsDs W (.slice none 0 0) []:=fun W => ⟨none,0,rfl,Nat.le_refl _,by unfold maxLen;omega,Rd.nil_⟩
 simp only [Int.cast_ofNat_Int] at hM
 have H:=Mem.init w
 replace H:=H.al w.heap.size #[(),(),(),(),(),(),.slice none 0 0] (64) |>.al (w.heap.size + 1) #[me,(),.int .i64 1,(),(),.int .i64 (-1),.slice none 0 0] (64) |>.gen
 simp only [List.nil_append,List.cons_append] at H
 obtain ⟨W0,hW0,H⟩:=H
 have La:=H.c7 1 rfl
 go_enter Tryz.func89,Tryz.ntmps89
 go_wp2_with fail
 replace H:=H.set 1 rfl 6 (.slice none 0 0) |>.gen
 simp only [List.set_cons_zero,List.set_cons_succ,List.setIfInBounds_toArray] at H
 obtain ⟨W1,hW1,H⟩:=H
 rw [hW1]
 clear hW1
 refine (hM W1 (hnil W1)).mono ?_
 rintro e w1 ⟨rfl,hb1⟩
 replace H:=Mem.call H hb1
 clear La
 have La:=H.c7 1 rfl
 have Lx:=H.c7 0 rfl
 have Nax:=H.ne2 1 0 rfl rfl rfl
 clear hM hb1 hW0 hnil
 go_wp2
 replace H:=H.set 0 rfl 0 me |>.set 0 rfl 1 () |>.set 0 rfl 2 (.int .i64 1) |>.set 0 rfl 3 () |>.set 0 rfl 4 () |>.set 0 rfl 5 (.int .i64 (-1)) |>.set 0 rfl 6 (.slice none 0 0) |>.gen
 simp only [List.set_cons_zero,List.setIfInBounds_toArray,List.set_cons_succ] at H
 obtain ⟨W5,hW5,H⟩:=H
 rw [hW5]
 clear hW5
 clear La Lx Nax
 obtain ⟨xlt,x0,-,x1,-,x2,-,x3,-,x4,-,x5,-,x6,-⟩:=H.c7 0 rfl
 refine bodyPost_ret (v:=.tuple #[.agg #[me,(),.int .i64 1,(),(),.int .i64 (-1),.slice none 0 0],()]) (by simp [results,Tryz.results89,go_sem,x0,x1,x2,x3,x4,x5,x6];done) rfl ?_
 exact ⟨rfl,H.below⟩
theorem sellP_ne {T:Tm} {a:Acc} {t m:Nat} {a2:Acc} {b:Bil} (h:sellP T a t m = (0,a2,b)):a.month ≤ m ∧ a2.me = a.me ∧ a2.next = a.next + 1 ∧ a2.rev = a.rev ∧ a2.month = m ∧ a2.free = a.free ∧ b.id = a.next ∧ b.te = t ∧ 1 ≤ b.un ∧ a2.bought = (rollP a.month a.bought a.l m).1 + b.un ∧ b.de + b.fe ≤ t:=by
 unfold sellP at h
 by_cases g1:m < a.month
 ·rw [if_pos g1] at h;injection h with h _;exact absurd h (by decide)
 ·rw [if_neg g1] at h
  dsimp only at h
  generalize rollP a.month a.bought a.l m = r at h ⊢
  obtain ⟨b2,l2⟩:=r
  dsimp only at h ⊢
  generalize recov (t * T.db / 10000) l2 = rc at h
  obtain ⟨paid,out⟩:=rc
  dsimp only at h
  generalize T.fx + t * T.fb / 10000 = F at h
  by_cases g2:t < paid + F
  ·rw [if_pos g2] at h;injection h with h _;exact absurd h (by decide)
  ·rw [if_neg g2] at h
   generalize most (pcs T.tl b2) (t - paid - F) 0 0 = mo at h
   obtain ⟨U,P⟩:=mo
   dsimp only at h
   by_cases g3:U = 0
   ·rw [if_pos g3] at h;injection h with h _;exact absurd h (by decide)
   ·rw [if_neg g3] at h
    injection h with _ h
    injection h with h h'
    subst h h'
    dsimp only
    refine ⟨by omega,rfl,rfl,rfl,rfl,rfl,rfl,rfl,by omega,rfl,by omega⟩
theorem grantP_ne {T:Tm} {a:Acc} {m:Nat} {a2:Acc} {b:Bil} (h:grantP T a m = (0,a2,b)):a.month ≤ m ∧ a2.me = a.me ∧ a2.next = a.next + 1 ∧ a2.rev = a.rev ∧ a2.month = m ∧ a2.free = (m:Int) ∧ a.free ≠ (m:Int) ∧ b = ⟨a.next,0,0,0,0,0,T.al⟩ ∧ a2.bought = (rollP a.month a.bought a.l m).1 ∧ T.al ≠ 0:=by
 unfold grantP at h
 by_cases g1:m < a.month
 ·rw [if_pos g1] at h;injection h with h _;exact absurd h (by decide)
 ·rw [if_neg g1] at h
  by_cases g2:T.al = 0
  ·rw [if_pos g2] at h;injection h with h _;exact absurd h (by decide)
  ·rw [if_neg g2] at h
   by_cases g3:a.free = (m:Int)
   ·rw [if_pos g3] at h;injection h with h _;exact absurd h (by decide)
   ·rw [if_neg g3] at h
    injection h with _ h
    injection h with h h'
    subst h h'
    exact ⟨by omega,rfl,rfl,rfl,rfl,rfl,g3,rfl,rfl,g2⟩
theorem rekeyP_ne {a:Acc} {a2:Acc} {b:Bil} (h:rekeyP a = (0,a2,b)):a2 = ⟨a.me,a.rev + 1,a.next + 1,a.month,a.bought,a.free,a.l⟩ ∧ b = ⟨a.next,0,0,0,0,0,0⟩ ∧ a.rev ≠ 15:=by
 unfold rekeyP at h
 by_cases g:a.rev = 15
 ·rw [if_pos g] at h;injection h with h _;exact absurd h (by decide)
 ·rw [if_neg g] at h
  injection h with _ h
  injection h with h h'
  exact ⟨h.symm,h'.symm,g⟩
theorem oweP_ne {a:Acc} {ow bp:Nat} {a2:Acc} (h:oweP a ow bp = (0,a2)):a2 = ⟨a.me,a.rev,a.next,a.month,a.bought,a.free,a.l ++ [(ow,bp)]⟩ ∧ a.l.length ≠ 8:=by
 unfold oweP at h
 by_cases g:a.l.length = 8
 ·rw [if_pos g] at h;injection h with h _;exact absurd h (by decide)
 ·rw [if_neg g] at h
  injection h with _ h
  exact ⟨h.symm,g⟩
theorem Ev.ok.bds {v:Ev} (h:v.ok):v.me ≤ 49 ∧ v.mo ≤ 2399 ∧ v.te ≤ 100000000 ∧ v.un ≤ 2097151 ∧ v.tg ≤ 65535 ∧ v.ow ≤ 1000000000 ∧ v.bp ≤ 10000 ∧ 1 ≤ v.k ∧ v.k ≤ 5:=by
 have:=evOk.bd h
 omega
theorem Ev.ok.one {v:Ev} (h:v.ok) (hk:v.k = 1):v = ⟨1,v.me,0,0,0,0,0,0,0,0,0,0,0⟩:=by
 obtain ⟨k,me,mo,id,te,de,fe,pr,ch,un,tg,ow,bp⟩:=v
 unfold Ev.ok evOk at h
 dsimp only at h hk ⊢
 obtain ⟨rfl,rfl,rfl,rfl,rfl,rfl,rfl,rfl,rfl,rfl,rfl,rfl⟩:k = 1 ∧ mo = 0 ∧ id = 0 ∧ te = 0 ∧ de = 0 ∧ fe = 0 ∧ pr = 0 ∧ ch = 0 ∧ un = 0 ∧ tg = 0 ∧ ow = 0 ∧ bp = 0:=by omega
 rfl
theorem Ev.ok.five {v:Ev} (h:v.ok) (hk:v.k = 5):v = ⟨5,v.me,0,0,0,0,0,0,0,0,0,v.ow,v.bp⟩ ∧ 1 ≤ v.ow:=by
 obtain ⟨k,me,mo,id,te,de,fe,pr,ch,un,tg,ow,bp⟩:=v
 unfold Ev.ok evOk at h
 dsimp only at h hk ⊢
 obtain ⟨rfl,rfl,rfl,rfl,rfl,rfl,rfl,rfl,rfl,rfl,rfl⟩:k = 5 ∧ mo = 0 ∧ id = 0 ∧ te = 0 ∧ de = 0 ∧ fe = 0 ∧ pr = 0 ∧ ch = 0 ∧ un = 0 ∧ tg = 0:=by omega
 exact ⟨rfl,by omega⟩
theorem Ev.ok.two {v:Ev} (h:v.ok) (hk:v.k = 2):1 ≤ v.te ∧ v.te = v.de + v.fe + v.pr + v.ch ∧ 1 ≤ v.un:=by
 unfold Ev.ok evOk at h
 omega
theorem deedP_law {T:Tm} {a:Acc} {v:Ev} {a2:Acc} {b:Bil} (hT:T.Ok) (ha:a.Ok) (hn:a.next ≤ 1048575) (hv:v.ok) (h:deedP T a v = (0,a2,b)):a2.Ok ∧ a2.me = a.me ∧ a2.next = a.next + 1 ∧ b.id = a.next ∧ a.rev ≤ a2.rev:=by
 have hm:=hv.bds.2.1
 unfold deedP at h
 by_cases g1:v.k = 2
 ·rw [if_pos g1] at h
  have h1:=sellP_ne h
  exact ⟨(sellP_ok hT ha hn hm h).1,h1.2.1,h1.2.2.1,h1.2.2.2.2.2.2.1,by omega⟩
 ·rw [if_neg g1] at h
  by_cases g2:v.k = 3
  ·rw [if_pos g2] at h
   have h1:=grantP_ne h
   refine ⟨grantP_ok ha hn hm h,h1.2.1,h1.2.2.1,?_,by omega⟩
   rw [h1.2.2.2.2.2.2.2.1]
  ·rw [if_neg g2] at h
   have h1:=rekeyP_ne h
   refine ⟨rekeyP_ok ha hn h,?_,?_,?_,?_⟩
   ·rw [h1.1]
   ·rw [h1.1]
   ·rw [h1.2.1]
   ·rw [h1.1];dsimp only;omega
theorem custP_law {T:Tm} {c:Cu} {v:Ev} {c2:Cu} (hT:T.Ok) (ha:c.a.Ok) (hn:c.a.next = c.s.length + 1) (hl:c.s.length ≤ 1000) (hv:v.ok) (h:custP T c v = (0,c2)) :
 c2.a.Ok ∧ c2.a.me = c.a.me ∧ c2.a.next = c2.s.length + 1 ∧ (c2.s = c.s ∨ ∃ x,c2.s = c.s ++ [x] ∧ x.id = c.a.next ∧ x.rev = c.a.rev) ∧ c.a.rev ≤ c2.a.rev:=by
 unfold custP at h
 by_cases g:v.k = 5
 ·rw [if_pos g] at h
  by_cases g2:(oweP c.a v.ow v.bp).1 = 0
  ·rw [if_pos g2] at h
   injection h with _ h
   subst h
   have h1:oweP c.a v.ow v.bp = (0,(oweP c.a v.ow v.bp).2):=by rw [← g2]
   have h2:=hv.bds
   have h3:=(oweP_ne h1).1
   refine ⟨oweP_ok ha h2.2.2.2.2.2.1 h2.2.2.2.2.2.2.1 h1,?_,?_,.inl rfl,?_⟩
   ·dsimp only;rw [h3]
   ·dsimp only;rw [h3];exact hn
   ·dsimp only;rw [h3];exact Nat.le_refl _
  ·rw [if_neg g2] at h
   injection h with h _;exact absurd h g2
 ·rw [if_neg g] at h
  by_cases g2:(deedP T c.a v).1 = 0
  ·rw [if_pos g2] at h
   by_cases g3:(deedP T c.a v).2.2.same v
   ·rw [if_pos g3] at h
    injection h with _ h
    subst h
    have h1:deedP T c.a v = (0,(deedP T c.a v).2.1,(deedP T c.a v).2.2):=by rw [← g2]
    obtain ⟨d1,d2,d3,d4,d5⟩:=deedP_law hT ha (by omega) hv h1
    refine ⟨d1,d2,?_,.inr ⟨_,rfl,?_,?_⟩,d5⟩
    ·dsimp only;rw [d3];simp;omega
    ·have:=g3.1
     unfold soldP
     split
     ·dsimp only;omega
     ·dsimp only;omega
    ·unfold soldP;split <;> rfl
   ·rw [if_neg g3] at h
    injection h with h _;exact absurd h (by decide)
  ·rw [if_neg g2] at h
   injection h with h _;exact absurd h g2
theorem keepE_ne {T:Tm} {B B2:List Cu} {v:Ev} (h:keepE T B v = (0,B2)) :
 (v.k = 1 ∧ place B v.me = none ∧ B2 = B ++ [⟨openP v.me,[]⟩]) ∨
 (v.k ≠ 1 ∧ ∃ i,∃ hi:i < B.length,place B v.me = some i ∧ B[i].a.me = v.me ∧ custP T B[i] v = (0,(custP T B[i] v).2) ∧ B2 = B.set i (custP T B[i] v).2):=by
 unfold keepE at h
 cases hp:place B v.me with
 | none =>
  rw [hp] at h
  dsimp only at h
  by_cases g:v.k = 1
  ·rw [if_pos g] at h;injection h with _ h;exact .inl ⟨g,rfl,h.symm⟩
  ·rw [if_neg g] at h;injection h with h _;exact absurd h (by decide)
 | some i =>
  rw [hp] at h
  dsimp only at h
  obtain ⟨hi,hme⟩:=place_some hp
  have hd:B.getD i cu0 = B[i]:=by simp [hi]
  rw [hd] at h
  by_cases g:v.k = 1
  ·rw [if_pos g] at h;injection h with h _;exact absurd h (by decide)
  ·rw [if_neg g] at h
   by_cases g2:(custP T B[i] v).1 = 0
   ·rw [if_pos g2] at h;injection h with _ h
    exact .inr ⟨g,i,hi,rfl,hme,by rw [← g2],h.symm⟩
   ·rw [if_neg g2] at h;injection h with h _;exact absurd h g2
theorem sum_set {l:List Nat} {i:Nat} (hi:i < l.length) (x:Nat):(l.set i x).sum + l[i] = l.sum + x:=by
 induction l generalizing i with
 | nil => simp at hi
 | cons a l ih =>
  cases i with
  | zero => simp;omega
  | succ i =>
   have:=ih (i:=i) (by simpa using hi)
   simp only [List.set_cons_succ,List.sum_cons,List.getElem_cons_succ]
   omega
theorem le_sum {l:List Nat} {x:Nat} (h:x ∈ l):x ≤ l.sum:=by
 induction l with
 | nil => simp at h
 | cons a l ih =>
  rcases List.mem_cons.1 h with rfl | h
  ·simp
  ·have:=ih h;simp;omega
theorem BOk.len {T:Tm} {B:List Cu} {n:Nat} (h:BOk T B n):B.length ≤ n:=by have:=h.h3;omega
theorem BOk.sold {T:Tm} {B:List Cu} {n:Nat} (h:BOk T B n) {c:Cu} (hc:c ∈ B):c.s.length ≤ n:=by
 have h3:=h.h3
 have:=le_sum (List.mem_map_of_mem (f:=fun c:Cu => c.s.length) hc)
 omega
theorem bok_nil (T:Tm):BOk T [] 0:=⟨by simp,by simp,by simp⟩
theorem keepE_bok {T:Tm} {B B2:List Cu} {v:Ev} {n:Nat} (hT:T.Ok) (hB:BOk T B n) (hn:n ≤ 1000) (hv:v.ok) (h:keepE T B v = (0,B2)):BOk T B2 (n + 1):=by
 rcases keepE_ne h with ⟨_,hp,rfl⟩ | ⟨_,i,hi,hp,hme,hc,rfl⟩
 ·refine ⟨fun c hc => ?_,?_,?_⟩
  ·rcases List.mem_append.1 hc with hc | hc
   ·exact hB.h1 c hc
   ·obtain rfl:=List.mem_singleton.1 hc
    exact ⟨openP_ok hv.bds.1,rfl⟩
  ·rw [List.map_append,List.nodup_append]
   refine ⟨hB.h2,by simp,fun x hx y hy => ?_⟩
   obtain ⟨c,hc,rfl⟩:=List.mem_map.1 hx
   have hy':y = v.me:=by simpa [openP] using hy
   rw [hy']
   exact place_none.1 hp c hc
  ·have:=hB.h3
   simp only [List.map_append,List.sum_append,List.length_append,List.map_cons,List.map_nil,List.sum_cons,List.sum_nil,List.length_cons,List.length_nil]
   omega
 ·have hmem:B[i] ∈ B:=List.getElem_mem hi
  have hs:=hB.sold hmem
  obtain ⟨c1,c2,c3,c4,_⟩:=custP_law hT (hB.h1 _ hmem).1 (hB.h1 _ hmem).2 (by omega) hv hc
  refine ⟨fun c hc => ?_,?_,?_⟩
  ·rcases List.mem_or_eq_of_mem_set hc with hc | rfl
   ·exact hB.h1 c hc
   ·exact ⟨c1,c3⟩
  ·have e:(B.set i (custP T B[i] v).2).map (fun c => c.a.me) = B.map fun c => c.a.me:=by
    rw [List.map_set,c2]
    apply List.ext_getElem (by simp)
    intro j h1 h2
    rw [List.getElem_set]
    split
    ·rename_i e;subst e;simp
    ·rfl
   rw [e];exact hB.h2
  ·have h3:=hB.h3
   have hl:(custP T B[i] v).2.s.length ≤ B[i].s.length + 1:=by
    rcases c4 with e | ⟨x,e,_⟩ <;> rw [e] <;> simp
   have hss:=sum_set (l:=B.map fun c => c.s.length) (i:=i) (by simpa using hi) (custP T B[i] v).2.s.length
   rw [List.map_set,List.length_set]
   simp only [List.getElem_map] at hss
   omega
def runE (T:Tm):List Cu → List Ev → Option (List Cu)
 | B,[] => some B
 | B,v :: l => if (keepE T B v).1 = 0 then runE T (keepE T B v).2 l else none
theorem runE_append {T:Tm} (l1 l2:List Ev):∀ B,runE T B (l1 ++ l2) = (runE T B l1).bind fun B' => runE T B' l2:=by
 induction l1 with
 | nil => intro B;rfl
 | cons v l1 ih =>
  intro B
  simp only [List.cons_append,runE]
  by_cases g:(keepE T B v).1 = 0
  ·rw [if_pos g,if_pos g];exact ih _
  ·rw [if_neg g,if_neg g];rfl
theorem runE_one {T:Tm} {B B2:List Cu} {v:Ev}:runE T B [v] = some B2 ↔ keepE T B v = (0,B2):=by
 simp only [runE]
 generalize keepE T B v = r
 obtain ⟨c,X⟩:=r
 dsimp only
 by_cases g:c = 0
 ·subst g;simp
 ·simp [g]
theorem runE_bok {T:Tm} (hT:T.Ok):∀ (l:List Ev) (B B2:List Cu) (n:Nat),BOk T B n → n + l.length ≤ 1000 → (∀ v ∈ l,v.ok) → runE T B l = some B2 → BOk T B2 (n + l.length):=by
 intro l
 induction l with
 | nil => intro B B2 n hB _ _ h;simp only [runE,Option.some.injEq] at h;subst h;exact hB
 | cons v l ih =>
  intro B B2 n hB hn hv h
  rw [show v :: l = [v] ++ l from rfl,runE_append] at h
  obtain ⟨B1,h1,h2⟩:=Option.bind_eq_some_iff.1 h
  have:=keepE_bok hT hB (by simp only [List.length_cons] at hn;omega) (hv v (by simp)) (runE_one.1 h1)
  have:=ih B1 B2 (n + 1) this (by simp only [List.length_cons] at hn;omega) (fun u hu => hv u (by simp [hu])) h2
  rw [show n + (v :: l).length = n + 1 + l.length by simp;omega]
  exact this
end Go.Proofs.YtfgiehkfcoodbaaGreat

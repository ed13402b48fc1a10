/- sameDebts. -/
import Derived.Test.YtfgiehkfcoodbaaGreatM0
import Derived.Test.YtfgiehkfcoodbaaGreatM4
import Derived.Test.YtfgiehkfcoodbaaGreatM11
import Derived.Test.YtfgiehkfcoodbaaGreatM25
import Derived.Test.YtfgiehkfcoodbaaGreatM39
import Derived.Test.YtfgiehkfcoodbaaGreatM48
namespace Go.Proofs.YtfgiehkfcoodbaaGreat
open Go.RowKit
set_option linter.unusedVariables false
set_option maxRecDepth 100000
set_option maxHeartbeats 16000000
theorem sameD_ok (a b:Value) (xs:List (Nat×Nat)) (w:World) (ha:IsDs w a xs) (hb:IsDs w b xs) :
 Calls Tryz.prog 78 #[a,b] w fun e w' => e=.returned (.bool true)∧∃ m,w'=w.drewN m:=by
 have ha0:=ha
 have hb0:=hb
 obtain ⟨A,c,rfl,hc1,hc2,_⟩:=ha
 obtain ⟨B,d,rfl,_,_,_⟩:=hb
 have hA:=fun k hk => ha0.at_ (k:=k) hk
 have hB:=fun k hk => hb0.at_ (k:=k) hk
 have hlx:xs.length≤9223372036854775807:=by unfold maxLen at hc2;omega
 clear ha0 hb0 hc1 hc2
 go_enter Tryz.func78,Tryz.ntmps78
 go_wp2
 go_loopw [5] (fun i wr => ∃ k:Nat,k≤xs.length∧i=.int .i64 k∧∃ m,wr=w.drewN m) (fun i _ => xs.length - (intOf i).toNat)
 case atStart => exact ⟨0,by omega,rfl,0,rfl⟩
 case round =>
  obtain ⟨k,hk,rfl,m,rfl⟩:=hrel
  by_cases hlt:k < xs.length
  ·obtain ⟨b1,o1,rfl,_,p1,p2⟩:=hA k hlt
   obtain ⟨b2,o2,rfl,_,q1,q2⟩:=hB k hlt
   clear hA hB
   generalize xs[k]=p at *
   obtain ⟨x,y⟩:=p
   dsimp only at *
   go_wp2_with fail
   go_quiet (fail)
   go_wp2
   go_roundw
   case rel => exact ⟨k+1,by omega,by go_num,_,rfl⟩
   case measure => simp [intOf];omega
  ·go_wp2
   go_ret
   exact ⟨rfl,m,rfl⟩
theorem sameD_is (a b:Value) (xs:List (Nat×Nat)) (w:World) (ha:IsDs w a xs) (hb:IsDs w b xs) :
 Calls Tryz.prog 78 #[a,b] w fun e w' => e=.returned (.bool true)∧Below w.heap.size w w' :=
 (sameD_ok a b xs w ha hb).mono fun _ _ h => ⟨h.1,by obtain ⟨m,rfl⟩:=h.2;exact below_draws (Below.refl _ _) m⟩
theorem Rolled.trans {m b:Nat} {l:List (Nat×Nat)} {m2 b2:Nat} {l2:List (Nat×Nat)} {m3 b3:Nat} {l3:List (Nat×Nat)} (h:Rolled m b l m2 b2 l2) (k:Rolled m2 b2 l2 m3 b3 l3):Rolled m b l m3 b3 l3:=by
 rcases h with ⟨rfl,rfl,rfl⟩ | ⟨h1,rfl,h3⟩
 ·exact k
 ·rcases k with ⟨rfl,rfl,rfl⟩ | ⟨k1,rfl,k3⟩
  ·exact .inr ⟨h1,rfl,h3⟩
  ·refine .inr ⟨by omega,rfl,?_⟩
   rw [← k3,← h3,aged_add]
   congr 1
   omega
theorem sameAcc_ok (a b c d e f:Int) (A:Option Addr) (n m:Nat) (A':Option Addr) (n' m':Nat) (xs:List (Nat×Nat)) (w:World) (ha:IsDs w (.slice A n m) xs) (hb:IsDs w (.slice A' n' m') xs) :
 Calls Tryz.prog 58 #[.agg #[a,b,c,d,e,f,.slice A n m],.agg #[a,b,c,d,e,f,.slice A' n' m']] w fun e w' => e=.returned (.bool true)∧Below w.heap.size w w':=by
 have hS:=fun W h1 h2 => sameD_is (.slice A n m) (.slice A' n' m') xs W h1 h2
 have hb2:=below_a2 w (.cells #[a,b,c,d,e,f,.slice A n m] 64) (.cells #[a,b,c,d,e,f,.slice A' n' m'] 64)
 have h1:=ha.below hb2
 have h2:=hb.below hb2
 clear ha hb
 go_enter Tryz.func58,Tryz.ntmps58
 go_wp2_with fail
 refine (hS _ h1 h2).mono ?_
 rintro e w1 ⟨rfl,hb3⟩
 go_wp2
 go_ret
 exact ⟨rfl,hb2.step hb3⟩
theorem sameS_ok (a b:Value) (xs:List So) (w:World) (ha:IsSs w a xs) (hb:IsSs w b xs) :
 Calls Tryz.prog 59 #[a,b] w fun e w' => e=.returned (.bool true)∧∃ m,w'=w.drewN m:=by
 have ha0:=ha
 have hb0:=hb
 obtain ⟨A,c,rfl,hc1,hc2,_⟩:=ha
 obtain ⟨B,d,rfl,_,_,_⟩:=hb
 have hA:=fun k hk => ha0.at_ (k:=k) hk
 have hB:=fun k hk => hb0.at_ (k:=k) hk
 have hlx:xs.length≤9223372036854775807:=by unfold maxLen at hc2;omega
 clear ha0 hb0 hc1 hc2
 go_enter Tryz.func59,Tryz.ntmps59
 go_wp2
 go_loopw [5] (fun i wr => ∃ k:Nat,k≤xs.length∧i=.int .i64 k∧∃ m,wr=w.drewN m) (fun i _ => xs.length - (intOf i).toNat)
 case atStart => exact ⟨0,by omega,rfl,0,rfl⟩
 case round =>
  obtain ⟨k,hk,rfl,m,rfl⟩:=hrel
  by_cases hlt:k < xs.length
  ·obtain ⟨b1,o1,rfl,_,p1,p2,p3,p4,p5⟩:=hA k hlt
   obtain ⟨b2,o2,rfl,_,q1,q2,q3,q4,q5⟩:=hB k hlt
   clear hA hB
   generalize xs[k]=p at *
   obtain ⟨x,y,z,u,v⟩:=p
   dsimp only at *
   go_wp2_with fail
   go_quiet (fail)
   go_wp2
   go_roundw
   case rel => exact ⟨k+1,by omega,by go_num,_,rfl⟩
   case measure => simp [intOf];omega
  ·go_wp2
   go_ret
   exact ⟨rfl,m,rfl⟩
theorem sameS_is (a b:Value) (xs:List So) (w:World) (ha:IsSs w a xs) (hb:IsSs w b xs) :
 Calls Tryz.prog 59 #[a,b] w fun e w' => e=.returned (.bool true)∧Below w.heap.size w w' :=
 (sameS_ok a b xs w ha hb).mono fun _ _ h => ⟨h.1,by obtain ⟨m,rfl⟩:=h.2;exact below_draws (Below.refl _ _) m⟩
theorem sameD_no (A:Option Addr) (n m:Nat) (A':Option Addr) (n' m':Nat) (w:World) (h:n≠n') :
 Calls Tryz.prog 78 #[.slice A n m,.slice A' n' m'] w fun e w' => e=.returned (.bool false)∧w=w':=by
 have h1:((n:Int) == (n':Int))=false:=by simp;omega
 have h2:¬ (n:Int)=(n':Int):=by omega
 have h3:(n == n')=false:=by simp;omega
 go_enter Tryz.func78,Tryz.ntmps78
 go_wp2
 go_ret
 exact ⟨rfl,rfl⟩
theorem sameAcc_no1 (a b c d e f:Int) (b' c' d' e' f':Int) (A:Option Addr) (n m:Nat) (A':Option Addr) (n' m':Nat) (w:World) (h:b≠b') :
 Calls Tryz.prog 58 #[.agg #[a,b,c,d,e,f,.slice A n m],.agg #[a,b',c',d',e',f',.slice A' n' m']] w fun e w' => e=.returned (.bool false)∧Below w.heap.size w w':=by
 have hb2:=below_a2 w (.cells #[a,b,c,d,e,f,.slice A n m] 64) (.cells #[a,b',c',d',e',f',.slice A' n' m'] 64)
 have h1:(b == b')=false:=by simp;omega
 go_enter Tryz.func58,Tryz.ntmps58
 go_wp2_with fail
 go_ret
 exact ⟨rfl,hb2⟩
theorem sameAcc_no2 (a b c d e f:Int) (c' d' e' f':Int) (A:Option Addr) (n m:Nat) (A':Option Addr) (n' m':Nat) (w:World) (h:c≠c') :
 Calls Tryz.prog 58 #[.agg #[a,b,c,d,e,f,.slice A n m],.agg #[a,b,c',d',e',f',.slice A' n' m']] w fun e w' => e=.returned (.bool false)∧Below w.heap.size w w':=by
 have hb2:=below_a2 w (.cells #[a,b,c,d,e,f,.slice A n m] 64) (.cells #[a,b,c',d',e',f',.slice A' n' m'] 64)
 have h1:(c == c')=false:=by simp;omega
 go_enter Tryz.func58,Tryz.ntmps58
 go_wp2_with fail
 go_ret
 exact ⟨rfl,hb2⟩
theorem sameAcc_no3 (a b c d e f:Int) (A:Option Addr) (n m:Nat) (A':Option Addr) (n' m':Nat) (w:World) (h:n≠n') :
 Calls Tryz.prog 58 #[.agg #[a,b,c,d,e,f,.slice A n m],.agg #[a,b,c,d,e,f,.slice A' n' m']] w fun e w' => e=.returned (.bool false)∧Below w.heap.size w w':=by
 have hS:=fun W => sameD_no A n m A' n' m' W h
 have hb2:=below_a2 w (.cells #[a,b,c,d,e,f,.slice A n m] 64) (.cells #[a,b,c,d,e,f,.slice A' n' m'] 64)
 go_enter Tryz.func58,Tryz.ntmps58
 go_wp2_with fail
 refine (hS _).mono ?_
 rintro e w1 ⟨rfl,rfl⟩
 go_wp2
 go_ret
 exact ⟨rfl,hb2⟩
theorem sameAcc_no (x y:Acc) (A:Option Addr) (m:Nat) (A':Option Addr) (m':Nat) (w:World) (hm:y.me=x.me) (h:Unlike x y∨Unlike y x) :
 Calls Tryz.prog 58 #[.agg #[x.me,x.rev,x.next,x.month,x.bought,x.free,.slice A x.l.length m],.agg #[y.me,y.rev,y.next,y.month,y.bought,y.free,.slice A' y.l.length m']] w fun e w' => e=.returned (.bool false)∧Below w.heap.size w w':=by
 rw [hm]
 by_cases hr:x.rev=y.rev
 ·rw [← hr]
  rcases h with (h | ⟨_,_,h1,h2,h3,h4,h5⟩) | (h | ⟨_,_,h1,h2,h3,h4,h5⟩)
  ·exact sameAcc_no2 _ _ _ _ _ _ _ _ _ _ _ _ _ _ _ _ w (by omega)
  ·rw [h1,h2,h3,h4]
   exact sameAcc_no3 _ _ _ _ _ _ _ _ _ _ _ _ w (by omega)
  ·exact sameAcc_no2 _ _ _ _ _ _ _ _ _ _ _ _ _ _ _ _ w (by omega)
  ·rw [h1,h2,h3,h4]
   exact sameAcc_no3 _ _ _ _ _ _ _ _ _ _ _ _ w (by omega)
 ·exact sameAcc_no1 _ _ _ _ _ _ _ _ _ _ _ _ _ _ _ _ _ w (by omega)
theorem sameB_ok (Aa:Option Addr) (ca:Nat) (Ab:Option Addr) (cb n m:Nat) (r:Bool) (B1 B2:List Cu) (w:World) (h1:IsBk w (.slice Aa n ca) B1) (h2:IsBk w (.slice Ab n cb) B2) (hm:m≤n) (hn:n≤1000) (hr:(m=n∧r=true)∨(m < n∧r=false)) (heq:∀ j (g1:j < B1.length) (g2:j < B2.length),j < m→B1[j]=B2[j])
 (hun:∀ (g1:m < B1.length) (g2:m < B2.length),B2[m].a.me=B1[m].a.me∧(Unlike B1[m].a B2[m].a∨Unlike B2[m].a B1[m].a)) :
 Calls Tryz.prog 35 #[.agg #[.slice Aa n ca],.agg #[.slice Ab n cb]] w fun e w' => e=.returned (.bool r)∧Below w.heap.size w w':=by
 have g1:=h1.len
 have g2:=h2.len
 have H:=Mem.init w
 replace H:=H.al w.heap.size #[.slice Aa n ca] (56) |>.al (w.heap.size+1) #[.slice Ab n cb] (56) |>.gen
 simp only [List.nil_append,List.cons_append] at H
 obtain ⟨W0,hW0,H⟩:=H
 have k1:=h1.below H.below
 have k2:=h2.below H.below
 obtain ⟨balt,ba0,-⟩:=H.c1 0 rfl
 obtain ⟨bblt,bb0,-⟩:=H.c1 1 rfl
 have Nbabb:=H.ne2 0 1 rfl rfl rfl
 have HX:=Lib.hid (And.intro g1 (And.intro g2 (And.intro heq (And.intro hun hr))))
 have HK:=Lib.hid (And.intro k1 k2)
 have hb0:=H.below
 clear h1 h2 g1 g2 heq hun hr k1 k2
 go_enter Tryz.func35,Tryz.ntmps35
 go_wp2
 clear hW0
 go_loopw [5] (fun i wr => ∃ k:Nat,k≤m∧i=.int .i64 ↑k∧Below W0.heap.size W0 wr) (fun i _ => n - (intOf i).toNat)
 case atStart => exact ⟨0,by omega,rfl,Below.refl _ _⟩
 case round =>
  obtain ⟨k,hk,rfl,hbr⟩:=hrel
  by_cases hlt:k < n
  ·obtain ⟨g1,g2,heq,hun,hr⟩:=HX.out
   obtain ⟨b1,o1,A1,c1,S1,d1,rfl,l1,hd1,hs1,p0,p1,p2,p3,p4,p5,p6,p7⟩:=HK.out.1.at_ (k:=k) (by omega)
   obtain ⟨b2,o2,A2,c2,S2,d2,rfl,l2,hd2,hs2,q0,q1,q2,q3,q4,q5,q6,q7⟩:=HK.out.2.at_ (k:=k) (by omega)
   have f0:wr.cell? ⟨w.heap.size,0,none⟩=some (.slice (some ⟨b1,o1,none⟩) n ca):=(hbr.cell (p:=⟨w.heap.size,0,none⟩) balt).trans ba0
   have f1:wr.cell? ⟨w.heap.size+1,0,none⟩=some (.slice (some ⟨b2,o2,none⟩) n cb):=(hbr.cell (p:=⟨w.heap.size+1,0,none⟩) bblt).trans bb0
   have f2:=(hbr.cell (p:=⟨b1,o1+k * 8,none⟩) l1).trans p0
   have f3:=(hbr.cell (p:=⟨b1,o1+k * 8+1,none⟩) l1).trans p1
   have f4:=(hbr.cell (p:=⟨b1,o1+k * 8+2,none⟩) l1).trans p2
   have f5:=(hbr.cell (p:=⟨b1,o1+k * 8+3,none⟩) l1).trans p3
   have f6:=(hbr.cell (p:=⟨b1,o1+k * 8+4,none⟩) l1).trans p4
   have f7:=(hbr.cell (p:=⟨b1,o1+k * 8+5,none⟩) l1).trans p5
   have f8:=(hbr.cell (p:=⟨b1,o1+k * 8+6,none⟩) l1).trans p6
   have f9:=(hbr.cell (p:=⟨b1,o1+k * 8+7,none⟩) l1).trans p7
   have f10:=(hbr.cell (p:=⟨b2,o2+k * 8,none⟩) l2).trans q0
   have f11:=(hbr.cell (p:=⟨b2,o2+k * 8+1,none⟩) l2).trans q1
   have f12:=(hbr.cell (p:=⟨b2,o2+k * 8+2,none⟩) l2).trans q2
   have f13:=(hbr.cell (p:=⟨b2,o2+k * 8+3,none⟩) l2).trans q3
   have f14:=(hbr.cell (p:=⟨b2,o2+k * 8+4,none⟩) l2).trans q4
   have f15:=(hbr.cell (p:=⟨b2,o2+k * 8+5,none⟩) l2).trans q5
   have f16:=(hbr.cell (p:=⟨b2,o2+k * 8+6,none⟩) l2).trans q6
   have f17:=(hbr.cell (p:=⟨b2,o2+k * 8+7,none⟩) l2).trans q7
   replace hd1:=hd1.below hbr
   replace hd2:=hd2.below hbr
   replace hs1:=hs1.below hbr
   replace hs2:=hs2.below hbr
   have alt:w.heap.size < wr.heap.size:=Nat.lt_of_lt_of_le balt hbr.size
   have blt:w.heap.size+1 < wr.heap.size:=Nat.lt_of_lt_of_le bblt hbr.size
   have h1lt:b1 < wr.heap.size:=Nat.lt_of_lt_of_le l1 hbr.size
   have h2lt:b2 < wr.heap.size:=Nat.lt_of_lt_of_le l2 hbr.size
   have B0:Below wr.heap.size wr wr.drew:=below_draws (Below.refl _ _) 1
   have klt:(k:Int) < (n:Int):=by omega
   clear p0 p1 p2 p3 p4 p5 p6 p7 q0 q1 q2 q3 q4 q5 q6 q7 HK
   by_cases hkm:k < m
   ·have e:=heq k (by omega) (by omega) hkm
    rw [← e] at f10 f11 f12 f13 f14 f15 f16 f17 hd2 hs2
    generalize B1[k]'(by omega)=cu at *
    clear e heq hun hr g1 g2 HX
    have t1:=sameAcc_ok (cu.a.me:Int) (cu.a.rev:Int) (cu.a.next:Int) (cu.a.month:Int) (cu.a.bought:Int) cu.a.free A1 cu.a.l.length c1 A2 cu.a.l.length c2 cu.a.l _ (hd1.below B0) (hd2.below B0)
    have t2:=fun we (hWe:Below wr.heap.size wr we) => sameS_is _ _ cu.s we (hs1.below hWe) (hs2.below hWe)
    go_wp2_with fail
    go_region_held3 (fun w' => w'.cell? ⟨w.heap.size,0,none⟩=some (.slice (some ⟨b1,o1,none⟩) n ca)∧w'.cell? ⟨w.heap.size+1,0,none⟩=some (.slice (some ⟨b2,o2,none⟩) n cb)∧w'.cell? ⟨b1,o1+k * 8,none⟩=some (.int .i64 ↑cu.a.me)∧w'.cell? ⟨b1,o1+k * 8+1,none⟩=some (.int .i64 ↑cu.a.rev)∧w'.cell? ⟨b1,o1+k * 8+2,none⟩=some (.int .i64 ↑cu.a.next)∧w'.cell? ⟨b1,o1+k * 8+3,none⟩=some (.int .i64 ↑cu.a.month)∧w'.cell? ⟨b1,o1+k * 8+4,none⟩=some (.int .i64 ↑cu.a.bought)∧w'.cell? ⟨b1,o1+k * 8+5,none⟩=some (.int .i64 cu.a.free)∧w'.cell? ⟨b1,o1+k * 8+6,none⟩=some (.slice A1 (cu.a.l.length) c1)∧w'.cell? ⟨b1,o1+k * 8+7,none⟩=some (.slice S1 (cu.s.length) d1)∧w'.cell? ⟨b2,o2+k * 8,none⟩=some (.int .i64 ↑cu.a.me)∧w'.cell? ⟨b2,o2+k * 8+1,none⟩=some (.int .i64 ↑cu.a.rev)∧w'.cell? ⟨b2,o2+k * 8+2,none⟩=some (.int .i64 ↑cu.a.next)∧w'.cell? ⟨b2,o2+k * 8+3,none⟩=some (.int .i64 ↑cu.a.month)∧w'.cell? ⟨b2,o2+k * 8+4,none⟩=some (.int .i64 ↑cu.a.bought)∧w'.cell? ⟨b2,o2+k * 8+5,none⟩=some (.int .i64 cu.a.free)∧w'.cell? ⟨b2,o2+k * 8+6,none⟩=some (.slice A2 (cu.a.l.length) c2)∧w'.cell? ⟨b2,o2+k * 8+7,none⟩=some (.slice S2 (cu.s.length) d2))
     (first | with_reducible exact ⟨s0,s1,s2,s3,s4,s5,s6,s7,s8,s9,s10,s11,s12,s13,s14,s15,s16,s17⟩ | go_keep | fail)
     (first | (go_at_call 58;(with_reducible refine t1.mono ?_);rintro e we ⟨rfl,hbe⟩;have hWe:=B0.trans (hbe.mono B0.size);have s0:=(hWe.cell (p:=⟨w.heap.size,0,none⟩) alt).trans f0;have s1:=(hWe.cell (p:=⟨w.heap.size+1,0,none⟩) blt).trans f1;have s2:=(hWe.cell (p:=⟨b1,o1+k * 8,none⟩) h1lt).trans f2;have s3:=(hWe.cell (p:=⟨b1,o1+k * 8+1,none⟩) h1lt).trans f3;have s4:=(hWe.cell (p:=⟨b1,o1+k * 8+2,none⟩) h1lt).trans f4;have s5:=(hWe.cell (p:=⟨b1,o1+k * 8+3,none⟩) h1lt).trans f5;have s6:=(hWe.cell (p:=⟨b1,o1+k * 8+4,none⟩) h1lt).trans f6;have s7:=(hWe.cell (p:=⟨b1,o1+k * 8+5,none⟩) h1lt).trans f7;have s8:=(hWe.cell (p:=⟨b1,o1+k * 8+6,none⟩) h1lt).trans f8;have s9:=(hWe.cell (p:=⟨b1,o1+k * 8+7,none⟩) h1lt).trans f9;have s10:=(hWe.cell (p:=⟨b2,o2+k * 8,none⟩) h2lt).trans f10;have s11:=(hWe.cell (p:=⟨b2,o2+k * 8+1,none⟩) h2lt).trans f11;have s12:=(hWe.cell (p:=⟨b2,o2+k * 8+2,none⟩) h2lt).trans f12;have s13:=(hWe.cell (p:=⟨b2,o2+k * 8+3,none⟩) h2lt).trans f13;have s14:=(hWe.cell (p:=⟨b2,o2+k * 8+4,none⟩) h2lt).trans f14;have s15:=(hWe.cell (p:=⟨b2,o2+k * 8+5,none⟩) h2lt).trans f15;have s16:=(hWe.cell (p:=⟨b2,o2+k * 8+6,none⟩) h2lt).trans f16;have s17:=(hWe.cell (p:=⟨b2,o2+k * 8+7,none⟩) h2lt).trans f17) | (go_at_call 59;(with_reducible refine (t2 _ hWe).mono ?_);rintro e wf ⟨rfl,hbf⟩;have hWf:=hWe.trans (hbf.mono hWe.size);have s0:=(hWf.cell (p:=⟨w.heap.size,0,none⟩) alt).trans f0;have s1:=(hWf.cell (p:=⟨w.heap.size+1,0,none⟩) blt).trans f1;have s2:=(hWf.cell (p:=⟨b1,o1+k * 8,none⟩) h1lt).trans f2;have s3:=(hWf.cell (p:=⟨b1,o1+k * 8+1,none⟩) h1lt).trans f3;have s4:=(hWf.cell (p:=⟨b1,o1+k * 8+2,none⟩) h1lt).trans f4;have s5:=(hWf.cell (p:=⟨b1,o1+k * 8+3,none⟩) h1lt).trans f5;have s6:=(hWf.cell (p:=⟨b1,o1+k * 8+4,none⟩) h1lt).trans f6;have s7:=(hWf.cell (p:=⟨b1,o1+k * 8+5,none⟩) h1lt).trans f7;have s8:=(hWf.cell (p:=⟨b1,o1+k * 8+6,none⟩) h1lt).trans f8;have s9:=(hWf.cell (p:=⟨b1,o1+k * 8+7,none⟩) h1lt).trans f9;have s10:=(hWf.cell (p:=⟨b2,o2+k * 8,none⟩) h2lt).trans f10;have s11:=(hWf.cell (p:=⟨b2,o2+k * 8+1,none⟩) h2lt).trans f11;have s12:=(hWf.cell (p:=⟨b2,o2+k * 8+2,none⟩) h2lt).trans f12;have s13:=(hWf.cell (p:=⟨b2,o2+k * 8+3,none⟩) h2lt).trans f13;have s14:=(hWf.cell (p:=⟨b2,o2+k * 8+4,none⟩) h2lt).trans f14;have s15:=(hWf.cell (p:=⟨b2,o2+k * 8+5,none⟩) h2lt).trans f15;have s16:=(hWf.cell (p:=⟨b2,o2+k * 8+6,none⟩) h2lt).trans f16;have s17:=(hWf.cell (p:=⟨b2,o2+k * 8+7,none⟩) h2lt).trans f17))
    go_wp2
    go_roundw
    case rel => exact ⟨k+1,by omega,by go_num,hbr.trans (hWf.mono hbr.size)⟩
    case measure => simp [intOf];omega
   ·have hke:m=k:=by omega
    subst hke
    obtain ⟨hyx,hun⟩:=hun (by omega) (by omega)
    have hrf:r=false:=by rcases hr with ⟨h,_⟩ | ⟨_,h⟩;omega;exact h
    generalize B1[m]'(by omega)=cu at *
    generalize B2[m]'(by omega)=cv at *
    clear heq hr g1 g2 HX
    subst hrf
    have t1:=sameAcc_no cu.a cv.a A1 c1 A2 c2 wr.drew hyx hun
    rw [hyx] at t1 f10
    clear hyx hun
    go_wp2_with fail
    have s0:wr.drew.cell? ⟨w.heap.size,0,none⟩=some (.slice (some ⟨b1,o1,none⟩) n ca):=f0
    have s1:wr.drew.cell? ⟨w.heap.size+1,0,none⟩=some (.slice (some ⟨b2,o2,none⟩) n cb):=f1
    have s2:wr.drew.cell? ⟨b1,o1+m * 8,none⟩=some (.int .i64 ↑cu.a.me):=f2
    have s3:wr.drew.cell? ⟨b1,o1+m * 8+1,none⟩=some (.int .i64 ↑cu.a.rev):=f3
    have s4:wr.drew.cell? ⟨b1,o1+m * 8+2,none⟩=some (.int .i64 ↑cu.a.next):=f4
    have s5:wr.drew.cell? ⟨b1,o1+m * 8+3,none⟩=some (.int .i64 ↑cu.a.month):=f5
    have s6:wr.drew.cell? ⟨b1,o1+m * 8+4,none⟩=some (.int .i64 ↑cu.a.bought):=f6
    have s7:wr.drew.cell? ⟨b1,o1+m * 8+5,none⟩=some (.int .i64 cu.a.free):=f7
    have s8:wr.drew.cell? ⟨b1,o1+m * 8+6,none⟩=some (.slice A1 (cu.a.l.length) c1):=f8
    have s9:wr.drew.cell? ⟨b2,o2+m * 8,none⟩=some (.int .i64 ↑cu.a.me):=f10
    have s10:wr.drew.cell? ⟨b2,o2+m * 8+1,none⟩=some (.int .i64 ↑cv.a.rev):=f11
    have s11:wr.drew.cell? ⟨b2,o2+m * 8+2,none⟩=some (.int .i64 ↑cv.a.next):=f12
    have s12:wr.drew.cell? ⟨b2,o2+m * 8+3,none⟩=some (.int .i64 ↑cv.a.month):=f13
    have s13:wr.drew.cell? ⟨b2,o2+m * 8+4,none⟩=some (.int .i64 ↑cv.a.bought):=f14
    have s14:wr.drew.cell? ⟨b2,o2+m * 8+5,none⟩=some (.int .i64 cv.a.free):=f15
    have s15:wr.drew.cell? ⟨b2,o2+m * 8+6,none⟩=some (.slice A2 (cv.a.l.length) c2):=f16
    refine wp_region_held_drew (S:=fun w' => w'.cell? ⟨w.heap.size,0,none⟩=some (.slice (some ⟨b1,o1,none⟩) n ca)∧w'.cell? ⟨w.heap.size+1,0,none⟩=some (.slice (some ⟨b2,o2,none⟩) n cb)∧w'.cell? ⟨b1,o1+m * 8,none⟩=some (.int .i64 ↑cu.a.me)∧w'.cell? ⟨b1,o1+m * 8+1,none⟩=some (.int .i64 ↑cu.a.rev)∧w'.cell? ⟨b1,o1+m * 8+2,none⟩=some (.int .i64 ↑cu.a.next)∧w'.cell? ⟨b1,o1+m * 8+3,none⟩=some (.int .i64 ↑cu.a.month)∧w'.cell? ⟨b1,o1+m * 8+4,none⟩=some (.int .i64 ↑cu.a.bought)∧w'.cell? ⟨b1,o1+m * 8+5,none⟩=some (.int .i64 cu.a.free)∧w'.cell? ⟨b1,o1+m * 8+6,none⟩=some (.slice A1 (cu.a.l.length) c1)∧w'.cell? ⟨b2,o2+m * 8,none⟩=some (.int .i64 ↑cu.a.me)∧w'.cell? ⟨b2,o2+m * 8+1,none⟩=some (.int .i64 ↑cv.a.rev)∧w'.cell? ⟨b2,o2+m * 8+2,none⟩=some (.int .i64 ↑cv.a.next)∧w'.cell? ⟨b2,o2+m * 8+3,none⟩=some (.int .i64 ↑cv.a.month)∧w'.cell? ⟨b2,o2+m * 8+4,none⟩=some (.int .i64 ↑cv.a.bought)∧w'.cell? ⟨b2,o2+m * 8+5,none⟩=some (.int .i64 cv.a.free)∧w'.cell? ⟨b2,o2+m * 8+6,none⟩=some (.slice A2 (cv.a.l.length) c2)) (by kernel_rfl) ⟨s0,s1,s2,s3,s4,s5,s6,s7,s8,s9,s10,s11,s12,s13,s14,s15⟩ (fun hHeld => ?_)
    refine wpAnyH_take (i:=0) (v:=?v1) rfl (by kernel_rfl) (by kernel_rfl) (by kernel_rfl) (fun _ _ _ h => h) (Or.inl ⟨by rfl,?hy1⟩) (by assumption) ?rest1
    case hy1 => (intro w' hSw;(try dsimp only at hSw);go_simp;(try with_reducible rfl))
    try simp only [Act.put,List.getElem_toArray,List.getElem_cons_zero,List.setIfInBounds_toArray,List.set_cons_zero,List.set_cons_succ]
    refine wpAnyH_take (i:=1) (v:=?v2) rfl (by kernel_rfl) (by kernel_rfl) (by kernel_rfl) (fun _ _ _ h => h) (Or.inl ⟨by rfl,?hy2⟩) (by assumption) ?rest2
    case hy2 => (intro w' hSw;(try dsimp only at hSw);go_simp;(try with_reducible rfl))
    try simp only [Act.put,List.getElem_toArray,List.getElem_cons_zero,List.getElem_cons_succ,List.setIfInBounds_toArray,List.set_cons_zero,List.set_cons_succ]
    refine wpAnyH_take (i:=2) (v:=?v3) rfl (by kernel_rfl) (by kernel_rfl) (by kernel_rfl) (fun _ _ _ h => h) (Or.inl ⟨by rfl,?hy3⟩) (by assumption) ?rest3
    case hy3 => (intro w' hSw;(try dsimp only at hSw);go_simp;(try with_reducible rfl))
    try simp only [Act.put,List.getElem_toArray,List.getElem_cons_zero,List.getElem_cons_succ,List.setIfInBounds_toArray,List.set_cons_zero,List.set_cons_succ]
    refine wpAnyH_take (i:=3) (v:=?v4) rfl (by kernel_rfl) (by kernel_rfl) (by kernel_rfl) (fun _ _ _ h => h) (Or.inl ⟨by rfl,?hy4⟩) (by assumption) ?rest4
    case hy4 => (intro w' hSw;(try dsimp only at hSw);go_simp;(try with_reducible rfl))
    try simp only [Act.put,List.getElem_toArray,List.getElem_cons_zero,List.getElem_cons_succ,List.setIfInBounds_toArray,List.set_cons_zero,List.set_cons_succ]
    refine wpAnyH_take (i:=4) (v:=?v5) rfl (by kernel_rfl) (by kernel_rfl) (by kernel_rfl) (fun _ _ _ h => h) (Or.inl ⟨by rfl,?hy5⟩) (by assumption) ?rest5
    case hy5 => (intro w' hSw;(try dsimp only at hSw);go_simp;(try with_reducible rfl))
    try simp only [Act.put,List.getElem_toArray,List.getElem_cons_zero,List.getElem_cons_succ,List.setIfInBounds_toArray,List.set_cons_zero,List.set_cons_succ]
    refine wpAnyH_take (i:=5) (v:=?v6) rfl (by kernel_rfl) (by kernel_rfl) (by kernel_rfl) (fun _ _ _ h => h) (Or.inl ⟨by rfl,?hy6⟩) (by assumption) ?rest6
    case hy6 => (intro w' hSw;(try dsimp only at hSw);go_simp;(try with_reducible rfl))
    try simp only [Act.put,List.getElem_toArray,List.getElem_cons_zero,List.getElem_cons_succ,List.setIfInBounds_toArray,List.set_cons_zero,List.set_cons_succ]
    refine wpAnyH_take (i:=6) (v:=?v7) rfl (by kernel_rfl) (by kernel_rfl) (by kernel_rfl) (fun _ _ _ h => h) (Or.inl ⟨by rfl,?hy7⟩) (by assumption) ?rest7
    case hy7 => (intro w' hSw;(try dsimp only at hSw);go_simp;(try with_reducible rfl))
    try simp only [Act.put,List.getElem_toArray,List.getElem_cons_zero,List.getElem_cons_succ,List.setIfInBounds_toArray,List.set_cons_zero,List.set_cons_succ]
    refine wpAnyH_take (i:=7) (v:=?v8) rfl (by kernel_rfl) (by kernel_rfl) (by kernel_rfl) (fun _ _ _ h => h) (Or.inl ⟨by rfl,?hy8⟩) (by assumption) ?rest8
    case hy8 => (intro w' hSw;(try dsimp only at hSw);go_simp;(try with_reducible rfl))
    try simp only [Act.put,List.getElem_toArray,List.getElem_cons_zero,List.getElem_cons_succ,List.setIfInBounds_toArray,List.set_cons_zero,List.set_cons_succ]
    refine wpAnyH_take (i:=8) (v:=?v9) rfl (by kernel_rfl) (by kernel_rfl) (by kernel_rfl) (fun _ _ _ h => h) (Or.inl ⟨by rfl,?hy9⟩) (by assumption) ?rest9
    case hy9 => (intro w' hSw;(try dsimp only at hSw);go_simp;(try with_reducible rfl))
    try simp only [Act.put,List.getElem_toArray,List.getElem_cons_zero,List.getElem_cons_succ,List.setIfInBounds_toArray,List.set_cons_zero,List.set_cons_succ]
    refine wpAnyH_take (i:=9) (v:=?v10) rfl (by kernel_rfl) (by kernel_rfl) (by kernel_rfl) (fun _ _ _ h => h) (Or.inl ⟨by rfl,?hy10⟩) (by assumption) ?rest10
    case hy10 => (intro w' hSw;(try dsimp only at hSw);go_simp;(try with_reducible rfl))
    try simp only [Act.put,List.getElem_toArray,List.getElem_cons_zero,List.getElem_cons_succ,List.setIfInBounds_toArray,List.set_cons_zero,List.set_cons_succ]
    refine wpAnyH_take (i:=10) (v:=?v11) rfl (by kernel_rfl) (by kernel_rfl) (by kernel_rfl) (fun _ _ _ h => h) (Or.inl ⟨by rfl,?hy11⟩) (by assumption) ?rest11
    case hy11 => (intro w' hSw;(try dsimp only at hSw);go_simp;(try with_reducible rfl))
    try simp only [Act.put,List.getElem_toArray,List.getElem_cons_zero,List.getElem_cons_succ,List.setIfInBounds_toArray,List.set_cons_zero,List.set_cons_succ]
    refine wpAnyH_take (i:=11) (v:=?v12) rfl (by kernel_rfl) (by kernel_rfl) (by kernel_rfl) (fun _ _ _ h => h) (Or.inl ⟨by rfl,?hy12⟩) (by assumption) ?rest12
    case hy12 => (intro w' hSw;(try dsimp only at hSw);go_simp;(try with_reducible rfl))
    try simp only [Act.put,List.getElem_toArray,List.getElem_cons_zero,List.getElem_cons_succ,List.setIfInBounds_toArray,List.set_cons_zero,List.set_cons_succ]
    refine wpAnyH_ready (rs:=[12]) (by kernel_rfl) (by simp) ?_
    refine AllReadyH.cons (o:={ dst:=some 32,op:=Op.call { callee:=Callee.value (Operand.func 58),args:=#[Operand.tmp 25,Operand.tmp 31],argTypes:=#[64,64] },type:=4,pos := "shops.go:678",after:=#[{ on:=5,ground:=Ground.data },{ on:=11,ground:=Ground.data }],guard:=none }) rfl (fun K hK => ?_) AllReadyH.nil
    go_simp
    go_at_call 58;(with_reducible refine t1.mono ?_);rintro e we ⟨rfl,hbe⟩;have hWe:=B0.trans (hbe.mono B0.size)
    dsimp only
    have r0:=(hWe.cell (p:=⟨w.heap.size,0,none⟩) alt).trans s0
    have r1:=(hWe.cell (p:=⟨w.heap.size+1,0,none⟩) blt).trans s1
    have r2:=(hWe.cell (p:=⟨b1,o1+m * 8,none⟩) h1lt).trans s2
    have r3:=(hWe.cell (p:=⟨b1,o1+m * 8+1,none⟩) h1lt).trans s3
    have r4:=(hWe.cell (p:=⟨b1,o1+m * 8+2,none⟩) h1lt).trans s4
    have r5:=(hWe.cell (p:=⟨b1,o1+m * 8+3,none⟩) h1lt).trans s5
    have r6:=(hWe.cell (p:=⟨b1,o1+m * 8+4,none⟩) h1lt).trans s6
    have r7:=(hWe.cell (p:=⟨b1,o1+m * 8+5,none⟩) h1lt).trans s7
    have r8:=(hWe.cell (p:=⟨b1,o1+m * 8+6,none⟩) h1lt).trans s8
    have r9:=(hWe.cell (p:=⟨b2,o2+m * 8,none⟩) h2lt).trans s9
    have r10:=(hWe.cell (p:=⟨b2,o2+m * 8+1,none⟩) h2lt).trans s10
    have r11:=(hWe.cell (p:=⟨b2,o2+m * 8+2,none⟩) h2lt).trans s11
    have r12:=(hWe.cell (p:=⟨b2,o2+m * 8+3,none⟩) h2lt).trans s12
    have r13:=(hWe.cell (p:=⟨b2,o2+m * 8+4,none⟩) h2lt).trans s13
    have r14:=(hWe.cell (p:=⟨b2,o2+m * 8+5,none⟩) h2lt).trans s14
    have r15:=(hWe.cell (p:=⟨b2,o2+m * 8+6,none⟩) h2lt).trans s15
    refine hK.out _ _ ⟨r0,r1,r2,r3,r4,r5,r6,r7,r8,r9,r10,r11,r12,r13,r14,r15⟩ (fun hHeld => ?_)
    clear hK K
    try simp only [Act.put,List.getElem_toArray,List.getElem_cons_zero,List.getElem_cons_succ,List.setIfInBounds_toArray,List.set_cons_zero,List.set_cons_succ]
    refine wpAnyH_take (i:=13) (v:=?v13) rfl (by kernel_rfl) (by kernel_rfl) (by kernel_rfl) (fun _ _ _ h => h) (Or.inl ⟨by rfl,?hy13⟩) (by assumption) ?rest13
    case hy13 => (intro w' hSw;(try dsimp only at hSw);go_simp;(try with_reducible rfl))
    try simp only [Act.put,List.getElem_toArray,List.getElem_cons_zero,List.getElem_cons_succ,List.setIfInBounds_toArray,List.set_cons_zero,List.set_cons_succ]
    refine wpAnyH_take (i:=14) (v:=?v14) rfl (by kernel_rfl) (by kernel_rfl) (by kernel_rfl) (fun _ _ _ h => h) (Or.inl ⟨by rfl,?hy14⟩) (by assumption) ?rest14
    case hy14 => (intro w' hSw;(try dsimp only at hSw);go_simp;(try with_reducible rfl))
    try simp only [Act.put,List.getElem_toArray,List.getElem_cons_zero,List.getElem_cons_succ,List.setIfInBounds_toArray,List.set_cons_zero,List.set_cons_succ]
    refine wpAnyH_take (i:=15) (v:=undef) rfl (by kernel_rfl) (by kernel_rfl) (by kernel_rfl) (fun _ _ _ h => h) (Or.inr ⟨by kernel_rfl,rfl⟩) (by assumption) ?rest15
    try simp only [Act.put,List.getElem_toArray,List.getElem_cons_zero,List.getElem_cons_succ,List.setIfInBounds_toArray,List.set_cons_zero,List.set_cons_succ]
    refine wpAnyH_take (i:=16) (v:=undef) rfl (by kernel_rfl) (by kernel_rfl) (by kernel_rfl) (fun _ _ _ h => h) (Or.inr ⟨by kernel_rfl,rfl⟩) (by assumption) ?rest16
    try simp only [Act.put,List.getElem_toArray,List.getElem_cons_zero,List.getElem_cons_succ,List.setIfInBounds_toArray,List.set_cons_zero,List.set_cons_succ]
    refine wpAnyH_take (i:=17) (v:=undef) rfl (by kernel_rfl) (by kernel_rfl) (by kernel_rfl) (fun _ _ _ h => h) (Or.inr ⟨by kernel_rfl,rfl⟩) (by assumption) ?rest17
    try simp only [Act.put,List.getElem_toArray,List.getElem_cons_zero,List.getElem_cons_succ,List.setIfInBounds_toArray,List.set_cons_zero,List.set_cons_succ]
    refine wpAnyH_take (i:=18) (v:=undef) rfl (by kernel_rfl) (by kernel_rfl) (by kernel_rfl) (fun _ _ _ h => h) (Or.inr ⟨by kernel_rfl,rfl⟩) (by assumption) ?rest18
    try simp only [Act.put,List.getElem_toArray,List.getElem_cons_zero,List.getElem_cons_succ,List.setIfInBounds_toArray,List.set_cons_zero,List.set_cons_succ]
    refine wpAnyH_take (i:=19) (v:=undef) rfl (by kernel_rfl) (by kernel_rfl) (by kernel_rfl) (fun _ _ _ h => h) (Or.inr ⟨by kernel_rfl,rfl⟩) (by assumption) ?rest19
    try simp only [Act.put,List.getElem_toArray,List.getElem_cons_zero,List.getElem_cons_succ,List.setIfInBounds_toArray,List.set_cons_zero,List.set_cons_succ]
    refine wpAnyH_take (i:=20) (v:=undef) rfl (by kernel_rfl) (by kernel_rfl) (by kernel_rfl) (fun _ _ _ h => h) (Or.inr ⟨by kernel_rfl,rfl⟩) (by assumption) ?rest20
    try simp only [Act.put,List.getElem_toArray,List.getElem_cons_zero,List.getElem_cons_succ,List.setIfInBounds_toArray,List.set_cons_zero,List.set_cons_succ]
    refine wpAnyH_take (i:=21) (v:=undef) rfl (by kernel_rfl) (by kernel_rfl) (by kernel_rfl) (fun _ _ _ h => h) (Or.inr ⟨by kernel_rfl,rfl⟩) (by assumption) ?rest21
    try simp only [Act.put,List.getElem_toArray,List.getElem_cons_zero,List.getElem_cons_succ,List.setIfInBounds_toArray,List.set_cons_zero,List.set_cons_succ]
    refine wpAnyH_take (i:=22) (v:=undef) rfl (by kernel_rfl) (by kernel_rfl) (by kernel_rfl) (fun _ _ _ h => h) (Or.inr ⟨by kernel_rfl,rfl⟩) (by assumption) ?rest22
    try simp only [Act.put,List.getElem_toArray,List.getElem_cons_zero,List.getElem_cons_succ,List.setIfInBounds_toArray,List.set_cons_zero,List.set_cons_succ]
    refine wpAnyH_take (i:=23) (v:=undef) rfl (by kernel_rfl) (by kernel_rfl) (by kernel_rfl) (fun _ _ _ h => h) (Or.inr ⟨by kernel_rfl,rfl⟩) (by assumption) ?rest23
    try simp only [Act.put,List.getElem_toArray,List.getElem_cons_zero,List.getElem_cons_succ,List.setIfInBounds_toArray,List.set_cons_zero,List.set_cons_succ]
    refine wpAnyH_take (i:=24) (v:=undef) rfl (by kernel_rfl) (by kernel_rfl) (by kernel_rfl) (fun _ _ _ h => h) (Or.inr ⟨by kernel_rfl,rfl⟩) (by assumption) ?rest24
    try simp only [Act.put,List.getElem_toArray,List.getElem_cons_zero,List.getElem_cons_succ,List.setIfInBounds_toArray,List.set_cons_zero,List.set_cons_succ]
    refine wpAnyH_take (i:=25) (v:=undef) rfl (by kernel_rfl) (by kernel_rfl) (by kernel_rfl) (fun _ _ _ h => h) (Or.inr ⟨by kernel_rfl,rfl⟩) (by assumption) ?rest25
    try simp only [Act.put,List.getElem_toArray,List.getElem_cons_zero,List.getElem_cons_succ,List.setIfInBounds_toArray,List.set_cons_zero,List.set_cons_succ]
    refine wpAnyH_take (i:=26) (v:=undef) rfl (by kernel_rfl) (by kernel_rfl) (by kernel_rfl) (fun _ _ _ h => h) (Or.inr ⟨by kernel_rfl,rfl⟩) (by assumption) ?rest26
    try simp only [Act.put,List.getElem_toArray,List.getElem_cons_zero,List.getElem_cons_succ,List.setIfInBounds_toArray,List.set_cons_zero,List.set_cons_succ]
    refine wpAnyH_take (i:=27) (v:=undef) rfl (by kernel_rfl) (by kernel_rfl) (by kernel_rfl) (fun _ _ _ h => h) (Or.inr ⟨by kernel_rfl,rfl⟩) (by assumption) ?rest27
    try simp only [Act.put,List.getElem_toArray,List.getElem_cons_zero,List.getElem_cons_succ,List.setIfInBounds_toArray,List.set_cons_zero,List.set_cons_succ]
    refine wpAnyH_take (i:=28) (v:=undef) rfl (by kernel_rfl) (by kernel_rfl) (by kernel_rfl) (fun _ _ _ h => h) (Or.inr ⟨by kernel_rfl,rfl⟩) (by assumption) ?rest28
    try simp only [Act.put,List.getElem_toArray,List.getElem_cons_zero,List.getElem_cons_succ,List.setIfInBounds_toArray,List.set_cons_zero,List.set_cons_succ]
    refine wpAnyH_take (i:=29) (v:=?v29) rfl (by kernel_rfl) (by kernel_rfl) (by kernel_rfl) (fun _ _ _ h => h) (Or.inl ⟨by rfl,?hy29⟩) (by assumption) ?rest29
    case hy29 => (intro w' hSw;(try dsimp only at hSw);go_simp;(try with_reducible rfl))
    try simp only [Act.put,List.getElem_toArray,List.getElem_cons_zero,List.getElem_cons_succ,List.setIfInBounds_toArray,List.set_cons_zero,List.set_cons_succ]
    refine wpAnyH_done (by kernel_rfl) ?_ _
    go_wp2
    go_ret
    exact ⟨rfl,hb0.trans ((hbr.trans (hWe.mono hbr.size)).mono hb0.size)⟩
  ·have hr:=HX.out.2.2.2.2
   have hrf:r=true:=by rcases hr with ⟨_,h⟩ | ⟨h,_⟩;exact h;omega
   have f0:=(hbr.cell (p:=⟨w.heap.size,0,none⟩) balt).trans ba0
   have klt:¬ (k:Int) < (n:Int):=by omega
   clear hr HX HK
   subst hrf
   go_wp2
   go_ret
   exact ⟨rfl,hb0.trans (hbr.mono hb0.size)⟩
theorem sameB_yes (Aa:Option Addr) (na ca:Nat) (Ab:Option Addr) (nb cb:Nat) (B:List Cu) (w:World) (h1:IsBk w (.slice Aa na ca) B) (h2:IsBk w (.slice Ab nb cb) B) (hn:na≤1000) :
 Calls Tryz.prog 35 #[.agg #[.slice Aa na ca],.agg #[.slice Ab nb cb]] w fun e w' => e=.returned (.bool true)∧Below w.heap.size w w':=by
 have g1:=h1.len
 have g2:=h2.len
 obtain rfl:nb=na:=by omega
 exact sameB_ok Aa ca Ab cb nb nb true B B w h1 h2 (Nat.le_refl _) hn (.inl ⟨rfl,rfl⟩) (fun _ _ _ _ => rfl) (fun h _ => by omega)
def Differ (B1 B2:List Cu):Prop:=B1.length≠B2.length∨(B1.length=B2.length∧∃ m,m < B1.length∧(∀ j (g1:j < B1.length) (g2:j < B2.length),j < m→B1[j]=B2[j])∧∀ (g1:m < B1.length) (g2:m < B2.length),B2[m].a.me=B1[m].a.me∧(Unlike B1[m].a B2[m].a∨Unlike B2[m].a B1[m].a))
theorem Differ.symm {B1 B2:List Cu} (h:Differ B1 B2):Differ B2 B1:=by
 rcases h with h | ⟨h,m,h1,h2,h3⟩
 ·exact .inl (Ne.symm h)
 ·exact .inr ⟨h.symm,m,by omega,fun j g1 g2 hj => (h2 j g2 g1 hj).symm,fun g1 g2 => ⟨(h3 g2 g1).1.symm,(h3 g2 g1).2.symm⟩⟩
theorem differ_set {B:List Cu} {i:Nat} {c2:Cu} (hi:i < B.length) (hme:c2.a.me=(B.getD i cu0).a.me) (hu:Unlike (B.getD i cu0).a c2.a):Differ B (B.set i c2):=by
 have hgd:B.getD i cu0=B[i]:=by simp [hi]
 rw [hgd] at hme hu
 refine .inr ⟨by simp,i,hi,fun j _ _ hj => ?_,fun _ _ => ?_⟩
 ·rw [List.getElem_set_ne (by omega)]
 ·rw [List.getElem_set_self];exact ⟨hme,.inl hu⟩
theorem sameB_len (Aa:Option Addr) (na ca:Nat) (Ab:Option Addr) (nb cb:Nat) (w:World) (h:na≠nb) :
 Calls Tryz.prog 35 #[.agg #[.slice Aa na ca],.agg #[.slice Ab nb cb]] w fun e w' => e=.returned (.bool false)∧Below w.heap.size w w':=by
 have hb2:=below_a2 w (.cells #[.slice Aa na ca] 56) (.cells #[.slice Ab nb cb] 56)
 have h1:((na:Int) == (nb:Int))=false:=by simp;omega
 have h2:((na:Int) != (nb:Int))=true:=by simp;omega
 have h3:¬ (na:Int)=(nb:Int):=by omega
 go_enter Tryz.func35,Tryz.ntmps35
 go_wp2_with fail
 go_ret
 exact ⟨rfl,hb2⟩
theorem sameK_ok (Aa:Option Addr) (na ca:Nat) (Ab:Option Addr) (nb cb:Nat) (B1 B2:List Cu) (r:Bool) (w:World) (h1:IsBk w (.slice Aa na ca) B1) (h2:IsBk w (.slice Ab nb cb) B2) (hn:na≤1000) (h:(r=true∧B1=B2)∨(r=false∧Differ B1 B2)) :
 Calls Tryz.prog 17 #[.agg #[.slice Aa na ca],.agg #[.slice Ab nb cb]] w fun e w' => e=.returned (.bool r)∧Below w.heap.size w w':=by
 have g1:=h1.len
 have g2:=h2.len
 have hS:∀ W,IsBk W (.slice Aa na ca) B1→IsBk W (.slice Ab nb cb) B2→Calls Tryz.prog 35 #[.agg #[.slice Aa na ca],.agg #[.slice Ab nb cb]] W fun e w' => e=.returned (.bool r)∧Below W.heap.size W w':=fun W k1 k2 => by
  rcases h with ⟨rfl,rfl⟩ | ⟨rfl,h | ⟨h,m,m1,m2,m3⟩⟩
  ·exact sameB_yes Aa na ca Ab nb cb B1 W k1 k2 hn
  ·exact sameB_len Aa na ca Ab nb cb W (by omega)
  ·obtain rfl:nb=na:=by omega
   exact sameB_ok Aa ca Ab cb nb m false B1 B2 W k1 k2 (by omega) hn (.inr ⟨by omega,rfl⟩) m2 m3
 have hb2:=below_a2 w (.cells #[.slice Aa na ca] 56) (.cells #[.slice Ab nb cb] 56)
 have k1:=h1.below hb2
 have k2:=h2.below hb2
 clear h h1 h2 g1 g2
 go_enter Tryz.func17,Tryz.ntmps17
 go_wp2_with fail
 refine (hS _ k1 k2).mono ?_
 rintro e w1 ⟨rfl,hb⟩
 go_wp2
 go_ret
 exact ⟨rfl,hb2.trans (hb.mono hb2.size)⟩
def Ac.whole (a:Ac):Ac:=⟨a.k,a.me,a.A,a.B,a.C,a.s,none⟩
theorem srv_B (W:Wd) (x:Sr) (cut:Option Nat):(W.srv x cut).B=W.B∨(W.srv x cut).B=(W.srv x none).B:=by
 unfold Wd.srv
 by_cases hE:x.E=0
 ·rw [if_pos hE,if_pos hE,if_pos (show cutK none x.wl.length=x.wl.length from rfl)]
  by_cases hc:cutK cut x.wl.length=x.wl.length
  ·rw [if_pos hc];exact .inr rfl
  ·rw [if_neg hc];exact .inl rfl
 ·rw [if_neg hE];exact .inl rfl
theorem doP_cutB (T:Tm) (W:Wd) {a:Ac} (h5:a.k≤5):(doP T W a).1.B=W.B∨(doP T W a).1.B=(doP T W a.whole).1.B:=by
 unfold doP
 by_cases h1:a.k=1
 ·rw [if_pos h1,if_pos (show a.whole.k=1 from h1)]
  exact srv_B _ _ _
 ·rw [if_neg h1,if_neg (show ¬ a.whole.k=1 from h1),if_pos h5,if_pos (show a.whole.k≤5 from h5)]
  exact srv_B _ _ _
theorem whole_of {a:Ac} (h:a.cut=none):a.whole=a:=by
 obtain ⟨k,me,A,B,C,s,cut⟩:=a
 dsimp only at h
 subst h
 rfl
structure Svc (T:Tm) (W:Wd) (a:Ac) (m2 n:Nat):Prop where
 ok:a.whole.Ok
 may:May W a.whole
 w:(doP T W a.whole).1.Ok T m2 n
 b:((doP T W a.whole).2.E≠0∧(doP T W a.whole).1.B=W.B)∨((doP T W a.whole).2.E=0∧Differ W.B (doP T W a.whole).1.B)
 cut:(a.cut≠none∧(doP T W a).1.B=W.B)∨(doP T W a).1.B=(doP T W a.whole).1.B
theorem Sn.Ok.svc {T:Tm} {sv:Bool} {i:Nat} {s:Sn} (h:s.Ok T sv i) (hT:T.Ok) (hi:i≤62) (h5:s.a.k≤5):Svc T s.W s.a (min 3 (i+1)) (i+1):=by
 obtain ⟨tk,hx⟩:=h.nx
 have ha:=h.a
 have hok:s.a.whole.Ok:=⟨ha.me,ha.kind,ha.h2,ha.h3,ha.h4,ha.h5,ha.h7⟩
 have hx2:Nx sv i s.W tk ⟨s.a.whole,s.W,s.x,s.y,s.key,s.n⟩:=⟨rfl,hx.n,hok,hx.reg,fun g => ⟨(hx.at_ g).1,rfl⟩,hx.key,fun _ _ => rfl⟩
 have hW2:=hx2.next hT hi h.w
 refine ⟨hok,h.may,hW2,?_,?_⟩
 case refine_2 =>
  by_cases g:s.a.cut=none
  ·exact .inr (by rw [whole_of g])
  ·rcases doP_cutB T s.W h5 with e | e
   ·exact .inl ⟨g,e⟩
   ·exact .inr e
 have hk:=ha.kind
 by_cases h1:s.a.k=1
 ·have hd:doP T s.W s.a.whole=(s.W.srv (regR s.W s.a.me) none,tdC none 0 0 ⟨#[]⟩ bil0):=by
   unfold doP
   rw [if_pos (show s.a.whole.k=1 from h1)]
   rfl
  rw [hd]
  refine .inr ⟨rfl,.inl ?_⟩
  have e:(s.W.srv (regR s.W s.a.me) none).B=s.W.B ++ [⟨openP s.a.me,[]⟩]:=by
   unfold Wd.srv
   rw [if_pos (show (regR s.W s.a.me).E=0 from rfl),if_pos (show cutK none (regR s.W s.a.me).wl.length=(regR s.W s.a.me).wl.length from rfl)]
   rfl
  show s.W.B.length≠(s.W.srv (regR s.W s.a.me) none).B.length
  rw [e,List.length_append,List.length_singleton]
  omega
 ·have hd:doP T s.W s.a.whole=(s.W.srv (askR T s.W s.a.od) none,tdC none (askR T s.W s.a.od).E 0 (askR T s.W s.a.od).s (askR T s.W s.a.od).b):=by
   unfold doP
   rw [if_neg (show ¬ s.a.whole.k=1 from h1),if_pos (show s.a.whole.k≤5 from h5)]
   rfl
  rw [hd]
  by_cases hE:(askR T s.W s.a.od).E=0
  ·refine .inr ⟨hE,?_⟩
   have h3:¬ i < 3:=fun g => h1 (h.reg.2 g)
   have hW:=h.w
   rw [show min 3 i=3 by omega] at hW
   have hod:=ha.od (by omega) h5
   have hal:=hW.ask hT hi hod hE
   have hcu:=hW.cus
   have q1:=hod.h1
   have hg:=hal.1.me s.a.od.me
   have e:(s.W.srv (askR T s.W s.a.od) none).B=s.W.B.set s.a.od.me (s.a.od.c T (s.W.B.getD s.a.od.me cu0) s.W.lp):=by
    unfold Wd.srv
    rw [if_pos hE,if_pos (show cutK none (askR T s.W s.a.od).wl.length=(askR T s.W s.a.od).wl.length from rfl)]
    rfl
   rw [e]
   have hl:s.a.od.me < s.W.B.length:=by omega
   refine differ_set hl ?_ hal.2.2.2.1
   have hgd:s.W.B.getD s.a.od.me cu0=s.W.B[s.a.od.me]:=by simp [hl]
   have h6:=hg (by show s.a.od.me < (s.W.B.set _ _).length;rw [List.length_set];exact hl)
   have h7:((askR T s.W s.a.od).B2[s.a.od.me]'(by show s.a.od.me < (s.W.B.set _ _).length;rw [List.length_set];exact hl))=s.a.od.c T (s.W.B.getD s.a.od.me cu0) s.W.lp:=by
    show (s.W.B.set _ _)[s.a.od.me]'_=_
    rw [List.getElem_set_self]
   rw [h7] at h6
   rw [h6,hgd,hW.me _ hl]
  ·refine .inl ⟨hE,?_⟩
   unfold Wd.srv
   rw [if_neg hE]
theorem Svc.books {T:Tm} {W:Wd} {a:Ac} {m2 n:Nat} (h:Svc T W a m2 n):∃ r s:Bool,(((doP T W a.whole).2.E≠0∧r=true∧W.B=(doP T W a.whole).1.B)∨((doP T W a.whole).2.E=0∧r=false∧Differ W.B (doP T W a.whole).1.B))∧((s=true∧(doP T W a).1.B=W.B)∨(s=false∧Differ (doP T W a).1.B W.B))∧(s=false∨a.cut=none→(doP T W a).1.B=(doP T W a.whole).1.B):=by
 rcases h.b with ⟨h1,h2⟩ | ⟨h1,h2⟩
 ·refine ⟨true,true,.inl ⟨h1,rfl,h2.symm⟩,.inl ⟨rfl,?_⟩,fun q => ?_⟩
  ·rcases h.cut with ⟨_,e⟩ | e
   ·exact e
   ·rw [e,h2]
  ·rcases h.cut with ⟨g,e⟩ | e
   ·rw [e,h2]
   ·exact e
 ·rcases h.cut with ⟨g,e⟩ | e
  ·exact ⟨false,true,.inr ⟨h1,rfl,h2⟩,.inl ⟨rfl,e⟩,fun q => by rcases q with q | q;cases q;exact absurd q g⟩
  ·exact ⟨false,false,.inr ⟨h1,rfl,h2⟩,.inr ⟨rfl,by rw [e];exact h2.symm⟩,fun _ => e⟩
end Go.Proofs.YtfgiehkfcoodbaaGreat

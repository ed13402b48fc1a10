/- tariff.Check says yes. -/
import Derived.Test.YtfgiehkfcoodbaaGreatM0
import Derived.Test.YtfgiehkfcoodbaaGreatM5
import Derived.Test.YtfgiehkfcoodbaaGreatM7
import Derived.Test.YtfgiehkfcoodbaaGreatM4
import Derived.Test.YtfgiehkfcoodbaaGreatM2
import Derived.Test.YtfgiehkfcoodbaaGreatM8
import Derived.Test.YtfgiehkfcoodbaaGreatM9
import Derived.Deep.RegionHeld3
namespace Go.Proofs.YtfgiehkfcoodbaaGreat
open Go.RowKit
set_option linter.unusedVariables false
set_option maxRecDepth 100000
set_option maxHeartbeats 16000000
theorem tcheck_ok (v:Value) (l:List (Nat × Nat)) (w:World) (hv:IsDs w v l) (hl:TOk l) :
 Calls Tryz.prog 70 #[v] w fun e w' => e = .returned (.int .i64 0) ∧ Below w.heap.size w w':=by
 have hv0:=hv
 obtain ⟨A,c,rfl,hc1,hc2,hr⟩:=hv
 have hat:=fun k hk => hv0.at_ (k:=k) hk
 have hS:=fun W h1 h2 => sorted_yes A c w.heap.size l W h1 hl h2
 obtain ⟨hpos,hlen,hbd,_,hlast⟩:=hl
 obtain ⟨n,hn⟩:∃ n,l.length = n:=⟨_,rfl⟩
 have HN:=Lib.hid hn
 have hcap:c ≤ 9223372036854775807:=by unfold maxLen at hc2;omega
 rw [hn] at hS hpos hlen hc1 hv0 ⊢
 have hpn:n - 1 < l.length:=by omega
 have hlast':l[n - 1].1 = 10000000:=by
  have h:=hlast (by omega)
  simp only [hn] at h
  exact h
 obtain ⟨q,hq⟩:∃ q:Nat,(n:Int) - 1 = (q:Int):=⟨n - 1,by omega⟩
 obtain ⟨b,off,hA,hB,p1,p9⟩:=hat (n - 1) hpn
 clear p9
 rw [hlast'] at p1
 rw [show n - 1 = q by omega] at p1
 subst hA
 have p1:w.cell? ⟨b,off + q * 2,none⟩ = some (.int .i64 10000000):=p1
 have hb1:=below_a1 w (.cells #[.slice (some ⟨b,off,none⟩) n c] 29)
 have hB1:=Blk.new w 29 #[.slice (some ⟨b,off,none⟩) n c]
 have hgn:w.heap.size < (w.alloc (.cells #[.slice (some ⟨b,off,none⟩) n c] 29)).heap.size:=by simp
 obtain ⟨W1,hW1⟩:∃ W1,w.alloc (.cells #[.slice (some ⟨b,off,none⟩) n c] 29) = W1:=⟨_,rfl⟩
 have HW:=Lib.hid hW1
 rw [hW1] at hb1 hB1 hgn
 clear hn hlast hlast' hpn hr hc2 hW1
 go_enter Tryz.func70,Tryz.ntmps70
 go_wp2_with fail
 rw [HW.out]
 have c1:=hB1.cell 0
 go_loopw [4,16] (fun _ i wr => ∃ k:Nat,k ≤ n ∧ i = .int .i64 k ∧ Below W1.heap.size W1 wr) (fun _ i _ => n - (intOf i).toNat)
 case atStart => exact ⟨0,by omega,rfl,Below.refl _ _⟩
 case round =>
  obtain ⟨k,hk,rfl,hbr⟩:=hrel
  have hb:=hb1.step hbr
  have hbs:=hbr.size
  by_cases hlt:k < n
  ·have hkl:k < l.length:=by rw [HN.out];exact hlt
   obtain ⟨b',off',e',_,p1,p2⟩:=hat k hkl
   injection e' with e'
   injection e' with e1 e2
   subst e1;subst e2
   have p1:=(hb.cell (p:=⟨b,off + k * 2,none⟩) hB).trans p1
   have p2:=(hb.cell (p:=⟨b,off + k * 2 + 1,none⟩) hB).trans p2
   obtain ⟨z1,z2,z3,z4⟩:=hbd _ (List.getElem_mem hkl)
   clear hat hbd hS
   generalize l[k] = p at *
   obtain ⟨x,y⟩:=p
   dsimp only at *
   go_wp2
   go_roundw
   case rel => exact ⟨k + 1,by omega,by go_num,hbr.alloc hbr.size _⟩
   case measure => (simp [intOf];try omega)
  ·obtain rfl:k = n:=by omega
   have c2:wr.cell? ⟨w.heap.size,0,none⟩ = some (.slice (some ⟨b,off,none⟩) k c):=(hbr.cell (p:=⟨w.heap.size,0,none⟩) hgn).trans c1
   have hv2:=hv0.below hb
   clear hat hbd
   go_wp2_with fail
   refine (hS _ hv2 c2).mono ?_
   rintro e w2 ⟨rfl,hb2⟩
   have c3:=(hb2.cell (p:=⟨w.heap.size,0,none⟩) (Nat.lt_of_lt_of_le hgn hbs)).trans c2
   have p3:=((hb.step hb2).cell (p:=⟨b,off + q * 2,none⟩) hB).trans p1
   go_wp2
   go_ret
   exact ⟨rfl,hb.step hb2⟩
theorem blk_not_row {w:World} {g:Nat} {t e:TypeId} {cs:Array Value} (h:Blk w g t cs) (hte:t ≠ e) {base size k:Nat} {v:Value} {xs:List Value} (hr:w.ownsRow base e size v k xs):some g ≠ v.ownBlock:=by
 rcases hr.2 with ⟨rfl,_⟩ | ⟨r,cap,cur,rfl,_,hgb,_⟩
 ·simp [Value.ownBlock]
 ·intro e'
  obtain rfl:g = r:=by simpa [Value.ownBlock] using e'
  have:=(show w.heap[g]? = _ from h).symm.trans hgb
  simp at this
  exact hte this.2
structure AOk (me rev next month bought:Nat) (free:Int):Prop where
 h1:me ≤ 49
 h2:rev ≤ 15
 h3:1 ≤ next
 h4:next ≤ 1048576
 h5:month ≤ 2399
 h6:bought ≤ 10000000
 h7:-1 ≤ free
 h8:free ≤ (month:Int)
structure TmOk (fx fb db al:Nat):Prop where
 h1:fx ≤ 100000
 h2:fb ≤ 10000
 h3:db ≤ 10000
 h4:al ≤ 2097151
theorem within_is (n lo hi:Int) (b:Bool) (w:World) (hb:Hid (decide (lo ≤ n ∧ n ≤ hi) = b)) :
 Calls Tryz.prog 62 #[n,lo,hi] w fun e w' => e = .returned (.bool b) ∧ w = w':=by
 have hor:(lo ≤ n ∧ n ≤ hi ∧ b = true) ∨ (lo ≤ n ∧ ¬ n ≤ hi ∧ b = false) ∨ (¬ lo ≤ n ∧ b = false):=by
  have:=hb.out
  cases b <;> simp at this ⊢ <;> omega
 clear hb
 rcases hor with ⟨h1,h2,rfl⟩ | ⟨h1,h2,rfl⟩ | ⟨h1,rfl⟩
 all_goals
  go_enter Tryz.func62,Tryz.ntmps62
  go_wp2
  go_ret
  exact ⟨rfl,rfl⟩
theorem within_yes (n lo hi:Int) (w:World) (h1:lo ≤ n) (h2:n ≤ hi) :
 Calls Tryz.prog 62 #[n,lo,hi] w fun e w' => e = .returned (.bool true) ∧ w = w' :=
 within_is n lo hi true w (by show _ = _;simp;omega)
theorem amay_ok (me rev next month bought:Nat) (free:Int) (A:Option Addr) (n c:Nat) (l:List (Nat × Nat)) (w:World) (hv:IsDs w (.slice A n c) l) (hl:DOk l) (ha:AOk me rev next month bought free) :
 Calls Tryz.prog 61 #[.agg #[me,rev,next,month,bought,free,.slice A n c]] w fun e w' => e = .returned (.bool true) ∧ Below w.heap.size w w':=by
 have hT:=fun W h => total_ok (.slice A n c) l W h hl
 obtain ⟨a1,a2,a3,a4,a5,a6,a7,a8⟩:=ha
 obtain ⟨s,hs⟩:∃ s,dsum l = s:=⟨_,rfl⟩
 rw [hs] at hT
 clear hs hl
 have hb1:=below_a1 w (.cells #[me,rev,next,month,bought,free,.slice A n c] 64)
 have hv1:=hv.below hb1
 have hB:=Blk.new w 64 #[me,rev,next,month,bought,free,.slice A n c]
 have hBl:=hB.lt
 go_enter Tryz.func61,Tryz.ntmps61
 go_wp2_with fail
 refine (hT _ hv1).mono ?_
 rintro e w1 ⟨rfl,hb2⟩
 have hB1:=hB.below hb2 hBl
 have k0:w1.cell? ⟨w.heap.size,0,none⟩ = some (.int .i64 ↑me):=hB1.cell 0
 have kf0:w1.frozen? ⟨w.heap.size,0,none⟩ = false:=hB1.frozen 0
 have k1:w1.cell? ⟨w.heap.size,1,none⟩ = some (.int .i64 ↑rev):=hB1.cell 1
 have kf1:w1.frozen? ⟨w.heap.size,1,none⟩ = false:=hB1.frozen 1
 have k2:w1.cell? ⟨w.heap.size,2,none⟩ = some (.int .i64 ↑next):=hB1.cell 2
 have kf2:w1.frozen? ⟨w.heap.size,2,none⟩ = false:=hB1.frozen 2
 have k3:w1.cell? ⟨w.heap.size,3,none⟩ = some (.int .i64 ↑month):=hB1.cell 3
 have kf3:w1.frozen? ⟨w.heap.size,3,none⟩ = false:=hB1.frozen 3
 have k4:w1.cell? ⟨w.heap.size,4,none⟩ = some (.int .i64 ↑bought):=hB1.cell 4
 have kf4:w1.frozen? ⟨w.heap.size,4,none⟩ = false:=hB1.frozen 4
 have k5:w1.cell? ⟨w.heap.size,5,none⟩ = some (.int .i64 free):=hB1.cell 5
 have kf5:w1.frozen? ⟨w.heap.size,5,none⟩ = false:=hB1.frozen 5
 have k6:w1.cell? ⟨w.heap.size,6,none⟩ = some (.slice A n c):=hB1.cell 6
 have kf6:w1.frozen? ⟨w.heap.size,6,none⟩ = false:=hB1.frozen 6
 have hbb:=hb1.step hb2
 clear hT hv hv1 hB hB1 hb1 hb2 hBl
 go_wp2_with (go_at_call 62;refine (within_yes _ _ _ _ (by omega) (by omega)).mono ?_;rintro e w' ⟨rfl,rfl⟩)
 go_ret
 exact ⟨rfl,hbb⟩
theorem acheck_ok (A:Option Addr) (n c fx fb db al:Nat) (l:List (Nat × Nat)) (w:World) (hv:IsDs w (.slice A n c) l) (hl:TOk l) (ht:TmOk fx fb db al) :
 Calls Tryz.prog 50 #[.agg #[.slice A n c,fx,fb,db,al]] w fun e w' => e = .returned (.int .i64 0) ∧ Below w.heap.size w w':=by
 have hT:=fun W h => tcheck_ok (.slice A n c) l W h hl
 obtain ⟨a1,a2,a3,a4⟩:=ht
 clear hl
 have hb1:=below_a1 w (.cells #[.slice A n c,fx,fb,db,al] 31)
 have hv1:=hv.below hb1
 have hB:=Blk.new w 31 #[.slice A n c,fx,fb,db,al]
 have hBl:=hB.lt
 go_enter Tryz.func50,Tryz.ntmps50
 go_wp2_with fail
 refine (hT _ hv1).mono ?_
 rintro e w1 ⟨rfl,hb2⟩
 have hB1:=hB.below hb2 hBl
 have k0:w1.cell? ⟨w.heap.size,0,none⟩ = some (.slice A n c):=hB1.cell 0
 have kf0:w1.frozen? ⟨w.heap.size,0,none⟩ = false:=hB1.frozen 0
 have k1:w1.cell? ⟨w.heap.size,1,none⟩ = some (.int .i64 ↑fx):=hB1.cell 1
 have kf1:w1.frozen? ⟨w.heap.size,1,none⟩ = false:=hB1.frozen 1
 have k2:w1.cell? ⟨w.heap.size,2,none⟩ = some (.int .i64 ↑fb):=hB1.cell 2
 have kf2:w1.frozen? ⟨w.heap.size,2,none⟩ = false:=hB1.frozen 2
 have k3:w1.cell? ⟨w.heap.size,3,none⟩ = some (.int .i64 ↑db):=hB1.cell 3
 have kf3:w1.frozen? ⟨w.heap.size,3,none⟩ = false:=hB1.frozen 3
 have k4:w1.cell? ⟨w.heap.size,4,none⟩ = some (.int .i64 ↑al):=hB1.cell 4
 have kf4:w1.frozen? ⟨w.heap.size,4,none⟩ = false:=hB1.frozen 4
 have hbb:=hb1.step hb2
 clear hT hv hv1 hB hB1 hb1 hb2 hBl
 go_wp2_with (go_at_call 62;refine (within_yes _ _ _ _ (by omega) (by omega)).mono ?_;rintro e w' ⟨rfl,rfl⟩)
 go_ret
 exact ⟨rfl,hbb⟩
def Ck (B:Nat) (w:World) (g me rev next month bought:Nat) (free:Int) (l:List (Nat × Nat)) (At:Option Addr) (nt ct fx fb db al:Nat):Prop :=
 B ≤ g ∧ ∃ (A:Option Addr) (c:Nat),Blk w g 130 #[me,rev,next,month,bought,free,.slice A l.length c,.slice At nt ct,fx,fb,db,al] ∧
  w.ownsRow B 90 2 (.slice A l.length c) l.length (drs l)
def RetOpen (me rev next month bought:Nat) (free:Int) (l:List (Nat × Nat)) (At:Option Addr) (nt ct fx fb db al:Nat) (w:World) (e:Ending) (w':World):Prop :=
 ∃ g,e = .returned (.tuple #[.pointer (some ⟨g,0,none⟩),()]) ∧ Ck w.heap.size w' g me rev next month bought free l At nt ct fx fb db al ∧ Below w.heap.size w w'
theorem open_ok (me rev next month bought:Nat) (free:Int) (A:Option Addr) (n c:Nat) (l:List (Nat × Nat)) (At:Option Addr) (nt ct fx fb db al:Nat) (tl:List (Nat × Nat)) (w:World) (hv:IsDs w (.slice A n c) l) (hl:DOk l) (ha:AOk me rev next month bought free)
 (hv2:IsDs w (.slice At nt ct) tl) (hl2:TOk tl) (ht:TmOk fx fb db al) :
 Calls Tryz.prog 37 #[.agg #[me,rev,next,month,bought,free,.slice A n c],.agg #[.slice At nt ct,fx,fb,db,al]] w
  (RetOpen me rev next month bought free l At nt ct fx fb db al w):=by
 have hM:=fun W h => amay_ok me rev next month bought free A n c l W h hl ha
 have hC:=fun W h => acheck_ok At nt ct fx fb db al tl W h hl2 ht
 obtain ⟨h8,hp⟩:=hl
 clear ha ht hl2
 have hb1:=below_a2 w (.cells #[me,rev,next,month,bought,free,.slice A n c] 64) (.cells #[.slice At nt ct,fx,fb,db,al] 31)
 have hv1:=hv.below hb1
 have hv21:=hv2.below hb1
 have hB:=(Blk.new w 64 #[me,rev,next,month,bought,free,.slice A n c]).alloc (.cells #[.slice At nt ct,fx,fb,db,al] 31)
 have hD:=Blk.new (w.alloc (.cells #[me,rev,next,month,bought,free,.slice A n c] 64)) 31 #[.slice At nt ct,fx,fb,db,al]
 have hsz:(w.alloc (.cells #[me,rev,next,month,bought,free,.slice A n c] 64)).heap.size = w.heap.size + 1:=by simp
 rw [hsz] at hD
 clear hsz
 go_enter Tryz.func37,Tryz.ntmps37
 go_wp2_with fail
 refine (hM _ hv1).mono ?_
 rintro e w1 ⟨rfl,hb2⟩
 have hs2:=hb2.size
 have hB1:=hB.below hb2 hB.lt
 have hD1:=hD.below hb2 hD.lt
 have k0:w1.cell? ⟨w.heap.size,0,none⟩ = some (.int .i64 ↑me):=hB1.cell 0
 have kf0:w1.frozen? ⟨w.heap.size,0,none⟩ = false:=hB1.frozen 0
 have k1:w1.cell? ⟨w.heap.size,1,none⟩ = some (.int .i64 ↑rev):=hB1.cell 1
 have kf1:w1.frozen? ⟨w.heap.size,1,none⟩ = false:=hB1.frozen 1
 have k2:w1.cell? ⟨w.heap.size,2,none⟩ = some (.int .i64 ↑next):=hB1.cell 2
 have kf2:w1.frozen? ⟨w.heap.size,2,none⟩ = false:=hB1.frozen 2
 have k3:w1.cell? ⟨w.heap.size,3,none⟩ = some (.int .i64 ↑month):=hB1.cell 3
 have kf3:w1.frozen? ⟨w.heap.size,3,none⟩ = false:=hB1.frozen 3
 have k4:w1.cell? ⟨w.heap.size,4,none⟩ = some (.int .i64 ↑bought):=hB1.cell 4
 have kf4:w1.frozen? ⟨w.heap.size,4,none⟩ = false:=hB1.frozen 4
 have k5:w1.cell? ⟨w.heap.size,5,none⟩ = some (.int .i64 free):=hB1.cell 5
 have kf5:w1.frozen? ⟨w.heap.size,5,none⟩ = false:=hB1.frozen 5
 have k6:w1.cell? ⟨w.heap.size,6,none⟩ = some (.slice A n c):=hB1.cell 6
 have kf6:w1.frozen? ⟨w.heap.size,6,none⟩ = false:=hB1.frozen 6
 have j0:w1.cell? ⟨w.heap.size + 1,0,none⟩ = some (.slice At nt ct):=hD1.cell 0
 have jf0:w1.frozen? ⟨w.heap.size + 1,0,none⟩ = false:=hD1.frozen 0
 have j1:w1.cell? ⟨w.heap.size + 1,1,none⟩ = some (.int .i64 ↑fx):=hD1.cell 1
 have jf1:w1.frozen? ⟨w.heap.size + 1,1,none⟩ = false:=hD1.frozen 1
 have j2:w1.cell? ⟨w.heap.size + 1,2,none⟩ = some (.int .i64 ↑fb):=hD1.cell 2
 have jf2:w1.frozen? ⟨w.heap.size + 1,2,none⟩ = false:=hD1.frozen 2
 have j3:w1.cell? ⟨w.heap.size + 1,3,none⟩ = some (.int .i64 ↑db):=hD1.cell 3
 have jf3:w1.frozen? ⟨w.heap.size + 1,3,none⟩ = false:=hD1.frozen 3
 have j4:w1.cell? ⟨w.heap.size + 1,4,none⟩ = some (.int .i64 ↑al):=hD1.cell 4
 have jf4:w1.frozen? ⟨w.heap.size + 1,4,none⟩ = false:=hD1.frozen 4
 clear hM
 go_wp2_with fail
 refine (hC _ (hv21.below hb2)).mono ?_
 rintro e w2 ⟨rfl,hb3⟩
 have hv3:=(hv1.below hb2).below hb3
 have hB2:=hB1.below hb3 hB1.lt
 have hD2:=hD1.below hb3 hD1.lt
 have hB2l:=hB2.lt
 have hD2l:=hD2.lt
 have hbb:=(hb1.step hb2).step hb3
 clear k0 k1 k2 k3 k4 k5 k6 kf0 kf1 kf2 kf3 kf4 kf5 kf6 j0 j1 j2 j3 j4 jf0 jf1 jf2 jf3 jf4 hC hB hD hB1 hD1 hv1 hv21 hv hv2 hb1 hb2 hb3 hs2
 have k0:w2.cell? ⟨w.heap.size,0,none⟩ = some (.int .i64 ↑me):=hB2.cell 0
 have kf0:w2.frozen? ⟨w.heap.size,0,none⟩ = false:=hB2.frozen 0
 have k1:w2.cell? ⟨w.heap.size,1,none⟩ = some (.int .i64 ↑rev):=hB2.cell 1
 have kf1:w2.frozen? ⟨w.heap.size,1,none⟩ = false:=hB2.frozen 1
 have k2:w2.cell? ⟨w.heap.size,2,none⟩ = some (.int .i64 ↑next):=hB2.cell 2
 have kf2:w2.frozen? ⟨w.heap.size,2,none⟩ = false:=hB2.frozen 2
 have k3:w2.cell? ⟨w.heap.size,3,none⟩ = some (.int .i64 ↑month):=hB2.cell 3
 have kf3:w2.frozen? ⟨w.heap.size,3,none⟩ = false:=hB2.frozen 3
 have k4:w2.cell? ⟨w.heap.size,4,none⟩ = some (.int .i64 ↑bought):=hB2.cell 4
 have kf4:w2.frozen? ⟨w.heap.size,4,none⟩ = false:=hB2.frozen 4
 have k5:w2.cell? ⟨w.heap.size,5,none⟩ = some (.int .i64 free):=hB2.cell 5
 have kf5:w2.frozen? ⟨w.heap.size,5,none⟩ = false:=hB2.frozen 5
 have k6:w2.cell? ⟨w.heap.size,6,none⟩ = some (.slice A n c):=hB2.cell 6
 have kf6:w2.frozen? ⟨w.heap.size,6,none⟩ = false:=hB2.frozen 6
 have j0:w2.cell? ⟨w.heap.size + 1,0,none⟩ = some (.slice At nt ct):=hD2.cell 0
 have jf0:w2.frozen? ⟨w.heap.size + 1,0,none⟩ = false:=hD2.frozen 0
 have j1:w2.cell? ⟨w.heap.size + 1,1,none⟩ = some (.int .i64 ↑fx):=hD2.cell 1
 have jf1:w2.frozen? ⟨w.heap.size + 1,1,none⟩ = false:=hD2.frozen 1
 have j2:w2.cell? ⟨w.heap.size + 1,2,none⟩ = some (.int .i64 ↑fb):=hD2.cell 2
 have jf2:w2.frozen? ⟨w.heap.size + 1,2,none⟩ = false:=hD2.frozen 2
 have j3:w2.cell? ⟨w.heap.size + 1,3,none⟩ = some (.int .i64 ↑db):=hD2.cell 3
 have jf3:w2.frozen? ⟨w.heap.size + 1,3,none⟩ = false:=hD2.frozen 3
 have j4:w2.cell? ⟨w.heap.size + 1,4,none⟩ = some (.int .i64 ↑al):=hD2.cell 4
 have jf4:w2.frozen? ⟨w.heap.size + 1,4,none⟩ = false:=hD2.frozen 4
 obtain ⟨A',c',e',_,_,hrd⟩:=hv3
 injection e' with e1 e2 e3
 subst e1;subst e2;subst e3
 go_wp2_with (at_builtin;refine wpList_pushN el_d rfl (.const (.slice none 0 0)) (.tmp 16) rfl w2 w2.heap.size _ 0 [] rfl (World.ownsRow_nil _ _ _ _) w2.heap.size A l.length c (drs l) rfl hrd (drs_one l) (by omega) (by unfold maxLen;omega) w2 (Below.refl _ _) (Nat.le_refl _) ?_;intro A1 c1 w3 hown hb4;have hB3:=hB2.below hb4 hB2l;have hD3:=hD2.below hb4 hD2l;have m0:=hB3.cell 0;have m1:=hB3.cell 1;have m2:=hB3.cell 2;have m3:=hB3.cell 3;have m4:=hB3.cell 4;have m5:=hB3.cell 5;have m6:=hB3.cell 6;have f6:=hB3.frozen 6;have o0:=hD3.cell 0;have o1:=hD3.cell 1;have o2:=hD3.cell 2;have o3:=hD3.cell 3;have o4:=hD3.cell 4)
 simp only [Nat.zero_add,List.nil_append] at hown ⊢
 go_ret2
 have hsz:=hown.1
 have q1:=own_far (p:=⟨w.heap.size,6,none⟩) hown hB2l (.slice A1 l.length c1)
 have q2:=(own_mono q1 (b':=w.heap.size) (by omega)).alloc (.cells #[me,rev,next,month,bought,free,.slice A1 l.length c1,.slice At nt ct,fx,fb,db,al] 130)
 have hb9:Below w.heap.size w (w3.setCell ⟨w.heap.size,6,none⟩ (.slice A1 l.length c1)):=(hbb.step hb4).setCell (p:=⟨w.heap.size,6,none⟩) (Nat.le_refl _) _
 have hB9:=Blk.new (w3.setCell ⟨w.heap.size,6,none⟩ (.slice A1 l.length c1)) 130 #[me,rev,next,month,bought,free,.slice A1 l.length c1,.slice At nt ct,fx,fb,db,al]
 have hs9:=hb9.size
 have e9:(w3.setCell ⟨w.heap.size,6,none⟩ (.slice A1 l.length c1)).heap.size = w3.heap.size:=by simp
 have hb10:=hb9.alloc hs9 (.cells #[me,rev,next,month,bought,free,.slice A1 l.length c1,.slice At nt ct,fx,fb,db,al] 130)
 rw [e9] at hB9 hs9
 exact ⟨_,rfl,⟨hs9,A1,c1,hB9,q2⟩,hb10⟩
def RetAg (w:World) (e:Ending) (w':World):Prop :=
 ∃ (tl:List (Nat × Nat)) (A:Option Addr) (c fx fb db al:Nat),e = .returned (.agg #[.slice A tl.length c,fx,fb,db,al]) ∧
  TOk tl ∧ TmOk fx fb db al ∧ IsDs w' (.slice A tl.length c) tl ∧ Below w.heap.size w w'
def RetAgO (w:World) (e:Ending) (w':World):Prop :=
 ∃ (tl:List (Nat × Nat)) (A:Option Addr) (c fx fb db al:Nat),e = .returned (.agg #[.slice A tl.length c,fx,fb,db,al]) ∧
  TOk tl ∧ TmOk fx fb db al ∧ w'.ownsRow w.heap.size 209 2 (.slice A tl.length c) tl.length (drs tl) ∧ Below w.heap.size w w'
theorem agreed_own (A:Option Addr) (n m:Nat) (g:Nat → Nat → Int) (a b c d:Int) (w:World) (wa:(Lit.int .i64 a).wf = true) (wb:(Lit.int .i64 b).wf = true) (wc:(Lit.int .i64 c).wf = true) (wd:(Lit.int .i64 d).wf = true)
 (hv:IsRows w (.slice A n m) [.i64,.i64] n g) :
 Calls Tryz.prog 53 #[.agg #[.slice A n m,a,b,c,d]] w (RetAgO w):=by
 obtain ⟨fx,h1,g1⟩:=pk_lit a 100001 (by omega)
 obtain ⟨fb,h2,g2⟩:=pk_lit b 10001 (by omega)
 obtain ⟨db,h3,g3⟩:=pk_lit c 10001 (by omega)
 obtain ⟨al,h4,g4⟩:=pk_lit d 2097152 (by omega)
 have hS:=fun W h => stepped_own (.slice A n m) n g W h
 have HT:Hid (TmOk fx fb db al):=⟨by omega,by omega,by omega,by omega⟩
 clear g1 g2 g3 g4
 obtain ⟨W0,hW0⟩:∃ W0,(w.alloc (.cells #[.slice A n m,a,b,c,d] 24)).alloc (.cells #[.slice none 0 0,(),(),(),()] 31) = W0:=⟨_,rfl⟩
 have hb0:Below w.heap.size w W0:=by rw [← hW0];exact below_a2 _ _ _
 have hv0:=hv.below hb0
 have hvd:IsRows W0.drew (.slice A n m) [.i64,.i64] n g:=hv0
 have hs0:w.heap.size + 2 ≤ W0.heap.size:=by rw [← hW0];simp
 have hB:Blk W0 w.heap.size 24 #[.slice A n m,a,b,c,d]:=by
  rw [← hW0];exact (Blk.new w _ _).alloc _
 have hX:Blk W0 (w.heap.size + 1) 31 #[.slice none 0 0,(),(),(),()]:=by
  have:=Blk.new (w.alloc (.cells #[.slice A n m,a,b,c,d] 24)) 31 #[.slice none 0 0,(),(),(),()]
  rw [hW0] at this
  simpa using this
 clear hv
 go_enter Tryz.func53,Tryz.ntmps53
 go_wp2_with fail
 have k0:W0.cell? ⟨w.heap.size,0,none⟩ = some (.slice A n m):=hB.cell 0
 have kf0:W0.frozen? ⟨w.heap.size,0,none⟩ = false:=hB.frozen 0
 have k1:W0.cell? ⟨w.heap.size,1,none⟩ = some (.int .i64 a):=hB.cell 1
 have kf1:W0.frozen? ⟨w.heap.size,1,none⟩ = false:=hB.frozen 1
 have k2:W0.cell? ⟨w.heap.size,2,none⟩ = some (.int .i64 b):=hB.cell 2
 have kf2:W0.frozen? ⟨w.heap.size,2,none⟩ = false:=hB.frozen 2
 have k3:W0.cell? ⟨w.heap.size,3,none⟩ = some (.int .i64 c):=hB.cell 3
 have kf3:W0.frozen? ⟨w.heap.size,3,none⟩ = false:=hB.frozen 3
 have k4:W0.cell? ⟨w.heap.size,4,none⟩ = some (.int .i64 d):=hB.cell 4
 have kf4:W0.frozen? ⟨w.heap.size,4,none⟩ = false:=hB.frozen 4
 clear hW0
 go_region_held3 (fun w' => w'.cell? ⟨w.heap.size,0,none⟩ = some (.slice A n m) ∧ w'.cell? ⟨w.heap.size,1,none⟩ = some (.int .i64 a) ∧ w'.cell? ⟨w.heap.size,2,none⟩ = some (.int .i64 b) ∧ w'.cell? ⟨w.heap.size,3,none⟩ = some (.int .i64 c) ∧ w'.cell? ⟨w.heap.size,4,none⟩ = some (.int .i64 d)) (first | go_keep | exact ⟨s0,s1,s2,s3,s4⟩ | fail)
  (first | (go_at_call 40;with_reducible refine (picked_is _ h1 wa (by omega) (by omega)).mono ?_;rintro e w' ⟨rfl,rfl⟩) | (go_at_call 40;with_reducible refine (picked_is _ h2 wb (by omega) (by omega)).mono ?_;rintro e w' ⟨rfl,rfl⟩) | (go_at_call 40;with_reducible refine (picked_is _ h3 wc (by omega) (by omega)).mono ?_;rintro e w' ⟨rfl,rfl⟩) | (go_at_call 40;with_reducible refine (picked_is _ h4 wd (by omega) (by omega)).mono ?_;rintro e w' ⟨rfl,rfl⟩) | (go_at_call 74;(with_reducible refine (hS _ hvd).mono ?_);rintro e w1 ⟨tl,A1,c1,rfl,hT,hown,hb1⟩;have hlt0:w.heap.size < W0.drew.heap.size:=(show w.heap.size < W0.heap.size by omega);have hlt1:w.heap.size + 1 < W0.drew.heap.size:=(show w.heap.size + 1 < W0.heap.size by omega);have s0:=(hb1.cell (p:=⟨w.heap.size,0,none⟩) hlt0).trans k0;have s1:=(hb1.cell (p:=⟨w.heap.size,1,none⟩) hlt0).trans k1;have s2:=(hb1.cell (p:=⟨w.heap.size,2,none⟩) hlt0).trans k2;have s3:=(hb1.cell (p:=⟨w.heap.size,3,none⟩) hlt0).trans k3;have s4:=(hb1.cell (p:=⟨w.heap.size,4,none⟩) hlt0).trans k4;have hX1:=Blk.below (w:=W0.drew) hX hb1 hlt1;have x0:=hX1.cell 0;have x1:=hX1.cell 1;have x2:=hX1.cell 2;have x3:=hX1.cell 3;have x4:=hX1.cell 4;have y0:=hX1.frozen 0;have y1:=hX1.frozen 1;have y2:=hX1.frozen 2;have y3:=hX1.frozen 3;have y4:=hX1.frozen 4))
 clear s0 s1 s2 s3 s4 k0 k1 k2 k3 k4 kf0 kf1 kf2 kf3 kf4 x0 x1 x2 x3 x4 y0 y1 y2 y3 y4 hS hvd hv0
 obtain ⟨ps,hps⟩:∃ ps:List (Nat × Value),ps = [(0,.slice A1 tl.length c1),(1,.int .i64 ↑fx),(2,.int .i64 ↑fb),(3,.int .i64 ↑db),(4,.int .i64 ↑al)]:=⟨_,rfl⟩
 have hX3:=Blk.sets ps hX1
 have ho3:=own_sets (b:=w.heap.size + 1) hlt1 ps hown
 have hb3:=below_sets (b:=w.heap.size + 1) (by omega) ps ((below_draws hb0 1).trans (hb1.mono (show w.heap.size ≤ W0.heap.size by omega)))
 subst hps
 have hX4:Blk _ (w.heap.size + 1) 31 #[.slice A1 tl.length c1,fx,fb,db,al]:=hX3
 have r0:=hX4.cell 0
 have r1:=hX4.cell 1
 have r2:=hX4.cell 2
 have r3:=hX4.cell 3
 have r4:=hX4.cell 4
 have hd3:=own_mono (b':=w.heap.size) ho3 (by omega)
 simp only [sets,List.foldl_cons,List.foldl_nil] at r0 r1 r2 r3 r4 hd3 hb3
 go_wp2
 refine bodyPost_ret (v:=.agg #[.slice A1 tl.length c1,fx,fb,db,al]) (by simp [results,Tryz.results53,go_sem,r0,r1,r2,r3,r4];done) rfl ?_
 exact ⟨tl,A1,c1,fx,fb,db,al,rfl,hT,HT.out,hd3,hb3⟩
end Go.Proofs.YtfgiehkfcoodbaaGreat

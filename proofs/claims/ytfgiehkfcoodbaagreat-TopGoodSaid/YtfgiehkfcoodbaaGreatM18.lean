/- account.Grant. -/
import Derived.Test.YtfgiehkfcoodbaaGreatM0
import Derived.Test.YtfgiehkfcoodbaaGreatM11
import Derived.BigRegion
namespace Go.Proofs.YtfgiehkfcoodbaaGreat
open Go.RowKit
set_option linter.unusedVariables false
set_option maxRecDepth 100000
set_option maxHeartbeats 16000000
theorem below_drew {B:Nat} {a w:World} (h:Below B a w):Below B a w.drew:=⟨h.os,h.tape,h.output,h.size,h.block⟩
def RetGrant (me rev next next1 m2 b2 al:Nat) (l2:List (Nat × Nat)) (w:World) (e:Ending) (w':World):Prop :=
 ∃ (A2:Option Addr) (c2:Nat),e = .returned (.tuple #[.agg #[me,rev,next1,m2,b2,m2,.slice A2 l2.length c2],.agg #[next,(),(),(),(),(),al],()]) ∧ IsDs w' (.slice A2 l2.length c2) l2 ∧ Below w.heap.size w w'
def GrMem (w W0 w2:World) (g me rev next month b2:Nat) (free:Int) (l2:List (Nat × Nat)) (At:Option Addr) (nt ct fx fb db al:Nat):Prop :=
 Ck W0.heap.size w2 g me rev next month b2 free l2 At nt ct fx fb db al ∧ Blk w2 (w.heap.size + 1) 31 #[.slice At nt ct,fx,fb,db,al] ∧ Blk w2 (w.heap.size + 1 + 1) 64 #[(),(),(),(),(),(),.slice none 0 0] ∧ Blk w2 (w.heap.size + 1 + 1 + 1) 47 #[(),(),(),(),(),(),()] ∧ Below w.heap.size w w2 ∧ w.heap.size + 4 ≤ W0.heap.size
theorem grEnd {w W0 W3:World} {g:Nat} {cs:Array Value} {A2:Option Addr} {c2:Nat} {l2:List (Nat × Nat)} (ps qs:List (Nat × Value)) (hown:W3.ownsRow W0.heap.size 90 2 (.slice A2 l2.length c2) l2.length (drs l2)) (hX:Blk W3 (w.heap.size + 1 + 1) 64 #[(),(),(),(),(),(),.slice none 0 0]) (hY:Blk W3 (w.heap.size + 1 + 1 + 1) 47 #[(),(),(),(),(),(),()]) (hb:Below w.heap.size w W3) (hs:w.heap.size + 4 ≤ W0.heap.size) :
 Blk (sets (sets W3 (w.heap.size + 1 + 1) ps) (w.heap.size + 1 + 1 + 1) qs) (w.heap.size + 1 + 1) 64 (ps.foldl (fun cs p => cs.setIfInBounds p.1 p.2) #[(),(),(),(),(),(),.slice none 0 0]) ∧
 Blk (sets (sets W3 (w.heap.size + 1 + 1) ps) (w.heap.size + 1 + 1 + 1) qs) (w.heap.size + 1 + 1 + 1) 47 (qs.foldl (fun cs p => cs.setIfInBounds p.1 p.2) #[(),(),(),(),(),(),()]) ∧
 (sets (sets W3 (w.heap.size + 1 + 1) ps) (w.heap.size + 1 + 1 + 1) qs).ownsRow W0.heap.size 90 2 (.slice A2 l2.length c2) l2.length (drs l2) ∧
 Below w.heap.size w (sets (sets W3 (w.heap.size + 1 + 1) ps) (w.heap.size + 1 + 1 + 1) qs) :=
 ⟨Blk.sets_far (by omega) qs (Blk.sets ps hX),Blk.sets qs (Blk.sets_far (by omega) ps hY),own_sets (by omega) qs (own_sets (by omega) ps hown),below_sets (by omega) qs (below_sets (by omega) ps hb)⟩
theorem grant_twice (me rev next month bought:Nat) (A:Option Addr) (n c:Nat) (l:List (Nat × Nat)) (At:Option Addr) (nt ct fx fb db al:Nat) (tl:List (Nat × Nat)) (m2 b2:Nat) (l2:List (Nat × Nat)) (w:World)
 (hv:IsDs w (.slice A n c) l) (hl:DOk l) (ha:AOk me rev next month bought (m2:Int)) (hv2:IsDs w (.slice At nt ct) tl) (hl2:TOk tl) (ht:TmOk fx fb db al) (hr:Rolled month bought l m2 b2 l2) (hm:m2 ≤ 2399)
 (hal:1 ≤ al) :
 Calls Tryz.prog 99 #[.agg #[me,rev,next,month,bought,m2,.slice A n c],.agg #[.slice At nt ct,fx,fb,db,al],m2] w fun e w' =>
  e = .returned (.tuple #[.agg #[(),(),(),(),(),(),.slice none 0 0],.agg #[(),(),(),(),(),(),()],.int .i64 21]) ∧ Below w.heap.size w w':=by
 have hO:=fun W h h2 => open_ok me rev next month bought (m2:Int) A n c l At nt ct fx fb db al tl W h hl ha h2 hl2 ht
 have hR:=fun B g W hk hB => roll_ok B g me rev next month bought (m2:Int) l At nt ct fx fb db al m2 b2 l2 W hk hl hB hr hm
 have g1:((al:Int) == 0) = false:=by simp;omega
 obtain ⟨W0,hW0⟩:∃ W0,(((w.alloc (.cells #[me,rev,next,month,bought,m2,.slice A n c] 64)).alloc (.cells #[.slice At nt ct,fx,fb,db,al] 31)).alloc (.cells #[(),(),(),(),(),(),.slice none 0 0] 64)).alloc (.cells #[(),(),(),(),(),(),()] 47) = W0:=⟨_,rfl⟩
 have hb0:Below w.heap.size w W0:=by rw [← hW0];exact below_a4 _ _ _ _ _
 have hs0:w.heap.size + 4 ≤ W0.heap.size:=by rw [← hW0];simp
 have hA0:Blk W0 w.heap.size 64 #[me,rev,next,month,bought,m2,.slice A n c]:=by
  rw [← hW0];exact (((Blk.new w _ _).alloc _).alloc _).alloc _
 have hT:Blk W0 (w.heap.size + 1) 31 #[.slice At nt ct,fx,fb,db,al]:=by
  have:=((Blk.new (w.alloc (.cells #[me,rev,next,month,bought,m2,.slice A n c] 64)) 31 #[.slice At nt ct,fx,fb,db,al]).alloc (.cells #[(),(),(),(),(),(),.slice none 0 0] 64)).alloc (.cells #[(),(),(),(),(),(),()] 47)
  rw [hW0] at this
  simpa using this
 have hX:Blk W0 (w.heap.size + 1 + 1) 64 #[(),(),(),(),(),(),.slice none 0 0]:=by
  have:=(Blk.new ((w.alloc (.cells #[me,rev,next,month,bought,m2,.slice A n c] 64)).alloc (.cells #[.slice At nt ct,fx,fb,db,al] 31)) 64 #[(),(),(),(),(),(),.slice none 0 0]).alloc (.cells #[(),(),(),(),(),(),()] 47)
  rw [hW0] at this
  simpa using this
 have hY:Blk W0 (w.heap.size + 1 + 1 + 1) 47 #[(),(),(),(),(),(),()]:=by
  have:=Blk.new (((w.alloc (.cells #[me,rev,next,month,bought,m2,.slice A n c] 64)).alloc (.cells #[.slice At nt ct,fx,fb,db,al] 31)).alloc (.cells #[(),(),(),(),(),(),.slice none 0 0] 64)) 47 #[(),(),(),(),(),(),()]
  rw [hW0] at this
  simpa using this
 have hv0:=hv.below hb0
 have hv20:=hv2.below hb0
 clear hr ha ht hl2 hv hv2
 have k0:W0.cell? ⟨w.heap.size,0,none⟩ = some (.int .i64 ↑me):=hA0.cell 0
 have kf0:W0.frozen? ⟨w.heap.size,0,none⟩ = false:=hA0.frozen 0
 have k1:W0.cell? ⟨w.heap.size,1,none⟩ = some (.int .i64 ↑rev):=hA0.cell 1
 have kf1:W0.frozen? ⟨w.heap.size,1,none⟩ = false:=hA0.frozen 1
 have k2:W0.cell? ⟨w.heap.size,2,none⟩ = some (.int .i64 ↑next):=hA0.cell 2
 have kf2:W0.frozen? ⟨w.heap.size,2,none⟩ = false:=hA0.frozen 2
 have k3:W0.cell? ⟨w.heap.size,3,none⟩ = some (.int .i64 ↑month):=hA0.cell 3
 have kf3:W0.frozen? ⟨w.heap.size,3,none⟩ = false:=hA0.frozen 3
 have k4:W0.cell? ⟨w.heap.size,4,none⟩ = some (.int .i64 ↑bought):=hA0.cell 4
 have kf4:W0.frozen? ⟨w.heap.size,4,none⟩ = false:=hA0.frozen 4
 have k5:W0.cell? ⟨w.heap.size,5,none⟩ = some (.int .i64 ↑m2):=hA0.cell 5
 have kf5:W0.frozen? ⟨w.heap.size,5,none⟩ = false:=hA0.frozen 5
 have k6:W0.cell? ⟨w.heap.size,6,none⟩ = some (.slice A n c):=hA0.cell 6
 have kf6:W0.frozen? ⟨w.heap.size,6,none⟩ = false:=hA0.frozen 6
 have j0:W0.cell? ⟨w.heap.size + 1,0,none⟩ = some (.slice At nt ct):=hT.cell 0
 have jf0:W0.frozen? ⟨w.heap.size + 1,0,none⟩ = false:=hT.frozen 0
 have j1:W0.cell? ⟨w.heap.size + 1,1,none⟩ = some (.int .i64 ↑fx):=hT.cell 1
 have jf1:W0.frozen? ⟨w.heap.size + 1,1,none⟩ = false:=hT.frozen 1
 have j2:W0.cell? ⟨w.heap.size + 1,2,none⟩ = some (.int .i64 ↑fb):=hT.cell 2
 have jf2:W0.frozen? ⟨w.heap.size + 1,2,none⟩ = false:=hT.frozen 2
 have j3:W0.cell? ⟨w.heap.size + 1,3,none⟩ = some (.int .i64 ↑db):=hT.cell 3
 have jf3:W0.frozen? ⟨w.heap.size + 1,3,none⟩ = false:=hT.frozen 3
 have j4:W0.cell? ⟨w.heap.size + 1,4,none⟩ = some (.int .i64 ↑al):=hT.cell 4
 have jf4:W0.frozen? ⟨w.heap.size + 1,4,none⟩ = false:=hT.frozen 4
 go_enter Tryz.func99,Tryz.ntmps99
 go_wp2_with fail
 refine (hO _ hv0 hv20).mono ?_
 rintro e w1 ⟨g,rfl,hk,hb1⟩
 have hs1:=hb1.size
 clear k0 k1 k2 k3 k4 k5 k6 kf0 kf1 kf2 kf3 kf4 kf5 kf6 j0 j1 j2 j3 j4 jf0 jf1 jf2 jf3 jf4 hA0
 go_wp2_with fail
 refine (hR _ g _ hk hs1).mono ?_
 rintro e w2 ⟨rfl,⟨hBg,A2,c2,hblk,hown⟩,hb2⟩
 have hT2:=(hT.below hb1 hT.lt).below hb2 hT.lt
 have hX2:=(hX.below hb1 hX.lt).below hb2 hX.lt
 have hY2:=(hY.below hb1 hY.lt).below hb2 hY.lt
 have hbw:=((hb0.step hb1).trans (hb2.mono (by omega:w.heap.size ≤ W0.heap.size)))
 have hg4:w.heap.size + 4 ≤ g:=by omega
 have hgl:=hblk.lt
 clear hO hR hW0 hT hX hY hb0 hb1 hb2 hv0 hv20 hs1
 have k0:w2.cell? ⟨g,0,none⟩ = some (.int .i64 ↑me):=hblk.cell 0
 have kf0:w2.frozen? ⟨g,0,none⟩ = false:=hblk.frozen 0
 have k1:w2.cell? ⟨g,1,none⟩ = some (.int .i64 ↑rev):=hblk.cell 1
 have kf1:w2.frozen? ⟨g,1,none⟩ = false:=hblk.frozen 1
 have k2:w2.cell? ⟨g,2,none⟩ = some (.int .i64 ↑next):=hblk.cell 2
 have kf2:w2.frozen? ⟨g,2,none⟩ = false:=hblk.frozen 2
 have k3:w2.cell? ⟨g,3,none⟩ = some (.int .i64 ↑m2):=hblk.cell 3
 have kf3:w2.frozen? ⟨g,3,none⟩ = false:=hblk.frozen 3
 have k4:w2.cell? ⟨g,4,none⟩ = some (.int .i64 ↑b2):=hblk.cell 4
 have kf4:w2.frozen? ⟨g,4,none⟩ = false:=hblk.frozen 4
 have k5:w2.cell? ⟨g,5,none⟩ = some (.int .i64 ↑m2):=hblk.cell 5
 have kf5:w2.frozen? ⟨g,5,none⟩ = false:=hblk.frozen 5
 have k6:w2.cell? ⟨g,6,none⟩ = some (.slice A2 l2.length c2):=hblk.cell 6
 have kf6:w2.frozen? ⟨g,6,none⟩ = false:=hblk.frozen 6
 have k7:w2.cell? ⟨g,7,none⟩ = some (.slice At nt ct):=hblk.cell 7
 have kf7:w2.frozen? ⟨g,7,none⟩ = false:=hblk.frozen 7
 have k8:w2.cell? ⟨g,8,none⟩ = some (.int .i64 ↑fx):=hblk.cell 8
 have kf8:w2.frozen? ⟨g,8,none⟩ = false:=hblk.frozen 8
 have k9:w2.cell? ⟨g,9,none⟩ = some (.int .i64 ↑fb):=hblk.cell 9
 have kf9:w2.frozen? ⟨g,9,none⟩ = false:=hblk.frozen 9
 have k10:w2.cell? ⟨g,10,none⟩ = some (.int .i64 ↑db):=hblk.cell 10
 have kf10:w2.frozen? ⟨g,10,none⟩ = false:=hblk.frozen 10
 have k11:w2.cell? ⟨g,11,none⟩ = some (.int .i64 ↑al):=hblk.cell 11
 have kf11:w2.frozen? ⟨g,11,none⟩ = false:=hblk.frozen 11
 have j0:w2.cell? ⟨w.heap.size + 1,0,none⟩ = some (.slice At nt ct):=hT2.cell 0
 have jf0:w2.frozen? ⟨w.heap.size + 1,0,none⟩ = false:=hT2.frozen 0
 have j1:w2.cell? ⟨w.heap.size + 1,1,none⟩ = some (.int .i64 ↑fx):=hT2.cell 1
 have jf1:w2.frozen? ⟨w.heap.size + 1,1,none⟩ = false:=hT2.frozen 1
 have j2:w2.cell? ⟨w.heap.size + 1,2,none⟩ = some (.int .i64 ↑fb):=hT2.cell 2
 have jf2:w2.frozen? ⟨w.heap.size + 1,2,none⟩ = false:=hT2.frozen 2
 have j3:w2.cell? ⟨w.heap.size + 1,3,none⟩ = some (.int .i64 ↑db):=hT2.cell 3
 have jf3:w2.frozen? ⟨w.heap.size + 1,3,none⟩ = false:=hT2.frozen 3
 have j4:w2.cell? ⟨w.heap.size + 1,4,none⟩ = some (.int .i64 ↑al):=hT2.cell 4
 have jf4:w2.frozen? ⟨w.heap.size + 1,4,none⟩ = false:=hT2.frozen 4
 have x0:w2.cell? ⟨w.heap.size + 1 + 1,0,none⟩ = some (.int .i64 0):=hX2.cell 0
 have xf0:w2.frozen? ⟨w.heap.size + 1 + 1,0,none⟩ = false:=hX2.frozen 0
 have x1:w2.cell? ⟨w.heap.size + 1 + 1,1,none⟩ = some (.int .i64 0):=hX2.cell 1
 have xf1:w2.frozen? ⟨w.heap.size + 1 + 1,1,none⟩ = false:=hX2.frozen 1
 have x2:w2.cell? ⟨w.heap.size + 1 + 1,2,none⟩ = some (.int .i64 0):=hX2.cell 2
 have xf2:w2.frozen? ⟨w.heap.size + 1 + 1,2,none⟩ = false:=hX2.frozen 2
 have x3:w2.cell? ⟨w.heap.size + 1 + 1,3,none⟩ = some (.int .i64 0):=hX2.cell 3
 have xf3:w2.frozen? ⟨w.heap.size + 1 + 1,3,none⟩ = false:=hX2.frozen 3
 have x4:w2.cell? ⟨w.heap.size + 1 + 1,4,none⟩ = some (.int .i64 0):=hX2.cell 4
 have xf4:w2.frozen? ⟨w.heap.size + 1 + 1,4,none⟩ = false:=hX2.frozen 4
 have x5:w2.cell? ⟨w.heap.size + 1 + 1,5,none⟩ = some (.int .i64 0):=hX2.cell 5
 have xf5:w2.frozen? ⟨w.heap.size + 1 + 1,5,none⟩ = false:=hX2.frozen 5
 have x6:w2.cell? ⟨w.heap.size + 1 + 1,6,none⟩ = some (.slice none 0 0):=hX2.cell 6
 have xf6:w2.frozen? ⟨w.heap.size + 1 + 1,6,none⟩ = false:=hX2.frozen 6
 have y0:w2.cell? ⟨w.heap.size + 1 + 1 + 1,0,none⟩ = some (.int .i64 0):=hY2.cell 0
 have yf0:w2.frozen? ⟨w.heap.size + 1 + 1 + 1,0,none⟩ = false:=hY2.frozen 0
 have y1:w2.cell? ⟨w.heap.size + 1 + 1 + 1,1,none⟩ = some (.int .i64 0):=hY2.cell 1
 have yf1:w2.frozen? ⟨w.heap.size + 1 + 1 + 1,1,none⟩ = false:=hY2.frozen 1
 have y2:w2.cell? ⟨w.heap.size + 1 + 1 + 1,2,none⟩ = some (.int .i64 0):=hY2.cell 2
 have yf2:w2.frozen? ⟨w.heap.size + 1 + 1 + 1,2,none⟩ = false:=hY2.frozen 2
 have y3:w2.cell? ⟨w.heap.size + 1 + 1 + 1,3,none⟩ = some (.int .i64 0):=hY2.cell 3
 have yf3:w2.frozen? ⟨w.heap.size + 1 + 1 + 1,3,none⟩ = false:=hY2.frozen 3
 have y4:w2.cell? ⟨w.heap.size + 1 + 1 + 1,4,none⟩ = some (.int .i64 0):=hY2.cell 4
 have yf4:w2.frozen? ⟨w.heap.size + 1 + 1 + 1,4,none⟩ = false:=hY2.frozen 4
 have y5:w2.cell? ⟨w.heap.size + 1 + 1 + 1,5,none⟩ = some (.int .i64 0):=hY2.cell 5
 have yf5:w2.frozen? ⟨w.heap.size + 1 + 1 + 1,5,none⟩ = false:=hY2.frozen 5
 have y6:w2.cell? ⟨w.heap.size + 1 + 1 + 1,6,none⟩ = some (.int .i64 0):=hY2.cell 6
 have yf6:w2.frozen? ⟨w.heap.size + 1 + 1 + 1,6,none⟩ = false:=hY2.frozen 6
 go_wp2_with fail
 have hE:=grEnd [(0,.int .i64 0),(1,.int .i64 0),(2,.int .i64 0),(3,.int .i64 0),(4,.int .i64 0),(5,.int .i64 0),(6,.slice none 0 0)] [(0,.int .i64 0),(1,.int .i64 0),(2,.int .i64 0),(3,.int .i64 0),(4,.int .i64 0),(5,.int .i64 0),(6,.int .i64 0)] (cs:=#[]) (g:=0) hown hX2 hY2 hbw hs0
 obtain ⟨W4,hW4⟩:∃ W4,sets (sets w2 (w.heap.size + 1 + 1) [(0,.int .i64 0),(1,.int .i64 0),(2,.int .i64 0),(3,.int .i64 0),(4,.int .i64 0),(5,.int .i64 0),(6,.slice none 0 0)]) (w.heap.size + 1 + 1 + 1) [(0,.int .i64 0),(1,.int .i64 0),(2,.int .i64 0),(3,.int .i64 0),(4,.int .i64 0),(5,.int .i64 0),(6,.int .i64 0)] = W4:=⟨_,rfl⟩
 rw [hW4] at hE
 simp only [sets,List.foldl_cons,List.foldl_nil] at hW4
 rw [hW4]
 clear hW4
 obtain ⟨hA4,hB4,ho4,hb4⟩:=hE
 have hA4:Blk W4 (w.heap.size + 1 + 1) 64 #[(),(),(),(),(),(),.slice none 0 0]:=hA4
 have hB4:Blk W4 (w.heap.size + 1 + 1 + 1) 47 #[(),(),(),(),(),(),()]:=hB4
 have r0:=hA4.cell 0
 have r1:=hA4.cell 1
 have r2:=hA4.cell 2
 have r3:=hA4.cell 3
 have r4:=hA4.cell 4
 have r5:=hA4.cell 5
 have r6:=hA4.cell 6
 have s0:=hB4.cell 0
 have s1:=hB4.cell 1
 have s2:=hB4.cell 2
 have s3:=hB4.cell 3
 have s4:=hB4.cell 4
 have s5:=hB4.cell 5
 have s6:=hB4.cell 6
 refine bodyPost_ret (v:=.tuple #[.agg #[(),(),(),(),(),(),.slice none 0 0],.agg #[(),(),(),(),(),(),()],.int .i64 21]) (by simp [results,Tryz.results99,go_sem,r0,r1,r2,r3,r4,r5,r6,s0,s1,s2,s3,s4,s5,s6];done) rfl ?_
 exact ⟨rfl,hb4⟩
theorem own_drew {w:World} {base:Nat} {e:TypeId} {size:Nat} {v:Value} {n:Nat} {xs:List Value} (h:w.ownsRow base e size v n xs):w.drew.ownsRow base e size v n xs:=h
def RetGrantO (me rev next next1 m2 b2 al:Nat) (l2:List (Nat × Nat)) (w:World) (e:Ending) (w':World):Prop :=
 ∃ (A2:Option Addr) (c2:Nat),e = .returned (.tuple #[.agg #[me,rev,next1,m2,b2,m2,.slice A2 l2.length c2],.agg #[next,(),(),(),(),(),al],()]) ∧ w'.ownsRow w.heap.size 90 2 (.slice A2 l2.length c2) l2.length (drs l2) ∧ Below w.heap.size w w'
theorem grant_own (me rev next month bought:Nat) (free:Int) (A:Option Addr) (n c:Nat) (l:List (Nat × Nat)) (At:Option Addr) (nt ct fx fb db al:Nat) (tl:List (Nat × Nat)) (m2 b2 next1:Nat) (l2:List (Nat × Nat)) (w:World)
 (hv:IsDs w (.slice A n c) l) (hl:DOk l) (ha:AOk me rev next month bought free) (hv2:IsDs w (.slice At nt ct) tl) (hl2:TOk tl) (ht:TmOk fx fb db al) (hr:Rolled month bought l m2 b2 l2) (hm:m2 ≤ 2399)
 (hal:1 ≤ al) (hfr:free ≠ (m2:Int)) (hnx:next ≤ 1048575) (hn1:Hid (next1 = next + 1)) :
 Calls Tryz.prog 99 #[.agg #[me,rev,next,month,bought,free,.slice A n c],.agg #[.slice At nt ct,fx,fb,db,al],m2] w (RetGrantO me rev next next1 m2 b2 al l2 w):=by
 have hO:=fun W h h2 => open_ok me rev next month bought free A n c l At nt ct fx fb db al tl W h hl ha h2 hl2 ht
 have hR:=fun B g W hk hB => roll_ok B g me rev next month bought free l At nt ct fx fb db al m2 b2 l2 W hk hl hB hr hm
 have hn1i:(next:Int) + 1 = (next1:Int):=by have:=hn1.out;omega
 have hn1j:(next1:Int) - 1 = (next:Int):=by omega
 have g1:((al:Int) == 0) = false:=by simp;omega
 have g2:(free == (m2:Int)) = false:=by simp;omega
 have g3:decide (1048575 < (next:Int)) = false:=by simp;omega
 have g4:IntKind.i64.wrap ((next1:Int) - 1) = (next:Int):=by rw [hn1j];exact IntWalk.i64_in _ (by omega)
 have hnx2:(next:Int) ≤ 1048575:=by omega
 have HG4:=Lib.hid g4
 obtain ⟨W0,hW0⟩:∃ W0,(((w.alloc (.cells #[me,rev,next,month,bought,free,.slice A n c] 64)).alloc (.cells #[.slice At nt ct,fx,fb,db,al] 31)).alloc (.cells #[(),(),(),(),(),(),.slice none 0 0] 64)).alloc (.cells #[(),(),(),(),(),(),()] 47) = W0:=⟨_,rfl⟩
 have hb0:Below w.heap.size w W0:=by rw [← hW0];exact below_a4 _ _ _ _ _
 have hs0:w.heap.size + 4 ≤ W0.heap.size:=by rw [← hW0];simp
 have hA0:Blk W0 w.heap.size 64 #[me,rev,next,month,bought,free,.slice A n c]:=by
  rw [← hW0];exact (((Blk.new w _ _).alloc _).alloc _).alloc _
 have hT:Blk W0 (w.heap.size + 1) 31 #[.slice At nt ct,fx,fb,db,al]:=by
  have:=((Blk.new (w.alloc (.cells #[me,rev,next,month,bought,free,.slice A n c] 64)) 31 #[.slice At nt ct,fx,fb,db,al]).alloc (.cells #[(),(),(),(),(),(),.slice none 0 0] 64)).alloc (.cells #[(),(),(),(),(),(),()] 47)
  rw [hW0] at this
  simpa using this
 have hX:Blk W0 (w.heap.size + 1 + 1) 64 #[(),(),(),(),(),(),.slice none 0 0]:=by
  have:=(Blk.new ((w.alloc (.cells #[me,rev,next,month,bought,free,.slice A n c] 64)).alloc (.cells #[.slice At nt ct,fx,fb,db,al] 31)) 64 #[(),(),(),(),(),(),.slice none 0 0]).alloc (.cells #[(),(),(),(),(),(),()] 47)
  rw [hW0] at this
  simpa using this
 have hY:Blk W0 (w.heap.size + 1 + 1 + 1) 47 #[(),(),(),(),(),(),()]:=by
  have:=Blk.new (((w.alloc (.cells #[me,rev,next,month,bought,free,.slice A n c] 64)).alloc (.cells #[.slice At nt ct,fx,fb,db,al] 31)).alloc (.cells #[(),(),(),(),(),(),.slice none 0 0] 64)) 47 #[(),(),(),(),(),(),()]
  rw [hW0] at this
  simpa using this
 have hv0:=hv.below hb0
 have hv20:=hv2.below hb0
 clear hr ha ht hl2 hv hv2 g4 hn1j
 have k0:W0.cell? ⟨w.heap.size,0,none⟩ = some (.int .i64 ↑me):=hA0.cell 0
 have kf0:W0.frozen? ⟨w.heap.size,0,none⟩ = false:=hA0.frozen 0
 have k1:W0.cell? ⟨w.heap.size,1,none⟩ = some (.int .i64 ↑rev):=hA0.cell 1
 have kf1:W0.frozen? ⟨w.heap.size,1,none⟩ = false:=hA0.frozen 1
 have k2:W0.cell? ⟨w.heap.size,2,none⟩ = some (.int .i64 ↑next):=hA0.cell 2
 have kf2:W0.frozen? ⟨w.heap.size,2,none⟩ = false:=hA0.frozen 2
 have k3:W0.cell? ⟨w.heap.size,3,none⟩ = some (.int .i64 ↑month):=hA0.cell 3
 have kf3:W0.frozen? ⟨w.heap.size,3,none⟩ = false:=hA0.frozen 3
 have k4:W0.cell? ⟨w.heap.size,4,none⟩ = some (.int .i64 ↑bought):=hA0.cell 4
 have kf4:W0.frozen? ⟨w.heap.size,4,none⟩ = false:=hA0.frozen 4
 have k5:W0.cell? ⟨w.heap.size,5,none⟩ = some (.int .i64 free):=hA0.cell 5
 have kf5:W0.frozen? ⟨w.heap.size,5,none⟩ = false:=hA0.frozen 5
 have k6:W0.cell? ⟨w.heap.size,6,none⟩ = some (.slice A n c):=hA0.cell 6
 have kf6:W0.frozen? ⟨w.heap.size,6,none⟩ = false:=hA0.frozen 6
 have j0:W0.cell? ⟨w.heap.size + 1,0,none⟩ = some (.slice At nt ct):=hT.cell 0
 have jf0:W0.frozen? ⟨w.heap.size + 1,0,none⟩ = false:=hT.frozen 0
 have j1:W0.cell? ⟨w.heap.size + 1,1,none⟩ = some (.int .i64 ↑fx):=hT.cell 1
 have jf1:W0.frozen? ⟨w.heap.size + 1,1,none⟩ = false:=hT.frozen 1
 have j2:W0.cell? ⟨w.heap.size + 1,2,none⟩ = some (.int .i64 ↑fb):=hT.cell 2
 have jf2:W0.frozen? ⟨w.heap.size + 1,2,none⟩ = false:=hT.frozen 2
 have j3:W0.cell? ⟨w.heap.size + 1,3,none⟩ = some (.int .i64 ↑db):=hT.cell 3
 have jf3:W0.frozen? ⟨w.heap.size + 1,3,none⟩ = false:=hT.frozen 3
 have j4:W0.cell? ⟨w.heap.size + 1,4,none⟩ = some (.int .i64 ↑al):=hT.cell 4
 have jf4:W0.frozen? ⟨w.heap.size + 1,4,none⟩ = false:=hT.frozen 4
 go_enter Tryz.func99,Tryz.ntmps99
 go_wp2_with fail
 refine (hO _ hv0 hv20).mono ?_
 rintro e w1 ⟨g,rfl,hk,hb1⟩
 have hs1:=hb1.size
 clear k0 k1 k2 k3 k4 k5 k6 kf0 kf1 kf2 kf3 kf4 kf5 kf6 j0 j1 j2 j3 j4 jf0 jf1 jf2 jf3 jf4 hA0
 go_wp2_with fail
 refine (hR _ g _ hk hs1).mono ?_
 rintro e w2 ⟨rfl,⟨hBg,A2,c2,hblk,hown⟩,hb2⟩
 have hT2:=(hT.below hb1 hT.lt).below hb2 hT.lt
 have hX2:=(hX.below hb1 hX.lt).below hb2 hX.lt
 have hY2:=(hY.below hb1 hY.lt).below hb2 hY.lt
 have hbw:=((hb0.step hb1).trans (hb2.mono (by omega:w.heap.size ≤ W0.heap.size)))
 have hg4:w.heap.size + 4 ≤ g:=by omega
 have hgl:=hblk.lt
 clear hO hR hW0 hT hX hY hb0 hb1 hb2 hv0 hv20 hs1
 have k0:w2.cell? ⟨g,0,none⟩ = some (.int .i64 ↑me):=hblk.cell 0
 have kf0:w2.frozen? ⟨g,0,none⟩ = false:=hblk.frozen 0
 have k1:w2.cell? ⟨g,1,none⟩ = some (.int .i64 ↑rev):=hblk.cell 1
 have kf1:w2.frozen? ⟨g,1,none⟩ = false:=hblk.frozen 1
 have k2:w2.cell? ⟨g,2,none⟩ = some (.int .i64 ↑next):=hblk.cell 2
 have kf2:w2.frozen? ⟨g,2,none⟩ = false:=hblk.frozen 2
 have k3:w2.cell? ⟨g,3,none⟩ = some (.int .i64 ↑m2):=hblk.cell 3
 have kf3:w2.frozen? ⟨g,3,none⟩ = false:=hblk.frozen 3
 have k4:w2.cell? ⟨g,4,none⟩ = some (.int .i64 ↑b2):=hblk.cell 4
 have kf4:w2.frozen? ⟨g,4,none⟩ = false:=hblk.frozen 4
 have k5:w2.cell? ⟨g,5,none⟩ = some (.int .i64 free):=hblk.cell 5
 have kf5:w2.frozen? ⟨g,5,none⟩ = false:=hblk.frozen 5
 have k6:w2.cell? ⟨g,6,none⟩ = some (.slice A2 l2.length c2):=hblk.cell 6
 have kf6:w2.frozen? ⟨g,6,none⟩ = false:=hblk.frozen 6
 have k7:w2.cell? ⟨g,7,none⟩ = some (.slice At nt ct):=hblk.cell 7
 have kf7:w2.frozen? ⟨g,7,none⟩ = false:=hblk.frozen 7
 have k8:w2.cell? ⟨g,8,none⟩ = some (.int .i64 ↑fx):=hblk.cell 8
 have kf8:w2.frozen? ⟨g,8,none⟩ = false:=hblk.frozen 8
 have k9:w2.cell? ⟨g,9,none⟩ = some (.int .i64 ↑fb):=hblk.cell 9
 have kf9:w2.frozen? ⟨g,9,none⟩ = false:=hblk.frozen 9
 have k10:w2.cell? ⟨g,10,none⟩ = some (.int .i64 ↑db):=hblk.cell 10
 have kf10:w2.frozen? ⟨g,10,none⟩ = false:=hblk.frozen 10
 have k11:w2.cell? ⟨g,11,none⟩ = some (.int .i64 ↑al):=hblk.cell 11
 have kf11:w2.frozen? ⟨g,11,none⟩ = false:=hblk.frozen 11
 have j0:w2.cell? ⟨w.heap.size + 1,0,none⟩ = some (.slice At nt ct):=hT2.cell 0
 have jf0:w2.frozen? ⟨w.heap.size + 1,0,none⟩ = false:=hT2.frozen 0
 have j1:w2.cell? ⟨w.heap.size + 1,1,none⟩ = some (.int .i64 ↑fx):=hT2.cell 1
 have jf1:w2.frozen? ⟨w.heap.size + 1,1,none⟩ = false:=hT2.frozen 1
 have j2:w2.cell? ⟨w.heap.size + 1,2,none⟩ = some (.int .i64 ↑fb):=hT2.cell 2
 have jf2:w2.frozen? ⟨w.heap.size + 1,2,none⟩ = false:=hT2.frozen 2
 have j3:w2.cell? ⟨w.heap.size + 1,3,none⟩ = some (.int .i64 ↑db):=hT2.cell 3
 have jf3:w2.frozen? ⟨w.heap.size + 1,3,none⟩ = false:=hT2.frozen 3
 have j4:w2.cell? ⟨w.heap.size + 1,4,none⟩ = some (.int .i64 ↑al):=hT2.cell 4
 have jf4:w2.frozen? ⟨w.heap.size + 1,4,none⟩ = false:=hT2.frozen 4
 go_wp2_with fail
 obtain ⟨W3,hW3⟩:∃ W3,(w2.setCell ⟨g,5,none⟩ (.int .i64 ↑m2)).setCell ⟨g,2,none⟩ (.int .i64 ↑next1) = W3:=⟨_,rfl⟩
 rw [hW3]
 have q1:Blk W3 g 130 #[me,rev,next1,m2,b2,m2,.slice A2 l2.length c2,.slice At nt ct,fx,fb,db,al]:=by rw [← hW3];exact (hblk.set_ 5 (.int .i64 ↑m2)).set_ 2 (.int .i64 ↑next1)
 have q2:Blk W3 (w.heap.size + 1) 31 #[.slice At nt ct,fx,fb,db,al]:=by rw [← hW3];exact (hT2.far (p:=⟨g,5,none⟩) (by show w.heap.size + 1 ≠ g;omega) _).far (p:=⟨g,2,none⟩) (by show w.heap.size + 1 ≠ g;omega) _
 have q3:Blk W3 (w.heap.size + 1 + 1) 64 #[(),(),(),(),(),(),.slice none 0 0]:=by rw [← hW3];exact (hX2.far (p:=⟨g,5,none⟩) (by show w.heap.size + 1 + 1 ≠ g;omega) _).far (p:=⟨g,2,none⟩) (by show w.heap.size + 1 + 1 ≠ g;omega) _
 have q4:Blk W3 (w.heap.size + 1 + 1 + 1) 47 #[(),(),(),(),(),(),()]:=by rw [← hW3];exact (hY2.far (p:=⟨g,5,none⟩) (by show w.heap.size + 1 + 1 + 1 ≠ g;omega) _).far (p:=⟨g,2,none⟩) (by show w.heap.size + 1 + 1 + 1 ≠ g;omega) _
 have q5:W3.ownsRow W0.heap.size 90 2 (.slice A2 l2.length c2) l2.length (drs l2):=by
  rw [← hW3]
  have h1:=own_other (p:=⟨g,5,none⟩) hown (blk_not_row hblk (by decide) hown) (.int .i64 ↑m2)
  exact own_other (p:=⟨g,2,none⟩) h1 (blk_not_row (hblk.set_ 5 (.int .i64 ↑m2)) (by decide) h1) _
 have q6:Below w.heap.size w W3:=by rw [← hW3];exact (hbw.setCell (p:=⟨g,5,none⟩) (by show w.heap.size ≤ g;omega) _).setCell (p:=⟨g,2,none⟩) (by show w.heap.size ≤ g;omega) _
 have hE:=grEnd [(0,.int .i64 ↑me),(1,.int .i64 ↑rev),(2,.int .i64 ↑next1),(3,.int .i64 ↑m2),(4,.int .i64 ↑b2),(5,.int .i64 ↑m2),(6,.slice A2 l2.length c2)] [(0,.int .i64 ↑next),(1,.int .i64 0),(2,.int .i64 0),(3,.int .i64 0),(4,.int .i64 0),(5,.int .i64 0),(6,.int .i64 ↑al)] (cs:=#[]) (g:=0) q5 q3 q4 q6 hs0
 clear k0 k1 k2 k3 k4 k5 k6 k7 k8 k9 k10 k11 kf0 kf1 kf2 kf3 kf4 kf5 kf6 kf7 kf8 kf9 kf10 kf11 j0 j1 j2 j3 j4 jf0 jf1 jf2 jf3 jf4 hW3 hblk hT2 hX2 hY2 hown hbw
 have k0:W3.cell? ⟨g,0,none⟩ = some (.int .i64 ↑me):=q1.cell 0
 have kf0:W3.frozen? ⟨g,0,none⟩ = false:=q1.frozen 0
 have k1:W3.cell? ⟨g,1,none⟩ = some (.int .i64 ↑rev):=q1.cell 1
 have kf1:W3.frozen? ⟨g,1,none⟩ = false:=q1.frozen 1
 have k2:W3.cell? ⟨g,2,none⟩ = some (.int .i64 ↑next1):=q1.cell 2
 have kf2:W3.frozen? ⟨g,2,none⟩ = false:=q1.frozen 2
 have k3:W3.cell? ⟨g,3,none⟩ = some (.int .i64 ↑m2):=q1.cell 3
 have kf3:W3.frozen? ⟨g,3,none⟩ = false:=q1.frozen 3
 have k4:W3.cell? ⟨g,4,none⟩ = some (.int .i64 ↑b2):=q1.cell 4
 have kf4:W3.frozen? ⟨g,4,none⟩ = false:=q1.frozen 4
 have k5:W3.cell? ⟨g,5,none⟩ = some (.int .i64 ↑m2):=q1.cell 5
 have kf5:W3.frozen? ⟨g,5,none⟩ = false:=q1.frozen 5
 have k6:W3.cell? ⟨g,6,none⟩ = some (.slice A2 l2.length c2):=q1.cell 6
 have kf6:W3.frozen? ⟨g,6,none⟩ = false:=q1.frozen 6
 have k7:W3.cell? ⟨g,7,none⟩ = some (.slice At nt ct):=q1.cell 7
 have kf7:W3.frozen? ⟨g,7,none⟩ = false:=q1.frozen 7
 have k8:W3.cell? ⟨g,8,none⟩ = some (.int .i64 ↑fx):=q1.cell 8
 have kf8:W3.frozen? ⟨g,8,none⟩ = false:=q1.frozen 8
 have k9:W3.cell? ⟨g,9,none⟩ = some (.int .i64 ↑fb):=q1.cell 9
 have kf9:W3.frozen? ⟨g,9,none⟩ = false:=q1.frozen 9
 have k10:W3.cell? ⟨g,10,none⟩ = some (.int .i64 ↑db):=q1.cell 10
 have kf10:W3.frozen? ⟨g,10,none⟩ = false:=q1.frozen 10
 have k11:W3.cell? ⟨g,11,none⟩ = some (.int .i64 ↑al):=q1.cell 11
 have kf11:W3.frozen? ⟨g,11,none⟩ = false:=q1.frozen 11
 have j0:W3.cell? ⟨w.heap.size + 1,0,none⟩ = some (.slice At nt ct):=q2.cell 0
 have jf0:W3.frozen? ⟨w.heap.size + 1,0,none⟩ = false:=q2.frozen 0
 have j1:W3.cell? ⟨w.heap.size + 1,1,none⟩ = some (.int .i64 ↑fx):=q2.cell 1
 have jf1:W3.frozen? ⟨w.heap.size + 1,1,none⟩ = false:=q2.frozen 1
 have j2:W3.cell? ⟨w.heap.size + 1,2,none⟩ = some (.int .i64 ↑fb):=q2.cell 2
 have jf2:W3.frozen? ⟨w.heap.size + 1,2,none⟩ = false:=q2.frozen 2
 have j3:W3.cell? ⟨w.heap.size + 1,3,none⟩ = some (.int .i64 ↑db):=q2.cell 3
 have jf3:W3.frozen? ⟨w.heap.size + 1,3,none⟩ = false:=q2.frozen 3
 have j4:W3.cell? ⟨w.heap.size + 1,4,none⟩ = some (.int .i64 ↑al):=q2.cell 4
 have jf4:W3.frozen? ⟨w.heap.size + 1,4,none⟩ = false:=q2.frozen 4
 have x0:W3.cell? ⟨w.heap.size + 1 + 1,0,none⟩ = some (.int .i64 0):=q3.cell 0
 have xf0:W3.frozen? ⟨w.heap.size + 1 + 1,0,none⟩ = false:=q3.frozen 0
 have x1:W3.cell? ⟨w.heap.size + 1 + 1,1,none⟩ = some (.int .i64 0):=q3.cell 1
 have xf1:W3.frozen? ⟨w.heap.size + 1 + 1,1,none⟩ = false:=q3.frozen 1
 have x2:W3.cell? ⟨w.heap.size + 1 + 1,2,none⟩ = some (.int .i64 0):=q3.cell 2
 have xf2:W3.frozen? ⟨w.heap.size + 1 + 1,2,none⟩ = false:=q3.frozen 2
 have x3:W3.cell? ⟨w.heap.size + 1 + 1,3,none⟩ = some (.int .i64 0):=q3.cell 3
 have xf3:W3.frozen? ⟨w.heap.size + 1 + 1,3,none⟩ = false:=q3.frozen 3
 have x4:W3.cell? ⟨w.heap.size + 1 + 1,4,none⟩ = some (.int .i64 0):=q3.cell 4
 have xf4:W3.frozen? ⟨w.heap.size + 1 + 1,4,none⟩ = false:=q3.frozen 4
 have x5:W3.cell? ⟨w.heap.size + 1 + 1,5,none⟩ = some (.int .i64 0):=q3.cell 5
 have xf5:W3.frozen? ⟨w.heap.size + 1 + 1,5,none⟩ = false:=q3.frozen 5
 have x6:W3.cell? ⟨w.heap.size + 1 + 1,6,none⟩ = some (.slice none 0 0):=q3.cell 6
 have xf6:W3.frozen? ⟨w.heap.size + 1 + 1,6,none⟩ = false:=q3.frozen 6
 have y0:W3.cell? ⟨w.heap.size + 1 + 1 + 1,0,none⟩ = some (.int .i64 0):=q4.cell 0
 have yf0:W3.frozen? ⟨w.heap.size + 1 + 1 + 1,0,none⟩ = false:=q4.frozen 0
 have y1:W3.cell? ⟨w.heap.size + 1 + 1 + 1,1,none⟩ = some (.int .i64 0):=q4.cell 1
 have yf1:W3.frozen? ⟨w.heap.size + 1 + 1 + 1,1,none⟩ = false:=q4.frozen 1
 have y2:W3.cell? ⟨w.heap.size + 1 + 1 + 1,2,none⟩ = some (.int .i64 0):=q4.cell 2
 have yf2:W3.frozen? ⟨w.heap.size + 1 + 1 + 1,2,none⟩ = false:=q4.frozen 2
 have y3:W3.cell? ⟨w.heap.size + 1 + 1 + 1,3,none⟩ = some (.int .i64 0):=q4.cell 3
 have yf3:W3.frozen? ⟨w.heap.size + 1 + 1 + 1,3,none⟩ = false:=q4.frozen 3
 have y4:W3.cell? ⟨w.heap.size + 1 + 1 + 1,4,none⟩ = some (.int .i64 0):=q4.cell 4
 have yf4:W3.frozen? ⟨w.heap.size + 1 + 1 + 1,4,none⟩ = false:=q4.frozen 4
 have y5:W3.cell? ⟨w.heap.size + 1 + 1 + 1,5,none⟩ = some (.int .i64 0):=q4.cell 5
 have yf5:W3.frozen? ⟨w.heap.size + 1 + 1 + 1,5,none⟩ = false:=q4.frozen 5
 have y6:W3.cell? ⟨w.heap.size + 1 + 1 + 1,6,none⟩ = some (.int .i64 0):=q4.cell 6
 have yf6:W3.frozen? ⟨w.heap.size + 1 + 1 + 1,6,none⟩ = false:=q4.frozen 6
 have n1:g ≠ w.heap.size + 1 + 1:=by omega
 have n2:g ≠ w.heap.size + 1 + 1 + 1:=by omega
 have n3:w.heap.size + 1 + 1 ≠ g:=by omega
 have n4:w.heap.size + 1 + 1 + 1 ≠ g:=by omega
 have g4:=HG4.out
 have HS0:=Lib.hid hs0
 clear hs0 hg4 hBg
 go_region
 obtain ⟨W4,hW4⟩:∃ W4,sets (sets W3 (w.heap.size + 1 + 1) [(0,.int .i64 ↑me),(1,.int .i64 ↑rev),(2,.int .i64 ↑next1),(3,.int .i64 ↑m2),(4,.int .i64 ↑b2),(5,.int .i64 ↑m2),(6,.slice A2 l2.length c2)]) (w.heap.size + 1 + 1 + 1) [(0,.int .i64 ↑next),(1,.int .i64 0),(2,.int .i64 0),(3,.int .i64 0),(4,.int .i64 0),(5,.int .i64 0),(6,.int .i64 ↑al)] = W4:=⟨_,rfl⟩
 rw [hW4] at hE
 simp only [sets,List.foldl_cons,List.foldl_nil] at hW4
 rw [hW4]
 clear hW4
 obtain ⟨hA4,hB4,ho4,hb4⟩:=hE
 have hA4:Blk W4 (w.heap.size + 1 + 1) 64 #[me,rev,next1,m2,b2,m2,.slice A2 l2.length c2]:=hA4
 have hB4:Blk W4 (w.heap.size + 1 + 1 + 1) 47 #[next,(),(),(),(),(),al]:=hB4
 have r0:=hA4.cell 0
 have r1:=hA4.cell 1
 have r2:=hA4.cell 2
 have r3:=hA4.cell 3
 have r4:=hA4.cell 4
 have r5:=hA4.cell 5
 have r6:=hA4.cell 6
 have s0:=hB4.cell 0
 have s1:=hB4.cell 1
 have s2:=hB4.cell 2
 have s3:=hB4.cell 3
 have s4:=hB4.cell 4
 have s5:=hB4.cell 5
 have s6:=hB4.cell 6
 have hd4:=isds_own (l:=l2) rfl ho4
 clear k0 k1 k2 k3 k4 k5 k6 k7 k8 k9 k10 k11 kf0 kf1 kf2 kf3 kf4 kf5 kf6 kf7 kf8 kf9 kf10 kf11 j0 j1 j2 j3 j4 jf0 jf1 jf2 jf3 jf4 x0 x1 x2 x3 x4 x5 x6 xf0 xf1 xf2 xf3 xf4 xf5 xf6 y0 y1 y2 y3 y4 y5 y6 yf0 yf1 yf2 yf3 yf4 yf5 yf6
 go_wp2
 refine bodyPost_ret (v:=.tuple #[.agg #[me,rev,next1,m2,b2,m2,.slice A2 l2.length c2],.agg #[next,(),(),(),(),(),al],()]) (by simp [results,Tryz.results99,go_sem,r0,r1,r2,r3,r4,r5,r6,s0,s1,s2,s3,s4,s5,s6];done) rfl ?_
 exact ⟨A2,c2,rfl,own_mono (own_drew ho4) (by have:=HS0.out;omega),below_drew hb4⟩
end Go.Proofs.YtfgiehkfcoodbaaGreat

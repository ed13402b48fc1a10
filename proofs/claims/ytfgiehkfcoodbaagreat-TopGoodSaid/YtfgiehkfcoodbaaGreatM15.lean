/- account: (clerk).sell. -/
import Derived.Test.YtfgiehkfcoodbaaGreatM0
import Derived.Test.YtfgiehkfcoodbaaGreatM11
import Derived.Test.YtfgiehkfcoodbaaGreatM7
import Derived.Test.YtfgiehkfcoodbaaGreatM14
import Derived.BigRegion
import Derived.Test.YtfgiehkfcoodbaaGreatM4
namespace Go.Proofs.YtfgiehkfcoodbaaGreat
open Go.RowKit
set_option linter.unusedVariables false
set_option maxRecDepth 100000
set_option maxHeartbeats 16000000
theorem sellEnd {w w0 W1 W7:World} {g:Nat} {cs:Array Value} {A1:Option Addr} {c1:Nat} {out:List (Nat × Nat)} (ps:List (Nat × Value)) (h1:Blk W7 g 130 cs) (h2:Blk W7 w.heap.size 47 #[(),(),(),(),(),(),()]) (h4:W7.ownsRow W1.heap.size 90 2 (.slice A1 out.length c1) out.length (drs out)) (h5:Below w0.heap.size w0 W7)
 (hBg:w0.heap.size ≤ g) (hw:w0.heap.size ≤ w.heap.size) (hgw:g < w.heap.size) (hg1:g < W1.heap.size) (hw1:w.heap.size < W1.heap.size) (nx:Int) :
 Blk (sets (W7.setCell ⟨g,2,none⟩ (.int .i64 nx)) w.heap.size ps) g 130 (cs.setIfInBounds 2 (.int .i64 nx)) ∧ Blk (sets (W7.setCell ⟨g,2,none⟩ (.int .i64 nx)) w.heap.size ps) w.heap.size 47 (ps.foldl (fun cs p => cs.setIfInBounds p.1 p.2) #[(),(),(),(),(),(),()]) ∧
  (sets (W7.setCell ⟨g,2,none⟩ (.int .i64 nx)) w.heap.size ps).ownsRow W1.heap.size 90 2 (.slice A1 out.length c1) out.length (drs out) ∧ Below w0.heap.size w0 (sets (W7.setCell ⟨g,2,none⟩ (.int .i64 nx)) w.heap.size ps) :=
 ⟨Blk.sets_far (by omega) ps (h1.set_ 2 _),Blk.sets ps (h2.far (p:=⟨g,2,none⟩) (by show w.heap.size ≠ g;omega) _),own_sets hw1 ps (own_far (p:=⟨g,2,none⟩) h4 hg1 _),below_sets hw ps (h5.setCell (p:=⟨g,2,none⟩) hBg _)⟩
structure Sale (l tl:List (Nat × Nat)) (bought fx fb db t S paid f0 F left U P:Nat) (out:List (Nat × Nat)):Prop where
 h1:1 ≤ t
 h2:t ≤ 100000000
 h3:(t:Int) * (db:Int) / 10000 = (S:Int)
 h4:recov S l = (paid,out)
 h5:(t:Int) * (fb:Int) / 10000 = (f0:Int)
 h6:F = fx + f0
 h7:(left:Int) = (t:Int) - (paid:Int) - (F:Int)
 h8:most (pcs tl bought) left 0 0 = (U,P)
theorem sell_yes (g me rev next month bought:Nat) (free:Int) (l:List (Nat × Nat)) (At:Option Addr) (nt ct fx fb db al:Nat) (tl:List (Nat × Nat)) (t S paid f0 F left U P:Nat) (out:List (Nat × Nat)) (next1 bought2 ch:Nat) (w0 w:World)
 (hk:Ck w0.heap.size w g me rev next month bought free l At nt ct fx fb db al) (hl:DOk l) (hw0:Below w0.heap.size w0 w) (hvt:IsDs w0 (.slice At nt ct) tl) (hT:TOk tl) (htm:TmOk fx fb db al) (hbo:bought ≤ 10000000)
 (hS:Sale l tl bought fx fb db t S paid f0 F left U P out) (hU:1 ≤ U) (hnx:next ≤ 1048575) (hn1:Hid (next1 = next + 1)) (hb2:Hid (bought2 = bought + U)) (hch:Hid (P + ch = left)) :
 Calls Tryz.prog 39 #[.pointer (some ⟨g,0,none⟩),t] w fun e w' =>
  e = .returned (.tuple #[.agg #[next,t,paid,F,P,ch,U],()]) ∧ Ck w0.heap.size w' g me rev next1 month bought2 free out At nt ct fx fb db al ∧ Below w0.heap.size w0 w':=by
 obtain ⟨t1,t9,s1,s2,s3,s4,s5,s6⟩:=hS
 obtain ⟨hBg,A,c,hblk,hown⟩:=hk
 have hS2:S ≤ 100000000:=by
  have h1:=htm.h3
  have:t * db ≤ 100000000 * 10000:=Nat.mul_le_mul t9 h1
  have h2:(t:Int) * (db:Int) ≤ 100000000 * 10000:=by rw [← Int.natCast_mul];omega
  omega
 have hR:=fun W h => recover_own_is (.slice A l.length c) l t db S paid out W h hl t9 htm.h3 (Lib.hid s1) hS2 (Lib.hid s2)
 have hFe:=fun W => part_is (a:=(t:Int)) (b:=(fb:Int)) (s:=(f0:Int)) W (Lib.hid s3) (by omega) (by omega) (by omega) (by have:=htm.h2;omega)
 have hM:=fun W h => most_ok (.slice At nt ct) tl bought left U P W h hT hbo (by omega) (Lib.hid s6)
 obtain ⟨m1,m2,m3,m4,_⟩:=most_law hT hbo s6
 have S4:=Lib.hid s4
 have S5:=Lib.hid s5
 have hgl:=hblk.lt
 have hs0:=hw0.size
 obtain ⟨W1,hW1⟩:∃ W1,(w.alloc (.cells #[(),(),(),(),(),(),()] 47)).alloc (.cells #[next,t,(),(),(),(),()] 47) = W1:=⟨_,rfl⟩
 have k1:Blk W1 g 130 #[me,rev,next,month,bought,free,.slice A l.length c,.slice At nt ct,fx,fb,db,al]:=by rw [← hW1];exact (hblk.alloc _).alloc _
 have k2:Blk W1 w.heap.size 47 #[(),(),(),(),(),(),()]:=by rw [← hW1];exact (Blk.new w _ _).alloc _
 have k3:Blk W1 (w.heap.size + 1) 47 #[next,t,(),(),(),(),()]:=by
  have:=Blk.new (w.alloc (.cells #[(),(),(),(),(),(),()] 47)) 47 #[next,t,(),(),(),(),()]
  rw [hW1] at this
  simpa using this
 have k4:W1.ownsRow w0.heap.size 90 2 (.slice A l.length c) l.length (drs l):=by rw [← hW1];exact (hown.alloc _).alloc _
 have k5:Below w0.heap.size w0 W1:=by rw [← hW1];exact (hw0.alloc hs0 _).alloc (by simp;omega) _
 have hs1:w.heap.size + 1 < W1.heap.size:=k3.lt
 have hv:IsDs W1.drew (.slice A l.length c) l:=isds_own (w:=W1.drew) rfl k4
 have n0:g ≠ w.heap.size + 1:=by omega
 have n9:w.heap.size + 1 ≠ g:=by omega
 clear s1 s2 s3 s4 s5 s6 hown
 have i0:w.cell? ⟨g,0,none⟩ = some (.int .i64 ↑me):=hblk.cell 0
 have if0:w.frozen? ⟨g,0,none⟩ = false:=hblk.frozen 0
 have i1:w.cell? ⟨g,1,none⟩ = some (.int .i64 ↑rev):=hblk.cell 1
 have if1:w.frozen? ⟨g,1,none⟩ = false:=hblk.frozen 1
 have i2:w.cell? ⟨g,2,none⟩ = some (.int .i64 ↑next):=hblk.cell 2
 have if2:w.frozen? ⟨g,2,none⟩ = false:=hblk.frozen 2
 have i3:w.cell? ⟨g,3,none⟩ = some (.int .i64 ↑month):=hblk.cell 3
 have if3:w.frozen? ⟨g,3,none⟩ = false:=hblk.frozen 3
 have i4:w.cell? ⟨g,4,none⟩ = some (.int .i64 ↑bought):=hblk.cell 4
 have if4:w.frozen? ⟨g,4,none⟩ = false:=hblk.frozen 4
 have i5:w.cell? ⟨g,5,none⟩ = some (.int .i64 free):=hblk.cell 5
 have if5:w.frozen? ⟨g,5,none⟩ = false:=hblk.frozen 5
 have i6:w.cell? ⟨g,6,none⟩ = some (.slice A l.length c):=hblk.cell 6
 have if6:w.frozen? ⟨g,6,none⟩ = false:=hblk.frozen 6
 have i7:w.cell? ⟨g,7,none⟩ = some (.slice At nt ct):=hblk.cell 7
 have if7:w.frozen? ⟨g,7,none⟩ = false:=hblk.frozen 7
 have i8:w.cell? ⟨g,8,none⟩ = some (.int .i64 ↑fx):=hblk.cell 8
 have if8:w.frozen? ⟨g,8,none⟩ = false:=hblk.frozen 8
 have i9:w.cell? ⟨g,9,none⟩ = some (.int .i64 ↑fb):=hblk.cell 9
 have if9:w.frozen? ⟨g,9,none⟩ = false:=hblk.frozen 9
 have i10:w.cell? ⟨g,10,none⟩ = some (.int .i64 ↑db):=hblk.cell 10
 have if10:w.frozen? ⟨g,10,none⟩ = false:=hblk.frozen 10
 have i11:w.cell? ⟨g,11,none⟩ = some (.int .i64 ↑al):=hblk.cell 11
 have if11:w.frozen? ⟨g,11,none⟩ = false:=hblk.frozen 11
 have HW1:=Lib.hid hW1
 clear hW1
 go_enter Tryz.func39,Tryz.ntmps39
 go_wp2_with (go_at_call 62;refine (within_yes _ _ _ _ (by omega) (by omega)).mono ?_;rintro e w' ⟨rfl,rfl⟩)
 rw [HW1.out]
 clear HW1 i0 i1 i2 i3 i4 i5 i6 i7 i8 i9 i10 i11 if0 if1 if2 if3 if4 if5 if6 if7 if8 if9 if10 if11 hblk
 have i0:W1.cell? ⟨g,0,none⟩ = some (.int .i64 ↑me):=k1.cell 0
 have if0:W1.frozen? ⟨g,0,none⟩ = false:=k1.frozen 0
 have i1:W1.cell? ⟨g,1,none⟩ = some (.int .i64 ↑rev):=k1.cell 1
 have if1:W1.frozen? ⟨g,1,none⟩ = false:=k1.frozen 1
 have i2:W1.cell? ⟨g,2,none⟩ = some (.int .i64 ↑next):=k1.cell 2
 have if2:W1.frozen? ⟨g,2,none⟩ = false:=k1.frozen 2
 have i3:W1.cell? ⟨g,3,none⟩ = some (.int .i64 ↑month):=k1.cell 3
 have if3:W1.frozen? ⟨g,3,none⟩ = false:=k1.frozen 3
 have i4:W1.cell? ⟨g,4,none⟩ = some (.int .i64 ↑bought):=k1.cell 4
 have if4:W1.frozen? ⟨g,4,none⟩ = false:=k1.frozen 4
 have i5:W1.cell? ⟨g,5,none⟩ = some (.int .i64 free):=k1.cell 5
 have if5:W1.frozen? ⟨g,5,none⟩ = false:=k1.frozen 5
 have i6:W1.cell? ⟨g,6,none⟩ = some (.slice A l.length c):=k1.cell 6
 have if6:W1.frozen? ⟨g,6,none⟩ = false:=k1.frozen 6
 have i7:W1.cell? ⟨g,7,none⟩ = some (.slice At nt ct):=k1.cell 7
 have if7:W1.frozen? ⟨g,7,none⟩ = false:=k1.frozen 7
 have i8:W1.cell? ⟨g,8,none⟩ = some (.int .i64 ↑fx):=k1.cell 8
 have if8:W1.frozen? ⟨g,8,none⟩ = false:=k1.frozen 8
 have i9:W1.cell? ⟨g,9,none⟩ = some (.int .i64 ↑fb):=k1.cell 9
 have if9:W1.frozen? ⟨g,9,none⟩ = false:=k1.frozen 9
 have i10:W1.cell? ⟨g,10,none⟩ = some (.int .i64 ↑db):=k1.cell 10
 have if10:W1.frozen? ⟨g,10,none⟩ = false:=k1.frozen 10
 have i11:W1.cell? ⟨g,11,none⟩ = some (.int .i64 ↑al):=k1.cell 11
 have if11:W1.frozen? ⟨g,11,none⟩ = false:=k1.frozen 11
 go_region_with ((go_at_call 64;(with_reducible refine (hR _ hv).mono ?_);rintro e w2 ⟨A1,c1,rfl,hown1,hb1⟩;have z1:=Blk.below (w:=W1.drew) k1 hb1 (show g < W1.heap.size from k1.lt);have z2:=Blk.below (w:=W1.drew) k2 hb1 (show w.heap.size < W1.heap.size from k2.lt);have z3:=Blk.below (w:=W1.drew) k3 hb1 (show w.heap.size + 1 < W1.heap.size from k3.lt);have q6:=z1.cell 6;have qf6:=z1.frozen 6;have q2:=z3.cell 2;have qf2:=z3.frozen 2))
 all_goals
  obtain ⟨W2,hW2⟩:∃ W2,(w2.setCell ⟨g,6,none⟩ (.slice A1 out.length c1)).setCell ⟨w.heap.size + 1,2,none⟩ (.int .i64 ↑paid) = W2:=⟨_,rfl⟩
  rw [hW2]
  have y1:Blk W2 g 130 #[me,rev,next,month,bought,free,.slice A1 out.length c1,.slice At nt ct,fx,fb,db,al]:=by rw [← hW2];exact (z1.set_ 6 (.slice A1 out.length c1)).far (p:=⟨w.heap.size + 1,2,none⟩) n0 _
  have y2:Blk W2 w.heap.size 47 #[(),(),(),(),(),(),()]:=by rw [← hW2];exact (z2.far (p:=⟨g,6,none⟩) (by show w.heap.size ≠ g;omega) _).far (p:=⟨w.heap.size + 1,2,none⟩) (by show w.heap.size ≠ w.heap.size + 1;omega) _
  have y3:Blk W2 (w.heap.size + 1) 47 #[next,t,paid,(),(),(),()]:=by rw [← hW2];exact (z3.far (p:=⟨g,6,none⟩) n9 _).set_ 2 (.int .i64 ↑paid)
  have y4:W2.ownsRow W1.heap.size 90 2 (.slice A1 out.length c1) out.length (drs out):=by
   rw [← hW2]
   exact own_far (p:=⟨w.heap.size + 1,2,none⟩) (own_far (p:=⟨g,6,none⟩) hown1 (show g < W1.heap.size from k1.lt) _) (show w.heap.size + 1 < W1.heap.size from k3.lt) _
  have y5:Below w0.heap.size w0 W2:=by
   rw [← hW2]
   exact (((below_draws k5 1).trans (hb1.mono (show w0.heap.size ≤ W1.heap.size from k5.size))).setCell (p:=⟨g,6,none⟩) hBg _).setCell (p:=⟨w.heap.size + 1,2,none⟩) (by show w0.heap.size ≤ w.heap.size + 1;omega) _
  have hg1:g < W1.heap.size:=k1.lt
  have hF1:(fx:Int) + (f0:Int) = (F:Int):=by have:=S4.out;omega
  have hF2:(t:Int) - (paid:Int) - (F:Int) = (left:Int):=S5.out.symm
  have hF3:(left:Int) ≤ 100000000:=by have:=S5.out;omega
  have hF4:(F:Int) ≤ 100000000:=by have:=S5.out;omega
  have hF5:(paid:Int) ≤ 100000000:=by have:=S5.out;omega
  clear q6 qf6 q2 qf2 i0 i1 i2 i3 i4 i5 i6 i7 i8 i9 i10 i11 if0 if1 if2 if3 if4 if5 if6 if7 if8 if9 if10 if11 z1 z2 z3 hown1 hb1 k1 k2 k3 k4 k5 hW2 hv hR
  have i0:W2.cell? ⟨g,0,none⟩ = some (.int .i64 ↑me):=y1.cell 0
  have if0:W2.frozen? ⟨g,0,none⟩ = false:=y1.frozen 0
  have i1:W2.cell? ⟨g,1,none⟩ = some (.int .i64 ↑rev):=y1.cell 1
  have if1:W2.frozen? ⟨g,1,none⟩ = false:=y1.frozen 1
  have i2:W2.cell? ⟨g,2,none⟩ = some (.int .i64 ↑next):=y1.cell 2
  have if2:W2.frozen? ⟨g,2,none⟩ = false:=y1.frozen 2
  have i3:W2.cell? ⟨g,3,none⟩ = some (.int .i64 ↑month):=y1.cell 3
  have if3:W2.frozen? ⟨g,3,none⟩ = false:=y1.frozen 3
  have i4:W2.cell? ⟨g,4,none⟩ = some (.int .i64 ↑bought):=y1.cell 4
  have if4:W2.frozen? ⟨g,4,none⟩ = false:=y1.frozen 4
  have i5:W2.cell? ⟨g,5,none⟩ = some (.int .i64 free):=y1.cell 5
  have if5:W2.frozen? ⟨g,5,none⟩ = false:=y1.frozen 5
  have i6:W2.cell? ⟨g,6,none⟩ = some (.slice A1 out.length c1):=y1.cell 6
  have if6:W2.frozen? ⟨g,6,none⟩ = false:=y1.frozen 6
  have i7:W2.cell? ⟨g,7,none⟩ = some (.slice At nt ct):=y1.cell 7
  have if7:W2.frozen? ⟨g,7,none⟩ = false:=y1.frozen 7
  have i8:W2.cell? ⟨g,8,none⟩ = some (.int .i64 ↑fx):=y1.cell 8
  have if8:W2.frozen? ⟨g,8,none⟩ = false:=y1.frozen 8
  have i9:W2.cell? ⟨g,9,none⟩ = some (.int .i64 ↑fb):=y1.cell 9
  have if9:W2.frozen? ⟨g,9,none⟩ = false:=y1.frozen 9
  have i10:W2.cell? ⟨g,10,none⟩ = some (.int .i64 ↑db):=y1.cell 10
  have if10:W2.frozen? ⟨g,10,none⟩ = false:=y1.frozen 10
  have i11:W2.cell? ⟨g,11,none⟩ = some (.int .i64 ↑al):=y1.cell 11
  have if11:W2.frozen? ⟨g,11,none⟩ = false:=y1.frozen 11
  have j0:W2.cell? ⟨w.heap.size + 1,0,none⟩ = some (.int .i64 ↑next):=y3.cell 0
  have jf0:W2.frozen? ⟨w.heap.size + 1,0,none⟩ = false:=y3.frozen 0
  have j1:W2.cell? ⟨w.heap.size + 1,1,none⟩ = some (.int .i64 ↑t):=y3.cell 1
  have jf1:W2.frozen? ⟨w.heap.size + 1,1,none⟩ = false:=y3.frozen 1
  have j2:W2.cell? ⟨w.heap.size + 1,2,none⟩ = some (.int .i64 ↑paid):=y3.cell 2
  have jf2:W2.frozen? ⟨w.heap.size + 1,2,none⟩ = false:=y3.frozen 2
  have j3:W2.cell? ⟨w.heap.size + 1,3,none⟩ = some (.int .i64 0):=y3.cell 3
  have jf3:W2.frozen? ⟨w.heap.size + 1,3,none⟩ = false:=y3.frozen 3
  have j4:W2.cell? ⟨w.heap.size + 1,4,none⟩ = some (.int .i64 0):=y3.cell 4
  have jf4:W2.frozen? ⟨w.heap.size + 1,4,none⟩ = false:=y3.frozen 4
  have j5:W2.cell? ⟨w.heap.size + 1,5,none⟩ = some (.int .i64 0):=y3.cell 5
  have jf5:W2.frozen? ⟨w.heap.size + 1,5,none⟩ = false:=y3.frozen 5
  have j6:W2.cell? ⟨w.heap.size + 1,6,none⟩ = some (.int .i64 0):=y3.cell 6
  have jf6:W2.frozen? ⟨w.heap.size + 1,6,none⟩ = false:=y3.frozen 6
  go_wp2_with (go_at_call 65;with_reducible refine (hFe _).mono ?_;rintro e w' ⟨rfl,rfl⟩)
  obtain ⟨W3,hW3⟩:∃ W3,W2.setCell ⟨w.heap.size + 1,3,none⟩ (.int .i64 ↑F) = W3:=⟨_,rfl⟩
  rw [hW3]
  have x1:Blk W3 g 130 #[me,rev,next,month,bought,free,.slice A1 out.length c1,.slice At nt ct,fx,fb,db,al]:=by rw [← hW3];exact y1.far (p:=⟨w.heap.size + 1,3,none⟩) n0 _
  have x2:Blk W3 w.heap.size 47 #[(),(),(),(),(),(),()]:=by rw [← hW3];exact y2.far (p:=⟨w.heap.size + 1,3,none⟩) (by show w.heap.size ≠ w.heap.size + 1;omega) _
  have x3:Blk W3 (w.heap.size + 1) 47 #[next,t,paid,F,(),(),()]:=by rw [← hW3];exact y3.set_ 3 (.int .i64 ↑F)
  have x4:W3.ownsRow W1.heap.size 90 2 (.slice A1 out.length c1) out.length (drs out):=by rw [← hW3];exact own_far (p:=⟨w.heap.size + 1,3,none⟩) y4 hs1 _
  have x5:Below w0.heap.size w0 W3:=by rw [← hW3];exact y5.setCell (p:=⟨w.heap.size + 1,3,none⟩) (by show w0.heap.size ≤ w.heap.size + 1;omega) _
  clear i0 i1 i2 i3 i4 i5 i6 i7 i8 i9 i10 i11 if0 if1 if2 if3 if4 if5 if6 if7 if8 if9 if10 if11 j0 j1 j2 j3 j4 j5 j6 jf0 jf1 jf2 jf3 jf4 jf5 jf6 y1 y2 y3 y4 y5 hW3 hFe hF1 hF2
  have i0:W3.cell? ⟨g,0,none⟩ = some (.int .i64 ↑me):=x1.cell 0
  have if0:W3.frozen? ⟨g,0,none⟩ = false:=x1.frozen 0
  have i1:W3.cell? ⟨g,1,none⟩ = some (.int .i64 ↑rev):=x1.cell 1
  have if1:W3.frozen? ⟨g,1,none⟩ = false:=x1.frozen 1
  have i2:W3.cell? ⟨g,2,none⟩ = some (.int .i64 ↑next):=x1.cell 2
  have if2:W3.frozen? ⟨g,2,none⟩ = false:=x1.frozen 2
  have i3:W3.cell? ⟨g,3,none⟩ = some (.int .i64 ↑month):=x1.cell 3
  have if3:W3.frozen? ⟨g,3,none⟩ = false:=x1.frozen 3
  have i4:W3.cell? ⟨g,4,none⟩ = some (.int .i64 ↑bought):=x1.cell 4
  have if4:W3.frozen? ⟨g,4,none⟩ = false:=x1.frozen 4
  have i5:W3.cell? ⟨g,5,none⟩ = some (.int .i64 free):=x1.cell 5
  have if5:W3.frozen? ⟨g,5,none⟩ = false:=x1.frozen 5
  have i6:W3.cell? ⟨g,6,none⟩ = some (.slice A1 out.length c1):=x1.cell 6
  have if6:W3.frozen? ⟨g,6,none⟩ = false:=x1.frozen 6
  have i7:W3.cell? ⟨g,7,none⟩ = some (.slice At nt ct):=x1.cell 7
  have if7:W3.frozen? ⟨g,7,none⟩ = false:=x1.frozen 7
  have i8:W3.cell? ⟨g,8,none⟩ = some (.int .i64 ↑fx):=x1.cell 8
  have if8:W3.frozen? ⟨g,8,none⟩ = false:=x1.frozen 8
  have i9:W3.cell? ⟨g,9,none⟩ = some (.int .i64 ↑fb):=x1.cell 9
  have if9:W3.frozen? ⟨g,9,none⟩ = false:=x1.frozen 9
  have i10:W3.cell? ⟨g,10,none⟩ = some (.int .i64 ↑db):=x1.cell 10
  have if10:W3.frozen? ⟨g,10,none⟩ = false:=x1.frozen 10
  have i11:W3.cell? ⟨g,11,none⟩ = some (.int .i64 ↑al):=x1.cell 11
  have if11:W3.frozen? ⟨g,11,none⟩ = false:=x1.frozen 11
  have hvM:IsDs W3.drew (.slice At nt ct) tl:=hvt.below (w':=W3.drew) (below_draws x5 1)
  go_region_with ((go_at_call 66;(with_reducible refine (hM _ hvM).mono ?_);rintro e w4 ⟨rfl,hb4⟩;have z1:=Blk.below (w:=W3.drew) x1 hb4 (show g < W3.heap.size from x1.lt);have z2:=Blk.below (w:=W3.drew) x2 hb4 (show w.heap.size < W3.heap.size from x2.lt);have z3:=Blk.below (w:=W3.drew) x3 hb4 (show w.heap.size + 1 < W3.heap.size from x3.lt);have z4:=own_below (w:=W3.drew) x4 hb4;have q6:=z3.cell 6;have qf6:=z3.frozen 6;have q4:=z3.cell 4;have qf4:=z3.frozen 4))
  all_goals
   obtain ⟨W5,hW5⟩:∃ W5,(w4.setCell ⟨w.heap.size + 1,6,none⟩ (.int .i64 ↑U)).setCell ⟨w.heap.size + 1,4,none⟩ (.int .i64 ↑P) = W5:=⟨_,rfl⟩
   rw [hW5]
   have nb:w.heap.size ≠ w.heap.size + 1:=by omega
   have v1:Blk W5 g 130 #[me,rev,next,month,bought,free,.slice A1 out.length c1,.slice At nt ct,fx,fb,db,al]:=by rw [← hW5];exact (z1.far (p:=⟨w.heap.size + 1,6,none⟩) n0 _).far (p:=⟨w.heap.size + 1,4,none⟩) n0 _
   have v2:Blk W5 w.heap.size 47 #[(),(),(),(),(),(),()]:=by rw [← hW5];exact (z2.far (p:=⟨w.heap.size + 1,6,none⟩) nb _).far (p:=⟨w.heap.size + 1,4,none⟩) nb _
   have v3:Blk W5 (w.heap.size + 1) 47 #[next,t,paid,F,P,(),U]:=by rw [← hW5];exact (z3.set_ 6 (.int .i64 ↑U)).set_ 4 (.int .i64 ↑P)
   have v4:W5.ownsRow W1.heap.size 90 2 (.slice A1 out.length c1) out.length (drs out):=by rw [← hW5];exact own_far (p:=⟨w.heap.size + 1,4,none⟩) (own_far (p:=⟨w.heap.size + 1,6,none⟩) z4 hs1 _) hs1 _
   have v5:Below w0.heap.size w0 W5:=by
    rw [← hW5]
    exact (((below_draws x5 1).trans (hb4.mono (show w0.heap.size ≤ W3.heap.size from x5.size))).setCell (p:=⟨w.heap.size + 1,6,none⟩) (by show w0.heap.size ≤ w.heap.size + 1;omega) _).setCell (p:=⟨w.heap.size + 1,4,none⟩) (by show w0.heap.size ≤ w.heap.size + 1;omega) _
   have gU:((U:Int) == 0) = false:=by simp;omega
   have gN:decide (1048575 < (next:Int)) = false:=by simp;omega
   have gC:(left:Int) - (P:Int) = (ch:Int):=by have:=hch.out;omega
   have bN:(next:Int) ≤ 1048575:=by omega
   have bU:(U:Int) ≤ 2097151:=by omega
   have bB:(bought:Int) ≤ 10000000:=by omega
   clear q6 qf6 q4 qf4 i0 i1 i2 i3 i4 i5 i6 i7 i8 i9 i10 i11 if0 if1 if2 if3 if4 if5 if6 if7 if8 if9 if10 if11 z1 z2 z3 z4 hb4 x1 x2 x3 x4 x5 hW5 hvM hM
   have i0:W5.cell? ⟨g,0,none⟩ = some (.int .i64 ↑me):=v1.cell 0
   have if0:W5.frozen? ⟨g,0,none⟩ = false:=v1.frozen 0
   have i1:W5.cell? ⟨g,1,none⟩ = some (.int .i64 ↑rev):=v1.cell 1
   have if1:W5.frozen? ⟨g,1,none⟩ = false:=v1.frozen 1
   have i2:W5.cell? ⟨g,2,none⟩ = some (.int .i64 ↑next):=v1.cell 2
   have if2:W5.frozen? ⟨g,2,none⟩ = false:=v1.frozen 2
   have i3:W5.cell? ⟨g,3,none⟩ = some (.int .i64 ↑month):=v1.cell 3
   have if3:W5.frozen? ⟨g,3,none⟩ = false:=v1.frozen 3
   have i4:W5.cell? ⟨g,4,none⟩ = some (.int .i64 ↑bought):=v1.cell 4
   have if4:W5.frozen? ⟨g,4,none⟩ = false:=v1.frozen 4
   have i5:W5.cell? ⟨g,5,none⟩ = some (.int .i64 free):=v1.cell 5
   have if5:W5.frozen? ⟨g,5,none⟩ = false:=v1.frozen 5
   have i6:W5.cell? ⟨g,6,none⟩ = some (.slice A1 out.length c1):=v1.cell 6
   have if6:W5.frozen? ⟨g,6,none⟩ = false:=v1.frozen 6
   have i7:W5.cell? ⟨g,7,none⟩ = some (.slice At nt ct):=v1.cell 7
   have if7:W5.frozen? ⟨g,7,none⟩ = false:=v1.frozen 7
   have i8:W5.cell? ⟨g,8,none⟩ = some (.int .i64 ↑fx):=v1.cell 8
   have if8:W5.frozen? ⟨g,8,none⟩ = false:=v1.frozen 8
   have i9:W5.cell? ⟨g,9,none⟩ = some (.int .i64 ↑fb):=v1.cell 9
   have if9:W5.frozen? ⟨g,9,none⟩ = false:=v1.frozen 9
   have i10:W5.cell? ⟨g,10,none⟩ = some (.int .i64 ↑db):=v1.cell 10
   have if10:W5.frozen? ⟨g,10,none⟩ = false:=v1.frozen 10
   have i11:W5.cell? ⟨g,11,none⟩ = some (.int .i64 ↑al):=v1.cell 11
   have if11:W5.frozen? ⟨g,11,none⟩ = false:=v1.frozen 11
   have j0:W5.cell? ⟨w.heap.size + 1,0,none⟩ = some (.int .i64 ↑next):=v3.cell 0
   have jf0:W5.frozen? ⟨w.heap.size + 1,0,none⟩ = false:=v3.frozen 0
   have j1:W5.cell? ⟨w.heap.size + 1,1,none⟩ = some (.int .i64 ↑t):=v3.cell 1
   have jf1:W5.frozen? ⟨w.heap.size + 1,1,none⟩ = false:=v3.frozen 1
   have j2:W5.cell? ⟨w.heap.size + 1,2,none⟩ = some (.int .i64 ↑paid):=v3.cell 2
   have jf2:W5.frozen? ⟨w.heap.size + 1,2,none⟩ = false:=v3.frozen 2
   have j3:W5.cell? ⟨w.heap.size + 1,3,none⟩ = some (.int .i64 ↑F):=v3.cell 3
   have jf3:W5.frozen? ⟨w.heap.size + 1,3,none⟩ = false:=v3.frozen 3
   have j4:W5.cell? ⟨w.heap.size + 1,4,none⟩ = some (.int .i64 ↑P):=v3.cell 4
   have jf4:W5.frozen? ⟨w.heap.size + 1,4,none⟩ = false:=v3.frozen 4
   have j5:W5.cell? ⟨w.heap.size + 1,5,none⟩ = some (.int .i64 0):=v3.cell 5
   have jf5:W5.frozen? ⟨w.heap.size + 1,5,none⟩ = false:=v3.frozen 5
   have j6:W5.cell? ⟨w.heap.size + 1,6,none⟩ = some (.int .i64 ↑U):=v3.cell 6
   have jf6:W5.frozen? ⟨w.heap.size + 1,6,none⟩ = false:=v3.frozen 6
   go_wp2_with fail
   obtain ⟨W6,hW6⟩:∃ W6,W5.setCell ⟨w.heap.size + 1,5,none⟩ (.int .i64 ↑ch) = W6:=⟨_,rfl⟩
   rw [hW6]
   have u1:Blk W6 g 130 #[me,rev,next,month,bought,free,.slice A1 out.length c1,.slice At nt ct,fx,fb,db,al]:=by rw [← hW6];exact v1.far (p:=⟨w.heap.size + 1,5,none⟩) n0 _
   have u2:Blk W6 w.heap.size 47 #[(),(),(),(),(),(),()]:=by rw [← hW6];exact v2.far (p:=⟨w.heap.size + 1,5,none⟩) nb _
   have u3:Blk W6 (w.heap.size + 1) 47 #[next,t,paid,F,P,ch,U]:=by rw [← hW6];exact v3.set_ 5 (.int .i64 ↑ch)
   have u4:W6.ownsRow W1.heap.size 90 2 (.slice A1 out.length c1) out.length (drs out):=by rw [← hW6];exact own_far (p:=⟨w.heap.size + 1,5,none⟩) v4 hs1 _
   have u5:Below w0.heap.size w0 W6:=by rw [← hW6];exact v5.setCell (p:=⟨w.heap.size + 1,5,none⟩) (by show w0.heap.size ≤ w.heap.size + 1;omega) _
   have gB:IntKind.i64.wrap ((bought:Int) + (U:Int)) = (bought2:Int):=by
    have:=hb2.out
    rw [IntWalk.i64_in _ (by omega)];omega
   clear i0 i1 i2 i3 i4 i5 i6 i7 i8 i9 i10 i11 if0 if1 if2 if3 if4 if5 if6 if7 if8 if9 if10 if11 j0 j1 j2 j3 j4 j5 j6 jf0 jf1 jf2 jf3 jf4 jf5 jf6 v1 v2 v3 v4 v5 hW6 gC
   have i0:W6.cell? ⟨g,0,none⟩ = some (.int .i64 ↑me):=u1.cell 0
   have if0:W6.frozen? ⟨g,0,none⟩ = false:=u1.frozen 0
   have i1:W6.cell? ⟨g,1,none⟩ = some (.int .i64 ↑rev):=u1.cell 1
   have if1:W6.frozen? ⟨g,1,none⟩ = false:=u1.frozen 1
   have i2:W6.cell? ⟨g,2,none⟩ = some (.int .i64 ↑next):=u1.cell 2
   have if2:W6.frozen? ⟨g,2,none⟩ = false:=u1.frozen 2
   have i3:W6.cell? ⟨g,3,none⟩ = some (.int .i64 ↑month):=u1.cell 3
   have if3:W6.frozen? ⟨g,3,none⟩ = false:=u1.frozen 3
   have i4:W6.cell? ⟨g,4,none⟩ = some (.int .i64 ↑bought):=u1.cell 4
   have if4:W6.frozen? ⟨g,4,none⟩ = false:=u1.frozen 4
   have i5:W6.cell? ⟨g,5,none⟩ = some (.int .i64 free):=u1.cell 5
   have if5:W6.frozen? ⟨g,5,none⟩ = false:=u1.frozen 5
   have i6:W6.cell? ⟨g,6,none⟩ = some (.slice A1 out.length c1):=u1.cell 6
   have if6:W6.frozen? ⟨g,6,none⟩ = false:=u1.frozen 6
   have i7:W6.cell? ⟨g,7,none⟩ = some (.slice At nt ct):=u1.cell 7
   have if7:W6.frozen? ⟨g,7,none⟩ = false:=u1.frozen 7
   have i8:W6.cell? ⟨g,8,none⟩ = some (.int .i64 ↑fx):=u1.cell 8
   have if8:W6.frozen? ⟨g,8,none⟩ = false:=u1.frozen 8
   have i9:W6.cell? ⟨g,9,none⟩ = some (.int .i64 ↑fb):=u1.cell 9
   have if9:W6.frozen? ⟨g,9,none⟩ = false:=u1.frozen 9
   have i10:W6.cell? ⟨g,10,none⟩ = some (.int .i64 ↑db):=u1.cell 10
   have if10:W6.frozen? ⟨g,10,none⟩ = false:=u1.frozen 10
   have i11:W6.cell? ⟨g,11,none⟩ = some (.int .i64 ↑al):=u1.cell 11
   have if11:W6.frozen? ⟨g,11,none⟩ = false:=u1.frozen 11
   have j0:W6.cell? ⟨w.heap.size + 1,0,none⟩ = some (.int .i64 ↑next):=u3.cell 0
   have jf0:W6.frozen? ⟨w.heap.size + 1,0,none⟩ = false:=u3.frozen 0
   have j1:W6.cell? ⟨w.heap.size + 1,1,none⟩ = some (.int .i64 ↑t):=u3.cell 1
   have jf1:W6.frozen? ⟨w.heap.size + 1,1,none⟩ = false:=u3.frozen 1
   have j2:W6.cell? ⟨w.heap.size + 1,2,none⟩ = some (.int .i64 ↑paid):=u3.cell 2
   have jf2:W6.frozen? ⟨w.heap.size + 1,2,none⟩ = false:=u3.frozen 2
   have j3:W6.cell? ⟨w.heap.size + 1,3,none⟩ = some (.int .i64 ↑F):=u3.cell 3
   have jf3:W6.frozen? ⟨w.heap.size + 1,3,none⟩ = false:=u3.frozen 3
   have j4:W6.cell? ⟨w.heap.size + 1,4,none⟩ = some (.int .i64 ↑P):=u3.cell 4
   have jf4:W6.frozen? ⟨w.heap.size + 1,4,none⟩ = false:=u3.frozen 4
   have j5:W6.cell? ⟨w.heap.size + 1,5,none⟩ = some (.int .i64 ↑ch):=u3.cell 5
   have jf5:W6.frozen? ⟨w.heap.size + 1,5,none⟩ = false:=u3.frozen 5
   have j6:W6.cell? ⟨w.heap.size + 1,6,none⟩ = some (.int .i64 ↑U):=u3.cell 6
   have jf6:W6.frozen? ⟨w.heap.size + 1,6,none⟩ = false:=u3.frozen 6
   go_region
   clear gB
   all_goals
    obtain ⟨W7,hW7⟩:∃ W7,(W6.setCell ⟨g,4,none⟩ (.int .i64 ↑bought2)).drew = W7:=⟨_,rfl⟩
    rw [hW7]
    have t1':Blk W7 g 130 #[me,rev,next,month,bought2,free,.slice A1 out.length c1,.slice At nt ct,fx,fb,db,al]:=by rw [← hW7];exact (u1.set_ 4 (.int .i64 ↑bought2))
    have t2':Blk W7 w.heap.size 47 #[(),(),(),(),(),(),()]:=by rw [← hW7];exact u2.far (p:=⟨g,4,none⟩) (by show w.heap.size ≠ g;omega) _
    have t3':Blk W7 (w.heap.size + 1) 47 #[next,t,paid,F,P,ch,U]:=by rw [← hW7];exact u3.far (p:=⟨g,4,none⟩) n9 _
    have t4':W7.ownsRow W1.heap.size 90 2 (.slice A1 out.length c1) out.length (drs out):=by rw [← hW7];exact own_far (p:=⟨g,4,none⟩) u4 hg1 _
    have t5':Below w0.heap.size w0 W7:=by rw [← hW7];exact below_draws (u5.setCell (p:=⟨g,4,none⟩) hBg _) 1
    have gX:(next:Int) + 1 = (next1:Int):=by have:=hn1.out;omega
    clear i0 i1 i2 i3 i4 i5 i6 i7 i8 i9 i10 i11 if0 if1 if2 if3 if4 if5 if6 if7 if8 if9 if10 if11 j0 j1 j2 j3 j4 j5 j6 jf0 jf1 jf2 jf3 jf4 jf5 jf6 u1 u2 u3 u4 u5 hW7
    have hE:=sellEnd [(0,.int .i64 ↑next),(1,.int .i64 ↑t),(2,.int .i64 ↑paid),(3,.int .i64 ↑F),(4,.int .i64 ↑P),(5,.int .i64 ↑ch),(6,.int .i64 ↑U)] t1' t2' t4' t5' hBg (by omega) (by omega) hg1 (by omega) (next1:Int)
    have i0:W7.cell? ⟨g,0,none⟩ = some (.int .i64 ↑me):=t1'.cell 0
    have if0:W7.frozen? ⟨g,0,none⟩ = false:=t1'.frozen 0
    have i1:W7.cell? ⟨g,1,none⟩ = some (.int .i64 ↑rev):=t1'.cell 1
    have if1:W7.frozen? ⟨g,1,none⟩ = false:=t1'.frozen 1
    have i2:W7.cell? ⟨g,2,none⟩ = some (.int .i64 ↑next):=t1'.cell 2
    have if2:W7.frozen? ⟨g,2,none⟩ = false:=t1'.frozen 2
    have i3:W7.cell? ⟨g,3,none⟩ = some (.int .i64 ↑month):=t1'.cell 3
    have if3:W7.frozen? ⟨g,3,none⟩ = false:=t1'.frozen 3
    have i4:W7.cell? ⟨g,4,none⟩ = some (.int .i64 ↑bought2):=t1'.cell 4
    have if4:W7.frozen? ⟨g,4,none⟩ = false:=t1'.frozen 4
    have i5:W7.cell? ⟨g,5,none⟩ = some (.int .i64 free):=t1'.cell 5
    have if5:W7.frozen? ⟨g,5,none⟩ = false:=t1'.frozen 5
    have i6:W7.cell? ⟨g,6,none⟩ = some (.slice A1 out.length c1):=t1'.cell 6
    have if6:W7.frozen? ⟨g,6,none⟩ = false:=t1'.frozen 6
    have i7:W7.cell? ⟨g,7,none⟩ = some (.slice At nt ct):=t1'.cell 7
    have if7:W7.frozen? ⟨g,7,none⟩ = false:=t1'.frozen 7
    have i8:W7.cell? ⟨g,8,none⟩ = some (.int .i64 ↑fx):=t1'.cell 8
    have if8:W7.frozen? ⟨g,8,none⟩ = false:=t1'.frozen 8
    have i9:W7.cell? ⟨g,9,none⟩ = some (.int .i64 ↑fb):=t1'.cell 9
    have if9:W7.frozen? ⟨g,9,none⟩ = false:=t1'.frozen 9
    have i10:W7.cell? ⟨g,10,none⟩ = some (.int .i64 ↑db):=t1'.cell 10
    have if10:W7.frozen? ⟨g,10,none⟩ = false:=t1'.frozen 10
    have i11:W7.cell? ⟨g,11,none⟩ = some (.int .i64 ↑al):=t1'.cell 11
    have if11:W7.frozen? ⟨g,11,none⟩ = false:=t1'.frozen 11
    have j0:W7.cell? ⟨w.heap.size + 1,0,none⟩ = some (.int .i64 ↑next):=t3'.cell 0
    have jf0:W7.frozen? ⟨w.heap.size + 1,0,none⟩ = false:=t3'.frozen 0
    have j1:W7.cell? ⟨w.heap.size + 1,1,none⟩ = some (.int .i64 ↑t):=t3'.cell 1
    have jf1:W7.frozen? ⟨w.heap.size + 1,1,none⟩ = false:=t3'.frozen 1
    have j2:W7.cell? ⟨w.heap.size + 1,2,none⟩ = some (.int .i64 ↑paid):=t3'.cell 2
    have jf2:W7.frozen? ⟨w.heap.size + 1,2,none⟩ = false:=t3'.frozen 2
    have j3:W7.cell? ⟨w.heap.size + 1,3,none⟩ = some (.int .i64 ↑F):=t3'.cell 3
    have jf3:W7.frozen? ⟨w.heap.size + 1,3,none⟩ = false:=t3'.frozen 3
    have j4:W7.cell? ⟨w.heap.size + 1,4,none⟩ = some (.int .i64 ↑P):=t3'.cell 4
    have jf4:W7.frozen? ⟨w.heap.size + 1,4,none⟩ = false:=t3'.frozen 4
    have j5:W7.cell? ⟨w.heap.size + 1,5,none⟩ = some (.int .i64 ↑ch):=t3'.cell 5
    have jf5:W7.frozen? ⟨w.heap.size + 1,5,none⟩ = false:=t3'.frozen 5
    have j6:W7.cell? ⟨w.heap.size + 1,6,none⟩ = some (.int .i64 ↑U):=t3'.cell 6
    have jf6:W7.frozen? ⟨w.heap.size + 1,6,none⟩ = false:=t3'.frozen 6
    have k0:W7.cell? ⟨w.heap.size,0,none⟩ = some (.int .i64 0):=t2'.cell 0
    have kf0:W7.frozen? ⟨w.heap.size,0,none⟩ = false:=t2'.frozen 0
    have k1:W7.cell? ⟨w.heap.size,1,none⟩ = some (.int .i64 0):=t2'.cell 1
    have kf1:W7.frozen? ⟨w.heap.size,1,none⟩ = false:=t2'.frozen 1
    have k2:W7.cell? ⟨w.heap.size,2,none⟩ = some (.int .i64 0):=t2'.cell 2
    have kf2:W7.frozen? ⟨w.heap.size,2,none⟩ = false:=t2'.frozen 2
    have k3:W7.cell? ⟨w.heap.size,3,none⟩ = some (.int .i64 0):=t2'.cell 3
    have kf3:W7.frozen? ⟨w.heap.size,3,none⟩ = false:=t2'.frozen 3
    have k4:W7.cell? ⟨w.heap.size,4,none⟩ = some (.int .i64 0):=t2'.cell 4
    have kf4:W7.frozen? ⟨w.heap.size,4,none⟩ = false:=t2'.frozen 4
    have k5:W7.cell? ⟨w.heap.size,5,none⟩ = some (.int .i64 0):=t2'.cell 5
    have kf5:W7.frozen? ⟨w.heap.size,5,none⟩ = false:=t2'.frozen 5
    have k6:W7.cell? ⟨w.heap.size,6,none⟩ = some (.int .i64 0):=t2'.cell 6
    have kf6:W7.frozen? ⟨w.heap.size,6,none⟩ = false:=t2'.frozen 6
    have ne1:w.heap.size ≠ g:=by omega
    have ne2:g ≠ w.heap.size:=by omega
    go_wp2
    obtain ⟨W8,hW8⟩:∃ W8,sets (W7.setCell ⟨g,2,none⟩ (.int .i64 ↑next1)) w.heap.size [(0,.int .i64 ↑next),(1,.int .i64 ↑t),(2,.int .i64 ↑paid),(3,.int .i64 ↑F),(4,.int .i64 ↑P),(5,.int .i64 ↑ch),(6,.int .i64 ↑U)] = W8:=⟨_,rfl⟩
    rw [hW8] at hE
    simp only [sets,List.foldl_cons,List.foldl_nil] at hW8
    rw [hW8]
    obtain ⟨hA4,hB4,ho4,hb4⟩:=hE
    have hB4:Blk W8 w.heap.size 47 #[next,t,paid,F,P,ch,U]:=hB4
    have r0:=hB4.cell 0
    have r1:=hB4.cell 1
    have r2:=hB4.cell 2
    have r3:=hB4.cell 3
    have r4:=hB4.cell 4
    have r5:=hB4.cell 5
    have r6:=hB4.cell 6
    refine bodyPost_ret (v:=.tuple #[.agg #[next,t,paid,F,P,ch,U],()]) (by simp [results,Tryz.results39,go_sem,r0,r1,r2,r3,r4,r5,r6];done) rfl ?_
    exact ⟨rfl,⟨hBg,A1,c1,hA4,own_mono ho4 (by omega)⟩,hb4⟩
structure SaleN (l tl:List (Nat × Nat)) (bought fx fb db t S paid f0 F:Nat) (li:Int) (out:List (Nat × Nat)):Prop where
 h1:1 ≤ t
 h2:t ≤ 100000000
 h3:(t:Int) * (db:Int) / 10000 = (S:Int)
 h4:recov S l = (paid,out)
 h5:(t:Int) * (fb:Int) / 10000 = (f0:Int)
 h6:F = fx + f0
 h7:li = (t:Int) - (paid:Int) - (F:Int)
 h8:li < 0 ∨ ∃ left:Nat,li = (left:Int) ∧ most (pcs tl bought) left 0 0 = (0,0)
theorem sell_no (g me rev next month bought:Nat) (free:Int) (l:List (Nat × Nat)) (At:Option Addr) (nt ct fx fb db al:Nat) (tl:List (Nat × Nat)) (t S paid f0 F:Nat) (li:Int) (out:List (Nat × Nat)) (w0 w:World)
 (hk:Ck w0.heap.size w g me rev next month bought free l At nt ct fx fb db al) (hl:DOk l) (hw0:Below w0.heap.size w0 w) (hvt:IsDs w0 (.slice At nt ct) tl) (hT:TOk tl) (htm:TmOk fx fb db al) (hbo:bought ≤ 10000000)
 (hS:SaleN l tl bought fx fb db t S paid f0 F li out) :
 Calls Tryz.prog 39 #[.pointer (some ⟨g,0,none⟩),t] w fun e w' =>
  e = .returned (.tuple #[.agg #[(),(),(),(),(),(),()],.int .i64 19]) ∧ Below w0.heap.size w0 w':=by
 obtain ⟨t1,t9,s1,s2,s3,s4,s5,s6⟩:=hS
 obtain ⟨hBg,A,c,hblk,hown⟩:=hk
 have hS2:S ≤ 100000000:=by
  have h1:=htm.h3
  have:t * db ≤ 100000000 * 10000:=Nat.mul_le_mul t9 h1
  have h2:(t:Int) * (db:Int) ≤ 100000000 * 10000:=by rw [← Int.natCast_mul];omega
  omega
 have hR:=fun W h => recover_own_is (.slice A l.length c) l t db S paid out W h hl t9 htm.h3 (Lib.hid s1) hS2 (Lib.hid s2)
 have hFe:=fun W => part_is (a:=(t:Int)) (b:=(fb:Int)) (s:=(f0:Int)) W (Lib.hid s3) (by omega) (by omega) (by omega) (by have:=htm.h2;omega)
 have hf9:f0 ≤ 100000000:=by
  have h1:=htm.h2
  have:t * fb ≤ 100000000 * 10000:=Nat.mul_le_mul t9 h1
  have h2:(t:Int) * (fb:Int) ≤ 100000000 * 10000:=by rw [← Int.natCast_mul];omega
  omega
 have hpp:paid ≤ S:=by
  have:=(recov_inv S l (fun p hp => hl.2 p hp)).1
  rw [s2] at this
  exact this
 have hFF:Hid (F ≤ 100100000):=by have:=htm.h1;show _ ≤ _;omega
 have hPP:Hid (paid ≤ 100000000):=by show _ ≤ _;omega
 have S6:=Lib.hid s6
 have S4:=Lib.hid s4
 have S5:=Lib.hid s5
 have hgl:=hblk.lt
 have hs0:=hw0.size
 obtain ⟨W1,hW1⟩:∃ W1,(w.alloc (.cells #[(),(),(),(),(),(),()] 47)).alloc (.cells #[next,t,(),(),(),(),()] 47) = W1:=⟨_,rfl⟩
 have k1:Blk W1 g 130 #[me,rev,next,month,bought,free,.slice A l.length c,.slice At nt ct,fx,fb,db,al]:=by rw [← hW1];exact (hblk.alloc _).alloc _
 have k2:Blk W1 w.heap.size 47 #[(),(),(),(),(),(),()]:=by rw [← hW1];exact (Blk.new w _ _).alloc _
 have k3:Blk W1 (w.heap.size + 1) 47 #[next,t,(),(),(),(),()]:=by
  have:=Blk.new (w.alloc (.cells #[(),(),(),(),(),(),()] 47)) 47 #[next,t,(),(),(),(),()]
  rw [hW1] at this
  simpa using this
 have k4:W1.ownsRow w0.heap.size 90 2 (.slice A l.length c) l.length (drs l):=by rw [← hW1];exact (hown.alloc _).alloc _
 have k5:Below w0.heap.size w0 W1:=by rw [← hW1];exact (hw0.alloc hs0 _).alloc (by simp;omega) _
 have hs1:w.heap.size + 1 < W1.heap.size:=k3.lt
 have hv:IsDs W1.drew (.slice A l.length c) l:=isds_own (w:=W1.drew) rfl k4
 have n0:g ≠ w.heap.size + 1:=by omega
 have n9:w.heap.size + 1 ≠ g:=by omega
 clear s1 s2 s3 s4 s5 s6 hown
 have i0:w.cell? ⟨g,0,none⟩ = some (.int .i64 ↑me):=hblk.cell 0
 have if0:w.frozen? ⟨g,0,none⟩ = false:=hblk.frozen 0
 have i1:w.cell? ⟨g,1,none⟩ = some (.int .i64 ↑rev):=hblk.cell 1
 have if1:w.frozen? ⟨g,1,none⟩ = false:=hblk.frozen 1
 have i2:w.cell? ⟨g,2,none⟩ = some (.int .i64 ↑next):=hblk.cell 2
 have if2:w.frozen? ⟨g,2,none⟩ = false:=hblk.frozen 2
 have i3:w.cell? ⟨g,3,none⟩ = some (.int .i64 ↑month):=hblk.cell 3
 have if3:w.frozen? ⟨g,3,none⟩ = false:=hblk.frozen 3
 have i4:w.cell? ⟨g,4,none⟩ = some (.int .i64 ↑bought):=hblk.cell 4
 have if4:w.frozen? ⟨g,4,none⟩ = false:=hblk.frozen 4
 have i5:w.cell? ⟨g,5,none⟩ = some (.int .i64 free):=hblk.cell 5
 have if5:w.frozen? ⟨g,5,none⟩ = false:=hblk.frozen 5
 have i6:w.cell? ⟨g,6,none⟩ = some (.slice A l.length c):=hblk.cell 6
 have if6:w.frozen? ⟨g,6,none⟩ = false:=hblk.frozen 6
 have i7:w.cell? ⟨g,7,none⟩ = some (.slice At nt ct):=hblk.cell 7
 have if7:w.frozen? ⟨g,7,none⟩ = false:=hblk.frozen 7
 have i8:w.cell? ⟨g,8,none⟩ = some (.int .i64 ↑fx):=hblk.cell 8
 have if8:w.frozen? ⟨g,8,none⟩ = false:=hblk.frozen 8
 have i9:w.cell? ⟨g,9,none⟩ = some (.int .i64 ↑fb):=hblk.cell 9
 have if9:w.frozen? ⟨g,9,none⟩ = false:=hblk.frozen 9
 have i10:w.cell? ⟨g,10,none⟩ = some (.int .i64 ↑db):=hblk.cell 10
 have if10:w.frozen? ⟨g,10,none⟩ = false:=hblk.frozen 10
 have i11:w.cell? ⟨g,11,none⟩ = some (.int .i64 ↑al):=hblk.cell 11
 have if11:w.frozen? ⟨g,11,none⟩ = false:=hblk.frozen 11
 have HW1:=Lib.hid hW1
 clear hW1
 go_enter Tryz.func39,Tryz.ntmps39
 go_wp2_with (go_at_call 62;refine (within_yes _ _ _ _ (by omega) (by omega)).mono ?_;rintro e w' ⟨rfl,rfl⟩)
 rw [HW1.out]
 clear HW1 i0 i1 i2 i3 i4 i5 i6 i7 i8 i9 i10 i11 if0 if1 if2 if3 if4 if5 if6 if7 if8 if9 if10 if11 hblk
 have i0:W1.cell? ⟨g,0,none⟩ = some (.int .i64 ↑me):=k1.cell 0
 have if0:W1.frozen? ⟨g,0,none⟩ = false:=k1.frozen 0
 have i1:W1.cell? ⟨g,1,none⟩ = some (.int .i64 ↑rev):=k1.cell 1
 have if1:W1.frozen? ⟨g,1,none⟩ = false:=k1.frozen 1
 have i2:W1.cell? ⟨g,2,none⟩ = some (.int .i64 ↑next):=k1.cell 2
 have if2:W1.frozen? ⟨g,2,none⟩ = false:=k1.frozen 2
 have i3:W1.cell? ⟨g,3,none⟩ = some (.int .i64 ↑month):=k1.cell 3
 have if3:W1.frozen? ⟨g,3,none⟩ = false:=k1.frozen 3
 have i4:W1.cell? ⟨g,4,none⟩ = some (.int .i64 ↑bought):=k1.cell 4
 have if4:W1.frozen? ⟨g,4,none⟩ = false:=k1.frozen 4
 have i5:W1.cell? ⟨g,5,none⟩ = some (.int .i64 free):=k1.cell 5
 have if5:W1.frozen? ⟨g,5,none⟩ = false:=k1.frozen 5
 have i6:W1.cell? ⟨g,6,none⟩ = some (.slice A l.length c):=k1.cell 6
 have if6:W1.frozen? ⟨g,6,none⟩ = false:=k1.frozen 6
 have i7:W1.cell? ⟨g,7,none⟩ = some (.slice At nt ct):=k1.cell 7
 have if7:W1.frozen? ⟨g,7,none⟩ = false:=k1.frozen 7
 have i8:W1.cell? ⟨g,8,none⟩ = some (.int .i64 ↑fx):=k1.cell 8
 have if8:W1.frozen? ⟨g,8,none⟩ = false:=k1.frozen 8
 have i9:W1.cell? ⟨g,9,none⟩ = some (.int .i64 ↑fb):=k1.cell 9
 have if9:W1.frozen? ⟨g,9,none⟩ = false:=k1.frozen 9
 have i10:W1.cell? ⟨g,10,none⟩ = some (.int .i64 ↑db):=k1.cell 10
 have if10:W1.frozen? ⟨g,10,none⟩ = false:=k1.frozen 10
 have i11:W1.cell? ⟨g,11,none⟩ = some (.int .i64 ↑al):=k1.cell 11
 have if11:W1.frozen? ⟨g,11,none⟩ = false:=k1.frozen 11
 go_region_with ((go_at_call 64;(with_reducible refine (hR _ hv).mono ?_);rintro e w2 ⟨A1,c1,rfl,hown1,hb1⟩;have z1:=Blk.below (w:=W1.drew) k1 hb1 (show g < W1.heap.size from k1.lt);have z2:=Blk.below (w:=W1.drew) k2 hb1 (show w.heap.size < W1.heap.size from k2.lt);have z3:=Blk.below (w:=W1.drew) k3 hb1 (show w.heap.size + 1 < W1.heap.size from k3.lt);have q6:=z1.cell 6;have qf6:=z1.frozen 6;have q2:=z3.cell 2;have qf2:=z3.frozen 2))
 all_goals
  obtain ⟨W2,hW2⟩:∃ W2,(w2.setCell ⟨g,6,none⟩ (.slice A1 out.length c1)).setCell ⟨w.heap.size + 1,2,none⟩ (.int .i64 ↑paid) = W2:=⟨_,rfl⟩
  rw [hW2]
  have y1:Blk W2 g 130 #[me,rev,next,month,bought,free,.slice A1 out.length c1,.slice At nt ct,fx,fb,db,al]:=by rw [← hW2];exact (z1.set_ 6 (.slice A1 out.length c1)).far (p:=⟨w.heap.size + 1,2,none⟩) n0 _
  have y2:Blk W2 w.heap.size 47 #[(),(),(),(),(),(),()]:=by rw [← hW2];exact (z2.far (p:=⟨g,6,none⟩) (by show w.heap.size ≠ g;omega) _).far (p:=⟨w.heap.size + 1,2,none⟩) (by show w.heap.size ≠ w.heap.size + 1;omega) _
  have y3:Blk W2 (w.heap.size + 1) 47 #[next,t,paid,(),(),(),()]:=by rw [← hW2];exact (z3.far (p:=⟨g,6,none⟩) n9 _).set_ 2 (.int .i64 ↑paid)
  have y4:W2.ownsRow W1.heap.size 90 2 (.slice A1 out.length c1) out.length (drs out):=by
   rw [← hW2]
   exact own_far (p:=⟨w.heap.size + 1,2,none⟩) (own_far (p:=⟨g,6,none⟩) hown1 (show g < W1.heap.size from k1.lt) _) (show w.heap.size + 1 < W1.heap.size from k3.lt) _
  have y5:Below w0.heap.size w0 W2:=by
   rw [← hW2]
   exact (((below_draws k5 1).trans (hb1.mono (show w0.heap.size ≤ W1.heap.size from k5.size))).setCell (p:=⟨g,6,none⟩) hBg _).setCell (p:=⟨w.heap.size + 1,2,none⟩) (by show w0.heap.size ≤ w.heap.size + 1;omega) _
  have hg1:g < W1.heap.size:=k1.lt
  have hF1:(fx:Int) + (f0:Int) = (F:Int):=by have:=S4.out;omega
  have hF2:(t:Int) - (paid:Int) - (F:Int) = li:=S5.out.symm
  have hF3:li ≤ 100000000:=by have:=S5.out;omega
  have hF4:(F:Int) ≤ 100100000:=by have:=hFF.out;omega
  have hF5:(paid:Int) ≤ 100000000:=by have:=hPP.out;omega
  have hF6:-200100000 ≤ li:=by have:=S5.out;omega
  clear q6 qf6 q2 qf2 i0 i1 i2 i3 i4 i5 i6 i7 i8 i9 i10 i11 if0 if1 if2 if3 if4 if5 if6 if7 if8 if9 if10 if11 z1 z2 z3 hown1 hb1 k1 k2 k3 k4 k5 hW2 hv hR
  have i0:W2.cell? ⟨g,0,none⟩ = some (.int .i64 ↑me):=y1.cell 0
  have if0:W2.frozen? ⟨g,0,none⟩ = false:=y1.frozen 0
  have i1:W2.cell? ⟨g,1,none⟩ = some (.int .i64 ↑rev):=y1.cell 1
  have if1:W2.frozen? ⟨g,1,none⟩ = false:=y1.frozen 1
  have i2:W2.cell? ⟨g,2,none⟩ = some (.int .i64 ↑next):=y1.cell 2
  have if2:W2.frozen? ⟨g,2,none⟩ = false:=y1.frozen 2
  have i3:W2.cell? ⟨g,3,none⟩ = some (.int .i64 ↑month):=y1.cell 3
  have if3:W2.frozen? ⟨g,3,none⟩ = false:=y1.frozen 3
  have i4:W2.cell? ⟨g,4,none⟩ = some (.int .i64 ↑bought):=y1.cell 4
  have if4:W2.frozen? ⟨g,4,none⟩ = false:=y1.frozen 4
  have i5:W2.cell? ⟨g,5,none⟩ = some (.int .i64 free):=y1.cell 5
  have if5:W2.frozen? ⟨g,5,none⟩ = false:=y1.frozen 5
  have i6:W2.cell? ⟨g,6,none⟩ = some (.slice A1 out.length c1):=y1.cell 6
  have if6:W2.frozen? ⟨g,6,none⟩ = false:=y1.frozen 6
  have i7:W2.cell? ⟨g,7,none⟩ = some (.slice At nt ct):=y1.cell 7
  have if7:W2.frozen? ⟨g,7,none⟩ = false:=y1.frozen 7
  have i8:W2.cell? ⟨g,8,none⟩ = some (.int .i64 ↑fx):=y1.cell 8
  have if8:W2.frozen? ⟨g,8,none⟩ = false:=y1.frozen 8
  have i9:W2.cell? ⟨g,9,none⟩ = some (.int .i64 ↑fb):=y1.cell 9
  have if9:W2.frozen? ⟨g,9,none⟩ = false:=y1.frozen 9
  have i10:W2.cell? ⟨g,10,none⟩ = some (.int .i64 ↑db):=y1.cell 10
  have if10:W2.frozen? ⟨g,10,none⟩ = false:=y1.frozen 10
  have i11:W2.cell? ⟨g,11,none⟩ = some (.int .i64 ↑al):=y1.cell 11
  have if11:W2.frozen? ⟨g,11,none⟩ = false:=y1.frozen 11
  have j0:W2.cell? ⟨w.heap.size + 1,0,none⟩ = some (.int .i64 ↑next):=y3.cell 0
  have jf0:W2.frozen? ⟨w.heap.size + 1,0,none⟩ = false:=y3.frozen 0
  have j1:W2.cell? ⟨w.heap.size + 1,1,none⟩ = some (.int .i64 ↑t):=y3.cell 1
  have jf1:W2.frozen? ⟨w.heap.size + 1,1,none⟩ = false:=y3.frozen 1
  have j2:W2.cell? ⟨w.heap.size + 1,2,none⟩ = some (.int .i64 ↑paid):=y3.cell 2
  have jf2:W2.frozen? ⟨w.heap.size + 1,2,none⟩ = false:=y3.frozen 2
  have j3:W2.cell? ⟨w.heap.size + 1,3,none⟩ = some (.int .i64 0):=y3.cell 3
  have jf3:W2.frozen? ⟨w.heap.size + 1,3,none⟩ = false:=y3.frozen 3
  have j4:W2.cell? ⟨w.heap.size + 1,4,none⟩ = some (.int .i64 0):=y3.cell 4
  have jf4:W2.frozen? ⟨w.heap.size + 1,4,none⟩ = false:=y3.frozen 4
  have j5:W2.cell? ⟨w.heap.size + 1,5,none⟩ = some (.int .i64 0):=y3.cell 5
  have jf5:W2.frozen? ⟨w.heap.size + 1,5,none⟩ = false:=y3.frozen 5
  have j6:W2.cell? ⟨w.heap.size + 1,6,none⟩ = some (.int .i64 0):=y3.cell 6
  have jf6:W2.frozen? ⟨w.heap.size + 1,6,none⟩ = false:=y3.frozen 6
  rcases S6.out with hneg | ⟨left,hleft,hmo⟩
  ·have gs:decide (0 ≤ li) = false:=by simp;omega
   have k0:W2.cell? ⟨w.heap.size,0,none⟩ = some (.int .i64 0):=y2.cell 0
   have kf0:W2.frozen? ⟨w.heap.size,0,none⟩ = false:=y2.frozen 0
   have k1:W2.cell? ⟨w.heap.size,1,none⟩ = some (.int .i64 0):=y2.cell 1
   have kf1:W2.frozen? ⟨w.heap.size,1,none⟩ = false:=y2.frozen 1
   have k2:W2.cell? ⟨w.heap.size,2,none⟩ = some (.int .i64 0):=y2.cell 2
   have kf2:W2.frozen? ⟨w.heap.size,2,none⟩ = false:=y2.frozen 2
   have k3:W2.cell? ⟨w.heap.size,3,none⟩ = some (.int .i64 0):=y2.cell 3
   have kf3:W2.frozen? ⟨w.heap.size,3,none⟩ = false:=y2.frozen 3
   have k4:W2.cell? ⟨w.heap.size,4,none⟩ = some (.int .i64 0):=y2.cell 4
   have kf4:W2.frozen? ⟨w.heap.size,4,none⟩ = false:=y2.frozen 4
   have k5:W2.cell? ⟨w.heap.size,5,none⟩ = some (.int .i64 0):=y2.cell 5
   have kf5:W2.frozen? ⟨w.heap.size,5,none⟩ = false:=y2.frozen 5
   have k6:W2.cell? ⟨w.heap.size,6,none⟩ = some (.int .i64 0):=y2.cell 6
   have kf6:W2.frozen? ⟨w.heap.size,6,none⟩ = false:=y2.frozen 6
   have nb:w.heap.size ≠ w.heap.size + 1:=by omega
   clear S6 hT htm hl hvt
   go_wp2_with (go_at_call 65;with_reducible refine (hFe _).mono ?_;rintro e w' ⟨rfl,rfl⟩)
   have hE1:=Blk.sets [(0,.int .i64 0),(1,.int .i64 0),(2,.int .i64 0),(3,.int .i64 0),(4,.int .i64 0),(5,.int .i64 0),(6,.int .i64 0)] (y2.far (p:=⟨w.heap.size + 1,3,none⟩) nb (.int .i64 ↑F))
   have hE2:=below_sets (B:=w0.heap.size) (b:=w.heap.size) (by omega) [(0,.int .i64 0),(1,.int .i64 0),(2,.int .i64 0),(3,.int .i64 0),(4,.int .i64 0),(5,.int .i64 0),(6,.int .i64 0)] (y5.setCell (p:=⟨w.heap.size + 1,3,none⟩) (by show w0.heap.size ≤ w.heap.size + 1;omega) (.int .i64 ↑F))
   obtain ⟨W8,hW8⟩:∃ W8,sets (W2.setCell ⟨w.heap.size + 1,3,none⟩ (.int .i64 ↑F)) w.heap.size [(0,.int .i64 0),(1,.int .i64 0),(2,.int .i64 0),(3,.int .i64 0),(4,.int .i64 0),(5,.int .i64 0),(6,.int .i64 0)] = W8:=⟨_,rfl⟩
   rw [hW8] at hE1 hE2
   have hE1:Blk W8 w.heap.size 47 #[(),(),(),(),(),(),()]:=hE1
   simp only [sets,List.foldl_cons,List.foldl_nil] at hW8
   rw [hW8]
   have r0:=hE1.cell 0
   have r1:=hE1.cell 1
   have r2:=hE1.cell 2
   have r3:=hE1.cell 3
   have r4:=hE1.cell 4
   have r5:=hE1.cell 5
   have r6:=hE1.cell 6
   refine bodyPost_ret (v:=.tuple #[.agg #[(),(),(),(),(),(),()],.int .i64 19]) (by simp [results,Tryz.results39,go_sem,r0,r1,r2,r3,r4,r5,r6];done) rfl ?_
   exact ⟨rfl,hE2⟩
  ·have hleft9:left ≤ 100000000:=by omega
   have hM:=fun W h => most_ok (.slice At nt ct) tl bought left 0 0 W h hT hbo (by omega) (Lib.hid hmo)
   clear S6 hmo
   subst hleft
   go_wp2_with (go_at_call 65;with_reducible refine (hFe _).mono ?_;rintro e w' ⟨rfl,rfl⟩)
   obtain ⟨W3,hW3⟩:∃ W3,W2.setCell ⟨w.heap.size + 1,3,none⟩ (.int .i64 ↑F) = W3:=⟨_,rfl⟩
   rw [hW3]
   have x1:Blk W3 g 130 #[me,rev,next,month,bought,free,.slice A1 out.length c1,.slice At nt ct,fx,fb,db,al]:=by rw [← hW3];exact y1.far (p:=⟨w.heap.size + 1,3,none⟩) n0 _
   have x2:Blk W3 w.heap.size 47 #[(),(),(),(),(),(),()]:=by rw [← hW3];exact y2.far (p:=⟨w.heap.size + 1,3,none⟩) (by show w.heap.size ≠ w.heap.size + 1;omega) _
   have x3:Blk W3 (w.heap.size + 1) 47 #[next,t,paid,F,(),(),()]:=by rw [← hW3];exact y3.set_ 3 (.int .i64 ↑F)
   have x4:W3.ownsRow W1.heap.size 90 2 (.slice A1 out.length c1) out.length (drs out):=by rw [← hW3];exact own_far (p:=⟨w.heap.size + 1,3,none⟩) y4 hs1 _
   have x5:Below w0.heap.size w0 W3:=by rw [← hW3];exact y5.setCell (p:=⟨w.heap.size + 1,3,none⟩) (by show w0.heap.size ≤ w.heap.size + 1;omega) _
   clear i0 i1 i2 i3 i4 i5 i6 i7 i8 i9 i10 i11 if0 if1 if2 if3 if4 if5 if6 if7 if8 if9 if10 if11 j0 j1 j2 j3 j4 j5 j6 jf0 jf1 jf2 jf3 jf4 jf5 jf6 y1 y2 y3 y4 y5 hW3 hFe hF1 hF2
   have i0:W3.cell? ⟨g,0,none⟩ = some (.int .i64 ↑me):=x1.cell 0
   have if0:W3.frozen? ⟨g,0,none⟩ = false:=x1.frozen 0
   have i1:W3.cell? ⟨g,1,none⟩ = some (.int .i64 ↑rev):=x1.cell 1
   have if1:W3.frozen? ⟨g,1,none⟩ = false:=x1.frozen 1
   have i2:W3.cell? ⟨g,2,none⟩ = some (.int .i64 ↑next):=x1.cell 2
   have if2:W3.frozen? ⟨g,2,none⟩ = false:=x1.frozen 2
   have i3:W3.cell? ⟨g,3,none⟩ = some (.int .i64 ↑month):=x1.cell 3
   have if3:W3.frozen? ⟨g,3,none⟩ = false:=x1.frozen 3
   have i4:W3.cell? ⟨g,4,none⟩ = some (.int .i64 ↑bought):=x1.cell 4
   have if4:W3.frozen? ⟨g,4,none⟩ = false:=x1.frozen 4
   have i5:W3.cell? ⟨g,5,none⟩ = some (.int .i64 free):=x1.cell 5
   have if5:W3.frozen? ⟨g,5,none⟩ = false:=x1.frozen 5
   have i6:W3.cell? ⟨g,6,none⟩ = some (.slice A1 out.length c1):=x1.cell 6
   have if6:W3.frozen? ⟨g,6,none⟩ = false:=x1.frozen 6
   have i7:W3.cell? ⟨g,7,none⟩ = some (.slice At nt ct):=x1.cell 7
   have if7:W3.frozen? ⟨g,7,none⟩ = false:=x1.frozen 7
   have i8:W3.cell? ⟨g,8,none⟩ = some (.int .i64 ↑fx):=x1.cell 8
   have if8:W3.frozen? ⟨g,8,none⟩ = false:=x1.frozen 8
   have i9:W3.cell? ⟨g,9,none⟩ = some (.int .i64 ↑fb):=x1.cell 9
   have if9:W3.frozen? ⟨g,9,none⟩ = false:=x1.frozen 9
   have i10:W3.cell? ⟨g,10,none⟩ = some (.int .i64 ↑db):=x1.cell 10
   have if10:W3.frozen? ⟨g,10,none⟩ = false:=x1.frozen 10
   have i11:W3.cell? ⟨g,11,none⟩ = some (.int .i64 ↑al):=x1.cell 11
   have if11:W3.frozen? ⟨g,11,none⟩ = false:=x1.frozen 11
   have hvM:IsDs W3.drew (.slice At nt ct) tl:=hvt.below (w':=W3.drew) (below_draws x5 1)
   go_region_with ((go_at_call 66;(with_reducible refine (hM _ hvM).mono ?_);rintro e w4 ⟨rfl,hb4⟩;have z2:=Blk.below (w:=W3.drew) x2 hb4 (show w.heap.size < W3.heap.size from x2.lt);have z3:=Blk.below (w:=W3.drew) x3 hb4 (show w.heap.size + 1 < W3.heap.size from x3.lt);have q6:=z3.cell 6;have qf6:=z3.frozen 6;have q4:=z3.cell 4;have qf4:=z3.frozen 4))
   all_goals
    obtain ⟨W5,hW5⟩:∃ W5,(w4.setCell ⟨w.heap.size + 1,6,none⟩ (.int .i64 0)).setCell ⟨w.heap.size + 1,4,none⟩ (.int .i64 0) = W5:=⟨_,rfl⟩
    rw [hW5]
    have nb:w.heap.size ≠ w.heap.size + 1:=by omega
    have v2:Blk W5 w.heap.size 47 #[(),(),(),(),(),(),()]:=by rw [← hW5];exact (z2.far (p:=⟨w.heap.size + 1,6,none⟩) nb _).far (p:=⟨w.heap.size + 1,4,none⟩) nb _
    have v3:Blk W5 (w.heap.size + 1) 47 #[next,t,paid,F,(),(),()]:=by rw [← hW5];exact (z3.set_ 6 (.int .i64 0)).set_ 4 (.int .i64 0)
    have v5:Below w0.heap.size w0 W5:=by
     rw [← hW5]
     exact (((below_draws x5 1).trans (hb4.mono (show w0.heap.size ≤ W3.heap.size from x5.size))).setCell (p:=⟨w.heap.size + 1,6,none⟩) (by show w0.heap.size ≤ w.heap.size + 1;omega) _).setCell (p:=⟨w.heap.size + 1,4,none⟩) (by show w0.heap.size ≤ w.heap.size + 1;omega) _
    clear q6 qf6 q4 qf4 i0 i1 i2 i3 i4 i5 i6 i7 i8 i9 i10 i11 if0 if1 if2 if3 if4 if5 if6 if7 if8 if9 if10 if11 z2 z3 hb4 x1 x2 x3 x4 x5 hW5 hvM hM
    have k0:W5.cell? ⟨w.heap.size,0,none⟩ = some (.int .i64 0):=v2.cell 0
    have kf0:W5.frozen? ⟨w.heap.size,0,none⟩ = false:=v2.frozen 0
    have k1:W5.cell? ⟨w.heap.size,1,none⟩ = some (.int .i64 0):=v2.cell 1
    have kf1:W5.frozen? ⟨w.heap.size,1,none⟩ = false:=v2.frozen 1
    have k2:W5.cell? ⟨w.heap.size,2,none⟩ = some (.int .i64 0):=v2.cell 2
    have kf2:W5.frozen? ⟨w.heap.size,2,none⟩ = false:=v2.frozen 2
    have k3:W5.cell? ⟨w.heap.size,3,none⟩ = some (.int .i64 0):=v2.cell 3
    have kf3:W5.frozen? ⟨w.heap.size,3,none⟩ = false:=v2.frozen 3
    have k4:W5.cell? ⟨w.heap.size,4,none⟩ = some (.int .i64 0):=v2.cell 4
    have kf4:W5.frozen? ⟨w.heap.size,4,none⟩ = false:=v2.frozen 4
    have k5:W5.cell? ⟨w.heap.size,5,none⟩ = some (.int .i64 0):=v2.cell 5
    have kf5:W5.frozen? ⟨w.heap.size,5,none⟩ = false:=v2.frozen 5
    have k6:W5.cell? ⟨w.heap.size,6,none⟩ = some (.int .i64 0):=v2.cell 6
    have kf6:W5.frozen? ⟨w.heap.size,6,none⟩ = false:=v2.frozen 6
    have j0:W5.cell? ⟨w.heap.size + 1,0,none⟩ = some (.int .i64 ↑next):=v3.cell 0
    have jf0:W5.frozen? ⟨w.heap.size + 1,0,none⟩ = false:=v3.frozen 0
    have j1:W5.cell? ⟨w.heap.size + 1,1,none⟩ = some (.int .i64 ↑t):=v3.cell 1
    have jf1:W5.frozen? ⟨w.heap.size + 1,1,none⟩ = false:=v3.frozen 1
    have j2:W5.cell? ⟨w.heap.size + 1,2,none⟩ = some (.int .i64 ↑paid):=v3.cell 2
    have jf2:W5.frozen? ⟨w.heap.size + 1,2,none⟩ = false:=v3.frozen 2
    have j3:W5.cell? ⟨w.heap.size + 1,3,none⟩ = some (.int .i64 ↑F):=v3.cell 3
    have jf3:W5.frozen? ⟨w.heap.size + 1,3,none⟩ = false:=v3.frozen 3
    have j4:W5.cell? ⟨w.heap.size + 1,4,none⟩ = some (.int .i64 0):=v3.cell 4
    have jf4:W5.frozen? ⟨w.heap.size + 1,4,none⟩ = false:=v3.frozen 4
    have j5:W5.cell? ⟨w.heap.size + 1,5,none⟩ = some (.int .i64 0):=v3.cell 5
    have jf5:W5.frozen? ⟨w.heap.size + 1,5,none⟩ = false:=v3.frozen 5
    have j6:W5.cell? ⟨w.heap.size + 1,6,none⟩ = some (.int .i64 0):=v3.cell 6
    have jf6:W5.frozen? ⟨w.heap.size + 1,6,none⟩ = false:=v3.frozen 6
    go_wp2
    have hE1:=Blk.sets [(0,.int .i64 0),(1,.int .i64 0),(2,.int .i64 0),(3,.int .i64 0),(4,.int .i64 0),(5,.int .i64 0),(6,.int .i64 0)] v2
    have hE2:=below_sets (B:=w0.heap.size) (b:=w.heap.size) (by omega) [(0,.int .i64 0),(1,.int .i64 0),(2,.int .i64 0),(3,.int .i64 0),(4,.int .i64 0),(5,.int .i64 0),(6,.int .i64 0)] v5
    obtain ⟨W8,hW8⟩:∃ W8,sets (W5) w.heap.size [(0,.int .i64 0),(1,.int .i64 0),(2,.int .i64 0),(3,.int .i64 0),(4,.int .i64 0),(5,.int .i64 0),(6,.int .i64 0)] = W8:=⟨_,rfl⟩
    rw [hW8] at hE1 hE2
    have hE1:Blk W8 w.heap.size 47 #[(),(),(),(),(),(),()]:=hE1
    simp only [sets,List.foldl_cons,List.foldl_nil] at hW8
    rw [hW8]
    have r0:=hE1.cell 0
    have r1:=hE1.cell 1
    have r2:=hE1.cell 2
    have r3:=hE1.cell 3
    have r4:=hE1.cell 4
    have r5:=hE1.cell 5
    have r6:=hE1.cell 6
    refine bodyPost_ret (v:=.tuple #[.agg #[(),(),(),(),(),(),()],.int .i64 19]) (by simp [results,Tryz.results39,go_sem,r0,r1,r2,r3,r4,r5,r6];done) rfl ?_
    exact ⟨rfl,hE2⟩
end Go.Proofs.YtfgiehkfcoodbaaGreat

/- account: roll, Roll. -/
import Derived.Test.YtfgiehkfcoodbaaGreatM0
import Derived.Test.YtfgiehkfcoodbaaGreatM10
import Derived.Deep.RegionWith
import Derived.IntWalk
import Derived.Test.YtfgiehkfcoodbaaGreatM7
namespace Go.Proofs.YtfgiehkfcoodbaaGreat
open Go.RowKit
set_option linter.unusedVariables false
set_option maxRecDepth 100000
set_option maxHeartbeats 16000000
def Rolled (m b:Nat) (l:List (Nat × Nat)) (m2 b2:Nat) (l2:List (Nat × Nat)):Prop :=
 (m2 = m ∧ b2 = b ∧ l2 = l) ∨ (m < m2 ∧ b2 = 0 ∧ aged (m2 - m) l = l2)
theorem Rolled.len {m b:Nat} {l:List (Nat × Nat)} {m2 b2:Nat} {l2:List (Nat × Nat)} (h:Rolled m b l m2 b2 l2):l2.length = l.length:=by
 rcases h with ⟨_,_,rfl⟩ | ⟨_,_,rfl⟩
 ·rfl
 ·simp [aged]
theorem Rolled.ok {m b:Nat} {l:List (Nat × Nat)} {m2 b2:Nat} {l2:List (Nat × Nat)} (h:Rolled m b l m2 b2 l2) (hl:DOk l):DOk l2:=by
 rcases h with ⟨_,_,rfl⟩ | ⟨_,_,rfl⟩
 ·exact hl
 ·exact aged_ok hl _
theorem roll_ok (B g me rev next month bought:Nat) (free:Int) (l:List (Nat × Nat)) (At:Option Addr) (nt ct fx fb db al m2 b2:Nat) (l2:List (Nat × Nat)) (w:World) (hk:Ck B w g me rev next month bought free l At nt ct fx fb db al) (hl:DOk l) (hB:B ≤ w.heap.size)
 (hr:Rolled month bought l m2 b2 l2) (hm:m2 ≤ 2399) :
 Calls Tryz.prog 38 #[.pointer (some ⟨g,0,none⟩),m2] w fun e w' => e = .returned (.int .i64 0) ∧ Ck B w' g me rev next m2 b2 free l2 At nt ct fx fb db al ∧ Below B w w':=by
 obtain ⟨hBg,A,c,hblk,hown⟩:=hk
 have k0:w.cell? ⟨g,0,none⟩ = some (.int .i64 ↑me):=hblk.cell 0
 have kf0:w.frozen? ⟨g,0,none⟩ = false:=hblk.frozen 0
 have k1:w.cell? ⟨g,1,none⟩ = some (.int .i64 ↑rev):=hblk.cell 1
 have kf1:w.frozen? ⟨g,1,none⟩ = false:=hblk.frozen 1
 have k2:w.cell? ⟨g,2,none⟩ = some (.int .i64 ↑next):=hblk.cell 2
 have kf2:w.frozen? ⟨g,2,none⟩ = false:=hblk.frozen 2
 have k3:w.cell? ⟨g,3,none⟩ = some (.int .i64 ↑month):=hblk.cell 3
 have kf3:w.frozen? ⟨g,3,none⟩ = false:=hblk.frozen 3
 have k4:w.cell? ⟨g,4,none⟩ = some (.int .i64 ↑bought):=hblk.cell 4
 have kf4:w.frozen? ⟨g,4,none⟩ = false:=hblk.frozen 4
 have k5:w.cell? ⟨g,5,none⟩ = some (.int .i64 free):=hblk.cell 5
 have kf5:w.frozen? ⟨g,5,none⟩ = false:=hblk.frozen 5
 have k6:w.cell? ⟨g,6,none⟩ = some (.slice A l.length c):=hblk.cell 6
 have kf6:w.frozen? ⟨g,6,none⟩ = false:=hblk.frozen 6
 rcases hr with ⟨rfl,rfl,rfl⟩ | ⟨hlt,rfl,haged⟩
 ·go_enter Tryz.func38,Tryz.ntmps38
  go_wp2_with (go_at_call 62;refine (within_yes _ _ _ _ (by omega) (by omega)).mono ?_;rintro e w' ⟨rfl,rfl⟩)
  go_ret
  exact ⟨rfl,⟨hBg,A,c,hblk,hown⟩,Below.refl _ _⟩
 ·have hA:=fun W h => age_is (.slice A l.length c) l l2 ((m2:Int) - (month:Int)) (m2 - month) W h hl (by omega) (by show _ = _;omega) (Lib.hid haged)
  have hv:IsDs w.drew (.slice A l.length c) l:=isds_own (w:=w.drew) rfl hown
  have hwr:IntKind.i64.wrap ((m2:Int) - (month:Int)) = (m2:Int) - (month:Int):=IntWalk.i64_in _ (by omega)
  clear haged
  have hgl:=hblk.lt
  go_enter Tryz.func38,Tryz.ntmps38
  go_wp2_with (go_at_call 62;refine (within_yes _ _ _ _ (by omega) (by omega)).mono ?_;rintro e w' ⟨rfl,rfl⟩)
  go_region_with ((go_at_call 63;(with_reducible refine (hA _ hv).mono ?_);rintro e w1 ⟨A1,c1,rfl,hd1,hown1,hb1⟩;have hblk1:=Blk.below (w:=w.drew) hblk hb1 hgl;have q6:=hblk1.cell 6;have qf6:=hblk1.frozen 6;have q3:=hblk1.cell 3))
  all_goals
   have hb2:Blk (w1.setCell ⟨g,6,none⟩ (.slice A1 l2.length c1)) g 130 #[me,rev,next,month,bought,free,.slice A1 l2.length c1,.slice At nt ct,fx,fb,db,al]:=hblk1.set_ 6 _
   have ho2:=own_far (p:=⟨g,6,none⟩) hown1 hgl (.slice A1 l2.length c1)
   have hbB:Below B w (w1.setCell ⟨g,6,none⟩ (.slice A1 l2.length c1)):=((below_draws (Below.refl B w) 1).trans (hb1.mono (show B ≤ w.drew.heap.size from hB))).setCell (p:=⟨g,6,none⟩) hBg _
   clear q6 qf6 q3 hblk1 hd1 hown1 hb1 hwr hv hA
   clear k0 k1 k2 k3 k4 k5 k6 kf0 kf1 kf2 kf3 kf4 kf5 kf6
   generalize w1.setCell ⟨g,6,none⟩ (.slice A1 l2.length c1) = W2 at *
   have k3:=hb2.cell 3
   have k4:=hb2.cell 4
   have kf3:=hb2.frozen 3
   have kf4:=hb2.frozen 4
   go_wp2
   go_ret
   have hb3:=(hb2.set_ 3 (.int .i64 ↑m2)).set_ 4 (.int .i64 0)
   refine ⟨rfl,⟨hBg,A1,c1,hb3,own_mono (own_far (p:=⟨g,4,none⟩) (own_far (p:=⟨g,3,none⟩) ho2 hgl _) hgl _) hB⟩,(hbB.setCell (p:=⟨g,3,none⟩) hBg _).setCell (p:=⟨g,4,none⟩) hBg _⟩
end Go.Proofs.YtfgiehkfcoodbaaGreat

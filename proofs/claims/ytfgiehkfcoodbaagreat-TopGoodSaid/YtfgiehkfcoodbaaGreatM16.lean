/- account.Sell. -/
import Derived.Test.YtfgiehkfcoodbaaGreatM0
import Derived.Test.YtfgiehkfcoodbaaGreatM15
import Derived.Test.YtfgiehkfcoodbaaGreatM9
namespace Go.Proofs.YtfgiehkfcoodbaaGreat
open Go.RowKit
set_option linter.unusedVariables false
set_option maxRecDepth 100000
set_option maxHeartbeats 16000000
theorem ck_mem {W0 w3:World} {g me rev next month bought:Nat} {free:Int} {l:List (Nat × Nat)} {At:Option Addr} {nt ct fx fb db al:Nat} (hk:Ck W0.heap.size w3 g me rev next month bought free l At nt ct fx fb db al) (hb:Below W0.heap.size W0 w3) :
 ∃ (A:Option Addr) (c:Nat),Mem W0 [] w3 [.blk g 130 #[me,rev,next,month,bought,free,.slice A l.length c,.slice At nt ct,fx,fb,db,al],.row W0.heap.size 90 2 (.slice A l.length c) l.length (drs l)]:=by
 obtain ⟨hBg,A,c,hblk,hown⟩:=hk
 refine ⟨A,c,⟨hb.os,hb.tape,hb.output,hb.size,fun k hk _ => hb.block k hk⟩,fun d hd => ?_,?_,fun d hd k hk => .inl ?_⟩
 ·rcases List.mem_cons.1 hd with rfl | hd
  ·exact hblk
  ·obtain rfl:=List.mem_singleton.1 hd
   exact hown
 ·have hn:=blk_not_row hblk (by decide) hown
  refine List.pairwise_cons.2 ⟨fun d hd k hk hk' => ?_,List.pairwise_singleton _ _⟩
  obtain rfl:=List.mem_singleton.1 hd
  obtain rfl:g = k:=by simpa [Chunk.num] using hk
  exact hn hk'.symm
 ·rcases List.mem_cons.1 hd with rfl | hd
  ·obtain rfl:g = k:=by simpa [Chunk.num] using hk
   exact hBg
  ·obtain rfl:=List.mem_singleton.1 hd
   exact (World.ownsRow.lt hown k hk).1
def RetSell (me rev next next1 m2 bought2:Nat) (free:Int) (t paid F P ch U:Nat) (out:List (Nat × Nat)) (w:World) (e:Ending) (w':World):Prop :=
 ∃ (A2:Option Addr) (c2:Nat),e = .returned (.tuple #[.agg #[me,rev,next1,m2,bought2,free,.slice A2 out.length c2],.agg #[next,t,paid,F,P,ch,U],()]) ∧ w'.ownsRow w.heap.size 90 2 (.slice A2 out.length c2) out.length (drs out) ∧ Below w.heap.size w w'
theorem sellX_yes (me rev next month bought:Nat) (free:Int) (A:Option Addr) (n c:Nat) (l:List (Nat × Nat)) (At:Option Addr) (nt ct fx fb db al:Nat) (tl:List (Nat × Nat)) (m2 b2:Nat) (l2:List (Nat × Nat)) (t S paid f0 F left U P:Nat) (out:List (Nat × Nat)) (next1 bought2 ch:Nat) (w:World)
 (hv:IsDs w (.slice A n c) l) (hl:DOk l) (ha:AOk me rev next month bought free) (hv2:IsDs w (.slice At nt ct) tl) (hl2:TOk tl) (ht:TmOk fx fb db al) (hr:Rolled month bought l m2 b2 l2) (hm:m2 ≤ 2399)
 (hS:Sale l2 tl b2 fx fb db t S paid f0 F left U P out) (hU:1 ≤ U) (hnx:next ≤ 1048575) (hn1:Hid (next1 = next + 1)) (hb2:Hid (bought2 = b2 + U)) (hch:Hid (P + ch = left)) :
 Calls Tryz.prog 20 #[.agg #[me,rev,next,month,bought,free,.slice A n c],.agg #[.slice At nt ct,fx,fb,db,al],t,m2] w (RetSell me rev next next1 m2 bought2 free t paid F P ch U out w):=by
 have hO:=fun W h h2 => open_ok me rev next month bought free A n c l At nt ct fx fb db al tl W h hl ha h2 hl2 ht
 have hR:=fun B g W hk hB => roll_ok B g me rev next month bought free l At nt ct fx fb db al m2 b2 l2 W hk hl hB hr hm
 have hb2':b2 ≤ 10000000:=by have:=ha.h6;rcases hr with ⟨_,rfl,_⟩ | ⟨_,rfl,_⟩ <;> omega
 have hX:=fun g W0 W hk h1 h2 => sell_yes g me rev next m2 b2 free l2 At nt ct fx fb db al tl t S paid f0 F left U P out next1 bought2 ch W0 W hk (hr.ok hl) h1 h2 hl2 ht hb2' hS hU hnx hn1 hb2 hch
 have H:=Mem.init w
 replace H:=H.al w.heap.size #[me,rev,next,month,bought,free,.slice A n c] (64) |>.al (w.heap.size + 1) #[.slice At nt ct,fx,fb,db,al] (31) |>.al (w.heap.size + 1 + 1) #[(),(),(),(),(),(),.slice none 0 0] (64) |>.al (w.heap.size + 1 + 1 + 1) #[(),(),(),(),(),(),()] (47) |>.gen
 simp only [List.nil_append,List.cons_append] at H
 obtain ⟨W0,hW0,H⟩:=H
 have hv0:=hv.below H.below
 have hv20:=hv2.below H.below
 clear hr ha ht hl2 hv hv2 hS
 have La:=H.c7 0 rfl
 have Lt:=H.c5 1 rfl
 have Nat:=H.ne2 0 1 rfl rfl rfl
 go_enter Tryz.func20,Tryz.ntmps20
 go_wp2_with fail
 refine (hO _ hv0 hv20).mono ?_
 rintro e w1 ⟨g,rfl,hk,hb1⟩
 clear La Lt Nat
 go_wp2_with fail
 refine (hR _ g _ hk hb1.size).mono ?_
 rintro e w2 ⟨rfl,hk2,hb2⟩
 have hB2:=hb1.trans hb2
 clear hO hR hk hb1 hb2
 go_wp2_with fail
 refine (hX g W0 w2 hk2 hB2 hv20).mono ?_
 rintro e w3 ⟨rfl,hk3,hb3⟩
 obtain ⟨A2,c2,hK⟩:=ck_mem hk3 hb3
 clear hX hk2 hB2 hk3 hb3 hW0 hv0 hv20
 replace H:Mem (w) [] (w3) [.blk (w.heap.size) 64 #[me,rev,next,month,bought,free,.slice A n c],.blk (w.heap.size + 1) 31 #[.slice At nt ct,fx,fb,db,al],.blk (w.heap.size + 1 + 1) 64 #[(),(),(),(),(),(),.slice none 0 0],.blk (w.heap.size + 1 + 1 + 1) 47 #[(),(),(),(),(),(),()],.blk (g) 130 #[me,rev,next1,m2,bought2,free,.slice A2 out.length c2,.slice At nt ct,fx,fb,db,al],.row (W0.heap.size) (90) (2) (.slice A2 out.length c2) (out.length) (drs out)]:=Mem.join H hK
 clear hK
 go_wp2_with fail
 replace H:=H.al w3.heap.size #[next,t,paid,F,P,ch,U] (47) |>.gen
 simp only [List.cons_append,List.nil_append] at H
 obtain ⟨W4,hW4,H⟩:=H
 rw [hW4]
 clear hW4
 have Lk:=H.c12 4 rfl
 have Lb:=H.c7 6 rfl
 have Lx:=H.c7 2 rfl
 have Ly:=H.c7 3 rfl
 have Nkb:=H.ne2 4 6 rfl rfl rfl
 have Nkx:=H.ne2 4 2 rfl rfl rfl
 have Nky:=H.ne2 4 3 rfl rfl rfl
 have Nbx:=H.ne2 6 2 rfl rfl rfl
 have Nby:=H.ne2 6 3 rfl rfl rfl
 have Nxy:=H.ne2 2 3 rfl rfl rfl
 go_region
 replace H:=H.set 2 rfl 0 me |>.set 2 rfl 1 rev |>.set 2 rfl 2 next1 |>.set 2 rfl 3 m2 |>.set 2 rfl 4 bought2 |>.set 2 rfl 5 free |>.set 2 rfl 6 (.slice A2 out.length c2) |>.set 3 rfl 0 next |>.set 3 rfl 1 t |>.set 3 rfl 2 paid |>.set 3 rfl 3 F |>.set 3 rfl 4 P |>.set 3 rfl 5 ch |>.set 3 rfl 6 U |>.drew |>.gen
 simp only [List.set_cons_zero,List.set_cons_succ,List.setIfInBounds_toArray] at H
 obtain ⟨W5,hW5,H⟩:=H
 rw [hW5]
 clear hW5
 clear Lk Lb Lx Ly Nkb Nkx Nky Nbx Nby Nxy
 obtain ⟨xlt,x0,-,x1,-,x2,-,x3,-,x4,-,x5,-,x6,-⟩:=H.c7 2 rfl
 obtain ⟨ylt,y0,-,y1,-,y2,-,y3,-,y4,-,y5,-,y6,-⟩:=H.c7 3 rfl
 have Nxy:=H.ne2 2 3 rfl rfl rfl
 go_wp2
 refine bodyPost_ret (v:=.tuple #[.agg #[me,rev,next1,m2,bought2,free,.slice A2 out.length c2],.agg #[next,t,paid,F,P,ch,U],()]) (by simp [results,Tryz.results20,go_sem,x0,x1,x2,x3,x4,x5,x6,y0,y1,y2,y3,y4,y5,y6];done) rfl ?_
 exact ⟨A2,c2,rfl,H.ownb 5 rfl,H.below⟩
theorem sellX_no (me rev next month bought:Nat) (free:Int) (A:Option Addr) (n c:Nat) (l:List (Nat × Nat)) (At:Option Addr) (nt ct fx fb db al:Nat) (tl:List (Nat × Nat)) (m2 b2:Nat) (l2:List (Nat × Nat)) (t S paid f0 F:Nat) (li:Int) (out:List (Nat × Nat)) (w:World)
 (hv:IsDs w (.slice A n c) l) (hl:DOk l) (ha:AOk me rev next month bought free) (hv2:IsDs w (.slice At nt ct) tl) (hl2:TOk tl) (ht:TmOk fx fb db al) (hr:Rolled month bought l m2 b2 l2) (hm:m2 ≤ 2399)
 (hS:SaleN l2 tl b2 fx fb db t S paid f0 F li out) :
 Calls Tryz.prog 20 #[.agg #[me,rev,next,month,bought,free,.slice A n c],.agg #[.slice At nt ct,fx,fb,db,al],t,m2] w fun e w' =>
  e = .returned (.tuple #[.agg #[(),(),(),(),(),(),.slice none 0 0],.agg #[(),(),(),(),(),(),()],.int .i64 19]) ∧ Below w.heap.size w w':=by
 have hO:=fun W h h2 => open_ok me rev next month bought free A n c l At nt ct fx fb db al tl W h hl ha h2 hl2 ht
 have hR:=fun B g W hk hB => roll_ok B g me rev next month bought free l At nt ct fx fb db al m2 b2 l2 W hk hl hB hr hm
 have hb2':b2 ≤ 10000000:=by have:=ha.h6;rcases hr with ⟨_,rfl,_⟩ | ⟨_,rfl,_⟩ <;> omega
 have hX:=fun g W0 W hk h1 h2 => sell_no g me rev next m2 b2 free l2 At nt ct fx fb db al tl t S paid f0 F li out W0 W hk (hr.ok hl) h1 h2 hl2 ht hb2' hS
 have H:=Mem.init w
 replace H:=H.al w.heap.size #[me,rev,next,month,bought,free,.slice A n c] (64) |>.al (w.heap.size + 1) #[.slice At nt ct,fx,fb,db,al] (31) |>.al (w.heap.size + 1 + 1) #[(),(),(),(),(),(),.slice none 0 0] (64) |>.al (w.heap.size + 1 + 1 + 1) #[(),(),(),(),(),(),()] (47) |>.gen
 simp only [List.nil_append,List.cons_append] at H
 obtain ⟨W0,hW0,H⟩:=H
 have hv0:=hv.below H.below
 have hv20:=hv2.below H.below
 clear hr ha ht hl2 hv hv2 hS
 have La:=H.c7 0 rfl
 have Lt:=H.c5 1 rfl
 have Nat:=H.ne2 0 1 rfl rfl rfl
 go_enter Tryz.func20,Tryz.ntmps20
 go_wp2_with fail
 refine (hO _ hv0 hv20).mono ?_
 rintro e w1 ⟨g,rfl,hk,hb1⟩
 clear La Lt Nat
 go_wp2_with fail
 refine (hR _ g _ hk hb1.size).mono ?_
 rintro e w2 ⟨rfl,hk2,hb2⟩
 have hB2:=hb1.trans hb2
 clear hO hR hk hb1 hb2
 go_wp2_with fail
 refine (hX g W0 w2 hk2 hB2 hv20).mono ?_
 rintro e w3 ⟨rfl,hb3⟩
 have hK:Mem W0 [] w3 []:=(Mem.init W0).call hb3
 clear hX hk2 hB2 hb3 hW0 hv0 hv20
 replace H:=H.join hK
 clear hK
 have H:Mem (w) [] (w3) [.blk (w.heap.size) 64 #[me,rev,next,month,bought,free,.slice A n c],.blk (w.heap.size + 1) 31 #[.slice At nt ct,fx,fb,db,al],.blk (w.heap.size + 1 + 1) 64 #[(),(),(),(),(),(),.slice none 0 0],.blk (w.heap.size + 1 + 1 + 1) 47 #[(),(),(),(),(),(),()]]:=H
 have Lx:=H.c7 2 rfl
 have Ly:=H.c7 3 rfl
 have Nxy:=H.ne2 2 3 rfl rfl rfl
 go_wp2_with fail
 replace H:=H.set 2 rfl 0 () |>.set 2 rfl 1 () |>.set 2 rfl 2 () |>.set 2 rfl 3 () |>.set 2 rfl 4 () |>.set 2 rfl 5 () |>.set 2 rfl 6 (.slice none 0 0) |>.set 3 rfl 0 () |>.set 3 rfl 1 () |>.set 3 rfl 2 () |>.set 3 rfl 3 () |>.set 3 rfl 4 () |>.set 3 rfl 5 () |>.set 3 rfl 6 () |>.al w3.heap.size #[(),(),(),(),(),(),()] (47) |>.gen
 simp only [List.set_cons_zero,List.set_cons_succ,List.setIfInBounds_toArray,List.cons_append,List.nil_append] at H
 obtain ⟨W5,hW5,H⟩:=H
 rw [hW5]
 clear hW5
 clear Lx Ly Nxy
 obtain ⟨xlt,x0,-,x1,-,x2,-,x3,-,x4,-,x5,-,x6,-⟩:=H.c7 2 rfl
 obtain ⟨ylt,y0,-,y1,-,y2,-,y3,-,y4,-,y5,-,y6,-⟩:=H.c7 3 rfl
 have Nxy:=H.ne2 2 3 rfl rfl rfl
 refine bodyPost_ret (v:=.tuple #[.agg #[(),(),(),(),(),(),.slice none 0 0],.agg #[(),(),(),(),(),(),()],.int .i64 19]) (by simp [results,Tryz.results20,go_sem,x0,x1,x2,x3,x4,x5,x6,y0,y1,y2,y3,y4,y5,y6];done) rfl ?_
 exact ⟨rfl,H.below⟩
end Go.Proofs.YtfgiehkfcoodbaaGreat

/- token: Words: a token's wide number. -/
import Derived.Test.YtfgiehkfcoodbaaGreatM0
import Derived.Test.YtfgiehkfcoodbaaGreatM29
import Derived.Test.YtfgiehkfcoodbaaGreatM31
import Derived.Test.YtfgiehkfcoodbaaGreatM23
namespace Go.Proofs.YtfgiehkfcoodbaaGreat
open Go.RowKit
set_option linter.unusedVariables false
set_option maxRecDepth 100000
set_option maxHeartbeats 16000000
def tokN (cls id am tag:Nat):Nat:=tag + am * 65536 + id * 137438953472 + cls * 144115188075855872
theorem tokN_lt {cls id am tag:Nat} (h:TkOk cls id am tag):tokN cls id am tag < 576460752303423488:=by
 have:=h.am
 obtain ⟨h1,h2,h3,h4,h5⟩:=h
 unfold tokN;omega
theorem put_top {N lo m v:Nat} (h:N < 2 ^ lo):putN N lo m v = N + 2 ^ lo * v:=by
 unfold putN
 have h2:N / 2 ^ (lo + m) = 0:=Nat.div_eq_of_lt (Nat.lt_of_lt_of_le h (Nat.pow_le_pow_right (by omega) (by omega)))
 rw [h2,Nat.mod_eq_of_lt h];simp
theorem fields_tokN (q:Nat) (h:bitsN q 59 32 = 0) (hq:q < 2 ^ 91):tokN (bitsN q 57 2) (bitsN q 37 20) (bitsN q 16 21) (bitsN q 0 16) = q:=by
 unfold bitsN at *
 unfold tokN
 omega
theorem tw_c {x c n:Nat} (h:x + c * 79228162514264337593543950336 = n * 97) (hn:n < 576460752303423488):x = n * 97:=by omega
theorem tw_1 {n tag:Nat} (h:n = putN 0 0 16 tag):n = tag:=by rw [h,put_top (by decide)];simp
theorem tw_2 {n V tag am:Nat} (h:n = putN V 16 21 am) (hV:V = tag) (ht:tag ≤ 65535):n = tag + am * 65536:=by
 rw [h,put_top (by omega),hV];omega
theorem tw_3 {n V tag am id:Nat} (h:n = putN V 37 20 id) (hV:V = tag + am * 65536) (ht:tag ≤ 65535) (ha:am ≤ 2097151):n = tag + am * 65536 + id * 137438953472:=by
 rw [h,put_top (by omega),hV];omega
theorem tw_4 {n V tag am id cls:Nat} (h:n = putN V 57 2 cls) (hV:V = tag + am * 65536 + id * 137438953472) (ht:tag ≤ 65535) (ha:am ≤ 2097151) (hi:id ≤ 1048575):n = tokN cls id am tag:=by
 rw [h,put_top (by omega),hV];unfold tokN;omega
theorem twords_ok (cls id am tag:Nat) (w:World) (hk:TkOk cls id am tag) :
 Calls Tryz.prog 146 #[.agg #[cls,id,am,tag]] w (IsWide2 (tokN cls id am tag * 97) w):=by
 have hF:=fun W => fault_is (Lib.hid (tfault_ok hk)) W
 have HT:=Lib.hid (tokN_lt hk)
 have ham:=hk.am
 obtain ⟨k1,k2,k3,k4,k5⟩:=hk
 have b1:(cls:Int) ≤ 3:=by omega
 have b2:(id:Int) ≤ 1048575:=by omega
 have b3:(am:Int) ≤ 2097151:=by omega
 have b4:(tag:Int) ≤ 65535:=by omega
 have i0:∀ W,(Instr.index 297 (.agg #[.int .i64 16,tag,.int .i64 21,am,.int .i64 20,id,.int .i64 2,cls]) (.int .i64 0)).run Tryz.prog W = .ok (.agg #[.int .i64 16,tag]) W:=fun _ => by kernel_rfl
 have i1:∀ W,(Instr.index 297 (.agg #[.int .i64 16,tag,.int .i64 21,am,.int .i64 20,id,.int .i64 2,cls]) (.int .i64 1)).run Tryz.prog W = .ok (.agg #[.int .i64 21,am]) W:=fun _ => by kernel_rfl
 have i2:∀ W,(Instr.index 297 (.agg #[.int .i64 16,tag,.int .i64 21,am,.int .i64 20,id,.int .i64 2,cls]) (.int .i64 2)).run Tryz.prog W = .ok (.agg #[.int .i64 20,id]) W:=fun _ => by kernel_rfl
 have i3:∀ W,(Instr.index 297 (.agg #[.int .i64 16,tag,.int .i64 21,am,.int .i64 20,id,.int .i64 2,cls]) (.int .i64 3)).run Tryz.prog W = .ok (.agg #[.int .i64 2,cls]) W:=fun _ => by kernel_rfl
 have K:=Lib.hid (show cls ≤ 3 ∧ id ≤ 1048575 ∧ am ≤ 2097151 ∧ tag ≤ 65535 from ⟨k1,k3,ham,k5⟩)
 clear k1 k2 k3 k4 k5 ham
 have H:=Mem.init w
 replace H:=H.al w.heap.size #[cls,id,am,tag] (273) |>.al (w.heap.size + 1) #[.int .u32 0,.int .u32 0,.int .u32 0] (288) |>.gen
 simp only [List.nil_append,List.cons_append] at H
 obtain ⟨W0,hW0,H⟩:=H
 have Ltk:=H.c4 0 rfl
 go_enter Tryz.func146,Tryz.ntmps146
 go_wp2_with fail
 refine (hF _).mono ?_
 rintro e wa ⟨rfl,hba⟩
 replace H:=Mem.call H hba
 clear Ltk
 have Ltk:=H.c4 0 rfl
 have Lrs:=H.c3 1 rfl
 have Ntkrs:=H.ne2 0 1 rfl rfl rfl
 clear hba hF hW0
 go_wp2
 replace H:=H.al wa.heap.size #[.int .u32 0,.int .u32 0,.int .u32 0] (288) |>.gen
 simp only [List.cons_append,List.nil_append] at H
 obtain ⟨wb,hwb,H⟩:=H
 rw [hwb]
 clear hwb
 clear Ltk Lrs Ntkrs
 have Ltk:=H.c4 0 rfl
 have Lrs:=H.c3 1 rfl
 have Lwd:=H.c3 2 rfl
 have Ntkrs:=H.ne2 0 1 rfl rfl rfl
 have Ntkwd:=H.ne2 0 2 rfl rfl rfl
 have Nrswd:=H.ne2 1 2 rfl rfl rfl
 refine wp_loop_rounds 5 ?_
 rw [rounds_succ]
 have hP:=fun W => put_ok 0 0 0 0 16 tag W (by omega) (by omega) (by omega) (by omega) (by omega) (by omega) (by have:=K.out;omega)
 go_wp2_with fail
 replace H:=H.al wb.heap.size #[.int .i64 16,tag] (296) |>.gen
 simp only [List.cons_append,List.nil_append] at H
 obtain ⟨wx0,hwx0,H⟩:=H
 rw [hwx0]
 clear hwx0
 refine (hP _).mono ?_
 rintro e wc0 ⟨p00,p01,p02,rfl,l00,l01,l02,hv0,hb⟩
 replace H:=Mem.call H hb
 clear Ltk Lrs Lwd Ntkrs Ntkwd Nrswd
 have Ltk:=H.c4 0 rfl
 have Lrs:=H.c3 1 rfl
 have Lwd:=H.c3 2 rfl
 have Lf0:=H.c2 3 rfl
 have Ntkrs:=H.ne2 0 1 rfl rfl rfl
 have Ntkwd:=H.ne2 0 2 rfl rfl rfl
 have Ntkf0:=H.ne2 0 3 rfl rfl rfl
 have Nrswd:=H.ne2 1 2 rfl rfl rfl
 have Nrsf0:=H.ne2 1 3 rfl rfl rfl
 have Nwdf0:=H.ne2 2 3 rfl rfl rfl
 have V0:=Lib.hid (tw_1 (hv0.trans (by rfl)))
 clear hb hv0 hP i0
 go_wp2
 replace H:=H.set 2 rfl 0 (.int .u32 ↑p00) |>.set 2 rfl 1 (.int .u32 ↑p01) |>.set 2 rfl 2 (.int .u32 ↑p02) |>.gen
 simp only [List.set_cons_zero,List.set_cons_succ,List.setIfInBounds_toArray] at H
 obtain ⟨wy0,hwy0,H⟩:=H
 rw [hwy0]
 clear hwy0
 clear Ltk Lrs Lwd Lf0 Ntkrs Ntkwd Ntkf0 Nrswd Nrsf0 Nwdf0
 have Ltk:=H.c4 0 rfl
 have Lrs:=H.c3 1 rfl
 have Lwd:=H.c3 2 rfl
 have Ntkrs:=H.ne2 0 1 rfl rfl rfl
 have Ntkwd:=H.ne2 0 2 rfl rfl rfl
 have Nrswd:=H.ne2 1 2 rfl rfl rfl
 rw [rounds_succ]
 have hP:=fun W => put_ok p00 p01 p02 16 21 am W (by omega) (by omega) (by omega) (by omega) (by omega) (by omega) (by have:=K.out;omega)
 go_wp2_with fail
 replace H:=H.al wy0.heap.size #[.int .i64 21,am] (296) |>.gen
 simp only [List.cons_append,List.nil_append] at H
 obtain ⟨wx1,hwx1,H⟩:=H
 rw [hwx1]
 clear hwx1
 refine (hP _).mono ?_
 rintro e wc1 ⟨p10,p11,p12,rfl,l10,l11,l12,hv1,hb⟩
 replace H:=Mem.call H hb
 clear Ltk Lrs Lwd Ntkrs Ntkwd Nrswd
 have Ltk:=H.c4 0 rfl
 have Lrs:=H.c3 1 rfl
 have Lwd:=H.c3 2 rfl
 have Lf1:=H.c2 4 rfl
 have Ntkrs:=H.ne2 0 1 rfl rfl rfl
 have Ntkwd:=H.ne2 0 2 rfl rfl rfl
 have Ntkf1:=H.ne2 0 4 rfl rfl rfl
 have Nrswd:=H.ne2 1 2 rfl rfl rfl
 have Nrsf1:=H.ne2 1 4 rfl rfl rfl
 have Nwdf1:=H.ne2 2 4 rfl rfl rfl
 have V1:=Lib.hid (tw_2 hv1 V0.out K.out.2.2.2)
 clear hb hv1 hP i1
 go_wp2
 replace H:=H.set 2 rfl 0 (.int .u32 ↑p10) |>.set 2 rfl 1 (.int .u32 ↑p11) |>.set 2 rfl 2 (.int .u32 ↑p12) |>.gen
 simp only [List.set_cons_zero,List.set_cons_succ,List.setIfInBounds_toArray] at H
 obtain ⟨wy1,hwy1,H⟩:=H
 rw [hwy1]
 clear hwy1
 clear Ltk Lrs Lwd Lf1 Ntkrs Ntkwd Ntkf1 Nrswd Nrsf1 Nwdf1
 have Ltk:=H.c4 0 rfl
 have Lrs:=H.c3 1 rfl
 have Lwd:=H.c3 2 rfl
 have Ntkrs:=H.ne2 0 1 rfl rfl rfl
 have Ntkwd:=H.ne2 0 2 rfl rfl rfl
 have Nrswd:=H.ne2 1 2 rfl rfl rfl
 rw [rounds_succ]
 have hP:=fun W => put_ok p10 p11 p12 37 20 id W (by omega) (by omega) (by omega) (by omega) (by omega) (by omega) (by have:=K.out;omega)
 go_wp2_with fail
 replace H:=H.al wy1.heap.size #[.int .i64 20,id] (296) |>.gen
 simp only [List.cons_append,List.nil_append] at H
 obtain ⟨wx2,hwx2,H⟩:=H
 rw [hwx2]
 clear hwx2
 refine (hP _).mono ?_
 rintro e wc2 ⟨p20,p21,p22,rfl,l20,l21,l22,hv2,hb⟩
 replace H:=Mem.call H hb
 clear Ltk Lrs Lwd Ntkrs Ntkwd Nrswd
 have Ltk:=H.c4 0 rfl
 have Lrs:=H.c3 1 rfl
 have Lwd:=H.c3 2 rfl
 have Lf2:=H.c2 5 rfl
 have Ntkrs:=H.ne2 0 1 rfl rfl rfl
 have Ntkwd:=H.ne2 0 2 rfl rfl rfl
 have Ntkf2:=H.ne2 0 5 rfl rfl rfl
 have Nrswd:=H.ne2 1 2 rfl rfl rfl
 have Nrsf2:=H.ne2 1 5 rfl rfl rfl
 have Nwdf2:=H.ne2 2 5 rfl rfl rfl
 have V2:=Lib.hid (tw_3 hv2 V1.out K.out.2.2.2 K.out.2.2.1)
 clear hb hv2 hP i2
 go_wp2
 replace H:=H.set 2 rfl 0 (.int .u32 ↑p20) |>.set 2 rfl 1 (.int .u32 ↑p21) |>.set 2 rfl 2 (.int .u32 ↑p22) |>.gen
 simp only [List.set_cons_zero,List.set_cons_succ,List.setIfInBounds_toArray] at H
 obtain ⟨wy2,hwy2,H⟩:=H
 rw [hwy2]
 clear hwy2
 clear Ltk Lrs Lwd Lf2 Ntkrs Ntkwd Ntkf2 Nrswd Nrsf2 Nwdf2
 have Ltk:=H.c4 0 rfl
 have Lrs:=H.c3 1 rfl
 have Lwd:=H.c3 2 rfl
 have Ntkrs:=H.ne2 0 1 rfl rfl rfl
 have Ntkwd:=H.ne2 0 2 rfl rfl rfl
 have Nrswd:=H.ne2 1 2 rfl rfl rfl
 rw [rounds_succ]
 have hP:=fun W => put_ok p20 p21 p22 57 2 cls W (by omega) (by omega) (by omega) (by omega) (by omega) (by omega) (by have:=K.out;omega)
 go_wp2_with fail
 replace H:=H.al wy2.heap.size #[.int .i64 2,cls] (296) |>.gen
 simp only [List.cons_append,List.nil_append] at H
 obtain ⟨wx3,hwx3,H⟩:=H
 rw [hwx3]
 clear hwx3
 refine (hP _).mono ?_
 rintro e wc3 ⟨p30,p31,p32,rfl,l30,l31,l32,hv3,hb⟩
 replace H:=Mem.call H hb
 clear Ltk Lrs Lwd Ntkrs Ntkwd Nrswd
 have Ltk:=H.c4 0 rfl
 have Lrs:=H.c3 1 rfl
 have Lwd:=H.c3 2 rfl
 have Lf3:=H.c2 6 rfl
 have Ntkrs:=H.ne2 0 1 rfl rfl rfl
 have Ntkwd:=H.ne2 0 2 rfl rfl rfl
 have Ntkf3:=H.ne2 0 6 rfl rfl rfl
 have Nrswd:=H.ne2 1 2 rfl rfl rfl
 have Nrsf3:=H.ne2 1 6 rfl rfl rfl
 have Nwdf3:=H.ne2 2 6 rfl rfl rfl
 have V3:=Lib.hid (tw_4 hv3 V2.out K.out.2.2.2 K.out.2.2.1 K.out.2.1)
 clear hb hv3 hP i3
 go_wp2
 replace H:=H.set 2 rfl 0 (.int .u32 ↑p30) |>.set 2 rfl 1 (.int .u32 ↑p31) |>.set 2 rfl 2 (.int .u32 ↑p32) |>.gen
 simp only [List.set_cons_zero,List.set_cons_succ,List.setIfInBounds_toArray] at H
 obtain ⟨wy3,hwy3,H⟩:=H
 rw [hwy3]
 clear hwy3
 clear Ltk Lrs Lwd Lf3 Ntkrs Ntkwd Ntkf3 Nrswd Nrsf3 Nwdf3
 have Ltk:=H.c4 0 rfl
 have Lrs:=H.c3 1 rfl
 have Lwd:=H.c3 2 rfl
 have Ntkrs:=H.ne2 0 1 rfl rfl rfl
 have Ntkwd:=H.ne2 0 2 rfl rfl rfl
 have Nrswd:=H.ne2 1 2 rfl rfl rfl
 have hTi:=fun W => times_is p30 p31 p32 97 W l30 l31 l32 (by omega)
 rw [V3.out] at hTi
 rw [rounds_succ]
 go_wp2_with fail
 refine (hTi _).mono ?_
 rintro e wz ⟨y0,y1,y2,c,m0,m1,m2,m3,hy,rfl,hbz⟩
 replace H:=Mem.call H hbz
 clear Ltk Lrs Lwd Ntkrs Ntkwd Nrswd
 have Lrs:=H.c3 1 rfl
 have Lwd:=H.c3 2 rfl
 have Nrswd:=H.ne2 1 2 rfl rfl rfl
 clear hbz hTi
 go_wp2
 replace H:=H.set 2 rfl 0 (.int .u32 ↑y0) |>.set 2 rfl 1 (.int .u32 ↑y1) |>.set 2 rfl 2 (.int .u32 ↑y2) |>.set 1 rfl 0 (.int .u32 ↑y0) |>.set 1 rfl 1 (.int .u32 ↑y1) |>.set 1 rfl 2 (.int .u32 ↑y2) |>.gen
 simp only [List.set_cons_zero,List.set_cons_succ,List.setIfInBounds_toArray] at H
 obtain ⟨we,hwe,H⟩:=H
 rw [hwe]
 clear hwe
 clear Lrs Lwd Nrswd
 obtain ⟨rslt,rs0,-,rs1,-,rs2,-⟩:=H.c3 1 rfl
 refine bodyPost_ret (v:=.tuple #[.agg #[.int .u32 ↑y0,.int .u32 ↑y1,.int .u32 ↑y2],()]) (by simp [results,Tryz.results146,go_sem,rs0,rs1,rs2];done) rfl ?_
 exact ⟨y0,y1,y2,rfl,m0,m1,m2,tw_c hy.out HT.out,H.below⟩
end Go.Proofs.YtfgiehkfcoodbaaGreat

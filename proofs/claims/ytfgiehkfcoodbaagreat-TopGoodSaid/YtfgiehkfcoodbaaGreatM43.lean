/- meter: (state).take. -/
import Derived.Test.YtfgiehkfcoodbaaGreatM0
import Derived.Test.YtfgiehkfcoodbaaGreatM42
import Derived.Deep.DeepCutAuto
import Derived.BigRegion
namespace Go.Proofs.YtfgiehkfcoodbaaGreat
open Go.RowKit Go.Maps Go.ChangeShapes Go.WideShapes
set_option linter.unusedVariables false
set_option maxRecDepth 100000
set_option maxHeartbeats 16000000
theorem mtake_ok (g me rev cr H B bad lock cls id am tag:Nat) (w:World) (hg:Blk w g 355 #[me,rev,cr,H,.int .u64 (B:Int),bad,lock,()])
 (hW:WMay H B) (h1:cr ≤ 99999999) (hk:TkOk cls id am tag) (hc:cls ≤ 2) (rev2 cr2 H2 B2 bad2 ad E:Nat) (hE:Hid (takeS rev cr H B bad cls id am = (rev2,cr2,H2,B2,bad2,ad,E))) :
 Calls Tryz.prog 191 #[.pointer (some ⟨g,0,none⟩),.agg #[cls,id,am,tag]] w fun e w' =>
  e = .returned (.int .i64 ↑E) ∧ Mem w [g] w' [.blk g 355 #[me,rev2,cr2,H2,.int .u64 (B2:Int),bad2,lock,ad]]:=by
 have ham:=hk.am
 obtain ⟨k1,k2,k3,k4,k5⟩:=hk
 obtain ⟨C,hC⟩:∃ C,judge H B id = C:=⟨_,rfl⟩
 obtain ⟨h2,b2,hT,hT0⟩:∃ h2 b2:Nat,(∀ W,Calls Tryz.prog 202 #[.agg #[H,.int .u64 (B:Int)],id] W fun e w' => e = .returned (.tuple #[.agg #[h2,.int .u64 (b2:Int)],C]) ∧ Below W.heap.size W w') ∧ (C = 0 → (wtake H B id).1 = h2 ∧ (wtake H B id).2 = b2):=by
  rcases Nat.eq_zero_or_pos C with h | h
  ·subst h
   exact ⟨_,_,fun W => take_ok H B id W hW k2 k3 hC,fun _ => ⟨rfl,rfl⟩⟩
  ·exact ⟨0,0,fun W => take_no H B id C W hW k2 k3 (Lib.hid hC) h,fun h0 => by omega⟩
 have hE:=hE.out
 unfold takeS at hE
 rw [hC] at hE
 have HE:=Lib.hid hE
 have HT0:=Lib.hid hT0
 clear hE hT0 hC hW
 have hgl:=Blk.lt hg
 have HM:Mem (w) [g] (w) [.blk (g) 355 #[me,rev,cr,H,.int .u64 (B:Int),bad,lock,()]]:=Mem.init1 hg
 replace HM:=HM.al w.heap.size #[cls,id,am,tag] (273) |>.gen
 simp only [List.cons_append,List.nil_append] at HM
 obtain ⟨W0,hW0,HM⟩:=HM
 have Ls:=HM.c8 0 rfl
 have Ltk:=HM.c4 1 rfl
 have Nstk:=HM.ne2 0 1 rfl rfl rfl
 go_enter Tryz.func191,Tryz.ntmps191
 go_upto_region 1 with fail
 go_cut [5,6] (fun p q wx => ∃ gw:Nat,p = .pointer (some ⟨gw,0,none⟩) ∧ q = .int .i64 ↑C ∧ Mem w [g] wx [.blk g 355 #[me,rev,cr,H,.int .u64 (B:Int),bad,lock,()],.blk w.heap.size 273 #[cls,id,am,tag],.blk gw 79 #[h2,.int .u64 (b2:Int)]])
 case first =>
  clear HE HT0 hg
  have V1:Blk (W0.alloc (.cells #[(),.int .u64 0] 79)).drew W0.heap.size 79 #[(),.int .u64 0]:=Blk.new W0 _ _
  have V2:W0.heap.size + 1 ≤ ((W0.alloc (.cells #[(),.int .u64 0] 79)).drew).heap.size:=by simp
  go_region_with (first | (go_at_call 202;(with_reducible refine (hT W0.drew).mono ?_);rintro e wt ⟨rfl,hbt⟩) | (go_at_call 202;(with_reducible refine (hT (W0.alloc (.cells #[(),.int .u64 0] 79)).drew).mono ?_);rintro e wt ⟨rfl,hbt⟩;have V3:=Nat.le_trans V2 hbt.size;have z:=Blk.below V1 hbt V1.lt;have z0:=z.cell 0;have zf0:=z.frozen 0;have z1:=z.cell 1;have zf1:=z.frozen 1;have zlt:W0.heap.size < wt.heap.size:=(by omega)))
  all_goals
   clear V1 V2 hT
   clear Ls Ltk Nstk
   first
   | (replace HM:=Mem.call (Mem.drew HM) hbt
      replace HM:=HM.al wt.heap.size #[h2,.int .u64 (b2:Int)] (79) |>.gen
      simp only [List.cons_append,List.nil_append] at HM
      obtain ⟨Wz,hWz,HM⟩:=HM
      rw [hWz]
      clear hWz
      go_wp2_with fail
      go_meet
      exact ⟨_,rfl,rfl,HM⟩)
   | (skip
      replace HM:=HM.al W0.heap.size #[(),.int .u64 0] (79) |>.drew |>.gen
      simp only [List.cons_append,List.nil_append] at HM
      obtain ⟨Wy,hWy,HM⟩:=HM
      rw [hWy] at hbt
      replace HM:=Mem.call HM hbt
      replace HM:=HM.set 2 rfl 0 h2 |>.set 2 rfl 1 (.int .u64 (b2:Int)) |>.gen
      simp only [List.set_cons_zero,List.set_cons_succ,List.setIfInBounds_toArray] at HM
      obtain ⟨Wz,hWz,HM⟩:=HM
      rw [hWz]
      clear hWz
      go_wp2_with fail
      go_meet
      exact ⟨_,rfl,rfl,HM⟩)
 case rest =>
  obtain ⟨gw,rfl,rfl,HM⟩:=hcut
  have HM:Mem (w) [g] (wc) [.blk (g) 355 #[me,rev,cr,H,.int .u64 (B:Int),bad,lock,()],.blk (w.heap.size) 273 #[cls,id,am,tag],.blk (gw) 79 #[h2,.int .u64 (b2:Int)]]:=HM
  have Ls:=HM.c8 0 rfl
  have Ltk:=HM.c4 1 rfl
  have Lwn:=HM.c2 2 rfl
  have Nstk:=HM.ne2 0 1 rfl rfl rfl
  have Nswn:=HM.ne2 0 2 rfl rfl rfl
  have Ntkwn:=HM.ne2 1 2 rfl rfl rfl
  have HE2:=HE.out
  rcases Nat.eq_zero_or_pos C with hC | hC
  ·subst hC
   obtain ⟨e1,e2⟩:=HT0.out rfl
   rw [if_neg (by omega),e1,e2] at HE2
   have hgb:=HM.blk 0 rfl
   clear HT0 HE
   rcases Nat.lt_or_ge 1 cls with hc1 | hc1
   ·have hcl:cls = 2:=by omega
    have hq1:((cls:Int) == 1) = false:=by simp;omega
    have hq2:((cls:Int) == 2) = true:=by simp;omega
    rw [if_neg (by omega),if_neg (by omega)] at HE2
    have hCh:=fun rv E h => mchange_ok g me rev cr H B bad lock am wc hgb rv E h
    go_wp2_with fail
    by_cases hle:am ≤ rev
    ·rw [if_pos hle] at HE2
     injection HE2 with f1 HE2;injection HE2 with f2 HE2;injection HE2 with f3 HE2;injection HE2 with f4 HE2;injection HE2 with f5 HE2;injection HE2 with f6 f7
     subst f1;subst f2;subst f3;subst f4;subst f5;subst f6;subst f7
     refine (hCh rev 24 (by show _ = _;rw [if_pos hle])).mono ?_
     rintro e wd ⟨rfl,hK⟩
     replace HM:Mem (w) [g] (wd) [.blk (g) 355 #[me,rev,cr,H,.int .u64 (B:Int),bad,lock,()],.blk (w.heap.size) 273 #[cls,id,am,tag],.blk (gw) 79 #[h2,.int .u64 (b2:Int)]]:=Mem.joinAt 0 HM rfl hK
     clear Ls Ltk Lwn Nstk Nswn Ntkwn
     have Ls:=HM.c8 0 rfl
     have Ltk:=HM.c4 1 rfl
     have Lwn:=HM.c2 2 rfl
     have Nstk:=HM.ne2 0 1 rfl rfl rfl
     have Nswn:=HM.ne2 0 2 rfl rfl rfl
     have Ntkwn:=HM.ne2 1 2 rfl rfl rfl
     clear hCh hK hgb
     go_wp2
     go_ret
     exact ⟨rfl,(HM.drop_ 2).drop_ 1⟩
    ·skip
     rw [if_neg hle] at HE2
     injection HE2 with f1 HE2;injection HE2 with f2 HE2;injection HE2 with f3 HE2;injection HE2 with f4 HE2;injection HE2 with f5 HE2;injection HE2 with f6 f7
     subst f1;subst f2;subst f3;subst f4;subst f5;subst f6;subst f7
     refine (hCh am 0 (by show _ = _;rw [if_neg hle])).mono ?_
     rintro e wd ⟨rfl,hK⟩
     replace HM:Mem (w) [g] (wd) [.blk (g) 355 #[me,am,cr,H,.int .u64 (B:Int),bad,lock,()],.blk (w.heap.size) 273 #[cls,id,am,tag],.blk (gw) 79 #[h2,.int .u64 (b2:Int)]]:=Mem.joinAt 0 HM rfl hK
     clear Ls Ltk Lwn Nstk Nswn Ntkwn
     have Ls:=HM.c8 0 rfl
     have Ltk:=HM.c4 1 rfl
     have Lwn:=HM.c2 2 rfl
     have Nstk:=HM.ne2 0 1 rfl rfl rfl
     have Nswn:=HM.ne2 0 2 rfl rfl rfl
     have Ntkwn:=HM.ne2 1 2 rfl rfl rfl
     clear hCh hK hgb
     go_wp2
     replace HM:=HM.set 0 rfl 3 h2 |>.set 0 rfl 4 (.int .u64 (b2:Int)) |>.set 0 rfl 5 () |>.gen
     simp only [List.set_cons_zero,List.set_cons_succ,List.setIfInBounds_toArray] at HM
     obtain ⟨We,hWe,HM⟩:=HM
     rw [hWe]
     clear hWe
     go_ret
     exact ⟨rfl,(HM.drop_ 2).drop_ 1⟩
   ·rcases Nat.eq_zero_or_pos cls with hc0 | hc0
    ·skip
     have hq1:((cls:Int) == 1) = false:=by simp;omega
     have hq2:((cls:Int) == 2) = false:=by simp;omega
     rw [if_pos hc0] at HE2
     have hCr:=fun c a E h => mcredit_ok g me rev cr H B bad lock am wc hgb h1 ham c a E h
     go_wp2_with fail
     by_cases hle:99999999 < cr + am
     ·rw [if_pos hle] at HE2
      injection HE2 with f1 HE2;injection HE2 with f2 HE2;injection HE2 with f3 HE2;injection HE2 with f4 HE2;injection HE2 with f5 HE2;injection HE2 with f6 f7
      subst f1;subst f2;subst f3;subst f4;subst f5;subst f6;subst f7
      refine (hCr cr 0 15 (by show _ = _;rw [if_pos hle])).mono ?_
      rintro e wd ⟨rfl,hK⟩
      replace HM:Mem (w) [g] (wd) [.blk (g) 355 #[me,rev,cr,H,.int .u64 (B:Int),bad,lock,()],.blk (w.heap.size) 273 #[cls,id,am,tag],.blk (gw) 79 #[h2,.int .u64 (b2:Int)]]:=Mem.joinAt 0 HM rfl hK
      clear Ls Ltk Lwn Nstk Nswn Ntkwn
      have Ls:=HM.c8 0 rfl
      have Ltk:=HM.c4 1 rfl
      have Lwn:=HM.c2 2 rfl
      have Nstk:=HM.ne2 0 1 rfl rfl rfl
      have Nswn:=HM.ne2 0 2 rfl rfl rfl
      have Ntkwn:=HM.ne2 1 2 rfl rfl rfl
      clear hCr hK hgb
      go_wp2
      go_ret
      exact ⟨rfl,(HM.drop_ 2).drop_ 1⟩
     ·skip
      rw [if_neg hle] at HE2
      obtain ⟨x,hx⟩:∃ x,cr + am = x:=⟨_,rfl⟩
      rw [hx] at HE2
      injection HE2 with f1 HE2;injection HE2 with f2 HE2;injection HE2 with f3 HE2;injection HE2 with f4 HE2;injection HE2 with f5 HE2;injection HE2 with f6 f7
      subst f1;subst f2;subst f3;subst f4;subst f5;subst f6;subst f7
      refine (hCr x am 0 (by show _ = _;rw [if_neg hle,hx])).mono ?_
      rintro e wd ⟨rfl,hK⟩
      replace HM:Mem (w) [g] (wd) [.blk (g) 355 #[me,rev,x,H,.int .u64 (B:Int),bad,lock,am],.blk (w.heap.size) 273 #[cls,id,am,tag],.blk (gw) 79 #[h2,.int .u64 (b2:Int)]]:=Mem.joinAt 0 HM rfl hK
      clear Ls Ltk Lwn Nstk Nswn Ntkwn
      have Ls:=HM.c8 0 rfl
      have Ltk:=HM.c4 1 rfl
      have Lwn:=HM.c2 2 rfl
      have Nstk:=HM.ne2 0 1 rfl rfl rfl
      have Nswn:=HM.ne2 0 2 rfl rfl rfl
      have Ntkwn:=HM.ne2 1 2 rfl rfl rfl
      clear hCr hK hgb hx
      go_wp2
      replace HM:=HM.set 0 rfl 3 h2 |>.set 0 rfl 4 (.int .u64 (b2:Int)) |>.set 0 rfl 5 () |>.gen
      simp only [List.set_cons_zero,List.set_cons_succ,List.setIfInBounds_toArray] at HM
      obtain ⟨We,hWe,HM⟩:=HM
      rw [hWe]
      clear hWe
      go_ret
      exact ⟨rfl,(HM.drop_ 2).drop_ 1⟩
    ·skip
     have hcl:cls = 1:=by omega
     have hq1:((cls:Int) == 1) = true:=by simp;omega
     rw [if_neg (by omega),if_pos hcl] at HE2
     clear hcl
     have hCl:=fun x => mclear_ok g me rev cr H B bad lock x wc hgb
     injection HE2 with f1 HE2;injection HE2 with f2 HE2;injection HE2 with f3 HE2;injection HE2 with f4 HE2;injection HE2 with f5 HE2;injection HE2 with f6 f7
     subst f1;subst f2;subst f3;subst f4;subst f5;subst f6;subst f7
     go_wp2_with fail
     refine (hCl _).mono ?_
     rintro e wd ⟨rfl,hK⟩
     replace HM:Mem (w) [g] (wd) [.blk (g) 355 #[me,rev,(),H,.int .u64 (B:Int),bad,lock,()],.blk (w.heap.size) 273 #[cls,id,am,tag],.blk (gw) 79 #[h2,.int .u64 (b2:Int)]]:=Mem.joinAt 0 HM rfl hK
     clear Ls Ltk Lwn Nstk Nswn Ntkwn
     have Ls:=HM.c8 0 rfl
     have Ltk:=HM.c4 1 rfl
     have Lwn:=HM.c2 2 rfl
     have Nstk:=HM.ne2 0 1 rfl rfl rfl
     have Nswn:=HM.ne2 0 2 rfl rfl rfl
     have Ntkwn:=HM.ne2 1 2 rfl rfl rfl
     clear hCl hK hgb
     go_wp2
     replace HM:=HM.set 0 rfl 3 h2 |>.set 0 rfl 4 (.int .u64 (b2:Int)) |>.set 0 rfl 5 () |>.gen
     simp only [List.set_cons_zero,List.set_cons_succ,List.setIfInBounds_toArray] at HM
     obtain ⟨We,hWe,HM⟩:=HM
     rw [hWe]
     clear hWe
     go_ret
     exact ⟨rfl,(HM.drop_ 2).drop_ 1⟩
  ·skip
   rw [if_pos (by omega)] at HE2
   injection HE2 with f1 HE2;injection HE2 with f2 HE2;injection HE2 with f3 HE2;injection HE2 with f4 HE2;injection HE2 with f5 HE2;injection HE2 with f6 f7
   subst f1;subst f2;subst f3;subst f4;subst f5;subst f6;subst f7
   have hC0:((C:Int) == 0) = false:=by simp;omega
   clear HT0 HE
   go_wp2
   go_ret
   exact ⟨rfl,(HM.drop_ 2).drop_ 1⟩
theorem key_ok (v:Value) (l:List Pr) (me rev cr H B bad lock cls id am tag rev2 cr2 H2 B2 bad2 lock2 ad E:Nat) (w:World) (hv:IsPs w v l) (hl:OOk l) (hB64:B < 2 ^ 64) (hm:mmay me rev cr H B bad lock = true) (hk:TkOk cls id am tag)
 (hR:Hid (keyS l me rev cr H B bad lock cls id am tag = (rev2,cr2,H2,B2,bad2,lock2,ad,E))) :
 Calls Tryz.prog 181 #[.agg #[me,rev,cr,H,.int .u64 (B:Int),bad,lock],.agg #[v],.agg #[cls,id,am,tag]] w fun e w' => e = .returned (.tuple #[.agg #[me,rev2,cr2,H2,.int .u64 (B2:Int),bad2,lock2],ad,E]) ∧ Below w.heap.size w w':=by
 have hv0:=hv
 obtain ⟨A,c,rfl,_,_,_,_⟩:=hv
 obtain ⟨⟨a1,a2,a3,a4,a5,a6⟩,⟨b1,b2,b3,b4,b5⟩,H',hH',hW⟩:=mmay_bd hB64 hm
 obtain rfl:H = H':=by omega
 have hM:=fun W => mmay_is (Lib.hid hm) W (WalkArith.wf_i64 (by have:=hW.le;omega)) hB64 (WalkArith.wf_i64 (by omega)) (WalkArith.wf_i64 (by omega))
 have hO:=fun W h => omay_ok (.slice A l.length c) l W h hl
 obtain ⟨body,hbody⟩:∃ b,tbody cls id am = b:=⟨_,rfl⟩
 have hB:=fun W => tbody_ok cls id am tag body W hk (Lib.hid hbody)
 have hbl:=tbody_le hk
 rw [hbody] at hbl
 have HR:=hR.out
 unfold keyS at HR
 rw [hbody] at HR
 clear hm hH' hR hbody
 have hk0:=hk
 have hk1:=hk.h1
 have HM:=Mem.init w
 replace HM:=HM.al w.heap.size #[me,rev,cr,H,.int .u64 (B:Int),bad,lock] (81) |>.al (w.heap.size + 1) #[.slice A l.length c] (35) |>.al (w.heap.size + 1 + 1) #[cls,id,am,tag] (273) |>.al (w.heap.size + 1 + 1 + 1) #[(),(),(),(),.int .u64 0,(),()] (81) |>.gen
 simp only [List.nil_append,List.cons_append] at HM
 obtain ⟨W0,hW0,HM⟩:=HM
 by_cases hlk:0 < lock
 ·rw [if_pos hlk] at HR
  injection HR with f1 HR;injection HR with f2 HR;injection HR with f3 HR;injection HR with f4 HR;injection HR with f5 HR;injection HR with f6 HR;injection HR with f7 f8
  subst f1;subst f2;subst f3;subst f4;subst f5;subst f6;subst f7;subst f8
  have hlI:0 < (lock:Int):=by omega
  have Lmt:=HM.c7 0 rfl
  have Loc:=HM.c1 1 rfl
  have Ltk:=HM.c4 2 rfl
  have Nmtoc:=HM.ne2 0 1 rfl rfl rfl
  have Nmttk:=HM.ne2 0 2 rfl rfl rfl
  have Noctk:=HM.ne2 1 2 rfl rfl rfl
  go_enter Tryz.func181,Tryz.ntmps181
  go_wp2_with fail
  refine (hM _).mono ?_
  rintro e wa ⟨rfl,hba⟩
  replace HM:=Mem.call HM hba
  clear Lmt Loc Ltk Nmtoc Nmttk Noctk
  have Lmt:=HM.c7 0 rfl
  have Loc:=HM.c1 1 rfl
  have Ltk:=HM.c4 2 rfl
  have Nmtoc:=HM.ne2 0 1 rfl rfl rfl
  have Nmttk:=HM.ne2 0 2 rfl rfl rfl
  have Noctk:=HM.ne2 1 2 rfl rfl rfl
  have hva:=hv0.below HM.below
  clear hba hM hW0
  go_wp2_with fail
  refine (hO _ hva).mono ?_
  rintro e wb ⟨rfl,hbb⟩
  replace HM:=Mem.call HM hbb
  clear Lmt Loc Ltk Nmtoc Nmttk Noctk
  have Lmt:=HM.c7 0 rfl
  have Loc:=HM.c1 1 rfl
  have Ltk:=HM.c4 2 rfl
  have Nmtoc:=HM.ne2 0 1 rfl rfl rfl
  have Nmttk:=HM.ne2 0 2 rfl rfl rfl
  have Noctk:=HM.ne2 1 2 rfl rfl rfl
  clear hbb hO hva
  go_wp2_with fail
  refine (hB _).mono ?_
  rintro e wc ⟨rfl,hbc⟩
  replace HM:=Mem.call HM hbc
  have hvc:=hv0.below HM.below
  clear hbc hB
  clear Lmt Loc Ltk Nmtoc Nmttk Noctk
  have Lmt:=HM.c7 0 rfl
  have Loc:=HM.c1 1 rfl
  have Ltk:=HM.c4 2 rfl
  have Lrs:=HM.c7 3 rfl
  have Nmtoc:=HM.ne2 0 1 rfl rfl rfl
  have Nmttk:=HM.ne2 0 2 rfl rfl rfl
  have Nmtrs:=HM.ne2 0 3 rfl rfl rfl
  have Noctk:=HM.ne2 1 2 rfl rfl rfl
  have Nocrs:=HM.ne2 1 3 rfl rfl rfl
  have Ntkrs:=HM.ne2 2 3 rfl rfl rfl
  clear hk hk0 hW hl hv0 hvc
  go_wp2
  replace HM:=HM.set 3 rfl 0 me |>.set 3 rfl 1 rev |>.set 3 rfl 2 cr |>.set 3 rfl 3 H |>.set 3 rfl 4 (.int .u64 (B:Int)) |>.set 3 rfl 5 bad |>.set 3 rfl 6 lock |>.gen
  simp only [List.set_cons_zero,List.set_cons_succ,List.setIfInBounds_toArray] at HM
  obtain ⟨Wz,hWz,HM⟩:=HM
  rw [hWz]
  clear hWz
  clear Lmt Loc Ltk Lrs Nmtoc Nmttk Nmtrs Noctk Nocrs Ntkrs
  obtain ⟨rslt,rs0,-,rs1,-,rs2,-,rs3,-,rs4,-,rs5,-,rs6,-⟩:=HM.c7 3 rfl
  refine bodyPost_ret (v:=.tuple #[.agg #[me,rev,cr,H,.int .u64 (B:Int),bad,lock],(),.int .i64 10]) (by simp [results,Tryz.results181,go_sem,rs0,rs1,rs2,rs3,rs4,rs5,rs6];done) rfl ?_
  exact ⟨rfl,HM.below⟩
 ·rw [if_neg hlk] at HR
  have hl0:lock = 0:=by omega
  have hlI:decide (0 < (lock:Int)) = false:=by simp;omega
  clear hl0
  skip
  by_cases h3:cls = 3
  ·rw [if_pos h3] at HR
   injection HR with f1 HR;injection HR with f2 HR;injection HR with f3 HR;injection HR with f4 HR;injection HR with f5 HR;injection HR with f6 HR;injection HR with f7 f8
   subst f1;subst f2;subst f3;subst f4;subst f5;subst f6;subst f7;subst f8
   have hc3:((cls:Int) == 3) = true:=by simp;omega
   clear h3
   have Lmt:=HM.c7 0 rfl
   have Loc:=HM.c1 1 rfl
   have Ltk:=HM.c4 2 rfl
   have Nmtoc:=HM.ne2 0 1 rfl rfl rfl
   have Nmttk:=HM.ne2 0 2 rfl rfl rfl
   have Noctk:=HM.ne2 1 2 rfl rfl rfl
   go_enter Tryz.func181,Tryz.ntmps181
   go_wp2_with fail
   refine (hM _).mono ?_
   rintro e wa ⟨rfl,hba⟩
   replace HM:=Mem.call HM hba
   clear Lmt Loc Ltk Nmtoc Nmttk Noctk
   have Lmt:=HM.c7 0 rfl
   have Loc:=HM.c1 1 rfl
   have Ltk:=HM.c4 2 rfl
   have Nmtoc:=HM.ne2 0 1 rfl rfl rfl
   have Nmttk:=HM.ne2 0 2 rfl rfl rfl
   have Noctk:=HM.ne2 1 2 rfl rfl rfl
   have hva:=hv0.below HM.below
   clear hba hM hW0
   go_wp2_with fail
   refine (hO _ hva).mono ?_
   rintro e wb ⟨rfl,hbb⟩
   replace HM:=Mem.call HM hbb
   clear Lmt Loc Ltk Nmtoc Nmttk Noctk
   have Lmt:=HM.c7 0 rfl
   have Loc:=HM.c1 1 rfl
   have Ltk:=HM.c4 2 rfl
   have Nmtoc:=HM.ne2 0 1 rfl rfl rfl
   have Nmttk:=HM.ne2 0 2 rfl rfl rfl
   have Noctk:=HM.ne2 1 2 rfl rfl rfl
   clear hbb hO hva
   go_wp2_with fail
   refine (hB _).mono ?_
   rintro e wc ⟨rfl,hbc⟩
   replace HM:=Mem.call HM hbc
   have hvc:=hv0.below HM.below
   clear hbc hB
   clear Lmt Loc Ltk Nmtoc Nmttk Noctk
   have Lmt:=HM.c7 0 rfl
   have Loc:=HM.c1 1 rfl
   have Ltk:=HM.c4 2 rfl
   have Lrs:=HM.c7 3 rfl
   have Nmtoc:=HM.ne2 0 1 rfl rfl rfl
   have Nmttk:=HM.ne2 0 2 rfl rfl rfl
   have Nmtrs:=HM.ne2 0 3 rfl rfl rfl
   have Noctk:=HM.ne2 1 2 rfl rfl rfl
   have Nocrs:=HM.ne2 1 3 rfl rfl rfl
   have Ntkrs:=HM.ne2 2 3 rfl rfl rfl
   clear hk hk0 hW hl hv0 hvc
   go_wp2
   replace HM:=HM.set 3 rfl 0 me |>.set 3 rfl 1 rev |>.set 3 rfl 2 cr |>.set 3 rfl 3 H |>.set 3 rfl 4 (.int .u64 (B:Int)) |>.set 3 rfl 5 bad |>.set 3 rfl 6 lock |>.gen
   simp only [List.set_cons_zero,List.set_cons_succ,List.setIfInBounds_toArray] at HM
   obtain ⟨Wz,hWz,HM⟩:=HM
   rw [hWz]
   clear hWz
   clear Lmt Loc Ltk Lrs Nmtoc Nmttk Nmtrs Noctk Nocrs Ntkrs
   obtain ⟨rslt,rs0,-,rs1,-,rs2,-,rs3,-,rs4,-,rs5,-,rs6,-⟩:=HM.c7 3 rfl
   refine bodyPost_ret (v:=.tuple #[.agg #[me,rev,cr,H,.int .u64 (B:Int),bad,lock],(),()]) (by simp [results,Tryz.results181,go_sem,rs0,rs1,rs2,rs3,rs4,rs5,rs6];done) rfl ?_
   exact ⟨rfl,HM.below⟩
  ·rw [if_neg h3] at HR
   have hc3:((cls:Int) == 3) = false:=by simp;omega
   have hc2:cls ≤ 2:=by omega
   skip
   have Lmt:=HM.c7 0 rfl
   have Loc:=HM.c1 1 rfl
   have Ltk:=HM.c4 2 rfl
   have Nmtoc:=HM.ne2 0 1 rfl rfl rfl
   have Nmttk:=HM.ne2 0 2 rfl rfl rfl
   have Noctk:=HM.ne2 1 2 rfl rfl rfl
   go_enter Tryz.func181,Tryz.ntmps181
   go_wp2_with fail
   refine (hM _).mono ?_
   rintro e wa ⟨rfl,hba⟩
   replace HM:=Mem.call HM hba
   clear Lmt Loc Ltk Nmtoc Nmttk Noctk
   have Lmt:=HM.c7 0 rfl
   have Loc:=HM.c1 1 rfl
   have Ltk:=HM.c4 2 rfl
   have Nmtoc:=HM.ne2 0 1 rfl rfl rfl
   have Nmttk:=HM.ne2 0 2 rfl rfl rfl
   have Noctk:=HM.ne2 1 2 rfl rfl rfl
   have hva:=hv0.below HM.below
   clear hba hM hW0
   go_wp2_with fail
   refine (hO _ hva).mono ?_
   rintro e wb ⟨rfl,hbb⟩
   replace HM:=Mem.call HM hbb
   clear Lmt Loc Ltk Nmtoc Nmttk Noctk
   have Lmt:=HM.c7 0 rfl
   have Loc:=HM.c1 1 rfl
   have Ltk:=HM.c4 2 rfl
   have Nmtoc:=HM.ne2 0 1 rfl rfl rfl
   have Nmttk:=HM.ne2 0 2 rfl rfl rfl
   have Noctk:=HM.ne2 1 2 rfl rfl rfl
   clear hbb hO hva
   go_wp2_with fail
   refine (hB _).mono ?_
   rintro e wc ⟨rfl,hbc⟩
   replace HM:=Mem.call HM hbc
   have hvc:=hv0.below HM.below
   clear hbc hB
   obtain ⟨Es,hEs⟩:∃ Es,soldE l me body rev (tag:Int) (rev + 1) = Es:=⟨_,rfl⟩
   obtain ⟨bd,lk,hbd⟩:∃ bd lk,badS Es bad lock = (bd,lk):=⟨_,_,rfl⟩
   rw [hEs] at HR
   have hS:=fun g ad W h hgg => msold_ok (.slice A l.length c) l g me rev cr H B bad lock ad body tag Es bd lk W h hl hgg (by omega) (by omega) (by omega) hbl (Lib.hid hEs) (Lib.hid hbd)
   have hEv:=soldE_vals l me body rev (tag:Int) (rev + 1)
   rw [hEs] at hEv
   clear hEs
   clear Lmt Loc Ltk Nmtoc Nmttk Noctk
   have Lmt:=HM.c7 0 rfl
   have Loc:=HM.c1 1 rfl
   have Ltk:=HM.c4 2 rfl
   have Lrs:=HM.c7 3 rfl
   have Nmtoc:=HM.ne2 0 1 rfl rfl rfl
   have Nmttk:=HM.ne2 0 2 rfl rfl rfl
   have Nmtrs:=HM.ne2 0 3 rfl rfl rfl
   have Noctk:=HM.ne2 1 2 rfl rfl rfl
   have Nocrs:=HM.ne2 1 3 rfl rfl rfl
   have Ntkrs:=HM.ne2 2 3 rfl rfl rfl
   go_wp2_with fail
   replace HM:=HM.al wc.heap.size #[me,rev,cr,H,.int .u64 (B:Int),bad,lock,()] (355) |>.gen
   simp only [List.cons_append,List.nil_append] at HM
   obtain ⟨Wd,hWd,HM⟩:=HM
   rw [hWd]
   clear hWd
   refine (hS _ 0 _ (hv0.below HM.below) (HM.blk 4 rfl)).mono ?_
   rintro e we ⟨rfl,hK⟩
   replace HM:Mem (w) [] (we) [.blk (w.heap.size) 81 #[me,rev,cr,H,.int .u64 (B:Int),bad,lock],.blk (w.heap.size + 1) 35 #[.slice A l.length c],.blk (w.heap.size + 1 + 1) 273 #[cls,id,am,tag],.blk (w.heap.size + 1 + 1 + 1) 81 #[(),(),(),(),.int .u64 0,(),()],.blk (wc.heap.size) 355 #[me,rev,cr,H,.int .u64 (B:Int),bd,lk,()]]:=Mem.joinAt 4 HM rfl hK
   clear hK hS hvc
   clear Lmt Loc Ltk Lrs Nmtoc Nmttk Nmtrs Noctk Nocrs Ntkrs
   have Lmt:=HM.c7 0 rfl
   have Loc:=HM.c1 1 rfl
   have Ltk:=HM.c4 2 rfl
   have Lrs:=HM.c7 3 rfl
   have Lsb:=HM.c8 4 rfl
   have Nmtoc:=HM.ne2 0 1 rfl rfl rfl
   have Nmttk:=HM.ne2 0 2 rfl rfl rfl
   have Nmtrs:=HM.ne2 0 3 rfl rfl rfl
   have Nmtsb:=HM.ne2 0 4 rfl rfl rfl
   have Noctk:=HM.ne2 1 2 rfl rfl rfl
   have Nocrs:=HM.ne2 1 3 rfl rfl rfl
   have Nocsb:=HM.ne2 1 4 rfl rfl rfl
   have Ntkrs:=HM.ne2 2 3 rfl rfl rfl
   have Ntksb:=HM.ne2 2 4 rfl rfl rfl
   have Nrssb:=HM.ne2 3 4 rfl rfl rfl
   rcases Nat.eq_zero_or_pos Es with h0 | h0
   ·rw [if_pos h0] at HR
    subst h0
    have hbd2:bad = bd ∧ lock = lk:=by
     unfold badS at hbd
     rw [if_neg (by omega)] at hbd
     injection hbd with e1 e2
     exact ⟨e1,e2⟩
    obtain ⟨rfl,rfl⟩:=hbd2
    obtain ⟨r2,c2',h2',b2',d2,a2',e2',hT⟩:∃ r2 c2' h2' b2' d2 a2' e2',takeS rev cr H B bad cls id am = (r2,c2',h2',b2',d2,a2',e2'):=⟨_,_,_,_,_,_,_,rfl⟩
    rw [hT] at HR
    injection HR with f1 HR;injection HR with f2 HR;injection HR with f3 HR;injection HR with f4 HR;injection HR with f5 HR;injection HR with f6 HR;injection HR with f7 f8
    dsimp only at f1 f2 f3 f4 f5 f7 f8
    subst f1;subst f2;subst f3;subst f4;subst f5;subst f6;subst f7;subst f8
    have hTk:=fun g W hgg => mtake_ok g me rev cr H B bad lock cls id am tag W hgg hW (by omega) hk0 hc2 r2 c2' h2' b2' d2 a2' e2' (Lib.hid hT)
    clear hT hbd hEv
    go_wp2_with fail
    refine (hTk _ _ (HM.blk 4 rfl)).mono ?_
    rintro e wf ⟨rfl,hK⟩
    replace HM:Mem (w) [] (wf) [.blk (w.heap.size) 81 #[me,rev,cr,H,.int .u64 (B:Int),bad,lock],.blk (w.heap.size + 1) 35 #[.slice A l.length c],.blk (w.heap.size + 1 + 1) 273 #[cls,id,am,tag],.blk (w.heap.size + 1 + 1 + 1) 81 #[(),(),(),(),.int .u64 0,(),()],.blk (wc.heap.size) 355 #[me,r2,.int .i64 (c2':Int),.int .i64 (h2':Int),.int .u64 (b2':Int),d2,lock,.int .i64 (a2':Int)]]:=Mem.joinAt 4 HM rfl hK
    clear hK hTk
    clear Lmt Loc Ltk Lrs Lsb Nmtoc Nmttk Nmtrs Nmtsb Noctk Nocrs Nocsb Ntkrs Ntksb Nrssb
    have Lrs:=HM.c7 3 rfl
    have Lsb:=HM.c8 4 rfl
    have Nrssb:=HM.ne2 3 4 rfl rfl rfl
    go_wp2_with fail
    go_region
    replace HM:=HM.set 3 rfl 0 me |>.set 3 rfl 1 r2 |>.set 3 rfl 2 (.int .i64 (c2':Int)) |>.set 3 rfl 3 (.int .i64 (h2':Int)) |>.set 3 rfl 4 (.int .u64 (b2':Int)) |>.set 3 rfl 5 d2 |>.set 3 rfl 6 lock |>.drew |>.gen
    simp only [List.set_cons_zero,List.set_cons_succ,List.setIfInBounds_toArray] at HM
    obtain ⟨Wz,hWz,HM⟩:=HM
    rw [hWz]
    clear hWz
    clear Lrs Lsb Nrssb
    obtain ⟨rslt,rs0,-,rs1,-,rs2,-,rs3,-,rs4,-,rs5,-,rs6,-⟩:=HM.c7 3 rfl
    go_wp2
    refine bodyPost_ret (v:=.tuple #[.agg #[me,r2,.int .i64 (c2':Int),.int .i64 (h2':Int),.int .u64 (b2':Int),d2,lock],.int .i64 (a2':Int),.int .i64 (e2':Int)]) (by simp [results,Tryz.results181,go_sem,rs0,rs1,rs2,rs3,rs4,rs5,rs6];done) rfl ?_
    exact ⟨rfl,HM.below⟩
   ·skip
    rw [if_neg (by omega),hbd] at HR
    injection HR with f1 HR;injection HR with f2 HR;injection HR with f3 HR;injection HR with f4 HR;injection HR with f5 HR;injection HR with f6 HR;injection HR with f7 f8
    subst f1;subst f2;subst f3;subst f4;subst f5;subst f6;subst f7;subst f8
    have hE0:((Es:Int) == 0) = false:=by simp;omega
    clear hEv
    go_wp2_with fail
    go_region
    replace HM:=HM.set 3 rfl 0 me |>.set 3 rfl 1 rev |>.set 3 rfl 2 cr |>.set 3 rfl 3 H |>.set 3 rfl 4 (.int .u64 (B:Int)) |>.set 3 rfl 5 bd |>.set 3 rfl 6 lk |>.drew |>.gen
    simp only [List.set_cons_zero,List.set_cons_succ,List.setIfInBounds_toArray] at HM
    obtain ⟨Wz,hWz,HM⟩:=HM
    rw [hWz]
    clear hWz
    clear Lmt Loc Ltk Lrs Lsb Nmtoc Nmttk Nmtrs Nmtsb Noctk Nocrs Nocsb Ntkrs Ntksb Nrssb
    obtain ⟨rslt,rs0,-,rs1,-,rs2,-,rs3,-,rs4,-,rs5,-,rs6,-⟩:=HM.c7 3 rfl
    go_wp2
    refine bodyPost_ret (v:=.tuple #[.agg #[me,rev,cr,H,.int .u64 (B:Int),bd,lk],(),Es]) (by simp [results,Tryz.results181,go_sem,rs0,rs1,rs2,rs3,rs4,rs5,rs6];done) rfl ?_
    exact ⟨rfl,HM.below⟩
end Go.Proofs.YtfgiehkfcoodbaaGreat

/- meter: (state).sold, credit, clear, change, take. -/
import Derived.Test.YtfgiehkfcoodbaaGreatM0
import Derived.Test.YtfgiehkfcoodbaaGreatM29
import Derived.Test.YtfgiehkfcoodbaaGreatM24
import Derived.Test.YtfgiehkfcoodbaaGreatM36
import Derived.Test.YtfgiehkfcoodbaaGreatM37
import Derived.Deep.RegionWith
namespace Go.Proofs.YtfgiehkfcoodbaaGreat
open Go.RowKit Go.Maps Go.ChangeShapes Go.WideShapes
set_option linter.unusedVariables false
set_option maxRecDepth 100000
set_option maxHeartbeats 16000000
theorem verify_is (v:Value) (l:List Pr) (x y z d:Int) (b:Bool) (w:World) (hv:IsPs w v l) (hl:OOk l) (hw:wf3 x y z) (hb:Hid ((look l (x,y,z) == some d) = b)) :
 Calls Tryz.prog 201 #[.agg #[v],x,y,z,d] w fun e w' => e = .returned (.bool b) ∧ Below w.heap.size w w':=by
 rw [← hb.out];exact verify_ok v l x y z d w hv hl hw _ (Lib.hid rfl)
theorem msold_ok (v:Value) (l:List Pr) (g me rev cr H B bad lock:Nat) (ad:Int) (body tag E bad2 lock2:Nat) (w:World) (hv:IsPs w v l) (hl:OOk l)
 (hg:Blk w g 355 #[me,rev,cr,H,.int .u64 (B:Int),bad,lock,ad])
 (h1:me < 50) (h2:rev ≤ 15) (h3:bad < 5) (h4:body ≤ 8796093022207) (hE:Hid (soldE l me body rev (tag:Int) (rev + 1) = E)) (hB:Hid (badS E bad lock = (bad2,lock2))) :
 Calls Tryz.prog 190 #[.pointer (some ⟨g,0,none⟩),.agg #[v],body,tag] w fun e w' =>
  e = .returned (.int .i64 ↑E) ∧ Mem w [g] w' [.blk g 355 #[me,rev,cr,H,.int .u64 (B:Int),bad2,lock2,ad]]:=by
 have hv0:=hv
 obtain ⟨A,c,rfl,_,_,_,_⟩:=hv
 have hV:=fun r b W h hw hb => verify_is (.slice A l.length c) l (me:Int) r (body:Int) (tag:Int) b W h hl hw hb
 have HM:Mem (w) [g] (w) [.blk (g) 355 #[me,rev,cr,H,.int .u64 (B:Int),bad,lock,ad]]:=Mem.init1 hg
 replace HM:=HM.al w.heap.size #[.slice A l.length c] (35) |>.gen
 simp only [List.cons_append,List.nil_append] at HM
 obtain ⟨W0,hW0,HM⟩:=HM
 have hb0:Below w.heap.size w W0:=by rw [← hW0];exact below_a1 _ _
 have Ls:=HM.c8 0 rfl
 have Lob:=HM.c1 1 rfl
 have Nsob:=HM.ne2 0 1 rfl rfl rfl
 have hr9:(rev:Int) ≤ 15:=by omega
 have hb9:(bad:Int) < 5:=by omega
 have hgl:=Blk.lt hg
 clear hl
 go_enter Tryz.func190,Tryz.ntmps190
 go_wp2_with fail
 go_loopw [9] (fun i wr => ∃ z:Int,-1 ≤ z ∧ z ≤ rev ∧ i = .int .i64 z ∧ Hid (soldE l me body rev (tag:Int) (z + 1).toNat = E) ∧ Mem w [g] wr [.blk g 355 #[me,rev,cr,H,.int .u64 (B:Int),bad,lock,ad],.blk w.heap.size 35 #[.slice A l.length c]] ∧ Below w.heap.size w wr) (fun i _ => (intOf i + 1).toNat)
 case atStart => exact ⟨(rev:Int),by omega,by omega,rfl,by rw [show ((rev:Int) + 1).toNat = rev + 1 by omega];exact hE,HM,hb0⟩
 case round =>
  obtain ⟨z,hz1,hz2,rfl,hEz,HM,hbr⟩:=hrel
  have HM:Mem (w) [g] (wr) [.blk (g) 355 #[me,rev,cr,H,.int .u64 (B:Int),bad,lock,ad],.blk (w.heap.size) 35 #[.slice A l.length c]]:=HM
  clear hE
  by_cases hz:z < 0
  ·obtain rfl:z = -1:=by omega
   have hE12:E = 12:=by rw [← hEz.out];rfl
   subst hE12
   have hB2:=hB.out
   clear hB hEz hV hv0
   unfold badS at hB2
   rw [if_pos rfl] at hB2
   clear Ls Lob Nsob
   have Ls:=HM.c8 0 rfl
   by_cases h5:bad + 1 = 5
   ·rw [if_pos h5] at hB2
    injection hB2 with e1 e2
    subst e1;subst e2
    obtain rfl:bad = 4:=by omega
    go_wp2
    replace HM:=HM.set 0 rfl 5 (.int .i64 5) |>.set 0 rfl 5 () |>.set 0 rfl 6 (.int .i64 30) |>.gen
    simp only [List.set_cons_zero,List.set_cons_succ,List.setIfInBounds_toArray] at HM
    obtain ⟨W5,hW5,HM⟩:=HM
    rw [hW5]
    clear hW5
    go_ret
    exact ⟨rfl,HM.drop_ 1⟩
   ·skip
    rw [if_neg h5] at hB2
    injection hB2 with e1 e2
    subst e1;subst e2
    have h6:IntKind.i64.wrap ((bad:Int) + 1) = ((bad + 1:Nat):Int):=by rw [IntWalk.i64_in _ (by omega)];rfl
    generalize hbb:bad + 1 = bb at *
    have h7:((bb:Int) == 5) = false:=by simp;omega
    go_wp2
    replace HM:=HM.set 0 rfl 5 bb |>.gen
    simp only [List.set_cons_zero,List.set_cons_succ,List.setIfInBounds_toArray] at HM
    obtain ⟨W5,hW5,HM⟩:=HM
    rw [hW5]
    clear hW5
    go_ret
    rw [hbb]
    exact ⟨rfl,HM.drop_ 1⟩
  ·skip
   obtain ⟨r,rfl⟩:∃ r:Nat,z = (r:Int):=⟨z.toNat,by omega⟩
   rw [show ((r:Int) + 1).toNat = r + 1 by omega] at hEz
   have hEz2:=hEz.out
   unfold soldE at hEz2
   obtain ⟨o,ho⟩:∃ o,look l ((me:Int),(r:Int),(body:Int)) = o:=⟨_,rfl⟩
   rw [ho] at hEz2
   have hVr:=fun b W h => hV (r:Int) b W h ⟨WalkArith.wf_i64 (by omega),WalkArith.wf_i64 (by omega),WalkArith.wf_i64 (by omega)⟩
   have hrr:(r:Int) ≤ 15:=by omega
   have hvr:IsPs wr.drew (.slice A l.length c) l:=hv0.below (w':=wr.drew) (below_draws hbr 1)
   clear Ls Lob Nsob
   have Ls:=HM.c8 0 rfl
   have Lob:=HM.c1 1 rfl
   have Nsob:=HM.ne2 0 1 rfl rfl rfl
   by_cases hot:o = some (tag:Int)
   ·rw [if_pos hot] at hEz2
    have hb:=Lib.hid (show (look l ((me:Int),(r:Int),(body:Int)) == some (tag:Int)) = true by rw [ho,hot];simp)
    have hE3:(r < rev ∧ E = 11) ∨ (((r:Int) < (rev:Int)) = False ∧ E = 0):=by
     by_cases hlt:r < rev
     ·rw [if_pos hlt] at hEz2;exact .inl ⟨hlt,hEz2.symm⟩
     ·rw [if_neg hlt] at hEz2;exact .inr ⟨by simp;omega,hEz2.symm⟩
    have hB2:bad = bad2 ∧ lock = lock2:=by
     have:=hB.out
     unfold badS at this
     rw [if_neg (by omega)] at this
     injection this with e1 e2
     exact ⟨e1,e2⟩
    obtain ⟨rfl,rfl⟩:=hB2
    clear hB hEz hEz2 hot ho hV
    go_wp2_with fail
    go_region_with ((go_at_call 201;(with_reducible refine (hVr _ _ hvr hb).mono ?_);rintro e wv ⟨rfl,hbv⟩))
    all_goals
     replace HM:=Mem.call (Mem.drew HM) hbv
     clear Ls Lob Nsob
     have Ls:=HM.c8 0 rfl
     clear hbv hvr hVr hv0
     rcases hE3 with ⟨hlt,rfl⟩ | ⟨hlt,rfl⟩
     all_goals
      go_wp2
      go_ret
      exact ⟨rfl,HM.drop_ 1⟩
   ·skip
    rw [if_neg hot] at hEz2
    have hb:=Lib.hid (show (look l ((me:Int),(r:Int),(body:Int)) == some (tag:Int)) = false by rw [ho];simpa using hot)
    have hE3:=Lib.hid hEz2
    clear hEz hEz2 hot ho hV
    go_wp2_with fail
    go_region_with ((go_at_call 201;(with_reducible refine (hVr _ _ hvr hb).mono ?_);rintro e wv ⟨rfl,hbv⟩))
    all_goals
     have hbw:=hbr.trans ((below_draws (Below.refl _ _) 1).trans (hbv.mono (show w.heap.size ≤ wr.drew.heap.size from hbr.size)))
     replace HM:=Mem.call (Mem.drew HM) hbv
     clear Ls Lob Nsob
     clear hbv hvr hVr hv0
     go_wp2
     go_roundw
     case rel => exact ⟨(r:Int) - 1,by omega,by omega,by go_num,by rw [show ((r:Int) - 1 + 1).toNat = r by omega];exact hE3,HM,hbw⟩
     case measure => simp [intOf] <;> omega
theorem mcredit_ok (g me rev cr H B bad lock am:Nat) (w:World)
 (hg:Blk w g 355 #[me,rev,cr,H,.int .u64 (B:Int),bad,lock,()]) (h1:cr ≤ 99999999) (h2:am ≤ 2097151) (cr2 ad E:Nat)
 (hE:Hid ((if 99999999 < cr + am then (cr,0,15) else (cr + am,am,0)) = (cr2,ad,E))) :
 Calls Tryz.prog 203 #[.pointer (some ⟨g,0,none⟩),am] w fun e w' =>
  e = .returned (.int .i64 ↑E) ∧ Mem w [g] w' [.blk g 355 #[me,rev,cr2,H,.int .u64 (B:Int),bad,lock,ad]]:=by
 have HM:Mem (w) [g] (w) [.blk (g) 355 #[me,rev,cr,H,.int .u64 (B:Int),bad,lock,()]]:=Mem.init1 hg
 have Ls:=HM.c8 0 rfl
 have hE:=hE.out
 obtain ⟨x,hx⟩:∃ x:Nat,(cr:Int) + (am:Int) = (x:Int):=⟨cr + am,by omega⟩
 have hw:IntKind.i64.wrap ((cr:Int) + (am:Int)) = (x:Int):=by rw [hx];exact IntWalk.i64_in _ (by omega)
 have hxx:cr + am = x:=by omega
 rw [hxx] at hE
 clear hx hxx
 by_cases h:99999999 < x
 ·rw [if_pos h] at hE
  injection hE with e1 hE
  injection hE with e2 e3
  subst e1;subst e2;subst e3
  have hI:(99999999:Int) < (x:Int):=by omega
  go_enter Tryz.func203,Tryz.ntmps203
  go_wp2
  go_ret
  exact ⟨rfl,HM⟩
 ·rw [if_neg h] at hE
  injection hE with e1 hE
  injection hE with e2 e3
  subst e1;subst e2;subst e3
  have hI:(x:Int) ≤ 99999999:=by omega
  go_enter Tryz.func203,Tryz.ntmps203
  go_wp2
  replace HM:=HM.set 0 rfl 2 x |>.set 0 rfl 7 am |>.gen
  simp only [List.set_cons_zero,List.set_cons_succ,List.setIfInBounds_toArray] at HM
  obtain ⟨W5,hW5,HM⟩:=HM
  rw [hW5]
  clear hW5
  go_ret
  exact ⟨rfl,HM⟩
theorem mclear_ok (g me rev cr H B bad lock:Nat) (x:Int) (w:World)
 (hg:Blk w g 355 #[me,rev,cr,H,.int .u64 (B:Int),bad,lock,()]) :
 Calls Tryz.prog 204 #[.pointer (some ⟨g,0,none⟩),x] w fun e w' =>
  e = .returned (.int .i64 0) ∧ Mem w [g] w' [.blk g 355 #[me,rev,(),H,.int .u64 (B:Int),bad,lock,()]]:=by
 have HM:Mem (w) [g] (w) [.blk (g) 355 #[me,rev,cr,H,.int .u64 (B:Int),bad,lock,()]]:=Mem.init1 hg
 have Ls:=HM.c8 0 rfl
 go_enter Tryz.func204,Tryz.ntmps204
 go_wp2
 replace HM:=HM.set 0 rfl 2 () |>.gen
 simp only [List.set_cons_zero,List.set_cons_succ,List.setIfInBounds_toArray] at HM
 obtain ⟨W5,hW5,HM⟩:=HM
 rw [hW5]
 clear hW5
 go_ret
 exact ⟨rfl,HM⟩
theorem mchange_ok (g me rev cr H B bad lock am:Nat) (w:World)
 (hg:Blk w g 355 #[me,rev,cr,H,.int .u64 (B:Int),bad,lock,()]) (rev2 E:Nat)
 (hE:Hid ((if am ≤ rev then (rev,24) else (am,0)) = (rev2,E))) :
 Calls Tryz.prog 205 #[.pointer (some ⟨g,0,none⟩),am] w fun e w' =>
  e = .returned (.int .i64 ↑E) ∧ Mem w [g] w' [.blk g 355 #[me,rev2,cr,H,.int .u64 (B:Int),bad,lock,()]]:=by
 have HM:Mem (w) [g] (w) [.blk (g) 355 #[me,rev,cr,H,.int .u64 (B:Int),bad,lock,()]]:=Mem.init1 hg
 have Ls:=HM.c8 0 rfl
 have hE:=hE.out
 by_cases h:am ≤ rev
 ·rw [if_pos h] at hE
  injection hE with e1 e3
  subst e1;subst e3
  have hI:(am:Int) ≤ (rev:Int):=by omega
  go_enter Tryz.func205,Tryz.ntmps205
  go_wp2
  go_ret
  exact ⟨rfl,HM⟩
 ·rw [if_neg h] at hE
  injection hE with e1 e3
  subst e1;subst e3
  have hI:¬ (am:Int) ≤ (rev:Int):=by omega
  go_enter Tryz.func205,Tryz.ntmps205
  go_wp2
  replace HM:=HM.set 0 rfl 1 am |>.gen
  simp only [List.set_cons_zero,List.set_cons_succ,List.setIfInBounds_toArray] at HM
  obtain ⟨W5,hW5,HM⟩:=HM
  rw [hW5]
  clear hW5
  go_ret
  exact ⟨rfl,HM⟩
end Go.Proofs.YtfgiehkfcoodbaaGreat

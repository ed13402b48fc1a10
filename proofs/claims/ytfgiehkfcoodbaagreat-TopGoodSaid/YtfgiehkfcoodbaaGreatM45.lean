/- A meter in its words: pocket.Make, Boot, moved, Keyed, Ticked. -/
import Derived.Test.YtfgiehkfcoodbaaGreatM0
import Derived.Test.YtfgiehkfcoodbaaGreatM38
import Derived.Test.YtfgiehkfcoodbaaGreatM27
import Derived.Test.YtfgiehkfcoodbaaGreatM9
import Derived.Test.YtfgiehkfcoodbaaGreatM17
import Derived.Test.YtfgiehkfcoodbaaGreatM43
import Derived.Test.YtfgiehkfcoodbaaGreatM41
import Derived.Test.YtfgiehkfcoodbaaGreatM44
import Derived.Laws.CopyOwn
import Derived.Deep.RegionLaw
namespace Go.Proofs.YtfgiehkfcoodbaaGreat
open Go.RowKit
set_option linter.unusedVariables false
set_option maxRecDepth 100000
set_option maxHeartbeats 16000000
def pkW (C:List Nat) (s me rev cr H B bad lock r2 c2 h2 b2 d2 k2:Nat):List (Nat × Nat):=if rev = r2 ∧ cr = c2 ∧ H = h2 ∧ B = b2 ∧ bad = d2 ∧ lock = k2 then [] else slW C 5 (mws me r2 c2 h2 b2 d2 k2) s
def RetWrV (P:List (Nat × Nat)) (w:World) (e:Ending) (w':World):Prop:=∃ u,e = .returned u ∧ IsWr w' u P ∧ Below w.heap.size w w'
def RetKeyed (P:List (Nat × Nat)) (ad E:Nat) (w:World) (e:Ending) (w':World):Prop:=∃ u,e = .returned (.tuple #[u,ad,E]) ∧ IsWr w' u P ∧ Below w.heap.size w w'
theorem iswr_nil (w:World):IsWr w (.slice none 0 0) []:=by
 exact ⟨none,0,rfl,Nat.le_refl _,by unfold maxLen;omega,by simp,Rd.nil_⟩
theorem pmeter_eql (a b c d e f g a' b' c' d' e' f' g':Int) (W:World) :
 (Op.equalIn 10000 81 (.agg #[a,b,c,d,.int .u64 e,f,g]) (.agg #[a',b',c',d',.int .u64 e',f',g'])).run Tryz.prog W = .ok (a == a' && (b == b' && (c == c' && (d == d' && (e == e' && (f == f' && g == g')))))) W:=by
 have h:=eq_is (P:=Tryz.prog) (t:=81) [.int .i64 a,.int .i64 b,.int .i64 c,.int .i64 d,.int .u64 e,.int .i64 f,.int .i64 g] [.int .i64 a',.int .i64 b',.int .i64 c',.int .i64 d',.int .u64 e',.int .i64 f',.int .i64 g'] W (by kernel_rfl) (mkv_struct Tryz.underlying81)
 simpa [cellsEq,leafEq] using h
theorem pmeter_same (me r c h b d k r2 c2 h2 b2 d2 k2:Nat) (v:Bool) (hv:decide (r = r2 ∧ c = c2 ∧ h = h2 ∧ b = b2 ∧ d = d2 ∧ k = k2) = v) (W:World) :
 (Op.equalIn 10000 81 (.agg #[me,r,c,h,.int .u64 (b:Int),d,k]) (.agg #[me,r2,c2,h2,.int .u64 (b2:Int),d2,k2])).run Tryz.prog W = .ok v W:=by
 rw [pmeter_eql,← hv]
 congr 1
 rw [Bool.eq_iff_iff]
 simp only [Bool.and_eq_true,beq_iff_eq,decide_eq_true_eq,Int.natCast_inj,true_and]
theorem boot_ok (v:Value) (C:List Nat) (me rev cr H b bad lock s:Nat) (w:World) (hv:IsWs w v C) (hsl:IsSl C 5 (mws me rev cr H b bad lock) s) (hb:b < 2 ^ 64) (hm:mmay me rev cr H b bad lock = true) :
 Calls Tryz.prog 41 #[v] w fun e w' => e = .returned (.tuple #[.agg #[me,rev,cr,H,.int .u64 (b:Int),bad,lock],()]) ∧ Below w.heap.size w w':=by
 have hL:=fun W h => sload_ok v C _ 5 s W h hsl (by omega) (by omega)
 obtain ⟨q1,q2,q3,q4,q5⟩:=mws_back hb hm
 have hR:=fun u W h => mread_ok u cr (lock * 16777216 + bad * 65536 + rev * 256 + me) H (b % 4294967296) (b / 4294967296) me rev b bad lock true W h q1 q2 q3 q4 q5 (Lib.hid hm)
 unfold RetMRead at hR
 simp only [if_true] at hR
 clear hsl hm q1 q2 q3 q4 q5
 have HV:=Lib.hid hv
 clear hv
 have HM:=Mem.init w
 go_enter Tryz.func41,Tryz.ntmps41
 go_wp2_with fail
 replace HM:=HM.al w.heap.size #[(),(),(),(),.int .u64 0,(),()] (81) |>.gen
 simp only [List.nil_append] at HM
 obtain ⟨W0,hW0,HM⟩:=HM
 rw [hW0]
 clear hW0
 refine (hL _ (HV.out.below HM.below)).mono ?_
 rintro e wa ⟨u,rfl,hu,hba⟩
 replace HM:=Mem.call HM hba
 have Lrs:=HM.c7 0 rfl
 clear hba hL
 go_wp2_with fail
 refine (hR u _ hu).mono ?_
 rintro e wb ⟨rfl,hbb⟩
 replace HM:=Mem.call HM hbb
 clear Lrs
 have Lrs:=HM.c7 0 rfl
 clear hbb hR hu
 go_wp2
 replace HM:=HM.set 0 rfl 0 me |>.set 0 rfl 1 rev |>.set 0 rfl 2 cr |>.set 0 rfl 3 H |>.set 0 rfl 4 (.int .u64 (b:Int)) |>.set 0 rfl 5 bad |>.set 0 rfl 6 lock |>.gen
 simp only [List.set_cons_zero,List.setIfInBounds_toArray,List.set_cons_succ] at HM
 obtain ⟨wz,hwz,HM⟩:=HM
 rw [hwz]
 clear hwz
 clear Lrs
 obtain ⟨rslt,rs0,-,rs1,-,rs2,-,rs3,-,rs4,-,rs5,-,rs6,-⟩:=HM.c7 0 rfl
 refine bodyPost_ret (v:=.tuple #[.agg #[me,rev,cr,H,.int .u64 (b:Int),bad,lock],()]) (by simp [results,Tryz.results41,go_sem,rs0,rs1,rs2,rs3,rs4,rs5,rs6];done) rfl ?_
 exact ⟨rfl,HM.below⟩
theorem moved_to (v:Value) (C old:List Nat) (me rev cr H B bad lock r2 c2 h2 b2 d2 k2 s:Nat) (w:World) (hv:IsWs w v C) (hsl:IsSl C 5 old s) (hb:b2 < 2 ^ 64) (hm:mmay me r2 c2 h2 b2 d2 k2 = true) :
 Calls Tryz.prog 182 #[v,.agg #[me,rev,cr,H,.int .u64 (B:Int),bad,lock],.agg #[me,r2,c2,h2,.int .u64 (b2:Int),d2,k2]] w (RetWrV (pkW C s me rev cr H B bad lock r2 c2 h2 b2 d2 k2) w):=by
 have hW:=fun W => mwords_ok me r2 c2 h2 b2 d2 k2 W hb hm
 have hSt:=fun u W h k => store_ok v u C (mws me r2 c2 h2 b2 d2 k2) old 5 s W h k hsl rfl (by omega) (by omega)
 have HV:=Lib.hid hv
 clear hv hsl hm hb
 have HM:=Mem.init w
 replace HM:=HM.al w.heap.size #[me,rev,cr,H,.int .u64 (B:Int),bad,lock] (81) |>.al (w.heap.size + 1) #[me,r2,c2,h2,.int .u64 (b2:Int),d2,k2] (81) |>.gen
 simp only [List.nil_append,List.cons_append] at HM
 obtain ⟨W0,hW0,HM⟩:=HM
 have Lol:=HM.c7 0 rfl
 have Lnx:=HM.c7 1 rfl
 have Nolnx:=HM.ne2 0 1 rfl rfl rfl
 unfold pkW
 by_cases hq:rev = r2 ∧ cr = c2 ∧ H = h2 ∧ B = b2 ∧ bad = d2 ∧ lock = k2
 ·rw [if_pos hq]
  have hE:=fun W => pmeter_same me rev cr H B bad lock r2 c2 h2 b2 d2 k2 true (decide_eq_true hq) W
  clear hq hW hSt
  go_enter Tryz.func182,Tryz.ntmps182
  go_wp2
  go_ret
  exact ⟨_,rfl,iswr_nil _,HM.below⟩
 ·skip
  rw [if_neg hq]
  have hE:=fun W => pmeter_same me rev cr H B bad lock r2 c2 h2 b2 d2 k2 false (decide_eq_false hq) W
  clear hq
  go_enter Tryz.func182,Tryz.ntmps182
  go_wp2_with fail
  refine (hW _).mono ?_
  rintro e wa ⟨u,rfl,hu,hba⟩
  replace HM:=Mem.call HM hba
  clear hba hW hW0
  go_wp2_with fail
  refine (hSt u _ (HV.out.below HM.below) hu).mono ?_
  rintro e wb ⟨y,rfl,hy,hbb⟩
  replace HM:=Mem.call HM hbb
  have HY:=Lib.hid hy
  clear hbb hSt hu hy
  go_wp2
  go_ret
  exact ⟨_,rfl,HY.out,HM.below⟩
theorem keyed_err (v o:Value) (C:List Nat) (S:ByteArray) (me rev cr H b bad lock s c i a t E:Nat) (w:World) (hv:IsWs w v C) (hsl:IsSl C 5 (mws me rev cr H b bad lock) s) (hb:b < 2 ^ 64) (hm:mmay me rev cr H b bad lock = true) (hE:E ≠ 0) (hP:∀ W,Calls Tryz.prog 180 #[.string S] W (RetTok c i a t E W)) :
 Calls Tryz.prog 178 #[v,.agg #[o],.string S] w (RetKeyed [] 0 E w):=by
 have hB:=fun W h => boot_ok v C me rev cr H b bad lock s W h hsl hb hm
 unfold RetTok at hP
 have hE0:((E:Int) == 0) = false:=by rw [beq_eq_false_iff_ne];omega
 have hE1:¬ (E:Int) = 0:=by omega
 have HV:=Lib.hid hv
 clear hv hsl hm hb hE
 have HM:=Mem.init w
 go_enter Tryz.func178,Tryz.ntmps178
 go_wp2_with fail
 replace HM:=HM.al w.heap.size #[o] (35) |>.gen
 simp only [List.nil_append] at HM
 obtain ⟨W0,hW0,HM⟩:=HM
 rw [hW0]
 clear hW0
 refine (hB _ (HV.out.below HM.below)).mono ?_
 rintro e wa ⟨rfl,hba⟩
 replace HM:=Mem.call HM hba
 clear hba hB
 go_wp2_with fail
 replace HM:=HM.al wa.heap.size #[me,rev,cr,H,.int .u64 (b:Int),bad,lock] (81) |>.gen
 simp only [List.cons_append,List.nil_append] at HM
 obtain ⟨W1,hW1,HM⟩:=HM
 rw [hW1]
 clear hW1
 refine (hP _).mono ?_
 rintro e wb ⟨rfl,hbb⟩
 replace HM:=Mem.call HM hbb
 clear hbb hP
 go_wp2
 replace HM:=HM.al wb.heap.size #[c,i,a,t] (273) |>.gen
 simp only [List.cons_append,List.nil_append] at HM
 obtain ⟨W2,hW2,HM⟩:=HM
 rw [hW2]
 clear hW2
 go_ret3
 exact ⟨_,rfl,iswr_nil _,HM.below⟩
theorem keyed_ok (v o:Value) (C:List Nat) (l:List Pr) (S:ByteArray) (me rev cr H b bad lock s cls id am tag r2 c2 h2 b2 d2 k2 ad E:Nat) (w:World) (hv:IsWs w v C) (ho:IsPs w o l) (hO:OOk l) (hsl:IsSl C 5 (mws me rev cr H b bad lock) s) (hb:b < 2 ^ 64) (hm:mmay me rev cr H b bad lock = true) (hk:TkOk cls id am tag) (hP:∀ W,Calls Tryz.prog 180 #[.string S] W (RetTok cls id am tag 0 W)) (hR:Hid (keyS l me rev cr H b bad lock cls id am tag = (r2,c2,h2,b2,d2,k2,ad,E))) (hE:E ≠ 5) :
 Calls Tryz.prog 178 #[v,.agg #[o],.string S] w (RetKeyed (pkW C s me rev cr H b bad lock r2 c2 h2 b2 d2 k2) ad E w):=by
 have hB:=fun W h => boot_ok v C me rev cr H b bad lock s W h hsl hb hm
 have hK:=fun W h => key_ok o l me rev cr H b bad lock cls id am tag r2 c2 h2 b2 d2 k2 ad E W h hO hb hm hk hR
 obtain ⟨hm2,hb2⟩:=keyS_may hb hm hk hR.out
 have hMv:=fun W h => moved_to v C (mws me rev cr H b bad lock) me rev cr H b bad lock r2 c2 h2 b2 d2 k2 s W h hsl hb2 hm2
 unfold RetTok at hP
 unfold RetWrV at hMv
 have hE0:((E:Int) == 5) = false:=by rw [beq_eq_false_iff_ne];omega
 have hE1:¬ (E:Int) = 5:=by omega
 have HV:=Lib.hid hv
 have HO:=Lib.hid ho
 clear hv ho hsl hm hb hE hO hk hR hm2 hb2
 obtain ⟨P,hPk⟩:∃ P,pkW C s me rev cr H b bad lock r2 c2 h2 b2 d2 k2 = P:=⟨_,rfl⟩
 rw [hPk] at hMv ⊢
 clear hPk
 have HM:=Mem.init w
 go_enter Tryz.func178,Tryz.ntmps178
 go_wp2_with fail
 replace HM:=HM.al w.heap.size #[o] (35) |>.gen
 simp only [List.nil_append] at HM
 obtain ⟨W0,hW0,HM⟩:=HM
 rw [hW0]
 clear hW0
 refine (hB _ (HV.out.below HM.below)).mono ?_
 rintro e wa ⟨rfl,hba⟩
 replace HM:=Mem.call HM hba
 clear hba hB
 go_wp2_with fail
 replace HM:=HM.al wa.heap.size #[me,rev,cr,H,.int .u64 (b:Int),bad,lock] (81) |>.gen
 simp only [List.cons_append,List.nil_append] at HM
 obtain ⟨W1,hW1,HM⟩:=HM
 rw [hW1]
 clear hW1
 refine (hP _).mono ?_
 rintro e wb ⟨rfl,hbb⟩
 replace HM:=Mem.call HM hbb
 have Loc:=HM.c1 0 rfl
 have Lol:=HM.c7 1 rfl
 have Nocol:=HM.ne2 0 1 rfl rfl rfl
 clear hbb hP
 go_wp2_with fail
 replace HM:=HM.al wb.heap.size #[cls,id,am,tag] (273) |>.gen
 simp only [List.cons_append,List.nil_append] at HM
 obtain ⟨W2,hW2,HM⟩:=HM
 rw [hW2]
 clear hW2
 refine (hK _ (HO.out.below HM.below)).mono ?_
 rintro e wd ⟨rfl,hbd⟩
 replace HM:=Mem.call HM hbd
 clear Loc Lol Nocol
 have Lol:=HM.c7 1 rfl
 clear hbd hK
 go_wp2_with fail
 replace HM:=HM.al wd.heap.size #[me,r2,c2,h2,.int .u64 (b2:Int),d2,k2] (81) |>.gen
 simp only [List.cons_append,List.nil_append] at HM
 obtain ⟨W3,hW3,HM⟩:=HM
 rw [hW3]
 clear hW3
 refine (hMv _ (HV.out.below HM.below)).mono ?_
 rintro e we ⟨u,rfl,hu,hbe⟩
 replace HM:=Mem.call HM hbe
 have HU:=Lib.hid hu
 clear hbe hMv hu
 go_wp2
 go_ret3
 exact ⟨_,rfl,HU.out,HM.below⟩
theorem tick_all (me rev cr H b bad lock load u z k2:Nat) (w:World) (hb:b < 2 ^ 64) (hm:mmay me rev cr H b bad lock = true) (hl:load ≤ 1000) (hu:min load cr = u) (hz:cr - u = z) (hk:lock - 1 = k2):Calls Tryz.prog 220 #[.agg #[me,rev,cr,H,.int .u64 (b:Int),bad,lock],load] w fun e w' => e = .returned (.tuple #[.agg #[me,rev,z,H,.int .u64 (b:Int),bad,k2],u,()]) ∧ Below w.heap.size w w':=by
 obtain ⟨a1,a2,a3,a4,a5,a6,hW⟩:=may_bounds hb hm
 have hH:=hW.le
 have hM:=fun W => mmay_is (Lib.hid hm) W (WalkArith.wf_i64 (by omega)) hb (WalkArith.wf_i64 (by omega)) (WalkArith.wf_i64 (by omega))
 obtain ⟨y,hy⟩:∃ y:Int,(lock:Int) - 1 = y:=⟨_,rfl⟩
 have hwy:wrap64 y = y:=by unfold wrap64;omega
 have hmy:max y 0 = (k2:Int):=by omega
 have hml:min (load:Int) (cr:Int) = (u:Int):=by omega
 have hzI:(cr:Int) - (u:Int) = (z:Int):=by omega
 have hwz:wrap64 (z:Int) = (z:Int):=by unfold wrap64;omega
 have hzn:z ≤ 99999999:=by rw [← hz];exact Nat.le_trans (Nat.sub_le _ _) a3
 have hz0:(0:Int) ≤ (z:Int) ∧ (z:Int) ≤ 99999999:=⟨Int.natCast_nonneg _,Int.ofNat_le.2 hzn⟩
 have hiz:IntKind.i64.wrap (z:Int) = (z:Int):=by generalize (z:Int) = z' at hz0;exact IntWalk.i64_in _ (by omega)
 have hiy:IntKind.i64.wrap y = y:=IntWalk.i64_in _ (by omega)
 have hl1:(load:Int) ≤ 1000:=by omega
 have hl0:(0:Int) ≤ (load:Int):=by omega
 clear a1 a2 a3 a4 a5 a6 hW hH hm hb hl hu hz hk
 have HM:=Mem.init w
 go_enter Tryz.func220,Tryz.ntmps220
 go_wp2_with fail
 replace HM:=HM.al w.heap.size #[me,rev,cr,H,.int .u64 (b:Int),bad,lock] (81) |>.al (w.heap.size + 1) #[(),(),(),(),.int .u64 0,(),()] (81) |>.gen
 simp only [List.nil_append,List.cons_append] at HM
 obtain ⟨W0,hW0,HM⟩:=HM
 rw [hW0]
 clear hW0
 refine (hM _).mono ?_
 rintro e wa ⟨rfl,hba⟩
 replace HM:=Mem.call HM hba
 have Lrs:=HM.c7 1 rfl
 have Lmb:=HM.c7 0 rfl
 have Nrsmb:=HM.ne2 1 0 rfl rfl rfl
 clear hba hM
 go_wp2
 replace HM:=HM.set 0 rfl 2 z |>.set 0 rfl 6 k2 |>.set 1 rfl 0 me |>.set 1 rfl 1 rev |>.set 1 rfl 2 z |>.set 1 rfl 3 H |>.set 1 rfl 4 (.int .u64 (b:Int)) |>.set 1 rfl 5 bad |>.set 1 rfl 6 k2 |>.gen
 simp only [List.set_cons_zero,List.set_cons_succ,List.setIfInBounds_toArray] at HM
 obtain ⟨wz,hwz,HM⟩:=HM
 rw [hwz]
 clear hwz
 clear Lrs Lmb Nrsmb
 obtain ⟨rslt,rs0,-,rs1,-,rs2,-,rs3,-,rs4,-,rs5,-,rs6,-⟩:=HM.c7 1 rfl
 refine bodyPost_ret (v:=.tuple #[.agg #[me,rev,z,H,.int .u64 (b:Int),bad,k2],u,()]) (by simp [results,Tryz.results220,go_sem,rs0,rs1,rs2,rs3,rs4,rs5,rs6];done) rfl ?_
 exact ⟨rfl,HM.below⟩
theorem ticked_ok (v:Value) (C:List Nat) (me rev cr H b bad lock load u z k2 s:Nat) (w:World) (hv:IsWs w v C) (hsl:IsSl C 5 (mws me rev cr H b bad lock) s) (hb:b < 2 ^ 64) (hm:mmay me rev cr H b bad lock = true) (hl:load ≤ 1000) (hu:min load cr = u) (hz:cr - u = z) (hk:lock - 1 = k2) :
 Calls Tryz.prog 219 #[v,load] w (RetKeyed (pkW C s me rev cr H b bad lock rev z H b bad k2) u 0 w):=by
 have hB:=fun W h => boot_ok v C me rev cr H b bad lock s W h hsl hb hm
 have hT:=fun W => tick_all me rev cr H b bad lock load u z k2 W hb hm hl hu hz hk
 obtain ⟨a1,a2,a3,a4,a5,a6,hW⟩:=may_bounds hb hm
 have hm2:mmay me rev z H b bad k2 = true:=may_of a1 a2 (by omega) a4 (by omega) (by omega) hW
 have hMv:=fun W h => moved_to v C (mws me rev cr H b bad lock) me rev cr H b bad lock rev z H b bad k2 s W h hsl hb hm2
 unfold RetWrV at hMv
 have HV:=Lib.hid hv
 clear a1 a2 a3 a4 a5 a6 hW hm2 hv hsl hm hb hl hu hz hk
 obtain ⟨P,hPk⟩:∃ P,pkW C s me rev cr H b bad lock rev z H b bad k2 = P:=⟨_,rfl⟩
 rw [hPk] at hMv ⊢
 clear hPk
 have HM:=Mem.init w
 go_enter Tryz.func219,Tryz.ntmps219
 go_wp2_with fail
 refine (hB _ (HV.out.below HM.below)).mono ?_
 rintro e wa ⟨rfl,hba⟩
 replace HM:=Mem.call HM hba
 clear hba hB
 go_wp2_with fail
 replace HM:=HM.al wa.heap.size #[me,rev,cr,H,.int .u64 (b:Int),bad,lock] (81) |>.gen
 simp only [List.nil_append] at HM
 obtain ⟨W1,hW1,HM⟩:=HM
 rw [hW1]
 clear hW1
 refine (hT _).mono ?_
 rintro e wb ⟨rfl,hbb⟩
 replace HM:=Mem.call HM hbb
 have Lol:=HM.c7 0 rfl
 clear hbb hT
 go_wp2_with fail
 replace HM:=HM.al wb.heap.size #[me,rev,z,H,.int .u64 (b:Int),bad,k2] (81) |>.gen
 simp only [List.cons_append,List.nil_append] at HM
 obtain ⟨W3,hW3,HM⟩:=HM
 rw [hW3]
 clear hW3
 refine (hMv _ (HV.out.below HM.below)).mono ?_
 rintro e we ⟨q,rfl,hq,hbe⟩
 replace HM:=Mem.call HM hbe
 have HU:=Lib.hid hq
 clear hbe hMv hq
 go_wp2
 go_ret3
 exact ⟨_,rfl,HU.out,HM.below⟩
theorem u32_size:(Tryz.prog.info? 143).map (·.size) = some 1:=by kernel_rfl
theorem fresh_blk (w:World):Calls Tryz.prog 73 #[.int .i64 5] w fun e w' => ∃ g,e = .returned (.tuple #[.slice (some ⟨g,0,none⟩) 12 12,()]) ∧ w.heap.size ≤ g ∧ Blk w' g 143 (ws (1 :: List.replicate 11 0)).toArray ∧ Below w.heap.size w w':=by
 have hmk0:=run_make_n (P:=Tryz.prog) Tryz.underlying32 u32_info 12 (by omega) (by omega)
 obtain ⟨L,hL⟩:∃ L:List Value,List.replicate 11 (Value.int .u32 0) = L:=⟨_,rfl⟩
 have hmk:∀ w:World,(Instr.makeSlice 32 (.int .i64 12) (.int .i64 12)).run Tryz.prog w = .ok (.slice (some ⟨w.heap.size,0,none⟩) 12 12) (w.alloc (.cells (Value.int .u32 0 :: L).toArray 143)):=fun w => by
  have:=hmk0 w
  simp only [Int.cast_ofNat_Int] at this
  rw [this,← hL]
  congr 4
 have HL:=Lib.hid hL
 clear hL hmk0
 go_enter Tryz.func73,Tryz.ntmps73
 go_wp2
 go_ret2
 have e3:ws (1 :: List.replicate 11 0) = Value.int .u32 1 :: L:=by rw [← HL.out];rfl
 rw [e3]
 have hq:=Blk.new w 143 (Value.int .u32 1 :: L).toArray
 exact ⟨w.heap.size,rfl,Nat.le_refl _,by simpa using hq,by simpa using below_a1 w _⟩
def RetPMake (xs:List Nat) (w:World) (e:Ending) (w':World):Prop:=∃ g,e = .returned (.tuple #[.slice (some ⟨g,0,none⟩) 12 12,()]) ∧ w.heap.size ≤ g ∧ Blk w' g 143 (ws xs).toArray ∧ (∀ x ∈ xs,x < 4294967296) ∧ Below w.heap.size w w'
theorem pmake_own (me:Nat) (w:World) (h:me < 50):Calls Tryz.prog 52 #[me] w (RetPMake ((1 :: mws me 0 0 0 0 0 0) ++ (0 :: List.replicate 5 0)) w):=by
 have hm:mmay ((me:Nat):Int) ((0:Nat):Int) ((0:Nat):Int) ((0:Nat):Int) 0 ((0:Nat):Int) ((0:Nat):Int) = true:=may_of h (by omega) (by omega) (by omega) (by omega) (by omega) (.inl ⟨rfl,rfl⟩)
 have hB:=fun W => begin_ok me W h
 have hW:=fun W => mwords_ok me 0 0 0 0 0 0 W (by decide) hm
 have hF:=fun W => fresh_blk W
 obtain ⟨rec,hrec⟩:∃ r,mws me 0 0 0 0 0 0 = r:=⟨_,rfl⟩
 have hrl:rec.length = 5:=by rw [← hrec];rfl
 rw [hrec] at hW ⊢
 simp only [Int.cast_ofNat_Int] at hW hF
 clear hm hrec
 have HM:=Mem.init w
 go_enter Tryz.func52,Tryz.ntmps52
 go_wp2_with fail
 refine (hB _).mono ?_
 rintro e wa ⟨rfl,hba⟩
 replace HM:=Mem.call HM hba
 clear hba hB
 go_wp2_with fail
 replace HM:=HM.al wa.heap.size #[me,(),(),(),.int .u64 0,(),()] (81) |>.gen
 simp only [List.nil_append] at HM
 obtain ⟨W1,hW1,HM⟩:=HM
 rw [hW1]
 clear hW1
 refine (hW _).mono ?_
 rintro e wb ⟨u,rfl,hu,hbb⟩
 replace HM:=Mem.call HM hbb
 clear hbb hW
 go_wp2_with fail
 refine (hF _).mono ?_
 rintro e wd ⟨g,rfl,hg,hblk,hbd⟩
 have hgw:w.heap.size ≤ g:=Nat.le_trans HM.below.size hg
 have hu2:=hu.below hbd
 replace HM:=Mem.call HM hbd
 have HB:=HM.below
 have hblk':wd.heap[g]? = some (.cells (ws (1 :: List.replicate 11 0)).toArray 143 (0,0)):=hblk
 clear hbd hF HM hu hg
 obtain ⟨A,c,rfl,hc1,hc2,hx,hr⟩:=hu2
 obtain ⟨bk,off,rfl,hBk,hcell⟩:=hr.at_ (by omega)
 rw [hrl] at hc1 ⊢
 have hone:∀ v ∈ ws rec,v.oneCell' = true:=fun v hv => by
  obtain ⟨x,_,rfl⟩:=List.mem_map.1 hv
  rfl
 have hwl:(ws rec).length = 5:=by rw [ws_length,hrl]
 have HX:=Lib.hid hx
 have HR:=Lib.hid hrl
 clear hx hr hc1 hc2
 obtain ⟨W5,hW5⟩:∃ W5,wd.setRow g (((ws (1 :: List.replicate 11 0)).toArray.toList.take 1 ++ ws rec ++ (ws (1 :: List.replicate 11 0)).toArray.toList.drop (1 + (ws rec).length)).toArray) = W5:=⟨_,rfl⟩
 have hrun:=run_copy_row (P:=Tryz.prog) wd 32 32 3 143 g 1 11 11 ⟨bk,off,none⟩ 5 c _ 143 (ws rec) Tryz.underlying32 u32_size hblk' (by rw [hwl];rfl) (fun j v hv => by rw [add_none];exact hcell j v hv) (by rw [hwl];decide) hone
 have h5:=setRow_heap wd g _ (((ws (1 :: List.replicate 11 0)).toArray.toList.take 1 ++ ws rec ++ (ws (1 :: List.replicate 11 0)).toArray.toList.drop (1 + (ws rec).length)).toArray) 143 _ hblk'
 have hb5:=below_setRow HB hgw (((ws (1 :: List.replicate 11 0)).toArray.toList.take 1 ++ ws rec ++ (ws (1 :: List.replicate 11 0)).toArray.toList.drop (1 + (ws rec).length)).toArray)
 rw [hW5] at hrun h5 hb5
 have hB5:Blk W5 g 143 (ws ((1 :: rec) ++ (0 :: List.replicate 5 0))).toArray:=by
  have h6:=h5
  rw [hwl] at h6
  show W5.heap[g]? = _
  rw [h6]
  congr 2
  show (_:List Value).toArray = _
  congr 1
  simp [ws]
 rw [hwl] at hrun
 have HB5:=Lib.hid hB5
 clear hblk hblk' hcell hone h5 hB5 hwl hW5
 go_wp2
 go_ret2
 exact ⟨g,rfl,hgw,HB5.out,(by
  intro x hx'
  simp only [List.mem_cons,List.mem_append,List.mem_replicate] at hx'
  rcases hx' with rfl | hx' | rfl | ⟨_,rfl⟩
  ·omega
  ·exact HX.out x hx'
  ·omega
  ·omega),hb5⟩
end Go.Proofs.YtfgiehkfcoodbaaGreat

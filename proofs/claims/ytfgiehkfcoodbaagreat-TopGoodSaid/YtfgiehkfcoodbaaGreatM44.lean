/- meter.Begin. -/
import Derived.Test.YtfgiehkfcoodbaaGreatM0
import Derived.Test.YtfgiehkfcoodbaaGreatM38
import Derived.Test.YtfgiehkfcoodbaaGreatM9
namespace Go.Proofs.YtfgiehkfcoodbaaGreat
open Go.RowKit
set_option linter.unusedVariables false
set_option maxRecDepth 100000
set_option maxHeartbeats 16000000
theorem begin_ok (me:Nat) (w:World) (h:me < 50):Calls Tryz.prog 71 #[me] w fun e w' => e = .returned (.tuple #[.agg #[me,(),(),(),.int .u64 0,(),()],()]) ∧ Below w.heap.size w w':=by
 have hmm:mmay (me:Int) 0 0 0 0 0 0 = true:=may_of (me:=me) (rev:=0) (cr:=0) (H:=0) (B:=0) (bad:=0) (lock:=0) h (by omega) (by omega) (by omega) (by omega) (by omega) (.inl ⟨rfl,rfl⟩)
 have hM:=fun W => mmay_is (Lib.hid hmm) W (by decide) (by omega) (by decide) (by decide)
 simp only [Int.cast_ofNat_Int] at hM
 clear hmm
 have HM:=Mem.init w
 go_enter Tryz.func71,Tryz.ntmps71
 go_wp2_with fail
 replace HM:=HM.al w.heap.size #[(),(),(),(),.int .u64 0,(),()] (81) |>.al (w.heap.size + 1) #[me,(),(),(),.int .u64 0,(),()] (81) |>.gen
 simp only [List.nil_append,List.cons_append] at HM
 obtain ⟨W0,hW0,HM⟩:=HM
 rw [hW0]
 clear hW0
 refine (hM _).mono ?_
 rintro e wa ⟨rfl,hba⟩
 replace HM:=Mem.call HM hba
 have Lrs:=HM.c7 0 rfl
 have Lmb:=HM.c7 1 rfl
 have Nrsmb:=HM.ne2 0 1 rfl rfl rfl
 clear hba hM
 go_wp2
 replace HM:=HM.set 0 rfl 0 me |>.set 0 rfl 1 () |>.set 0 rfl 2 () |>.set 0 rfl 3 () |>.set 0 rfl 4 (.int .u64 0) |>.set 0 rfl 5 () |>.set 0 rfl 6 () |>.gen
 simp only [List.set_cons_zero,List.setIfInBounds_toArray,List.set_cons_succ] at HM
 obtain ⟨wz,hwz,HM⟩:=HM
 rw [hwz]
 clear hwz
 clear Lrs Lmb Nrsmb
 obtain ⟨rslt,rs0,-,rs1,-,rs2,-,rs3,-,rs4,-,rs5,-,rs6,-⟩:=HM.c7 0 rfl
 refine bodyPost_ret (v:=.tuple #[.agg #[me,(),(),(),.int .u64 0,(),()],()]) (by simp [results,Tryz.results71,go_sem,rs0,rs1,rs2,rs3,rs4,rs5,rs6];done) rfl ?_
 exact ⟨rfl,HM.below⟩
end Go.Proofs.YtfgiehkfcoodbaaGreat

/- meter: Words, Read. -/
import Derived.Test.YtfgiehkfcoodbaaGreatM0
import Derived.Test.YtfgiehkfcoodbaaGreatM31
import Derived.Deep.RegionHeld3
import Derived.BigRegion
namespace Go.Proofs.YtfgiehkfcoodbaaGreat
open Go.RowKit
set_option linter.unusedVariables false
set_option maxRecDepth 100000
set_option maxHeartbeats 16000000
def mws (me rev cr H b bad lock:Nat):List Nat:=[cr,lock * 16777216 + bad * 65536 + rev * 256 + me,H,b % 4294967296,b / 4294967296]
theorem blk_drew {w:World} {g:Nat} {t:TypeId} {cs:Array Value} (h:Blk w g t cs):Blk w.drew g t cs:=h
theorem or_add (a i c:Nat) (h:c < 2 ^ i):(a * 2 ^ i ||| c) = a * 2 ^ i + c:=by
 have:=Nat.shiftLeft_add_eq_or_of_lt h a
 rw [Nat.shiftLeft_eq] at this
 exact this.symm
theorem flag_e1 {lock bad:Nat} (h1:lock ≤ 30) (h2:bad < 5):bits .or .u32 ((lock:Int) * 16777216) ((bad:Int) * 65536) = ((lock * 16777216 + bad * 65536:Nat):Int):=by
 have h:=u32_or_nat (lock * 16777216) (bad * 65536) (by omega) (by omega)
 have k:=or_add lock 24 (bad * 65536) (by omega)
 rw [show (2:Nat) ^ 24 = 16777216 by decide] at k
 rw [k] at h
 rw [← h,Int.natCast_mul,Int.natCast_mul];rfl
theorem flag_e2 {lock bad rev:Nat} (h1:lock ≤ 30) (h2:bad < 5) (h3:rev ≤ 15):bits .or .u32 ((lock * 16777216 + bad * 65536:Nat):Int) ((rev:Int) * 256) = ((lock * 16777216 + bad * 65536 + rev * 256:Nat):Int):=by
 have h:=u32_or_nat (lock * 16777216 + bad * 65536) (rev * 256) (by omega) (by omega)
 have k:=or_add (lock * 256 + bad) 16 (rev * 256) (by omega)
 rw [show (2:Nat) ^ 16 = 65536 by decide,show (lock * 256 + bad) * 65536 = lock * 16777216 + bad * 65536 by omega] at k
 rw [k] at h
 rw [← h,Int.natCast_mul];rfl
theorem flag_e3 {lock bad rev me:Nat} (h1:lock ≤ 30) (h2:bad < 5) (h3:rev ≤ 15) (h4:me < 50):bits .or .u32 ((lock * 16777216 + bad * 65536 + rev * 256:Nat):Int) (me:Int) = ((lock * 16777216 + bad * 65536 + rev * 256 + me:Nat):Int):=by
 have h:=u32_or_nat (lock * 16777216 + bad * 65536 + rev * 256) me (by omega) (by omega)
 have k:=or_add (lock * 65536 + bad * 256 + rev) 8 me (by omega)
 rw [show (2:Nat) ^ 8 = 256 by decide,show (lock * 65536 + bad * 256 + rev) * 256 = lock * 16777216 + bad * 65536 + rev * 256 by omega] at k
 rw [k] at h
 exact h
theorem wrap_lo {b lo:Nat} (h:b % 4294967296 = lo):IntKind.u32.wrap (b:Int) = (lo:Int):=by rw [IntKind.wrap_u32];omega
theorem mmay_bd {me rev cr h:Int} {b:Nat} {bad lock:Int} (hb:b < 2 ^ 64) (hm:mmay me rev cr h b bad lock = true):may1 me rev cr ∧ may2 bad lock ∧ ∃ H:Nat,h = H ∧ WMay H b:=by
 unfold mmay at hm
 split at hm
 ·split at hm
  ·exact ⟨by assumption,by assumption,(wmayB_iff hb).1 hm⟩
  ·cases hm
 ·cases hm
theorem mwords_ok (me rev cr H b bad lock:Nat) (w:World) (hb:b < 2 ^ 64) (hm:mmay me rev cr H b bad lock = true) :
 Calls Tryz.prog 72 #[.agg #[me,rev,cr,H,.int .u64 b,bad,lock]] w (RetWsOk (mws me rev cr H b bad lock) w):=by
 obtain ⟨⟨a1,a2,a3,a4,a5,a6⟩,⟨b1,b2,b3,b4,b5⟩,H',hH',hW⟩:=mmay_bd hb hm
 obtain rfl:H = H':=by omega
 have hH:=hW.le
 have hM:=fun W => mmay_is (Lib.hid hm) W (WalkArith.wf_i64 (by omega)) hb (WalkArith.wf_i64 (by omega)) (WalkArith.wf_i64 (by omega))
 have e1:=flag_e1 (lock:=lock) (bad:=bad) (by omega) (by omega)
 have e2:=flag_e2 (lock:=lock) (bad:=bad) (rev:=rev) (by omega) (by omega) (by omega)
 have e3:=flag_e3 (lock:=lock) (bad:=bad) (rev:=rev) (me:=me) (by omega) (by omega) (by omega) (by omega)
 have hF32:lock * 16777216 + bad * 65536 + rev * 256 + me < 4294967296:=by omega
 obtain ⟨F,hF⟩:∃ F,lock * 16777216 + bad * 65536 + rev * 256 + me = F:=⟨_,rfl⟩
 have HF:=Lib.hid hF
 rw [hF] at e3 hF32
 clear hF
 obtain ⟨X2,hX2⟩:∃ X2,lock * 16777216 + bad * 65536 + rev * 256 = X2:=⟨_,rfl⟩
 rw [hX2] at e2 e3
 obtain ⟨X1,hX1⟩:∃ X1,lock * 16777216 + bad * 65536 = X1:=⟨_,rfl⟩
 rw [hX1] at e1 e2
 clear hX1 hX2
 obtain ⟨lo,hlo⟩:∃ lo:Nat,b % 4294967296 = lo:=⟨_,rfl⟩
 obtain ⟨hi,hhi⟩:∃ hi:Nat,b / 4294967296 = hi:=⟨_,rfl⟩
 have e4:=wrap_lo hlo
 have e5:(b:Int) / 4294967296 = (hi:Int):=by omega
 have hlo32:lo < 4294967296:=by omega
 have hhi32:hi < 4294967296:=by omega
 have HLO:=Lib.hid hlo
 have HHI:=Lib.hid hhi
 clear hlo hhi hm hH'
 go_enter Tryz.func72,Tryz.ntmps72
 go_wp2_with fail
 refine (hM _).mono ?_
 rintro e wa ⟨rfl,hba⟩
 obtain ⟨c,f⟩:=bcell hba
 have bA:=(below_a1 w _).step hba
 clear hM
 go_wp2
 go_ret2
 have hx:mws me rev cr H b bad lock = [cr,F,H,lo,hi]:=by unfold mws;rw [HF.out,HLO.out,HHI.out]
 rw [hx]
 refine ⟨_,rfl,?_,bA.alloc (by have:=bA.size;omega) _⟩
 exact isws_blk (xs:=[cr,F,H,lo,hi]) (by unfold maxLen;simp) (by simp;omega) (Blk.new _ _ _)
def RetMRead (v:Bool) (me rev cr H b bad lock:Nat) (w:World) (e:Ending) (w':World):Prop :=
 e = .returned (.tuple #[if v then .agg #[me,rev,cr,H,.int .u64 b,bad,lock] else .agg #[(),(),(),(),.int .u64 0,(),()],.int .i64 (if v then 0 else 5)]) ∧ Below w.heap.size w w'
theorem mread_ok (v:Value) (x0 x1 x2 x3 x4 me rev b bad lock:Nat) (r:Bool) (w:World) (hv:IsWs w v [x0,x1,x2,x3,x4]) (hme:x1 % 256 = me) (hrev:x1 / 256 % 256 = rev) (hbad:x1 / 65536 % 256 = bad) (hlock:x1 / 16777216 % 256 = lock) (hb:x3 + x4 * 4294967296 = b) (hr:Hid (mmay me rev x0 x2 b bad lock = r)) :
 Calls Tryz.prog 68 #[v] w (RetMRead r me rev x0 x2 b bad lock w):=by
 obtain ⟨A,c,rfl,hc1,hc2,hx,hrd⟩:=hv
 obtain ⟨bk,off,rfl,hB,hcell⟩:=hrd.at_ (by simp)
 have y0:=hx x0 (by simp)
 have y1:=hx x1 (by simp)
 have y2:=hx x2 (by simp)
 have y3:=hx x3 (by simp)
 have y4:=hx x4 (by simp)
 have q0:w.cell? ⟨bk,off,none⟩ = some (.int .u32 x0):=hcell 0 _ rfl
 have q1:w.cell? ⟨bk,off + 1,none⟩ = some (.int .u32 x1):=hcell 1 _ rfl
 have q2:w.cell? ⟨bk,off + 2,none⟩ = some (.int .u32 x2):=hcell 2 _ rfl
 have q3:w.cell? ⟨bk,off + 3,none⟩ = some (.int .u32 x3):=hcell 3 _ rfl
 have q4:w.cell? ⟨bk,off + 4,none⟩ = some (.int .u32 x4):=hcell 4 _ rfl
 clear hcell hrd hx hc1 hc2
 have hlen:[x0,x1,x2,x3,x4].length = 5:=rfl
 rw [hlen]
 have e1:bits .or .u64 (x3:Int) ((x4:Int) * 4294967296) = (b:Int):=by
  have h:=u64_or_nat x3 (x4 * 4294967296) (by omega) (by omega)
  have k:=or_add x4 32 x3 (by omega)
  rw [show (2:Nat) ^ 32 = 4294967296 by decide] at k
  rw [Nat.or_comm,k,Nat.add_comm,hb] at h
  rw [← h,Int.natCast_mul];rfl
 have hb64:b < 2 ^ 64:=by omega
 have t0:(x1:Int) % 256 = (me:Int):=by omega
 have t1:(x1:Int) / 256 % 256 = (rev:Int):=by omega
 have t2:(x1:Int) / 65536 % 256 = (bad:Int):=by omega
 have t3:(x1:Int) / 16777216 = (lock:Int):=by omega
 have n1:bk < w.heap.size + 1:=by omega
 have n2:bk < w.heap.size + 1 + 1:=by omega
 have hM:=fun W => mmay_is hr W (WalkArith.wf_i64 (by omega)) hb64 (WalkArith.wf_i64 (by omega)) (WalkArith.wf_i64 (by omega))
 clear hb hme hrev hbad hlock
 go_enter Tryz.func68,Tryz.ntmps68
 go_wp2_with fail
 go_region
 go_wp2
 refine wp_loop_rounds 5 ?_
 rw [rounds_succ]
 go_wp2
 rw [rounds_succ]
 go_wp2
 rw [rounds_succ]
 go_wp2
 rw [rounds_succ]
 go_wp2
 rw [rounds_succ]
 go_wp2_with fail
 refine (hM _).mono ?_
 rintro e wa ⟨rfl,hba⟩
 have hsa:=hba.size
 simp at hsa
 have hA:=((Blk.new w 81 #[(),(),(),(),.int .u64 0,(),()]).alloc (.cells #[me,rev,x0,x2,.int .u64 b,bad,lock] 81)).alloc (.cells #[.pointer (some ⟨w.heap.size + 1,0,none⟩),.pointer (some ⟨w.heap.size + 1,1,none⟩),.pointer (some ⟨w.heap.size + 1,5,none⟩),.pointer (some ⟨w.heap.size + 1,6,none⟩)] 139)
 have hB:=(show Blk ((w.alloc (.cells #[(),(),(),(),.int .u64 0,(),()] 81)).alloc (.cells #[me,rev,x0,x2,.int .u64 b,bad,lock] 81)) (w.heap.size + 1) 81 #[me,rev,x0,x2,.int .u64 b,bad,lock] from heap_alloc2 _ _ _).alloc (.cells #[.pointer (some ⟨w.heap.size + 1,0,none⟩),.pointer (some ⟨w.heap.size + 1,1,none⟩),.pointer (some ⟨w.heap.size + 1,5,none⟩),.pointer (some ⟨w.heap.size + 1,6,none⟩)] 139)
 have hba3:=hba.mono (show w.heap.size + 3 ≤ _ by simp)
 have hA2:=(blk_drew hA).below hba3 (by omega)
 have hB2:=(blk_drew hB).below hba3 (by omega)
 have bb:=(below_a3 w (.cells #[(),(),(),(),.int .u64 0,(),()] 81) (.cells #[me,rev,x0,x2,.int .u64 b,bad,lock] 81) (.cells #[.pointer (some ⟨w.heap.size + 1,0,none⟩),.pointer (some ⟨w.heap.size + 1,1,none⟩),.pointer (some ⟨w.heap.size + 1,5,none⟩),.pointer (some ⟨w.heap.size + 1,6,none⟩)] 139)).drew.trans (hba.mono (by simp;omega))
 have n3:w.heap.size < wa.heap.size:=by omega
 have n4:w.heap.size + 1 < wa.heap.size:=by omega
 clear hA hB hba hM q0 q1 q2 q3 q4
 have r0:wa.cell? ⟨w.heap.size,0,none⟩ = some (.int .i64 0):=hA2.cell 0
 have rf0:wa.frozen? ⟨w.heap.size,0,none⟩ = false:=hA2.frozen 0
 have r1:wa.cell? ⟨w.heap.size,1,none⟩ = some (.int .i64 0):=hA2.cell 1
 have rf1:wa.frozen? ⟨w.heap.size,1,none⟩ = false:=hA2.frozen 1
 have r2:wa.cell? ⟨w.heap.size,2,none⟩ = some (.int .i64 0):=hA2.cell 2
 have rf2:wa.frozen? ⟨w.heap.size,2,none⟩ = false:=hA2.frozen 2
 have r3:wa.cell? ⟨w.heap.size,3,none⟩ = some (.int .i64 0):=hA2.cell 3
 have rf3:wa.frozen? ⟨w.heap.size,3,none⟩ = false:=hA2.frozen 3
 have r4:wa.cell? ⟨w.heap.size,4,none⟩ = some (.int .u64 0):=hA2.cell 4
 have rf4:wa.frozen? ⟨w.heap.size,4,none⟩ = false:=hA2.frozen 4
 have r5:wa.cell? ⟨w.heap.size,5,none⟩ = some (.int .i64 0):=hA2.cell 5
 have rf5:wa.frozen? ⟨w.heap.size,5,none⟩ = false:=hA2.frozen 5
 have r6:wa.cell? ⟨w.heap.size,6,none⟩ = some (.int .i64 0):=hA2.cell 6
 have rf6:wa.frozen? ⟨w.heap.size,6,none⟩ = false:=hA2.frozen 6
 have s0:wa.cell? ⟨w.heap.size + 1,0,none⟩ = some (.int .i64 me):=hB2.cell 0
 have sf0:wa.frozen? ⟨w.heap.size + 1,0,none⟩ = false:=hB2.frozen 0
 have s1:wa.cell? ⟨w.heap.size + 1,1,none⟩ = some (.int .i64 rev):=hB2.cell 1
 have sf1:wa.frozen? ⟨w.heap.size + 1,1,none⟩ = false:=hB2.frozen 1
 have s2:wa.cell? ⟨w.heap.size + 1,2,none⟩ = some (.int .i64 x0):=hB2.cell 2
 have sf2:wa.frozen? ⟨w.heap.size + 1,2,none⟩ = false:=hB2.frozen 2
 have s3:wa.cell? ⟨w.heap.size + 1,3,none⟩ = some (.int .i64 x2):=hB2.cell 3
 have sf3:wa.frozen? ⟨w.heap.size + 1,3,none⟩ = false:=hB2.frozen 3
 have s4:wa.cell? ⟨w.heap.size + 1,4,none⟩ = some (.int .u64 b):=hB2.cell 4
 have sf4:wa.frozen? ⟨w.heap.size + 1,4,none⟩ = false:=hB2.frozen 4
 have s5:wa.cell? ⟨w.heap.size + 1,5,none⟩ = some (.int .i64 bad):=hB2.cell 5
 have sf5:wa.frozen? ⟨w.heap.size + 1,5,none⟩ = false:=hB2.frozen 5
 have s6:wa.cell? ⟨w.heap.size + 1,6,none⟩ = some (.int .i64 lock):=hB2.cell 6
 have sf6:wa.frozen? ⟨w.heap.size + 1,6,none⟩ = false:=hB2.frozen 6
 clear hA2 hB2
 cases r
 ·go_wp2
  refine bodyPost_ret (v:=.tuple #[.agg #[(),(),(),(),.int .u64 0,(),()],.int .i64 5]) (by simp [results,Tryz.results68,go_sem,r0,r1,r2,r3,r4,r5,r6];done) rfl ?_
  refine ⟨rfl,?_⟩
  repeat (first | with_reducible exact bb | with_reducible refine Below.drew ?_ | (with_reducible refine Below.setCell ?_ ?bd _;case bd => (show _ ≤ _;dsimp only;omega)))
 ·go_wp2
  refine bodyPost_ret (v:=.tuple #[.agg #[me,rev,x0,x2,.int .u64 b,bad,lock],()]) (by simp [results,Tryz.results68,go_sem,r0,r1,r2,r3,r4,r5,r6];done) rfl ?_
  refine ⟨rfl,?_⟩
  repeat (first | with_reducible exact bb | with_reducible refine Below.drew ?_ | (with_reducible refine Below.setCell ?_ ?bd _;case bd => (show _ ≤ _;dsimp only;omega)))
end Go.Proofs.YtfgiehkfcoodbaaGreat

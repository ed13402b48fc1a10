/- window: may, Judge, Take, Used. -/
import Derived.Test.YtfgiehkfcoodbaaGreatM0
import Derived.Test.YtfgiehkfcoodbaaGreatM24
import Derived.Test.YtfgiehkfcoodbaaGreatM1
import Derived.Test.YtfgiehkfcoodbaaGreatM2
import Derived.Test.YtfgiehkfcoodbaaGreatShelf
import Derived.Laws.Bits64b
import Derived.Test.YtfgiehkfcoodbaaGreatM17
import Derived.OwnWalk
namespace Go.Proofs.YtfgiehkfcoodbaaGreat
open Go.RowKit
set_option linter.unusedVariables false
set_option maxRecDepth 100000
set_option maxHeartbeats 16000000
theorem bl_spec:∀ x:Nat,x < 2 ^ 64 → x < 2 ^ Lib.bitLen x ∧ (x ≠ 0 → 1 ≤ Lib.bitLen x ∧ 2 ^ (Lib.bitLen x - 1) ≤ x):=by
 intro x
 induction x using Nat.strongRecOn with
 | ind x ih =>
  intro hx
  by_cases h0:x = 0
  ·subst h0;exact ⟨by decide,fun h => absurd rfl h⟩
  ·obtain ⟨h1,h2⟩:=ih (x / 2) (by omega) (by omega)
   rw [Lib.bitLen_half x h0 hx]
   refine ⟨?_,fun _ => ⟨by omega,?_⟩⟩
   ·rw [Nat.add_comm,Nat.pow_succ];omega
   ·by_cases h3:x / 2 = 0
    ·obtain rfl:x = 1:=by omega
     decide
    ·obtain ⟨h4,h5⟩:=h2 h3
     rw [show 1 + Lib.bitLen (x / 2) - 1 = (Lib.bitLen (x / 2) - 1) + 1 by omega,Nat.pow_succ];omega
theorem bl_le {x k:Nat} (hx:x < 2 ^ 64):Lib.bitLen x ≤ k ↔ x < 2 ^ k:=by
 obtain ⟨h1,h2⟩:=bl_spec x hx
 constructor
 ·intro h;exact Nat.lt_of_lt_of_le h1 (Nat.pow_le_pow_right (by omega) h)
 ·intro h
  by_cases h0:x = 0
  ·subst h0;exact Nat.zero_le _
  ·obtain ⟨h3,h4⟩:=h2 h0
   have:¬ k < Lib.bitLen x:=fun hk => by
    have:=Nat.pow_le_pow_right (n:=2) (by omega) (show k ≤ Lib.bitLen x - 1 by omega)
    omega
   omega
theorem bl_64 {x:Nat} (hx:x < 2 ^ 64):Lib.bitLen x ≤ 64:=(bl_le hx).2 hx
def wmayB (h:Int) (b:Nat):Bool:=if h < 1 then h == 0 && (b:Int) == 0 else if h ≤ 1048575 then if b % 2 = 1 then decide ((Lib.bitLen b:Int) ≤ min h 64) else false else false
theorem wmayB_iff {h:Int} {b:Nat} (hb:b < 2 ^ 64):wmayB h b = true ↔ ∃ H:Nat,h = H ∧ WMay H b:=by
 unfold wmayB
 constructor
 ·intro hv
  split at hv
  ·simp at hv
   obtain ⟨rfl,h2⟩:=hv
   exact ⟨0,rfl,.inl ⟨rfl,by omega⟩⟩
  ·split at hv
   ·split at hv
    ·rename_i g1 g2 g3
     refine ⟨h.toNat,by omega,.inr ⟨by omega,by omega,by rw [Nat.testBit_zero];simpa using g3,?_⟩⟩
     simp at hv
     exact (bl_le hb).1 (by omega)
    ·cases hv
   ·cases hv
 ·rintro ⟨H,rfl,⟨rfl,rfl⟩ | ⟨g1,g2,g3,g4⟩⟩
  ·rfl
  ·rw [if_neg (by omega),if_pos (by omega),if_pos (by rw [Nat.testBit_zero] at g3;simpa using g3)]
   have:=(bl_le hb).2 g4
   simp;omega
theorem wmayB_of {H b:Nat} (h:WMay H b):wmayB H b = true:=(wmayB_iff h.lt).2 ⟨H,rfl,h⟩
theorem and_one (b:Nat) (hb:b < 2 ^ 64):bits .and .u64 (b:Int) 1 = ((b % 2:Nat):Int):=by
 have:=bits_and_u64_nat b 1 (by omega) (by omega)
 rw [Nat.and_one_is_mod] at this
 exact this
theorem shr_cast (B k:Nat):(B:Int) / 2 ^ k = ((B / 2 ^ k:Nat):Int):=by rw [Int.natCast_ediv,Int.natCast_pow];rfl
theorem shr_bit {B k:Nat} {b:Bool} (hB:B < 2 ^ 64) (h:B.testBit k = b):bits .and .u64 ((B:Int) / 2 ^ k) 1 = if b then 1 else 0:=by
 rw [shr_cast,and_one _ (Nat.lt_of_le_of_lt (Nat.div_le_self _ _) hB)]
 rw [Nat.testBit_eq_decide_div_mod_eq] at h
 subst h
 rcases Nat.mod_two_eq_zero_or_one (B / 2 ^ k) with h1 | h1 <;> rw [h1] <;> rfl
theorem or_one (B k:Nat):bits .or .u64 (IntKind.u64.wrap ((B:Int) * 2 ^ min k 64)) 1 = (((B <<< k) % 2 ^ 64 ||| 1:Nat):Int):=by
 have e:IntKind.u64.wrap ((B:Int) * 2 ^ min k 64) = (((B <<< k) % 2 ^ 64:Nat):Int):=by
  rw [IntKind.wrap_u64,Nat.shiftLeft_eq]
  by_cases h:k ≤ 64
  ·rw [Nat.min_eq_left h,Int.natCast_emod,Int.natCast_mul,Int.natCast_pow];rfl
  ·rw [Nat.min_eq_right (by omega)]
   have e1:B * 2 ^ k % 2 ^ 64 = 0:=by
    rw [show k = 64 + (k - 64) by omega,Nat.pow_add,← Nat.mul_assoc,Nat.mul_comm B,Nat.mul_assoc]
    exact Nat.mul_mod_right _ _
   rw [e1]
   show (B:Int) * 18446744073709551616 % 18446744073709551616 = 0
   exact Int.mul_emod_left _ _
 rw [e]
 exact bits_or_u64_nat _ 1 (Nat.mod_lt _ (by decide)) (by omega)
theorem or_pow {B k:Nat} (hB:B < 2 ^ 64) (hk:k < 64):bits .or .u64 (B:Int) (IntKind.u64.wrap (2 ^ k)) = ((B ||| 2 ^ k:Nat):Int):=by
 have h2:(2:Nat) ^ k < 2 ^ 64:=Nat.pow_lt_pow_right (by omega) hk
 have e:IntKind.u64.wrap (2 ^ k) = ((2 ^ k:Nat):Int):=by
  rw [IntKind.wrap_u64,Int.natCast_pow]
  have:((2:Nat) ^ k:Int) < 18446744073709551616:=by
   have:(((2:Nat) ^ k:Nat):Int) < 18446744073709551616:=by omega
   rwa [Int.natCast_pow] at this
  exact Int.emod_eq_of_lt (by exact Int.le_of_lt (Int.pow_pos (by omega))) this
 rw [e]
 exact bits_or_u64_nat B _ (by omega) (by omega)
theorem win_eql (a0 a1 b0 b1:Int) (W:World) :
 (Op.equalIn 10000 79 (.agg #[a0,.int .u64 a1]) (.agg #[b0,.int .u64 b1])).run Tryz.prog W = .ok (a0 == b0 && a1 == b1) W:=by
 have h:=eq_is (P:=Tryz.prog) (t:=79) [.int .i64 a0,.int .u64 a1] [.int .i64 b0,.int .u64 b1] W (by kernel_rfl) (mkv_struct Tryz.underlying79)
 simpa [cellsEq,leafEq] using h
theorem may_any (h:Int) (b:Nat) (w:World) (hw:(Lit.int .i64 h).wf = true) (hb:b < 2 ^ 64) :
 Calls Tryz.prog 101 #[.agg #[h,.int .u64 b]] w fun e w' => e = .returned (.bool (wmayB h b)) ∧ Below w.heap.size w w':=by
 obtain ⟨h1,h2⟩:=bounds_i64 hw
 clear hw
 by_cases g1:h < 1
 ·have HV:=Lib.hid (show wmayB h b = (h == 0 && (b:Int) == 0) by unfold wmayB;rw [if_pos g1])
  have HE:=fun W => win_eql h b 0 0 W
  go_enter Tryz.func101,Tryz.ntmps101
  go_wp2_with fail
  go_ret
  exact ⟨by rw [HV.out];rfl,below_a1 _ _⟩
 ·by_cases g2:h ≤ 1048575
  ·by_cases g3:b % 2 = 1
   ·have HV:=Lib.hid (show wmayB h b = decide ((Lib.bitLen b:Int) ≤ min h 64) by unfold wmayB;rw [if_neg g1,if_pos g2,if_pos g3])
    have hA:bits .and .u64 (b:Int) 1 = 1:=by rw [and_one b hb,g3];rfl
    clear g3
    have hL:=bl_64 hb
    go_enter Tryz.func101,Tryz.ntmps101
    go_wp2_with fail
    refine (Tryz.bits_Len64 _ _ (by omega) (by omega)).mono ?_
    rintro e w' ⟨rfl,rfl⟩
    go_wp2
    go_ret
    exact ⟨by rw [HV.out];rfl,below_a1 _ _⟩
   ·have HV:=Lib.hid (show wmayB h b = false by unfold wmayB;rw [if_neg g1,if_pos g2,if_neg g3])
    have hA:bits .and .u64 (b:Int) 1 = 0:=by rw [and_one b hb,show b % 2 = 0 by omega];rfl
    clear g3
    go_enter Tryz.func101,Tryz.ntmps101
    go_wp2_with fail
    go_ret
    exact ⟨by rw [HV.out];rfl,below_a1 _ _⟩
  ·have HV:=Lib.hid (show wmayB h b = false by unfold wmayB;rw [if_neg g1,if_neg g2])
   go_enter Tryz.func101,Tryz.ntmps101
   go_wp2_with fail
   go_ret
   exact ⟨by rw [HV.out];rfl,below_a1 _ _⟩
theorem may_is {h:Int} {b:Nat} {v:Bool} (hv:Hid (wmayB h b = v)) (w:World) (hw:(Lit.int .i64 h).wf = true) (hb:b < 2 ^ 64) :
 Calls Tryz.prog 101 #[.agg #[h,.int .u64 b]] w fun e w' => e = .returned (.bool v) ∧ Below w.heap.size w w':=by
 rw [← hv.out];exact may_any h b w hw hb
theorem judge_ok (H B j:Nat) (w:World) (hm:WMay H B) (h1:1 ≤ j) (h2:j ≤ 1048575) :
 Calls Tryz.prog 210 #[.agg #[H,.int .u64 B],j] w fun e w' => e = .returned (.int .i64 (judge H B j)) ∧ Below w.heap.size w w':=by
 have hB:=hm.lt
 have hH:=hm.le
 have hM:=Lib.hid (wmayB_of hm)
 have hW:(Lit.int .i64 ↑H).wf = true:=WalkArith.wf_i64 (by omega)
 by_cases g1:j + 64 ≤ H
 ·have HV:=Lib.hid (show judge H B j = 13 by unfold judge;rw [if_pos g1])
  go_enter Tryz.func210,Tryz.ntmps210
  go_wp2_with fail
  refine (may_is hM _ hW hB).mono ?_
  rintro e wa ⟨rfl,hb⟩
  obtain ⟨c,f⟩:=bcell hb
  go_wp2
  go_ret
  exact ⟨by rw [HV.out];rfl,(below_a1 _ _).step hb⟩
 ·by_cases g2:j ≤ H
  ·obtain ⟨k,hk⟩:∃ k:Nat,(H:Int) - (j:Int) = (k:Int):=⟨H - j,by omega⟩
   have hk64:k < 64:=by omega
   have hkn:H - j = k:=by omega
   have hV:∀ b,B.testBit k = b → Hid (judge H B j = if b then 14 else 0):=fun b hb => by
    show _ = _
    unfold judge wk
    rw [if_neg g1,hkn,hb,decide_eq_true g2];cases b <;> rfl
   cases hb1:B.testBit k
   all_goals
    have hA:=shr_bit hB hb1
    have HV:=hV _ hb1
    simp only [Bool.false_eq_true,if_true,if_false] at hA HV
    clear hV hb1 hkn
    go_enter Tryz.func210,Tryz.ntmps210
    go_wp2_with fail
    refine (may_is hM _ hW hB).mono ?_
    rintro e wa ⟨rfl,hb⟩
    obtain ⟨c,f⟩:=bcell hb
    go_wp2
    go_ret
    exact ⟨by rw [HV.out];rfl,(below_a1 _ _).step hb⟩
  ·have HV:=Lib.hid (show judge H B j = 0 by unfold judge wk;rw [if_neg g1,decide_eq_false g2];rfl)
   go_enter Tryz.func210,Tryz.ntmps210
   go_wp2_with fail
   refine (may_is hM _ hW hB).mono ?_
   rintro e wa ⟨rfl,hb⟩
   obtain ⟨c,f⟩:=bcell hb
   go_wp2
   go_ret
   exact ⟨by rw [HV.out];rfl,(below_a1 _ _).step hb⟩
theorem take_ok (H B j:Nat) (w:World) (hm:WMay H B) (h1:1 ≤ j) (h2:j ≤ 1048575) (hj:judge H B j = 0) :
 Calls Tryz.prog 202 #[.agg #[H,.int .u64 B],j] w fun e w' => e = .returned (.tuple #[.agg #[.int .i64 (wtake H B j).1,.int .u64 (wtake H B j).2],()]) ∧ Below w.heap.size w w':=by
 have hJ:=fun W => judge_ok H B j W hm h1 h2
 rw [hj] at hJ
 have hB:=hm.lt
 have hH:=hm.le
 by_cases g:H < j
 ·obtain ⟨k,hk⟩:∃ k:Nat,(j:Int) - (H:Int) = (k:Int):=⟨j - H,by omega⟩
  have HT:wtake H B j = (j,(B <<< k) % 2 ^ 64 ||| 1):=by unfold wtake;rw [if_pos g,show j - H = k by omega]
  rw [HT]
  have hO:=or_one B k
  generalize (B <<< k) % 2 ^ 64 ||| 1 = N at *
  clear HT
  go_enter Tryz.func202,Tryz.ntmps202
  go_wp2_with fail
  refine (hJ _).mono ?_
  rintro e wa ⟨rfl,hb⟩
  obtain ⟨c,f⟩:=bcell hb
  have hs:=hb.size
  simp at hs
  have n1:w.heap.size < wa.heap.size:=by omega
  have n2:w.heap.size + 1 < wa.heap.size:=by omega
  have r0:wa.cell? ⟨w.heap.size,0,none⟩ = some (.int .i64 H):=(c _ _ (by simp only [World.alloc,Array.size_push];omega)).trans (by go_simp)
  have r1:wa.cell? ⟨w.heap.size,1,none⟩ = some (.int .u64 B):=(c _ _ (by simp only [World.alloc,Array.size_push];omega)).trans (by go_simp)
  have t0:wa.cell? ⟨w.heap.size + 1,0,none⟩ = some (.int .i64 0):=(c _ _ (by simp only [World.alloc,Array.size_push];omega)).trans (by go_simp)
  have t1:wa.cell? ⟨w.heap.size + 1,1,none⟩ = some (.int .u64 0):=(c _ _ (by simp only [World.alloc,Array.size_push];omega)).trans (by go_simp)
  have bb:=(below_a2 w _ _).step hb
  clear c hb
  go_wp2
  refine bodyPost_ret (v:=.tuple #[.agg #[j,.int .u64 N],()]) (by simp [results,Tryz.results202,go_sem,t0,t1];done) rfl ?_
  refine ⟨rfl,?_⟩
  repeat (first | with_reducible exact bb | with_reducible refine Below.drew ?_ | (with_reducible refine Below.setCell ?_ ?bd _;case bd => (show _ ≤ _;dsimp only;omega)))
 ·obtain ⟨k,hk⟩:∃ k:Nat,(H:Int) - (j:Int) = (k:Int):=⟨H - j,by omega⟩
  have hk64:k < 64:=by
   unfold judge at hj
   by_cases g:j + 64 ≤ H
   ·rw [if_pos g] at hj;cases hj
   ·omega
  clear hj
  have HT:wtake H B j = (H,B ||| 2 ^ k):=by unfold wtake;rw [if_neg g,show H - j = k by omega]
  rw [HT]
  clear HT
  have hO:=or_pow hB hk64
  generalize B ||| 2 ^ k = N at *
  go_enter Tryz.func202,Tryz.ntmps202
  go_wp2_with fail
  refine (hJ _).mono ?_
  rintro e wa ⟨rfl,hb⟩
  obtain ⟨c,f⟩:=bcell hb
  have hs:=hb.size
  simp at hs
  have n1:w.heap.size < wa.heap.size:=by omega
  have n2:w.heap.size + 1 < wa.heap.size:=by omega
  have r0:wa.cell? ⟨w.heap.size,0,none⟩ = some (.int .i64 H):=(c _ _ (by simp only [World.alloc,Array.size_push];omega)).trans (by go_simp)
  have r1:wa.cell? ⟨w.heap.size,1,none⟩ = some (.int .u64 B):=(c _ _ (by simp only [World.alloc,Array.size_push];omega)).trans (by go_simp)
  have t0:wa.cell? ⟨w.heap.size + 1,0,none⟩ = some (.int .i64 0):=(c _ _ (by simp only [World.alloc,Array.size_push];omega)).trans (by go_simp)
  have t1:wa.cell? ⟨w.heap.size + 1,1,none⟩ = some (.int .u64 0):=(c _ _ (by simp only [World.alloc,Array.size_push];omega)).trans (by go_simp)
  have bb:=(below_a2 w _ _).step hb
  clear c hb
  go_wp2
  go_region
  go_wp2
  refine bodyPost_ret (v:=.tuple #[.agg #[H,.int .u64 N],()]) (by simp [results,Tryz.results202,go_sem,t0,t1];done) rfl ?_
  refine ⟨rfl,?_⟩
  repeat (first | with_reducible exact bb | with_reducible refine Below.drew ?_ | (with_reducible refine Below.setCell ?_ ?bd _;case bd => (show _ ≤ _;dsimp only;omega)))
theorem take_no (H B j c:Nat) (w:World) (hm:WMay H B) (h1:1 ≤ j) (h2:j ≤ 1048575) (hj:Hid (judge H B j = c)) (hc:1 ≤ c) :
 Calls Tryz.prog 202 #[.agg #[H,.int .u64 B],j] w fun e w' => e = .returned (.tuple #[.agg #[(),.int .u64 0],c]) ∧ Below w.heap.size w w':=by
 have hJ:=fun W => judge_ok H B j W hm h1 h2
 rw [hj.out] at hJ
 have hB:=hm.lt
 have hH:=hm.le
 have g1:((c:Int) != 0) = true:=by simp;omega
 go_enter Tryz.func202,Tryz.ntmps202
 go_wp2_with fail
 refine (hJ _).mono ?_
 rintro e wa ⟨rfl,hb⟩
 obtain ⟨cc,ff⟩:=bcell hb
 have hs:=hb.size
 simp at hs
 have n1:w.heap.size < wa.heap.size:=by omega
 have n2:w.heap.size + 1 < wa.heap.size:=by omega
 have t0:wa.cell? ⟨w.heap.size + 1,0,none⟩ = some (.int .i64 0):=(cc _ _ (by simp only [World.alloc,Array.size_push];omega)).trans (by go_simp)
 have t1:wa.cell? ⟨w.heap.size + 1,1,none⟩ = some (.int .u64 0):=(cc _ _ (by simp only [World.alloc,Array.size_push];omega)).trans (by go_simp)
 have bb:=(below_a2 w _ _).step hb
 clear cc hb
 go_wp2
 refine bodyPost_ret (v:=.tuple #[.agg #[(),.int .u64 0],(.int .i64 c)]) (by simp [results,Tryz.results202,go_sem,t0,t1];done) rfl ?_
 refine ⟨rfl,?_⟩
 repeat (first | with_reducible exact bb | with_reducible refine Below.drew ?_ | (with_reducible refine Below.setCell ?_ ?bd _;case bd => (show _ ≤ _;dsimp only;omega)))
end Go.Proofs.YtfgiehkfcoodbaaGreat

/- bits.Div32, words.Over. -/
import Derived.Test.YtfgiehkfcoodbaaGreatM0
import Derived.Test.YtfgiehkfcoodbaaGreatM23
import Derived.Laws.Bits64b
namespace Go.Proofs.YtfgiehkfcoodbaaGreat
open Go.RowKit
set_option linter.unusedVariables false
set_option maxRecDepth 100000
set_option maxHeartbeats 16000000
theorem div32_ok (hi lo y q r:Nat) (w:World) (h1:hi < y) (h2:lo < 4294967296) (h3:y < 4294967296) (hq:(hi * 4294967296 + lo) / y = q) (hr:(hi * 4294967296 + lo) % y = r) :
 Calls Tryz.prog 167 #[.int .u32 hi,.int .u32 lo,.int .u32 y] w fun e w' => e = .returned (.tuple #[.int .u32 q,.int .u32 r]) ∧ ∃ n,w' = w.drewN n:=by
 have hy:0 < y:=by omega
 have hq1:q < 4294967296:=by
  rw [← hq];exact Nat.div_lt_of_lt_mul (by
   have:(hi + 1) * 4294967296 ≤ y * 4294967296:=Nat.mul_le_mul_right _ h1
   omega)
 have hr1:r < y:=by rw [← hr];exact Nat.mod_lt _ hy
 obtain ⟨N,hN⟩:∃ N:Nat,hi * 4294967296 + lo = N:=⟨_,rfl⟩
 have hor:bits BinOp.or IntKind.u64 ((hi:Int) * 4294967296) (lo:Int) = (N:Int):=by
  have e:((hi:Int) * 4294967296) = ((hi * 4294967296:Nat):Int):=by omega
  have e2:=Nat.shiftLeft_add_eq_or_of_lt (i:=32) (b:=lo) (by omega) hi
  rw [Nat.shiftLeft_eq] at e2
  rw [e,bits_or_u64_nat _ _ (by omega) (by omega),← hN,← e2]
 have hN2:N < 18446744073709551616:=by omega
 rw [hN] at hq hr
 have d1:(N:Int) / (y:Int) = (q:Int):=by rw [← Int.natCast_ediv,hq]
 have d2:(N:Int) % (y:Int) = (r:Int):=by rw [← Int.natCast_emod,hr]
 have d3:(N:Int).tdiv (y:Int) = (q:Int):=by rw [Int.tdiv_eq_ediv_of_nonneg (by omega),d1]
 have d4:(N:Int).tmod (y:Int) = (r:Int):=by rw [Int.tmod_eq_emod_of_nonneg (by omega),d2]
 have hyn:(y:Int) ≠ 0:=by omega
 have hr3:r < 4294967296:=by omega
 have g1:((y:Int) != 0) = true:=by simp;omega
 have g2:decide (y ≤ hi) = false:=by simp;omega
 clear hq hr hN
 go_enter Tryz.func167,Tryz.ntmps167
 go_wp2_with fail
 go_quiet (fail)
 go_wp2
 go_ret2
 exact ⟨rfl,_,rfl⟩
theorem over_ok (x0 x1 x2 d q0 q1 q2 r0 r1 r2:Nat) (w:World) (h0:x0 < 4294967296) (h1:x1 < 4294967296) (h2:x2 < 4294967296) (hd:d < 4294967296) (hd0:0 < d)
 (e2:(0 * 4294967296 + x2) / d = q2) (f2:(0 * 4294967296 + x2) % d = r2) (e1:(r2 * 4294967296 + x1) / d = q1) (f1:(r2 * 4294967296 + x1) % d = r1) (e0:(r1 * 4294967296 + x0) / d = q0) (f0:(r1 * 4294967296 + x0) % d = r0) :
 Calls Tryz.prog 153 #[.agg #[.int .u32 x0,.int .u32 x1,.int .u32 x2],.int .u32 d] w fun e w' => e = .returned (.tuple #[.agg #[.int .u32 q0,.int .u32 q1,.int .u32 q2],.int .u32 r0,()]) ∧ Below w.heap.size w w':=by
 have l2:r2 < d:=by rw [← f2];exact Nat.mod_lt _ hd0
 have l1:r1 < d:=by rw [← f1];exact Nat.mod_lt _ hd0
 have c2:=fun W => div32_ok 0 x2 d q2 r2 W hd0 h2 hd e2 f2
 have c1:=fun W => div32_ok r2 x1 d q1 r1 W l2 h1 hd e1 f1
 have c0:=fun W => div32_ok r1 x0 d q0 r0 W l1 h0 hd e0 f0
 have g:((d:Int) == 0) = false:=by simp;omega
 clear e2 f2 e1 f1 e0 f0
 go_enter Tryz.func153,Tryz.ntmps153
 go_wp2
 refine wp_loop_rounds 4 ?_
 rw [rounds_succ]
 go_wp2_with fail
 refine (c2 _).mono ?_
 rintro e wa ⟨rfl,n2,rfl⟩
 go_wp2
 rw [rounds_succ]
 go_wp2_with fail
 refine (c1 _).mono ?_
 rintro e wa ⟨rfl,n1,rfl⟩
 go_wp2
 rw [rounds_succ]
 go_wp2_with fail
 refine (c0 _).mono ?_
 rintro e wa ⟨rfl,n0,rfl⟩
 go_wp2
 rw [rounds_succ]
 go_wp2
 refine bodyPost_ret (v:=.tuple #[.agg #[.int .u32 q0,.int .u32 q1,.int .u32 q2],.int .u32 r0,()]) (by simp [results,Tryz.results153,go_sem];done) rfl ⟨rfl,?_⟩
 exact ((((below_draws ((below_draws ((below_draws (below_a2 w _ _) n2).setCell (p:=⟨w.heap.size,2,none⟩) (Nat.le_refl _) _) n1).setCell (p:=⟨w.heap.size,1,none⟩) (Nat.le_refl _) _) n0).setCell (p:=⟨w.heap.size,0,none⟩) (Nat.le_refl _) _).setCell (p:=⟨w.heap.size + 1,0,none⟩) (Nat.le_succ _) _).setCell (p:=⟨w.heap.size + 1,1,none⟩) (Nat.le_succ _) _).setCell (p:=⟨w.heap.size + 1,2,none⟩) (Nat.le_succ _) _
def IsOver (n d:Nat) (w:World) (e:Ending) (w':World):Prop :=
 ∃ q0 q1 q2 r:Nat,q0 < 4294967296 ∧ q1 < 4294967296 ∧ q2 < 4294967296 ∧ r < d ∧ Hid (val3 q0 q1 q2 * d + r = n) ∧ e = .returned (.tuple #[.agg #[.int .u32 q0,.int .u32 q1,.int .u32 q2],.int .u32 r,()]) ∧ Below w.heap.size w w'
theorem quo_lt {hi lo y:Nat} (h1:hi < y) (h2:lo < 4294967296):(hi * 4294967296 + lo) / y < 4294967296:=by
 refine Nat.div_lt_of_lt_mul ?_
 have:(hi + 1) * 4294967296 ≤ y * 4294967296:=Nat.mul_le_mul_right _ h1
 omega
theorem over_sum {b0 b1 b2 r0 r1 r2 x0 x1 x2:Nat} (a2:b2 + r2 = x2) (a1:b1 + r1 = r2 * 4294967296 + x1) (a0:b0 + r0 = r1 * 4294967296 + x0) :
 b0 + b1 * 4294967296 + b2 * 18446744073709551616 + r0 = x0 + x1 * 4294967296 + x2 * 18446744073709551616:=by omega
theorem over_val {d q0 q1 q2 r0 r1 r2 x0 x1 x2:Nat} (a2:d * q2 + r2 = 0 * 4294967296 + x2) (a1:d * q1 + r1 = r2 * 4294967296 + x1) (a0:d * q0 + r0 = r1 * 4294967296 + x0):val3 q0 q1 q2 * d + r0 = val3 x0 x1 x2:=by
 have e:val3 q0 q1 q2 * d = d * q0 + d * q1 * 4294967296 + d * q2 * 18446744073709551616:=by
  unfold val3
  rw [Nat.add_mul,Nat.add_mul,Nat.mul_right_comm q1,Nat.mul_right_comm q2,Nat.mul_comm q0,Nat.mul_comm q1,Nat.mul_comm q2]
 rw [e]
 rw [Nat.zero_mul,Nat.zero_add] at a2
 exact over_sum a2 a1 a0
theorem over_is (x0 x1 x2 d:Nat) (w:World) (h0:x0 < 4294967296) (h1:x1 < 4294967296) (h2:x2 < 4294967296) (hd:d < 4294967296) (hd0:0 < d) :
 Calls Tryz.prog 153 #[.agg #[.int .u32 x0,.int .u32 x1,.int .u32 x2],.int .u32 d] w (IsOver (val3 x0 x1 x2) d w):=by
 obtain ⟨q2,e2⟩:∃ q,(0 * 4294967296 + x2) / d = q:=⟨_,rfl⟩
 obtain ⟨r2,f2⟩:∃ q,(0 * 4294967296 + x2) % d = q:=⟨_,rfl⟩
 obtain ⟨q1,e1⟩:∃ q,(r2 * 4294967296 + x1) / d = q:=⟨_,rfl⟩
 obtain ⟨r1,f1⟩:∃ q,(r2 * 4294967296 + x1) % d = q:=⟨_,rfl⟩
 obtain ⟨q0,e0⟩:∃ q,(r1 * 4294967296 + x0) / d = q:=⟨_,rfl⟩
 obtain ⟨r0,f0⟩:∃ q,(r1 * 4294967296 + x0) % d = q:=⟨_,rfl⟩
 have l2:r2 < d:=by rw [← f2];exact Nat.mod_lt _ hd0
 have l1:r1 < d:=by rw [← f1];exact Nat.mod_lt _ hd0
 have l0:r0 < d:=by rw [← f0];exact Nat.mod_lt _ hd0
 have a2:=Nat.div_add_mod (0 * 4294967296 + x2) d
 have a1:=Nat.div_add_mod (r2 * 4294967296 + x1) d
 have a0:=Nat.div_add_mod (r1 * 4294967296 + x0) d
 rw [e2,f2] at a2
 rw [e1,f1] at a1
 rw [e0,f0] at a0
 have hval:=over_val a2 a1 a0
 have m2:q2 < 4294967296:=by rw [← e2];exact quo_lt hd0 h2
 have m1:q1 < 4294967296:=by rw [← e1];exact quo_lt l2 h1
 have m0:q0 < 4294967296:=by rw [← e0];exact quo_lt l1 h0
 exact (over_ok x0 x1 x2 d q0 q1 q2 r0 r1 r2 w h0 h1 h2 hd hd0 e2 f2 e1 f1 e0 f0).mono fun _ _ ⟨he,hb⟩ => ⟨q0,q1,q2,r0,m0,m1,m2,l0,hval,he,hb⟩
end Go.Proofs.YtfgiehkfcoodbaaGreat

/- sameDebts, sameAccount that say no. -/
import Derived.Test.YtpcgpnkmjjamhaaGreatMxSameS
import Derived.Test.YtpcgpnkmjjamhaaGreatMxAskP
namespace Go.Proofs.YtpcgpnkmjjamhaaGreat
open Go.RowKit
set_option linter.unusedVariables false
set_option maxHeartbeats 1000000 in
theorem sameD_no (A : Option Addr) (n m : Nat) (A' : Option Addr) (n' m' : Nat) (w : World) (h : n ≠ n') :
   Calls Tryz.prog 52 #[.slice A n m, .slice A' n' m'] w fun e w' => e = .returned (.bool false) ∧ w = w' := by
 have h1 : ((n : Int) == (n' : Int)) = false := by simp; omega
 have h2 : ¬ (n : Int) = (n' : Int) := by omega
 have h3 : (n == n') = false := by simp; omega
 go_enter Tryz.func52, Tryz.ntmps52
 go_wp2
 go_ret
 exact ⟨rfl, rfl⟩
set_option maxRecDepth 100000 in
set_option maxHeartbeats 1000000 in
theorem sameAcc_no1 (a b c d e f : Int) (b' c' d' e' f' : Int) (A : Option Addr) (n m : Nat) (A' : Option Addr) (n' m' : Nat) (w : World) (h : b ≠ b') :
   Calls Tryz.prog 29 #[.agg #[.int .i64 a, .int .i64 b, .int .i64 c, .int .i64 d, .int .i64 e, .int .i64 f, .slice A n m], .agg #[.int .i64 a, .int .i64 b', .int .i64 c', .int .i64 d', .int .i64 e', .int .i64 f', .slice A' n' m']] w fun e w' => e = .returned (.bool false) ∧ Below w.heap.size w w' := by
 have hb2 := below_a2 w (.cells #[.int .i64 a, .int .i64 b, .int .i64 c, .int .i64 d, .int .i64 e, .int .i64 f, .slice A n m] 58) (.cells #[.int .i64 a, .int .i64 b', .int .i64 c', .int .i64 d', .int .i64 e', .int .i64 f', .slice A' n' m'] 58)
 have h1 : (b == b') = false := by simp; omega
 go_enter Tryz.func29, Tryz.ntmps29
 go_wp2_with fail
 go_ret
 exact ⟨rfl, hb2⟩
set_option maxRecDepth 100000 in
set_option maxHeartbeats 1000000 in
theorem sameAcc_no2 (a b c d e f : Int) (c' d' e' f' : Int) (A : Option Addr) (n m : Nat) (A' : Option Addr) (n' m' : Nat) (w : World) (h : c ≠ c') :
   Calls Tryz.prog 29 #[.agg #[.int .i64 a, .int .i64 b, .int .i64 c, .int .i64 d, .int .i64 e, .int .i64 f, .slice A n m], .agg #[.int .i64 a, .int .i64 b, .int .i64 c', .int .i64 d', .int .i64 e', .int .i64 f', .slice A' n' m']] w fun e w' => e = .returned (.bool false) ∧ Below w.heap.size w w' := by
 have hb2 := below_a2 w (.cells #[.int .i64 a, .int .i64 b, .int .i64 c, .int .i64 d, .int .i64 e, .int .i64 f, .slice A n m] 58) (.cells #[.int .i64 a, .int .i64 b, .int .i64 c', .int .i64 d', .int .i64 e', .int .i64 f', .slice A' n' m'] 58)
 have h1 : (c == c') = false := by simp; omega
 go_enter Tryz.func29, Tryz.ntmps29
 go_wp2_with fail
 go_ret
 exact ⟨rfl, hb2⟩
set_option maxRecDepth 100000 in
set_option maxHeartbeats 1000000 in
theorem sameAcc_no3 (a b c d e f : Int) (A : Option Addr) (n m : Nat) (A' : Option Addr) (n' m' : Nat) (w : World) (h : n ≠ n') :
   Calls Tryz.prog 29 #[.agg #[.int .i64 a, .int .i64 b, .int .i64 c, .int .i64 d, .int .i64 e, .int .i64 f, .slice A n m], .agg #[.int .i64 a, .int .i64 b, .int .i64 c, .int .i64 d, .int .i64 e, .int .i64 f, .slice A' n' m']] w fun e w' => e = .returned (.bool false) ∧ Below w.heap.size w w' := by
 have hS := fun W => sameD_no A n m A' n' m' W h
 have hb2 := below_a2 w (.cells #[.int .i64 a, .int .i64 b, .int .i64 c, .int .i64 d, .int .i64 e, .int .i64 f, .slice A n m] 58) (.cells #[.int .i64 a, .int .i64 b, .int .i64 c, .int .i64 d, .int .i64 e, .int .i64 f, .slice A' n' m'] 58)
 go_enter Tryz.func29, Tryz.ntmps29
 go_wp2_with fail
 refine (hS _).mono ?_
 rintro e w1 ⟨rfl, rfl⟩
 go_wp2
 go_ret
 exact ⟨rfl, hb2⟩
theorem sameAcc_no (x y : Acc) (A : Option Addr) (m : Nat) (A' : Option Addr) (m' : Nat) (w : World) (hm : y.me = x.me) (h : Unlike x y) :
   Calls Tryz.prog 29 #[.agg #[.int .i64 ↑x.me, .int .i64 ↑x.rev, .int .i64 ↑x.next, .int .i64 ↑x.month, .int .i64 ↑x.bought, .int .i64 x.free, .slice A x.l.length m], .agg #[.int .i64 ↑y.me, .int .i64 ↑y.rev, .int .i64 ↑y.next, .int .i64 ↑y.month, .int .i64 ↑y.bought, .int .i64 y.free, .slice A' y.l.length m']] w fun e w' => e = .returned (.bool false) ∧ Below w.heap.size w w' := by
 rw [hm]
 by_cases hr : x.rev = y.rev
 · rw [← hr]
   rcases h with h | ⟨_, _, h1, h2, h3, h4, h5⟩
   · exact sameAcc_no2 _ _ _ _ _ _ _ _ _ _ _ _ _ _ _ _ w (by omega)
   · rw [h1, h2, h3, h4]
     exact sameAcc_no3 _ _ _ _ _ _ _ _ _ _ _ _ w (by omega)
 · exact sameAcc_no1 _ _ _ _ _ _ _ _ _ _ _ _ _ _ _ _ _ w (by omega)
end Go.Proofs.YtpcgpnkmjjamhaaGreat

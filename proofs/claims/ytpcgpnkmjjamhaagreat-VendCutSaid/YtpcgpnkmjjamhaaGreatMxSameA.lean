/- sameAccount. -/
import Derived.Test.YtpcgpnkmjjamhaaGreatM11
import Derived.Test.YtpcgpnkmjjamhaaGreatMxSameD
namespace Go.Proofs.YtpcgpnkmjjamhaaGreat
open Go.RowKit
set_option linter.unusedVariables false
theorem Rolled.trans {m b : Nat} {l : List (Nat × Nat)} {m2 b2 : Nat} {l2 : List (Nat × Nat)} {m3 b3 : Nat} {l3 : List (Nat × Nat)} (h : Rolled m b l m2 b2 l2) (k : Rolled m2 b2 l2 m3 b3 l3) : Rolled m b l m3 b3 l3 := by
 rcases h with ⟨rfl, rfl, rfl⟩ | ⟨h1, rfl, h3⟩
 · exact k
 · rcases k with ⟨rfl, rfl, rfl⟩ | ⟨k1, rfl, k3⟩
   · exact .inr ⟨h1, rfl, h3⟩
   · refine .inr ⟨by omega, rfl, ?_⟩
     rw [← k3, ← h3, aged_add]
     congr 1
     omega
set_option maxRecDepth 100000 in
set_option maxHeartbeats 1000000 in
theorem sameAcc_ok (a b c d e f : Int) (A : Option Addr) (n m : Nat) (A' : Option Addr) (n' m' : Nat) (xs : List (Nat × Nat)) (w : World) (ha : IsDs w (.slice A n m) xs) (hb : IsDs w (.slice A' n' m') xs) :
   Calls Tryz.prog 29 #[.agg #[.int .i64 a, .int .i64 b, .int .i64 c, .int .i64 d, .int .i64 e, .int .i64 f, .slice A n m], .agg #[.int .i64 a, .int .i64 b, .int .i64 c, .int .i64 d, .int .i64 e, .int .i64 f, .slice A' n' m']] w fun e w' => e = .returned (.bool true) ∧ Below w.heap.size w w' := by
 have hS := fun W h1 h2 => sameD_is (.slice A n m) (.slice A' n' m') xs W h1 h2
 have hb2 := below_a2 w (.cells #[.int .i64 a, .int .i64 b, .int .i64 c, .int .i64 d, .int .i64 e, .int .i64 f, .slice A n m] 58) (.cells #[.int .i64 a, .int .i64 b, .int .i64 c, .int .i64 d, .int .i64 e, .int .i64 f, .slice A' n' m'] 58)
 have h1 := ha.below hb2
 have h2 := hb.below hb2
 clear ha hb
 go_enter Tryz.func29, Tryz.ntmps29
 go_wp2_with fail
 refine (hS _ h1 h2).mono ?_
 rintro e w1 ⟨rfl, hb3⟩
 go_wp2
 go_ret
 exact ⟨rfl, hb2.step hb3⟩
end Go.Proofs.YtpcgpnkmjjamhaaGreat

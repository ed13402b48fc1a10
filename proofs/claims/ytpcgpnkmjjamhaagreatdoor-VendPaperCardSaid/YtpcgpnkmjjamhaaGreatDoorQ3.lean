/- cents: what its functions compute. -/
import Derived.Test.YtpcgpnkmjjamhaaGreatDoorQ1
import Derived.Test.YtpcgpnkmjjamhaaGreatDoorQ2
namespace Go.Proofs.YtpcgpnkmjjamhaaGreatDoor
open Go.RowKit
set_option linter.unusedVariables false
set_option maxRecDepth 100000
set_option maxHeartbeats 400000 in
theorem part_ok (a b : Int) (w : World) (h1 : 0 ≤ a) (h2 : a ≤ 1000000000000) (h3 : 0 ≤ b) (h4 : b ≤ 10000) :
   Calls Tryz.prog 99 #[.int .i64 a, .int .i64 b] w fun e w' => e = .returned (.tuple #[.int .i64 (a * b / 10000), .int .i64 0]) ∧ w = w' := by
 have h5 : 0 ≤ a * b := Int.mul_nonneg h1 h3
 have h6 : a * b ≤ 1000000000000 * 10000 := Int.mul_le_mul h2 h4 h3 (by omega)
 go_enter Tryz.func99, Tryz.ntmps99
 go_wp2
 go_ret2
 exact ⟨rfl, rfl⟩

def tmV (m x c : Nat) : Nat := (x * m + c) % 4294967296
def tmC (m x c : Nat) : Nat := (x * m + c) / 4294967296
def adV (x c : Nat) : Nat := (x + c) % 4294967296
def adC (x c : Nat) : Nat := (x + c) / 4294967296
theorem mul_lt32 {a b : Nat} (ha : a < 4294967296) (hb : b < 4294967296) : a * b ≤ 4294967295 * 4294967295 := Nat.mul_le_mul (by omega) (by omega)
theorem tmC_lt {m x c : Nat} (hm : m < 4294967296) (hx : x < 4294967296) (hc : c < 4294967296) : tmC m x c < 4294967296 := by
 have := mul_lt32 hx hm
 unfold tmC; omega
set_option maxHeartbeats 400000 in
theorem add32_ok (a b : Nat) (w : World) (ha : a < 4294967296) (hb : b < 4294967296) :
   Calls Tryz.prog 83 #[.int .u32 a, .int .u32 b, .int .u32 0] w fun e w' => e = .returned (.tuple #[.int .u32 (adV a b), .int .u32 (adC a b)]) ∧ w = w' := by
 go_enter Tryz.func83, Tryz.ntmps83
 go_wp2
 go_ret2
 exact ⟨ret_int2 (by unfold adV; omega) (by unfold adC; omega), rfl⟩
set_option maxHeartbeats 400000 in
theorem mul32_ok (a b : Nat) (w : World) (ha : a < 4294967296) (hb : b < 4294967296) :
   Calls Tryz.prog 82 #[.int .u32 a, .int .u32 b] w fun e w' => e = .returned (.tuple #[.int .u32 ((a * b / 4294967296 : Nat) : Int), .int .u32 ((a * b % 4294967296 : Nat) : Int)]) ∧ w = w' := by
 have h := mul_lt32 ha hb
 go_enter Tryz.func82, Tryz.ntmps82
 go_wp2
 go_ret2
 exact ⟨ret_int2 (by simp) (by simp), rfl⟩

set_option maxHeartbeats 400000 in
theorem times_fn (x c m : Nat) (a : Addr) (w : World) (hx : x < 4294967296) (hc : c < 4294967296) (hm : m < 4294967296) (hcell : w.cell? a = some (.int .u32 m)) :
   Calls Tryz.prog 81 #[.int .u32 x, .int .u32 c, .pointer (some a)] w fun e w' => e = .returned (.tuple #[.int .u32 (tmV m x c), .int .u32 (tmC m x c)]) ∧ w = w' := by
 have h := mul_lt32 hx hm
 have h1 : x * m % 4294967296 < 4294967296 := by omega
 have h2 : adC (x * m % 4294967296) c ≤ 1 := by unfold adC; omega
 have h3 : x * m / 4294967296 + adC (x * m % 4294967296) c < 4294967296 := by unfold adC; omega
 have HV := Lib.hid (show adV (x * m % 4294967296) c = tmV m x c by unfold adV tmV; omega)
 have HC := Lib.hid (show x * m / 4294967296 + adC (x * m % 4294967296) c = tmC m x c by unfold adC tmC; omega)
 go_enter Tryz.func81, Tryz.ntmps81
 go_wp2_with fail
 refine (mul32_ok x m _ hx hm).mono ?_
 rintro e w' ⟨rfl, rfl⟩
 generalize x * m / 4294967296 = p at *
 generalize x * m % 4294967296 = q at *
 go_wp2_with fail
 refine (add32_ok q c _ h1 hc).mono ?_
 rintro e w' ⟨rfl, rfl⟩
 generalize adC q c = r at *
 go_wp2
 go_ret2
 exact ⟨ret_int2 (by rw [HV.out]) (by rw [← HC.out]; omega), rfl⟩
set_option maxHeartbeats 400000 in
theorem plus_fn (x c : Nat) (w : World) (hx : x < 4294967296) (hc : c < 4294967296) :
   Calls Tryz.prog 84 #[.int .u32 x, .int .u32 c] w fun e w' => e = .returned (.tuple #[.int .u32 (adV x c), .int .u32 (adC x c)]) ∧ w = w' := by
 go_enter Tryz.func84, Tryz.ntmps84
 go_wp2_with fail
 refine (add32_ok x c _ hx hc).mono ?_
 rintro e w' ⟨rfl, rfl⟩
 go_wp2
 go_ret2
 exact ⟨rfl, rfl⟩
set_option maxHeartbeats 400000 in
theorem up_ptr (p : Addr) (x0 x1 x2 c0 v0 c1 v1 c2 v2 c3 : Int) (w : World)
   (hf : ∀ W : World, Below w.heap.size w W → (Calls Tryz.prog 81 #[.int .u32 x0, .int .u32 c0, .pointer (some p)] W fun e w' => e = .returned (.tuple #[.int .u32 v0, .int .u32 c1]) ∧ W = w') ∧
     (Calls Tryz.prog 81 #[.int .u32 x1, .int .u32 c1, .pointer (some p)] W fun e w' => e = .returned (.tuple #[.int .u32 v1, .int .u32 c2]) ∧ W = w') ∧
     (Calls Tryz.prog 81 #[.int .u32 x2, .int .u32 c2, .pointer (some p)] W fun e w' => e = .returned (.tuple #[.int .u32 v2, .int .u32 c3]) ∧ W = w')) :
   Calls Tryz.prog 80 #[.agg #[.int .u32 x0, .int .u32 x1, .int .u32 x2], .int .u32 c0, .func (.func 81) #[] #[.pointer (some p)]] w fun e w' =>
     e = .returned (.tuple #[.agg #[.int .u32 v0, .int .u32 v1, .int .u32 v2], .int .u32 c3]) ∧ Below w.heap.size w w' := by
 have H := Lib.hid hf
 clear hf
 have two : ∀ a b : Obj, Below w.heap.size w ((w.alloc a).alloc b) := fun a b => ((Below.refl _ _).alloc (Nat.le_refl _) a).alloc (by simp) b
 have H2 := Lib.hid two
 clear two
 go_enter Tryz.func80, Tryz.ntmps80
 go_wp2
 refine wp_loop_rounds 4 ?_
 rw [rounds_succ]
 go_wp2_with fail
 refine (H.out _ (H2.out _ _)).1.mono ?_
 rintro e w' ⟨rfl, rfl⟩
 go_wp2_with fail
 rw [rounds_succ]
 go_wp2_with fail
 refine (H.out _ (H2.out _ _)).2.1.mono ?_
 rintro e w' ⟨rfl, rfl⟩
 go_wp2_with fail
 rw [rounds_succ]
 go_wp2_with fail
 refine (H.out _ (H2.out _ _)).2.2.mono ?_
 rintro e w' ⟨rfl, rfl⟩
 go_wp2_with fail
 rw [rounds_succ]
 go_wp2
 exact bodyPost_ret (v := .tuple #[.agg #[.int .u32 v0, .int .u32 v1, .int .u32 v2], .int .u32 c3]) (by simp [results, Tryz.results80, go_sem]) rfl ⟨rfl, H2.out _ _⟩
set_option maxHeartbeats 400000 in
theorem up_none (x0 x1 x2 c0 v0 c1 v1 c2 v2 c3 : Int) (w : World)
   (hf : ∀ W : World, Below w.heap.size w W → (Calls Tryz.prog 84 #[.int .u32 x0, .int .u32 c0] W fun e w' => e = .returned (.tuple #[.int .u32 v0, .int .u32 c1]) ∧ W = w') ∧
     (Calls Tryz.prog 84 #[.int .u32 x1, .int .u32 c1] W fun e w' => e = .returned (.tuple #[.int .u32 v1, .int .u32 c2]) ∧ W = w') ∧
     (Calls Tryz.prog 84 #[.int .u32 x2, .int .u32 c2] W fun e w' => e = .returned (.tuple #[.int .u32 v2, .int .u32 c3]) ∧ W = w')) :
   Calls Tryz.prog 80 #[.agg #[.int .u32 x0, .int .u32 x1, .int .u32 x2], .int .u32 c0, .func (.func 84) #[] #[]] w fun e w' =>
     e = .returned (.tuple #[.agg #[.int .u32 v0, .int .u32 v1, .int .u32 v2], .int .u32 c3]) ∧ Below w.heap.size w w' := by
 have H := Lib.hid hf
 clear hf
 have two : ∀ a b : Obj, Below w.heap.size w ((w.alloc a).alloc b) := fun a b => ((Below.refl _ _).alloc (Nat.le_refl _) a).alloc (by simp) b
 have H2 := Lib.hid two
 clear two
 go_enter Tryz.func80, Tryz.ntmps80
 go_wp2
 refine wp_loop_rounds 4 ?_
 rw [rounds_succ]
 go_wp2_with fail
 refine (H.out _ (H2.out _ _)).1.mono ?_
 rintro e w' ⟨rfl, rfl⟩
 go_wp2_with fail
 rw [rounds_succ]
 go_wp2_with fail
 refine (H.out _ (H2.out _ _)).2.1.mono ?_
 rintro e w' ⟨rfl, rfl⟩
 go_wp2_with fail
 rw [rounds_succ]
 go_wp2_with fail
 refine (H.out _ (H2.out _ _)).2.2.mono ?_
 rintro e w' ⟨rfl, rfl⟩
 go_wp2_with fail
 rw [rounds_succ]
 go_wp2
 exact bodyPost_ret (v := .tuple #[.agg #[.int .u32 v0, .int .u32 v1, .int .u32 v2], .int .u32 c3]) (by simp [results, Tryz.results80, go_sem]) rfl ⟨rfl, H2.out _ _⟩
end Go.Proofs.YtpcgpnkmjjamhaaGreatDoor

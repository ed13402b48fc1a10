/- check: the motions of the pentagon, and the digit that tells a slip. -/
import Derived.Test.YtadaanphoehlmaaCheck
namespace Go.Proofs.Ytadaanphoehlmaa
open Go.RowKit
/-! ### The motions of the pentagon -/
def mulD (a b : Nat) : Nat := if a < 5 then 5 * (b / 5) + (a + b % 5) % 5 else if b < 5 then 5 + (a + 5 - b % 5) % 5 else (a + 5 - b % 5) % 5
def invD (a : Nat) : Nat := if 5 ≤ a then a else (5 - a) % 5
theorem mulD_le (a b : Nat) (hb : b ≤ 9) : mulD a b ≤ 9 := by unfold mulD; split <;> (try split) <;> omega
theorem invD_le (a : Nat) (ha : a ≤ 9) : invD a ≤ 9 := by unfold invD; split <;> omega
theorem mulD_assoc : ∀ a, a < 10 → ∀ b, b < 10 → ∀ c, c < 10 → mulD (mulD a b) c = mulD a (mulD b c) := by decide +kernel
theorem mulD_inv : ∀ a, a < 10 → mulD a (invD a) = 0 ∧ mulD (invD a) a = 0 ∧ mulD a 0 = a ∧ mulD 0 a = a := by decide +kernel
theorem tmod5 (x : Int) : (x.tmod 5) % 5 = x % 5 ∧ -4 ≤ x.tmod 5 ∧ x.tmod 5 ≤ 4 := by
  by_cases h : 0 ≤ x
  · rw [Int.tmod_eq_emod_of_nonneg h]; omega
  · have e : x.tmod 5 = -((-x) % 5) := by
      rw [← Int.tmod_eq_emod_of_nonneg (by omega), Int.neg_tmod]; omega
    rw [e]; omega
set_option maxHeartbeats 400000 in
theorem then_ok (a b : Nat) (w : World) (ha : a ≤ 9) (hb : b ≤ 9) :
    Calls Try.prog 44 #[.int .i64 a, .int .i64 b] w fun e w' => e = .returned (.int .i64 (mulD a b)) ∧ w = w' := by
  by_cases h : a < 5
  · have HM := Lib.hid (show mulD a b = 5 * (b / 5) + (a + b % 5) % 5 by unfold mulD; rw [if_pos h])
    go_enter Try.func44, Try.ntmps44
    go_wp2
    go_ret
    exact ⟨ret_int (by rw [HM.out]; omega), rfl⟩
  · by_cases h5 : b < 5
    · have HM := Lib.hid (show mulD a b = 5 + (a + 5 - b % 5) % 5 by unfold mulD; rw [if_neg h, if_pos h5])
      have ht := tmod5 ((a : Int) - 5 - (b : Int) % 5 + 5 * ((b : Int) / 5))
      obtain ⟨ht0, ht1, ht2⟩ := ht
      have HT := Lib.hid ht0
      clear ht0
      have hq : ((b : Int) / 5 == 1) = false := by simp; omega
      go_enter Try.func44, Try.ntmps44
      go_wp2
      go_ret
      exact ⟨ret_int (by rw [HT.out, HM.out]; omega), rfl⟩
    · have HM := Lib.hid (show mulD a b = (a + 5 - b % 5) % 5 by unfold mulD; rw [if_neg h, if_neg h5])
      have hq : ((b : Int) / 5 == 1) = true := by simp; omega
      have hx : (0 : Int) ≤ (a : Int) - 5 - (b : Int) % 5 + 5 * ((b : Int) / 5) := by omega
      go_enter Try.func44, Try.ntmps44
      go_wp2
      go_ret
      exact ⟨ret_int (by rw [HM.out]; omega), rfl⟩
set_option maxHeartbeats 400000 in
theorem back_ok (a : Nat) (w : World) (ha : a ≤ 9) :
    Calls Try.prog 45 #[.int .i64 a] w fun e w' => e = .returned (.int .i64 (invD a)) ∧ w = w' := by
  by_cases h : 5 ≤ a
  · have HM := Lib.hid (show invD a = a by unfold invD; rw [if_pos h])
    go_enter Try.func45, Try.ntmps45
    go_wp2
    go_ret
    exact ⟨ret_int (by rw [HM.out]), rfl⟩
  · have HM := Lib.hid (show invD a = (5 - a) % 5 by unfold invD; rw [if_neg h])
    go_enter Try.func45, Try.ntmps45
    go_wp2
    go_ret
    exact ⟨ret_int (by rw [HM.out]; omega), rfl⟩
theorem digit_ok (a : Nat) (w : World) (ha : a ≤ 9) : Calls Try.prog 43 #[.int .i64 a] w fun e w' => e = .returned (.bool true) ∧ w = w' := by
  go_enter Try.func43, Try.ntmps43
  go_wp2
  go_ret
  exact ⟨ret_true (by simp; omega), rfl⟩
set_option maxHeartbeats 400000 in
theorem mul_ok (a b : Nat) (w : World) (ha : a ≤ 9) (hb : b ≤ 9) :
    Calls Try.prog 26 #[.int .i64 a, .int .i64 b] w fun e w' => e = .returned (.tuple #[.int .i64 (mulD a b), .int .i64 0]) ∧ w = w' := by
  go_enter Try.func26, Try.ntmps26
  go_wp2_with (first | (go_at_call 43; refine (digit_ok _ _ (by assumption)).mono ?_; rintro e w' ⟨rfl, rfl⟩) | (go_at_call 44; refine (then_ok a b _ ha hb).mono ?_; rintro e w' ⟨rfl, rfl⟩))
  go_ret2
  exact ⟨rfl, rfl⟩
set_option maxHeartbeats 400000 in
theorem inv_ok (a : Nat) (w : World) (ha : a ≤ 9) :
    Calls Try.prog 27 #[.int .i64 a] w fun e w' => e = .returned (.tuple #[.int .i64 (invD a), .int .i64 0]) ∧ w = w' := by
  go_enter Try.func27, Try.ntmps27
  go_wp2_with (first | (go_at_call 43; refine (digit_ok _ _ ha).mono ?_; rintro e w' ⟨rfl, rfl⟩) | (go_at_call 45; refine (back_ok a _ ha).mono ?_; rintro e w' ⟨rfl, rfl⟩))
  go_ret2
  exact ⟨rfl, rfl⟩
end Go.Proofs.Ytadaanphoehlmaa

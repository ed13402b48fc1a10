/- calendar.Days, calendar.Month. -/
import Derived.Test.YtaobohhkoakecaaCal
import Derived.OwnWalk
namespace Go.Proofs.Ytaobohhkoakecaa
open Go.RowKit
theorem num_range {y : Int} {m : Nat} {d : Int} (hv : Valid y m d) (h1 : 2000 ≤ y) (h2 : y ≤ 2199) : 0 ≤ numD y m d ∧ numD y m d ≤ 73048 := by
  obtain ⟨a, b⟩ := num_bd hv
  have h3 := ahd_mono h1
  have h4 := ahd_mono (show y + 1 ≤ 2200 by omega)
  have e : ahd 2200 = 803168 := by unfold ahd; omega
  have e2 := ahd_2000
  omega
theorem num_first (y : Int) (m : Nat) (d : Int) : numD y m d = numD y m 1 + d - 1 := by unfold numD; omega
set_option maxHeartbeats 800000 in
theorem month_ok (y : Int) (m : Nat) (d n : Int) (w : World) (hv : Valid y m d) (hy1 : 2000 ≤ y) (hy2 : y ≤ 2199) (hn : Hid (numD y m d = n)) :
    Calls Try.prog 25 #[.int .i64 n] w fun e w' => e = .returned (.tuple #[.int .i64 ((y - 2000) * 12 + m - 1), .int .i64 0]) ∧ Below w.heap.size w w' := by
  have hr := num_range hv hy1 hy2
  rw [hn.out] at hr
  have hm1 := hv.1
  have hm2 := hv.2.1
  go_enter Try.func25, Try.ntmps25
  go_wp2_with fail
  refine (dateof_ok n _ hr.1 hr.2).mono ?_
  rintro e wa ⟨y', m', d', hy1', hy2', hv', hnum, rfl, hb1⟩
  obtain ⟨rfl, rfl, rfl⟩ := num_inj hv hv' (hn.out.trans hnum.out.symm)
  clear hv hv' hr
  go_wp2
  go_ret2
  exact ⟨by first | rfl | (congr; omega), hb1.step (below_a1 _ _)⟩
set_option maxHeartbeats 800000 in
theorem days_ok (m : Nat) (w : World) (h : m ≤ 2399) :
    Calls Try.prog 24 #[.int .i64 m] w fun e w' => e = .returned (.tuple #[.int .i64 (numD (2000 + m / 12) (m % 12 + 1) 1), .int .i64 (numD (2000 + m / 12) (m % 12 + 1) 1 + lng (2000 + m / 12) ((m % 12 + 1 : Nat) : Int) - 1), .int .i64 0]) ∧ Below w.heap.size w w' := by
  obtain ⟨y, hy⟩ : ∃ y : Int, y = 2000 + m / 12 := ⟨_, rfl⟩
  obtain ⟨k, hk⟩ : ∃ k : Nat, k = m % 12 + 1 := ⟨_, rfl⟩
  rw [← hy, ← hk]
  have hk1 : 1 ≤ k := by omega
  have hk2 : k ≤ 12 := by omega
  have hy1 : 2000 ≤ y := by omega
  have hy2 : y ≤ 2199 := by omega
  have hl := lng_bd y (k : Int)
  have hv : Valid y k 1 := ⟨hk1, hk2, by omega, by omega⟩
  have hr := num_range hv hy1 hy2
  have e1 : (2000 : Int) + (m : Int).tdiv 12 = y := by rw [hy, Int.tdiv_eq_ediv_of_nonneg (by omega)]
  have e2 : (m : Int).tmod 12 + 1 = (k : Int) := by rw [Int.tmod_eq_emod_of_nonneg (by omega), hk]; omega
  have E1 := Lib.hid e1
  have E2 := Lib.hid e2
  have E3 := Lib.hid hy
  have E4 := Lib.hid hk
  have e3 : (2000 : Int) + (m : Int) / 12 = y := hy.symm
  have e4 : (m : Int) % 12 + 1 = (k : Int) := by omega
  clear hy hk
  have hday := fun W => day_ok y k 1 W hy1 hy2 hv
  generalize numD y k 1 = q at *
  go_enter Try.func24, Try.ntmps24
  go_wp2_with fail
  refine (hday _).mono ?_
  rintro e wa ⟨rfl, hb⟩
  go_wp2_with fail
  refine (long_ok y k _ (by omega) (by omega)).mono ?_
  rintro e wb ⟨rfl, rfl⟩
  go_wp2
  go_ret3
  exact ⟨rfl, hb⟩
theorem num_joins (m : Nat) :
    numD (2000 + ((m + 1 : Nat) : Int) / 12) ((m + 1) % 12 + 1) 1 = numD (2000 + (m : Int) / 12) (m % 12 + 1) 1 + lng (2000 + (m : Int) / 12) ((m % 12 + 1 : Nat) : Int) := by
  obtain ⟨y, hy⟩ : ∃ y : Int, y = 2000 + m / 12 := ⟨_, rfl⟩
  obtain ⟨k, hk⟩ : ∃ k : Nat, k = m % 12 + 1 := ⟨_, rfl⟩
  rw [← hy, ← hk]
  have hl := lng_bd y (k : Int)
  have hv : Valid y k (lng y k) := ⟨by omega, by omega, by omega, by omega⟩
  obtain ⟨_, h2, h3⟩ := num_next hv
  have hf := num_first y k (lng y k)
  by_cases h12 : k < 12
  · have e1 : 2000 + ((m + 1 : Nat) : Int) / 12 = y := by omega
    have e2 : (m + 1) % 12 + 1 = k + 1 := by omega
    rw [e1, e2, (h2 rfl h12).2, hf]; omega
  · have e1 : 2000 + ((m + 1 : Nat) : Int) / 12 = y + 1 := by omega
    have e2 : (m + 1) % 12 + 1 = 1 := by omega
    rw [e1, e2, (h3 rfl (by omega)).2, hf]; omega
/-- Days of a month and of the next one; the months of the first and of the last day. -/
theorem joins (m : Nat) (h : m < 2399) : ∃ a b c : Int, 0 ≤ a ∧ a + 27 ≤ b ∧ b ≤ a + 30 ∧ b ≤ 73048 ∧
    (∀ W, Calls Try.prog 24 #[.int .i64 m] W fun e w' => e = .returned (.tuple #[.int .i64 a, .int .i64 b, .int .i64 0]) ∧ Below W.heap.size W w') ∧
    (∀ W, Calls Try.prog 24 #[.int .i64 (m + 1 : Nat)] W fun e w' => e = .returned (.tuple #[.int .i64 (b + 1), .int .i64 c, .int .i64 0]) ∧ Below W.heap.size W w') ∧
    (∀ W, Calls Try.prog 25 #[.int .i64 a] W fun e w' => e = .returned (.tuple #[.int .i64 m, .int .i64 0]) ∧ Below W.heap.size W w') ∧
    (∀ W, Calls Try.prog 25 #[.int .i64 b] W fun e w' => e = .returned (.tuple #[.int .i64 m, .int .i64 0]) ∧ Below W.heap.size W w') := by
  have hj := num_joins m
  have hd0 := fun W => days_ok m W (by omega)
  have hd1 := fun W => days_ok (m + 1) W (by omega)
  rw [hj] at hd1
  obtain ⟨y, hy⟩ : ∃ y : Int, y = 2000 + m / 12 := ⟨_, rfl⟩
  obtain ⟨k, hk⟩ : ∃ k : Nat, k = m % 12 + 1 := ⟨_, rfl⟩
  rw [← hy, ← hk] at hd0 hd1
  have hl := lng_bd y (k : Int)
  have hv1 : Valid y k 1 := ⟨by omega, by omega, by omega, by omega⟩
  have hv2 : Valid y k (lng y k) := ⟨by omega, by omega, by omega, by omega⟩
  have hr1 := num_range hv1 (by omega) (by omega)
  have hr2 := num_range hv2 (by omega) (by omega)
  have hf := num_first y k (lng y k)
  have hM1 := fun W => month_ok y k 1 (numD y k 1) W hv1 (by omega) (by omega) rfl
  have hM2 := fun W => month_ok y k (lng y k) (numD y k 1 + lng y k - 1) W hv2 (by omega) (by omega) hf
  have hq : (y - 2000) * 12 + (k : Int) - 1 = m := by omega
  rw [hq] at hM1 hM2
  have e : numD y k 1 + lng y k = numD y k 1 + lng y k - 1 + 1 := by omega
  rw [e] at hd1
  exact ⟨numD y k 1, numD y k 1 + lng y k - 1, _, by omega, by omega, by omega, by omega, hd0, hd1, hM1, hM2⟩
end Go.Proofs.Ytaobohhkoakecaa

/- calendar: what its functions compute. -/
import Derived.Test.YtaobohhkoakecaaPicked
import Derived.Test.YtaobohhkoakecaaFit
import Derived.Test.YtaobohhkoakecaaCalD
namespace Go.Proofs.Ytaobohhkoakecaa
open Go.RowKit


set_option maxHeartbeats 400000 in
theorem leap_ok (y : Int) (w : World) (h1 : 0 ≤ y) (h2 : y ≤ 1000000) :
    Calls Try.prog 70 #[.int .i64 y] w fun e w' => e = .returned (.bool (lp y)) ∧ w = w' := by
  go_enter Try.func70, Try.ntmps70
  go_wp2
  all_goals (go_ret; exact ⟨ret_bool (by rw [Bool.eq_iff_iff, lp_true]; simp; omega), rfl⟩)
set_option maxHeartbeats 400000 in
theorem ahead_ok (y : Int) (w : World) (h1 : 1 ≤ y) (h2 : y ≤ 1000000) :
    Calls Try.prog 69 #[.int .i64 y] w fun e w' => e = .returned (.int .i64 (ahd y)) ∧ w = w' := by
  go_enter Try.func69, Try.ntmps69
  go_wp2
  go_ret
  exact ⟨ret_int (by unfold ahd; omega), rfl⟩
set_option maxHeartbeats 400000 in
theorem long_ok (y m : Int) (w : World) (h1 : 0 ≤ y) (h2 : y ≤ 1000000) :
    Calls Try.prog 49 #[.int .i64 y, .int .i64 m] w fun e w' => e = .returned (.int .i64 (lng y m)) ∧ w = w' := by
  by_cases h : m = 4 ∨ m = 6 ∨ m = 9 ∨ m = 11
  · have HL := Lib.hid (show lng y m = 30 by unfold lng; rw [if_pos h])
    rcases h with rfl | rfl | rfl | rfl
    all_goals
      go_enter Try.func49, Try.ntmps49
      go_wp2
      go_ret
      exact ⟨ret_int HL.out.symm, rfl⟩
  · have g1 : (m == 4) = false := by simp; omega
    have g2 : (m == 6) = false := by simp; omega
    have g3 : (m == 9) = false := by simp; omega
    have g4 : (m == 11) = false := by simp; omega
    by_cases hm : m = 2
    · have HL := Lib.hid (show lng y m = if lp y = true then 29 else 28 by unfold lng; rw [if_neg h, if_pos hm])
      subst hm
      cases hl : lp y
      all_goals
        rw [hl] at HL
        go_enter Try.func49, Try.ntmps49
        go_wp2_with fail
        refine (leap_ok y _ h1 h2).mono ?_
        rintro e w' ⟨rfl, rfl⟩
        rw [hl]
        go_wp2
        go_ret
        exact ⟨ret_int HL.out.symm, rfl⟩
    · have HL := Lib.hid (show lng y m = 31 by unfold lng; rw [if_neg h, if_neg hm])
      have g5 : (m == 2) = false := by simp; omega
      clear h hm
      go_enter Try.func49, Try.ntmps49
      go_wp2
      go_ret
      exact ⟨ret_int HL.out.symm, rfl⟩
theorem known_ok (y : Int) (w : World) (h1 : 2000 ≤ y) (h2 : y ≤ 2199) : Calls Try.prog 68 #[.int .i64 y] w fun e w' => e = .returned (.bool true) ∧ w = w' := by
  go_enter Try.func68, Try.ntmps68
  go_wp2
  go_ret
  exact ⟨rfl, rfl⟩
theorem ahd_2000 : ahd 2000 = 730119 := by unfold ahd; omega
theorem ahd_bd {y : Int} (h1 : 1 ≤ y) (h2 : y ≤ 10000) : 0 ≤ ahd y ∧ ahd y ≤ 3660000 := by unfold ahd; omega
theorem cum_bd (y : Int) (k : Nat) (h : k ≤ 12) : 0 ≤ cumN y k ∧ cumN y k ≤ 366 := by
  have a := cum_mono y (show 0 ≤ k by omega)
  have b := cum_mono y h
  have c := cum12 y
  have d := ylen_bd y
  have z : cumN y 0 = 0 := rfl
  omega
set_option maxHeartbeats 800000 in
theorem day_ok (y : Int) (m : Nat) (d : Int) (w : World) (h1 : 2000 ≤ y) (h2 : y ≤ 2199) (hv : Valid y m d) :
    Calls Try.prog 48 #[.agg #[.int .i64 y, .int .i64 m, .int .i64 d]] w fun e w' => e = .returned (.tuple #[.int .i64 (numD y m d), .int .i64 0]) ∧ Below w.heap.size w w' := by
  obtain ⟨v1, v2, v3, v4⟩ := hv
  have hl := lng_bd y (m : Int)
  have ha := ahd_bd (y := y) (by omega) (by omega)
  have ha2 := ahd_bd (y := 2000) (by omega) (by omega)
  have hcs := cum_bd y
  have g1 : decide ((m : Int) < 1) = false := by simp; omega
  have g2 : decide (12 < (m : Int)) = false := by simp; omega
  have g3 : decide (d < 1) = false := by simp; omega
  have g4 : decide (lng y (m : Int) < d) = false := by simp; omega
  go_enter Try.func48, Try.ntmps48
  go_wp2_with fail
  go_quiet ((first | (go_at_call 68; exact quiet_eq (known_ok y _ h1 h2)) | (go_at_call 49; exact quiet_eq (long_ok y m _ (by omega) (by omega)))))
  go_wp2_with fail
  go_quiet ((first | (go_at_call 69; exact quiet_add_eq (ahead_ok _ _ (by omega) (by omega)))))
  go_wp2_with fail
  clear g1 g2 g3 g4
  rw [World.drewN_drewN]
  go_loop [4, 5] (fun a b => ∃ k : Nat, 1 ≤ k ∧ k ≤ m ∧ b = .int .i64 k ∧ a = .int .i64 (ahd y - ahd 2000 + d - 1 + cumN y (k - 1))) (fun _ b => m - (intOf b).toNat)
  case atStart => exact ⟨1, by omega, by omega, rfl, by show _ = Value.int .i64 (_ + 0); rw [Int.add_zero]⟩
  case round =>
    obtain ⟨k, hk1, hk2, rfl, rfl⟩ := hrel
    have hc := hcs (k - 1) (by omega)
    have hlk := lng_bd y (k : Int)
    by_cases hlt : k < m
    · have HS := Lib.hid (show cumN y k = cumN y (k - 1) + lng y (k : Int) by
        obtain ⟨j, rfl⟩ : ∃ j, k = j + 1 := ⟨k - 1, by omega⟩
        rfl)
      clear hcs
      generalize cumN y (k - 1) = c at *
      go_wp2_with (go_at_call 49; refine (long_ok y k _ (by omega) (by omega)).mono ?_; rintro e w' ⟨rfl, rfl⟩)
      go_round
      case rel => exact ⟨k + 1, by omega, by omega, by go_num, by rw [show k + 1 - 1 = k by omega, HS.out]; go_num⟩
      case measure => simp [intOf]; omega
    · obtain rfl : k = m := by omega
      have HN := Lib.hid (show numD y k d = ahd y - ahd 2000 + d - 1 + cumN y (k - 1) by unfold numD; omega)
      clear hcs
      generalize cumN y (k - 1) = c at *
      go_wp2
      go_ret2
      exact ⟨by rw [HN.out]; rfl, below_draws (below_a1 _ _) _⟩
/-- The day of a number. -/
def IsDate (n : Int) (w : World) (e : Ending) (w' : World) : Prop :=
  ∃ (y : Int) (m : Nat) (d : Int), 2000 ≤ y ∧ y ≤ 2199 ∧ Valid y m d ∧ Hid (numD y m d = n) ∧ e = .returned (.tuple #[.agg #[.int .i64 y, .int .i64 m, .int .i64 d], .int .i64 0]) ∧ Below w.heap.size w w'
set_option maxHeartbeats 800000 in
theorem dateof_ok (n : Int) (w : World) (h1 : 0 ≤ n) (h2 : n ≤ 73048) :
    Calls Try.prog 50 #[.int .i64 n] w (IsDate n w) := by
  have ha0 : ahd (2000 + n / 366) - ahd 2000 ≤ n := by rw [ahd_2000]; unfold ahd; omega
  have ha := ahd_bd (y := 2000 + n / 366) (by omega) (by omega)
  have ha2 := ahd_bd (y := 2000) (by omega) (by omega)
  go_enter Try.func50, Try.ntmps50
  go_wp2_with (go_at_call 69; refine (ahead_ok _ _ (by omega) (by omega)).mono ?_; rintro e w' ⟨rfl, rfl⟩)
  go_loopw [5, 6] (fun a _ wr => ∃ y : Int, 2000 ≤ y ∧ y ≤ 2199 ∧ 0 ≤ n - (ahd y - ahd 2000) ∧ a = .int .i64 (n - (ahd y - ahd 2000)) ∧ wr = (w.alloc (.cells #[.int .i64 0, .int .i64 0, .int .i64 0] 107)).alloc (.cells #[.int .i64 y, .int .i64 1, .int .i64 0] 107)) (fun a _ _ => (intOf a).toNat)
  case atStart => exact ⟨2000 + n / 366, by omega, by omega, by omega, rfl, rfl⟩
  case round =>
    obtain ⟨y, hy1, hy2, hl0, rfl, rfl⟩ := hrel
    have hs := ahd_succ y
    have hyb := ylen_bd y
    have hay := ahd_bd (y := y) (by omega) (by omega)
    have HY := Lib.hid (show ylen y = if lp y = true then 366 else 365 from rfl)
    have hmo := ahd_mono hy1
    have hLle : n - (ahd y - ahd 2000) ≤ 73048 := by omega
    clear hmo
    by_cases hlt : n - (ahd y - ahd 2000) < ylen y
    · generalize hL : n - (ahd y - ahd 2000) = L at *
      have HL := Lib.hid hL
      clear hL ha0 ha hs
      cases hlp : lp y
      all_goals
        rw [hlp] at HY
        have hlt2 := hlt
        rw [HY.out] at hlt2
        simp at hlt2
        go_wp2_with (go_at_call 70; refine (leap_ok y _ (by omega) (by omega)).mono ?_; rintro e w' ⟨rfl, rfl⟩; rw [hlp])
        clear hlt2 hlp
        go_loopw [5] (fun a wr => ∃ m : Nat, 1 ≤ m ∧ m ≤ 12 ∧ 0 ≤ L - cumN y (m - 1) ∧ a = .int .i64 (L - cumN y (m - 1)) ∧ wr = (w.alloc (.cells #[.int .i64 0, .int .i64 0, .int .i64 0] 107)).alloc (.cells #[.int .i64 y, .int .i64 m, .int .i64 0] 107)) (fun a _ => (intOf a).toNat)
        case atStart => exact ⟨1, by omega, by omega, by show 0 ≤ L - 0; omega, by show _ = Value.int .i64 (L - 0); rw [Int.sub_zero], rfl⟩
        case round =>
          obtain ⟨m, hm1, hm2, hc0, rfl, rfl⟩ := hrel
          have hlk := lng_bd y (m : Int)
          have hcb := cum_bd y (m - 1) (by omega)
          have HS := Lib.hid (show cumN y m = cumN y (m - 1) + lng y (m : Int) by
            obtain ⟨j, rfl⟩ : ∃ j, m = j + 1 := ⟨m - 1, by omega⟩
            rfl)
          have HN := Lib.hid (show L - cumN y (m - 1) + 1 ≤ lng y (m : Int) → Valid y m (L - cumN y (m - 1) + 1) ∧ numD y m (L - cumN y (m - 1) + 1) = n from fun h => ⟨⟨hm1, hm2, by omega, h⟩, by unfold numD; have := HL.out; omega⟩)
          have H12 : m = 12 → L - cumN y (m - 1) < lng y (m : Int) := by
            rintro rfl
            have a := cum12 y
            have b := HS.out
            omega
          have hl9 : L - cumN y (m - 1) ≤ 73048 := by omega
          by_cases hlt : L - cumN y (m - 1) < lng y (m : Int)
          · generalize L - cumN y (m - 1) = l at *
            clear H12
            go_wp2_with (go_at_call 49; refine (long_ok y m _ (by omega) (by omega)).mono ?_; rintro e w' ⟨rfl, rfl⟩)
            refine bodyPost_ret (v := .tuple #[.agg #[.int .i64 y, .int .i64 m, .int .i64 (l + 1)], .int .i64 0]) (by simp [results, Try.results50, go_sem]; done) rfl ⟨y, m, l + 1, hy1, hy2, (HN.out (by omega)).1, (HN.out (by omega)).2, rfl, below_a2 _ _ _⟩
          · have hm12 : m ≠ 12 := fun h => hlt (H12 h)
            have HE := Lib.hid (show L - cumN y (m + 1 - 1) = L - cumN y (m - 1) - lng y (m : Int) by rw [show m + 1 - 1 = m by omega, HS.out]; omega)
            clear H12 HN
            generalize L - cumN y (m - 1) = l at *
            go_wp2_with (go_at_call 49; refine (long_ok y m _ (by omega) (by omega)).mono ?_; rintro e w' ⟨rfl, rfl⟩)
            go_roundw
            case rel => exact ⟨m + 1, by omega, by omega, by rw [HE.out]; omega, by rw [HE.out], by go_num⟩
            case measure => simp [intOf]; omega
    · have hlt' : ylen y ≤ n - (ahd y - ahd 2000) := by omega
      have hy3 : y ≠ 2199 := by
        rintro rfl
        have e : ahd (2199 + 1) = 803168 := by unfold ahd; omega
        have := ahd_2000
        omega
      have HN := Lib.hid (show n - (ahd (y + 1) - ahd 2000) = n - (ahd y - ahd 2000) - ylen y by omega)
      generalize n - (ahd y - ahd 2000) = L at *
      clear ha0 ha hs
      cases hlp : lp y
      all_goals
        rw [hlp] at HY
        have hlt2 := hlt'
        rw [HY.out] at hlt2
        simp at hlt2
        go_wp2_with (go_at_call 70; refine (leap_ok y _ (by omega) (by omega)).mono ?_; rintro e w' ⟨rfl, rfl⟩; rw [hlp])
        go_roundw
        case rel => exact ⟨y + 1, by omega, by omega, by rw [HN.out, HY.out]; simp; omega, by rw [HN.out, HY.out]; simp, rfl⟩
        case measure => simp [intOf]; omega
end Go.Proofs.Ytaobohhkoakecaa

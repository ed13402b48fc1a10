/- The walk of the law CheckOne. -/
import Derived.Test.YtadaanphoehlmaaSeal
namespace Go.Proofs.Ytadaanphoehlmaa
open Go.RowKit
/-- How many of the digits below k make it good. -/
def cntD (p k : Nat) : Nat := ((List.range k).filter fun d => decide (mulD d p = 0)).length
theorem cntD_succ (p k : Nat) : cntD p (k + 1) = cntD p k + if decide (mulD k p = 0) = true then 1 else 0 := by
  unfold cntD
  rw [List.range_succ, List.filter_append, List.length_append]
  congr 1
  by_cases h : decide (mulD k p = 0) = true
  · simp [h]
  · simp [h]
theorem cntD_le (p k : Nat) : cntD p k ≤ k := by
  have := List.length_filter_le (fun d => decide (mulD d p = 0)) (List.range k)
  simpa [cntD] using this
set_option maxHeartbeats 400000 in
theorem walk_checkOne (w : World) (a0 : Value) (w0 : Fit Try.prog w 29 a0) :
    Calls Try.prog 14 #[a0] w fun e w' => e = .returned (.bool true) ∧ Below w.heap.size w w' := by
  go_enter Try.func14, Try.ntmps14
  go_wp2_with fail
  refine (numerals_fit w0 199 (by omega) (by omega)).mono ?_
  rintro e wa ⟨ds, h0, h1, hd, rfl, hb⟩
  have hp : allD ds 1 ≤ 9 := allK_le hd 1 ds.length
  have hsz := dstr_size ds
  have HP := Lib.hid (show cntD (allD ds 1) 10 = 1 from one_digit _ (by omega))
  have hS := strOfNums_size
  go_wp2_with fail
  go_loopw [4, 5, 6] (fun n d _ wr => ∃ k : Nat, k ≤ 10 ∧ d = .int .i64 k ∧ n = .int .i64 (cntD (allD ds 1) k) ∧ Below w.heap.size w wr) (fun _ d _ _ => 10 - (intOf d).toNat)
  case atStart => exact ⟨0, by omega, rfl, rfl, hb⟩
  case round =>
    obtain ⟨k, hk, rfl, rfl, hbr⟩ := hrel
    have hle := cntD_le (allD ds 1) k
    by_cases hlt : k < 10
    · have hcv := conv_one0 (dst := 9) Try.underlying29 Try.underlying5 Try.underlying9 wr
      have HS := Lib.hid (cntD_succ (allD ds 1) k)
      generalize hq : allD ds 1 = q at *
      have HQ := Lib.hid hq
      clear hq
      generalize cntD q k = m at *
      go_wp2_with fail
      rw [one_str' (by omega), ← dstr_append]
      refine (good_ok (ds ++ [k]) _ (fun d hd' => (List.mem_append.1 hd').elim (hd d) (fun h => by simp at h; omega)) (by simp; omega) (by simp; omega)).mono ?_
      rintro e wb ⟨rfl, hb2⟩
      rw [allD_snoc hd (by omega), HQ.out]
      have hb3 : Below w.heap.size w wb := (hbr.alloc (by have := hbr.size; omega) _).step hb2
      clear hb2 hbr
      cases hgood : decide (mulD k q = 0)
      · rw [hgood] at HS
        go_wp2
        go_roundw
        case rel => exact ⟨k + 1, by omega, by go_num, by rw [HS.out]; rfl, hb3⟩
        case measure => simp [intOf]; omega
      · rw [hgood] at HS
        go_wp2
        go_roundw
        case rel => exact ⟨k + 1, by omega, by go_num, by rw [HS.out]; go_num, hb3⟩
        case measure => simp [intOf]; omega
    · obtain rfl : k = 10 := by omega
      rw [HP.out]
      go_wp2
      go_ret
      exact ⟨rfl, hbr⟩
end Go.Proofs.Ytadaanphoehlmaa

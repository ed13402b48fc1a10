/- A token of credit that was just sold: keyed once, and once more: plain. -/
import Derived.Test.YtopnlkhepjbjkaaDoorG21
namespace Go.Proofs.YtopnlkhepjbjkaaDoor
open Go.RowKit
set_option linter.unusedVariables false
theorem key_own {l : List Pr} {me rev cr H b bad lock id am t2 : Nat} (hl : look l ((me : Int), (rev : Int), ((tbody 0 id am : Nat) : Int)) = some ((t2 : Nat) : Int)) :
    keyS l me rev cr H b bad lock 0 id am t2 = if 0 < lock then (rev, cr, H, b, bad, lock, 0, 10) else
      if judge H b id ≠ 0 then (rev, cr, H, b, bad, lock, 0, judge H b id) else if 99999999 < cr + am then (rev, cr, H, b, bad, lock, 0, 15) else (rev, cr + am, (wtake H b id).1, (wtake H b id).2, 0, lock, am, 0) := by
  unfold keyS
  by_cases g1 : 0 < lock
  · rw [if_pos g1, if_pos g1]
  · rw [if_neg g1, if_neg g1, if_neg (by decide), soldE_own hl, if_pos rfl]
    unfold takeS
    by_cases g2 : judge H b id ≠ 0
    · rw [if_pos g2, if_pos g2]
    · rw [if_neg g2, if_neg g2, if_pos rfl]
      by_cases g3 : 99999999 < cr + am
      · rw [if_pos g3, if_pos g3]
      · rw [if_neg g3, if_neg g3]
theorem judge_ne0 {H B j : Nat} (h : judge H B j ≠ 0) : judge H B j = 13 ∨ judge H B j = 14 := by
  unfold judge at h ⊢
  split
  · exact .inl rfl
  · split
    · exact .inr rfl
    · rename_i h1 h2; rw [if_neg h1, if_neg h2] at h; exact absurd rfl h
theorem judge_again {H B j : Nat} (hW : WMay H B) (h1 : 1 ≤ j) (hj : judge H B j = 0) : judge (wtake H B j).1 (wtake H B j).2 j = 14 := by
  have hk := take_wk hW h1 hj j
  have h64 : ¬ j + 64 ≤ H := by
    intro h
    unfold judge at hj
    rw [if_pos h] at hj
    cases hj
  have hx : wk (wtake H B j).1 (wtake H B j).2 j = true := by rw [hk]; simp; omega
  unfold judge
  rw [if_neg (by rw [take_high]; omega), if_pos hx]
/-- A token of credit that was just sold: it is no good, and nothing turns; or its units are added, and the next time it is used. -/
theorem key_sold {l : List Pr} {me rev cr H b bad lock id am t2 : Nat} (hb : b < 2 ^ 64) (hm : mmay me rev cr H b bad lock = true) (hl : look l ((me : Int), (rev : Int), ((tbody 0 id am : Nat) : Int)) = some ((t2 : Nat) : Int)) (h1 : 1 ≤ id) (h2 : 1 ≤ am) :
    (∃ E, E ≠ 0 ∧ E ≠ 5 ∧ keyS l me rev cr H b bad lock 0 id am t2 = (rev, cr, H, b, bad, lock, 0, E)) ∨
    (∃ h2' b2, cr + am ≤ 99999999 ∧ keyS l me rev cr H b bad lock 0 id am t2 = (rev, cr + am, h2', b2, 0, 0, am, 0) ∧ keyS l me rev (cr + am) h2' b2 0 0 0 id am t2 = (rev, cr + am, h2', b2, 0, 0, 0, 14) ∧ lock = 0) := by
  obtain ⟨b1, b2, b3, b4, b5, b6, b7⟩ := may_bounds hb hm
  rw [key_own hl]
  by_cases g1 : 0 < lock
  · rw [if_pos g1]; exact .inl ⟨10, by decide, by decide, rfl⟩
  · rw [if_neg g1]
    by_cases g2 : judge H b id ≠ 0
    · rw [if_pos g2]
      rcases judge_ne0 g2 with h | h <;> exact .inl ⟨_, g2, by rw [h]; decide, rfl⟩
    · rw [if_neg g2]
      by_cases g3 : 99999999 < cr + am
      · rw [if_pos g3]; exact .inl ⟨15, by decide, by decide, rfl⟩
      · rw [if_neg g3]
        obtain rfl : lock = 0 := by omega
        refine .inr ⟨_, _, by omega, rfl, ?_, rfl⟩
        rw [key_own hl, if_neg (by omega), judge_again b7 h1 (Decidable.byContradiction g2), if_pos (by decide)]
end Go.Proofs.YtopnlkhepjbjkaaDoor

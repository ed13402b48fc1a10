/- Windows: plain. -/
import Derived.Lib.Hide
namespace Go.Proofs.Ythhbnmmhjfgpdaa
/-- A window that may be. -/
def WMay (H B : Nat) : Prop := (H = 0 ∧ B = 0) ∨ (1 ≤ H ∧ H ≤ 1048575 ∧ B.testBit 0 = true ∧ B < 2 ^ min H 64)
/-- The number was taken, as far as is known. -/
def wk (H B j : Nat) : Bool := decide (j ≤ H) && B.testBit (H - j)
/-- What is wrong with a number. -/
def judge (H B j : Nat) : Nat := if j + 64 ≤ H then 13 else if wk H B j = true then 14 else 0
/-- The number is taken. -/
def wtake (H B j : Nat) : Nat × Nat := if H < j then (j, (B <<< (j - H)) % 2 ^ 64 ||| 1) else (H, B ||| 2 ^ (H - j))
theorem WMay.lt {H B : Nat} (h : WMay H B) : B < 2 ^ 64 := by
  rcases h with ⟨_, rfl⟩ | ⟨_, _, _, h⟩
  · decide
  · exact Nat.lt_of_lt_of_le h (Nat.pow_le_pow_right (by omega) (Nat.min_le_right _ _))
theorem WMay.le {H B : Nat} (h : WMay H B) : H ≤ 1048575 := by
  rcases h with ⟨rfl, _⟩ | ⟨_, h, _⟩ <;> omega
theorem WMay.high {H B : Nat} (h : WMay H B) : B < 2 ^ H := by
  rcases h with ⟨rfl, rfl⟩ | ⟨_, _, _, h⟩
  · decide
  · exact Nat.lt_of_lt_of_le h (Nat.pow_le_pow_right (by omega) (Nat.min_le_left _ _))
theorem take_may {H B j : Nat} (h : WMay H B) (h1 : 1 ≤ j) (h2 : j ≤ 1048575) (hj : judge H B j = 0) : WMay (wtake H B j).1 (wtake H B j).2 := by
  unfold judge at hj
  have h64 : H < j + 64 := by
    by_cases g : j + 64 ≤ H
    · rw [if_pos g] at hj; cases hj
    · omega
  unfold wtake
  split
  · rename_i hlt
    refine .inr ⟨h1, h2, by simp, ?_⟩
    dsimp only
    by_cases hm : j ≤ 64
    · rw [Nat.min_eq_left hm]
      refine Nat.or_lt_two_pow (Nat.lt_of_le_of_lt (Nat.mod_le _ _) ?_) (Nat.one_lt_two_pow (by omega))
      rw [Nat.shiftLeft_eq]
      have := Nat.mul_lt_mul_of_pos_right h.high (Nat.two_pow_pos (j - H))
      rwa [← Nat.pow_add, show H + (j - H) = j by omega] at this
    · rw [Nat.min_eq_right (by omega)]
      exact Nat.or_lt_two_pow (Nat.mod_lt _ (by decide)) (by decide)
  · rename_i hlt
    rcases h with ⟨rfl, rfl⟩ | ⟨g1, g2, g3, g4⟩
    · omega
    · refine .inr ⟨g1, g2, by rw [Nat.testBit_or, g3]; rfl, Nat.or_lt_two_pow g4 (Nat.pow_lt_pow_right (by omega) (by omega))⟩
theorem take_high (H B j : Nat) : (wtake H B j).1 = max H j := by
  unfold wtake; split <;> dsimp only <;> omega
/-- What is known behind the taking. -/
theorem take_wk {H B j : Nat} (h : WMay H B) (h1 : 1 ≤ j) (hj : judge H B j = 0) (i : Nat) :
    wk (wtake H B j).1 (wtake H B j).2 i = (decide (max H j < i + 64) && (decide (i = j) || wk H B i)) := by
  unfold judge at hj
  have h64 : H < j + 64 := by
    by_cases g : j + 64 ≤ H
    · rw [if_pos g] at hj; cases hj
    · omega
  have hB := h.lt
  have hbig : ∀ k, 64 ≤ k → B.testBit k = false := fun k hk => Nat.testBit_lt_two_pow (Nat.lt_of_lt_of_le hB (Nat.pow_le_pow_right (by omega) hk))
  unfold wtake
  split
  · rename_i hlt
    unfold wk
    dsimp only
    rw [Nat.testBit_or, Nat.testBit_mod_two_pow, Nat.testBit_shiftLeft, show max H j = j by omega]
    by_cases e : i = j
    · subst e; simp
    · by_cases g : i ≤ j
      · have g1 : Nat.testBit 1 (j - i) = false := by
          rw [Bool.eq_false_iff]; intro h; have := Nat.testBit_one_eq_true_iff_self_eq_zero.1 h; omega
        rw [g1]
        by_cases g2 : i ≤ H
        · simp [g, g2, e, show j - H ≤ j - i by omega, show j - i - (j - H) = H - i by omega, show (j - i < 64) = (j < i + 64) by simp; omega]
        · simp [g, g2, e, show ¬ j - H ≤ j - i by omega]
      · simp [g, e, show ¬ i ≤ H by omega]
  · rename_i hlt
    unfold wk
    dsimp only
    rw [Nat.testBit_or, Nat.testBit_two_pow, show max H j = H by omega]
    by_cases g : i ≤ H
    · by_cases g2 : H < i + 64
      · by_cases e : i = j
        · subst e; simp [g, g2]
        · simp [g, g2, e, show ¬ H - j = H - i by omega]
      · simp [g, g2, hbig (H - i) (by omega), show ¬ H - j = H - i by omega]
    · simp [g]; intro _; omega
/-- The numbers that are known, behind the bits below t. -/
def lowIds (H B : Nat) : Nat → List Nat
  | 0 => []
  | t + 1 => if B.testBit t = true then (H - t) :: lowIds H B t else lowIds H B t
theorem low_none (H B : Nat) (t u : Nat) (h : ∀ k, t ≤ k → B.testBit k = false) : lowIds H B (t + u) = lowIds H B t := by
  induction u with
  | zero => rfl
  | succ u ih =>
    show (if B.testBit (t + u) = true then _ else lowIds H B (t + u)) = _
    rw [h (t + u) (by omega), if_neg (by simp), ih]
theorem low_same (H B C : Nat) (t : Nat) (h : ∀ k, k < t → B.testBit k = C.testBit k) : lowIds H B t = lowIds H C t := by
  induction t with
  | zero => rfl
  | succ t ih =>
    show (if B.testBit t = true then _ else _) = (if C.testBit t = true then _ else _)
    rw [h t (by omega), ih (fun k hk => h k (by omega))]
/-- The highest bit's number stands ahead. -/
theorem low_step (H b top : Nat) (h1 : 2 ^ top ≤ b) (h2 : b < 2 ^ (top + 1)) (h3 : top < 64) : lowIds H b 64 = (H - top) :: lowIds H (b - 2 ^ top) 64 := by
  have hlt : b - 2 ^ top < 2 ^ top := by rw [Nat.pow_succ] at h2; omega
  have e : b = 2 ^ top + (b - 2 ^ top) := by omega
  have hb : ∀ k, top + 1 ≤ k → b.testBit k = false := fun k hk => Nat.testBit_lt_two_pow (Nat.lt_of_lt_of_le h2 (Nat.pow_le_pow_right (by omega) hk))
  have hc : ∀ k, top ≤ k → (b - 2 ^ top).testBit k = false := fun k hk => Nat.testBit_lt_two_pow (Nat.lt_of_lt_of_le hlt (Nat.pow_le_pow_right (by omega) hk))
  have ht : b.testBit top = true := by
    rw [e, Nat.testBit_two_pow_add_eq, hc top (Nat.le_refl _)]; rfl
  have hs : ∀ k, k < top → b.testBit k = (b - 2 ^ top).testBit k := fun k hk => by
    conv => lhs; rw [e]
    exact Nat.testBit_two_pow_add_gt hk _
  have a1 := low_none H b (top + 1) (63 - top) hb
  rw [show top + 1 + (63 - top) = 64 by omega] at a1
  have a2 := low_none H (b - 2 ^ top) top (64 - top) hc
  rw [show top + (64 - top) = 64 by omega] at a2
  rw [a1, a2]
  show (if b.testBit top = true then _ else _) = _
  rw [if_pos ht, low_same H b (b - 2 ^ top) top hs]
theorem low_zero (H : Nat) : ∀ t, lowIds H 0 t = []
  | 0 => rfl
  | t + 1 => by show (if Nat.testBit 0 t = true then _ else _) = _; simp [low_zero H t]
/-- The known numbers, rising. -/
theorem low_filter {H B : Nat} : ∀ t, t ≤ H → lowIds H B t = (List.range' (H + 1 - t) t).filter (wk H B)
  | 0, _ => rfl
  | t + 1, h => by
    have ih := low_filter (H := H) (B := B) t (by omega)
    show (if B.testBit t = true then _ else lowIds H B t) = _
    rw [ih, show H + 1 - (t + 1) = H - t by omega, List.range'_succ, List.filter_cons, show H - t + 1 = H + 1 - t by omega]
    have e : wk H B (H - t) = B.testBit t := by unfold wk; rw [decide_eq_true (show H - t ≤ H by omega), show H - (H - t) = t by omega]; rfl
    rw [e]
theorem low_may {H B : Nat} (hm : WMay H B) : lowIds H B 64 = (List.range' (H + 1 - min H 64) (min H 64)).filter (wk H B) := by
  have hz : ∀ k, min H 64 ≤ k → B.testBit k = false := fun k hk => by
    rcases Nat.lt_or_ge H 64 with h | h
    · exact Nat.testBit_lt_two_pow (Nat.lt_of_lt_of_le hm.high (Nat.pow_le_pow_right (by omega) (by omega)))
    · exact Nat.testBit_lt_two_pow (Nat.lt_of_lt_of_le hm.lt (Nat.pow_le_pow_right (by omega) (by omega)))
  have := low_none H B (min H 64) (64 - min H 64) hz
  rw [show min H 64 + (64 - min H 64) = 64 by omega] at this
  rw [this, low_filter _ (Nat.min_le_left _ _)]
/-- The same as a part of all numbers up to a bound. -/
theorem low_range {H B M : Nat} (hm : WMay H B) (hM : H ≤ M) : lowIds H B 64 = (List.range' 1 M).filter (fun j => wk H B j && decide (H < j + 64)) := by
  have e : List.range' 1 M = List.range' 1 (H - min H 64) ++ (List.range' (H + 1 - min H 64) (min H 64) ++ List.range' (H + 1) (M - H)) := by
    rw [show H + 1 - min H 64 = 1 + (H - min H 64) by omega, show H + 1 = 1 + (H - min H 64) + min H 64 by omega, List.range'_append_1, List.range'_append_1]
    congr 1; omega
  have e1 : (List.range' 1 (H - min H 64)).filter (fun j => wk H B j && decide (H < j + 64)) = [] := by
    rw [List.filter_eq_nil_iff]
    intro j hj
    rw [List.mem_range'_1] at hj
    simp; intro _; omega
  have e3 : (List.range' (H + 1) (M - H)).filter (fun j => wk H B j && decide (H < j + 64)) = [] := by
    rw [List.filter_eq_nil_iff]
    intro j hj
    rw [List.mem_range'_1] at hj
    unfold wk
    simp; intro h; omega
  rw [e, List.filter_append, List.filter_append, e1, e3, low_may hm]
  simp only [List.nil_append, List.append_nil]
  refine List.filter_congr fun j hj => ?_
  rw [List.mem_range'_1] at hj
  rw [decide_eq_true (show H < j + 64 by omega), Bool.and_true]
theorem low_some {H B : Nat} (h : B.testBit 0 = true) : ∀ t, 1 ≤ t → lowIds H B t ≠ []
  | 0, h1 => by omega
  | 1, _ => by show (if B.testBit 0 = true then _ else _) ≠ _; rw [if_pos h]; simp
  | t + 2, _ => by
    have ih := low_some (H := H) h (t + 1) (by omega)
    show (if B.testBit (t + 1) = true then _ else _) ≠ _
    split
    · simp
    · exact ih
theorem low_len (H B : Nat) : ∀ t, (lowIds H B t).length ≤ t
  | 0 => Nat.le_refl _
  | t + 1 => by
    have := low_len H B t
    show (if B.testBit t = true then _ else _ : List Nat).length ≤ _
    split
    · simp; omega
    · omega
end Go.Proofs.Ythhbnmmhjfgpdaa

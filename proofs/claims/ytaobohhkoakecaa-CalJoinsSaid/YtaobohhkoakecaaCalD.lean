/- Days and months: plain definitions and laws, no program in sight. -/
import Derived.WalkKit
namespace Go.Proofs.Ytaobohhkoakecaa
/-- Is it a leap year? -/
def lp (y : Int) : Bool := decide (y % 4 = 0 ∧ (¬ y % 100 = 0 ∨ y % 400 = 0))
/-- How many days a month has. -/
def lng (y m : Int) : Int := if m = 4 ∨ m = 6 ∨ m = 9 ∨ m = 11 then 30 else if m = 2 then (if lp y = true then 29 else 28) else 31
/-- Days of the years ahead of one. -/
def ahd (y : Int) : Int := (y - 1) * 365 + (y - 1) / 4 - (y - 1) / 100 + (y - 1) / 400
/-- Days of a year. -/
def ylen (y : Int) : Int := if lp y = true then 366 else 365
/-- Days of the first k months. -/
def cumN (y : Int) : Nat → Int
  | 0 => 0
  | k + 1 => cumN y k + lng y ((k + 1 : Nat) : Int)
/-- The number of a day, by its name. -/
def numD (y : Int) (m : Nat) (d : Int) : Int := ahd y - ahd 2000 + cumN y (m - 1) + d - 1
theorem lp_true {y : Int} : lp y = true ↔ y % 4 = 0 ∧ (¬ y % 100 = 0 ∨ y % 400 = 0) := by unfold lp; simp
theorem ahd_succ (y : Int) : ahd (y + 1) = ahd y + ylen y := by
  unfold ylen
  by_cases h : lp y = true
  · rw [if_pos h]; rw [lp_true] at h; unfold ahd; omega
  · rw [if_neg h]; rw [lp_true] at h; unfold ahd; omega
theorem ylen_bd (y : Int) : 365 ≤ ylen y ∧ ylen y ≤ 366 := by unfold ylen; split <;> omega
theorem lng_bd (y m : Int) : 28 ≤ lng y m ∧ lng y m ≤ 31 := by
  unfold lng; split
  · omega
  · split
    · split <;> omega
    · omega
theorem cum12 (y : Int) : cumN y 12 = ylen y := by
  unfold ylen
  simp only [cumN, lng]
  by_cases h : lp y = true
  · simp [h]
  · simp [h]
theorem cum_mono (y : Int) {j k : Nat} (h : j ≤ k) : cumN y j + 28 * ((k : Int) - (j : Int)) ≤ cumN y k := by
  induction k with
  | zero =>
    obtain rfl : j = 0 := by omega
    simp
  | succ k ih =>
    rcases Nat.lt_or_eq_of_le h with h | rfl
    · have := ih (by omega)
      have hl := lng_bd y ((k + 1 : Nat) : Int)
      show _ ≤ cumN y k + lng y ((k + 1 : Nat) : Int)
      omega
    · omega
theorem ahd_mono {y z : Int} (h : y ≤ z) : ahd y + 365 * (z - y) ≤ ahd z := by
  obtain ⟨k, hk⟩ : ∃ k : Nat, z = y + k := ⟨(z - y).toNat, by omega⟩
  subst hk
  clear h
  induction k with
  | zero => simp
  | succ k ih =>
    have h1 := ahd_succ (y + k)
    have h2 := ylen_bd (y + k)
    have e : y + ((k + 1 : Nat) : Int) = y + k + 1 := by omega
    rw [e, h1]; omega
/-- A day of a month. -/
def Valid (y : Int) (m : Nat) (d : Int) : Prop := 1 ≤ m ∧ m ≤ 12 ∧ 1 ≤ d ∧ d ≤ lng y (m : Int)
theorem num_bd {y : Int} {m : Nat} {d : Int} (h : Valid y m d) : ahd y - ahd 2000 ≤ numD y m d ∧ numD y m d < ahd (y + 1) - ahd 2000 := by
  obtain ⟨h1, h2, h3, h4⟩ := h
  have a := cum_mono y (show 0 ≤ m - 1 by omega)
  have b := cum_mono y (show m ≤ 12 from h2)
  have c := cum12 y
  have e : cumN y m = cumN y (m - 1) + lng y (m : Int) := by
    obtain ⟨k, rfl⟩ : ∃ k, m = k + 1 := ⟨m - 1, by omega⟩
    rfl
  have z : cumN y 0 = 0 := rfl
  rw [ahd_succ]
  unfold numD
  omega
/-- Each number is that of one day at most. -/
theorem num_inj {y y' : Int} {m m' : Nat} {d d' : Int} (h : Valid y m d) (h' : Valid y' m' d') (e : numD y m d = numD y' m' d') : y = y' ∧ m = m' ∧ d = d' := by
  have b := num_bd h
  have b' := num_bd h'
  have hy : y = y' := by
    rcases Int.lt_trichotomy y y' with hlt | heq | hgt
    · have := ahd_mono (show y + 1 ≤ y' by omega); omega
    · exact heq
    · have := ahd_mono (show y' + 1 ≤ y by omega); omega
  subst hy
  obtain ⟨h1, h2, h3, h4⟩ := h
  obtain ⟨k1, k2, k3, k4⟩ := h'
  have em : cumN y m = cumN y (m - 1) + lng y (m : Int) := by
    obtain ⟨k, rfl⟩ : ∃ k, m = k + 1 := ⟨m - 1, by omega⟩
    rfl
  have em' : cumN y m' = cumN y (m' - 1) + lng y (m' : Int) := by
    obtain ⟨k, rfl⟩ : ∃ k, m' = k + 1 := ⟨m' - 1, by omega⟩
    rfl
  unfold numD at e
  have hm : m = m' := by
    rcases Nat.lt_trichotomy m m' with hlt | heq | hgt
    · have := cum_mono y (show m ≤ m' - 1 by omega); omega
    · exact heq
    · have := cum_mono y (show m' ≤ m - 1 by omega); omega
  subst hm
  exact ⟨rfl, rfl, by omega⟩
/-- Behind a day comes the next one. -/
theorem num_next {y : Int} {m : Nat} {d : Int} (h : Valid y m d) :
    (d < lng y (m : Int) → Valid y m (d + 1) ∧ numD y m (d + 1) = numD y m d + 1) ∧
    (d = lng y (m : Int) → m < 12 → Valid y (m + 1) 1 ∧ numD y (m + 1) 1 = numD y m d + 1) ∧
    (d = lng y (m : Int) → m = 12 → Valid (y + 1) 1 1 ∧ numD (y + 1) 1 1 = numD y m d + 1) := by
  obtain ⟨h1, h2, h3, h4⟩ := h
  have em : cumN y m = cumN y (m - 1) + lng y (m : Int) := by
    obtain ⟨k, rfl⟩ : ∃ k, m = k + 1 := ⟨m - 1, by omega⟩
    rfl
  refine ⟨fun hd => ⟨⟨h1, h2, by omega, by omega⟩, by unfold numD; omega⟩, fun hd hm => ⟨⟨by omega, by omega, by omega, by have := lng_bd y ((m + 1 : Nat) : Int); omega⟩, ?_⟩, fun hd hm => ⟨⟨by omega, by omega, by omega, by have := lng_bd (y + 1) ((1 : Nat) : Int); omega⟩, ?_⟩⟩
  · unfold numD; rw [show m + 1 - 1 = m by omega]; omega
  · subst hm
    have c := cum12 y
    unfold numD
    rw [ahd_succ, ← c, em]
    show _ + 0 + 1 - 1 = _
    omega
end Go.Proofs.Ytaobohhkoakecaa

/- Tariffs, in plain words: the lines of a bill; the most units for an amount. -/
import Derived.Test.YtnpkondgpmncnaaTarD
namespace Go.Proofs.Ytnpkondgpmncnaa
/-- The lines: units and price. -/
def bills : List (Nat × Nat) → Nat → List (Nat × Nat)
  | [], _ => []
  | (q, p) :: t, n => if n = 0 then [] else (min q n, p) :: bills t (n - min q n)
theorem bills_zero : ∀ l : List (Nat × Nat), bills l 0 = []
  | [] => rfl
  | (q, p) :: t => by simp [bills]
theorem bills_cons {q p n : Nat} {t : List (Nat × Nat)} (h : n ≠ 0) : bills ((q, p) :: t) n = (min q n, p) :: bills t (n - min q n) := by simp [bills, h]
theorem bills_len : ∀ (l : List (Nat × Nat)) (n : Nat), (bills l n).length ≤ l.length
  | [], _ => by simp [bills]
  | (q, p) :: t, n => by
    by_cases hn : n = 0
    · subst hn; simp [bills_zero]
    · have := bills_len t (n - min q n)
      simp [bills, hn]; omega
theorem bills_bd : ∀ (l : List (Nat × Nat)) (n : Nat), (∀ p ∈ l, 1 ≤ p.1 ∧ p.1 ≤ 10000000 ∧ 1 ≤ p.2 ∧ p.2 ≤ 100000) → ∀ p ∈ bills l n, 1 ≤ p.1 ∧ p.1 ≤ 10000000 ∧ 1 ≤ p.2 ∧ p.2 ≤ 100000
  | [], n, _, p, hp => by simp [bills] at hp
  | (q, c) :: t, n, h, p, hp => by
    have h0 := h (q, c) (by simp)
    by_cases hn : n = 0
    · subst hn; simp [bills_zero] at hp
    · rw [bills_cons hn] at hp
      simp only [List.mem_cons] at hp
      rcases hp with rfl | hp
      · simp only at h0 ⊢; omega
      · exact bills_bd t _ (fun q hq => h q (by simp [hq])) p hp
theorem bills_units : ∀ (l : List (Nat × Nat)) (n : Nat), lefts (bills l n) = min (lefts l) n
  | [], n => by simp [bills, lefts]
  | (q, p) :: t, n => by
    by_cases hn : n = 0
    · subst hn; simp [bills_zero, lefts]
    · have := bills_units t (n - min q n)
      rw [bills_cons hn]
      simp only [lefts, List.map_cons, List.sum_cons] at this ⊢
      omega
/-- What the lines cost together. -/
def lsum (l : List (Nat × Nat)) : Nat := (l.map fun p => p.1 * p.2).sum
theorem lsum_cons (p : Nat × Nat) (l : List (Nat × Nat)) : lsum (p :: l) = p.1 * p.2 + lsum l := by simp [lsum]
theorem lsum_snoc (l : List (Nat × Nat)) (p : Nat × Nat) : lsum (l ++ [p]) = lsum l + p.1 * p.2 := by simp [lsum]
theorem lefts_snoc (l : List (Nat × Nat)) (p : Nat × Nat) : lefts (l ++ [p]) = lefts l + p.1 := by simp [lefts]
theorem bills_cost : ∀ (l : List (Nat × Nat)) (n : Nat), lsum (bills l n) = cost l n
  | [], n => by simp [bills, lsum, cost]
  | (q, p) :: t, n => by
    by_cases hn : n = 0
    · subst hn; simp [bills_zero, lsum, cost_zero]
    · rw [bills_cons hn, lsum_cons, bills_cost t]; rfl
/-- Most units: the loop, from so many units and such a price on. -/
def most : List (Nat × Nat) → Nat → Nat → Nat → Nat × Nat
  | [], _, u, p => (u, p)
  | (q, c) :: t, m, u, p => if min (min q ((m - p) / c)) (2097151 - u) < q then (u + min (min q ((m - p) / c)) (2097151 - u), p + min (min q ((m - p) / c)) (2097151 - u) * c)
      else most t m (u + min (min q ((m - p) / c)) (2097151 - u)) (p + min (min q ((m - p) / c)) (2097151 - u) * c)
theorem most_stop {q c m u p n : Nat} {t : List (Nat × Nat)} (hn : min (min q ((m - p) / c)) (2097151 - u) = n) (h : n < q) : most ((q, c) :: t) m u p = (u + n, p + n * c) := by simp only [most, hn, if_pos h]
theorem most_go {q c m u p n : Nat} {t : List (Nat × Nat)} (hn : min (min q ((m - p) / c)) (2097151 - u) = n) (h : ¬ n < q) : most ((q, c) :: t) m u p = most t m (u + n) (p + n * c) := by simp only [most, hn, if_neg h]
theorem most_is : ∀ (l : List (Nat × Nat)) (m u p : Nat), (∀ x ∈ l, 1 ≤ x.2) → p ≤ m → u ≤ 2097151 →
    ∃ d, (most l m u p).1 = u + d ∧ (most l m u p).2 = p + cost l d ∧ (most l m u p).2 ≤ m ∧ d ≤ lefts l ∧ u + d ≤ 2097151 ∧ (u + d = 2097151 ∨ d = lefts l ∨ m < p + cost l (d + 1))
  | [], m, u, p, _, hp, hu => ⟨0, rfl, by simp [most, cost], by simpa [most] using hp, by omega, by omega, .inr (.inl (by simp [lefts]))⟩
  | (q, c) :: t, m, u, p, hc, hp, hu => by
    obtain ⟨n, hn⟩ : ∃ n, min (min q ((m - p) / c)) (2097151 - u) = n := ⟨_, rfl⟩
    have hc1 := hc (q, c) (by simp)
    simp only at hc1
    have hdiv : n * c ≤ m - p := Nat.le_trans (Nat.mul_le_mul_right c (by omega : n ≤ (m - p) / c)) (Nat.div_mul_le_self _ _)
    by_cases h : n < q
    · rw [most_stop hn h]
      have e1 : cost ((q, c) :: t) n = n * c := by
        have a : min q n = n := by omega
        simp [cost, a, cost_zero]
      refine ⟨n, rfl, by rw [e1], by show p + n * c ≤ m; omega, ?_, by omega, ?_⟩
      · simp only [lefts, List.map_cons, List.sum_cons]; omega
      · by_cases hk : u + n = 2097151
        · exact .inl hk
        · refine .inr (.inr ?_)
          have hnd : n = (m - p) / c := by omega
          have e2 : cost ((q, c) :: t) (n + 1) = (n + 1) * c := by
            have a : min q (n + 1) = n + 1 := by omega
            simp [cost, a, cost_zero]
          have hlt := Nat.lt_mul_div_succ (m - p) (by omega : 0 < c)
          rw [← hnd, Nat.mul_comm] at hlt
          rw [e2]; omega
    · rw [most_go hn h]
      have hnq : n = q := by omega
      obtain ⟨d, h1, h2, h3, h4, h5, h6⟩ := most_is t m (u + n) (p + n * c) (fun x hx => hc x (by simp [hx])) (by omega) (by omega)
      have e : ∀ k, cost ((q, c) :: t) (n + k) = n * c + cost t k := fun k => by
        have a : min q (n + k) = n := by omega
        have b : n + k - n = k := by omega
        simp only [cost, a, b]
      refine ⟨n + d, by rw [h1]; omega, by rw [h2, e d]; omega, h3, ?_, by omega, ?_⟩
      · simp only [lefts, List.map_cons, List.sum_cons] at h4 ⊢; omega
      · rcases h6 with h6 | h6 | h6
        · exact .inl (by omega)
        · exact .inr (.inl (by simp only [lefts, List.map_cons, List.sum_cons] at h6 ⊢; omega))
        · have := e (d + 1)
          exact .inr (.inr (by rw [show n + d + 1 = n + (d + 1) by omega, this]; omega))
theorem cost_mono (l : List (Nat × Nat)) (n : Nat) : ∀ l' f, l = pcs l' f → cost l n ≤ cost l (n + 1) := fun l' f h => by
  subst h; rw [cost_add]; omega
end Go.Proofs.Ytnpkondgpmncnaa

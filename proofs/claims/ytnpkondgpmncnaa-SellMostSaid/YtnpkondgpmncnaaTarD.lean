/- Tariffs, in plain words: the steps from a number of units on; what units cost. -/
namespace Go.Proofs.Ytnpkondgpmncnaa
/-- The steps from f on, each with what is left in it. -/
def pcs : List (Nat × Nat) → Nat → List (Nat × Nat)
  | [], _ => []
  | (u, p) :: t, f => if u ≤ f then pcs t f else (u - f, p) :: pcs t u
/-- What n units cost. -/
def cost : List (Nat × Nat) → Nat → Nat
  | [], _ => 0
  | (q, p) :: t, n => min q n * p + cost t (n - min q n)
theorem pcs_skip {u p f : Nat} {t : List (Nat × Nat)} (h : u ≤ f) : pcs ((u, p) :: t) f = pcs t f := by simp [pcs, h]
theorem pcs_take {u p f : Nat} {t : List (Nat × Nat)} (h : ¬ u ≤ f) : pcs ((u, p) :: t) f = (u - f, p) :: pcs t u := by simp [pcs, h]
theorem pcs_bd : ∀ (l : List (Nat × Nat)) (f : Nat), (∀ p ∈ l, 1 ≤ p.1 ∧ p.1 ≤ 10000000 ∧ 1 ≤ p.2 ∧ p.2 ≤ 100000) → ∀ p ∈ pcs l f, 1 ≤ p.1 ∧ p.1 ≤ 10000000 ∧ 1 ≤ p.2 ∧ p.2 ≤ 100000
  | [], _, _, p, hp => by simp [pcs] at hp
  | (u, c) :: t, f, h, p, hp => by
    have h0 := h (u, c) (by simp)
    by_cases hu : u ≤ f
    · rw [pcs_skip hu] at hp
      exact pcs_bd t f (fun q hq => h q (by simp [hq])) p hp
    · rw [pcs_take hu] at hp
      simp only [List.mem_cons] at hp
      rcases hp with rfl | hp
      · simp only at h0 ⊢; omega
      · exact pcs_bd t u (fun q hq => h q (by simp [hq])) p hp
theorem pcs_len : ∀ (l : List (Nat × Nat)) (f : Nat), (pcs l f).length ≤ l.length
  | [], _ => by simp [pcs]
  | (u, c) :: t, f => by
    by_cases hu : u ≤ f
    · rw [pcs_skip hu]; have := pcs_len t f; simp; omega
    · rw [pcs_take hu]; have := pcs_len t u; simp; omega
/-- All that is left. -/
def lefts (l : List (Nat × Nat)) : Nat := (l.map Prod.fst).sum
theorem pcs_lefts : ∀ (l : List (Nat × Nat)) (f M : Nat), (∀ h : l ≠ [], (l.getLast h).1 = M) → (∀ p ∈ l, p.1 ≤ M) → l ≠ [] → f ≤ M → lefts (pcs l f) + f = M
  | [], _, _, _, _, h, _ => absurd rfl h
  | (u, c) :: t, f, M, hl, hm, _, hf => by
    have hu0 := hm (u, c) (by simp)
    simp only at hu0
    by_cases ht : t = []
    · subst ht
      have := hl (by simp)
      simp only [List.getLast_singleton] at this
      subst this
      by_cases hu : u ≤ f
      · rw [pcs_skip hu]; simp [pcs, lefts]; omega
      · rw [pcs_take hu]; simp [pcs, lefts]; omega
    · have hl' : ∀ h : t ≠ [], (t.getLast h).1 = M := fun h => by
        have := hl (by simp)
        rwa [List.getLast_cons h] at this
      by_cases hu : u ≤ f
      · rw [pcs_skip hu]; exact pcs_lefts t f M hl' (fun p hp => hm p (by simp [hp])) ht hf
      · rw [pcs_take hu]
        have := pcs_lefts t u M hl' (fun p hp => hm p (by simp [hp])) ht hu0
        simp only [lefts, List.map_cons, List.sum_cons] at this ⊢
        omega
theorem cost_zero : ∀ l : List (Nat × Nat), cost l 0 = 0
  | [] => rfl
  | (q, p) :: t => by simp [cost, cost_zero t]
/-- From f + a on. -/
theorem cost_add : ∀ (l : List (Nat × Nat)) (f a b : Nat), cost (pcs l f) (a + b) = cost (pcs l f) a + cost (pcs l (f + a)) b
  | [], f, a, b => by simp [pcs, cost]
  | (u, p) :: t, f, a, b => by
    by_cases hu : u ≤ f
    · rw [pcs_skip hu, pcs_skip (by omega : u ≤ f + a)]; exact cost_add t f a b
    · rw [pcs_take hu]
      by_cases ha : u ≤ f + a
      · rw [pcs_skip ha]
        have e1 : min (u - f) (a + b) = u - f := by omega
        have e2 : min (u - f) a = u - f := by omega
        have e3 : a + b - (u - f) = (a - (u - f)) + b := by omega
        have e4 : u + (a - (u - f)) = f + a := by omega
        simp only [cost, e1, e2, e3]
        rw [cost_add t u (a - (u - f)) b, e4]
        omega
      · rw [pcs_take ha]
        have e2 : min (u - f) a = a := by omega
        have e5 : a - a = 0 := by omega
        have e6 : a + b - min (u - f) (a + b) = b - min (u - (f + a)) b := by omega
        have e7 : min (u - f) (a + b) = a + min (u - (f + a)) b := by omega
        simp only [cost, e2, e5, e6, cost_zero]
        rw [e7, Nat.add_mul]
        omega
theorem cost_ge : ∀ (l : List (Nat × Nat)) (n : Nat), (∀ p ∈ l, 1 ≤ p.2) → n ≤ lefts l → n ≤ cost l n
  | [], n, _, h => by simp [lefts] at h; omega
  | (q, p) :: t, n, hp, h => by
    have h1 := hp (q, p) (by simp)
    have := cost_ge t (n - min q n) (fun r hr => hp r (by simp [hr])) (by simp only [lefts, List.map_cons, List.sum_cons] at h ⊢; omega)
    have h2 : min q n * 1 ≤ min q n * p := Nat.mul_le_mul_left _ h1
    simp only [cost]
    omega
theorem cost_le : ∀ (l : List (Nat × Nat)) (n : Nat), (∀ p ∈ l, p.2 ≤ 100000) → cost l n ≤ n * 100000
  | [], n, _ => by simp [cost]
  | (q, p) :: t, n, hp => by
    have h1 := hp (q, p) (by simp)
    have := cost_le t (n - min q n) (fun r hr => hp r (by simp [hr]))
    have h2 : min q n * p ≤ min q n * 100000 := Nat.mul_le_mul_left _ h1
    simp only [cost]
    omega
/-- The first step that reaches beyond f says what one unit costs there. -/
theorem cost_one : ∀ (l : List (Nat × Nat)) (f : Nat) (i : Nat) (h : i < l.length), (∀ j (hj : j < i), (l[j]'(by omega)).1 ≤ f) → f < l[i].1 → cost (pcs l f) 1 = l[i].2
  | [], _, i, h, _, _ => by simp at h
  | (u, p) :: t, f, 0, h, _, hf => by
    simp only [List.getElem_cons_zero] at hf ⊢
    rw [pcs_take (by omega)]
    have : min (u - f) 1 = 1 := by omega
    simp [cost, this, cost_zero]
  | (u, p) :: t, f, i + 1, h, hj, hf => by
    have h0 := hj 0 (by omega)
    simp only [List.getElem_cons_zero] at h0
    rw [pcs_skip h0]
    simp only [List.getElem_cons_succ] at hf ⊢
    exact cost_one t f i (by simpa using h) (fun j hj' => by have := hj (j + 1) (by omega); simpa using this) hf
end Go.Proofs.Ytnpkondgpmncnaa

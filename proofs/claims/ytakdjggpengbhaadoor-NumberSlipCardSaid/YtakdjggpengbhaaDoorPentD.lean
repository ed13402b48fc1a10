/- The motions of a pentagon, and the digit that tells a slip: plain definitions and laws, no program in sight. -/
import Derived.WalkKit
namespace Go.Proofs.YtakdjggpengbhaaDoor
/-! ### The motions of the pentagon -/
def mulD (a b : Nat) : Nat := if a < 5 then 5 * (b / 5) + (a + b % 5) % 5 else if b < 5 then 5 + (a + 5 - b % 5) % 5 else (a + 5 - b % 5) % 5
def invD (a : Nat) : Nat := if 5 ≤ a then a else (5 - a) % 5
theorem mulD_le (a b : Nat) (hb : b ≤ 9) : mulD a b ≤ 9 := by unfold mulD; split <;> (try split) <;> omega
theorem invD_le (a : Nat) (ha : a ≤ 9) : invD a ≤ 9 := by unfold invD; split <;> omega
theorem mulD_assoc : ∀ a, a < 10 → ∀ b, b < 10 → ∀ c, c < 10 → mulD (mulD a b) c = mulD a (mulD b c) := by decide +kernel
theorem mulD_inv : ∀ a, a < 10 → mulD a (invD a) = 0 ∧ mulD (invD a) a = 0 ∧ mulD a 0 = a ∧ mulD 0 a = a := by decide +kernel
theorem tmod5 (x : Int) : (x.tmod 5) % 5 = x % 5 ∧ -4 ≤ x.tmod 5 ∧ x.tmod 5 ≤ 4 := by
  by_cases h : 0 ≤ x
  · rw [Int.tmod_eq_emod_of_nonneg h]; omega
  · have e : x.tmod 5 = -((-x) % 5) := by
      rw [← Int.tmod_eq_emod_of_nonneg (by omega), Int.neg_tmod]; omega
    rw [e]; omega
/-! ### Where a digit goes at a place; a text's motion -/
def T10 (d : Nat) : Nat := [1, 5, 7, 6, 2, 8, 3, 0, 9, 4].getD d 0
def mvK : Nat → Nat → Nat
  | 0, d => d
  | k + 1, d => T10 (mvK k d)
def mv (d place : Nat) : Nat := mvK (place % 8) d
theorem T10_le (d : Nat) : T10 d ≤ 9 := by
  unfold T10
  by_cases h : d < 10
  · revert d; decide
  · rw [List.getD_eq_getElem?_getD, List.getElem?_eq_none (by simp; omega)]; simp
theorem mvK_le {k d : Nat} (h : d ≤ 9) : mvK k d ≤ 9 := by
  cases k with
  | zero => exact h
  | succ k => exact T10_le _
theorem mv_le {d p : Nat} (h : d ≤ 9) : mv d p ≤ 9 := mvK_le h
/-- The motion of the last k digits of a text, the last of which stands at the place 'from_'. -/
def allK (l : List Nat) (from_ : Nat) : Nat → Nat
  | 0 => 0
  | k + 1 => mulD (allK l from_ k) (mv (l.getD (l.length - 1 - k) 0) (from_ + k))
def allD (l : List Nat) (from_ : Nat) : Nat := allK l from_ l.length
theorem getD_le {l : List Nat} (hl : ∀ d ∈ l, d ≤ 9) (i : Nat) : l.getD i 0 ≤ 9 := by
  rw [List.getD_eq_getElem?_getD]
  by_cases h : i < l.length
  · rw [List.getElem?_eq_getElem h]; exact hl _ (List.getElem_mem h)
  · rw [List.getElem?_eq_none (by omega)]; simp
theorem allK_le {l : List Nat} (hl : ∀ d ∈ l, d ≤ 9) (f : Nat) : ∀ k, allK l f k ≤ 9
  | 0 => by unfold allK; omega
  | k + 1 => by unfold allK; exact mulD_le _ _ (mv_le (getD_le hl _))

/-! ### The laws of the check digit -/
def runA (c f : Nat) : List Nat → Nat
  | [] => c
  | x :: r => runA (mulD c (mv x f)) (f + 1) r
theorem runA_append (c f : Nat) (a b : List Nat) : runA c f (a ++ b) = runA (runA c f a) (f + a.length) b := by
  induction a generalizing c f with
  | nil => rfl
  | cons x a ih => simp only [List.cons_append, runA, List.length_cons]; rw [ih]; congr 1; omega
theorem allK_run (l : List Nat) (f : Nat) : ∀ k, k ≤ l.length → allK l f k = runA 0 f (l.reverse.take k)
  | 0, _ => rfl
  | k + 1, h => by
    have hk : k < l.reverse.length := by simp; omega
    rw [List.take_succ_eq_append_getElem hk, runA_append, ← allK_run l f k (by omega)]
    have e : l.getD (l.length - 1 - k) 0 = l.reverse[k] := by
      rw [List.getElem_reverse, List.getD_eq_getElem?_getD, List.getElem?_eq_getElem (by omega)]; rfl
    have e2 : (l.reverse.take k).length = k := by simp; omega
    rw [e2]
    show mulD (allK l f k) (mv (l.getD (l.length - 1 - k) 0) (f + k)) = _
    rw [e]; rfl
theorem allD_run (l : List Nat) (f : Nat) : allD l f = runA 0 f l.reverse := by
  unfold allD; rw [allK_run l f l.length (Nat.le_refl _), List.take_of_length_le (by simp)]
theorem runA_le {c f : Nat} {r : List Nat} (hr : ∀ x ∈ r, x ≤ 9) (hc : c ≤ 9) : runA c f r ≤ 9 := by
  induction r generalizing c f with
  | nil => exact hc
  | cons x r ih => exact ih (fun y hy => hr y (by simp [hy])) (mulD_le _ _ (mv_le (hr x (by simp))))
theorem runA_mul {c f : Nat} {r : List Nat} (hr : ∀ x ∈ r, x ≤ 9) (hc : c ≤ 9) : runA c f r = mulD c (runA 0 f r) := by
  induction r generalizing c f with
  | nil => exact ((mulD_inv c (by omega)).2.2.1).symm
  | cons x r ih =>
    have hx := mv_le (p := f) (hr x (by simp))
    have hr' : ∀ y ∈ r, y ≤ 9 := fun y hy => hr y (by simp [hy])
    have h0 := runA_le (f := f + 1) hr' (show 0 ≤ 9 by omega)
    show runA (mulD c (mv x f)) (f + 1) r = mulD c (runA (mulD 0 (mv x f)) (f + 1) r)
    rw [ih hr' (mulD_le _ _ hx), ih hr' (mulD_le _ _ hx), (mulD_inv (mv x f) (by omega)).2.2.2, mulD_assoc c (by omega) _ (by omega) _ (by omega)]
/-- The motion of a text with one digit more. -/
theorem allD_snoc {l : List Nat} {d : Nat} (hl : ∀ x ∈ l, x ≤ 9) (hd : d ≤ 9) : allD (l ++ [d]) 0 = mulD d (allD l 1) := by
  rw [allD_run, allD_run, List.reverse_append]
  show runA (mulD 0 (mv d 0)) 1 l.reverse = _
  have e : mv d 0 = d := rfl
  rw [e, (mulD_inv d (by omega)).2.2.2, runA_mul (fun x hx => hl x (by simpa using hx)) hd]
theorem mulD_left : ∀ a, a < 10 → ∀ x, x < 10 → ∀ y, y < 10 → mulD a x = mulD a y → x = y := by decide +kernel
theorem mulD_right : ∀ a, a < 10 → ∀ x, x < 10 → ∀ y, y < 10 → mulD x a = mulD y a → x = y := by decide +kernel
theorem mvK_inj : ∀ k, k < 8 → ∀ x, x < 10 → ∀ y, y < 10 → mvK k x = mvK k y → x = y := by decide +kernel
theorem mvK_swap : ∀ k, k < 8 → ∀ x, x < 10 → ∀ y, y < 10 → mulD (mvK k x) (mvK ((k + 1) % 8) y) = mulD (mvK k y) (mvK ((k + 1) % 8) x) → x = y := by decide +kernel
theorem one_digit : ∀ p, p < 10 → ((List.range 10).filter fun d => decide (mulD d p = 0)).length = 1 := by decide +kernel
theorem runA_inj {a b f : Nat} {r : List Nat} (hr : ∀ x ∈ r, x ≤ 9) (ha : a ≤ 9) (hb : b ≤ 9) (h : runA a f r = runA b f r) : a = b := by
  rw [runA_mul hr ha, runA_mul hr hb] at h
  have h0 := runA_le (f := f) hr (show 0 ≤ 9 by omega)
  exact mulD_right _ (by omega) a (by omega) b (by omega) h
/-- One wrong digit turns the motion. -/
theorem allD_slip {p q : List Nat} {x y f : Nat} (h9 : ∀ z ∈ p ++ x :: q, z ≤ 9) (hy : y ≤ 9) (h : allD (p ++ x :: q) f = allD (p ++ y :: q) f) : x = y := by
  have hq : ∀ z ∈ q.reverse, z ≤ 9 := fun z hz => h9 z (by simp at hz; simp [hz])
  have hp : ∀ z ∈ p.reverse, z ≤ 9 := fun z hz => h9 z (by simp at hz; simp [hz])
  have hx : x ≤ 9 := h9 x (by simp)
  rw [allD_run, allD_run] at h
  simp only [List.reverse_append, List.reverse_cons, List.append_assoc, List.singleton_append] at h
  rw [runA_append, runA_append] at h
  have hg := runA_le (f := f) hq (show 0 ≤ 9 by omega)
  simp only [runA] at h
  have h2 := runA_inj hp (mulD_le _ _ (mv_le hx)) (mulD_le _ _ (mv_le hy)) h
  have mx := mv_le (p := f + q.reverse.length) hx
  have my := mv_le (p := f + q.reverse.length) hy
  have h3 := mulD_left _ (by omega) _ (by omega) _ (by omega) h2
  exact mvK_inj _ (Nat.mod_lt _ (by omega)) x (by omega) y (by omega) h3
/-- So do two neighbours that change places. -/
theorem allD_swap {p q : List Nat} {x y f : Nat} (h9 : ∀ z ∈ p ++ x :: y :: q, z ≤ 9) (h : allD (p ++ x :: y :: q) f = allD (p ++ y :: x :: q) f) : x = y := by
  have hq : ∀ z ∈ q.reverse, z ≤ 9 := fun z hz => h9 z (by simp at hz; simp [hz])
  have hp : ∀ z ∈ p.reverse, z ≤ 9 := fun z hz => h9 z (by simp at hz; simp [hz])
  have hx : x ≤ 9 := h9 x (by simp)
  have hy : y ≤ 9 := h9 y (by simp)
  rw [allD_run, allD_run] at h
  simp only [List.reverse_append, List.reverse_cons, List.append_assoc, List.cons_append, List.nil_append] at h
  rw [runA_append, runA_append] at h
  have hg := runA_le (f := f) hq (show 0 ≤ 9 by omega)
  simp only [runA] at h
  generalize f + q.reverse.length = k at *
  generalize runA 0 f q.reverse = g at *
  have a1 := mv_le (p := k) hx
  have a2 := mv_le (p := k) hy
  have b1 := mv_le (p := k + 1) hx
  have b2 := mv_le (p := k + 1) hy
  have h2 := runA_inj hp (mulD_le _ _ b1) (mulD_le _ _ b2) h
  rw [mulD_assoc g (by omega) _ (by omega) _ (by omega), mulD_assoc g (by omega) _ (by omega) _ (by omega)] at h2
  have c1 := mulD_le (mv y k) (mv x (k + 1)) b1
  have c2 := mulD_le (mv x k) (mv y (k + 1)) b2
  have h3 := mulD_left _ (by omega) _ (by omega) _ (by omega) h2
  have e : (k + 1) % 8 = (k % 8 + 1) % 8 := by omega
  unfold mv at h3
  rw [e] at h3
  exact (mvK_swap _ (Nat.mod_lt _ (by omega)) y (by omega) x (by omega) h3).symm
end Go.Proofs.YtakdjggpengbhaaDoor

/- Decimal digits of a number, and the number of decimal digits: plain. -/
import Derived.WalkKit
namespace Go.Proofs.YtakdjggpengbhaaDoor
/-- The decimal digits of a number, the first one first. -/
def dec (n : Nat) : List Nat := if n < 10 then [n] else dec (n / 10) ++ [n % 10]
termination_by n
decreasing_by omega
/-- The number that digits tell. -/
def val10 (l : List Nat) : Nat := l.foldl (fun n d => n * 10 + d) 0
theorem dec_small {n : Nat} (h : n < 10) : dec n = [n] := by rw [dec, if_pos h]
theorem dec_big {n : Nat} (h : ¬ n < 10) : dec n = dec (n / 10) ++ [n % 10] := by rw [dec, if_neg h]
theorem val10_snoc (l : List Nat) (d : Nat) : val10 (l ++ [d]) = val10 l * 10 + d := by simp [val10]
theorem val10_dec (n : Nat) : val10 (dec n) = n := by
  induction n using Nat.strongRecOn with
  | ind n ih =>
    by_cases h : n < 10
    · rw [dec_small h]; simp [val10]
    · rw [dec_big h, val10_snoc, ih (n / 10) (by omega)]; omega
theorem dec_le (n : Nat) : ∀ d ∈ dec n, d ≤ 9 := by
  induction n using Nat.strongRecOn with
  | ind n ih =>
    by_cases h : n < 10
    · rw [dec_small h]; intro d hd; simp at hd; omega
    · rw [dec_big h]
      intro d hd
      rcases List.mem_append.1 hd with h1 | h1
      · exact ih (n / 10) (by omega) d h1
      · simp at h1; omega
theorem dec_pos (n : Nat) : 0 < (dec n).length := by
  by_cases h : n < 10
  · rw [dec_small h]; simp
  · rw [dec_big h]; simp
theorem dec_len (n : Nat) : ∀ k, n < 10 ^ k → 0 < k → (dec n).length ≤ k := by
  induction n using Nat.strongRecOn with
  | ind n ih =>
    intro k hk h0
    by_cases h : n < 10
    · rw [dec_small h]; simp; omega
    · rw [dec_big h]
      obtain ⟨j, rfl⟩ : ∃ j, k = j + 1 := ⟨k - 1, by omega⟩
      rw [Nat.pow_succ] at hk
      have hj : 0 < j := by
        rcases Nat.eq_zero_or_pos j with rfl | hj
        · simp at hk; omega
        · exact hj
      have := ih (n / 10) (by omega) j (by omega) hj
      simp; omega
/-- The first digit is no nought, but for the number nought. -/
theorem dec_head (n : Nat) (h : 0 < n) : ∃ d l, dec n = d :: l ∧ 1 ≤ d := by
  induction n using Nat.strongRecOn with
  | ind n ih =>
    by_cases h1 : n < 10
    · exact ⟨n, [], dec_small h1, by omega⟩
    · obtain ⟨d, l, hd, h2⟩ := ih (n / 10) (by omega) (by omega)
      exact ⟨d, l ++ [n % 10], by rw [dec_big h1, hd]; rfl, h2⟩
theorem val10_from (l : List Nat) : ∀ a : Nat, l.foldl (fun n d => n * 10 + d) a = a * 10 ^ l.length + val10 l := by
  induction l with
  | nil => intro a; simp [val10]
  | cons d l ih =>
    intro a
    have h2 : val10 (d :: l) = d * 10 ^ l.length + val10 l := by
      show List.foldl _ _ l = _
      rw [ih (0 * 10 + d)]; simp
    rw [List.foldl_cons, ih, h2, List.length_cons, Nat.pow_succ, Nat.add_mul, Nat.mul_assoc, Nat.mul_comm 10, Nat.add_assoc]
theorem val10_cons (d : Nat) (l : List Nat) : val10 (d :: l) = d * 10 ^ l.length + val10 l := by
  show List.foldl _ _ l = _
  rw [val10_from l (0 * 10 + d)]; simp
theorem val10_append (a b : List Nat) : val10 (a ++ b) = val10 a * 10 ^ b.length + val10 b := by
  show List.foldl _ _ (a ++ b) = _
  rw [List.foldl_append]
  exact val10_from b _
theorem val10_lt {l : List Nat} (h : ∀ d ∈ l, d ≤ 9) : val10 l < 10 ^ l.length := by
  induction l with
  | nil => simp [val10]
  | cons d l ih =>
    have h1 := ih (fun x hx => h x (List.mem_cons_of_mem _ hx))
    have h2 := h d (List.mem_cons_self ..)
    rw [val10_cons, List.length_cons, Nat.pow_succ]
    have : d * 10 ^ l.length ≤ 9 * 10 ^ l.length := Nat.mul_le_mul_right _ h2
    omega
theorem val10_inj : ∀ {a b : List Nat}, a.length = b.length → (∀ d ∈ a, d ≤ 9) → (∀ d ∈ b, d ≤ 9) → val10 a = val10 b → a = b
  | [], [], _, _, _, _ => rfl
  | [], _ :: _, h, _, _, _ => by simp at h
  | _ :: _, [], h, _, _, _ => by simp at h
  | x :: a, y :: b, h, ha, hb, hv => by
    have hl : a.length = b.length := by simpa using h
    have h1 := val10_lt (l := a) (fun d hd => ha d (List.mem_cons_of_mem _ hd))
    have h2 := val10_lt (l := b) (fun d hd => hb d (List.mem_cons_of_mem _ hd))
    rw [val10_cons, val10_cons, hl] at hv
    rw [hl] at h1
    have hxy : x = y := by
      rcases Nat.lt_trichotomy x y with h3 | h3 | h3
      · exfalso
        have : (x + 1) * 10 ^ b.length ≤ y * 10 ^ b.length := Nat.mul_le_mul_right _ h3
        rw [Nat.add_mul, Nat.one_mul] at this
        omega
      · exact h3
      · exfalso
        have : (y + 1) * 10 ^ b.length ≤ x * 10 ^ b.length := Nat.mul_le_mul_right _ h3
        rw [Nat.add_mul, Nat.one_mul] at this
        omega
    subst hxy
    rw [val10_inj hl (fun d hd => ha d (List.mem_cons_of_mem _ hd)) (fun d hd => hb d (List.mem_cons_of_mem _ hd)) (by omega)]
theorem val10_zeros (k : Nat) (l : List Nat) : val10 (List.replicate k 0 ++ l) = val10 l := by
  induction k with
  | zero => simp
  | succ k ih => rw [List.replicate_succ, List.cons_append, val10_cons, ih]; omega
/-- A number's digits, filled up with noughts at the head. -/
def pad (k n : Nat) : List Nat := List.replicate (k - (dec n).length) 0 ++ dec n
theorem pad_len {k n : Nat} (h : n < 10 ^ k) (h0 : 0 < k) : (pad k n).length = k := by
  have := dec_len n k h h0
  unfold pad; simp; omega
theorem pad_le (k n : Nat) : ∀ d ∈ pad k n, d ≤ 9 := by
  intro d hd
  rcases List.mem_append.1 hd with h | h
  · have := List.eq_of_mem_replicate h; omega
  · exact dec_le n d h
theorem val10_pad (k n : Nat) : val10 (pad k n) = n := by unfold pad; rw [val10_zeros, val10_dec]
theorem pad_val {k : Nat} {l : List Nat} (hl : l.length = k) (h0 : 0 < k) (h : ∀ d ∈ l, d ≤ 9) : pad k (val10 l) = l := by
  have h1 := val10_lt h
  rw [hl] at h1
  exact val10_inj (by rw [pad_len h1 h0, hl]) (pad_le _ _) h (val10_pad _ _)
/-- Digits without noughts at the head are those of their number. -/
theorem dec_val {l : List Nat} (h0 : 0 < l.length) (h : ∀ d ∈ l, d ≤ 9) (hh : l.length = 1 ∨ l[0]? ≠ some 0) : dec (val10 l) = l := by
  have h1 := val10_lt h
  have hle := dec_len (val10 l) l.length h1 h0
  refine val10_inj ?_ (dec_le _) h (val10_dec _)
  rcases hh with hh | hh
  · have := dec_pos (val10 l); omega
  · cases l with
    | nil => simp at h0
    | cons d t =>
      have hd : 1 ≤ d := by
        rcases Nat.eq_zero_or_pos d with rfl | h2
        · simp at hh
        · exact h2
      rcases Nat.lt_or_ge (dec (val10 (d :: t))).length (d :: t).length with h2 | h2
      · exfalso
        have h3 := val10_lt (dec_le (val10 (d :: t)))
        rw [val10_dec, val10_cons] at h3
        have h4 : 10 ^ (dec (d * 10 ^ t.length + val10 t)).length ≤ 10 ^ t.length := Nat.pow_le_pow_right (by omega) (by rw [val10_cons] at h2; simp at h2; omega)
        have : 1 * 10 ^ t.length ≤ d * 10 ^ t.length := Nat.mul_le_mul_right _ hd
        omega
      · omega
end Go.Proofs.YtakdjggpengbhaaDoor

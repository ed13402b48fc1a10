/- check: what its functions compute, on texts of digits. -/
import Derived.Test.YtlkigihghpcglaaPicked
import Derived.Test.YtlkigihghpcglaaFit
import Derived.Test.YtlkigihghpcglaaStr
namespace Go.Proofs.Ytlkigihghpcglaa
open Go.RowKit

/-- The rest by 97. -/
def rest97 (l : List Nat) : Nat := l.foldl (fun n d => (n * 10 + d) % 97) 0
theorem rest97_snoc (l : List Nat) (d : Nat) : rest97 (l ++ [d]) = (rest97 l * 10 + d) % 97 := by simp [rest97]
theorem rest97_lt (l : List Nat) : rest97 l < 97 := by
  rcases List.eq_nil_or_concat l with rfl | ⟨l, d, rfl⟩
  · decide
  · rw [List.concat_eq_append, rest97_snoc]; omega
theorem rest97_from (l : List Nat) : ∀ {n m : Nat}, n < 97 → m < 97 → l.foldl (fun n d => (n * 10 + d) % 97) n = l.foldl (fun n d => (n * 10 + d) % 97) m → n = m := by
  induction l with
  | nil => intro n m _ _ h; exact h
  | cons d l ih =>
    intro n m hn hm h
    have := ih (Nat.mod_lt _ (by omega)) (Nat.mod_lt _ (by omega)) h
    omega
theorem rest97_tail {a b q : List Nat} (h : rest97 (a ++ q) = rest97 (b ++ q)) : rest97 a = rest97 b := by
  unfold rest97 at h
  rw [List.foldl_append, List.foldl_append] at h
  exact rest97_from q (rest97_lt a) (rest97_lt b) h
/-- One wrong digit turns the rest. -/
theorem rest97_slip {p q : List Nat} {x d : Nat} (hx : x ≤ 9) (hd : d ≤ 9) (h : rest97 (p ++ x :: q) = rest97 (p ++ d :: q)) : x = d := by
  have h1 : rest97 ((p ++ [x]) ++ q) = rest97 ((p ++ [d]) ++ q) := by simpa using h
  have h2 := rest97_tail h1
  rw [rest97_snoc, rest97_snoc] at h2
  omega
/-- So do two neighbours that change places. -/
theorem rest97_swap1 {p q : List Nat} {x y : Nat} (hx : x ≤ 9) (hy : y ≤ 9) (h : rest97 (p ++ x :: y :: q) = rest97 (p ++ y :: x :: q)) : x = y := by
  have h1 : rest97 (((p ++ [x]) ++ [y]) ++ q) = rest97 (((p ++ [y]) ++ [x]) ++ q) := by simpa using h
  have h2 := rest97_tail h1
  simp only [rest97_snoc] at h2
  omega
theorem rest97_swap2 {p q : List Nat} {x m y : Nat} (hx : x ≤ 9) (hy : y ≤ 9) (h : rest97 (p ++ x :: m :: y :: q) = rest97 (p ++ y :: m :: x :: q)) : x = y := by
  have h1 : rest97 ((((p ++ [x]) ++ [m]) ++ [y]) ++ q) = rest97 ((((p ++ [y]) ++ [m]) ++ [x]) ++ q) := by simpa using h
  have h2 := rest97_tail h1
  simp only [rest97_snoc] at h2
  omega
/-- k noughts more. -/
def p10 : Nat → Nat → Nat
  | 0, a => a
  | k + 1, a => p10 k a * 10 % 97
theorem p10_lt {k a : Nat} (h : a < 97) : p10 k a < 97 := by
  cases k with
  | zero => exact h
  | succ k => exact Nat.mod_lt _ (by omega)
theorem rest97_append (a : List Nat) : ∀ k (b : List Nat), b.length = k → rest97 (a ++ b) = (p10 k (rest97 a) + rest97 b) % 97
  | 0, b, h => by
    have hb := List.eq_nil_of_length_eq_zero h
    subst hb
    have := rest97_lt a
    simp [p10, rest97] at *
    omega
  | k + 1, b, h => by
    rcases List.eq_nil_or_concat b with rfl | ⟨b, d, rfl⟩
    · simp at h
    · rw [List.concat_eq_append] at *
      have ih := rest97_append a k b (by simp at h; exact h)
      rw [← List.append_assoc, rest97_snoc, rest97_snoc, ih, p10]
      omega
theorem take_snoc {l : List Nat} {k : Nat} (h : k < l.length) : l.take (k + 1) = l.take k ++ [l[k]] := by
  rw [List.take_succ_eq_append_getElem h]


end Go.Proofs.Ytlkigihghpcglaa

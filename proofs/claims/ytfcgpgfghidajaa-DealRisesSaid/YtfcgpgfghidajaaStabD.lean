/- A stable sort by blocks: plain. -/
import Derived.Test.YtfcgpgfghidajaaInsD
namespace Go.Proofs.Ytfcgpgfghidajaa
open Go.RowKit Go.Sort
set_option linter.unusedVariables false
/-- A run: sorted, and it holds just its own numbers. -/
structure Run (key : Nat → Nat) (lo hi : Nat) (d : Array Nat) : Prop where
  srt : Srt key lo hi d
  own : ∀ i, lo ≤ i → i < hi → lo ≤ d[i]! ∧ d[i]! < hi
theorem Run.none {key : Nat → Nat} {lo hi : Nat} {d : Array Nat} (h : hi ≤ lo) : Run key lo hi d := ⟨fun i j h1 h2 h3 => by omega, fun i h1 h2 => by omega⟩
theorem Run.other {key : Nat → Nat} {lo hi a b : Nat} {d d' : Array Nat} (h : Run key lo hi d) (hp : PermIn a b d d') (hd : hi ≤ a ∨ b ≤ lo) : Run key lo hi d' := by
  have e : ∀ i, lo ≤ i → i < hi → d'[i]! = d[i]! := fun i h1 h2 => hp.2.1 i (by omega)
  refine ⟨fun i j h1 h2 h3 => ?_, fun i h1 h2 => ?_⟩
  · rw [e i h1 (by omega), e j (by omega) h3]; exact h.srt i j h1 h2 h3
  · rw [e i h1 h2]; exact h.own i h1 h2
theorem Run.low {key : Nat → Nat} {a m b : Nat} {d : Array Nat} (h : Run key a m d) (k : Run key m b d) : Low a m b d := fun i j h1 h2 h3 h4 => by
  have := (h.own i h1 h2).2
  have := (k.own j h3 h4).1
  omega
theorem Run.merged {key : Nat → Nat} {a m b : Nat} {d d' : Array Nat} (hb : b ≤ d.size) (h : Run key a m d) (k : Run key m b d) (ham : a ≤ m) (hmb : m ≤ b) (hp : PermIn a b d d') (hs : Srt key a b d') : Run key a b d' :=
  ⟨hs, permIn_all d d' a b (fun v => a ≤ v ∧ v < b) hb hp (fun i h1 h2 => by
    by_cases e : i < m
    · have := h.own i h1 e; omega
    · have := k.own i (by omega) h2; omega)⟩
/-- Runs of bs numbers each. -/
def Runs (key : Nat → Nat) (n bs : Nat) (d : Array Nat) : Prop := ∀ k, Run key (k * bs) (min ((k + 1) * bs) n) d
/-- The first 2 q of them are merged. -/
def Half (key : Nat → Nat) (n bs q : Nat) (d : Array Nat) : Prop := (∀ k, k < q → Run key (k * (2 * bs)) ((k + 1) * (2 * bs)) d) ∧ ∀ k, 2 * q ≤ k → Run key (k * bs) (min ((k + 1) * bs) n) d
theorem Runs.half {key : Nat → Nat} {n bs : Nat} {d : Array Nat} (h : Runs key n bs d) : Half key n bs 0 d := ⟨fun k hk => by omega, fun k _ => h k⟩
theorem dbl (q bs : Nat) : 2 * q * bs = q * (2 * bs) ∧ (2 * q + 1) * bs = q * (2 * bs) + bs ∧ (2 * q + 1 + 1) * bs = q * (2 * bs) + 2 * bs ∧ (q + 1) * (2 * bs) = q * (2 * bs) + 2 * bs := by
  have e : 2 * q * bs = q * (2 * bs) := by rw [Nat.mul_comm 2 q, Nat.mul_assoc]
  refine ⟨e, ?_, ?_, ?_⟩
  · rw [Nat.add_mul, e, Nat.one_mul]
  · rw [Nat.add_mul, Nat.add_mul, e, Nat.one_mul]; omega
  · rw [Nat.add_mul, Nat.one_mul]
theorem mul_le_of {k q bs : Nat} (h : k < q) : (k + 1) * bs ≤ q * bs := Nat.mul_le_mul_right _ h
/-- The two runs that come next. -/
theorem Half.two {key : Nat → Nat} {n bs q : Nat} {d : Array Nat} (h : Half key n bs q d) : Run key (q * (2 * bs)) (min (q * (2 * bs) + bs) n) d ∧ Run key (q * (2 * bs) + bs) (min (q * (2 * bs) + 2 * bs) n) d := by
  obtain ⟨e1, e2, e3, e4⟩ := dbl q bs
  have h1 := h.2 (2 * q) (Nat.le_refl _)
  have h2 := h.2 (2 * q + 1) (by omega)
  rw [e1, e2] at h1
  rw [e2, e3] at h2
  exact ⟨h1, h2⟩
theorem Half.step {key : Nat → Nat} {n bs q : Nat} {d d' : Array Nat} (h : Half key n bs q d) (hp : PermIn (q * (2 * bs)) (q * (2 * bs) + 2 * bs) d d') (hr : Run key (q * (2 * bs)) (q * (2 * bs) + 2 * bs) d') : Half key n bs (q + 1) d' := by
  obtain ⟨e1, e2, e3, e4⟩ := dbl q bs
  refine ⟨fun k hk => ?_, fun k hk => ?_⟩
  · by_cases e : k = q
    · subst e; rw [e4]; exact hr
    · exact (h.1 k (by omega)).other hp (.inl (mul_le_of (by omega)))
  · refine (h.2 k (by omega)).other hp (.inr ?_)
    have := mul_le_of (bs := bs) (show 2 * q + 1 < k by omega)
    omega
theorem Half.last {key : Nat → Nat} {n bs q : Nat} {d d' : Array Nat} (h : Half key n bs q d) (hqn : q * (2 * bs) ≤ n) (hn : n < q * (2 * bs) + 2 * bs) (hp : PermIn (q * (2 * bs)) n d d') (hr : Run key (q * (2 * bs)) n d') : Runs key n (2 * bs) d' := by
  obtain ⟨e1, e2, e3, e4⟩ := dbl q bs
  intro k
  by_cases e : k < q
  · have h1 := (h.1 k e).other hp (.inl (mul_le_of e))
    have h2 := mul_le_of (bs := 2 * bs) e
    rw [Nat.min_eq_left (by omega)]
    exact h1
  · by_cases e5 : k = q
    · subst e5
      rw [e4, Nat.min_eq_right (by omega)]
      exact hr
    · have := mul_le_of (bs := 2 * bs) (show q < k by omega)
      exact Run.none (by omega)
end Go.Proofs.Ytfcgpgfghidajaa

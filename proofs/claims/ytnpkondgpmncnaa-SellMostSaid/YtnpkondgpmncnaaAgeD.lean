/- Debts that grow month by month: plain. -/
import Derived.Test.YtnpkondgpmncnaaDebt
namespace Go.Proofs.Ytnpkondgpmncnaa
/-- One month. -/
def month1 (b x : Nat) : Nat := min (x + x * b / 10000) 1000000000
/-- So many months. -/
def grow (b : Nat) : Nat → Nat → Nat
  | 0, x => x
  | n + 1, x => month1 b (grow b n x)
theorem grow_add (b m n x : Nat) : grow b (m + n) x = grow b n (grow b m x) := by
  induction n with
  | zero => rfl
  | succ n ih => rw [← Nat.add_assoc]; show month1 b (grow b (m + n) x) = month1 b (grow b n (grow b m x)); rw [ih]
theorem month1_bd {b x : Nat} (h : x ≤ 1000000000) : x ≤ month1 b x ∧ month1 b x ≤ 1000000000 := by
  unfold month1; omega
theorem grow_bd {b x : Nat} (h : x ≤ 1000000000) (n : Nat) : x ≤ grow b n x ∧ grow b n x ≤ 1000000000 := by
  induction n with
  | zero => exact ⟨Nat.le_refl _, h⟩
  | succ n ih =>
    have := month1_bd (b := b) ih.2
    show x ≤ month1 b (grow b n x) ∧ month1 b (grow b n x) ≤ 1000000000
    omega
/-- Where a month adds nothing, no month does. -/
theorem grow_stop {b x : Nat} (h : x ≤ 1000000000) (h0 : x * b / 10000 = 0) (n : Nat) : grow b n x = x := by
  induction n with
  | zero => rfl
  | succ n ih =>
    show month1 b (grow b n x) = x
    rw [ih]; unfold month1; rw [h0]; omega
/-- The debts behind so many months. -/
def aged (n : Nat) (l : List (Nat × Nat)) : List (Nat × Nat) := l.map fun (p : Nat × Nat) => (grow p.2 n p.1, p.2)
theorem aged_add (m n : Nat) (l : List (Nat × Nat)) : aged n (aged m l) = aged (m + n) l := by
  simp [aged, grow_add]
theorem aged_ok {l : List (Nat × Nat)} (h : DOk l) (n : Nat) : DOk (aged n l) := by
  refine ⟨by simpa [aged] using h.1, fun p hp => ?_⟩
  obtain ⟨q, hq, rfl⟩ := List.mem_map.1 hp
  exact ⟨(grow_bd (h.2 q hq).1 n).2, (h.2 q hq).2⟩
end Go.Proofs.Ytnpkondgpmncnaa

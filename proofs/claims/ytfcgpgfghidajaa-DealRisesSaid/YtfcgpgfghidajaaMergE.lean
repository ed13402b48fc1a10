/- Merging two runs in place: what the last steps want, plain. -/
import Derived.Test.YtfcgpgfghidajaaMergD
namespace Go.Proofs.Ytfcgpgfghidajaa
open Go.RowKit Go.Sort
set_option linter.unusedVariables false
theorem Srt.keep {key : Nat → Nat} {a mid x y : Nat} {d d2 : Array Nat} (p : PermIn a mid d d2) (hx : mid ≤ x) (h : Srt key x y d) : Srt key x y d2 := fun i j h1 h2 h3 => by
  rw [p.2.1 i (by omega), p.2.1 j (by omega)]; exact h i j h1 h2 h3
theorem Low.keep {a mid x m y : Nat} {d d2 : Array Nat} (p : PermIn a mid d d2) (hx : mid ≤ x) (hm : x ≤ m) (h : Low x m y d) : Low x m y d2 := fun i j h1 h2 h3 h4 => by
  rw [p.2.1 i (by omega), p.2.1 j (by omega)]; exact h i j h1 h2 h3 h4
theorem rot_nil {s m e : Nat} {d : Array Nat} (h : s = m ∨ e = m) : Rot s m e d d := by
  intro x hx
  rcases h with h | h <;> subst h
  · split
    · congr 1; omega
    · split
      · exfalso; omega
      · rfl
  · split
    · exfalso; omega
    · split
      · congr 1; omega
      · rfl
theorem Srt.nil {key : Nat → Nat} {a b : Nat} {d : Array Nat} (h : b ≤ a) : Srt key a b d := fun i j h1 h2 h3 => by omega
/-- One of the two halves is empty. -/
theorem Srt.one {key : Nat → Nat} {a s b : Nat} {d : Array Nat} (h : ¬ (a < s ∧ s < b)) (h1 : a ≤ s) (h2 : s ≤ b) (k1 : Srt key a s d) (k2 : Srt key s b d) : Srt key a b d := by
  by_cases e : a = s
  · subst e; exact k2
  · obtain rfl : s = b := by omega
    exact k1
/-- Where the search stands: the bounds. -/
def Cutb (a m b mid s0 r0 : Nat) : Prop := mid = (a + b) / 2 ∧ s0 = (if mid < m then mid + m - b else a) ∧ r0 = (if mid < m then mid else m)
theorem Cutb.bounds {a m b mid s0 r0 : Nat} (h : Cutb a m b mid s0 r0) (ham : a < m) (hmb : m < b) : a ≤ s0 ∧ r0 ≤ m ∧ r0 ≤ mid ∧ mid + m ≤ b + s0 ∧ s0 ≤ r0 ∧ a < mid ∧ mid < b := by
  obtain ⟨h1, h2, h3⟩ := h
  split at h2 <;> rename_i e
  · rw [if_pos e] at h3; omega
  · rw [if_neg e] at h3; omega
end Go.Proofs.Ytfcgpgfghidajaa

/- Exchanging and rotating places of an array: plain. -/
import Derived.Test.YtfcgpgfghidajaaDealP
import Derived.Sort.LotA
namespace Go.Proofs.Ytfcgpgfghidajaa
open Go.RowKit Go.Sort
set_option linter.unusedVariables false
theorem swp_at (d : Array Nat) {i j : Nat} (hi : i < d.size) (hj : j < d.size) (k : Nat) : (swp d i j)[k]! = if k = j then d[i]! else if k = i then d[j]! else d[k]! := by
  by_cases h1 : k = j
  · subst h1; rw [if_pos rfl]; exact swp_right d i k hj
  · rw [if_neg h1]
    by_cases h2 : k = i
    · subst h2; rw [if_pos rfl]; exact swp_left d k j hi h1
    · rw [if_neg h2]; exact swp_other d i j k h2 h1
/-- Two blocks of n places have been exchanged, k of them up to now. -/
def Swd (a b k : Nat) (d d' : Array Nat) : Prop := ∀ x, x < d.size → d'[x]! = if a ≤ x ∧ x < a + k then d[x - a + b]! else if b ≤ x ∧ x < b + k then d[x - b + a]! else d[x]!
theorem swd_zero (a b : Nat) (d : Array Nat) : Swd a b 0 d d := fun x _ => by rw [if_neg (by omega), if_neg (by omega)]
theorem Swd.step {a b k n : Nat} {d d' : Array Nat} (h : Swd a b k d d') (hs : d'.size = d.size) (hab : a + n ≤ b) (hk : k < n) (hb : b + n ≤ d.size) : Swd a b (k + 1) d (swp d' (a + k) (b + k)) := by
  intro x hx
  rw [swp_at d' (by omega) (by omega)]
  have h1 := h (a + k) (by omega)
  have h2 := h (b + k) (by omega)
  rw [if_neg (by omega), if_neg (by omega)] at h1
  rw [if_neg (by omega), if_neg (by omega)] at h2
  by_cases e1 : x = b + k
  · rw [if_pos e1, if_neg (by omega), if_pos (by omega), h1]
    congr 1; omega
  · rw [if_neg e1]
    by_cases e2 : x = a + k
    · rw [if_pos e2, if_pos (by omega), h2]
      congr 1; omega
    · rw [if_neg e2, h x hx]
      by_cases e3 : a ≤ x ∧ x < a + k
      · rw [if_pos e3, if_pos (by omega)]
      · rw [if_neg e3]
        by_cases e4 : b ≤ x ∧ x < b + k
        · rw [if_pos e4, if_neg (by omega), if_pos (by omega)]
        · rw [if_neg e4, if_neg (by omega), if_neg (by omega)]
/-- [a, m) and [m, b) have changed places. -/
def Rot (a m b : Nat) (d d' : Array Nat) : Prop := ∀ x, x < d.size → d'[x]! = if a ≤ x ∧ x < a + (b - m) then d[x + (m - a)]! else if a + (b - m) ≤ x ∧ x < b then d[x - (b - m)]! else d[x]!
/-- Equal blocks. -/
theorem rot_eq {m i : Nat} {d d' : Array Nat} (hi : i ≤ m) (h : Swd (m - i) m i d d') : Rot (m - i) m (m + i) d d' := by
  intro x hx
  rw [h x hx]
  repeat' split
  all_goals first | rfl | (congr 1; omega) | (exfalso; omega)
/-- The left block is the longer one. -/
theorem rot_left {m i j : Nat} {d dk d' : Array Nat} (hs : dk.size = d.size) (him : i ≤ m) (hij : j < i) (hb : m + j ≤ d.size) (h : Swd (m - i) m j d dk) (k : Rot (m - (i - j)) m (m + j) dk d') : Rot (m - i) m (m + j) d d' := by
  intro x hx
  rw [k x (by omega)]
  split
  · rw [h _ (by omega)]
    repeat' split
    all_goals first | rfl | (congr 1; omega) | (exfalso; omega)
  · split
    · rw [h _ (by omega)]
      repeat' split
      all_goals first | rfl | (congr 1; omega) | (exfalso; omega)
    · rw [h _ (by omega)]
      repeat' split
      all_goals first | rfl | (congr 1; omega) | (exfalso; omega)
/-- The right block is the longer one. -/
theorem rot_right {m i j : Nat} {d dk d' : Array Nat} (hs : dk.size = d.size) (him : i ≤ m) (hij : i < j) (hb : m + j ≤ d.size) (h : Swd (m - i) (m + j - i) i d dk) (k : Rot (m - i) m (m + (j - i)) dk d') : Rot (m - i) m (m + j) d d' := by
  intro x hx
  rw [k x (by omega)]
  split
  · rw [h _ (by omega)]
    repeat' split
    all_goals first | rfl | (congr 1; omega) | (exfalso; omega)
  · split
    · rw [h _ (by omega)]
      repeat' split
      all_goals first | rfl | (congr 1; omega) | (exfalso; omega)
    · rw [h _ (by omega)]
      repeat' split
      all_goals first | rfl | (congr 1; omega) | (exfalso; omega)
/-- One place goes up. -/
def Up (a k : Nat) (d d' : Array Nat) : Prop := ∀ x, x < d.size → d'[x]! = if a ≤ x ∧ x < k then d[x + 1]! else if x = k then d[a]! else d[x]!
theorem up_zero (a : Nat) (d : Array Nat) : Up a a d d := fun x _ => by
  rw [if_neg (by omega)]
  split
  · rename_i h; rw [h]
  · rfl
theorem Up.step {a k : Nat} {d d' : Array Nat} (h : Up a k d d') (hs : d'.size = d.size) (hak : a ≤ k) (hk : k + 1 < d.size) : Up a (k + 1) d (swp d' k (k + 1)) := by
  intro x hx
  rw [swp_at d' (by omega) (by omega), h k (by omega), h (k + 1) (by omega), h x hx]
  repeat' split
  all_goals first | rfl | (congr 1; omega) | (exfalso; omega)
/-- One place goes down. -/
def Dn (m k : Nat) (d d' : Array Nat) : Prop := ∀ x, x < d.size → d'[x]! = if k < x ∧ x ≤ m then d[x - 1]! else if x = k then d[m]! else d[x]!
theorem dn_zero (m : Nat) (d : Array Nat) : Dn m m d d := fun x _ => by
  rw [if_neg (by omega)]
  split
  · rename_i h; rw [h]
  · rfl
theorem Dn.step {m k : Nat} {d d' : Array Nat} (h : Dn m (k + 1) d d') (hs : d'.size = d.size) (hkm : k + 1 ≤ m) (hm : m < d.size) : Dn m k d (swp d' (k + 1) k) := by
  intro x hx
  rw [swp_at d' (by omega) (by omega), h k (by omega), h (k + 1) (by omega), h x hx]
  repeat' split
  all_goals first | rfl | (congr 1; omega) | (exfalso; omega)
end Go.Proofs.Ytfcgpgfghidajaa

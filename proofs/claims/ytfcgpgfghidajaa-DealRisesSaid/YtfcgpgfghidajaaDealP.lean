/- Dealing by largest remainders: plain. -/
import Derived.Test.YtfcgpgfghidajaaPicked
namespace Go.Proofs.Ytfcgpgfghidajaa
open Go.RowKit
set_option linter.unusedVariables false
/-- A share, rounded down; what is cut off. -/
def shr (t all w : Nat) : Nat := t * w / all
def rem' (t all w : Nat) : Nat := t * w % all
theorem shr_rem (t all w : Nat) : all * shr t all w + rem' t all w = t * w := Nat.div_add_mod _ _
theorem sum_shr (t all : Nat) (l : List Nat) : all * (l.map (shr t all)).sum + (l.map (rem' t all)).sum = t * l.sum := by
  induction l with
  | nil => simp
  | cons a l ih =>
    have := shr_rem t all a
    simp only [List.map_cons, List.sum_cons, Nat.mul_add]
    omega
theorem sum_rem {t all : Nat} (ha : 0 < all) (l : List Nat) : (l.map (rem' t all)).sum ≤ (l.countP fun w => 0 < rem' t all w) * (all - 1) := by
  induction l with
  | nil => simp
  | cons a l ih =>
    have h : rem' t all a < all := Nat.mod_lt _ ha
    simp only [List.map_cons, List.sum_cons, List.countP_cons]
    by_cases h0 : 0 < rem' t all a
    · simp only [h0, decide_true, if_true]
      rw [Nat.add_mul, Nat.one_mul]
      omega
    · simp only [h0, decide_false]
      have : rem' t all a = 0 := by omega
      rw [this]
      simpa using ih
/-- What is left to deal out. -/
theorem left_law {t : Nat} {l : List Nat} (ha : 0 < l.sum) : ∃ left, t = (l.map (shr t l.sum)).sum + left ∧ left ≤ (l.countP fun w => 0 < rem' t l.sum w) := by
  have h1 := sum_shr t l.sum l
  have h2 := sum_rem (t := t) ha l
  have hle : (l.map (shr t l.sum)).sum ≤ t := by
    have : l.sum * (l.map (shr t l.sum)).sum ≤ l.sum * t := by rw [Nat.mul_comm l.sum t]; omega
    exact Nat.le_of_mul_le_mul_left this ha
  refine ⟨t - (l.map (shr t l.sum)).sum, by omega, ?_⟩
  obtain ⟨x, hx⟩ : ∃ x, t = (l.map (shr t l.sum)).sum + x := ⟨t - (l.map (shr t l.sum)).sum, by omega⟩
  have hs : (l.map (rem' t l.sum)).sum = l.sum * x := by
    have e : l.sum * t = l.sum * ((l.map (shr t l.sum)).sum + x) := by rw [← hx]
    rw [Nat.mul_add] at e
    have e2 : t * l.sum = l.sum * t := Nat.mul_comm _ _
    omega
  have hx2 : t - (l.map (shr t l.sum)).sum = x := by omega
  rw [hx2]
  rw [hs] at h2
  by_cases hc : x ≤ l.countP fun w => 0 < rem' t l.sum w
  · exact hc
  · exfalso
    have h3 : (l.countP fun w => 0 < rem' t l.sum w) * (l.sum - 1) ≤ (x - 1) * l.sum := Nat.mul_le_mul (by omega) (by omega)
    have h4 : (x - 1) * l.sum + l.sum = l.sum * x := by
      have : x - 1 + 1 = x := by omega
      rw [← Nat.succ_mul, Nat.succ_eq_add_one, this, Nat.mul_comm]
    omega
/-- Who comes first: who is cut more; of alike ones the first. -/
def Fst (key : Nat → Nat) (i j : Nat) : Prop := key j < key i ∨ (key i = key j ∧ i < j)
theorem Fst.asymm {key : Nat → Nat} {i j : Nat} (h : Fst key i j) (k : Fst key j i) : False := by unfold Fst at *; omega
/-- An order of the places: each once, sorted. -/
structure Ord (key : Nat → Nat) (n : Nat) (o : List Nat) : Prop where
  perm : o.Perm (List.range n)
  srt : o.Pairwise (Fst key)
theorem Ord.mem {key : Nat → Nat} {n : Nat} {o : List Nat} (h : Ord key n o) {x : Nat} (hx : x < n) : x ∈ o := by
  have hp := h.perm
  exact hp.mem_iff.2 (List.mem_range.2 hx)
/-- Who is among the first k comes ahead of who is not. -/
theorem Ord.first {key : Nat → Nat} {n : Nat} {o : List Nat} (h : Ord key n o) {k i j : Nat} (hi : i ∈ o.take k) (hj : j < n) (hj2 : j ∉ o.take k) : Fst key i j := by
  have hm := h.mem hj
  rw [← List.take_append_drop k o] at hm
  have hs := h.srt
  rw [← List.take_append_drop k o, List.pairwise_append] at hs
  rcases List.mem_append.1 hm with hm | hm
  · exact absurd hm hj2
  · exact hs.2.2 i hi j hm
/-- Among the first there is nobody whose key is 0, if there are enough others. -/
theorem Ord.pos {key : Nat → Nat} {n : Nat} {o : List Nat} (h : Ord key n o) {k i : Nat} (hk : k ≤ (List.range n).countP fun x => 0 < key x) (hi : i ∈ o.take k) : 0 < key i := by
  by_cases h0 : 0 < key i
  · exact h0
  · exfalso
    have hz : key i = 0 := by omega
    have hp := h.perm
    rw [← hp.countP_eq] at hk
    have hc : o.countP (fun x => 0 < key x) ≤ ((o.take k).countP fun x => 0 < key x) := by
      conv => lhs; rw [← List.take_append_drop k o]
      rw [List.countP_append]
      have hd : ((o.drop k).countP fun x => 0 < key x) = 0 := by
        rw [List.countP_eq_zero]
        intro x hx
        have hs := h.srt
        rw [← List.take_append_drop k o, List.pairwise_append] at hs
        have := hs.2.2 i hi x hx
        unfold Fst at this
        simp; omega
      omega
    have hlt : ((o.take k).countP fun x => 0 < key x) < (o.take k).length := by
      have h1 := List.countP_le_length (p := fun x => decide (0 < key x)) (l := o.take k)
      have h2 : ((o.take k).countP fun x => decide (0 < key x)) ≠ (o.take k).length := by
        intro e
        rw [List.countP_eq_length] at e
        have := e i hi
        simp [hz] at this
      omega
    have := List.length_take_le k o
    omega
end Go.Proofs.Ytfcgpgfghidajaa

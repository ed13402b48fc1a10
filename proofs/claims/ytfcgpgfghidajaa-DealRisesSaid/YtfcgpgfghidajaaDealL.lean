/- The laws of a deal: plain. -/
import Derived.Test.YtfcgpgfghidajaaDealP
namespace Go.Proofs.Ytfcgpgfghidajaa
open Go.RowKit
set_option linter.unusedVariables false
/-- What place i gets. -/
def outF (t all left : Nat) (l o : List Nat) (i : Nat) : Nat := shr t all (l.getD i 0) + if i ∈ o.take left then 1 else 0
def keyF (t all : Nat) (l : List Nat) (i : Nat) : Nat := rem' t all (l.getD i 0)
theorem range_map (l : List Nat) (f : Nat → Nat) : (List.range l.length).map (fun i => f (l.getD i 0)) = l.map f := by
  apply List.ext_getElem (by simp)
  intro i h1 h2
  simp at h1
  simp [h1]
theorem range_count (l : List Nat) (p : Nat → Bool) : (List.range l.length).countP (fun i => p (l.getD i 0)) = l.countP p := by
  have h := range_map l (fun x => if p x then 1 else 0)
  have e : ∀ (L : List Nat) (q : Nat → Bool), (L.map fun x => if q x then 1 else 0).sum = L.countP q := by
    intro L q
    induction L with
    | nil => rfl
    | cons a L ih => simp only [List.map_cons, List.sum_cons, List.countP_cons, ih]; omega
  rw [← e, ← e, ← h]
theorem sum_add (L : List Nat) (f g : Nat → Nat) : (L.map fun x => f x + g x).sum = (L.map f).sum + (L.map g).sum := by
  induction L with
  | nil => rfl
  | cons a L ih => simp only [List.map_cons, List.sum_cons, ih]; omega
theorem sum_ite (L : List Nat) (q : Nat → Bool) : (L.map fun x => if q x = true then 1 else 0).sum = L.countP q := by
  induction L with
  | nil => rfl
  | cons a L ih => simp only [List.map_cons, List.sum_cons, List.countP_cons, ih]; omega
structure Dealt (t : Nat) (l o : List Nat) (left : Nat) : Prop where
  pos : 0 < l.sum
  ord : Ord (keyF t l.sum l) l.length o
  rest : t = (l.map (shr t l.sum)).sum + left
  few : left ≤ (List.range l.length).countP fun i => 0 < keyF t l.sum l i
theorem dealt_of {t : Nat} {l o : List Nat} (hp : 0 < l.sum) (ho : Ord (keyF t l.sum l) l.length o) : Dealt t l o (t - (l.map (shr t l.sum)).sum) := by
  obtain ⟨x, h1, h2⟩ := left_law (t := t) hp
  have e : t - (l.map (shr t l.sum)).sum = x := by omega
  rw [e]
  refine ⟨hp, ho, h1, ?_⟩
  rw [← range_count l (fun w => decide (0 < rem' t l.sum w))] at h2
  exact h2
theorem Dealt.le {t : Nat} {l o : List Nat} {left : Nat} (h : Dealt t l o left) : left ≤ l.length := by
  have h1 := h.few
  have h2 := List.countP_le_length (p := fun i => decide (0 < keyF t l.sum l i)) (l := List.range l.length)
  simp at h2
  omega
theorem Dealt.sum {t : Nat} {l o : List Nat} {left : Nat} (h : Dealt t l o left) : ((List.range l.length).map (outF t l.sum left l o)).sum = t := by
  unfold outF
  rw [sum_add, range_map l (shr t l.sum)]
  have e : ((List.range l.length).map fun x => if x ∈ o.take left then 1 else 0).sum = left := by
    have := sum_ite (List.range l.length) (fun x => decide (x ∈ o.take left))
    simp only [decide_eq_true_eq] at this
    rw [this, ← h.ord.perm.countP_eq]
    have hlen : o.length = l.length := by rw [h.ord.perm.length_eq]; simp
    have hnd : o.Nodup := h.ord.perm.nodup_iff.2 List.nodup_range
    have hnd2 : (o.take left ++ o.drop left).Nodup := by rw [List.take_append_drop]; exact hnd
    conv => lhs; rw [← List.take_append_drop left o]
    rw [List.countP_append, List.take_append_drop]
    have h1 : (o.take left).countP (fun x => decide (x ∈ o.take left)) = (o.take left).length := by
      rw [List.countP_eq_length]
      intro x hx; simpa using hx
    have h2 : (o.drop left).countP (fun x => decide (x ∈ o.take left)) = 0 := by
      rw [List.countP_eq_zero]
      intro x hx hx2
      exact (List.nodup_append.1 hnd2).2.2 x (by simpa using hx2) x hx rfl
    rw [h1, h2, List.length_take, hlen]
    have := h.le
    omega
  rw [e]
  exact h.rest.symm
theorem Dealt.fair {t : Nat} {l o : List Nat} {left i : Nat} (h : Dealt t l o left) (hi : i < l.length) : t * l.getD i 0 / l.sum ≤ outF t l.sum left l o i ∧ outF t l.sum left l o i ≤ (t * l.getD i 0 + l.sum - 1) / l.sum := by
  have hp := h.pos
  have e := shr_rem t l.sum (l.getD i 0)
  have hr : rem' t l.sum (l.getD i 0) < l.sum := Nat.mod_lt _ hp
  unfold outF
  refine ⟨Nat.le_add_right _ _, ?_⟩
  rw [Nat.le_div_iff_mul_le hp, Nat.add_mul]
  have e2 : shr t l.sum (l.getD i 0) * l.sum = l.sum * shr t l.sum (l.getD i 0) := Nat.mul_comm _ _
  by_cases hm : i ∈ o.take left
  · rw [if_pos hm]
    have hk := h.ord.pos h.few hm
    unfold keyF at hk
    omega
  · rw [if_neg hm]
    omega
theorem Dealt.rises {t : Nat} {l o : List Nat} {left i j : Nat} (h : Dealt t l o left) (hi : i < l.length) (hj : j < l.length) (hw : l.getD j 0 < l.getD i 0 ∨ (l.getD i 0 = l.getD j 0 ∧ i < j)) : ¬ outF t l.sum left l o i < outF t l.sum left l o j := by
  intro hlt
  have hp := h.pos
  have ei := shr_rem t l.sum (l.getD i 0)
  have ej := shr_rem t l.sum (l.getD j 0)
  have ri : rem' t l.sum (l.getD i 0) < l.sum := Nat.mod_lt _ hp
  have hm : t * l.getD j 0 ≤ t * l.getD i 0 := Nat.mul_le_mul_left _ (by omega)
  have hs : shr t l.sum (l.getD j 0) ≤ shr t l.sum (l.getD i 0) := Nat.div_le_div_right hm
  unfold outF at hlt
  have hjm : j ∈ o.take left := by
    by_cases e : j ∈ o.take left
    · exact e
    · rw [if_neg e] at hlt; omega
  have him : ¬ i ∈ o.take left := by
    intro e
    rw [if_pos hjm, if_pos e] at hlt; omega
  rw [if_pos hjm, if_neg him] at hlt
  have hse : shr t l.sum (l.getD j 0) = shr t l.sum (l.getD i 0) := by omega
  have hf := h.ord.first hjm hi him
  have hk := h.ord.pos h.few hjm
  rw [hse] at ej
  unfold Fst keyF at hf
  unfold keyF at hk
  have hrr : rem' t l.sum (l.getD j 0) ≤ rem' t l.sum (l.getD i 0) := by omega
  rcases hf with hf | ⟨hf, hji⟩
  · omega
  · rcases hw with hw | ⟨hw, hij⟩
    · have hte : t * l.getD j 0 = t * l.getD i 0 := by omega
      have ht0 : 0 < t := by
        rcases Nat.eq_zero_or_pos t with h0 | h0
        · subst h0; simp [rem'] at hk
        · exact h0
      have := Nat.eq_of_mul_eq_mul_left ht0 hte
      omega
    · omega
end Go.Proofs.Ytfcgpgfghidajaa

/- Dealing, step by step: plain. -/
import Derived.Test.YtfcgpgfghidajaaDealL
namespace Go.Proofs.Ytfcgpgfghidajaa
open Go.RowKit
set_option linter.unusedVariables false
theorem pre_succ {l : List Nat} {k : Nat} (f : Nat → Nat) (h : k < l.length) : ((l.take (k + 1)).map f).sum = ((l.take k).map f).sum + f (l.getD k 0) := by
  rw [List.take_succ_eq_append_getElem h, List.map_append, List.sum_append, List.getD_eq_getElem?_getD, List.getElem?_eq_getElem h]
  simp only [List.map_cons, List.map_nil, List.sum_cons, List.sum_nil, Nat.add_zero, Option.getD_some]
theorem pre_all {l : List Nat} (f : Nat → Nat) : ((l.take l.length).map f).sum = (l.map f).sum := by simp
theorem pre_le (l : List Nat) (f : Nat → Nat) (k : Nat) : ((l.take k).map f).sum ≤ (l.map f).sum := by
  have h : (l.map f).sum = ((l.take k).map f).sum + ((l.drop k).map f).sum := by
    rw [← List.sum_append, ← List.map_append, List.take_append_drop]
  omega
theorem take_succ_sum {l : List Nat} {k : Nat} (h : k < l.length) : (l.take (k + 1)).sum = (l.take k).sum + l.getD k 0 := by
  have := pre_succ (fun x => x) h
  simpa using this
theorem getD_le {l : List Nat} {m k : Nat} (h : ∀ x ∈ l, x ≤ m) : l.getD k 0 ≤ m := by
  by_cases hk : k < l.length
  · rw [List.getD_eq_getElem?_getD, List.getElem?_eq_getElem hk]
    exact h _ (List.getElem_mem hk)
  · simp [List.getD, List.getElem?_eq_none (by omega : l.length ≤ k)]
theorem sum_bound {l : List Nat} {m : Nat} (h : ∀ x ∈ l, x ≤ m) : l.sum ≤ l.length * m := by
  induction l with
  | nil => simp
  | cons a l ih =>
    have h1 := h a (by simp)
    have h2 := ih (fun x hx => h x (by simp [hx]))
    simp only [List.sum_cons, List.length_cons, Nat.add_mul]
    omega
theorem take_sum_le (l : List Nat) (k : Nat) : (l.take k).sum ≤ l.sum := by
  have := pre_le l (fun x => x) k
  simpa using this
theorem shr_le {t all w m : Nat} (hw : w ≤ m) : shr t all w ≤ t * m := by
  unfold shr
  exact Nat.le_trans (Nat.div_le_self _ _) (Nat.mul_le_mul_left _ hw)
theorem pre_shr {t : Nat} {l : List Nat} (h : 0 < l.sum) (k : Nat) : ((l.take k).map (shr t l.sum)).sum ≤ t := by
  obtain ⟨x, h1, h2⟩ := left_law (t := t) h
  have := pre_le l (shr t l.sum) k
  omega
theorem Ord.len {key : Nat → Nat} {n : Nat} {o : List Nat} (h : Ord key n o) : o.length = n := by
  have := h.perm.length_eq
  simpa using this
theorem Ord.lt {key : Nat → Nat} {n k : Nat} {o : List Nat} (h : Ord key n o) (hk : k < n) : o.getD k 0 < n := by
  have hl := h.len
  rw [List.getD_eq_getElem?_getD, List.getElem?_eq_getElem (by omega)]
  exact List.mem_range.1 (h.perm.mem_iff.1 (List.getElem_mem (by omega)))
theorem Ord.nodup {key : Nat → Nat} {n : Nat} {o : List Nat} (h : Ord key n o) : o.Nodup := h.perm.nodup_iff.2 List.nodup_range
theorem Ord.fresh {key : Nat → Nat} {n k : Nat} {o : List Nat} (h : Ord key n o) (hk : k < n) : o.getD k 0 ∉ o.take k := by
  have hl := h.len
  have hn := h.nodup
  intro hm
  rw [List.getD_eq_getElem?_getD, List.getElem?_eq_getElem (by omega)] at hm
  obtain ⟨i, hi, e⟩ := List.mem_take_iff_getElem.1 hm
  have := (List.getElem_inj hn).1 e
  omega
theorem take_mem_succ {o : List Nat} {k j : Nat} (hk : k < o.length) : j ∈ o.take (k + 1) ↔ j ∈ o.take k ∨ j = o.getD k 0 := by
  rw [List.take_succ_eq_append_getElem hk, List.mem_append, List.mem_singleton, List.getD_eq_getElem?_getD, List.getElem?_eq_getElem hk, Option.getD_some]
theorem outF_zero (t all : Nat) (l o : List Nat) (i : Nat) : outF t all 0 l o i = shr t all (l.getD i 0) := by simp [outF]
theorem outF_at {key : Nat → Nat} {t all n k : Nat} {l o : List Nat} (h : Ord key n o) (hk : k < n) : outF t all k l o (o.getD k 0) = shr t all (l.getD (o.getD k 0) 0) := by
  unfold outF
  rw [if_neg (h.fresh hk)]; rfl
theorem outF_step {key : Nat → Nat} {t all n k : Nat} {l o : List Nat} (h : Ord key n o) (hk : k < n) (j : Nat) : (if j = o.getD k 0 then shr t all (l.getD (o.getD k 0) 0) + 1 else outF t all k l o j) = outF t all (k + 1) l o j := by
  have hl := h.len
  unfold outF
  by_cases e : j = o.getD k 0
  · rw [if_pos e, if_pos ((take_mem_succ (by omega)).2 (.inr e)), e]
  · rw [if_neg e]
    by_cases e2 : j ∈ o.take k
    · rw [if_pos e2, if_pos ((take_mem_succ (by omega)).2 (.inl e2))]
    · rw [if_neg e2, if_neg (fun k2 => by rcases (take_mem_succ (by omega)).1 k2 with q | q; exact e2 q; exact e q)]
end Go.Proofs.Ytfcgpgfghidajaa

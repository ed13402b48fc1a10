/- Which debts the recovery touches: plain. -/
import Derived.Test.YtadaanphoehlmaaDebt
namespace Go.Proofs.Ytadaanphoehlmaa
/-- Debts of which something is owed. -/
def nz (l : List (Nat × Nat)) : List (Nat × Nat) := l.filter fun p => decide (0 < p.1)
theorem nz_snoc0 {l : List (Nat × Nat)} {d : Nat × Nat} (h : d.1 = 0) : nz (l ++ [d]) = nz l := by simp [nz, h]
theorem nz_snoc1 {l : List (Nat × Nat)} {d : Nat × Nat} (h : 0 < d.1) : nz (l ++ [d]) = nz l ++ [d] := by simp [nz, h]
theorem dsum_one (d : Nat × Nat) : dsum [d] = d.1 := by simp [dsum]
/-- All debts so far are paid, or the share is gone. -/
def Paid (share : Nat) (l : List (Nat × Nat)) (paid : Nat) (out : List (Nat × Nat)) : Prop :=
  (out = [] ∧ paid = dsum (nz l) ∧ paid ≤ share) ∨
  ∃ (pre rest : List (Nat × Nat)) (x y : Nat), nz l = pre ++ (x, y) :: rest ∧ out = (x - (paid - dsum pre), y) :: rest ∧ dsum pre ≤ paid ∧ paid - dsum pre < x ∧ paid = share
theorem paid_step {share : Nat} {l : List (Nat × Nat)} {paid : Nat} {out : List (Nat × Nat)} (d : Nat × Nat) (h : Paid share l paid out) :
    Paid share (l ++ [d]) (recStep share (paid, out) d).1 (recStep share (paid, out) d).2 := by
  unfold recStep
  dsimp only
  rcases Nat.eq_zero_or_pos d.1 with h0 | h0
  · rw [h0, if_pos (by omega)]
    have e : paid + min 0 (share - paid) = paid := by omega
    rw [e]
    unfold Paid
    rw [nz_snoc0 h0]
    exact h
  · unfold Paid at h ⊢
    rw [nz_snoc1 h0]
    rcases h with ⟨rfl, h1, h2⟩ | ⟨pre, rest, x, y, h1, h2, h3, h4, h5⟩
    · by_cases hx : d.1 ≤ share - paid
      · rw [Nat.min_eq_left hx, if_pos (by omega)]
        exact .inl ⟨rfl, by rw [dsum_append, dsum_one]; omega, by omega⟩
      · rw [Nat.min_eq_right (by omega), if_neg (by omega)]
        refine .inr ⟨nz l, [], d.1, d.2, rfl, ?_, by omega, by omega, by omega⟩
        have e : paid + (share - paid) - dsum (nz l) = share - paid := by omega
        rw [e]; rfl
    · have e : min d.1 (share - paid) = 0 := by omega
      rw [e, if_neg (by omega)]
      refine .inr ⟨pre, rest ++ [d], x, y, by rw [h1]; simp, ?_, by omega, by omega, by omega⟩
      rw [h2]; rfl
theorem paid_all (share : Nat) (l : List (Nat × Nat)) : Paid share l (recov share l).1 (recov share l).2 := by
  have key : ∀ k, k ≤ l.length → Paid share (l.take k) (recov share (l.take k)).1 (recov share (l.take k)).2 := by
    intro k
    induction k with
    | zero => intro _; exact .inl ⟨rfl, rfl, Nat.zero_le _⟩
    | succ k ih =>
      intro hk
      have hk' : k < l.length := by omega
      have h := paid_step l[k] (ih (by omega))
      rw [take_snoc hk', recov_snoc]
      exact h
  have := key l.length (Nat.le_refl _)
  rwa [List.take_length] at this
/-- What the law asks of the debts behind. -/
theorem first_law {share paid : Nat} {l out : List (Nat × Nat)} (h : Paid share l paid out) : ∃ g P : Nat, (nz l).length = g + out.length ∧ dsum ((nz l).take g) = P ∧ P ≤ paid ∧ (out = [] → paid = P) ∧
    ∀ (i : Nat) (hi : i < out.length), ∃ x y, (nz l)[g + i]? = some (x, y) ∧ (i = 0 → out[i] = (x - (paid - P), y) ∧ paid - P < x) ∧ (i ≠ 0 → out[i] = (x, y)) := by
  rcases h with ⟨rfl, h1, h2⟩ | ⟨pre, rest, x, y, h1, h2, h3, h4, h5⟩
  · exact ⟨(nz l).length, paid, rfl, by rw [List.take_length]; exact h1.symm, Nat.le_refl _, fun _ => rfl, fun i hi => by simp at hi⟩
  · subst h2
    refine ⟨pre.length, dsum pre, by rw [h1]; simp, by rw [h1]; simp, h3, fun h => by simp at h, fun i hi => ?_⟩
    rw [h1]
    cases i with
    | zero => exact ⟨x, y, by simp, fun _ => ⟨rfl, h4⟩, fun h => absurd rfl h⟩
    | succ j =>
      have hj : j < rest.length := by simpa using hi
      refine ⟨rest[j].1, rest[j].2, ?_, fun h => by omega, fun _ => rfl⟩
      rw [List.getElem?_append_right (by omega), Nat.add_sub_cancel_left]
      simp [hj]
theorem fsum_take {l : List (Nat × Nat)} {k : Nat} (h : k < l.length) : dsum (l.take (k + 1)) = dsum (l.take k) + l[k].1 := by
  rw [take_snoc h, dsum_append]; simp [dsum]
theorem fsum_le {l : List (Nat × Nat)} (hl : DOk l) (k : Nat) : dsum (l.take k) ≤ 8000000000 := by
  have h1 := dsum_le (l := l.take k) (fun p hp => (hl.2 p (List.mem_of_mem_take hp)).1)
  have h2 : (l.take k).length ≤ 8 := by have := hl.1; simp; omega
  omega
end Go.Proofs.Ytadaanphoehlmaa

/- token: what twenty digits tell: plain. -/
import Derived.Test.YtopnlkhepjbjkaaDoorG25
import Derived.Lib.TrimByte
import Derived.Test.YtopnlkhepjbjkaaDoorG2
namespace Go.Proofs.YtopnlkhepjbjkaaDoor
open Go.RowKit
set_option linter.unusedVariables false
/-- What 'Parse' answers to a number of twenty digits: class, number, amount, tag; the error. -/
def parseS (D : Nat) : Nat × Nat × Nat × Nat × Nat :=
  if 73786976294838206464 ≤ D then (0, 0, 0, 0, 2) else if D % 97 ≠ 0 then (0, 0, 0, 0, 8)
  else if bitsN (D / 97) 59 32 ≠ 0 ∨ tfault (bitsN (D / 97) 57 2 : Nat) (bitsN (D / 97) 37 20 : Nat) (bitsN (D / 97) 16 21 : Nat) (bitsN (D / 97) 0 16 : Nat) ≠ 0 then (0, 0, 0, 0, 2)
  else (bitsN (D / 97) 57 2, bitsN (D / 97) 37 20, bitsN (D / 97) 16 21, bitsN (D / 97) 0 16, 0)
theorem parseS_tok {cls id am tag : Nat} (h : TkOk cls id am tag) : parseS (tokN cls id am tag * 97) = (cls, id, am, tag, 0) := by
  have h1 := tokN_lt h
  obtain ⟨f1, f2, f3, f4, f5⟩ := tokN_fields h
  unfold parseS
  rw [if_neg (by omega), if_neg (by omega), Nat.mul_div_cancel _ (by omega), f1, f2, f3, f4, f5, if_neg (by rw [tfault_ok h]; simp)]
/-- What was read is a token, of that number. -/
theorem parseS_ok {D c i a t : Nat} (h : parseS D = (c, i, a, t, 0)) : TkOk c i a t ∧ D = tokN c i a t * 97 := by
  unfold parseS at h
  by_cases h1 : 73786976294838206464 ≤ D
  · rw [if_pos h1] at h; simp at h
  · rw [if_neg h1] at h
    by_cases h2 : D % 97 ≠ 0
    · rw [if_pos h2] at h; simp at h
    · rw [if_neg h2] at h
      by_cases h3 : bitsN (D / 97) 59 32 ≠ 0 ∨ tfault (bitsN (D / 97) 57 2 : Nat) (bitsN (D / 97) 37 20 : Nat) (bitsN (D / 97) 16 21 : Nat) (bitsN (D / 97) 0 16 : Nat) ≠ 0
      · rw [if_pos h3] at h; simp at h
      · rw [if_neg h3] at h
        simp only [Prod.mk.injEq] at h
        obtain ⟨rfl, rfl, rfl, rfl, _⟩ := h
        have h4 : bitsN (D / 97) 59 32 = 0 := by
          rcases Nat.eq_zero_or_pos (bitsN (D / 97) 59 32) with h | h
          · exact h
          · exact absurd (.inl (by omega)) h3
        have h5 : tfault (bitsN (D / 97) 57 2 : Nat) (bitsN (D / 97) 37 20 : Nat) (bitsN (D / 97) 16 21 : Nat) (bitsN (D / 97) 0 16 : Nat) = 0 := Classical.byContradiction fun h => h3 (.inr h)
        have h6 := fields_tokN (D / 97) h4 (by omega)
        obtain ⟨c, i, a, t, e1, e2, e3, e4, hk⟩ := tfault_zero h5
        have e1 : bitsN (D / 97) 57 2 = c := by omega
        have e2 : bitsN (D / 97) 37 20 = i := by omega
        have e3 : bitsN (D / 97) 16 21 = a := by omega
        have e4 : bitsN (D / 97) 0 16 = t := by omega
        rw [e1, e2, e3, e4] at h6 ⊢
        exact ⟨hk, by omega⟩
/-- Without the check, no token. -/
theorem parseS_no {D : Nat} (h : D % 97 ≠ 0) : parseS D = (0, 0, 0, 0, 2) ∨ parseS D = (0, 0, 0, 0, 8) := by
  unfold parseS
  by_cases h1 : 73786976294838206464 ≤ D
  · rw [if_pos h1]; exact .inl rfl
  · rw [if_neg h1, if_pos h]; exact .inr rfl
theorem parseS_err {D c i a t E : Nat} (h : parseS D = (c, i, a, t, E)) (hE : E ≠ 0) : c = 0 ∧ i = 0 ∧ a = 0 ∧ t = 0 := by
  unfold parseS at h
  split at h
  · simp at h; omega
  · split at h
    · simp at h; omega
    · split at h
      · simp at h; omega
      · simp at h; omega
/-- The rest by 97 of the number. -/
theorem rest_val (l : List Nat) : rest97 l = val10 l % 97 := by
  have key : ∀ (l : List Nat) (n : Nat), l.foldl (fun n d => (n * 10 + d) % 97) (n % 97) = (l.foldl (fun n d => n * 10 + d) n) % 97 := by
    intro l
    induction l with
    | nil => intro n; rfl
    | cons d l ih =>
      intro n
      rw [List.foldl_cons, List.foldl_cons, ← ih (n * 10 + d)]
      congr 1
      omega
  exact key l 0
/-- The digits without the noughts ahead of the last one. -/
def bareD (l : List Nat) : List Nat := (l.take 19).dropWhile (· == 0) ++ l.drop 19
theorem drop_val : ∀ l : List Nat, val10 (l.dropWhile (· == 0)) = val10 l
  | [] => rfl
  | d :: l => by
    rw [List.dropWhile_cons]
    split
    · rename_i h
      have h : d = 0 := by simpa using h
      rw [drop_val l, h, val10_cons]; simp
    · rfl
theorem drop_zeros : ∀ l : List Nat, ∃ k, l = List.replicate k 0 ++ l.dropWhile (· == 0) ∧ (∀ d t, l.dropWhile (· == 0) = d :: t → d ≠ 0)
  | [] => ⟨0, rfl, by simp⟩
  | d :: l => by
    rw [List.dropWhile_cons]
    split
    · rename_i h
      have h : d = 0 := by simpa using h
      obtain ⟨k, h1, h2⟩ := drop_zeros l
      exact ⟨k + 1, by rw [List.replicate_succ, List.cons_append, ← h1, h], h2⟩
    · rename_i h
      refine ⟨0, rfl, fun e t he => ?_⟩
      injection he with h3 h4
      subst h3
      simpa using h
theorem bare_val {l : List Nat} : val10 (bareD l) = val10 l := by
  obtain ⟨k, h1, _⟩ := drop_zeros (l.take 19)
  unfold bareD
  conv => rhs; rw [← List.take_append_drop 19 l, h1, List.append_assoc, val10_zeros]
theorem bare_mem {l : List Nat} (h : ∀ d ∈ l, d ≤ 9) : ∀ d ∈ bareD l, d ≤ 9 := by
  intro d hd
  rcases List.mem_append.1 hd with h1 | h1
  · exact h d (List.mem_of_mem_take ((List.dropWhile_sublist _).subset h1))
  · exact h d (List.mem_of_mem_drop h1)
theorem bare_len {l : List Nat} (h : l.length = 20) : 0 < (bareD l).length ∧ (bareD l).length ≤ 20 := by
  unfold bareD
  have h1 : (l.drop 19).length = 1 := by simp [h]
  have h2 := (List.dropWhile_sublist (· == 0) (l := l.take 19)).length_le
  rw [List.length_append, h1]
  simp [h] at h2
  omega
theorem bare_head {l : List Nat} (h : l.length = 20) : (bareD l).length = 1 ∨ (bareD l)[0]? ≠ some 0 := by
  obtain ⟨k, h1, h2⟩ := drop_zeros (l.take 19)
  unfold bareD
  cases hd : (l.take 19).dropWhile (· == 0) with
  | nil => exact .inl (by simp [h])
  | cons d t => exact .inr (by simp; exact h2 d t hd)
theorem trim_dig : ∀ l : List Nat, (∀ d ∈ l, d ≤ 9) → Lib.trimLeftB (l.map dg) 48 = (l.dropWhile (· == 0)).map dg
  | [], _ => rfl
  | d :: l, h => by
    have hd := h d (by simp)
    have ih := trim_dig l (fun x hx => h x (by simp [hx]))
    unfold Lib.trimLeftB at *
    rw [List.map_cons, List.dropWhile_cons, List.dropWhile_cons]
    have e : (dg d == 48) = (d == 0) := by
      rw [Bool.eq_iff_iff]
      simp only [beq_iff_eq]
      constructor
      · intro h3; exact dg_inj hd (by omega) h3
      · intro h3; rw [h3]; rfl
    rw [e]
    split
    · exact ih
    · rfl
/-- A text of digits, or where the first other sign stands. -/
theorem dig_split : ∀ l : List UInt8, (∃ ds : List Nat, (∀ d ∈ ds, d ≤ 9) ∧ l = ds.map dg) ∨ ∃ (j : Nat) (hj : j < l.length), ¬ (48 ≤ l[j].toNat ∧ l[j].toNat ≤ 57) ∧ ∀ (i : Nat) (hi : i < j), 48 ≤ (l[i]'(by omega)).toNat ∧ (l[i]'(by omega)).toNat ≤ 57
  | [] => .inl ⟨[], by simp, rfl⟩
  | b :: l => by
    by_cases hb : 48 ≤ b.toNat ∧ b.toNat ≤ 57
    · rcases dig_split l with ⟨ds, h1, h2⟩ | ⟨j, hj, h1, h2⟩
      · refine .inl ⟨(b.toNat - 48) :: ds, ?_, ?_⟩
        · intro d hd
          rcases List.mem_cons.1 hd with rfl | hd
          · omega
          · exact h1 d hd
        · rw [List.map_cons, ← h2]
          congr 1
          apply UInt8.toNat_inj.1
          rw [dg_toNat (by omega)]; omega
      · refine .inr ⟨j + 1, by simp; omega, by simpa using h1, fun i hi => ?_⟩
        cases i with
        | zero => exact hb
        | succ i => simpa using h2 i (by omega)
    · exact .inr ⟨0, by simp, by simpa using hb, fun i hi => by omega⟩
theorem str_split (s : ByteArray) : (∃ ds : List Nat, (∀ d ∈ ds, d ≤ 9) ∧ s = dstr ds) ∨ ∃ (j : Nat) (hj : j < s.size), ¬ (48 ≤ s[j].toNat ∧ s[j].toNat ≤ 57) ∧ ∀ (i : Nat) (hi : i < j), 48 ≤ (s[i]'(by omega)).toNat ∧ (s[i]'(by omega)).toNat ≤ 57 := by
  rcases dig_split s.data.toList with ⟨ds, h1, h2⟩ | ⟨j, hj, h1, h2⟩
  · exact .inl ⟨ds, h1, str_ext (by rw [dstr_toList, h2])⟩
  · exact .inr ⟨j, by simpa using hj, by rw [Array.getElem_toList] at h1; exact h1, fun i hi => by have h3 := h2 i hi; rw [Array.getElem_toList] at h3; exact h3⟩
end Go.Proofs.YtopnlkhepjbjkaaDoor

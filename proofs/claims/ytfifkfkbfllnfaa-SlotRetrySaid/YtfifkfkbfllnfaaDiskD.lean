/- Records one behind the other: plain. -/
import Derived.Test.YtfifkfkbfllnfaaCellD
namespace Go.Proofs.Ytfifkfkbfllnfaa
open Go.RowKit
/-- Records as words. -/
def enc (l : List (List Nat)) : List Nat := l.flatMap fun r => r.length :: r
theorem enc_append (a b : List (List Nat)) : enc (a ++ b) = enc a ++ enc b := by simp [enc]
theorem enc_one (r : List Nat) : enc [r] = r.length :: r := by simp [enc]
theorem enc_take_succ {l : List (List Nat)} {i : Nat} (h : i < l.length) : enc (l.take (i + 1)) = enc (l.take i) ++ (l[i].length :: l[i]) := by
  rw [List.take_succ_eq_append_getElem h, enc_append, enc_one]
/-- Records that may be. -/
def ROk (l : List (List Nat)) : Prop := ∀ r ∈ l, 1 ≤ r.length ∧ r.length ≤ 64 ∧ ∀ x ∈ r, x < 4294967296
/-- A tape that holds just these records. -/
def IsTape (c : List Nat) (l : List (List Nat)) : Prop := ROk l ∧ ∃ rest, c = enc l ++ rest ∧ (rest = [] ∨ ∃ t, rest = 0 :: t)
theorem IsTape.le {c : List Nat} {l : List (List Nat)} (h : IsTape c l) : (enc l).length ≤ c.length := by
  obtain ⟨_, rest, rfl, _⟩ := h
  simp
/-- The word at the head of a record. -/
theorem IsTape.head {c : List Nat} {l : List (List Nat)} (h : IsTape c l) {i : Nat} (hi : i < l.length) : c[(enc (l.take i)).length]? = some l[i].length := by
  obtain ⟨_, rest, rfl, _⟩ := h
  have e : enc l = enc (l.take (i + 1)) ++ enc (l.drop (i + 1)) := by rw [← enc_append, List.take_append_drop]
  rw [e, enc_take_succ hi, List.append_assoc, List.append_assoc, List.getElem?_append_right (Nat.le_refl _), Nat.sub_self]
  rfl
theorem IsTape.rec_ {c : List Nat} {l : List (List Nat)} (h : IsTape c l) {i : Nat} (hi : i < l.length) : (c.drop ((enc (l.take i)).length + 1)).take l[i].length = l[i] := by
  obtain ⟨_, rest, rfl, _⟩ := h
  have e : enc l = enc (l.take i) ++ (l[i].length :: (l[i] ++ enc (l.drop (i + 1)))) := by
    have e1 : enc l = enc (l.take (i + 1)) ++ enc (l.drop (i + 1)) := by rw [← enc_append, List.take_append_drop]
    rw [e1, enc_take_succ hi, List.append_assoc]
    rfl
  rw [e, List.append_assoc, ← List.drop_drop]
  rw [show List.drop (enc (l.take i)).length (enc (l.take i) ++ ((l[i].length :: (l[i] ++ enc (l.drop (i + 1)))) ++ rest)) = (l[i].length :: (l[i] ++ enc (l.drop (i + 1)))) ++ rest from List.drop_left]
  simp
theorem IsTape.fits {c : List Nat} {l : List (List Nat)} (h : IsTape c l) {i : Nat} (hi : i < l.length) : (enc (l.take i)).length + 1 + l[i].length ≤ c.length := by
  have h1 := h.le
  have e : enc l = enc (l.take (i + 1)) ++ enc (l.drop (i + 1)) := by rw [← enc_append, List.take_append_drop]
  rw [e, enc_take_succ hi] at h1
  simp at h1
  omega
theorem IsTape.end_ {c : List Nat} {l : List (List Nat)} (h : IsTape c l) (hlt : (enc l).length < c.length) : c[(enc l).length]? = some 0 := by
  obtain ⟨_, rest, rfl, h⟩ := h
  rcases h with rfl | ⟨t, rfl⟩
  · simp at hlt
  · rw [List.getElem?_append_right (Nat.le_refl _), Nat.sub_self]; rfl
/-- The writes of a record. -/
def putW (len at0 : Nat) (r : List Nat) : List (Nat × Nat) :=
  (List.range r.length).map (fun i => (at0 + 1 + i, r.getD i 0)) ++ ((if at0 + 1 + r.length < len then [(at0 + 1 + r.length, 0)] else []) ++ [(at0, r.length)])
/-- The first part of the writes: words behind the end. -/
theorem applyW_range (a b r : List Nat) : ∀ k, k ≤ r.length → r.length ≤ b.length → applyW (a ++ b) ((List.range k).map fun i => (a.length + i, r.getD i 0)) = a ++ (r.take k ++ b.drop k)
  | 0, _, _ => by simp [applyW]
  | k + 1, hk, hb => by
    have ih := applyW_range a b r k (by omega) hb
    rw [List.range_succ, List.map_append, applyW_append, ih]
    show (a ++ (r.take k ++ b.drop k)).set (a.length + k) (r.getD k 0) = _
    have hk' : k < r.length := by omega
    rw [List.set_append_right _ _ (by omega), show a.length + k - a.length = k by omega]
    congr 1
    rw [List.set_append_right _ _ (by simp; omega), List.take_succ_eq_append_getElem hk', List.append_assoc]
    congr 1
    have hd : b.drop k = b[k]'(by omega) :: b.drop (k + 1) := List.drop_eq_getElem_cons (by omega)
    rw [show k - (List.take k r).length = 0 by simp; omega, hd]
    show r.getD k 0 :: b.drop (k + 1) = r[k] :: b.drop (k + 1)
    rw [show r.getD k 0 = r[k] by simp [hk']]
/-- Behind any number of the writes but all, all that was there is there; behind all, the new one too. -/
theorem put_tape {c : List Nat} {l : List (List Nat)} {r : List Nat} (h : IsTape c l) (hr : 1 ≤ r.length ∧ r.length ≤ 64 ∧ ∀ x ∈ r, x < 4294967296) (hf : (enc l).length + 1 + r.length ≤ c.length) :
    (∀ k, k < (putW c.length (enc l).length r).length → IsTape (applyW c ((putW c.length (enc l).length r).take k)) l) ∧ IsTape (applyW c (putW c.length (enc l).length r)) (l ++ [r]) := by
  obtain ⟨hl, rest, rfl, hrest⟩ := h
  obtain ⟨t, rfl⟩ : ∃ t, rest = 0 :: t := by
    rcases hrest with rfl | h
    · simp at hf; omega
    · exact h
  clear hrest
  have ht : r.length ≤ t.length := by simp at hf; omega
  obtain ⟨n, hn⟩ : ∃ n, (enc l).length = n := ⟨_, rfl⟩
  have hlen : (enc l ++ 0 :: t).length = n + 1 + t.length := by simp [hn]; omega
  rw [hlen, hn]
  have e0 : enc l ++ 0 :: t = (enc l ++ [0]) ++ t := by simp
  have hal : (enc l ++ [0]).length = n + 1 := by simp [hn]
  have hW1 : ∀ k, k ≤ r.length → applyW (enc l ++ 0 :: t) ((List.range k).map fun i => (n + 1 + i, r.getD i 0)) = enc l ++ (0 :: (r.take k ++ t.drop k)) := fun k hk => by
    have := applyW_range (enc l ++ [0]) t r k hk ht
    rw [hal] at this
    rw [e0, this]
    simp
  have hW1' := hW1 r.length (Nat.le_refl _)
  rw [List.take_length] at hW1'
  have hset : ∀ z, (enc l ++ (0 :: z)).set n r.length = enc l ++ (r.length :: z) := fun z => by
    rw [List.set_append_right _ _ (by omega), hn, Nat.sub_self]; rfl
  have hfin : ∀ z, (z = [] ∨ ∃ u, z = 0 :: u) → IsTape (enc l ++ (r.length :: (r ++ z))) (l ++ [r]) := fun z hz => by
    refine ⟨fun q hq => ?_, z, by rw [enc_append, enc_one]; simp, hz⟩
    rcases List.mem_append.1 hq with h | h
    · exact hl q h
    · simp at h; subst h; exact hr
  have hmid : ∀ z, IsTape (enc l ++ (0 :: z)) l := fun z => ⟨hl, 0 :: z, rfl, .inr ⟨z, rfl⟩⟩
  unfold putW
  by_cases hc : n + 1 + r.length < n + 1 + t.length
  · rw [if_pos hc]
    have hd : t.drop r.length = t[r.length]'(by omega) :: t.drop (r.length + 1) := List.drop_eq_getElem_cons (by omega)
    have hW2 : applyW (enc l ++ 0 :: t) ((List.range r.length).map (fun i => (n + 1 + i, r.getD i 0)) ++ [(n + 1 + r.length, 0)]) = enc l ++ (0 :: (r ++ (0 :: t.drop (r.length + 1)))) := by
      rw [applyW_append, hW1', hd]
      show (enc l ++ (0 :: (r ++ (t[r.length]'(by omega) :: t.drop (r.length + 1))))).set (n + 1 + r.length) 0 = _
      rw [List.set_append_right _ _ (by omega), hn, show n + 1 + r.length - n = r.length + 1 by omega]
      congr 1
      rw [List.set_cons_succ, List.set_append_right _ _ (Nat.le_refl _), Nat.sub_self]
      rfl
    refine ⟨fun k hk => ?_, ?_⟩
    · simp at hk
      by_cases h1 : k ≤ r.length
      · rw [List.take_append_of_le_length (by simpa using h1), ← List.map_take, List.take_range, Nat.min_eq_left h1, hW1 k h1]
        exact hmid _
      · obtain rfl : k = r.length + 1 := by omega
        rw [← List.append_assoc, List.take_append_of_le_length (by simp), List.take_of_length_le (by simp), hW2]
        exact hmid _
    · rw [← List.append_assoc, applyW_append, hW2]
      show IsTape ((enc l ++ (0 :: (r ++ (0 :: t.drop (r.length + 1))))).set n r.length) _
      rw [hset]
      exact hfin _ (.inr ⟨_, rfl⟩)
  · rw [if_neg hc]
    have hd : t.drop r.length = [] := List.drop_eq_nil_of_le (by omega)
    refine ⟨fun k hk => ?_, ?_⟩
    · simp at hk
      rw [List.take_append_of_le_length (by simp; omega), ← List.map_take, List.take_range, Nat.min_eq_left (by omega), hW1 k (by omega)]
      exact hmid _
    · rw [applyW_append, hW1', hd]
      show IsTape ((enc l ++ (0 :: (r ++ []))).set n r.length) _
      rw [hset]
      exact hfin [] (.inl rfl)
/-- A blank tape. -/
theorem blank_tape (n : Nat) : IsTape (List.replicate n 0) [] := by
  refine ⟨by intro r hr; simp at hr, List.replicate n 0, by simp [enc], ?_⟩
  cases n with
  | zero => exact .inl rfl
  | succ n => exact .inr ⟨List.replicate n 0, rfl⟩
theorem putW_at {len at0 : Nat} {r : List Nat} (h : at0 + 1 + r.length ≤ len) : ∀ p ∈ putW len at0 r, at0 ≤ p.1 ∧ p.1 < len := by
  intro p hp
  unfold putW at hp
  rcases List.mem_append.1 hp with h1 | h1
  · obtain ⟨i, hi, rfl⟩ := List.mem_map.1 h1
    have := List.mem_range.1 hi
    dsimp only; omega
  · rcases List.mem_append.1 h1 with h2 | h2
    · split at h2
      · simp at h2; subst h2; dsimp only; omega
      · simp at h2
    · simp at h2; subst h2; dsimp only; omega
theorem putW_len (len at0 : Nat) (r : List Nat) : r.length + 1 ≤ (putW len at0 r).length ∧ (putW len at0 r).length ≤ r.length + 2 := by
  unfold putW
  split <;> simp
theorem putW_lt {len at0 : Nat} {r : List Nat} (hr : r.length ≤ 64 ∧ ∀ x ∈ r, x < 4294967296) : ∀ p ∈ putW len at0 r, p.2 < 4294967296 := by
  intro p hp
  unfold putW at hp
  rcases List.mem_append.1 hp with h1 | h1
  · obtain ⟨i, hi, rfl⟩ := List.mem_map.1 h1
    have hi := List.mem_range.1 hi
    dsimp only
    have e : r.getD i 0 = r[i] := by simp [hi]
    rw [e]; exact hr.2 _ (List.getElem_mem hi)
  · rcases List.mem_append.1 h1 with h2 | h2
    · split at h2
      · simp at h2; subst h2; dsimp only; omega
      · simp at h2
    · simp at h2; subst h2; dsimp only; omega
end Go.Proofs.Ytfifkfkbfllnfaa

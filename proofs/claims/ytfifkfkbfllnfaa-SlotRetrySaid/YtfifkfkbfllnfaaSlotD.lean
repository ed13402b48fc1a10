/- Two slots for a record: plain. -/
import Derived.Test.YtfifkfkbfllnfaaDiskD
namespace Go.Proofs.Ytfifkfkbfllnfaa
open Go.RowKit
set_option linter.unusedVariables false
/-- The mark of a slot. -/
def slMk (m : Nat) : Nat := if 3 < m then 0 else m
theorem slMk_le (m : Nat) : slMk m ≤ 3 := by unfold slMk; split <;> omega
theorem slMk_of {m : Nat} (h : m ≤ 3) : slMk m = m := by unfold slMk; rw [if_neg (by omega)]
/-- The mark behind a mark. -/
def slNx (m : Nat) : Nat := m % 3 + 1
/-- The newer slot of two marks; 2: none is good. -/
def slNew (a b : Nat) : Nat := if a = 0 ∧ b = 0 then 2 else if a = 0 then 1 else if b = 0 ∨ a = b ∨ slNx b = a then 0 else 1
/-- Slots that hold this record, at s. -/
def IsSl (C : List Nat) (n : Nat) (r : List Nat) (s : Nat) : Prop :=
  ∃ m0 r0 m1 r1, C = (m0 :: r0) ++ (m1 :: r1) ∧ r0.length = n ∧ r1.length = n ∧ slNew (slMk m0) (slMk m1) = s ∧ s < 2 ∧ r = (if s = 0 then r0 else r1)
theorem IsSl.len {C : List Nat} {n : Nat} {r : List Nat} {s : Nat} (h : IsSl C n r s) : C.length = 2 * (n + 1) := by
  obtain ⟨m0, r0, m1, r1, rfl, h0, h1, _⟩ := h
  simp [h0, h1]; omega
theorem IsSl.rlen {C : List Nat} {n : Nat} {r : List Nat} {s : Nat} (h : IsSl C n r s) : r.length = n := by
  obtain ⟨m0, r0, m1, r1, _, h0, h1, _, _, rfl⟩ := h
  split <;> assumption
/-- The writes of a half. -/
def halfW (at0 : Nat) (r : List Nat) (x : Nat) : List (Nat × Nat) := (at0, 0) :: ((List.range r.length).map (fun i => (at0 + 1 + i, r.getD i 0)) ++ [(at0, x)])
theorem halfW_len (at0 : Nat) (r : List Nat) (x : Nat) : (halfW at0 r x).length = r.length + 2 := by simp [halfW]
theorem halfW_at {at0 : Nat} {r : List Nat} {x : Nat} : ∀ p ∈ halfW at0 r x, at0 ≤ p.1 ∧ p.1 < at0 + 1 + r.length := by
  intro p hp
  unfold halfW at hp
  rcases List.mem_cons.1 hp with rfl | hp
  · dsimp only; omega
  · rcases List.mem_append.1 hp with h | h
    · obtain ⟨i, hi, rfl⟩ := List.mem_map.1 h
      have := List.mem_range.1 hi
      dsimp only; omega
    · simp at h; subst h; dsimp only; omega
theorem halfW_lt {at0 : Nat} {r : List Nat} {x : Nat} (hr : ∀ y ∈ r, y < 4294967296) (hx : x < 4294967296) : ∀ p ∈ halfW at0 r x, p.2 < 4294967296 := by
  intro p hp
  unfold halfW at hp
  rcases List.mem_cons.1 hp with rfl | hp
  · dsimp only; omega
  · rcases List.mem_append.1 hp with h | h
    · obtain ⟨i, hi, rfl⟩ := List.mem_map.1 h
      have hi := List.mem_range.1 hi
      dsimp only
      have e : r.getD i 0 = r[i] := by simp [hi]
      rw [e]; exact hr _ (List.getElem_mem hi)
    · simp at h; subst h; exact hx
/-- Behind the mark and k words. -/
theorem half_mid (pre : List Nat) (m : Nat) (r post rec : List Nat) (hr : rec.length = r.length) (k : Nat) (hk : k ≤ rec.length) :
    applyW (pre ++ (m :: r) ++ post) ((pre.length, 0) :: (List.range k).map (fun i => (pre.length + 1 + i, rec.getD i 0))) = pre ++ (0 :: (rec.take k ++ r.drop k)) ++ post := by
  have e1 : applyW (pre ++ (m :: r) ++ post) ((pre.length, 0) :: (List.range k).map (fun i => (pre.length + 1 + i, rec.getD i 0))) =
      applyW ((pre ++ [0]) ++ (r ++ post)) ((List.range k).map (fun i => ((pre ++ [0]).length + i, rec.getD i 0))) := by
    show applyW ((pre ++ (m :: r) ++ post).set pre.length 0) _ = _
    congr 1
    · rw [List.append_assoc, List.set_append_right _ _ (Nat.le_refl _), Nat.sub_self]
      simp
    · simp
  rw [e1, applyW_range _ _ _ k hk (by simp; omega)]
  have e2 : (r ++ post).drop k = r.drop k ++ post := by rw [List.drop_append_of_le_length (by omega)]
  rw [e2]
  simp
theorem half_take (at0 : Nat) (r : List Nat) (x k : Nat) (hk : k ≤ r.length) : (halfW at0 r x).take (k + 1) = (at0, 0) :: (List.range k).map (fun i => (at0 + 1 + i, r.getD i 0)) := by
  unfold halfW
  rw [List.take_succ_cons, List.take_append_of_le_length (by simpa using hk), ← List.map_take, List.take_range, Nat.min_eq_left hk]
theorem half_all (pre : List Nat) (m : Nat) (r post rec : List Nat) (hr : rec.length = r.length) (x : Nat) : applyW (pre ++ (m :: r) ++ post) (halfW pre.length rec x) = pre ++ (x :: rec) ++ post := by
  have e : halfW pre.length rec x = ((pre.length, 0) :: (List.range rec.length).map (fun i => (pre.length + 1 + i, rec.getD i 0))) ++ [(pre.length, x)] := by simp [halfW]
  rw [e, applyW_append, half_mid pre m r post rec hr _ (Nat.le_refl _)]
  show (pre ++ (0 :: (rec.take rec.length ++ r.drop rec.length)) ++ post).set pre.length x = _
  rw [List.take_length, List.drop_eq_nil_of_le (by omega), List.append_nil, List.append_assoc, List.set_append_right _ _ (Nat.le_refl _), Nat.sub_self]
  simp
/-- The writes of a record. -/
def slW (C : List Nat) (n : Nat) (rec : List Nat) (s : Nat) : List (Nat × Nat) := halfW ((1 - s) * (n + 1)) rec (slNx (slMk (C.getD (s * (n + 1)) 0)))
theorem slNew_mid {a b s : Nat} (ha : a ≤ 3) (hb : b ≤ 3) (h : slNew a b = s) (hs : s < 2) : (s = 0 → slNew a 0 = 0) ∧ (s = 1 → slNew 0 b = 1) := by
  have key : ∀ a b : Fin 4, (slNew a b = 0 → slNew a 0 = 0) ∧ (slNew a b = 1 → slNew 0 b = 1) := by decide
  have := key ⟨a, by omega⟩ ⟨b, by omega⟩
  exact ⟨fun e => this.1 (by rw [e] at h; exact h), fun e => this.2 (by rw [e] at h; exact h)⟩
theorem slNew_next {a b s : Nat} (ha : a ≤ 3) (hb : b ≤ 3) (h : slNew a b = s) (hs : s < 2) : (s = 0 → slNew a (slNx a) = 1) ∧ (s = 1 → slNew (slNx b) b = 0) := by
  have key : ∀ a b : Fin 4, (slNew a b = 0 → slNew a (slNx a) = 1) ∧ (slNew a b = 1 → slNew (slNx b) b = 0) := by decide
  have := key ⟨a, by omega⟩ ⟨b, by omega⟩
  exact ⟨fun e => this.1 (by rw [e] at h; exact h), fun e => this.2 (by rw [e] at h; exact h)⟩
theorem slNx_le (m : Nat) : slNx m ≤ 3 := by unfold slNx; omega
/-- Behind any number of the writes but all the old record is there; behind all, the new one. -/
theorem sl_store {C : List Nat} {n : Nat} {old rec : List Nat} {s : Nat} (h : IsSl C n old s) (hr : rec.length = n) :
    (∀ k, k < (slW C n rec s).length → IsSl (applyW C ((slW C n rec s).take k)) n old s) ∧ IsSl (applyW C (slW C n rec s)) n rec (1 - s) := by
  have hall := h
  obtain ⟨m0, r0, m1, r1, rfl, h0, h1, hs, hs2, ho⟩ := h
  obtain ⟨q1, q2⟩ := slNew_mid (slMk_le m0) (slMk_le m1) hs hs2
  obtain ⟨t1, t2⟩ := slNew_next (slMk_le m0) (slMk_le m1) hs hs2
  have hz : slMk 0 = 0 := rfl
  rcases (show s = 0 ∨ s = 1 by omega) with rfl | rfl
  · have e0 : slW (m0 :: r0 ++ m1 :: r1) n rec 0 = halfW (m0 :: r0).length rec (slNx (slMk m0)) := by
      unfold slW; simp [h0]
    rw [e0]
    have key := half_mid (m0 :: r0) m1 r1 [] rec (by omega)
    have key2 := half_all (m0 :: r0) m1 r1 [] rec (by omega) (slNx (slMk m0))
    rw [List.append_nil, List.append_nil] at key2
    refine ⟨fun k hk => ?_, ?_⟩
    · match k with
      | 0 => exact hall
      | k + 1 =>
        rw [halfW_len] at hk
        have key := key k (by omega)
        rw [List.append_nil, List.append_nil] at key
        rw [half_take _ _ _ _ (by omega), key]
        exact ⟨m0, r0, 0, rec.take k ++ r1.drop k, rfl, h0, by simp; omega, by rw [hz]; exact q1 rfl, by omega, ho⟩
    · rw [key2]
      exact ⟨m0, r0, slNx (slMk m0), rec, rfl, h0, hr, by rw [slMk_of (slNx_le _)]; exact t1 rfl, by omega, rfl⟩
  · have e0 : slW (m0 :: r0 ++ m1 :: r1) n rec 1 = halfW ([] : List Nat).length rec (slNx (slMk m1)) := by
      unfold slW
      have : (m0 :: r0 ++ m1 :: r1).getD (1 * (n + 1)) 0 = m1 := by
        rw [List.getD_eq_getElem?_getD, List.getElem?_append_right (by simp; omega)]
        simp [h0]
      rw [this]; simp
    rw [e0]
    have key := half_mid [] m0 r0 (m1 :: r1) rec (by omega)
    have key2 := half_all [] m0 r0 (m1 :: r1) rec (by omega) (slNx (slMk m1))
    rw [List.nil_append, List.nil_append] at key2
    refine ⟨fun k hk => ?_, ?_⟩
    · match k with
      | 0 => exact hall
      | k + 1 =>
        rw [halfW_len] at hk
        have key := key k (by omega)
        rw [List.nil_append, List.nil_append] at key
        rw [half_take _ _ _ _ (by omega), key]
        exact ⟨0, rec.take k ++ r0.drop k, m1, r1, rfl, by simp; omega, h1, by rw [hz]; exact q2 rfl, by omega, ho⟩
    · rw [key2]
      exact ⟨slNx (slMk m1), rec, m1, r1, rfl, hr, h1, by rw [slMk_of (slNx_le _)]; exact t2 rfl, by omega, rfl⟩
/-- The marks and the record, where they stand. -/
theorem IsSl.marks {C : List Nat} {n : Nat} {r : List Nat} {s : Nat} (h : IsSl C n r s) : ∃ m0 m1, C[0]? = some m0 ∧ C[n + 1]? = some m1 ∧ slNew (slMk m0) (slMk m1) = s ∧ s < 2 := by
  obtain ⟨m0, r0, m1, r1, rfl, h0, h1, hs, hs2, ho⟩ := h
  exact ⟨m0, m1, rfl, by rw [List.getElem?_append_right (by simp; omega)]; simp [h0], hs, hs2⟩
theorem IsSl.rec_ {C : List Nat} {n : Nat} {r : List Nat} {s : Nat} (h : IsSl C n r s) : (C.drop (s * (n + 1) + 1)).take n = r := by
  obtain ⟨m0, r0, m1, r1, rfl, h0, h1, hs, hs2, ho⟩ := h
  rcases (show s = 0 ∨ s = 1 by omega) with rfl | rfl
  · rw [if_pos rfl] at ho
    subst ho; subst h0
    simp
  · rw [if_neg (by omega)] at ho
    subst ho; subst h0
    have e : (m0 :: r0 ++ m1 :: r).drop (1 * (r0.length + 1) + 1) = r := by
      rw [show 1 * (r0.length + 1) + 1 = (m0 :: r0).length + 1 by simp, ← List.drop_drop, List.drop_left]; rfl
    rw [e, ← h1, List.take_length]
/-- Fresh slots. -/
theorem fresh_sl (n : Nat) : IsSl (1 :: List.replicate (2 * n + 1) 0) n (List.replicate n 0) 0 := by
  refine ⟨1, List.replicate n 0, 0, List.replicate n 0, ?_, by simp, by simp, by decide, by omega, rfl⟩
  rw [show 2 * n + 1 = n + (n + 1) by omega, ← List.replicate_append_replicate, List.replicate_succ]
  rfl
/-- A record of n words. -/
def fitN (l : List Nat) (n : Nat) : List Nat := (List.range n).map fun i => l.getD i i
theorem fitN_len (l : List Nat) (n : Nat) : (fitN l n).length = n := by simp [fitN]
theorem fitN_succ (l : List Nat) (n : Nat) : fitN l (n + 1) = fitN l n ++ [l.getD n n] := by simp [fitN, List.range_succ]
theorem fitN_lt {l : List Nat} {n : Nat} (h : ∀ x ∈ l, x < 4294967296) (hn : n ≤ 1000) : ∀ x ∈ fitN l n, x < 4294967296 := by
  intro x hx
  obtain ⟨i, hi, rfl⟩ := List.mem_map.1 hx
  have hi := List.mem_range.1 hi
  by_cases hl : i < l.length
  · rw [show l.getD i i = l[i] by simp [hl]]; exact h _ (List.getElem_mem hl)
  · rw [show l.getD i i = i by rw [List.getD_eq_getElem?_getD, List.getElem?_eq_none (by omega)]; rfl]; omega
end Go.Proofs.Ytfifkfkbfllnfaa

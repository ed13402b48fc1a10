/- debt: fault, total, Total, Recover. -/
import Derived.Test.YtnpkondgpmncnaaDebtD
import Derived.Test.YtnpkondgpmncnaaCents
namespace Go.Proofs.Ytnpkondgpmncnaa
open Go.RowKit

def dsum (l : List (Nat × Nat)) : Nat := (l.map Prod.fst).sum
theorem dsum_append (a b : List (Nat × Nat)) : dsum (a ++ b) = dsum a + dsum b := by simp [dsum]
theorem dsum_le {l : List (Nat × Nat)} (h : ∀ p ∈ l, p.1 ≤ 1000000000) : dsum l ≤ 1000000000 * l.length := by
  induction l with
  | nil => simp [dsum]
  | cons p l ih =>
    have h1 := h p (by simp)
    have h2 := ih (fun q hq => h q (by simp [hq]))
    have e : dsum (p :: l) = p.1 + dsum l := by simp [dsum]
    rw [e, List.length_cons]; omega
theorem take_snoc {l : List (Nat × Nat)} {k : Nat} (h : k < l.length) : l.take (k + 1) = l.take k ++ [l[k]] := List.take_succ_eq_append_getElem h
/-- One debt of the recovery: what is paid so far, and what is left of the debts so far. -/
def recStep (share : Nat) (s : Nat × List (Nat × Nat)) (d : Nat × Nat) : Nat × List (Nat × Nat) :=
  (s.1 + min d.1 (share - s.1), if d.1 - min d.1 (share - s.1) = 0 then s.2 else s.2 ++ [(d.1 - min d.1 (share - s.1), d.2)])
def recov (share : Nat) (l : List (Nat × Nat)) : Nat × List (Nat × Nat) := l.foldl (recStep share) (0, [])
theorem recov_snoc (share : Nat) (l : List (Nat × Nat)) (d : Nat × Nat) : recov share (l ++ [d]) = recStep share (recov share l) d := by simp [recov]
/-- What holds behind some debts. -/
theorem recov_inv (share : Nat) (l : List (Nat × Nat)) (hl : ∀ p ∈ l, p.1 ≤ 1000000000 ∧ p.2 ≤ 10000) : (recov share l).1 ≤ share ∧ (recov share l).1 + dsum (recov share l).2 = dsum l ∧ (recov share l).2.length ≤ l.length ∧ ∀ p ∈ (recov share l).2, 1 ≤ p.1 ∧ p.1 ≤ 1000000000 ∧ p.2 ≤ 10000 := by
  have key : ∀ k, k ≤ l.length → (recov share (l.take k)).1 ≤ share ∧ (recov share (l.take k)).1 + dsum (recov share (l.take k)).2 = dsum (l.take k) ∧ (recov share (l.take k)).2.length ≤ k ∧ ∀ p ∈ (recov share (l.take k)).2, 1 ≤ p.1 ∧ p.1 ≤ 1000000000 ∧ p.2 ≤ 10000 := by
    intro k
    induction k with
    | zero => intro _; simp [recov, dsum]
    | succ k ih =>
      intro hk
      have hk' : k < l.length := by omega
      obtain ⟨h1, h2, h3, h4⟩ := ih (by omega)
      have hd := hl _ (List.getElem_mem hk')
      rw [take_snoc hk', recov_snoc, dsum_append]
      generalize l[k] = d at *
      have e : dsum [d] = d.1 := by simp [dsum]
      rw [e]
      generalize recov share (l.take k) = s at *
      obtain ⟨paid, out⟩ := s
      dsimp only at h1 h2 h3 h4
      unfold recStep
      dsimp only
      split
      · exact ⟨by omega, by omega, by omega, h4⟩
      · refine ⟨by omega, ?_, by simp; omega, fun p hp => ?_⟩
        · rw [dsum_append]
          have : dsum [(d.1 - min d.1 (share - paid), d.2)] = d.1 - min d.1 (share - paid) := by simp [dsum]
          omega
        · rcases List.mem_append.1 hp with h | h
          · exact h4 p h
          · simp at h; subst h; dsimp only; omega
  have := key l.length (Nat.le_refl _)
  rwa [List.take_length] at this
theorem recov_paid (share : Nat) (l : List (Nat × Nat)) : (recov share l).1 = min share (dsum l) := by
  have key : ∀ k, k ≤ l.length → (recov share (l.take k)).1 = min share (dsum (l.take k)) := by
    intro k
    induction k with
    | zero => intro _; simp [recov, dsum]
    | succ k ih =>
      intro hk
      have hk' : k < l.length := by omega
      have h1 := ih (by omega)
      rw [take_snoc hk', recov_snoc, dsum_append]
      have e : dsum [l[k]] = l[k].1 := by simp [dsum]
      rw [e]
      unfold recStep
      dsimp only
      rw [h1]; omega
  have := key l.length (Nat.le_refl _)
  rwa [List.take_length] at this
set_option maxHeartbeats 1000000 in
theorem fault_ok (v : Value) (l : List (Nat × Nat)) (w : World) (hv : IsDs w v l) (hl : DOk l) :
    Calls Try.prog 52 #[v] w fun e w' => e = .returned (.int .i64 0) ∧ Below w.heap.size w w' := by
  obtain ⟨h8, hp⟩ := hl
  obtain ⟨A, c, rfl, h1, h2, h3⟩ := hv
  have hat := fun k hk => IsDs.at_ (l := l) ⟨A, c, rfl, h1, h2, h3⟩ (k := k) hk
  clear h1 h2 h3
  go_enter Try.func52, Try.ntmps52
  go_wp2
  go_loopw [4, 10] (fun _ i wr => ∃ k : Nat, k ≤ l.length ∧ i = .int .i64 k ∧ Below w.heap.size w wr) (fun _ i _ => l.length - (intOf i).toNat)
  case atStart => exact ⟨0, by omega, rfl, Below.refl _ _⟩
  case round =>
    obtain ⟨k, hk, rfl, hb⟩ := hrel
    by_cases hlt : k < l.length
    · obtain ⟨b, off, rfl, hB, q1, q2⟩ := hat k hlt
      have q1 := (hb.cell (p := ⟨b, off + k * 2, none⟩) hB).trans q1
      have q2 := (hb.cell (p := ⟨b, off + k * 2 + 1, none⟩) hB).trans q2
      obtain ⟨p1, p2⟩ := hp _ (List.getElem_mem hlt)
      clear hat hp
      generalize l[k] = p at *
      obtain ⟨x, y⟩ := p
      dsimp only at *
      have g1 : decide ((x : Int) < 0) = false := by simp
      have g2 : decide (1000000000 < (x : Int)) = false := by simp; omega
      have g3 : decide ((y : Int) < 0) = false := by simp
      have g4 : decide (10000 < (y : Int)) = false := by simp; omega
      go_wp2
      go_roundw
      case rel => exact ⟨k + 1, by omega, by go_num, hb.alloc hb.size _⟩
      case measure => simp [intOf]; omega
    · go_wp2
      go_ret
      exact ⟨rfl, hb⟩
end Go.Proofs.Ytnpkondgpmncnaa

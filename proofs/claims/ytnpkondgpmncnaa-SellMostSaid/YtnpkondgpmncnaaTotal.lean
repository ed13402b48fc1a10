/- debt.Total, sumOf. -/
import Derived.Test.YtnpkondgpmncnaaDebt
namespace Go.Proofs.Ytnpkondgpmncnaa
open Go.RowKit
theorem dsum_take {l : List (Nat × Nat)} {k : Nat} (h : k < l.length) : dsum (l.take (k + 1)) = dsum (l.take k) + l[k].1 := by
  rw [take_snoc h, dsum_append]; simp [dsum]
theorem dsum_take_le {l : List (Nat × Nat)} (hl : DOk l) (k : Nat) : dsum (l.take k) ≤ 8000000000 := by
  have h1 := dsum_le (l := l.take k) (fun p hp => (hl.2 p (List.mem_of_mem_take hp)).1)
  have h2 : (l.take k).length ≤ 8 := by have := hl.1; simp; omega
  omega
set_option maxHeartbeats 1000000 in
theorem listTotal_ok (v : Value) (l : List (Nat × Nat)) (w : World) (hv : IsDs w v l) (hl : DOk l) :
    Calls Try.prog 53 #[v] w fun e w' => e = .returned (.int .i64 (dsum l : Nat)) ∧ Below w.heap.size w w' := by
  have hd := dsum_take_le hl
  obtain ⟨h8, hp⟩ := hl
  have hv0 := hv
  obtain ⟨A, c, rfl, h1, h2, h3⟩ := hv
  have hat := fun k hk => hv0.at_ (k := k) hk
  clear h1 h2 h3 hv0
  go_enter Try.func53, Try.ntmps53
  go_wp2
  go_loopw [3, 5, 8] (fun s _ i wr => ∃ k m : Nat, k ≤ l.length ∧ i = .int .i64 k ∧ s = .int .i64 m ∧ Hid (dsum (l.take k) = m) ∧ m ≤ 8000000000 ∧ Below w.heap.size w wr) (fun _ _ i _ => l.length - (intOf i).toNat)
  case atStart => exact ⟨0, 0, by omega, rfl, rfl, rfl, by omega, Below.refl _ _⟩
  case round =>
    obtain ⟨k, m, hk, rfl, rfl, hm, hm8, hb⟩ := hrel
    by_cases hlt : k < l.length
    · obtain ⟨b, off, rfl, hB, q1, q2⟩ := hat k hlt
      have q1 := (hb.cell (p := ⟨b, off + k * 2, none⟩) hB).trans q1
      have q2 := (hb.cell (p := ⟨b, off + k * 2 + 1, none⟩) hB).trans q2
      have hp1 := (hp _ (List.getElem_mem hlt)).1
      have HS := Lib.hid (dsum_take hlt)
      have hd1 := hd (k + 1)
      rw [HS.out, hm.out] at hd1
      clear hat hp hd
      generalize l[k] = p at *
      obtain ⟨x, y⟩ := p
      dsimp only at *
      go_wp2
      go_roundw
      case rel => exact ⟨k + 1, m + x, by omega, by go_num, by go_num, by show _ = _; rw [HS.out, hm.out], by omega, hb.alloc hb.size _⟩
      case measure => simp [intOf]; omega
    · obtain rfl : k = l.length := by omega
      have hm : Hid (dsum l = m) := by have := hm.out; rwa [List.take_length] at this
      go_wp2
      go_ret
      exact ⟨by rw [hm.out]; rfl, hb⟩
theorem total_ok (v : Value) (l : List (Nat × Nat)) (w : World) (hv : IsDs w v l) (hl : DOk l) :
    Calls Try.prog 25 #[v] w fun e w' => e = .returned (.tuple #[.int .i64 (dsum l : Nat), .int .i64 0]) ∧ Below w.heap.size w w' := by
  have hv0 := hv
  obtain ⟨A, c, rfl, h1, h2, h3⟩ := hv
  clear h1 h2 h3
  go_enter Try.func25, Try.ntmps25
  go_wp2_with fail
  refine (fault_ok _ l _ hv0 hl).mono ?_
  rintro e wa ⟨rfl, hb⟩
  go_wp2_with fail
  refine (listTotal_ok _ l _ (hv0.below hb) hl).mono ?_
  rintro e wb ⟨rfl, hb2⟩
  go_wp2
  go_ret2
  exact ⟨rfl, hb.step hb2⟩
end Go.Proofs.Ytnpkondgpmncnaa

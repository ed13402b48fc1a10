/- tariff.Price. -/
import Derived.Test.YtnpkondgpmncnaaBill
namespace Go.Proofs.Ytnpkondgpmncnaa
open Go.RowKit
set_option linter.unusedVariables false
theorem bill_is (v : Value) (l : List (Nat × Nat)) (fi ni : Int) (f n : Nat) (L : List (Nat × Nat)) (w : World) (hv : IsDs w v l) (ha : Ask l f n) (hf : Hid (fi = (f : Int))) (hn : Hid (ni = (n : Int))) (hL : Hid (bills (pcs l f) n = L)) :
    Calls Try.prog 60 #[v, .int .i64 fi, .int .i64 ni] w (RetLs L w) := by
  rw [hf.out, hn.out, ← hL.out]; exact bill_ok v l f n w hv ha
set_option maxRecDepth 100000 in
set_option maxHeartbeats 1000000 in
theorem price_is (v : Value) (l : List (Nat × Nat)) (fi ni : Int) (f n P : Nat) (w : World) (hv : IsDs w v l) (ha : Ask l f n) (hf : Hid (fi = (f : Int))) (hn : Hid (ni = (n : Int))) (hP : Hid (cost (pcs l f) n = P)) :
    Calls Try.prog 31 #[v, .int .i64 fi, .int .i64 ni] w fun e w' => e = .returned (.tuple #[.int .i64 (P : Int), .int .i64 0]) ∧ Below w.heap.size w w' := by
  obtain ⟨L, hL⟩ : ∃ L, Hid (bills (pcs l f) n = L) := ⟨_, rfl⟩
  have hB := fun W h => bill_is v l fi ni f n L W h ha hf hn hL
  have hbd : ∀ p ∈ L, 1 ≤ p.1 ∧ p.1 ≤ 10000000 ∧ 1 ≤ p.2 ∧ p.2 ≤ 100000 := by rw [← hL.out]; exact bills_bd _ n (pcs_bd l f ha.tariff.bd)
  have hL8 : L.length ≤ 8 := by rw [← hL.out]; exact Nat.le_trans (bills_len _ _) (Nat.le_trans (pcs_len l f) ha.tariff.len)
  have hLP : Hid (lsum L = P) := by show _ = _; rw [← hL.out, bills_cost]; exact hP.out
  obtain ⟨Av, mv, cv, rfl⟩ : ∃ A m c, v = .slice A m c := by obtain ⟨A, c, e, _⟩ := hv; exact ⟨A, _, c, e⟩
  have hv0 := hv
  clear hv ha
  go_enter Try.func31, Try.ntmps31
  go_wp2_with fail
  refine (hB _ hv0).mono ?_
  rintro e w1 ⟨A, c, rfl, hown, hb1⟩
  have hrd := Rd.of_own hown
  obtain ⟨N, hN⟩ : ∃ N, L.length = N := ⟨_, rfl⟩
  rw [hN] at hrd hL8
  have HN := Lib.hid hN
  rw [hN]
  clear hB hown hN hv0
  go_wp2_with fail
  go_loopw [10, 12, 22] (fun s _ i wr => ∃ k m : Nat, k ≤ N ∧ i = .int .i64 k ∧ s = .int .i64 m ∧ Hid (lsum (L.take k) = m) ∧ m ≤ k * 1000000000000 ∧ Below w1.heap.size w1 wr) (fun _ _ i _ => N - (intOf i).toNat)
  case atStart => exact ⟨0, 0, by omega, rfl, rfl, rfl, by omega, Below.refl _ _⟩
  case round =>
    obtain ⟨k, m, hk, rfl, rfl, hm, hm8, hb⟩ := hrel
    by_cases hlt : k < N
    · have hkl : k < L.length := by rw [HN.out]; exact hlt
      obtain ⟨b, off, rfl, hB, hc⟩ := hrd.at_ (by omega)
      obtain ⟨q1, q2, q3⟩ := lns_get hkl
      have p1 := (hb.cell (p := ⟨b, off + k * 3, none⟩) hB).trans (hc _ _ q1)
      have p2 := (hb.cell (p := ⟨b, off + k * 3 + 1, none⟩) hB).trans (hc _ _ q2)
      have p3 := (hb.cell (p := ⟨b, off + k * 3 + 2, none⟩) hB).trans (hc _ _ q3)
      obtain ⟨_, z1, _, z2⟩ := hbd _ (List.getElem_mem hkl)
      have HS : Hid (lsum (L.take (k + 1)) = m + L[k].1 * L[k].2) := by show _ = _; rw [List.take_succ_eq_append_getElem hkl, lsum_snoc, hm.out]
      have hz := Nat.mul_le_mul z1 z2
      clear hc hbd q1 q2 q3
      generalize L[k] = p at *
      obtain ⟨x, y⟩ := p
      simp only at HS hz z1 z2 p1 p2 p3
      obtain ⟨t, ht⟩ : ∃ t, x * y = t := ⟨_, rfl⟩
      rw [ht] at HS hz p3
      clear ht
      go_wp2
      go_roundw
      case rel => exact ⟨k + 1, m + t, by omega, by go_num, by go_num, HS, by omega, hb.alloc hb.size _⟩
      case measure => (simp [intOf]; try omega)
    · obtain rfl : k = N := by omega
      have hm : Hid (lsum L = m) := by have := hm.out; rwa [List.take_of_length_le (by rw [HN.out]; exact Nat.le_refl _)] at this
      obtain rfl : m = P := by rw [← hm.out]; exact hLP.out
      clear hbd hrd
      go_wp2
      go_ret2
      exact ⟨rfl, hb1.step hb⟩
end Go.Proofs.Ytnpkondgpmncnaa

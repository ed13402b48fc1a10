/- sameRecords. -/
import Derived.Test.YtfifkfkbfllnfaaTape
namespace Go.Proofs.Ytfifkfkbfllnfaa
open Go.RowKit
theorem same_qa (a b : Value) (xs : List Nat) (w : World) (k n : Nat) (ha : IsWs w a xs) (hb : IsWs w b xs) :
    Calls Try.prog 21 #[a, b] (w.drewN (k + n)) fun e w' => e = .returned (.bool true) ∧ ∃ m, w' = w.drewN (k + m) :=
  (same_any a b xs xs _ (ha.drawn _) (hb.drawn _)).mono fun _ _ h => ⟨by rw [h.1, decide_eq_true rfl], by obtain ⟨m, rfl⟩ := h.2; exact ⟨n + m, by rw [World.drewN_drewN, Nat.add_assoc]⟩⟩
set_option maxRecDepth 100000 in
set_option maxHeartbeats 1000000 in
/-- Rows that read as the same records: the answer is yes. -/
theorem sameR_ok (a b : Value) (L : List (List Nat)) (w : World) (ha : IsRr w a L) (hb : IsRr w b L) :
    Calls Try.prog 24 #[a, b] w fun e w' => e = .returned (.bool true) ∧ ∃ m, w' = w.drewN m := by
  have ha0 := ha
  have hb0 := hb
  obtain ⟨A, c, _, rfl, hc1, hc2, _, _⟩ := ha
  obtain ⟨B, d, _, rfl, _, _, _, _⟩ := hb
  have hA := fun k hk => ha0.at_ (k := k) hk
  have hB := fun k hk => hb0.at_ (k := k) hk
  obtain ⟨n, hn⟩ : ∃ n, L.length = n := ⟨_, rfl⟩
  have hlx : n ≤ 9223372036854775807 := by unfold maxLen at hc2; omega
  clear ha0 hb0 hc1 hc2
  rw [hn]
  go_enter Try.func24, Try.ntmps24
  go_wp2
  go_loopw [5] (fun i wr => ∃ k : Nat, k ≤ n ∧ i = .int .i64 k ∧ ∃ m, wr = w.drewN m) (fun i _ => n - (intOf i).toNat)
  case atStart => exact ⟨0, by omega, rfl, 0, rfl⟩
  case round =>
    obtain ⟨k, hk, rfl, m, rfl⟩ := hrel
    by_cases hlt : k < n
    · obtain ⟨b1, o1, u, rfl, _, p1, hu⟩ := hA k (by omega)
      obtain ⟨b2, o2, v, rfl, _, q1, hv⟩ := hB k (by omega)
      clear hA hB
      generalize L[k] = r at *
      go_wp2_with fail
      go_quiet ((first | (go_at_call 21; first | exact same_qa _ _ _ w _ _ hu hv | exact same_q _ _ _ _ _ _ (hu.drawn _) (hv.drawn _) rfl)))
      go_wp2
      go_roundw
      case rel => exact ⟨k + 1, by omega, by go_num, _, rfl⟩
      case measure => simp [intOf]; omega
    · go_wp2
      go_ret
      exact ⟨rfl, m, rfl⟩
end Go.Proofs.Ytfifkfkbfllnfaa

/- sameDebts. -/
import Derived.Test.YtpcgpnkmjjamhaaGreatM4
namespace Go.Proofs.YtpcgpnkmjjamhaaGreat
open Go.RowKit
set_option maxHeartbeats 1000000 in
theorem sameD_ok (a b : Value) (xs : List (Nat × Nat)) (w : World) (ha : IsDs w a xs) (hb : IsDs w b xs) :
   Calls Tryz.prog 52 #[a, b] w fun e w' => e = .returned (.bool true) ∧ ∃ m, w' = w.drewN m := by
 have ha0 := ha
 have hb0 := hb
 obtain ⟨A, c, rfl, hc1, hc2, _⟩ := ha
 obtain ⟨B, d, rfl, _, _, _⟩ := hb
 have hA := fun k hk => ha0.at_ (k := k) hk
 have hB := fun k hk => hb0.at_ (k := k) hk
 have hlx : xs.length ≤ 9223372036854775807 := by unfold maxLen at hc2; omega
 clear ha0 hb0 hc1 hc2
 go_enter Tryz.func52, Tryz.ntmps52
 go_wp2
 go_loopw [5] (fun i wr => ∃ k : Nat, k ≤ xs.length ∧ i = .int .i64 k ∧ ∃ m, wr = w.drewN m) (fun i _ => xs.length - (intOf i).toNat)
 case atStart => exact ⟨0, by omega, rfl, 0, rfl⟩
 case round =>
   obtain ⟨k, hk, rfl, m, rfl⟩ := hrel
   by_cases hlt : k < xs.length
   · obtain ⟨b1, o1, rfl, _, p1, p2⟩ := hA k hlt
     obtain ⟨b2, o2, rfl, _, q1, q2⟩ := hB k hlt
     clear hA hB
     generalize xs[k] = p at *
     obtain ⟨x, y⟩ := p
     dsimp only at *
     go_wp2_with fail
     go_quiet (fail)
     go_wp2
     go_roundw
     case rel => exact ⟨k + 1, by omega, by go_num, _, rfl⟩
     case measure => simp [intOf]; omega
   · go_wp2
     go_ret
     exact ⟨rfl, m, rfl⟩
theorem sameD_is (a b : Value) (xs : List (Nat × Nat)) (w : World) (ha : IsDs w a xs) (hb : IsDs w b xs) :
   Calls Tryz.prog 52 #[a, b] w fun e w' => e = .returned (.bool true) ∧ Below w.heap.size w w' :=
 (sameD_ok a b xs w ha hb).mono fun _ _ h => ⟨h.1, by obtain ⟨m, rfl⟩ := h.2; exact below_draws (Below.refl _ _) m⟩
end Go.Proofs.YtpcgpnkmjjamhaaGreat

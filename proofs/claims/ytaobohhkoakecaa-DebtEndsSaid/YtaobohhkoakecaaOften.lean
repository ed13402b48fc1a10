/- debt.Times. -/
import Derived.Test.YtaobohhkoakecaaRecov
import Derived.Test.YtaobohhkoakecaaTotal
namespace Go.Proofs.Ytaobohhkoakecaa
open Go.RowKit
set_option maxHeartbeats 1000000 in
theorem often_ok (v : Value) (l : List (Nat × Nat)) (t b S s n : Nat) (w : World) (hv : IsDs w v l) (hl : DOk l) (ht : t ≤ 100000000) (hb : b ≤ 10000) (hS : Hid ((t : Int) * (b : Int) / 10000 = (S : Int))) (hS1 : 1 ≤ S) (hS2 : S ≤ 100000000)
    (hs : Hid (dsum l = s)) (hs2 : s ≤ 8000000000) (hn : (s + S - 1) / S = n) :
    Calls Try.prog 27 #[v, .int .i64 t, .int .i64 b] w fun e w' => e = .returned (.tuple #[.int .i64 n, .int .i64 0]) ∧ Below w.heap.size w w' := by
  have hT := fun W h => listTotal_ok v l W h hl
  rw [hs.out] at hT
  have hv0 := hv
  have n0 : s = 0 → n = 0 := by
    rintro rfl
    rw [← hn]; exact Nat.div_eq_of_lt (by omega)
  have hn9 : n ≤ 9000000000 := by rw [← hn]; exact Nat.le_trans (Nat.div_le_self _ _) (by omega)
  have e0 : ((s : Int) + (S : Int) - 1) = ((s + S - 1 : Nat) : Int) := by omega
  have e1 : ((s : Int) + (S : Int) - 1) / (S : Int) = (n : Int) := by rw [e0, ← Int.natCast_ediv, hn]
  have e2 : ((s : Int) + (S : Int) - 1).tdiv (S : Int) = (n : Int) := by rw [Int.tdiv_eq_ediv_of_nonneg (by omega), e1]
  have g1 : decide (100000000 < (t : Int)) = false := by simp; omega
  obtain ⟨A, c, rfl, h1, h2, h3⟩ := hv
  clear h1 h2 h3 hn e0
  go_enter Try.func27, Try.ntmps27
  go_wp2_with fail
  refine (fault_ok _ l _ hv0 hl).mono ?_
  rintro e wa ⟨rfl, hba⟩
  go_wp2_with fail
  refine (part_is _ hS (by omega) (by omega) (by omega) (by omega)).mono ?_
  rintro e wb ⟨rfl, rfl⟩
  go_wp2_with fail
  refine (hT _ (hv0.below hba)).mono ?_
  rintro e wb ⟨rfl, hbb⟩
  clear hT hv0
  by_cases hs0 : s = 0
  · obtain rfl := n0 hs0
    subst hs0
    clear n0 e1 e2
    go_wp2
    go_ret2
    exact ⟨rfl, hba.step hbb⟩
  · clear n0
    have g2 : ((s : Int) == 0) = false := by simp; omega
    have g3 : ((S : Int) == 0) = false := by simp; omega
    go_wp2
    go_ret2
    exact ⟨rfl, hba.step hbb⟩
end Go.Proofs.Ytaobohhkoakecaa

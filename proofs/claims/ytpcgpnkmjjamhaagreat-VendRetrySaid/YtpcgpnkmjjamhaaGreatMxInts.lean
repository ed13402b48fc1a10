/- A slice of integers that came in. -/
import Derived.Test.YtpcgpnkmjjamhaaGreatM2
import Derived.Test.YtpcgpnkmjjamhaaGreatM1
namespace Go.Proofs.YtpcgpnkmjjamhaaGreat
open Go.RowKit
def IsInts (w : World) (v : Value) (n : Nat) (f : Nat → Int) : Prop :=
 ∃ (A : Option Addr) (c : Nat), v = .slice A n c ∧ n ≤ c ∧ c ≤ maxLen ∧ (∀ i, i < n → (Lit.int .i64 (f i)).wf = true) ∧
   ∀ i, i < n → ∃ b off, A = some ⟨b, off, none⟩ ∧ b < w.heap.size ∧ w.cell? ⟨b, off + i, none⟩ = some (.int .i64 (f i))
theorem IsInts.below {w w' : World} {v : Value} {n : Nat} {f : Nat → Int} (h : IsInts w v n f) (hb : Below w.heap.size w w') : IsInts w' v n f := by
 obtain ⟨A, c, h1, h2, h3, h4, h5⟩ := h
 refine ⟨A, c, h1, h2, h3, h4, fun i hi => ?_⟩
 obtain ⟨b, off, e, hB, hc⟩ := h5 i hi
 exact ⟨b, off, e, Nat.lt_of_lt_of_le hB hb.size, (hb.cell (p := ⟨b, _, none⟩) hB).trans hc⟩
theorem ints_fit {v : Value} {w : World} (h : Fit Tryz.prog w 81 v) : ∃ n f, IsInts w v n f := by
 obtain ⟨n, f, A, c, h1, h2, h3, h4, h5⟩ := h.rows Tryz.underlying81 (ks := [.i64]) (by kernel_rfl) (by decide) (by kernel_rfl)
 refine ⟨n, fun i => f i 0, A, c, h1, h2, h3, fun i hi => h4 i hi 0 _ rfl, fun i hi => ?_⟩
 obtain ⟨b, off, e, hB, hc⟩ := h5 (by omega)
 refine ⟨b, off, e, hB, ?_⟩
 have := hc i hi 0 _ rfl
 simpa using this
end Go.Proofs.YtpcgpnkmjjamhaaGreat

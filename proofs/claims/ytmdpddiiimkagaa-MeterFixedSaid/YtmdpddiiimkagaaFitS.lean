/- An argument whose size is within the reach. -/
import Derived.Test.YtmdpddiiimkagaaFit
import Derived.SizedLaws
namespace Go.Proofs.Ytmdpddiiimkagaa
open Go.ChangeShapes Go.WideShapes Go.RowKit
/-- The value can be read, and its datum is within the reach. -/
def FitS (P : Program) (w : World) (t : TypeId) (v : Value) : Prop :=
  ∃ (H : Type) (enc : TypeId × Value → H) (base : Nat) (d : DataW H) (ps : List MemPlace) (ts : List TypeId) (ds : List (DataW H)) (j : Nat), Value.okWide P w .any base t v ∧ DataW.Trod enc P w 0 (fun _ => true) true t v d ps ∧ (∀ x ∈ ps, x.block < w.heap.size) ∧
    (DataW.weightsEach P ts ds).all (· ≤ reachBytes) = true ∧ ts[j]? = some t ∧ ds[j]? = some d
section
variable {P : Program} {w : World} {t : TypeId} {v : Value}
theorem FitS.fit (h : FitS P w t v) : Fit P w t v := by
  obtain ⟨H, enc, base, d, ps, _, _, _, h1, h2, h3, _⟩ := h
  exact ⟨H, enc, base, d, ps, h1, h2, h3⟩
theorem FitS.reach {e : TypeId} {A : Option Addr} {n c : Nat} (h : FitS P w t (.slice A n c)) (hu : P.underlying t = some (.slice e)) : n * P.bytesOf e ≤ 140737488351232 := by
  obtain ⟨H, enc, base, d, ps, ts, ds, j, _, ⟨fu, hf⟩, _, h4, h5, h6⟩ := h
  rcases DataW.trod_slice hu hf with ⟨h0, _⟩ | ⟨a, len, cap, elems, rest, m, _, h1, h2, _, _, _, hel, _⟩
  · simp only [Value.cells, List.cons.injEq, Value.slice.injEq, and_true] at h0
    obtain ⟨rfl, rfl, rfl⟩ := h0
    simp
  · have e1 : Value.slice A n c = .slice (some a) len cap := by simpa [Value.cells] using h1
    injection e1 with _ e1 _
    injection h2 with h2 _
    rw [h2] at h6
    have := sized_slice h4 h5 h6 hu
    rw [List.length_map, List.length_map, hel, ← e1] at this
    refine Nat.le_trans (Nat.mul_le_mul_right _ (Nat.le_add_right _ _)) this
end
end Go.Proofs.Ytmdpddiiimkagaa

/- Structs that hold a slice: an account's and terms' raw numbers. -/
import Derived.Test.YthhbnmmhjfgpdaaFlat
import Derived.Test.YthhbnmmhjfgpdaaProg
import Derived.WalkKit
namespace Go.Proofs.Ythhbnmmhjfgpdaa
open Go.RowKit
set_option linter.unusedVariables false
section
variable {P : Program} {w : World}
theorem CFit.slice_val {t e : TypeId} {v : Value} (h : CFit P w t [v]) (hu : P.underlying t = some (.slice e)) : ∃ A n c, v = .slice A n c := by
  obtain ⟨H, enc, fu, y, hy⟩ := h
  rcases DataW.trod_slice hu hy with ⟨h0, _⟩ | ⟨a, len, cap, elems, rest, m, _, h1, _⟩
  · simp only [List.cons.injEq, and_true] at h0; exact ⟨_, _, _, h0⟩
  · simp only [List.cons.injEq, and_true] at h1; exact ⟨_, _, _, h1⟩
theorem CFit.rows {t e : TypeId} {v : Value} {ks : List IntKind} (h : CFit P w t [v]) (hu : P.underlying t = some (.slice e)) (hs : P.cellsOf e = ks.length) (hs0 : 0 < ks.length) (hl : leafInts P e = some ks) :
    ∃ (n : Nat) (f : Nat → Nat → Int), IsRows w v ks n f := by
  obtain ⟨A, n, c, rfl⟩ := h.slice_val hu
  obtain ⟨hn, hm, rows, hr, hw, hrd⟩ := h.slice_ints hu hs hs0 hl
  refine ⟨n, fun i j => (rows.getD i []).getD j 0, A, c, rfl, hn, hm, fun i hi j k hk => ?_, fun h0 => ?_⟩
  · have hi' : i < rows.length := by omega
    have := hw rows[i] (List.getElem_mem hi')
    obtain ⟨hj, _⟩ := List.getElem?_eq_some_iff.1 hk
    refine this.2 j k _ hk ?_
    have hjl : j < rows[i].length := by rw [this.1]; exact hj
    simp [hi', hjl]
  · obtain ⟨b, off, rfl, hB, hcell⟩ := hrd.at_ h0
    refine ⟨b, off, rfl, hB, fun i hi j k hk => hcell _ _ ?_⟩
    have hi' : i < rows.length := by omega
    obtain ⟨hj, _⟩ := List.getElem?_eq_some_iff.1 hk
    have h1 := flat_get (rows.map (intsOf ks)) (s := ks.length) (fun r hr => by
      obtain ⟨x, hx, rfl⟩ := List.mem_map.1 hr
      exact intsOf_len _ _ (hw x hx).1) i (by simpa using hi') j hj
    rw [h1, List.getElem_map, intsOf_get (hw _ (List.getElem_mem hi')).1 hk]
    simp [hi']
end
theorem IsRows.val {w : World} {v : Value} {ks : List IntKind} {n : Nat} {f : Nat → Nat → Int} (h : IsRows w v ks n f) : ∃ A c, v = .slice A n c := by
  obtain ⟨A, c, e, _⟩ := h; exact ⟨A, c, e⟩
end Go.Proofs.Ythhbnmmhjfgpdaa

/- Slices of structs of integers that came in, cell by cell. -/
import Derived.Test.YthhbnmmhjfgpdaaFit
namespace Go.Proofs.Ythhbnmmhjfgpdaa
open Go.RowKit

theorem flat_get {s : Nat} : ∀ (rows : List (List Value)), (∀ r ∈ rows, r.length = s) → ∀ (i : Nat) (hi : i < rows.length) (j : Nat), j < s → rows.flatten[i * s + j]? = rows[i][j]?
  | [], _, i, hi, _, _ => by simp at hi
  | r :: rows, h, 0, _, j, hj => by
    have := h r (by simp)
    simp only [List.flatten_cons, Nat.zero_mul, Nat.zero_add, List.getElem_cons_zero]
    exact List.getElem?_append_left (by omega)
  | r :: rows, h, i + 1, hi, j, hj => by
    have h1 := h r (by simp)
    have := flat_get rows (fun r hr => h r (by simp [hr])) i (by simpa using hi) j hj
    simp only [List.flatten_cons, List.getElem_cons_succ]
    rw [← this, List.getElem?_append_right (by rw [h1, Nat.succ_mul]; omega), h1]
    congr 1
    rw [Nat.succ_mul]; omega

section
variable {P : Program} {w : World}
/-- A slice that came in: its elements are rows of integers of these kinds. -/
def IsRows (w : World) (v : Value) (ks : List IntKind) (n : Nat) (f : Nat → Nat → Int) : Prop :=
  ∃ (A : Option Addr) (c : Nat), v = .slice A n c ∧ n ≤ c ∧ c ≤ maxLen ∧ (∀ i, i < n → ∀ (j : Nat) (k : IntKind), ks[j]? = some k → (Lit.int k (f i j)).wf = true) ∧
    (0 < n → ∃ b off, A = some ⟨b, off, none⟩ ∧ b < w.heap.size ∧ ∀ i, i < n → ∀ (j : Nat) (k : IntKind), ks[j]? = some k → w.cell? ⟨b, off + (i * ks.length + j), none⟩ = some (.int k (f i j)))
theorem intsOf_len : ∀ (ks : List IntKind) (ns : List Int), ns.length = ks.length → (intsOf ks ns).length = ks.length := by
  intro ks ns h; simp [intsOf, h]
theorem intsOf_get {ks : List IntKind} {ns : List Int} (h : ns.length = ks.length) {j : Nat} {k : IntKind} (hk : ks[j]? = some k) : (intsOf ks ns)[j]? = some (.int k (ns.getD j 0)) := by
  obtain ⟨hj, he⟩ := List.getElem?_eq_some_iff.1 hk
  subst he
  simp [intsOf, hj, h]
theorem Fit.rows {t e : TypeId} {v : Value} {ks : List IntKind} (h : Fit P w t v) (hu : P.underlying t = some (.slice e)) (hs : P.cellsOf e = ks.length) (hs0 : 0 < ks.length) (hl : leafInts P e = some ks) :
    ∃ (n : Nat) (f : Nat → Nat → Int), IsRows w v ks n f := by
  obtain ⟨A, n, c, rfl, hc⟩ := h.slice hu
  obtain ⟨hn, hm, rows, hr, hw, hrd⟩ := hc.slice_ints hu hs hs0 hl
  refine ⟨n, fun i j => (rows.getD i []).getD j 0, A, c, rfl, hn, hm, fun i hi j k hk => ?_, fun h0 => ?_⟩
  · have hi' : i < rows.length := by omega
    have := hw rows[i] (List.getElem_mem hi')
    obtain ⟨hj, _⟩ := List.getElem?_eq_some_iff.1 hk
    refine this.2 j k _ hk ?_
    have hjl : j < rows[i].length := by rw [this.1]; exact hj
    simp [hi', hjl]
  · obtain ⟨b, off, rfl, hB, hcell⟩ := hrd.at_ h0
    refine ⟨b, off, rfl, hB, fun i hi j k hk => hcell _ _ ?_⟩
    have hi' : i < rows.length := by omega
    obtain ⟨hj, _⟩ := List.getElem?_eq_some_iff.1 hk
    have h1 := flat_get (rows.map (intsOf ks)) (s := ks.length) (fun r hr => by
      obtain ⟨x, hx, rfl⟩ := List.mem_map.1 hr
      exact intsOf_len _ _ (hw x hx).1) i (by simpa using hi') j hj
    rw [h1, List.getElem_map, intsOf_get (hw _ (List.getElem_mem hi')).1 hk]
    simp [hi']
theorem IsRows.below {w w' : World} {v : Value} {ks : List IntKind} {n : Nat} {f : Nat → Nat → Int} (h : IsRows w v ks n f) (hb : Below w.heap.size w w') : IsRows w' v ks n f := by
  obtain ⟨A, c, h1, h2, h3, h4, h5⟩ := h
  refine ⟨A, c, h1, h2, h3, h4, fun h0 => ?_⟩
  obtain ⟨b, off, e, hB, hc⟩ := h5 h0
  exact ⟨b, off, e, Nat.lt_of_lt_of_le hB hb.size, fun i hi j k hk => (hb.cell (p := ⟨b, _, none⟩) hB).trans (hc i hi j k hk)⟩
end
end Go.Proofs.Ythhbnmmhjfgpdaa

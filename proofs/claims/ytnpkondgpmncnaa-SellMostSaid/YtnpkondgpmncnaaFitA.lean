/- Structs that hold a slice: an account's and terms' raw numbers. -/
import Derived.Test.YtnpkondgpmncnaaFlat
import Derived.Test.YtnpkondgpmncnaaProg
import Derived.WalkKit
namespace Go.Proofs.Ytnpkondgpmncnaa
open Go.RowKit
set_option linter.unusedVariables false
section
variable {P : Program} {w : World}
theorem CFit.slice_val {t e : TypeId} {v : Value} (h : CFit P w t [v]) (hu : P.underlying t = some (.slice e)) : ∃ A n c, v = .slice A n c := by
  obtain ⟨H, enc, fu, y, hy⟩ := h
  rcases DataW.trod_slice hu hy with ⟨h0, _⟩ | ⟨a, len, cap, elems, rest, m, _, h1, _⟩
  · simp only [List.cons.injEq, and_true] at h0; exact ⟨_, _, _, h0⟩
  · simp only [List.cons.injEq, and_true] at h1; exact ⟨_, _, _, h1⟩
theorem CFit.rows {t e : TypeId} {v : Value} {ks : List IntKind} (h : CFit P w t [v]) (hu : P.underlying t = some (.slice e)) (hs : P.cellsOf e = ks.length) (hs0 : 0 < ks.length) (hl : leafInts P e = some ks) :
    ∃ (n : Nat) (f : Nat → Nat → Int), IsRows w v ks n f := by
  obtain ⟨A, n, c, rfl⟩ := h.slice_val hu
  obtain ⟨hn, hm, rows, hr, hw, hrd⟩ := h.slice_ints hu hs hs0 hl
  refine ⟨n, fun i j => (rows.getD i []).getD j 0, A, c, rfl, hn, hm, fun i hi j k hk => ?_, fun h0 => ?_⟩
  · have hi' : i < rows.length := by omega
    have := hw rows[i] (List.getElem_mem hi')
    obtain ⟨hj, _⟩ := List.getElem?_eq_some_iff.1 hk
    refine this.2 j k _ hk ?_
    have hjl : j < rows[i].length := by rw [this.1]; exact hj
    simp [hi', hjl]
  · obtain ⟨b, off, rfl, hB, hcell⟩ := hrd.at_ h0
    refine ⟨b, off, rfl, hB, fun i hi j k hk => hcell _ _ ?_⟩
    have hi' : i < rows.length := by omega
    obtain ⟨hj, _⟩ := List.getElem?_eq_some_iff.1 hk
    have h1 := flat_get (rows.map (intsOf ks)) (s := ks.length) (fun r hr => by
      obtain ⟨x, hx, rfl⟩ := List.mem_map.1 hr
      exact intsOf_len _ _ (hw x hx).1) i (by simpa using hi') j hj
    rw [h1, List.getElem_map, intsOf_get (hw _ (List.getElem_mem hi')).1 hk]
    simp [hi']
end
theorem IsRows.val {w : World} {v : Value} {ks : List IntKind} {n : Nat} {f : Nat → Nat → Int} (h : IsRows w v ks n f) : ∃ A c, v = .slice A n c := by
  obtain ⟨A, c, e, _⟩ := h; exact ⟨A, c, e⟩
set_option maxRecDepth 100000 in
theorem going_fit {v : Value} {w : World} (h : Fit Try.prog w 53 v) : ∃ (a b c d e f : Int) (A : Option Addr) (n m : Nat) (g : Nat → Nat → Int), v = .agg #[.int .i64 a, .int .i64 b, .int .i64 c, .int .i64 d, .int .i64 e, .int .i64 f, .slice A n m] ∧
    (Lit.int .i64 a).wf = true ∧ (Lit.int .i64 b).wf = true ∧ (Lit.int .i64 c).wf = true ∧ (Lit.int .i64 d).wf = true ∧ (Lit.int .i64 e).wf = true ∧ (Lit.int .i64 f).wf = true ∧ IsRows w (.slice A n m) [.i64, .i64] n g := by
  obtain ⟨cs, rfl, hcf⟩ := h.struct Try.underlying53
  have hl := CFit.leaves 9 _ cs [3, 3, 3, 3, 3, 3, 51] (by kernel_rfl) hcf
  obtain ⟨hlen, hl⟩ := hl
  match cs, hlen with
  | [c0, c1, c2, c3, c4, c5, c6], _ =>
    have gi : ∀ (i : Nat) (v : Value), ([3, 3, 3, 3, 3, 3, 51] : List TypeId)[i]? = some 3 → [c0, c1, c2, c3, c4, c5, c6][i]? = some v → ∃ n, v = .int .i64 n ∧ (Lit.int .i64 n).wf = true := fun i v h1 h2 => by
      obtain ⟨v', h3, h4⟩ := hl i _ h1
      rw [h2] at h3
      injection h3 with h3
      subst h3
      obtain ⟨n, h5, h6⟩ := h4.int Try.underlying3
      simp only [List.cons.injEq, and_true] at h5
      exact ⟨n, h5, h6⟩
    obtain ⟨a, rfl, ha⟩ := gi 0 c0 rfl rfl
    obtain ⟨b, rfl, hb⟩ := gi 1 c1 rfl rfl
    obtain ⟨c, rfl, hc⟩ := gi 2 c2 rfl rfl
    obtain ⟨d, rfl, hd⟩ := gi 3 c3 rfl rfl
    obtain ⟨e, rfl, he⟩ := gi 4 c4 rfl rfl
    obtain ⟨f, rfl, hf⟩ := gi 5 c5 rfl rfl
    obtain ⟨v', h3, h4⟩ := hl 6 51 rfl
    simp only [List.getElem?_cons_succ, List.getElem?_cons_zero, Option.some.injEq] at h3
    subst h3
    obtain ⟨n, g, hr⟩ := h4.rows (ks := [.i64, .i64]) Try.underlying51 (by kernel_rfl) (by simp) (by kernel_rfl)
    obtain ⟨A, m, rfl⟩ := hr.val
    exact ⟨a, b, c, d, e, f, A, n, m, g, rfl, ha, hb, hc, hd, he, hf, hr⟩
set_option maxRecDepth 100000 in
theorem deal_fit {v : Value} {w : World} (h : Fit Try.prog w 56 v) : ∃ (A : Option Addr) (n m : Nat) (g : Nat → Nat → Int) (a b c d : Int), v = .agg #[.slice A n m, .int .i64 a, .int .i64 b, .int .i64 c, .int .i64 d] ∧
    (Lit.int .i64 a).wf = true ∧ (Lit.int .i64 b).wf = true ∧ (Lit.int .i64 c).wf = true ∧ (Lit.int .i64 d).wf = true ∧ IsRows w (.slice A n m) [.i64, .i64] n g := by
  obtain ⟨cs, rfl, hcf⟩ := h.struct Try.underlying56
  have hl := CFit.leaves 9 _ cs [54, 3, 3, 3, 3] (by kernel_rfl) hcf
  obtain ⟨hlen, hl⟩ := hl
  match cs, hlen with
  | [c0, c1, c2, c3, c4], _ =>
    have gi : ∀ (i : Nat) (v : Value), ([54, 3, 3, 3, 3] : List TypeId)[i]? = some 3 → [c0, c1, c2, c3, c4][i]? = some v → ∃ n, v = .int .i64 n ∧ (Lit.int .i64 n).wf = true := fun i v h1 h2 => by
      obtain ⟨v', h3, h4⟩ := hl i _ h1
      rw [h2] at h3
      injection h3 with h3
      subst h3
      obtain ⟨n, h5, h6⟩ := h4.int Try.underlying3
      simp only [List.cons.injEq, and_true] at h5
      exact ⟨n, h5, h6⟩
    obtain ⟨a, rfl, ha⟩ := gi 1 c1 rfl rfl
    obtain ⟨b, rfl, hb⟩ := gi 2 c2 rfl rfl
    obtain ⟨c, rfl, hc⟩ := gi 3 c3 rfl rfl
    obtain ⟨d, rfl, hd⟩ := gi 4 c4 rfl rfl
    obtain ⟨v', h3, h4⟩ := hl 0 54 rfl
    simp only [List.getElem?_cons_zero, Option.some.injEq] at h3
    subst h3
    obtain ⟨n, g, hr⟩ := h4.rows (ks := [.i64, .i64]) Try.underlying54 (by kernel_rfl) (by simp) (by kernel_rfl)
    obtain ⟨A, m, rfl⟩ := hr.val
    exact ⟨A, n, m, g, a, b, c, d, rfl, ha, hb, hc, hd, hr⟩
end Go.Proofs.Ytnpkondgpmncnaa

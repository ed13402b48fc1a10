/- '==' on values that are made of integers, bools and strings, structs and arrays of these in whatever depth: cell by cell. -/
import Derived.Test.YthhbnmmhjfgpdaaFit
import Derived.Laws.StructEq
import Derived.ChangeKeysEq
namespace Go.Proofs.Ythhbnmmhjfgpdaa
open Go.RowKit
def leafEq : Value → Value → Bool
  | .int _ a, .int _ b => a == b
  | .bool a, .bool b => a == b
  | .string a, .string b => a.toList == b.toList
  | _, _ => false
def cellsEq : List Value → List Value → Bool
  | x :: xs, y :: ys => leafEq x y && cellsEq xs ys
  | _, _ => true
def chunk (P : Program) (xs : List Value) (off : Nat) (t : TypeId) : List Value := (xs.drop off).take (P.cellsOf t)
/-- The cells are, one by one, alike; so deep. -/
def leafPair (P : Program) : Nat → TypeId → List Value → List Value → Bool
  | 0, _, _, _ => false
  | n + 1, t, xs, ys =>
    match P.underlying t with
    | some (.struct fs) => !P.stoodInHeld t && tiled P (P.cellsOf t) fs.toList 0 && xs.length == P.cellsOf t && ys.length == P.cellsOf t && fs.toList.all fun f => f.name != "_" && leafPair P n f.type (chunk P xs f.offset f.type) (chunk P ys f.offset f.type)
    | some (.array m e) => (P.info? e).isSome && m * P.cellsOf e == P.cellsOf t && xs.length == P.cellsOf t && ys.length == P.cellsOf t && (List.range m).all fun i => leafPair P n e (chunk P xs (i * P.cellsOf e) e) (chunk P ys (i * P.cellsOf e) e)
    | some (.int _) => match xs, ys with | [.int k _], [.int k' _] => k == k' && P.cellsOf t == 1 | _, _ => false
    | some .bool => match xs, ys with | [.bool _], [.bool _] => P.cellsOf t == 1 | _, _ => false
    | some .string => match xs, ys with | [.string _], [.string _] => P.cellsOf t == 1 | _, _ => false
    | _ => false
def mkv (P : Program) (t : TypeId) (xs : List Value) : Value :=
  match P.underlying t with
  | some (.struct _) => .agg ⟨xs⟩
  | some (.array _ _) => .agg ⟨xs⟩
  | _ => xs.headD undef
theorem cellsEq_append : ∀ {a a' b b' : List Value}, a.length = a'.length → cellsEq (a ++ b) (a' ++ b') = (cellsEq a a' && cellsEq b b')
  | [], [], _, _, _ => by simp [cellsEq]
  | x :: a, y :: a', b, b', h => by
    simp only [List.cons_append, cellsEq]
    rw [cellsEq_append (by simpa using h), Bool.and_assoc]
section
variable {P : Program}
theorem run_part_gen {u : TypeId} {n : Nat} {xs : List Value} {ys : List Value} {off : Nat} (hl : off + P.cellsOf u ≤ xs.length) (h : leafPair P n u (chunk P xs off u) ys = true ∨ leafPair P n u ys (chunk P xs off u) = true) (w : World) :
    (part u ⟨xs⟩ off).run P w = .ok (mkv P u (chunk P xs off u)) w := by
  cases n with
  | zero => simp [leafPair] at h
  | succ n =>
    cases hu : P.underlying u with
    | none => simp [leafPair, hu] at h
    | some d =>
      obtain ⟨i, hi⟩ := info_of_underlying hu
      have hsz := run_sizeOf (P := P) w hi
      have agg : (∃ fs, d = .struct fs) ∨ (∃ m e, d = .array m e) → (part u ⟨xs⟩ off).run P w = .ok (mkv P u (chunk P xs off u)) w := by
        intro hd
        have hm : mkv P u (chunk P xs off u) = .agg ⟨chunk P xs off u⟩ := by
          rcases hd with ⟨fs, rfl⟩ | ⟨m, e, rfl⟩ <;> simp [mkv, hu]
        have ha : (isAgg u).run P w = .ok true w := by
          rcases hd with ⟨fs, rfl⟩ | ⟨m, e, rfl⟩ <;> simp [isAgg, run_underlying hu]
        rw [hm]
        simp only [part, Sem.run_bind, ha, Result.andThen_ok, if_true, hsz, Sem.run_pure]
        congr 2
        apply Array.ext'
        simp [chunk, List.extract_eq_take_drop]
      have leaf : P.cellsOf u = 1 → (isAgg u).run P w = .ok false w → mkv P u (chunk P xs off u) = (chunk P xs off u).headD undef → (part u ⟨xs⟩ off).run P w = .ok (mkv P u (chunk P xs off u)) w := by
        intro h1 ha hm
        rw [hm]
        have hx : off < xs.length := by omega
        have hc : chunk P xs off u = [xs[off]] := by
          unfold chunk
          rw [h1, List.drop_eq_getElem_cons hx]; rfl
        rw [hc]
        simp [part, ha, hx]
      cases d
      case struct fs => exact agg (.inl ⟨fs, rfl⟩)
      case array m e => exact agg (.inr ⟨m, e, rfl⟩)
      case int k =>
        refine leaf ?_ (by simp [isAgg, run_underlying hu]) (by simp [mkv, hu])
        simp only [leafPair, hu] at h
        rcases h with h | h
        all_goals
          split at h
          · simp at h; exact h.2
          · cases h
      case bool =>
        refine leaf ?_ (by simp [isAgg, run_underlying hu]) (by simp [mkv, hu])
        simp only [leafPair, hu] at h
        rcases h with h | h
        all_goals
          split at h
          · simpa using h
          · cases h
      case string =>
        refine leaf ?_ (by simp [isAgg, run_underlying hu]) (by simp [mkv, hu])
        simp only [leafPair, hu] at h
        rcases h with h | h
        all_goals
          split at h
          · simpa using h
          · cases h
      all_goals (simp [leafPair, hu] at h; done)
/-- What holds at a depth. -/
def EqAll (P : Program) (n : Nat) : Prop := ∀ (t : TypeId) (xs ys : List Value) (d : Nat) (w : World), leafPair P n t xs ys = true → n ≤ d → (Op.equalIn d t (mkv P t xs) (mkv P t ys)).run P w = .ok (cellsEq xs ys) w
theorem fields_gen {n d total : Nat} (IH : EqAll P n) (hd : n ≤ d) {xs ys : List Value} (hx : xs.length = total) (hy : ys.length = total) :
    ∀ (fs : List Field) (k : Nat) (w : World), tiled P total fs k = true → (∀ f ∈ fs, f.name ≠ "_" ∧ leafPair P n f.type (chunk P xs f.offset f.type) (chunk P ys f.offset f.type) = true) →
      (Op.eqFields d ⟨xs⟩ ⟨ys⟩ fs).run P w = .ok (cellsEq (xs.drop k) (ys.drop k)) w
  | [], k, w, ht, _ => by
    simp [tiled] at ht
    have e : xs.drop k = [] := List.drop_eq_nil_of_le (by omega)
    rw [e]
    rfl
  | f :: fs, k, w, ht, hf => by
    simp [tiled] at ht
    obtain ⟨ho, ht⟩ := ht
    have hle := tiled_le fs _ ht
    obtain ⟨hn, hp⟩ := hf f (by simp)
    have h1 := run_part_gen (P := P) (off := f.offset) (u := f.type) (xs := xs) (by omega) (.inl hp) w
    have h2 := run_part_gen (P := P) (off := f.offset) (u := f.type) (xs := ys) (by omega) (.inr hp) w
    have h3 := IH _ _ _ d w hp hd
    have h4 := fields_gen IH hd hx hy fs _ w ht (fun g hg => hf g (by simp [hg]))
    have es : ∀ zs : List Value, zs.length = total → zs.drop k = chunk P zs f.offset f.type ++ zs.drop (k + P.cellsOf f.type) := by
      intro zs _
      unfold chunk
      rw [ho, ← List.drop_drop]
      exact (List.take_append_drop _ _).symm
    have hlen : (chunk P xs f.offset f.type).length = (chunk P ys f.offset f.type).length := by simp [chunk, hx, hy]
    rw [es xs hx, es ys hy, cellsEq_append hlen]
    simp only [Op.eqFields, hn, ne_eq, not_false_eq_true, if_true, Sem.run_bind, h1, h2, h3, Result.andThen_ok]
    cases cellsEq (chunk P xs f.offset f.type) (chunk P ys f.offset f.type)
    · simp
    · simp [h4]
theorem items_gen {n d total : Nat} (IH : EqAll P n) (hd : n ≤ d) {e : TypeId} {xs ys : List Value} (hx : xs.length = total) (hy : ys.length = total) :
    ∀ (m i : Nat) (w : World), (i + m) * P.cellsOf e = total → (∀ j, i ≤ j → j < i + m → leafPair P n e (chunk P xs (j * P.cellsOf e) e) (chunk P ys (j * P.cellsOf e) e) = true) →
      (Op.eqItems d e (P.cellsOf e) ⟨xs⟩ ⟨ys⟩ (List.range' i m)).run P w = .ok (cellsEq (xs.drop (i * P.cellsOf e)) (ys.drop (i * P.cellsOf e))) w
  | 0, i, w, ht, _ => by
    have e : xs.drop (i * P.cellsOf e) = [] := List.drop_eq_nil_of_le (by simp at ht; omega)
    rw [e]
    rfl
  | m + 1, i, w, ht, hf => by
    have hp := hf i (Nat.le_refl _) (by omega)
    have hle : i * P.cellsOf e + P.cellsOf e ≤ total := by
      rw [← ht, ← Nat.succ_mul]; exact Nat.mul_le_mul_right _ (by omega)
    have h1 := run_part_gen (P := P) (off := i * P.cellsOf e) (u := e) (xs := xs) (by omega) (.inl hp) w
    have h2 := run_part_gen (P := P) (off := i * P.cellsOf e) (u := e) (xs := ys) (by omega) (.inr hp) w
    have h3 := IH _ _ _ d w hp hd
    have h4 := items_gen IH hd hx hy m (i + 1) w (by rw [← ht]; congr 1; omega) (fun j h1 h2 => hf j (by omega) (by omega))
    have es : ∀ zs : List Value, zs.drop (i * P.cellsOf e) = chunk P zs (i * P.cellsOf e) e ++ zs.drop ((i + 1) * P.cellsOf e) := by
      intro zs
      unfold chunk
      rw [Nat.succ_mul, ← List.drop_drop]
      exact (List.take_append_drop _ _).symm
    have hlen : (chunk P xs (i * P.cellsOf e) e).length = (chunk P ys (i * P.cellsOf e) e).length := by simp [chunk, hx, hy]
    rw [es xs, es ys, cellsEq_append hlen]
    simp only [List.range'_succ, Op.eqItems, Sem.run_bind, h1, h2, h3, Result.andThen_ok]
    cases cellsEq (chunk P xs (i * P.cellsOf e) e) (chunk P ys (i * P.cellsOf e) e)
    · simp
    · simp [h4]
theorem eq_all : ∀ n, EqAll P n
  | 0 => fun t xs ys d w h _ => by simp [leafPair] at h
  | n + 1 => fun t xs ys d w h hd => by
    obtain ⟨d, rfl⟩ : ∃ k, d = k + 1 := ⟨d - 1, by omega⟩
    have hd : n ≤ d := by omega
    have IH := eq_all n
    cases hu : P.underlying t with
    | none => simp [leafPair, hu] at h
    | some k =>
      cases k
      case struct fs =>
        simp [leafPair, hu] at h
        obtain ⟨⟨⟨⟨h1, h2⟩, h3⟩, h4⟩, h5⟩ := h
        have hfo : P.fieldsOf t = fs := by simp [Program.fieldsOf, hu]
        have hm : ∀ zs, mkv P t zs = .agg ⟨zs⟩ := fun zs => by simp [mkv, hu]
        rw [hm, hm, run_equalIn_struct w d t _ _ (by rw [hfo]; exact hu) h1, hfo]
        have := fields_gen IH hd h3 h4 fs.toList 0 w h2 (fun f hf => by
          obtain ⟨i, hi, he⟩ := List.getElem_of_mem hf
          have hi' : i < fs.size := by simpa using hi
          have := h5 i hi'
          rw [show fs[i] = f by rw [← he]; simp] at this
          exact this)
        simpa using this
      case array m e =>
        simp [leafPair, hu] at h
        obtain ⟨⟨⟨⟨h0, h1⟩, h2⟩, h3⟩, h4⟩ := h
        have hm : ∀ zs, mkv P t zs = .agg ⟨zs⟩ := fun zs => by simp [mkv, hu]
        obtain ⟨i, hi⟩ := Option.isSome_iff_exists.1 h0
        rw [hm, hm, run_equalIn_array w d _ _ hu hi, List.range_eq_range']
        have := items_gen IH hd h2 h3 m 0 w (by simpa using h1) (fun j _ hj => h4 j (by omega))
        simpa using this
      case int k' =>
        simp only [leafPair, hu] at h
        split at h
        · rename_i a b c e
          simp at h
          obtain ⟨rfl, _⟩ := h
          simp [mkv, hu, Op.equalIn, run_underlying hu, cellsEq, leafEq]
        · cases h
      case bool =>
        simp only [leafPair, hu] at h
        split at h
        · simp [mkv, hu, Op.equalIn, run_underlying hu, cellsEq, leafEq]
        · cases h
      case string =>
        simp only [leafPair, hu] at h
        split at h
        · simp [mkv, hu, Op.equalIn, run_underlying hu, cellsEq, leafEq, beq_toListBytes]
        · cases h
      all_goals (simp [leafPair, hu] at h; done)
/-- '==' on two values of a type of structs or arrays. -/
theorem eq_is {t : TypeId} (xs ys : List Value) (w : World) (hl : leafPair P 9 t xs ys = true) (hm : ∀ zs, mkv P t zs = .agg ⟨zs⟩) : (Op.equalIn 10000 t (.agg xs.toArray) (.agg ys.toArray)).run P w = .ok (cellsEq xs ys) w := by
  have := eq_all (P := P) 9 t xs ys 10000 w hl (by omega)
  rwa [hm, hm] at this
theorem mkv_struct {t : TypeId} {fs : Array Field} (hu : P.underlying t = some (.struct fs)) : ∀ zs, mkv P t zs = .agg ⟨zs⟩ := fun zs => by simp [mkv, hu]
theorem mkv_array {t : TypeId} {m : Nat} {e : TypeId} (hu : P.underlying t = some (.array m e)) : ∀ zs, mkv P t zs = .agg ⟨zs⟩ := fun zs => by simp [mkv, hu]
end
end Go.Proofs.Ythhbnmmhjfgpdaa

/- What is told of an argument that came in: 'Fit': its value can be read as data of its type. Lemmas that open it, whatever the program; and 'Rd': a slice that reads as a list of cells. -/
import Derived.WalkKit
import Derived.ProofKit
import Derived.OpenShut
import Derived.Deep.Slices
import Derived.Lib.Hide
import Derived.Laws.OwnMore
import Derived.Deep.AppendLies
namespace Go.Proofs.Ytfcgpgfghidajaa
open Go.ChangeShapes Go.WideShapes Go.RowKit

/-- The value v can be read, at the type t, in the world w. -/
def Fit (P : Program) (w : World) (t : TypeId) (v : Value) : Prop :=
  ∃ (H : Type) (enc : TypeId × Value → H) (base : Nat) (d : DataW H) (ps : List MemPlace), Value.okWide P w .any base t v ∧ DataW.Trod enc P w 0 (fun _ => true) true t v d ps ∧ ∀ x ∈ ps, x.block < w.heap.size

/-- These cells can be read, at the type t, in the world w. -/
def CFit (P : Program) (w : World) (t : TypeId) (cs : List Value) : Prop :=
  ∃ (H : Type) (enc : TypeId × Value → H) (n : Nat) (y : DataW H × List MemPlace), DataW.trod enc P w 0 (fun _ => true) true n t cs = some y

/-- A slice '.slice A n c' whose n elements are the cells xs, s cells each, in a block below B. -/
def Rd (w : World) (B s : Nat) (A : Option Addr) (n : Nat) (xs : List Value) : Prop :=
  xs.length = n * s ∧ (0 < n → ∃ b off, A = some ⟨b, off, none⟩ ∧ b < B ∧ ∀ j u, xs[j]? = some u → w.cell? ⟨b, off + j, none⟩ = some u)

theorem _root_.Go.RowKit.Below.step {w w1 w2 : World} (h : Below w.heap.size w w1) (k : Below w1.heap.size w1 w2) : Below w.heap.size w w2 := h.trans (k.mono h.size)
theorem below_a1 (w : World) (a : Obj) : Below w.heap.size w (w.alloc a) := (Below.refl _ _).alloc (Nat.le_refl _) a
theorem below_a2 (w : World) (a b : Obj) : Below w.heap.size w ((w.alloc a).alloc b) := (below_a1 w a).step (below_a1 _ b)
theorem below_a3 (w : World) (a b c : Obj) : Below w.heap.size w (((w.alloc a).alloc b).alloc c) := (below_a2 w a b).step (below_a1 _ c)
theorem below_a4 (w : World) (a b c d : Obj) : Below w.heap.size w ((((w.alloc a).alloc b).alloc c).alloc d) := (below_a3 w a b c).step (below_a1 _ d)
/-- Behind a contract that ends in 'Below': all cells and marks below read as they did. -/
theorem bcell {B : Nat} {W w1 : World} (hb : Below B W w1) : (∀ b o, b < B → w1.cell? ⟨b, o, none⟩ = W.cell? ⟨b, o, none⟩) ∧ (∀ b o, b < B → w1.frozen? ⟨b, o, none⟩ = W.frozen? ⟨b, o, none⟩) :=
  ⟨fun b o h => hb.cell (p := ⟨b, o, none⟩) h, fun b o h => hb.frozen (p := ⟨b, o, none⟩) h⟩
theorem ret_true {b : Bool} (h : b = true) : Ending.returned (.bool b) = .returned (.bool true) := by rw [h]
theorem ret_bool {a b : Bool} (h : a = b) : Ending.returned (.bool a) = .returned (.bool b) := by rw [h]
theorem ret_int2 {k j : IntKind} {a b c d : Int} (h : a = b) (h' : c = d) : Ending.returned (.tuple #[.int k a, .int j c]) = .returned (.tuple #[.int k b, .int j d]) := by rw [h, h']
theorem ret_int {k : IntKind} {a b : Int} (h : a = b) : Ending.returned (.int k a) = .returned (.int k b) := by rw [h]

section
variable {w w' : World} {B B' s n : Nat} {A : Option Addr} {xs : List Value}
theorem Rd.nil_ : Rd w B s A 0 [] := ⟨by simp, fun h => absurd h (by omega)⟩
theorem Rd.len (h : Rd w B s A n xs) : xs.length = n * s := h.1
theorem Rd.at_ (h : Rd w B s A n xs) (hn : 0 < n) : ∃ b off, A = some ⟨b, off, none⟩ ∧ b < B ∧ ∀ j u, xs[j]? = some u → w.cell? ⟨b, off + j, none⟩ = some u := h.2 hn
theorem Rd.keep (h : Rd w B s A n xs) (hk : ∀ b o, b < B → w'.cell? ⟨b, o, none⟩ = w.cell? ⟨b, o, none⟩) : Rd w' B s A n xs :=
  ⟨h.1, fun hn => by
    obtain ⟨b, off, e, hb, hc⟩ := h.2 hn
    exact ⟨b, off, e, hb, fun j u hu => (hk b _ hb).trans (hc j u hu)⟩⟩
theorem Rd.more (h : Rd w B s A n xs) (hB : B ≤ B') : Rd w B' s A n xs :=
  ⟨h.1, fun hn => by
    obtain ⟨b, off, e, hb, hc⟩ := h.2 hn
    exact ⟨b, off, e, by omega, hc⟩⟩
theorem Rd.below (h : Rd w B s A n xs) (hb : Below B w w') : Rd w' B s A n xs := h.keep fun b o hp => hb.cell (p := ⟨b, o, none⟩) hp
theorem Rd.below' (h : Rd w B s A n xs) (hb : Below B' w w') (hB : B ≤ B') : Rd w' B s A n xs := h.keep fun b o hp => hb.cell (p := ⟨b, o, none⟩) (by show b < B'; omega)
theorem Rd.of_own {base : Nat} {e : TypeId} {c : Nat} (h : w.ownsRow base e s (.slice A n c) n xs) : Rd w w.heap.size s A n xs := by
  refine ⟨h.1, fun hn => ?_⟩
  obtain ⟨g, cap, hv, _, hlt⟩ := h.form hn
  have hA : A = some ⟨g, 0, none⟩ := by injection hv
  subst hA
  refine ⟨g, 0, rfl, hlt, fun j u hu => ?_⟩
  have := h.cells (g := g) rfl j u hu
  unfold Addr.add at this
  split at this
  · subst_vars; simpa using this
  · simpa using this
theorem Rd.take (h : Rd w B s A n xs) {k : Nat} (hk : k ≤ n) : Rd w B s A k (xs.take (k * s)) := by
  refine ⟨by rw [List.length_take, h.1]; exact Nat.min_eq_left (Nat.mul_le_mul_right s hk), fun hn => ?_⟩
  obtain ⟨b, off, e, hb, hc⟩ := h.2 (by omega)
  refine ⟨b, off, e, hb, fun j u hu => hc j u ?_⟩
  rw [List.getElem?_take] at hu
  split at hu
  · exact hu
  · cases hu
end

section
variable {P : Program} {w : World} {t : TypeId} {v : Value} {cs : List Value}
theorem Fit.cells (h : Fit P w t v) : CFit P w t v.cells.toList := by
  obtain ⟨H, enc, base, d, ps, _, ⟨n, hn⟩, _⟩ := h
  exact ⟨H, enc, n, _, hn⟩
theorem Fit.struct {fs : Array Field} (h : Fit P w t v) (hu : P.underlying t = some (.struct fs)) : ∃ cs : List Value, v = .agg ⟨cs⟩ ∧ CFit P w t cs := by
  have hc := h.cells
  obtain ⟨H, enc, base, d, ps, hok, _, _⟩ := h
  unfold Value.okWide at hok; rw [hu] at hok
  obtain ⟨⟨cs⟩, rfl, _⟩ := hok
  exact ⟨cs, rfl, hc⟩
theorem Fit.array {m : Nat} {e : TypeId} (h : Fit P w t v) (hu : P.underlying t = some (.array m e)) : ∃ cs : List Value, v = .agg ⟨cs⟩ ∧ CFit P w t cs := by
  have hc := h.cells
  obtain ⟨H, enc, base, d, ps, hok, _, _⟩ := h
  unfold Value.okWide at hok; rw [hu] at hok
  obtain ⟨⟨cs⟩, rfl, _⟩ := hok
  exact ⟨cs, rfl, hc⟩
theorem Fit.slice {e : TypeId} (h : Fit P w t v) (hu : P.underlying t = some (.slice e)) : ∃ (A : Option Addr) (n c : Nat), v = .slice A n c ∧ CFit P w t [.slice A n c] := by
  have hc := h.cells
  obtain ⟨H, enc, base, d, ps, hok, _, _⟩ := h
  obtain ⟨A, n, c, rfl⟩ := okWide_slice hu hok
  exact ⟨A, n, c, rfl, by simpa [Value.cells] using hc⟩
theorem CFit.int {k : IntKind} (h : CFit P w t cs) (hu : P.underlying t = some (.int k)) : ∃ n, cs = [.int k n] ∧ (Lit.int k n).wf = true := by
  obtain ⟨H, enc, n, y, hy⟩ := h
  obtain ⟨n, h1, _, h2⟩ := DataW.trod_int hu hy
  exact ⟨n, h1, h2⟩
theorem CFit.bool (h : CFit P w t cs) (hu : P.underlying t = some .bool) : ∃ b, cs = [.bool b] := by
  obtain ⟨H, enc, n, y, hy⟩ := h
  obtain ⟨b, h1, _⟩ := DataW.trod_bool hu hy
  exact ⟨b, h1⟩
theorem CFit.string (h : CFit P w t cs) (hu : P.underlying t = some .string) : ∃ s : ByteArray, cs = [.string s] ∧ s.size ≤ maxLen := by
  obtain ⟨H, enc, n, y, hy⟩ := h
  obtain ⟨s, h1, _, h2⟩ := DataW.trod_string hu hy
  exact ⟨s, h1, h2⟩
theorem CFit.struct {fs : Array Field} (h : CFit P w t cs) (hu : P.underlying t = some (.struct fs)) :
    cs.length = P.cellsOf t ∧ ∀ (i : Nat) (f : Field), fs[i]? = some f → CFit P w f.type ((cs.drop f.offset).take (P.cellsOf f.type)) := by
  obtain ⟨H, enc, n, y, hy⟩ := h
  obtain ⟨xs, m, _, _, h1, h2, h3⟩ := DataW.trod_struct hu hy
  refine ⟨h1, fun i f hf => ?_⟩
  have hi : i < xs.length := by rw [h2]; exact (Array.getElem?_eq_some_iff.1 hf).1
  exact ⟨H, enc, m, xs[i], by rw [h3 i f hf]; exact List.getElem?_eq_getElem hi⟩
theorem CFit.array {m : Nat} {e : TypeId} (h : CFit P w t cs) (hu : P.underlying t = some (.array m e)) :
    cs.length = P.cellsOf t ∧ ∀ i, i < m → CFit P w e ((cs.drop (i * P.cellsOf e)).take (P.cellsOf e)) := by
  obtain ⟨H, enc, n, y, hy⟩ := h
  obtain ⟨xs, m', _, _, h1, h2, h3⟩ := DataW.trod_array hu hy
  exact ⟨h1, fun i hi => ⟨H, enc, m', xs[i]'(by omega), by rw [h3 i hi]; exact List.getElem?_eq_getElem (by omega)⟩⟩
theorem add_none (b off i : Nat) : (⟨b, off, none⟩ : Addr).add i = ⟨b, off + i, none⟩ := by
  unfold Addr.add; split
  · simp_all
  · rfl
theorem CFit.slice {e : TypeId} {s : Nat} {A : Option Addr} {n c : Nat} (h : CFit P w t [.slice A n c]) (hu : P.underlying t = some (.slice e)) (hs : P.cellsOf e = s) (hs0 : 0 < s) :
    n ≤ c ∧ c ≤ maxLen ∧ ∃ rows : List (List Value), rows.length = n ∧ (∀ r ∈ rows, r.length = s ∧ CFit P w e r) ∧ Rd w w.heap.size s A n rows.flatten := by
  obtain ⟨H, enc, fu, y, hy⟩ := h
  rcases DataW.trod_slice hu hy with ⟨h0, _⟩ | ⟨a, len, cap, elems, rest, m, _, h1, _, _, hl, hc, hel, hat, _⟩
  · simp only [List.cons.injEq, Value.slice.injEq, and_true] at h0
    obtain ⟨rfl, rfl, rfl⟩ := h0
    exact ⟨Nat.le_refl _, Nat.zero_le _, [], rfl, by simp, Rd.nil_⟩
  · simp only [List.cons.injEq, Value.slice.injEq, and_true] at h1
    obtain ⟨rfl, rfl, rfl⟩ := h1
    rw [hs] at hat
    have hex : ∀ i, i < n → ∃ r : List Value, w.cells? 0 (a.add (i * s)) s = some r ∧ CFit P w e r := by
      intro i hi
      have := hat i hi
      rw [List.getElem?_eq_getElem (by omega)] at this
      obtain ⟨r, h2, h3⟩ := Option.bind_eq_some_iff.1 this
      exact ⟨r, h2, H, enc, m, _, h3⟩
    obtain ⟨f, hf⟩ := Go.Deep.choose_lt hex
    refine ⟨hl, hc, (List.range n).map f, by simp, ?_, ?_, ?_⟩
    · intro r hr
      obtain ⟨i, hi, rfl⟩ := List.mem_map.1 hr
      have hi' := List.mem_range.1 hi
      exact ⟨(World.cells?_some (hf i hi').1).2.1, (hf i hi').2⟩
    · have : ∀ l : List Nat, (∀ i ∈ l, i < n) → ((l.map f).flatten).length = l.length * s := by
        intro l
        induction l with
        | nil => simp
        | cons x l ih =>
          intro hl
          have hx := (World.cells?_some (hf x (hl x (by simp))).1).2.1
          have := ih (fun i hi => hl i (by simp [hi]))
          simp only [List.map_cons, List.flatten_cons, List.length_append, hx, this, List.length_cons, Nat.succ_mul]
          omega
      have := this (List.range n) (fun i hi => List.mem_range.1 hi)
      simpa using this
    · intro hn
      obtain ⟨b, off, spot⟩ := a
      have hsp : spot = none := by
        have h0 := (World.cells?_some (hf 0 hn).1).2.2 0 hs0
        have h1 := (World.cells?_some (hf 0 hn).1).2.1
        rw [List.getElem?_eq_getElem (by omega)] at h0
        have := World.cell?_spot h0
        simpa [Addr.add] using this
      subst hsp
      refine ⟨b, off, rfl, ?_, ?_⟩
      · have h0 := (World.cells?_some (hf 0 hn).1).2.2 0 hs0
        have h1 := (World.cells?_some (hf 0 hn).1).2.1
        rw [List.getElem?_eq_getElem (by omega)] at h0
        have := World.block_lt_of_cell? w _ h0
        simpa [Addr.add] using this
      · have key : ∀ l : List Nat, (∀ i ∈ l, i < n) → ∀ k, (∀ (i : Nat) x, l[i]? = some x → x = k + i) → ∀ j u, ((l.map f).flatten)[j]? = some u → w.cell? ⟨b, off + (k * s + j), none⟩ = some u := by
          intro l
          induction l with
          | nil => intro _ k _ j u hu; simp at hu
          | cons x l ih =>
            intro hl k hk j u hu
            have hx0 : x = k := by have := hk 0 x rfl; omega
            subst hx0
            obtain ⟨_, hlen, hc⟩ := World.cells?_some (hf x (hl x (by simp))).1
            simp only [List.map_cons, List.flatten_cons] at hu
            by_cases hj : j < s
            · rw [List.getElem?_append_left (by omega)] at hu
              have := hc j hj
              rw [add_none, add_none, hu] at this
              rw [← this]; congr 1; simp
            · rw [List.getElem?_append_right (by omega), hlen] at hu
              have := ih (fun i hi => hl i (by simp [hi])) (x + 1) (fun i y hy => by have := hk (i + 1) y (by simpa using hy); omega) (j - s) u hu
              rw [← this]; congr 1
              have : (x + 1) * s + (j - s) = x * s + j := by rw [Nat.succ_mul]; omega
              rw [this]
        intro j u hu
        have := key (List.range n) (fun i hi => List.mem_range.1 hi) 0 (fun i x hx => by
          rw [List.getElem?_eq_some_iff] at hx
          obtain ⟨h1, h2⟩ := hx
          simp at h2; omega) j u hu
        simpa using this
end

/-- The fields lie one behind the other, and fill it. -/
def tiled (P : Program) (total : Nat) : List Field → Nat → Bool
  | [], at0 => decide (at0 = total)
  | f :: fs, at0 => decide (f.offset = at0) && tiled P total fs (at0 + P.cellsOf f.type)

/-- The types of the single cells of a type: structs and arrays are taken apart, down to integers, bools, strings, slices. -/
def leafTypes (P : Program) : Nat → TypeId → Option (List TypeId)
  | 0, _ => none
  | n + 1, t =>
    match P.underlying t with
    | some (.struct fs) => if tiled P (P.cellsOf t) fs.toList 0 = true then fs.toList.foldr (fun f acc => (leafTypes P n f.type).bind fun l => acc.map (l ++ ·)) (some []) else none
    | some (.array m e) => if m * P.cellsOf e = P.cellsOf t then (leafTypes P n e).map fun l => (List.replicate m l).flatten else none
    | some (.int _) => some [t]
    | some .bool => some [t]
    | some .string => some [t]
    | some (.slice _) => some [t]
    | _ => none

section
variable {P : Program} {w : World}
theorem tiled_le {total : Nat} : ∀ (fs : List Field) (k : Nat), tiled P total fs k = true → k ≤ total
  | [], k, h => by simp [tiled] at h; omega
  | f :: fs, k, h => by
    simp [tiled] at h
    have := tiled_le fs _ h.2
    omega
/-- The cells cs are, one by one, of the types ts. -/
def Leaves (P : Program) (w : World) (ts : List TypeId) (cs : List Value) : Prop := cs.length = ts.length ∧ ∀ (i : Nat) (u : TypeId), ts[i]? = some u → ∃ v, cs[i]? = some v ∧ CFit P w u [v]
theorem Leaves.append {ts us : List TypeId} {cs ds : List Value} (h : Leaves P w ts cs) (k : Leaves P w us ds) : Leaves P w (ts ++ us) (cs ++ ds) := by
  refine ⟨by simp [h.1, k.1], fun i u hu => ?_⟩
  by_cases hi : i < ts.length
  · rw [List.getElem?_append_left hi] at hu
    rw [List.getElem?_append_left (by rw [h.1]; exact hi)]
    exact h.2 i u hu
  · rw [List.getElem?_append_right (by omega)] at hu
    rw [List.getElem?_append_right (by rw [h.1]; omega), h.1]
    exact k.2 _ u hu
theorem leaves_one {t : TypeId} {v : Value} (h : CFit P w t [v]) : Leaves P w [t] [v] := by
  refine ⟨rfl, fun i u hu => ?_⟩
  match i, hu with
  | 0, hu => simp at hu; subst hu; exact ⟨v, rfl, h⟩
  | i + 1, hu => simp at hu
theorem leaves_fields {n : Nat} (ih : ∀ t cs ts, leafTypes P n t = some ts → CFit P w t cs → Leaves P w ts cs) {total : Nat} {cs : List Value} (hlen : cs.length = total) :
    ∀ (fs : List Field) (k : Nat) (ts : List TypeId), tiled P total fs k = true → (∀ f ∈ fs, CFit P w f.type ((cs.drop f.offset).take (P.cellsOf f.type))) →
      fs.foldr (fun f acc => (leafTypes P n f.type).bind fun l => acc.map (l ++ ·)) (some []) = some ts → Leaves P w ts (cs.drop k)
  | [], k, ts, ht, _, hf => by
    simp [tiled] at ht
    simp at hf
    subst hf
    have : cs.drop k = [] := List.drop_eq_nil_of_le (by omega)
    rw [this]
    exact ⟨rfl, fun i u hu => by simp at hu⟩
  | f :: fs, k, ts, ht, hc, hf => by
    simp [tiled] at ht
    obtain ⟨ho, ht⟩ := ht
    have hle := tiled_le fs _ ht
    simp only [List.foldr_cons, Option.bind_eq_some_iff, Option.map_eq_some_iff] at hf
    obtain ⟨l, hl, r, hr, rfl⟩ := hf
    have h1 := ih _ _ _ hl (hc f (by simp))
    rw [ho] at h1
    have h2 := leaves_fields ih hlen fs _ r ht (fun g hg => hc g (by simp [hg])) hr
    have h3 := h1.append h2
    have e : (cs.drop k).take (P.cellsOf f.type) ++ cs.drop (k + P.cellsOf f.type) = cs.drop k := by
      rw [← List.drop_drop]; exact List.take_append_drop _ _
    rwa [e] at h3
theorem leaves_elems {e : TypeId} {l : List TypeId} {s : Nat} : ∀ (m k : Nat) (cs : List Value), cs.length = (k + m) * s → (∀ i, i < k + m → Leaves P w l ((cs.drop (i * s)).take s)) → Leaves P w (List.replicate m l).flatten (cs.drop (k * s))
  | 0, k, cs, hlen, _ => by
    have : cs.drop (k * s) = [] := List.drop_eq_nil_of_le (by simp at hlen; omega)
    rw [this]
    exact ⟨rfl, fun i u hu => by simp at hu⟩
  | m + 1, k, cs, hlen, hc => by
    have h1 := hc k (by omega)
    have h2 := leaves_elems (e := e) m (k + 1) cs (by rw [hlen]; congr 1; omega) (fun i hi => hc i (by omega))
    have h3 := h1.append h2
    have e : (cs.drop (k * s)).take s ++ cs.drop ((k + 1) * s) = cs.drop (k * s) := by
      rw [Nat.succ_mul, ← List.drop_drop]; exact List.take_append_drop _ _
    rw [e] at h3
    simpa [List.replicate_succ] using h3
theorem CFit.leaves : ∀ (n : Nat) (t : TypeId) (cs : List Value) (ts : List TypeId), leafTypes P n t = some ts → CFit P w t cs → Leaves P w ts cs
  | 0, _, _, _, h, _ => by simp [leafTypes] at h
  | n + 1, t, cs, ts, h, hc => by
    unfold leafTypes at h
    split at h
    · rename_i fs hu
      split at h
      · rename_i hti
        obtain ⟨hlen, hf⟩ := hc.struct hu
        have := leaves_fields (CFit.leaves n) hlen fs.toList 0 ts hti (fun f hm => by
          obtain ⟨i, hi, he⟩ := List.getElem_of_mem hm
          exact hf i f (by rw [← he]; simp [Array.getElem?_eq_getElem (show i < fs.size by simpa using hi)])) h
        simpa using this
      · cases h
    · rename_i m e hu
      split at h
      · rename_i hm
        obtain ⟨hlen, hf⟩ := hc.array hu
        simp only [Option.map_eq_some_iff] at h
        obtain ⟨l, hl, rfl⟩ := h
        have := leaves_elems (e := e) (P := P) (w := w) (l := l) (s := P.cellsOf e) m 0 cs (by rw [hlen]; simpa using hm.symm) (fun i hi => CFit.leaves n _ _ _ hl (hf i (by omega)))
        simpa using this
      · cases h
    · rename_i k hu
      cases h
      obtain ⟨x, rfl, _⟩ := hc.int hu
      exact leaves_one hc
    · rename_i hu
      cases h
      obtain ⟨x, rfl⟩ := hc.bool hu
      exact leaves_one hc
    · rename_i hu
      cases h
      obtain ⟨x, rfl, _⟩ := hc.string hu
      exact leaves_one hc
    · rename_i e hu
      cases h
      have h0 := hc
      obtain ⟨H, enc, fu, y, hy⟩ := h0
      rcases DataW.trod_slice hu hy with ⟨rfl, _⟩ | ⟨a, len, cap, elems, rest, m, _, rfl, _⟩
      · exact leaves_one hc
      · exact leaves_one hc
    · cases h

/-- The cells of a type of integers alone. -/
def intsOf (ks : List IntKind) (ns : List Int) : List Value := List.zipWith (fun k n => Value.int k n) ks ns
theorem Leaves.ints : ∀ (ks : List IntKind) (ts : List TypeId) (cs : List Value), Leaves P w ts cs → ts.length = ks.length → (∀ (i : Nat) (u : TypeId) (k : IntKind), ts[i]? = some u → ks[i]? = some k → P.underlying u = some (.int k)) →
    ∃ ns : List Int, ns.length = ks.length ∧ cs = intsOf ks ns ∧ ∀ (i : Nat) (k : IntKind) (n : Int), ks[i]? = some k → ns[i]? = some n → (Lit.int k n).wf = true
  | [], ts, cs, h, hl, _ => ⟨[], rfl, by
      have : cs.length = 0 := by rw [h.1, hl]; rfl
      rw [List.eq_nil_of_length_eq_zero this]; rfl, fun i k n hk => by simp at hk⟩
  | k :: ks, [], cs, h, hl, _ => by simp at hl
  | k :: ks, t :: ts, [], h, hl, _ => by have := h.1; simp at this
  | k :: ks, t :: ts, c :: cs, h, hl, hu => by
    obtain ⟨v, hv, hf⟩ := h.2 0 t rfl
    simp at hv
    subst hv
    obtain ⟨n, hn, hw⟩ := hf.int (hu 0 t k rfl rfl)
    obtain ⟨ns, h1, h2, h3⟩ := Leaves.ints ks ts cs ⟨by have := h.1; simpa using this, fun i u hi => by
      obtain ⟨v, hv, hf⟩ := h.2 (i + 1) u (by simpa using hi)
      exact ⟨v, by simpa using hv, hf⟩⟩ (by simpa using hl) (fun i u k' hi hk => hu (i + 1) u k' (by simpa using hi) (by simpa using hk))
    refine ⟨n :: ns, by simp [h1], by simp [intsOf] at *; exact ⟨hn, h2⟩, fun i k' n' hk hn' => ?_⟩
    match i, hk, hn' with
    | 0, hk, hn' => simp at hk hn'; subst hk; subst hn'; exact hw
    | i + 1, hk, hn' => exact h3 i k' n' (by simpa using hk) (by simpa using hn')

/-- The kinds of the cells of a type that is made of integers alone. -/
def leafInts (P : Program) (t : TypeId) : Option (List IntKind) :=
  (leafTypes P 9 t).bind fun ts => ts.mapM fun u => match P.underlying u with | some (.int k) => some k | _ => none
theorem CFit.ints {t : TypeId} {cs : List Value} {ks : List IntKind} (h : CFit P w t cs) (hl : leafInts P t = some ks) :
    ∃ ns : List Int, ns.length = ks.length ∧ cs = intsOf ks ns ∧ ∀ (i : Nat) (k : IntKind) (n : Int), ks[i]? = some k → ns[i]? = some n → (Lit.int k n).wf = true := by
  unfold leafInts at hl
  obtain ⟨ts, h1, h2⟩ := Option.bind_eq_some_iff.1 hl
  refine (CFit.leaves 9 t cs ts h1 h).ints ks ts cs (by simpa using (mapM_some_length h2).symm) (fun i u k hi hk => ?_)
  have := mapM_some_get h2 i u hi
  rw [hk] at this
  split at this
  · rename_i k' hu
    rw [hu]; injection this with this; rw [this]
  · cases this
/-- A slice of a type of integers alone. -/
theorem CFit.slice_ints {t e : TypeId} {s : Nat} {A : Option Addr} {n c : Nat} {ks : List IntKind} (h : CFit P w t [.slice A n c]) (hu : P.underlying t = some (.slice e)) (hs : P.cellsOf e = s) (hs0 : 0 < s) (hl : leafInts P e = some ks) :
    n ≤ c ∧ c ≤ maxLen ∧ ∃ rows : List (List Int), rows.length = n ∧ (∀ r ∈ rows, r.length = ks.length ∧ ∀ (i : Nat) (k : IntKind) (m : Int), ks[i]? = some k → r[i]? = some m → (Lit.int k m).wf = true) ∧ Rd w w.heap.size s A n (rows.map (intsOf ks)).flatten := by
  obtain ⟨h1, h2, rows, h3, h4, h5⟩ := h.slice hu hs hs0
  have : ∀ rows : List (List Value), (∀ r ∈ rows, r.length = s ∧ CFit P w e r) → ∃ l : List (List Int), l.map (intsOf ks) = rows ∧ ∀ r ∈ l, r.length = ks.length ∧ ∀ (i : Nat) (k : IntKind) (m : Int), ks[i]? = some k → r[i]? = some m → (Lit.int k m).wf = true := by
    intro rows
    induction rows with
    | nil => exact fun _ => ⟨[], rfl, by simp⟩
    | cons r rows ih =>
      intro hr
      obtain ⟨l, hl1, hl2⟩ := ih (fun x hx => hr x (by simp [hx]))
      obtain ⟨ns, e1, e2, e3⟩ := (hr r (by simp)).2.ints hl
      refine ⟨ns :: l, by simp [hl1, e2], fun x hx => ?_⟩
      rcases List.mem_cons.1 hx with rfl | hx
      · exact ⟨e1, e3⟩
      · exact hl2 x hx
  obtain ⟨l, hl1, hl2⟩ := this rows h4
  subst hl1
  exact ⟨h1, h2, l, by simpa using h3, hl2, h5⟩
/-- A slice of integers of one kind. -/
theorem CFit.slice_int {t e : TypeId} {A : Option Addr} {n c : Nat} {k : IntKind} (h : CFit P w t [.slice A n c]) (hu : P.underlying t = some (.slice e)) (hs : P.cellsOf e = 1) (he : P.underlying e = some (.int k)) :
    n ≤ c ∧ c ≤ maxLen ∧ ∃ zs : List Int, zs.length = n ∧ (∀ z ∈ zs, (Lit.int k z).wf = true) ∧ Rd w w.heap.size 1 A n (zs.map (Value.int k)) := by
  obtain ⟨h1, h2, rows, h3, h4, h5⟩ := h.slice hu hs (by omega)
  have : ∀ rows : List (List Value), (∀ r ∈ rows, r.length = 1 ∧ CFit P w e r) → ∃ zs : List Int, zs.length = rows.length ∧ (∀ z ∈ zs, (Lit.int k z).wf = true) ∧ rows.flatten = zs.map (Value.int k) := by
    intro rows
    induction rows with
    | nil => exact fun _ => ⟨[], rfl, by simp, rfl⟩
    | cons r rows ih =>
      intro hr
      obtain ⟨zs, hl1, hl2, hl3⟩ := ih (fun x hx => hr x (by simp [hx]))
      obtain ⟨n, e1, e2⟩ := (hr r (by simp)).2.int he
      refine ⟨n :: zs, by simp [hl1], fun x hx => ?_, by simp [hl3, e1]⟩
      rcases List.mem_cons.1 hx with rfl | hx
      · exact e2
      · exact hl2 x hx
  obtain ⟨zs, hl1, hl2, hl3⟩ := this rows h4
  rw [hl3] at h5
  exact ⟨h1, h2, zs, by omega, hl2, h5⟩
end
end Go.Proofs.Ytfcgpgfghidajaa

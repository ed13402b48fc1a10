/- What is told of an argument that came in: 'Fit': its value can be read as data of its type. Lemmas that open it, whatever the program; and 'Rd': a slice that reads as a list of cells. Memory that a call makes for itself: laws whatever the program. append of one element inside a region that draws its order. Words and writes as lists: plain definitions, and what a slice value that reads as such is. Rows of the call's own, over calls and over stores elsewhere; slices of integers. Three numbers as the key of a map. Oracles: plain. Windows: plain. Tokens: bounds, faults, bodies: plain. What a key does to a meter: plain. '==' on values that are made of integers, bools and strings, structs and arrays of these in whatever depth: cell by cell. Records one behind the other: plain. Two slots for a record: plain. append of a whole slice, empty or not, onto a row of the call's own. What lies in memory while a function runs, in one fact: the blocks that are known whole and the rows of the call's own, no two at one place; all else that was there when the call began is as it was, but for the blocks named in G. Decimal digits of a number, and the number of decimal digits: plain. Texts of digits as lists of numbers: plain facts. append of one element to a row of the call's own, told by what lies in memory. Slices of texts that the call itself has made: turned round; joined. check: what its functions compute, on texts of digits. Slices of structs of integers that came in, cell by cell. Structs that hold a slice: an account's and terms' raw numbers. A slice of strings that came in. Several stores into one block. A region with one call whose answers go into new variables: what lies in memory behind it, wherever the variables came up. -/
import Derived.WalkKit
import Derived.ProofKit
import Derived.OpenShut
import Derived.Deep.Slices
import Derived.Lib.Hide
import Derived.Laws.OwnMore
import Derived.Deep.AppendLies
import Derived.Laws.BytesArg
import Derived.Deep.Draws
import Derived.Deep.RegionHeld3
import Derived.Deep.DrawnRows
import Derived.Test.YtopnlkhepjbjkaaDoorG1
import Derived.Laws.CopyOwn
import Derived.Laws.MakeOwn
import Derived.OwnWalk
import Derived.Maps.OwnSet
import Derived.Maps.OwnOps
import Derived.Maps.Views
import Derived.DeepKeys4
import Derived.ChangeKeys
import Derived.Laws.Bits64b
import Derived.IntWalk
import Derived.Laws.StructEq
import Derived.ChangeKeysEq
import Derived.Lib.OthersKept
import Derived.Lib.Strings
import Derived.Test.YtopnlkhepjbjkaaDoorShelf
import Derived.Sort.OwnSorted
import Derived.Lib.Join
import Derived.Test.YtopnlkhepjbjkaaDoorProg
import Derived.Deep.RegionHeld
import Derived.Deep.DeepCutAuto
namespace Go.Proofs.YtopnlkhepjbjkaaDoor
open Go.ChangeShapes Go.WideShapes Go.RowKit

/-- The value v can be read, at the type t, in the world w. -/
def Fit (P : Program) (w : World) (t : TypeId) (v : Value) : Prop :=
  ∃ (H : Type) (enc : TypeId × Value → H) (base : Nat) (d : DataW H) (ps : List MemPlace), Value.okWide P w .any base t v ∧ DataW.Trod enc P w 0 (fun _ => true) true t v d ps ∧ ∀ x ∈ ps, x.block < w.heap.size

/-- These cells can be read, at the type t, in the world w. -/
def CFit (P : Program) (w : World) (t : TypeId) (cs : List Value) : Prop :=
  ∃ (H : Type) (enc : TypeId × Value → H) (n : Nat) (y : DataW H × List MemPlace), DataW.trod enc P w 0 (fun _ => true) true n t cs = some y

/-- A slice '.slice A n c' whose n elements are the cells xs, s cells each, in a block below B. -/
def Rd (w : World) (B s : Nat) (A : Option Addr) (n : Nat) (xs : List Value) : Prop :=
  xs.length = n * s ∧ (0 < n → ∃ b off, A = some ⟨b, off, none⟩ ∧ b < B ∧ ∀ j u, xs[j]? = some u → w.cell? ⟨b, off + j, none⟩ = some u)

theorem _root_.Go.RowKit.Below.step {w w1 w2 : World} (h : Below w.heap.size w w1) (k : Below w1.heap.size w1 w2) : Below w.heap.size w w2 := h.trans (k.mono h.size)
theorem below_a1 (w : World) (a : Obj) : Below w.heap.size w (w.alloc a) := (Below.refl _ _).alloc (Nat.le_refl _) a
theorem below_a2 (w : World) (a b : Obj) : Below w.heap.size w ((w.alloc a).alloc b) := (below_a1 w a).step (below_a1 _ b)
theorem below_a3 (w : World) (a b c : Obj) : Below w.heap.size w (((w.alloc a).alloc b).alloc c) := (below_a2 w a b).step (below_a1 _ c)
theorem below_a4 (w : World) (a b c d : Obj) : Below w.heap.size w ((((w.alloc a).alloc b).alloc c).alloc d) := (below_a3 w a b c).step (below_a1 _ d)
/-- Behind a contract that ends in 'Below': all cells and marks below read as they did. -/
theorem bcell {B : Nat} {W w1 : World} (hb : Below B W w1) : (∀ b o, b < B → w1.cell? ⟨b, o, none⟩ = W.cell? ⟨b, o, none⟩) ∧ (∀ b o, b < B → w1.frozen? ⟨b, o, none⟩ = W.frozen? ⟨b, o, none⟩) :=
  ⟨fun b o h => hb.cell (p := ⟨b, o, none⟩) h, fun b o h => hb.frozen (p := ⟨b, o, none⟩) h⟩
theorem ret_true {b : Bool} (h : b = true) : Ending.returned (.bool b) = .returned (.bool true) := by rw [h]
theorem ret_bool {a b : Bool} (h : a = b) : Ending.returned (.bool a) = .returned (.bool b) := by rw [h]
theorem ret_int2 {k j : IntKind} {a b c d : Int} (h : a = b) (h' : c = d) : Ending.returned (.tuple #[.int k a, .int j c]) = .returned (.tuple #[.int k b, .int j d]) := by rw [h, h']
theorem ret_int {k : IntKind} {a b : Int} (h : a = b) : Ending.returned (.int k a) = .returned (.int k b) := by rw [h]

section
variable {w w' : World} {B B' s n : Nat} {A : Option Addr} {xs : List Value}
theorem Rd.nil_ : Rd w B s A 0 [] := ⟨by simp, fun h => absurd h (by omega)⟩
theorem Rd.len (h : Rd w B s A n xs) : xs.length = n * s := h.1
theorem Rd.at_ (h : Rd w B s A n xs) (hn : 0 < n) : ∃ b off, A = some ⟨b, off, none⟩ ∧ b < B ∧ ∀ j u, xs[j]? = some u → w.cell? ⟨b, off + j, none⟩ = some u := h.2 hn
theorem Rd.keep (h : Rd w B s A n xs) (hk : ∀ b o, b < B → w'.cell? ⟨b, o, none⟩ = w.cell? ⟨b, o, none⟩) : Rd w' B s A n xs :=
  ⟨h.1, fun hn => by
    obtain ⟨b, off, e, hb, hc⟩ := h.2 hn
    exact ⟨b, off, e, hb, fun j u hu => (hk b _ hb).trans (hc j u hu)⟩⟩
theorem Rd.more (h : Rd w B s A n xs) (hB : B ≤ B') : Rd w B' s A n xs :=
  ⟨h.1, fun hn => by
    obtain ⟨b, off, e, hb, hc⟩ := h.2 hn
    exact ⟨b, off, e, by omega, hc⟩⟩
theorem Rd.below (h : Rd w B s A n xs) (hb : Below B w w') : Rd w' B s A n xs := h.keep fun b o hp => hb.cell (p := ⟨b, o, none⟩) hp
theorem Rd.below' (h : Rd w B s A n xs) (hb : Below B' w w') (hB : B ≤ B') : Rd w' B s A n xs := h.keep fun b o hp => hb.cell (p := ⟨b, o, none⟩) (by show b < B'; omega)
theorem Rd.of_own {base : Nat} {e : TypeId} {c : Nat} (h : w.ownsRow base e s (.slice A n c) n xs) : Rd w w.heap.size s A n xs := by
  refine ⟨h.1, fun hn => ?_⟩
  obtain ⟨g, cap, hv, _, hlt⟩ := h.form hn
  have hA : A = some ⟨g, 0, none⟩ := by injection hv
  subst hA
  refine ⟨g, 0, rfl, hlt, fun j u hu => ?_⟩
  have := h.cells (g := g) rfl j u hu
  unfold Addr.add at this
  split at this
  · subst_vars; simpa using this
  · simpa using this
theorem Rd.take (h : Rd w B s A n xs) {k : Nat} (hk : k ≤ n) : Rd w B s A k (xs.take (k * s)) := by
  refine ⟨by rw [List.length_take, h.1]; exact Nat.min_eq_left (Nat.mul_le_mul_right s hk), fun hn => ?_⟩
  obtain ⟨b, off, e, hb, hc⟩ := h.2 (by omega)
  refine ⟨b, off, e, hb, fun j u hu => hc j u ?_⟩
  rw [List.getElem?_take] at hu
  split at hu
  · exact hu
  · cases hu
end

section
variable {P : Program} {w : World} {t : TypeId} {v : Value} {cs : List Value}
theorem Fit.cells (h : Fit P w t v) : CFit P w t v.cells.toList := by
  obtain ⟨H, enc, base, d, ps, _, ⟨n, hn⟩, _⟩ := h
  exact ⟨H, enc, n, _, hn⟩
theorem Fit.struct {fs : Array Field} (h : Fit P w t v) (hu : P.underlying t = some (.struct fs)) : ∃ cs : List Value, v = .agg ⟨cs⟩ ∧ CFit P w t cs := by
  have hc := h.cells
  obtain ⟨H, enc, base, d, ps, hok, _, _⟩ := h
  unfold Value.okWide at hok; rw [hu] at hok
  obtain ⟨⟨cs⟩, rfl, _⟩ := hok
  exact ⟨cs, rfl, hc⟩
theorem Fit.array {m : Nat} {e : TypeId} (h : Fit P w t v) (hu : P.underlying t = some (.array m e)) : ∃ cs : List Value, v = .agg ⟨cs⟩ ∧ CFit P w t cs := by
  have hc := h.cells
  obtain ⟨H, enc, base, d, ps, hok, _, _⟩ := h
  unfold Value.okWide at hok; rw [hu] at hok
  obtain ⟨⟨cs⟩, rfl, _⟩ := hok
  exact ⟨cs, rfl, hc⟩
theorem Fit.slice {e : TypeId} (h : Fit P w t v) (hu : P.underlying t = some (.slice e)) : ∃ (A : Option Addr) (n c : Nat), v = .slice A n c ∧ CFit P w t [.slice A n c] := by
  have hc := h.cells
  obtain ⟨H, enc, base, d, ps, hok, _, _⟩ := h
  obtain ⟨A, n, c, rfl⟩ := okWide_slice hu hok
  exact ⟨A, n, c, rfl, by simpa [Value.cells] using hc⟩
theorem CFit.int {k : IntKind} (h : CFit P w t cs) (hu : P.underlying t = some (.int k)) : ∃ n, cs = [.int k n] ∧ (Lit.int k n).wf = true := by
  obtain ⟨H, enc, n, y, hy⟩ := h
  obtain ⟨n, h1, _, h2⟩ := DataW.trod_int hu hy
  exact ⟨n, h1, h2⟩
theorem CFit.bool (h : CFit P w t cs) (hu : P.underlying t = some .bool) : ∃ b, cs = [.bool b] := by
  obtain ⟨H, enc, n, y, hy⟩ := h
  obtain ⟨b, h1, _⟩ := DataW.trod_bool hu hy
  exact ⟨b, h1⟩
theorem CFit.string (h : CFit P w t cs) (hu : P.underlying t = some .string) : ∃ s : ByteArray, cs = [.string s] ∧ s.size ≤ maxLen := by
  obtain ⟨H, enc, n, y, hy⟩ := h
  obtain ⟨s, h1, _, h2⟩ := DataW.trod_string hu hy
  exact ⟨s, h1, h2⟩
theorem CFit.struct {fs : Array Field} (h : CFit P w t cs) (hu : P.underlying t = some (.struct fs)) :
    cs.length = P.cellsOf t ∧ ∀ (i : Nat) (f : Field), fs[i]? = some f → CFit P w f.type ((cs.drop f.offset).take (P.cellsOf f.type)) := by
  obtain ⟨H, enc, n, y, hy⟩ := h
  obtain ⟨xs, m, _, _, h1, h2, h3⟩ := DataW.trod_struct hu hy
  refine ⟨h1, fun i f hf => ?_⟩
  have hi : i < xs.length := by rw [h2]; exact (Array.getElem?_eq_some_iff.1 hf).1
  exact ⟨H, enc, m, xs[i], by rw [h3 i f hf]; exact List.getElem?_eq_getElem hi⟩
theorem CFit.array {m : Nat} {e : TypeId} (h : CFit P w t cs) (hu : P.underlying t = some (.array m e)) :
    cs.length = P.cellsOf t ∧ ∀ i, i < m → CFit P w e ((cs.drop (i * P.cellsOf e)).take (P.cellsOf e)) := by
  obtain ⟨H, enc, n, y, hy⟩ := h
  obtain ⟨xs, m', _, _, h1, h2, h3⟩ := DataW.trod_array hu hy
  exact ⟨h1, fun i hi => ⟨H, enc, m', xs[i]'(by omega), by rw [h3 i hi]; exact List.getElem?_eq_getElem (by omega)⟩⟩
theorem add_none (b off i : Nat) : (⟨b, off, none⟩ : Addr).add i = ⟨b, off + i, none⟩ := by
  unfold Addr.add; split
  · simp_all
  · rfl
theorem CFit.slice {e : TypeId} {s : Nat} {A : Option Addr} {n c : Nat} (h : CFit P w t [.slice A n c]) (hu : P.underlying t = some (.slice e)) (hs : P.cellsOf e = s) (hs0 : 0 < s) :
    n ≤ c ∧ c ≤ maxLen ∧ ∃ rows : List (List Value), rows.length = n ∧ (∀ r ∈ rows, r.length = s ∧ CFit P w e r) ∧ Rd w w.heap.size s A n rows.flatten := by
  obtain ⟨H, enc, fu, y, hy⟩ := h
  rcases DataW.trod_slice hu hy with ⟨h0, _⟩ | ⟨a, len, cap, elems, rest, m, _, h1, _, _, hl, hc, hel, hat, _⟩
  · simp only [List.cons.injEq, Value.slice.injEq, and_true] at h0
    obtain ⟨rfl, rfl, rfl⟩ := h0
    exact ⟨Nat.le_refl _, Nat.zero_le _, [], rfl, by simp, Rd.nil_⟩
  · simp only [List.cons.injEq, Value.slice.injEq, and_true] at h1
    obtain ⟨rfl, rfl, rfl⟩ := h1
    rw [hs] at hat
    have hex : ∀ i, i < n → ∃ r : List Value, w.cells? 0 (a.add (i * s)) s = some r ∧ CFit P w e r := by
      intro i hi
      have := hat i hi
      rw [List.getElem?_eq_getElem (by omega)] at this
      obtain ⟨r, h2, h3⟩ := Option.bind_eq_some_iff.1 this
      exact ⟨r, h2, H, enc, m, _, h3⟩
    obtain ⟨f, hf⟩ := Go.Deep.choose_lt hex
    refine ⟨hl, hc, (List.range n).map f, by simp, ?_, ?_, ?_⟩
    · intro r hr
      obtain ⟨i, hi, rfl⟩ := List.mem_map.1 hr
      have hi' := List.mem_range.1 hi
      exact ⟨(World.cells?_some (hf i hi').1).2.1, (hf i hi').2⟩
    · have : ∀ l : List Nat, (∀ i ∈ l, i < n) → ((l.map f).flatten).length = l.length * s := by
        intro l
        induction l with
        | nil => simp
        | cons x l ih =>
          intro hl
          have hx := (World.cells?_some (hf x (hl x (by simp))).1).2.1
          have := ih (fun i hi => hl i (by simp [hi]))
          simp only [List.map_cons, List.flatten_cons, List.length_append, hx, this, List.length_cons, Nat.succ_mul]
          omega
      have := this (List.range n) (fun i hi => List.mem_range.1 hi)
      simpa using this
    · intro hn
      obtain ⟨b, off, spot⟩ := a
      have hsp : spot = none := by
        have h0 := (World.cells?_some (hf 0 hn).1).2.2 0 hs0
        have h1 := (World.cells?_some (hf 0 hn).1).2.1
        rw [List.getElem?_eq_getElem (by omega)] at h0
        have := World.cell?_spot h0
        simpa [Addr.add] using this
      subst hsp
      refine ⟨b, off, rfl, ?_, ?_⟩
      · have h0 := (World.cells?_some (hf 0 hn).1).2.2 0 hs0
        have h1 := (World.cells?_some (hf 0 hn).1).2.1
        rw [List.getElem?_eq_getElem (by omega)] at h0
        have := World.block_lt_of_cell? w _ h0
        simpa [Addr.add] using this
      · have key : ∀ l : List Nat, (∀ i ∈ l, i < n) → ∀ k, (∀ (i : Nat) x, l[i]? = some x → x = k + i) → ∀ j u, ((l.map f).flatten)[j]? = some u → w.cell? ⟨b, off + (k * s + j), none⟩ = some u := by
          intro l
          induction l with
          | nil => intro _ k _ j u hu; simp at hu
          | cons x l ih =>
            intro hl k hk j u hu
            have hx0 : x = k := by have := hk 0 x rfl; omega
            subst hx0
            obtain ⟨_, hlen, hc⟩ := World.cells?_some (hf x (hl x (by simp))).1
            simp only [List.map_cons, List.flatten_cons] at hu
            by_cases hj : j < s
            · rw [List.getElem?_append_left (by omega)] at hu
              have := hc j hj
              rw [add_none, add_none, hu] at this
              rw [← this]; congr 1; simp
            · rw [List.getElem?_append_right (by omega), hlen] at hu
              have := ih (fun i hi => hl i (by simp [hi])) (x + 1) (fun i y hy => by have := hk (i + 1) y (by simpa using hy); omega) (j - s) u hu
              rw [← this]; congr 1
              have : (x + 1) * s + (j - s) = x * s + j := by rw [Nat.succ_mul]; omega
              rw [this]
        intro j u hu
        have := key (List.range n) (fun i hi => List.mem_range.1 hi) 0 (fun i x hx => by
          rw [List.getElem?_eq_some_iff] at hx
          obtain ⟨h1, h2⟩ := hx
          simp at h2; omega) j u hu
        simpa using this
end

/-- The fields lie one behind the other, and fill it. -/
def tiled (P : Program) (total : Nat) : List Field → Nat → Bool
  | [], at0 => decide (at0 = total)
  | f :: fs, at0 => decide (f.offset = at0) && tiled P total fs (at0 + P.cellsOf f.type)

/-- The types of the single cells of a type: structs and arrays are taken apart, down to integers, bools, strings, slices. -/
def leafTypes (P : Program) : Nat → TypeId → Option (List TypeId)
  | 0, _ => none
  | n + 1, t =>
    match P.underlying t with
    | some (.struct fs) => if tiled P (P.cellsOf t) fs.toList 0 = true then fs.toList.foldr (fun f acc => (leafTypes P n f.type).bind fun l => acc.map (l ++ ·)) (some []) else none
    | some (.array m e) => if m * P.cellsOf e = P.cellsOf t then (leafTypes P n e).map fun l => (List.replicate m l).flatten else none
    | some (.int _) => some [t]
    | some .bool => some [t]
    | some .string => some [t]
    | some (.slice _) => some [t]
    | _ => none

section
variable {P : Program} {w : World}
theorem tiled_le {total : Nat} : ∀ (fs : List Field) (k : Nat), tiled P total fs k = true → k ≤ total
  | [], k, h => by simp [tiled] at h; omega
  | f :: fs, k, h => by
    simp [tiled] at h
    have := tiled_le fs _ h.2
    omega
/-- The cells cs are, one by one, of the types ts. -/
def Leaves (P : Program) (w : World) (ts : List TypeId) (cs : List Value) : Prop := cs.length = ts.length ∧ ∀ (i : Nat) (u : TypeId), ts[i]? = some u → ∃ v, cs[i]? = some v ∧ CFit P w u [v]
theorem Leaves.append {ts us : List TypeId} {cs ds : List Value} (h : Leaves P w ts cs) (k : Leaves P w us ds) : Leaves P w (ts ++ us) (cs ++ ds) := by
  refine ⟨by simp [h.1, k.1], fun i u hu => ?_⟩
  by_cases hi : i < ts.length
  · rw [List.getElem?_append_left hi] at hu
    rw [List.getElem?_append_left (by rw [h.1]; exact hi)]
    exact h.2 i u hu
  · rw [List.getElem?_append_right (by omega)] at hu
    rw [List.getElem?_append_right (by rw [h.1]; omega), h.1]
    exact k.2 _ u hu
theorem leaves_one {t : TypeId} {v : Value} (h : CFit P w t [v]) : Leaves P w [t] [v] := by
  refine ⟨rfl, fun i u hu => ?_⟩
  match i, hu with
  | 0, hu => simp at hu; subst hu; exact ⟨v, rfl, h⟩
  | i + 1, hu => simp at hu
theorem leaves_fields {n : Nat} (ih : ∀ t cs ts, leafTypes P n t = some ts → CFit P w t cs → Leaves P w ts cs) {total : Nat} {cs : List Value} (hlen : cs.length = total) :
    ∀ (fs : List Field) (k : Nat) (ts : List TypeId), tiled P total fs k = true → (∀ f ∈ fs, CFit P w f.type ((cs.drop f.offset).take (P.cellsOf f.type))) →
      fs.foldr (fun f acc => (leafTypes P n f.type).bind fun l => acc.map (l ++ ·)) (some []) = some ts → Leaves P w ts (cs.drop k)
  | [], k, ts, ht, _, hf => by
    simp [tiled] at ht
    simp at hf
    subst hf
    have : cs.drop k = [] := List.drop_eq_nil_of_le (by omega)
    rw [this]
    exact ⟨rfl, fun i u hu => by simp at hu⟩
  | f :: fs, k, ts, ht, hc, hf => by
    simp [tiled] at ht
    obtain ⟨ho, ht⟩ := ht
    have hle := tiled_le fs _ ht
    simp only [List.foldr_cons, Option.bind_eq_some_iff, Option.map_eq_some_iff] at hf
    obtain ⟨l, hl, r, hr, rfl⟩ := hf
    have h1 := ih _ _ _ hl (hc f (by simp))
    rw [ho] at h1
    have h2 := leaves_fields ih hlen fs _ r ht (fun g hg => hc g (by simp [hg])) hr
    have h3 := h1.append h2
    have e : (cs.drop k).take (P.cellsOf f.type) ++ cs.drop (k + P.cellsOf f.type) = cs.drop k := by
      rw [← List.drop_drop]; exact List.take_append_drop _ _
    rwa [e] at h3
theorem leaves_elems {e : TypeId} {l : List TypeId} {s : Nat} : ∀ (m k : Nat) (cs : List Value), cs.length = (k + m) * s → (∀ i, i < k + m → Leaves P w l ((cs.drop (i * s)).take s)) → Leaves P w (List.replicate m l).flatten (cs.drop (k * s))
  | 0, k, cs, hlen, _ => by
    have : cs.drop (k * s) = [] := List.drop_eq_nil_of_le (by simp at hlen; omega)
    rw [this]
    exact ⟨rfl, fun i u hu => by simp at hu⟩
  | m + 1, k, cs, hlen, hc => by
    have h1 := hc k (by omega)
    have h2 := leaves_elems (e := e) m (k + 1) cs (by rw [hlen]; congr 1; omega) (fun i hi => hc i (by omega))
    have h3 := h1.append h2
    have e : (cs.drop (k * s)).take s ++ cs.drop ((k + 1) * s) = cs.drop (k * s) := by
      rw [Nat.succ_mul, ← List.drop_drop]; exact List.take_append_drop _ _
    rw [e] at h3
    simpa [List.replicate_succ] using h3
theorem CFit.leaves : ∀ (n : Nat) (t : TypeId) (cs : List Value) (ts : List TypeId), leafTypes P n t = some ts → CFit P w t cs → Leaves P w ts cs
  | 0, _, _, _, h, _ => by simp [leafTypes] at h
  | n + 1, t, cs, ts, h, hc => by
    unfold leafTypes at h
    split at h
    · rename_i fs hu
      split at h
      · rename_i hti
        obtain ⟨hlen, hf⟩ := hc.struct hu
        have := leaves_fields (CFit.leaves n) hlen fs.toList 0 ts hti (fun f hm => by
          obtain ⟨i, hi, he⟩ := List.getElem_of_mem hm
          exact hf i f (by rw [← he]; simp [Array.getElem?_eq_getElem (show i < fs.size by simpa using hi)])) h
        simpa using this
      · cases h
    · rename_i m e hu
      split at h
      · rename_i hm
        obtain ⟨hlen, hf⟩ := hc.array hu
        simp only [Option.map_eq_some_iff] at h
        obtain ⟨l, hl, rfl⟩ := h
        have := leaves_elems (e := e) (P := P) (w := w) (l := l) (s := P.cellsOf e) m 0 cs (by rw [hlen]; simpa using hm.symm) (fun i hi => CFit.leaves n _ _ _ hl (hf i (by omega)))
        simpa using this
      · cases h
    · rename_i k hu
      cases h
      obtain ⟨x, rfl, _⟩ := hc.int hu
      exact leaves_one hc
    · rename_i hu
      cases h
      obtain ⟨x, rfl⟩ := hc.bool hu
      exact leaves_one hc
    · rename_i hu
      cases h
      obtain ⟨x, rfl, _⟩ := hc.string hu
      exact leaves_one hc
    · rename_i e hu
      cases h
      have h0 := hc
      obtain ⟨H, enc, fu, y, hy⟩ := h0
      rcases DataW.trod_slice hu hy with ⟨rfl, _⟩ | ⟨a, len, cap, elems, rest, m, _, rfl, _⟩
      · exact leaves_one hc
      · exact leaves_one hc
    · cases h

/-- The cells of a type of integers alone. -/
def intsOf (ks : List IntKind) (ns : List Int) : List Value := List.zipWith (fun k n => Value.int k n) ks ns
theorem Leaves.ints : ∀ (ks : List IntKind) (ts : List TypeId) (cs : List Value), Leaves P w ts cs → ts.length = ks.length → (∀ (i : Nat) (u : TypeId) (k : IntKind), ts[i]? = some u → ks[i]? = some k → P.underlying u = some (.int k)) →
    ∃ ns : List Int, ns.length = ks.length ∧ cs = intsOf ks ns ∧ ∀ (i : Nat) (k : IntKind) (n : Int), ks[i]? = some k → ns[i]? = some n → (Lit.int k n).wf = true
  | [], ts, cs, h, hl, _ => ⟨[], rfl, by
      have : cs.length = 0 := by rw [h.1, hl]; rfl
      rw [List.eq_nil_of_length_eq_zero this]; rfl, fun i k n hk => by simp at hk⟩
  | k :: ks, [], cs, h, hl, _ => by simp at hl
  | k :: ks, t :: ts, [], h, hl, _ => by have := h.1; simp at this
  | k :: ks, t :: ts, c :: cs, h, hl, hu => by
    obtain ⟨v, hv, hf⟩ := h.2 0 t rfl
    simp at hv
    subst hv
    obtain ⟨n, hn, hw⟩ := hf.int (hu 0 t k rfl rfl)
    obtain ⟨ns, h1, h2, h3⟩ := Leaves.ints ks ts cs ⟨by have := h.1; simpa using this, fun i u hi => by
      obtain ⟨v, hv, hf⟩ := h.2 (i + 1) u (by simpa using hi)
      exact ⟨v, by simpa using hv, hf⟩⟩ (by simpa using hl) (fun i u k' hi hk => hu (i + 1) u k' (by simpa using hi) (by simpa using hk))
    refine ⟨n :: ns, by simp [h1], by simp [intsOf] at *; exact ⟨hn, h2⟩, fun i k' n' hk hn' => ?_⟩
    match i, hk, hn' with
    | 0, hk, hn' => simp at hk hn'; subst hk; subst hn'; exact hw
    | i + 1, hk, hn' => exact h3 i k' n' (by simpa using hk) (by simpa using hn')

/-- The kinds of the cells of a type that is made of integers alone. -/
def leafInts (P : Program) (t : TypeId) : Option (List IntKind) :=
  (leafTypes P 9 t).bind fun ts => ts.mapM fun u => match P.underlying u with | some (.int k) => some k | _ => none
theorem CFit.ints {t : TypeId} {cs : List Value} {ks : List IntKind} (h : CFit P w t cs) (hl : leafInts P t = some ks) :
    ∃ ns : List Int, ns.length = ks.length ∧ cs = intsOf ks ns ∧ ∀ (i : Nat) (k : IntKind) (n : Int), ks[i]? = some k → ns[i]? = some n → (Lit.int k n).wf = true := by
  unfold leafInts at hl
  obtain ⟨ts, h1, h2⟩ := Option.bind_eq_some_iff.1 hl
  refine (CFit.leaves 9 t cs ts h1 h).ints ks ts cs (by simpa using (mapM_some_length h2).symm) (fun i u k hi hk => ?_)
  have := mapM_some_get h2 i u hi
  rw [hk] at this
  split at this
  · rename_i k' hu
    rw [hu]; injection this with this; rw [this]
  · cases this
/-- A slice of a type of integers alone. -/
theorem CFit.slice_ints {t e : TypeId} {s : Nat} {A : Option Addr} {n c : Nat} {ks : List IntKind} (h : CFit P w t [.slice A n c]) (hu : P.underlying t = some (.slice e)) (hs : P.cellsOf e = s) (hs0 : 0 < s) (hl : leafInts P e = some ks) :
    n ≤ c ∧ c ≤ maxLen ∧ ∃ rows : List (List Int), rows.length = n ∧ (∀ r ∈ rows, r.length = ks.length ∧ ∀ (i : Nat) (k : IntKind) (m : Int), ks[i]? = some k → r[i]? = some m → (Lit.int k m).wf = true) ∧ Rd w w.heap.size s A n (rows.map (intsOf ks)).flatten := by
  obtain ⟨h1, h2, rows, h3, h4, h5⟩ := h.slice hu hs hs0
  have : ∀ rows : List (List Value), (∀ r ∈ rows, r.length = s ∧ CFit P w e r) → ∃ l : List (List Int), l.map (intsOf ks) = rows ∧ ∀ r ∈ l, r.length = ks.length ∧ ∀ (i : Nat) (k : IntKind) (m : Int), ks[i]? = some k → r[i]? = some m → (Lit.int k m).wf = true := by
    intro rows
    induction rows with
    | nil => exact fun _ => ⟨[], rfl, by simp⟩
    | cons r rows ih =>
      intro hr
      obtain ⟨l, hl1, hl2⟩ := ih (fun x hx => hr x (by simp [hx]))
      obtain ⟨ns, e1, e2, e3⟩ := (hr r (by simp)).2.ints hl
      refine ⟨ns :: l, by simp [hl1, e2], fun x hx => ?_⟩
      rcases List.mem_cons.1 hx with rfl | hx
      · exact ⟨e1, e3⟩
      · exact hl2 x hx
  obtain ⟨l, hl1, hl2⟩ := this rows h4
  subst hl1
  exact ⟨h1, h2, l, by simpa using h3, hl2, h5⟩
/-- A slice of integers of one kind. -/
theorem CFit.slice_int {t e : TypeId} {A : Option Addr} {n c : Nat} {k : IntKind} (h : CFit P w t [.slice A n c]) (hu : P.underlying t = some (.slice e)) (hs : P.cellsOf e = 1) (he : P.underlying e = some (.int k)) :
    n ≤ c ∧ c ≤ maxLen ∧ ∃ zs : List Int, zs.length = n ∧ (∀ z ∈ zs, (Lit.int k z).wf = true) ∧ Rd w w.heap.size 1 A n (zs.map (Value.int k)) := by
  obtain ⟨h1, h2, rows, h3, h4, h5⟩ := h.slice hu hs (by omega)
  have : ∀ rows : List (List Value), (∀ r ∈ rows, r.length = 1 ∧ CFit P w e r) → ∃ zs : List Int, zs.length = rows.length ∧ (∀ z ∈ zs, (Lit.int k z).wf = true) ∧ rows.flatten = zs.map (Value.int k) := by
    intro rows
    induction rows with
    | nil => exact fun _ => ⟨[], rfl, by simp, rfl⟩
    | cons r rows ih =>
      intro hr
      obtain ⟨zs, hl1, hl2, hl3⟩ := ih (fun x hx => hr x (by simp [hx]))
      obtain ⟨n, e1, e2⟩ := (hr r (by simp)).2.int he
      refine ⟨n :: zs, by simp [hl1], fun x hx => ?_, by simp [hl3, e1]⟩
      rcases List.mem_cons.1 hx with rfl | hx
      · exact e2
      · exact hl2 x hx
  obtain ⟨zs, hl1, hl2, hl3⟩ := this rows h4
  rw [hl3] at h5
  exact ⟨h1, h2, zs, by omega, hl2, h5⟩
end
end Go.Proofs.YtopnlkhepjbjkaaDoor
namespace Go.Proofs.YtopnlkhepjbjkaaDoor
open Go.RowKit

/-- The table's row of a slice type t and its element type e. -/
structure Elem (P : Program) (t e : TypeId) (size bytes : Nat) : Prop where
  und : P.underlying t = some (.slice e)
  info : ∃ i z, P.info? e = some i ∧ i.zero = some z ∧ i.size = size ∧ i.bytes = bytes ∧ z.cells.size = size
  pos : 0 < size

section
variable {P : Program}
theorem elem_of {t e : TypeId} {size bytes : Nat} {z : Value} (hu : P.underlying t = some (.slice e)) (h : (P.info? e).map (fun i => (i.zero, i.size, i.bytes)) = some (some z, size, bytes)) (hz : z.cells.size = size) (hp : 0 < size) : Elem P t e size bytes := by
  obtain ⟨i, h1, h2, h3, h4⟩ := info_parts h
  exact ⟨hu, ⟨i, z, h1, h2, h3, h4, hz⟩, hp⟩

theorem cells_new (w : World) (news : List Value) (e : TypeId) : ∀ j u, news[j]? = some u → (w.alloc (.cells ⟨news⟩ e)).cell? ((⟨w.heap.size, 0, none⟩ : Addr).add j) = some u := by
  intro j u hj
  have h : (w.alloc (.cells ⟨news⟩ e)).heap[w.heap.size]? = some (.cells ⟨news⟩ e) := heap_alloc_new w _
  rw [add_none, Nat.zero_add, cell_of_row _ _ _ _ _ _ h]
  simpa using hj

theorem own_slice {w : World} {base e size n : Nat} {v : Value} {xs : List Value} (h : w.ownsRow base e size v n xs) : ∃ A c, v = .slice A n c := by
  rcases h.2 with ⟨rfl, rfl⟩ | ⟨g, cap, _, rfl, _⟩
  · exact ⟨none, 0, rfl⟩
  · exact ⟨_, cap, rfl⟩
/-- 'append(v, x)' of one element behind its own new block: the row that v owns is longer by x's cells. -/
theorem wpList_push {ops : Array Oper} {rest : List Oper} {o : Oper} {a : Act} {Q : Exit → Act → World → Prop} {t e : TypeId} {size bytes : Nat} (E : Elem P t e size bytes) (hgd : o.guard = none) (s x : Operand)
    (ho : o.op = .call { callee := .builtin .append, args := #[s, x], argTypes := #[t, t] })
    (w : World) (base : Nat) (v : Value) (n : Nat) (xs news : List Value) (hs : a.eval s = v) (hown : w.ownsRow base e size v n xs) (hx : a.eval x = .slice (some ⟨w.heap.size, 0, none⟩) 1 1)
    (hl : news.length = size) (h1 : ∀ u ∈ news, u.oneCell' = true) (hbytes : (n + 1) * bytes ≤ 140737488355328) (hmax : n + 1 ≤ maxLen) (hbase : base ≤ w.heap.size)
    (h : ∀ A' c' w', w'.ownsRow base e size (.slice A' (n + 1) c') (n + 1) (xs ++ news) → Below base w w' → w.grownBy w' v.ownBlock → wpList P ops Q rest (a.put o.dst (.slice A' (n + 1) c')) w') : wpList P ops Q (o :: rest) a (w.alloc (.cells ⟨news⟩ e)) := by
  obtain ⟨i, z, hi, hz, hsize, hby, hzs⟩ := E.info
  refine wpList_append_own _ hgd s x t ho base e i z size bytes E.und hi hz hsize hby hzs E.pos v n xs hs (hown.alloc _) ⟨w.heap.size, 0, none⟩ 1 1 news hx (by omega) (cells_new w news e) h1 hmax hbytes (by simp; omega) ?_
  intro v' w' ho' hg _
  have hgr : w.grownBy w' v.ownBlock :=
    ⟨hg.os, hg.tape, hg.output, Nat.le_trans (by simp) hg.size, fun k hk hne => (hg.block k (by simp; omega) hne).trans (Below.heap_alloc w _ k hk)⟩
  obtain ⟨A', c', rfl⟩ := own_slice ho'
  exact h A' c' w' ho' ((Below.refl _ _).grown hgr hbase (fun k hk => (hown.lt k hk).1)) hgr

/-- string(v) of a row of bytes that v owns. -/
theorem own_string {w : World} {base src dst e : TypeId} {A : Option Addr} {n c : Nat} {ns : List Int} (hs : P.underlying src = some (.slice e)) (he : P.underlying e = some (.int .u8)) (hd : P.underlying dst = some .string)
    (h : w.ownsRow base e 1 (.slice A n c) n (ns.map (Value.int .u8))) : (convert src dst (.slice A n c)).run P w = .ok (.string (strOfNums ns)) w := by
  have hlen : ns.length = n := by have := h.1; simpa using this
  by_cases hn : 0 < n
  · obtain ⟨b, off, rfl, _, hc⟩ := (Rd.of_own h).at_ hn
    refine run_convert_bytes_arg w src e hs he b off n c ns hlen (fun i hi => ?_) dst hd
    have := hc i (.int .u8 (ns.getD i 0)) (by simp [hlen, hi])
    exact this
  · have h0 : n = 0 := by omega
    subst h0
    have hns : ns = [] := List.eq_nil_of_length_eq_zero hlen
    subst hns
    rcases h.2 with ⟨h1, _⟩ | ⟨g, cap, cur, h1, _⟩
    · injection h1 with h1; subst h1
      exact run_convert_bytes_nil w src e hs he _ _ dst hd
    · injection h1 with h1; subst h1
      exact run_convert_bytes_arg w src e hs he g 0 0 c [] rfl (fun i hi => absurd hi (by omega)) dst hd
/-- string([]byte{x}). -/
theorem conv_one0 {src dst e : TypeId} (hs : P.underlying src = some (.slice e)) (he : P.underlying e = some (.int .u8)) (hd : P.underlying dst = some .string) (w : World) (x : Int) :
    (convert src dst (.slice (some ⟨w.heap.size, 0, none⟩) 1 1)).run P (w.alloc (.cells #[.int .u8 x] e)) = .ok (.string (strOfNums [x])) (w.alloc (.cells #[.int .u8 x] e)) := by
  refine run_convert_bytes_arg _ src e hs he w.heap.size 0 1 1 [x] rfl (fun i hi => ?_) dst hd
  have h := cells_new w [.int .u8 x] e i (.int .u8 x) (by
    obtain rfl : i = 0 := by omega
    rfl)
  rw [add_none] at h
  obtain rfl : i = 0 := by omega
  exact h
theorem conv_one {src dst e : TypeId} (hs : P.underlying src = some (.slice e)) (he : P.underlying e = some (.int .u8)) (hd : P.underlying dst = some .string) (w : World) (x : Int) (m : Nat) :
    (convert src dst (.slice (some ⟨w.heap.size, 0, none⟩) 1 1)).run P ((w.drewN m).alloc (.cells #[.int .u8 x] e)) = .ok (.string (strOfNums [x])) ((w.drewN m).alloc (.cells #[.int .u8 x] e)) :=
  conv_one0 hs he hd (w.drewN m) x
end
end Go.Proofs.YtopnlkhepjbjkaaDoor
namespace Go.Proofs.YtopnlkhepjbjkaaDoor
open Go.RowKit
theorem below_ad {B : Nat} {w w' : World} (h : Below B w w') (hB : B ≤ w.heap.size) (o : Obj) : Below B w (w'.alloc o).drew := by
  have k := h.alloc (Nat.le_trans hB h.size) o
  exact ⟨k.os, k.tape, k.output, k.size, k.block⟩
section
variable {P : Program}
theorem step_push {ops : Array Oper} {o : Oper} {a : Act} {K : Act → World → Prop} {Q : Exit → Act → World → Prop} {F : Prop} {t e : TypeId} {size bytes : Nat} (E : Elem P t e size bytes) (hgd : o.guard = none) (s x : Operand)
    (ho : o.op = .call { callee := .builtin .append, args := #[s, x], argTypes := #[t, t] })
    (W : World) (base g : Nat) (v : Value) (n : Nat) (xs news : List Value) (hs : a.eval s = v) (hown : W.ownsRow base e size v n xs) (hx : a.eval x = .slice (some ⟨g, 0, none⟩) 1 1) (hg : W.heap[g]? = some (.cells ⟨news⟩ e (0, 0)))
    (hl : news.length = size) (h1 : ∀ u ∈ news, u.oneCell' = true) (hbytes : (n + 1) * bytes ≤ 140737488355328) (hmax : n + 1 ≤ maxLen) (w0 : World) (hw0 : Below base w0 W) (hbase0 : base ≤ w0.heap.size)
    (h : ∀ A' c' w', w'.ownsRow base e size (.slice A' (n + 1) c') (n + 1) (xs ++ news) → Below base w0 w' → K (a.put o.dst (.slice A' (n + 1) c')) w') :
    if Region.wanted o (yielded ops a.tmps) = true then Oper.wp P o a W K Q else F := by
  obtain ⟨i, z, hi, hz, hsize, hby, hzs⟩ := E.info
  have hbase : base ≤ W.heap.size := Nat.le_trans hbase0 hw0.size
  refine step_append_lies W hgd s x t ho base e i z size bytes E.und hi hz hsize hby hzs E.pos v n xs hs hown ⟨g, 0, none⟩ 1 1 news hx (by omega) ?_ h1 (by omega) hmax hbytes hbase _ rfl ?_
  · intro j u hj
    exact World.news_of_block hg j u hj
  · intro g' c' w' ho' hgr _ _
    exact h _ _ _ ho' (hw0.grown hgr hbase (fun k hk => (hown.lt k hk).1))
/-- In a plain region: the new element's block by its number. -/
theorem wpList_pushg {ops : Array Oper} {rest : List Oper} {o : Oper} {a : Act} {Q : Exit → Act → World → Prop} {t e : TypeId} {size bytes : Nat} (E : Elem P t e size bytes) (hgd : o.guard = none) (s x : Operand)
    (ho : o.op = .call { callee := .builtin .append, args := #[s, x], argTypes := #[t, t] })
    (W : World) (base g : Nat) (v : Value) (n : Nat) (xs news : List Value) (hs : a.eval s = v) (hown : W.ownsRow base e size v n xs) (hx : a.eval x = .slice (some ⟨g, 0, none⟩) 1 1) (hg : W.heap[g]? = some (.cells ⟨news⟩ e (0, 0)))
    (hl : news.length = size) (h1 : ∀ u ∈ news, u.oneCell' = true) (hbytes : (n + 1) * bytes ≤ 140737488355328) (hmax : n + 1 ≤ maxLen) (w0 : World) (hw0 : Below base w0 W) (hbase0 : base ≤ w0.heap.size)
    (h : ∀ A' c' w', w'.ownsRow base e size (.slice A' (n + 1) c') (n + 1) (xs ++ news) → Below base w0 w' → wpList P ops Q rest (a.put o.dst (.slice A' (n + 1) c')) w') : wpList P ops Q (o :: rest) a W := by
  obtain ⟨i, z, hi, hz, hsize, hby, hzs⟩ := E.info
  have hbase : base ≤ W.heap.size := Nat.le_trans hbase0 hw0.size
  refine wpList_append_lies W hgd s x t ho base e i z size bytes E.und hi hz hsize hby hzs E.pos v n xs hs hown ⟨g, 0, none⟩ 1 1 news hx (by omega) ?_ h1 (by omega) hmax hbytes hbase _ rfl ?_
  · intro j u hj
    exact World.news_of_block hg j u hj
  · intro g' c' w' ho' hgr _ _
    exact h _ _ _ ho' (hw0.grown hgr hbase (fun k hk => (hown.lt k hk).1))
theorem heap_alloc2 (w : World) (a b : Obj) : ((w.alloc a).alloc b).heap[w.heap.size + 1]? = some b := by
  have := heap_alloc_new (w.alloc a) b
  simpa using this
end
end Go.Proofs.YtopnlkhepjbjkaaDoor
namespace Go.Proofs.YtopnlkhepjbjkaaDoor
open Go.RowKit

/-- The cells of words. -/
def ws (xs : List Nat) : List Value := xs.map fun (x : Nat) => Value.int .u32 (x : Int)
/-- The cells of writes. -/
def wrs (l : List (Nat × Nat)) : List Value := l.flatMap fun (p : Nat × Nat) => [Value.int .i64 (p.1 : Int), Value.int .u32 (p.2 : Int)]
/-- The first writes done. -/
def applyW (xs : List Nat) (l : List (Nat × Nat)) : List Nat := l.foldl (fun x p => x.set p.1 p.2) xs
theorem applyW_length (xs : List Nat) (l : List (Nat × Nat)) : (applyW xs l).length = xs.length := by
  unfold applyW
  induction l generalizing xs with
  | nil => rfl
  | cons p l ih => simp only [List.foldl_cons]; rw [ih]; simp
theorem applyW_snoc (xs : List Nat) (l : List (Nat × Nat)) (p : Nat × Nat) : applyW xs (l ++ [p]) = (applyW xs l).set p.1 p.2 := by simp [applyW]
theorem applyW_append (xs : List Nat) (a b : List (Nat × Nat)) : applyW xs (a ++ b) = applyW (applyW xs a) b := by simp [applyW]
theorem applyW_lt {xs : List Nat} {l : List (Nat × Nat)} (hx : ∀ x ∈ xs, x < 4294967296) (hl : ∀ p ∈ l, p.2 < 4294967296) : ∀ x ∈ applyW xs l, x < 4294967296 := by
  induction l generalizing xs with
  | nil => exact hx
  | cons p l ih =>
    refine ih (fun x hx' => ?_) (fun q hq => hl q (by simp [hq]))
    rcases List.mem_or_eq_of_mem_set hx' with h | h
    · exact hx x h
    · have := hl p (by simp); omega
theorem ws_length (xs : List Nat) : (ws xs).length = xs.length := by simp [ws]
theorem wrs_length (l : List (Nat × Nat)) : (wrs l).length = l.length * 2 := by
  induction l with
  | nil => rfl
  | cons p l ih =>
    show ([Value.int .i64 p.1, Value.int .u32 p.2] ++ wrs l).length = _
    rw [List.length_append, ih]; simp only [List.length_cons, List.length_nil]; omega
theorem ws_get {xs : List Nat} {i : Nat} (h : i < xs.length) : (ws xs)[i]? = some (.int .u32 xs[i]) := by simp [ws, h]
theorem wrs_get {l : List (Nat × Nat)} {i : Nat} (h : i < l.length) : (wrs l)[i * 2]? = some (.int .i64 l[i].1) ∧ (wrs l)[i * 2 + 1]? = some (.int .u32 l[i].2) := by
  induction l generalizing i with
  | nil => simp at h
  | cons p l ih =>
    cases i with
    | zero => exact ⟨rfl, rfl⟩
    | succ i =>
      have := ih (i := i) (by simp at h; omega)
      simp only [List.getElem_cons_succ]
      rw [Nat.succ_mul]
      exact this
theorem ws_append (a b : List Nat) : ws (a ++ b) = ws a ++ ws b := by simp [ws]
theorem wrs_append (a b : List (Nat × Nat)) : wrs (a ++ b) = wrs a ++ wrs b := by simp [wrs]
theorem ws_set (xs : List Nat) (i x : Nat) : ws (xs.set i x) = (ws xs).set i (.int .u32 x) := by simp [ws, List.map_set]

/-- The value is a slice that reads as these words. -/
def IsWs (w : World) (v : Value) (xs : List Nat) : Prop :=
  ∃ (A : Option Addr) (c : Nat), v = .slice A xs.length c ∧ xs.length ≤ c ∧ c ≤ maxLen ∧ (∀ x ∈ xs, x < 4294967296) ∧ Rd w w.heap.size 1 A xs.length (ws xs)
/-- The value is a slice that reads as these writes. -/
def IsWr (w : World) (v : Value) (l : List (Nat × Nat)) : Prop :=
  ∃ (A : Option Addr) (c : Nat), v = .slice A l.length c ∧ l.length ≤ c ∧ c ≤ maxLen ∧ (∀ p ∈ l, p.2 < 4294967296) ∧ Rd w w.heap.size 2 A l.length (wrs l)
theorem IsWs.below {w w' : World} {v : Value} {xs : List Nat} (h : IsWs w v xs) (hb : Below w.heap.size w w') : IsWs w' v xs := by
  obtain ⟨A, c, h1, h2, h3, h4, h5⟩ := h
  exact ⟨A, c, h1, h2, h3, h4, (h5.below hb).more hb.size⟩
theorem IsWr.below {w w' : World} {v : Value} {l : List (Nat × Nat)} (h : IsWr w v l) (hb : Below w.heap.size w w') : IsWr w' v l := by
  obtain ⟨A, c, h1, h2, h3, h4, h5⟩ := h
  exact ⟨A, c, h1, h2, h3, h4, (h5.below hb).more hb.size⟩
theorem own_cap {w : World} {base e size n : Nat} {A : Option Addr} {c : Nat} {xs : List Value} (h : w.ownsRow base e size (.slice A n c) n xs) : n ≤ c ∧ c ≤ maxLen := by
  rcases h.2 with ⟨h1, h2⟩ | ⟨g, cap, cur, h1, _, _, h2, h3, _⟩
  · injection h1 with _ _ h1; subst h1; subst h2; exact ⟨Nat.le_refl _, Nat.zero_le _⟩
  · injection h1 with _ _ h1; subst h1; exact ⟨h2, h3⟩
theorem isws_own {w : World} {base e : Nat} {A : Option Addr} {n c : Nat} {xs : List Nat} (hn : xs.length = n) (hx : ∀ x ∈ xs, x < 4294967296) (h : w.ownsRow base e 1 (.slice A n c) n (ws xs)) : IsWs w (.slice A n c) xs := by
  subst hn
  exact ⟨A, c, rfl, (own_cap h).1, (own_cap h).2, hx, Rd.of_own h⟩
theorem iswr_own {w : World} {base e : Nat} {A : Option Addr} {n c : Nat} {l : List (Nat × Nat)} (hn : l.length = n) (hx : ∀ p ∈ l, p.2 < 4294967296) (h : w.ownsRow base e 2 (.slice A n c) n (wrs l)) : IsWr w (.slice A n c) l := by
  subst hn
  exact ⟨A, c, rfl, (own_cap h).1, (own_cap h).2, hx, Rd.of_own h⟩
/-- A block that is just these cells. -/
def Blk (w : World) (g : Nat) (t : TypeId) (cs : Array Value) : Prop := w.heap[g]? = some (.cells cs t (0, 0))
theorem Blk.lt {w : World} {g : Nat} {t : TypeId} {cs : Array Value} (h : Blk w g t cs) : g < w.heap.size := by
  rcases Nat.lt_or_ge g w.heap.size with hlt | hge
  · exact hlt
  · unfold Blk at h; rw [Array.getElem?_eq_none hge] at h; cases h
theorem Blk.cell {w : World} {g : Nat} {t : TypeId} {cs : Array Value} (h : Blk w g t cs) (i : Nat) : w.cell? ⟨g, i, none⟩ = cs[i]? := cell_of_row w g i cs t (0, 0) h
theorem Blk.frozen {w : World} {g : Nat} {t : TypeId} {cs : Array Value} (h : Blk w g t cs) (i : Nat) : w.frozen? ⟨g, i, none⟩ = false := by
  unfold Blk at h; simp [World.frozen?, h]
theorem Blk.new (w : World) (t : TypeId) (cs : Array Value) : Blk (w.alloc (.cells cs t)) w.heap.size t cs := heap_alloc_new w _
theorem Blk.below {w w' : World} {B g : Nat} {t : TypeId} {cs : Array Value} (h : Blk w g t cs) (hb : Below B w w') (hg : g < B) : Blk w' g t cs := (hb.block g hg).trans h
theorem Blk.set_ {w : World} {g : Nat} {t : TypeId} {cs : Array Value} (h : Blk w g t cs) (i : Nat) (u : Value) : Blk (w.setCell ⟨g, i, none⟩ u) g t (cs.setIfInBounds i u) := by
  unfold Blk at h ⊢
  simp [World.setCell, Array.getElem?_modify, h]
theorem Blk.alloc {w : World} {g : Nat} {t : TypeId} {cs : Array Value} (h : Blk w g t cs) (o : Obj) : Blk (w.alloc o) g t cs := (Below.heap_alloc w o g h.lt).trans h
theorem Blk.far {w : World} {g : Nat} {t : TypeId} {cs : Array Value} (h : Blk w g t cs) {p : Addr} (hp : g ≠ p.block) (u : Value) : Blk (w.setCell p u) g t cs := (Below.heap_setCell w p u g hp).trans h
/-- A row that begins at a block's head. -/
theorem Blk.rd {w : World} {g n s : Nat} {t : TypeId} {cs : Array Value} (h : Blk w g t cs) (hn : cs.size = n * s) : Rd w w.heap.size s (some ⟨g, 0, none⟩) n cs.toList := by
  refine ⟨by simpa using hn, fun _ => ⟨g, 0, rfl, h.lt, fun j u hu => ?_⟩⟩
  rw [Nat.zero_add, h.cell]; simpa using hu
theorem isws_blk {w : World} {g : Nat} {t : TypeId} {xs : List Nat} (hm : xs.length ≤ maxLen) (hx : ∀ x ∈ xs, x < 4294967296) (h : Blk w g t (ws xs).toArray) : IsWs w (.slice (some ⟨g, 0, none⟩) xs.length xs.length) xs := by
  refine ⟨_, _, rfl, Nat.le_refl _, hm, hx, ?_⟩
  have := h.rd (n := xs.length) (s := 1) (by simp [ws_length])
  simpa using this
/-- make([]T, n), T a kind of integers. -/
theorem run_make_n {P : Program} {t e : TypeId} {k : IntKind} {bytes : Nat} (hu : P.underlying t = some (.slice e)) (hinfo : (P.info? e).map (fun i => (i.zero, i.size, i.bytes)) = some (some (.int k 0), 1, bytes)) (n : Nat) (hb : bytes * n ≤ 281474976710656) (h63 : n ≤ 9223372036854775807) (w : World) :
    (Instr.makeSlice t (.int .i64 n) (.int .i64 n)).run P w = .ok (.slice (some ⟨w.heap.size, 0, none⟩) n n) (w.alloc (.cells (List.replicate n (.int k 0)).toArray e)) := by
  obtain ⟨i, hi, hz, hsize, hby⟩ := info_parts hinfo
  have hbn : (i.bytes : Int) * (n : Int) ≤ 281474976710656 := by
    rw [hby, ← Int.natCast_mul]; omega
  have h := run_make (P := P) w t e i (.int k 0) hu hi hz .i64 .i64 n n (by omega) (by omega) hbn (by omega)
  simp only [Int.toNat_natCast] at h
  rw [h, hsize, Nat.mul_one]
  congr 3
  apply Array.ext
  · simp [madeCells]
  · intro j h1 h2
    simp [madeCells, Value.cells, Nat.mod_one]
/-- copy(d, s) into what make has just laid, of the same length. -/
theorem wpList_copy_new {P : Program} {ops : Array Oper} {rest : List Oper} {o : Oper} {a : Act} {Q : Exit → Act → World → Prop} (hgd : o.guard = none) (d s : Operand) {dT sT elem : TypeId}
    (ho : o.op = .call { callee := .builtin .copy, args := #[d, s], argTypes := #[dT, sT] }) (hu : P.underlying dT = some (.slice elem)) (hsz : (P.info? elem).map (·.size) = some 1)
    (W : World) (n : Nat) (z : Value) (sp : Option Addr) (sCap : Nat) (cs : List Value) (hd : a.eval d = .slice (some ⟨W.heap.size, 0, none⟩) n n) (hs : a.eval s = .slice sp n sCap)
    (hr : Rd W W.heap.size 1 sp n cs) (h1 : ∀ v ∈ cs, v.oneCell' = true)
    (h : ∀ w', Blk w' W.heap.size elem cs.toArray → Below W.heap.size W w' → wpList P ops Q rest (a.put o.dst (goInt cs.length)) w') :
    wpList P ops Q (o :: rest) a (W.alloc (.cells (Array.replicate n z) elem)) := by
  have hlen : cs.length = n := by have := hr.len; omega
  refine wpList_copy_splice hgd d s dT sT ho elem hu hsz _ _ _ _ _ _ hd hs W.heap.size 0 (List.replicate n z) elem ?_ cs (by rw [hlen]; exact (Nat.min_self n).symm) ?_ (by simp [hlen]) h1 W.heap.size W (below_a1 W _) (Nat.le_refl _) ?_
  · have := heap_alloc_new W (.cells (Array.replicate n z) elem)
    simpa using this
  · intro hp
    obtain ⟨b, off, rfl, hB, hc⟩ := hr.at_ (by omega)
    refine ⟨rfl, ⟨b, off, none⟩, rfl, fun j v hv => ?_⟩
    rw [add_none, World.cell?_alloc_lt W _ _ (by show b < W.heap.size; exact hB)]
    exact hc j v hv
  · intro w' hh hb
    refine h w' ?_ hb
    have := hh.out
    unfold Blk
    rw [this]
    have e : splice (List.replicate n z) 0 cs = cs := by
      unfold splice
      simp [hlen]
    rw [e]
end Go.Proofs.YtopnlkhepjbjkaaDoor
namespace Go.Proofs.YtopnlkhepjbjkaaDoor
open Go.RowKit
section
variable {w w' : World} {base : Nat} {e : TypeId} {size : Nat} {v : Value} {n : Nat} {xs : List Value}
theorem own_below (h : w.ownsRow base e size v n xs) (hb : Below w.heap.size w w') : w'.ownsRow base e size v n xs :=
  h.kept (row := none) ⟨hb.os, hb.tape, hb.output, hb.size, fun i hi _ => hb.block i hi⟩ (by cases v.ownBlock <;> simp)
theorem own_far (h : w.ownsRow base e size v n xs) {p : Addr} (hp : p.block < base) (u : Value) : (w.setCell p u).ownsRow base e size v n xs := by
  refine h.kept (row := some p.block) ⟨rfl, rfl, rfl, by simp, fun k _ hk => heap_setCell_other w p k u (fun e => hk (by simp [e]))⟩ ?_
  cases hv : v.ownBlock with
  | none => exact .inl rfl
  | some g =>
    have := (h.lt g hv).1
    refine .inr ?_
    intro h'
    injection h' with h'
    omega
theorem own_other (h : w.ownsRow base e size v n xs) {p : Addr} (hp : some p.block ≠ v.ownBlock) (u : Value) : (w.setCell p u).ownsRow base e size v n xs :=
  h.kept (row := some p.block) ⟨rfl, rfl, rfl, by simp, fun k _ hk => heap_setCell_other w p k u (fun e => hk (by simp [e]))⟩ (.inr (fun e => hp e.symm))
theorem own_mono (h : w.ownsRow base e size v n xs) {b' : Nat} (hb : b' ≤ base) : w.ownsRow b' e size v n xs := by
  refine ⟨h.1, ?_⟩
  rcases h.2 with h2 | ⟨g, cap, cur, h1, h2, h3⟩
  · exact .inl h2
  · exact .inr ⟨g, cap, cur, h1, Nat.le_trans hb h2, h3⟩
theorem own_drewN (h : w.ownsRow base e size v n xs) (k : Nat) : (w.drewN k).ownsRow base e size v n xs := h
end
/-- append of one element: what else is known of the world behind it. -/
theorem wpList_pushk {P : Program} {ops : Array Oper} {rest : List Oper} {o : Oper} {a : Act} {Q : Exit → Act → World → Prop} {t e : TypeId} {size bytes : Nat} (E : Elem P t e size bytes) (hgd : o.guard = none) (s x : Operand)
    (ho : o.op = .call { callee := .builtin .append, args := #[s, x], argTypes := #[t, t] })
    (W : World) (base g : Nat) (v : Value) (n : Nat) (xs news : List Value) (hs : a.eval s = v) (hown : W.ownsRow base e size v n xs) (hx : a.eval x = .slice (some ⟨g, 0, none⟩) 1 1) (hg : W.heap[g]? = some (.cells ⟨news⟩ e (0, 0)))
    (hl : news.length = size) (h1 : ∀ u ∈ news, u.oneCell' = true) (hbytes : (n + 1) * bytes ≤ 140737488355328) (hmax : n + 1 ≤ maxLen) (hbase : base ≤ W.heap.size)
    (h : ∀ A' c' w', w'.ownsRow base e size (.slice A' (n + 1) c') (n + 1) (xs ++ news) → Below base W w' → W.grownBy w' v.ownBlock → (∀ b, b < W.heap.size → some b ≠ v.ownBlock → some b ≠ (Value.slice A' (n + 1) c').ownBlock) → wpList P ops Q rest (a.put o.dst (.slice A' (n + 1) c')) w') : wpList P ops Q (o :: rest) a W := by
  obtain ⟨i, z, hi, hz, hsize, hby, hzs⟩ := E.info
  refine wpList_append_lies W hgd s x t ho base e i z size bytes E.und hi hz hsize hby hzs E.pos v n xs hs hown ⟨g, 0, none⟩ 1 1 news hx (by omega) ?_ h1 (by omega) hmax hbytes hbase _ rfl ?_
  · intro j u hj
    exact World.news_of_block hg j u hj
  · intro g' c' w' ho' hgr hor _
    refine h _ _ _ ho' ((Below.refl base W).grown hgr hbase (fun k hk => (hown.lt k hk).1)) hgr (fun b hb hne e => ?_)
    have e2 : b = g' := by simpa [Value.ownBlock] using e
    subst e2
    rcases hor with h | h
    · exact hne h.symm
    · omega
/-- A block known whole, over an append. -/
theorem Blk.grown {w w' : World} {g : Nat} {t : TypeId} {cs : Array Value} {row : Option Nat} (h : Blk w g t cs) (hg : w.grownBy w' row) (hne : some g ≠ row) : Blk w' g t cs := (hg.block g h.lt hne).trans h
theorem own_ne {w : World} {base : Nat} {e : TypeId} {size : Nat} {v : Value} {n : Nat} {xs : List Value} (h : w.ownsRow base e size v n xs) {g : Nat} (hg : w.heap.size ≤ g) : some g ≠ v.ownBlock := fun e => by
  have := (h.lt g e.symm).2
  omega
theorem heap_new_at (w : World) (o : Obj) (g : Nat) (h : w.heap.size = g) : (w.alloc o).heap[g]? = some o := by subst h; exact heap_alloc_new w o
/-- The cells of integers. -/
def nis (xs : List Nat) : List Value := xs.map fun (x : Nat) => Value.int .i64 (x : Int)
theorem nis_length (xs : List Nat) : (nis xs).length = xs.length := by simp [nis]
theorem nis_get {xs : List Nat} {i : Nat} (h : i < xs.length) : (nis xs)[i]? = some (.int .i64 xs[i]) := by simp [nis, h]
theorem nis_append (a b : List Nat) : nis (a ++ b) = nis a ++ nis b := by simp [nis]
theorem int_info : (Tryd.prog.info? 3).map (fun i => (i.zero, i.size, i.bytes)) = some (some (.int .i64 0), 1, 8) := by kernel_rfl
theorem el_int : Elem Tryd.prog 56 3 1 8 := elem_of Tryd.underlying56 int_info rfl (by omega)
/-- make([]T, n), T of one cell. -/
theorem run_make_z {P : Program} {t e : TypeId} {z : Value} {bytes : Nat} (hu : P.underlying t = some (.slice e)) (hinfo : (P.info? e).map (fun i => (i.zero, i.size, i.bytes)) = some (some z, 1, bytes)) (hz1 : z.cells = #[z]) (n : Nat) (hb : bytes * n ≤ 281474976710656) (h63 : n ≤ 9223372036854775807) (w : World) :
    (Instr.makeSlice t (.int .i64 n) (.int .i64 n)).run P w = .ok (.slice (some ⟨w.heap.size, 0, none⟩) n n) (w.alloc (.cells (List.replicate n z).toArray e)) := by
  obtain ⟨i, hi, hz, hsize, hby⟩ := info_parts hinfo
  have hbn : (i.bytes : Int) * (n : Int) ≤ 281474976710656 := by
    rw [hby, ← Int.natCast_mul]; omega
  have h := run_make (P := P) w t e i z hu hi hz .i64 .i64 n n (by omega) (by omega) hbn (by omega)
  simp only [Int.toNat_natCast] at h
  rw [h, hsize, Nat.mul_one, hz1]
  congr 3
  apply Array.ext
  · simp [madeCells]
  · intro j h1 h2
    simp [madeCells, Nat.mod_one]
/-- A slice value that reads as these numbers. -/
def IsNs (w : World) (v : Value) (xs : List Nat) : Prop :=
  ∃ (A : Option Addr) (c : Nat), v = .slice A xs.length c ∧ xs.length ≤ c ∧ c ≤ maxLen ∧ Rd w w.heap.size 1 A xs.length (nis xs)
theorem IsNs.below {w w' : World} {v : Value} {xs : List Nat} (h : IsNs w v xs) (hb : Below w.heap.size w w') : IsNs w' v xs := by
  obtain ⟨A, c, h1, h2, h3, h5⟩ := h
  exact ⟨A, c, h1, h2, h3, (h5.below hb).more hb.size⟩
theorem isns_own {w : World} {base e : Nat} {A : Option Addr} {n c : Nat} {l : List Nat} (hn : l.length = n) (h : w.ownsRow base e 1 (.slice A n c) n (nis l)) : IsNs w (.slice A n c) l := by
  subst hn
  exact ⟨A, c, rfl, (own_cap h).1, (own_cap h).2, Rd.of_own h⟩
theorem IsNs.at_ {w : World} {A : Option Addr} {n c : Nat} {l : List Nat} (h : IsNs w (.slice A n c) l) {k : Nat} (hk : k < l.length) :
    ∃ b off, A = some ⟨b, off, none⟩ ∧ b < w.heap.size ∧ w.cell? ⟨b, off + k, none⟩ = some (.int .i64 (l[k] : Nat)) := by
  obtain ⟨A', c', e, _, _, hr⟩ := h
  injection e with e1 e2
  subst e1
  obtain ⟨b, off, rfl, hB, hc⟩ := hr.at_ (by omega)
  exact ⟨b, off, rfl, hB, hc _ _ (nis_get hk)⟩
end Go.Proofs.YtopnlkhepjbjkaaDoor
namespace Go.Proofs.YtopnlkhepjbjkaaDoor
open Go.RowKit Go.Maps Go.ChangeShapes Go.WideShapes
/-- The key's lits. -/
def kls (a b c : Int) : List Lit := [.int .i64 a, .int .i64 b, .int .i64 c]
def kl (a b c : Int) : Lit := .string (keyBytes (kls a b c))
def wf3 (a b c : Int) : Prop := (Lit.int .i64 a).wf = true ∧ (Lit.int .i64 b).wf = true ∧ (Lit.int .i64 c).wf = true
theorem what_laid : laidOutB Tryd.prog = true := by kernel_rfl
theorem what_law : Keyed Tryd.prog 112 := Keyed.of_law (deep_law_laid what_laid (m := 9) (by omega) (by decide +kernel) (by kernel_rfl) (by kernel_rfl))
theorem what_key {a b c : Int} (h : wf3 a b c) : keyOf Tryd.prog 112 (.agg #[.int .i64 a, .int .i64 b, .int .i64 c]) = some (kl a b c) := by
  obtain ⟨ha, hb, hc⟩ := h
  have c3 : Tryd.prog.cellsOf 112 = 3 := by kernel_rfl
  have c1 : Tryd.prog.cellsOf 3 = 1 := by kernel_rfl
  have hf : (Tryd.prog.keyType 112 && (Value.agg #[.int .i64 a, .int .i64 b, .int .i64 c]).formed Tryd.prog 112) = true := by kernel_rfl
  obtain ⟨d, hd⟩ : ∃ d, Tryd.prog.types.size + 1 = d + 1 + 1 := ⟨Tryd.prog.types.size - 1, by
    have : 1 ≤ Tryd.prog.types.size := by decide +kernel
    omega⟩
  have hk : Tryd.prog.keyLits (Tryd.prog.types.size + 1) 112 [.int .i64 a, .int .i64 b, .int .i64 c] = some (kls a b c) := by
    rw [hd]
    simp only [Program.keyLits, Tryd.underlying112, c3]
    simp [c1, ha, hb, hc, kls]
  unfold keyOf
  rw [Tryd.underlying112]
  simp only [hf, if_true]
  have e : (Value.agg #[.int .i64 a, .int .i64 b, .int .i64 c]).cells.toList = [.int .i64 a, .int .i64 b, .int .i64 c] := rfl
  rw [e, hk]
  rfl
theorem kl_inj {a b c a' b' c' : Int} (h : wf3 a b c) (h' : wf3 a' b' c') (e : kl a b c = kl a' b' c') : a = a' ∧ b = b' ∧ c = c' := by
  have h1 := what_key h
  have h2 := what_key h'
  rw [← e] at h2
  have := what_law.inj h1 h2
  simp at this
  exact this
theorem kl_lit (a b c : Int) : WideAt.IsKeyLit (kl a b c) := trivial
end Go.Proofs.YtopnlkhepjbjkaaDoor
namespace Go.Proofs.YtopnlkhepjbjkaaDoor
open Go.RowKit Go.Maps Go.ChangeShapes Go.WideShapes
/-- A pair: meter, revision, body, tag. -/
abbrev Pr := Int × Int × Int × Int
def keyP (p : Pr) : Int × Int × Int := (p.1, p.2.1, p.2.2.1)
def wfP (p : Pr) : Prop := wf3 p.1 p.2.1 p.2.2.1 ∧ (Lit.int .i64 p.2.2.2).wf = true
def mayK (k : Int × Int × Int) : Prop := 0 ≤ k.1 ∧ k.1 < 50 ∧ 0 ≤ k.2.1 ∧ k.2.1 ≤ 15 ∧ 0 ≤ k.2.2 ∧ k.2.2 ≤ 8796093022207
def okP (p : Pr) : Prop := mayK (keyP p) ∧ 0 ≤ p.2.2.2 ∧ p.2.2.2 ≤ 65535
/-- Such an oracle may be. -/
def OOk (l : List Pr) : Prop := l.length ≤ 500 ∧ (∀ p ∈ l, okP p) ∧ (l.map keyP).Nodup
/-- The tag that was given. -/
def look (l : List Pr) (k : Int × Int × Int) : Option Int := (l.find? (fun p => keyP p == k)).map fun p => p.2.2.2
theorem look_snoc (l : List Pr) (p : Pr) (k : Int × Int × Int) : look (l ++ [p]) k = (look l k).or (if keyP p = k then some p.2.2.2 else none) := by
  unfold look
  rw [List.find?_append]
  cases l.find? (fun p => keyP p == k) with
  | some q => rfl
  | none =>
    by_cases h : keyP p = k
    · simp [h]
    · simp [h]
theorem look_none {l : List Pr} {k : Int × Int × Int} : look l k = none ↔ k ∉ l.map keyP := by
  unfold look
  rw [Option.map_eq_none_iff, List.find?_eq_none, List.mem_map]
  constructor
  · rintro h ⟨p, hp, rfl⟩
    exact h p hp (by simp)
  · intro h p hp hk
    exact h ⟨p, hp, by simpa using hk⟩
theorem look_some_mem {l : List Pr} {k : Int × Int × Int} {t : Int} (h : look l k = some t) : ∃ p ∈ l, keyP p = k ∧ p.2.2.2 = t := by
  unfold look at h
  rw [Option.map_eq_some_iff] at h
  obtain ⟨p, hp, rfl⟩ := h
  exact ⟨p, List.mem_of_find?_eq_some hp, by simpa using List.find?_some hp, rfl⟩
theorem ook_snoc {l : List Pr} {p : Pr} (h : OOk l) (hp : okP p) (hl : l.length < 500) (hn : look l (keyP p) = none) : OOk (l ++ [p]) := by
  obtain ⟨h1, h2, h3⟩ := h
  refine ⟨by simp; omega, fun q hq => ?_, ?_⟩
  · rcases List.mem_append.1 hq with h | h
    · exact h2 q h
    · simp at h; subst h; exact hp
  · rw [List.map_append, List.nodup_append]
    refine ⟨h3, by simp, ?_⟩
    intro a ha b hb
    simp at hb
    subst hb
    intro h
    subst h
    exact look_none.1 hn ha
theorem ook_take {l : List Pr} (h : OOk l) (k : Nat) : OOk (l.take k) := by
  obtain ⟨h1, h2, h3⟩ := h
  exact ⟨by rw [List.length_take]; omega, fun p hp => h2 p (List.mem_of_mem_take hp), by rw [List.map_take]; exact h3.sublist (List.take_sublist _ _)⟩
theorem ook_next {l : List Pr} {k : Nat} (h : OOk l) (hk : k < l.length) : look (l.take k) (keyP l[k]) = none := by
  have h1 := (ook_take h (k + 1)).2.2
  rw [List.take_succ_eq_append_getElem hk, List.map_append, List.nodup_append] at h1
  rw [look_none]
  intro hm
  exact h1.2.2 _ hm (keyP l[k]) (by simp) rfl
/-- The cells of pairs. -/
def prs (l : List Pr) : List Value := l.flatMap fun (p : Pr) => [Value.int .i64 p.1, .int .i64 p.2.1, .int .i64 p.2.2.1, .int .i64 p.2.2.2]
theorem prs_length (l : List Pr) : (prs l).length = l.length * 4 := by
  induction l with
  | nil => rfl
  | cons p l ih =>
    show ([Value.int .i64 p.1, .int .i64 p.2.1, .int .i64 p.2.2.1, .int .i64 p.2.2.2] ++ prs l).length = _
    rw [List.length_append, ih]; simp only [List.length_cons, List.length_nil]; omega
theorem prs_get {l : List Pr} {i : Nat} (h : i < l.length) : (prs l)[i * 4]? = some (.int .i64 l[i].1) ∧ (prs l)[i * 4 + 1]? = some (.int .i64 l[i].2.1) ∧ (prs l)[i * 4 + 2]? = some (.int .i64 l[i].2.2.1) ∧ (prs l)[i * 4 + 3]? = some (.int .i64 l[i].2.2.2) := by
  induction l generalizing i with
  | nil => simp at h
  | cons p l ih =>
    cases i with
    | zero => exact ⟨rfl, rfl, rfl, rfl⟩
    | succ i =>
      have := ih (i := i) (by simp at h; omega)
      simp only [List.getElem_cons_succ]
      rw [Nat.succ_mul]
      exact this
theorem prs_append (a b : List Pr) : prs (a ++ b) = prs a ++ prs b := by simp [prs]
theorem prs_one (l : List Pr) : ∀ u ∈ prs l, u.oneCell' = true := by
  intro u hu
  obtain ⟨p, _, hp⟩ := List.mem_flatMap.1 hu
  simp at hp
  rcases hp with rfl | rfl | rfl | rfl <;> rfl
/-- The value is a slice that reads as these pairs. -/
def IsPs (w : World) (v : Value) (l : List Pr) : Prop :=
  ∃ (A : Option Addr) (c : Nat), v = .slice A l.length c ∧ l.length ≤ c ∧ c ≤ maxLen ∧ (∀ p ∈ l, wfP p) ∧ Rd w w.heap.size 4 A l.length (prs l)
theorem IsPs.below {w w' : World} {v : Value} {l : List Pr} (h : IsPs w v l) (hb : Below w.heap.size w w') : IsPs w' v l := by
  obtain ⟨A, c, h1, h2, h3, h4, h5⟩ := h
  exact ⟨A, c, h1, h2, h3, h4, (h5.below hb).more hb.size⟩
theorem isps_nil (w : World) : IsPs w (.slice none 0 0) [] := ⟨none, 0, rfl, Nat.le_refl _, Nat.zero_le _, by simp, Rd.nil_⟩
theorem isps_own {w : World} {base e : Nat} {A : Option Addr} {n c : Nat} {l : List Pr} (hn : l.length = n) (hw : ∀ p ∈ l, wfP p) (h : w.ownsRow base e 4 (.slice A n c) n (prs l)) : IsPs w (.slice A n c) l := by
  subst hn
  exact ⟨A, c, rfl, (own_cap h).1, (own_cap h).2, hw, Rd.of_own h⟩
theorem IsPs.at_ {w : World} {A : Option Addr} {n c : Nat} {l : List Pr} (h : IsPs w (.slice A n c) l) {k : Nat} (hk : k < l.length) :
    ∃ b off, A = some ⟨b, off, none⟩ ∧ b < w.heap.size ∧ w.cell? ⟨b, off + k * 4, none⟩ = some (.int .i64 l[k].1) ∧ w.cell? ⟨b, off + k * 4 + 1, none⟩ = some (.int .i64 l[k].2.1) ∧ w.cell? ⟨b, off + k * 4 + 2, none⟩ = some (.int .i64 l[k].2.2.1) ∧ w.cell? ⟨b, off + k * 4 + 3, none⟩ = some (.int .i64 l[k].2.2.2) := by
  obtain ⟨A', c', e, _, _, _, hr⟩ := h
  injection e with e1 e2
  subst e1
  obtain ⟨b, off, rfl, hB, hc⟩ := hr.at_ (by omega)
  have g := prs_get hk
  exact ⟨b, off, rfl, hB, hc _ _ g.1, hc (k * 4 + 1) _ g.2.1, hc (k * 4 + 2) _ g.2.2.1, hc (k * 4 + 3) _ g.2.2.2⟩
/-- The map tells the tags of these pairs. -/
def MapIs (D : DataW Unit) (l : List Pr) : Prop :=
  IsMap D ∧ ∀ a b c : Int, wf3 a b c → has D (kl a b c) = (look l (a, b, c)).isSome ∧ D.atKey (kl a b c) (.lit (.int .i64 0)) = .lit (.int .i64 ((look l (a, b, c)).getD 0))
theorem mapIs_nil : MapIs (.map []) [] := ⟨isMap_empty, fun _ _ _ _ => ⟨rfl, rfl⟩⟩
theorem mapIs_put {D : DataW Unit} {l : List Pr} {p : Pr} (h : MapIs D l) (hw : wfP p) (hn : look l (keyP p) = none) : MapIs (D.put (kl p.1 p.2.1 p.2.2.1) (.lit (.int .i64 p.2.2.2))) (l ++ [p]) := by
  obtain ⟨h1, h2⟩ := h
  refine ⟨h1.put _ _, fun a b c hk => ?_⟩
  rw [look_snoc]
  by_cases e : keyP p = (a, b, c)
  · have e2 := e
    unfold keyP at e2
    injection e2 with ea e2
    injection e2 with eb ec
    rw [if_pos e, ← e, hn, ← ea, ← eb, ← ec]
    exact ⟨has_put_same h1 (kl_lit _ _ _) _, atKey_put_same h1 (kl_lit _ _ _) _ _⟩
  · have hne : kl a b c ≠ kl p.1 p.2.1 p.2.2.1 := fun h => by
      obtain ⟨ea, eb, ec⟩ := kl_inj hk hw.1 h
      exact e (by unfold keyP; rw [ea, eb, ec])
    rw [if_neg e, has_put_other hne, atKey_put_other hne, Option.or_none]
    exact h2 a b c hk
theorem map_below {H : Type} {P : Program} {k : TypeId} {R : Value → Option (DataW H × List MemPlace)} {b n : Nat} {D : DataW H} {w w' : World} (h : w.ownsMap P k R b n D) (hb : Below w.heap.size w w') : w'.ownsMap P k R b n D := by
  obtain ⟨es, clock, h1, h2⟩ := h
  have hlt : b < w.heap.size := by
    rcases Nat.lt_or_ge b w.heap.size with h | h
    · exact h
    · rw [Array.getElem?_eq_none h] at h1; cases h1
  exact ⟨es, clock, (hb.block b hlt).trans h1, h2⟩
end Go.Proofs.YtopnlkhepjbjkaaDoor
namespace Go.Proofs.YtopnlkhepjbjkaaDoor
/-- A window that may be. -/
def WMay (H B : Nat) : Prop := (H = 0 ∧ B = 0) ∨ (1 ≤ H ∧ H ≤ 1048575 ∧ B.testBit 0 = true ∧ B < 2 ^ min H 64)
/-- The number was taken, as far as is known. -/
def wk (H B j : Nat) : Bool := decide (j ≤ H) && B.testBit (H - j)
/-- What is wrong with a number. -/
def judge (H B j : Nat) : Nat := if j + 64 ≤ H then 13 else if wk H B j = true then 14 else 0
/-- The number is taken. -/
def wtake (H B j : Nat) : Nat × Nat := if H < j then (j, (B <<< (j - H)) % 2 ^ 64 ||| 1) else (H, B ||| 2 ^ (H - j))
theorem WMay.lt {H B : Nat} (h : WMay H B) : B < 2 ^ 64 := by
  rcases h with ⟨_, rfl⟩ | ⟨_, _, _, h⟩
  · decide
  · exact Nat.lt_of_lt_of_le h (Nat.pow_le_pow_right (by omega) (Nat.min_le_right _ _))
theorem WMay.le {H B : Nat} (h : WMay H B) : H ≤ 1048575 := by
  rcases h with ⟨rfl, _⟩ | ⟨_, h, _⟩ <;> omega
theorem WMay.high {H B : Nat} (h : WMay H B) : B < 2 ^ H := by
  rcases h with ⟨rfl, rfl⟩ | ⟨_, _, _, h⟩
  · decide
  · exact Nat.lt_of_lt_of_le h (Nat.pow_le_pow_right (by omega) (Nat.min_le_left _ _))
theorem take_may {H B j : Nat} (h : WMay H B) (h1 : 1 ≤ j) (h2 : j ≤ 1048575) (hj : judge H B j = 0) : WMay (wtake H B j).1 (wtake H B j).2 := by
  unfold judge at hj
  have h64 : H < j + 64 := by
    by_cases g : j + 64 ≤ H
    · rw [if_pos g] at hj; cases hj
    · omega
  unfold wtake
  split
  · rename_i hlt
    refine .inr ⟨h1, h2, by simp, ?_⟩
    dsimp only
    by_cases hm : j ≤ 64
    · rw [Nat.min_eq_left hm]
      refine Nat.or_lt_two_pow (Nat.lt_of_le_of_lt (Nat.mod_le _ _) ?_) (Nat.one_lt_two_pow (by omega))
      rw [Nat.shiftLeft_eq]
      have := Nat.mul_lt_mul_of_pos_right h.high (Nat.two_pow_pos (j - H))
      rwa [← Nat.pow_add, show H + (j - H) = j by omega] at this
    · rw [Nat.min_eq_right (by omega)]
      exact Nat.or_lt_two_pow (Nat.mod_lt _ (by decide)) (by decide)
  · rename_i hlt
    rcases h with ⟨rfl, rfl⟩ | ⟨g1, g2, g3, g4⟩
    · omega
    · refine .inr ⟨g1, g2, by rw [Nat.testBit_or, g3]; rfl, Nat.or_lt_two_pow g4 (Nat.pow_lt_pow_right (by omega) (by omega))⟩
theorem take_high (H B j : Nat) : (wtake H B j).1 = max H j := by
  unfold wtake; split <;> dsimp only <;> omega
/-- What is known behind the taking. -/
theorem take_wk {H B j : Nat} (h : WMay H B) (h1 : 1 ≤ j) (hj : judge H B j = 0) (i : Nat) :
    wk (wtake H B j).1 (wtake H B j).2 i = (decide (max H j < i + 64) && (decide (i = j) || wk H B i)) := by
  unfold judge at hj
  have h64 : H < j + 64 := by
    by_cases g : j + 64 ≤ H
    · rw [if_pos g] at hj; cases hj
    · omega
  have hB := h.lt
  have hbig : ∀ k, 64 ≤ k → B.testBit k = false := fun k hk => Nat.testBit_lt_two_pow (Nat.lt_of_lt_of_le hB (Nat.pow_le_pow_right (by omega) hk))
  unfold wtake
  split
  · rename_i hlt
    unfold wk
    dsimp only
    rw [Nat.testBit_or, Nat.testBit_mod_two_pow, Nat.testBit_shiftLeft, show max H j = j by omega]
    by_cases e : i = j
    · subst e; simp
    · by_cases g : i ≤ j
      · have g1 : Nat.testBit 1 (j - i) = false := by
          rw [Bool.eq_false_iff]; intro h; have := Nat.testBit_one_eq_true_iff_self_eq_zero.1 h; omega
        rw [g1]
        by_cases g2 : i ≤ H
        · simp [g, g2, e, show j - H ≤ j - i by omega, show j - i - (j - H) = H - i by omega, show (j - i < 64) = (j < i + 64) by simp; omega]
        · simp [g, g2, e, show ¬ j - H ≤ j - i by omega]
      · simp [g, e, show ¬ i ≤ H by omega]
  · rename_i hlt
    unfold wk
    dsimp only
    rw [Nat.testBit_or, Nat.testBit_two_pow, show max H j = H by omega]
    by_cases g : i ≤ H
    · by_cases g2 : H < i + 64
      · by_cases e : i = j
        · subst e; simp [g, g2]
        · simp [g, g2, e, show ¬ H - j = H - i by omega]
      · simp [g, g2, hbig (H - i) (by omega), show ¬ H - j = H - i by omega]
    · simp [g]; intro _; omega
/-- The numbers that are known, behind the bits below t. -/
def lowIds (H B : Nat) : Nat → List Nat
  | 0 => []
  | t + 1 => if B.testBit t = true then (H - t) :: lowIds H B t else lowIds H B t
theorem low_none (H B : Nat) (t u : Nat) (h : ∀ k, t ≤ k → B.testBit k = false) : lowIds H B (t + u) = lowIds H B t := by
  induction u with
  | zero => rfl
  | succ u ih =>
    show (if B.testBit (t + u) = true then _ else lowIds H B (t + u)) = _
    rw [h (t + u) (by omega), if_neg (by simp), ih]
theorem low_same (H B C : Nat) (t : Nat) (h : ∀ k, k < t → B.testBit k = C.testBit k) : lowIds H B t = lowIds H C t := by
  induction t with
  | zero => rfl
  | succ t ih =>
    show (if B.testBit t = true then _ else _) = (if C.testBit t = true then _ else _)
    rw [h t (by omega), ih (fun k hk => h k (by omega))]
/-- The highest bit's number stands ahead. -/
theorem low_step (H b top : Nat) (h1 : 2 ^ top ≤ b) (h2 : b < 2 ^ (top + 1)) (h3 : top < 64) : lowIds H b 64 = (H - top) :: lowIds H (b - 2 ^ top) 64 := by
  have hlt : b - 2 ^ top < 2 ^ top := by rw [Nat.pow_succ] at h2; omega
  have e : b = 2 ^ top + (b - 2 ^ top) := by omega
  have hb : ∀ k, top + 1 ≤ k → b.testBit k = false := fun k hk => Nat.testBit_lt_two_pow (Nat.lt_of_lt_of_le h2 (Nat.pow_le_pow_right (by omega) hk))
  have hc : ∀ k, top ≤ k → (b - 2 ^ top).testBit k = false := fun k hk => Nat.testBit_lt_two_pow (Nat.lt_of_lt_of_le hlt (Nat.pow_le_pow_right (by omega) hk))
  have ht : b.testBit top = true := by
    rw [e, Nat.testBit_two_pow_add_eq, hc top (Nat.le_refl _)]; rfl
  have hs : ∀ k, k < top → b.testBit k = (b - 2 ^ top).testBit k := fun k hk => by
    conv => lhs; rw [e]
    exact Nat.testBit_two_pow_add_gt hk _
  have a1 := low_none H b (top + 1) (63 - top) hb
  rw [show top + 1 + (63 - top) = 64 by omega] at a1
  have a2 := low_none H (b - 2 ^ top) top (64 - top) hc
  rw [show top + (64 - top) = 64 by omega] at a2
  rw [a1, a2]
  show (if b.testBit top = true then _ else _) = _
  rw [if_pos ht, low_same H b (b - 2 ^ top) top hs]
theorem low_zero (H : Nat) : ∀ t, lowIds H 0 t = []
  | 0 => rfl
  | t + 1 => by show (if Nat.testBit 0 t = true then _ else _) = _; simp [low_zero H t]
/-- The known numbers, rising. -/
theorem low_filter {H B : Nat} : ∀ t, t ≤ H → lowIds H B t = (List.range' (H + 1 - t) t).filter (wk H B)
  | 0, _ => rfl
  | t + 1, h => by
    have ih := low_filter (H := H) (B := B) t (by omega)
    show (if B.testBit t = true then _ else lowIds H B t) = _
    rw [ih, show H + 1 - (t + 1) = H - t by omega, List.range'_succ, List.filter_cons, show H - t + 1 = H + 1 - t by omega]
    have e : wk H B (H - t) = B.testBit t := by unfold wk; rw [decide_eq_true (show H - t ≤ H by omega), show H - (H - t) = t by omega]; rfl
    rw [e]
theorem low_may {H B : Nat} (hm : WMay H B) : lowIds H B 64 = (List.range' (H + 1 - min H 64) (min H 64)).filter (wk H B) := by
  have hz : ∀ k, min H 64 ≤ k → B.testBit k = false := fun k hk => by
    rcases Nat.lt_or_ge H 64 with h | h
    · exact Nat.testBit_lt_two_pow (Nat.lt_of_lt_of_le hm.high (Nat.pow_le_pow_right (by omega) (by omega)))
    · exact Nat.testBit_lt_two_pow (Nat.lt_of_lt_of_le hm.lt (Nat.pow_le_pow_right (by omega) (by omega)))
  have := low_none H B (min H 64) (64 - min H 64) hz
  rw [show min H 64 + (64 - min H 64) = 64 by omega] at this
  rw [this, low_filter _ (Nat.min_le_left _ _)]
/-- The same as a part of all numbers up to a bound. -/
theorem low_range {H B M : Nat} (hm : WMay H B) (hM : H ≤ M) : lowIds H B 64 = (List.range' 1 M).filter (fun j => wk H B j && decide (H < j + 64)) := by
  have e : List.range' 1 M = List.range' 1 (H - min H 64) ++ (List.range' (H + 1 - min H 64) (min H 64) ++ List.range' (H + 1) (M - H)) := by
    rw [show H + 1 - min H 64 = 1 + (H - min H 64) by omega, show H + 1 = 1 + (H - min H 64) + min H 64 by omega, List.range'_append_1, List.range'_append_1]
    congr 1; omega
  have e1 : (List.range' 1 (H - min H 64)).filter (fun j => wk H B j && decide (H < j + 64)) = [] := by
    rw [List.filter_eq_nil_iff]
    intro j hj
    rw [List.mem_range'_1] at hj
    simp; intro _; omega
  have e3 : (List.range' (H + 1) (M - H)).filter (fun j => wk H B j && decide (H < j + 64)) = [] := by
    rw [List.filter_eq_nil_iff]
    intro j hj
    rw [List.mem_range'_1] at hj
    unfold wk
    simp; intro h; omega
  rw [e, List.filter_append, List.filter_append, e1, e3, low_may hm]
  simp only [List.nil_append, List.append_nil]
  refine List.filter_congr fun j hj => ?_
  rw [List.mem_range'_1] at hj
  rw [decide_eq_true (show H < j + 64 by omega), Bool.and_true]
theorem low_some {H B : Nat} (h : B.testBit 0 = true) : ∀ t, 1 ≤ t → lowIds H B t ≠ []
  | 0, h1 => by omega
  | 1, _ => by show (if B.testBit 0 = true then _ else _) ≠ _; rw [if_pos h]; simp
  | t + 2, _ => by
    have ih := low_some (H := H) h (t + 1) (by omega)
    show (if B.testBit (t + 1) = true then _ else _) ≠ _
    split
    · simp
    · exact ih
theorem low_len (H B : Nat) : ∀ t, (lowIds H B t).length ≤ t
  | 0 => Nat.le_refl _
  | t + 1 => by
    have := low_len H B t
    show (if B.testBit t = true then _ else _ : List Nat).length ≤ _
    split
    · simp; omega
    · omega
end Go.Proofs.YtopnlkhepjbjkaaDoor
namespace Go.Proofs.YtopnlkhepjbjkaaDoor
open Go.RowKit
/-- The bounds of the amount of a class. -/
def cb (cls : Int) : Int × Int × Bool := if cls = 0 then (1, 2097151, true) else if cls = 2 then (1, 15, true) else if cls = 1 ∨ cls = 3 then (0, 0, true) else (0, 0, false)
/-- What is wrong with a token. -/
def tfault (cls id am tag : Int) : Int :=
  if (cb cls).2.2 = false then 9 else if id < 1 ∨ 1048575 < id ∨ am < (cb cls).1 ∨ (cb cls).2.1 < am ∨ tag < 0 ∨ 65535 < tag then 2 else 0
/-- A token that may be. -/
structure TkOk (cls id am tag : Nat) : Prop where
  h1 : cls ≤ 3
  h2 : 1 ≤ id
  h3 : id ≤ 1048575
  h4 : (cls = 0 ∧ 1 ≤ am ∧ am ≤ 2097151) ∨ (cls = 1 ∧ am = 0) ∨ (cls = 2 ∧ 1 ≤ am ∧ am ≤ 15) ∨ (cls = 3 ∧ am = 0)
  h5 : tag ≤ 65535
theorem TkOk.am {cls id am tag : Nat} (h : TkOk cls id am tag) : am ≤ 2097151 := by have := h.h4; omega
theorem tfault_zero {cls id am tag : Int} (h : tfault cls id am tag = 0) : ∃ c i a t : Nat, cls = c ∧ id = i ∧ am = a ∧ tag = t ∧ TkOk c i a t := by
  have key : ∀ lo hi : Int, cb cls = (lo, hi, true) → 1 ≤ id ∧ id ≤ 1048575 ∧ lo ≤ am ∧ am ≤ hi ∧ 0 ≤ tag ∧ tag ≤ 65535 := by
    intro lo hi hc
    unfold tfault at h
    rw [hc] at h
    dsimp only at h
    rw [if_neg (by simp)] at h
    by_cases hx : id < 1 ∨ 1048575 < id ∨ am < lo ∨ hi < am ∨ tag < 0 ∨ 65535 < tag
    · rw [if_pos hx] at h; cases h
    · omega
  by_cases c0 : cls = 0
  · subst c0
    have := key 1 2097151 (by unfold cb; rw [if_pos rfl])
    exact ⟨0, id.toNat, am.toNat, tag.toNat, by omega, by omega, by omega, by omega, ⟨by omega, by omega, by omega, by omega, by omega⟩⟩
  · by_cases c2 : cls = 2
    · subst c2
      have := key 1 15 (by unfold cb; rw [if_neg c0, if_pos rfl])
      exact ⟨2, id.toNat, am.toNat, tag.toNat, by omega, by omega, by omega, by omega, ⟨by omega, by omega, by omega, by omega, by omega⟩⟩
    · by_cases c13 : cls = 1 ∨ cls = 3
      · have := key 0 0 (by unfold cb; rw [if_neg c0, if_neg c2, if_pos c13])
        exact ⟨cls.toNat, id.toNat, am.toNat, tag.toNat, by omega, by omega, by omega, by omega, ⟨by omega, by omega, by omega, by omega, by omega⟩⟩
      · unfold tfault at h
        rw [show cb cls = (0, 0, false) by unfold cb; rw [if_neg c0, if_neg c2, if_neg c13]] at h
        simp at h
theorem tfault_ok {cls id am tag : Nat} (h : TkOk cls id am tag) : tfault cls id am tag = 0 := by
  obtain ⟨h1, h2, h3, h4, h5⟩ := h
  unfold tfault cb
  rcases h4 with ⟨rfl, h6, h7⟩ | ⟨rfl, h6⟩ | ⟨rfl, h6, h7⟩ | ⟨rfl, h6⟩ <;> simp <;> omega
/-- The body of a token. -/
def tbody (cls id am : Nat) : Nat := cls * 2199023255552 + id * 2097152 + am
theorem tbody_eq (cls id am : Nat) : (cls * 1048576 + id) * 2097152 + am = tbody cls id am := by
  unfold tbody
  rw [Nat.add_mul, Nat.mul_assoc]
theorem tbody_le {cls id am tag : Nat} (h : TkOk cls id am tag) : tbody cls id am ≤ 8796093022207 := by
  have := h.am
  obtain ⟨h1, h2, h3, h4, h5⟩ := h
  unfold tbody; omega
theorem tbody_inj {cls id am tag cls' id' am' tag' : Nat} (h : TkOk cls id am tag) (k : TkOk cls' id' am' tag') (e : tbody cls id am = tbody cls' id' am') : cls = cls' ∧ id = id' ∧ am = am' := by
  have h1 := h.am
  have h2 := k.am
  have h3 := h.h3
  have h4 := k.h3
  unfold tbody at e
  omega
theorem or_i64_nat (a b : Nat) (ha : a < 4611686018427387904) (hb : b < 4611686018427387904) : bits .or .i64 (a : Int) (b : Int) = ((a ||| b : Nat) : Int) := by
  have hx : a ||| b < 2 ^ 62 := Nat.or_lt_two_pow (by omega) (by omega)
  have h1 : (BitVec.ofInt 64 (a : Int)).toNat = a := by
    rw [BitVec.ofInt_natCast, BitVec.toNat_ofNat]; exact Nat.mod_eq_of_lt (by omega)
  have h2 : (BitVec.ofInt 64 (b : Int)).toNat = b := by
    rw [BitVec.ofInt_natCast, BitVec.toNat_ofNat]; exact Nat.mod_eq_of_lt (by omega)
  show IntKind.i64.wrap ((BitVec.ofInt 64 (a : Int) ||| BitVec.ofInt 64 (b : Int)).toNat : Int) = _
  rw [BitVec.toNat_or, h1, h2]
  exact IntWalk.i64_in _ (by omega)
theorem or_addN (a i c : Nat) (h : c < 2 ^ i) : (a * 2 ^ i ||| c) = a * 2 ^ i + c := by
  have := Nat.shiftLeft_add_eq_or_of_lt h a
  rw [Nat.shiftLeft_eq] at this
  exact this.symm
theorem body_e1 {cls id : Nat} (h1 : cls ≤ 3) (h2 : id ≤ 1048575) : bits .or .i64 ((cls : Int) * 1048576) (id : Int) = ((cls * 1048576 + id : Nat) : Int) := by
  have h := or_i64_nat (cls * 1048576) id (by omega) (by omega)
  have k := or_addN cls 20 id (by omega)
  rw [show (2 : Nat) ^ 20 = 1048576 by decide] at k
  rw [k] at h
  rw [← h, Int.natCast_mul]; rfl
theorem body_e2 {x am : Nat} (h1 : x ≤ 4194303) (h2 : am ≤ 2097151) : bits .or .i64 ((x : Int) * 2097152) (am : Int) = ((x * 2097152 + am : Nat) : Int) := by
  have h := or_i64_nat (x * 2097152) am (by omega) (by omega)
  have k := or_addN x 21 am (by omega)
  rw [show (2 : Nat) ^ 21 = 2097152 by decide] at k
  rw [k] at h
  rw [← h, Int.natCast_mul]; rfl
end Go.Proofs.YtopnlkhepjbjkaaDoor
namespace Go.Proofs.YtopnlkhepjbjkaaDoor
open Go.RowKit
/-- Under which revision a token was sold: 0: the meter's own, 11: an earlier one, 12: none. -/
def soldE (l : List Pr) (me body rev0 : Nat) (tag : Int) : Nat → Nat
  | 0 => 12
  | n + 1 => if look l ((me : Int), (n : Int), (body : Int)) = some tag then (if n < rev0 then 11 else 0) else soldE l me body rev0 tag n
/-- What becomes of the bad tries and of the lock. -/
def badS (E bad lock : Nat) : Nat × Nat := if E = 12 then (if bad + 1 = 5 then (0, 30) else (bad + 1, lock)) else (bad, lock)
/-- A token is taken: revision, credit, window, bad tries, what was added, code. -/
def takeS (rev cr H B bad cls id am : Nat) : Nat × Nat × Nat × Nat × Nat × Nat × Nat :=
  if judge H B id ≠ 0 then (rev, cr, H, B, bad, 0, judge H B id)
  else if cls = 0 then (if 99999999 < cr + am then (rev, cr, H, B, bad, 0, 15) else (rev, cr + am, (wtake H B id).1, (wtake H B id).2, 0, am, 0))
  else if cls = 1 then (rev, 0, (wtake H B id).1, (wtake H B id).2, 0, 0, 0)
  else (if am ≤ rev then (rev, cr, H, B, bad, 0, 24) else (am, cr, (wtake H B id).1, (wtake H B id).2, 0, 0, 0))
/-- A token is keyed: revision, credit, window, bad tries, lock, what was added, code. -/
def keyS (l : List Pr) (me rev cr H B bad lock cls id am tag : Nat) : Nat × Nat × Nat × Nat × Nat × Nat × Nat × Nat :=
  if 0 < lock then (rev, cr, H, B, bad, lock, 0, 10)
  else if cls = 3 then (rev, cr, H, B, bad, lock, 0, 0)
  else if soldE l me (tbody cls id am) rev tag (rev + 1) = 0 then
    (let r := takeS rev cr H B bad cls id am; (r.1, r.2.1, r.2.2.1, r.2.2.2.1, r.2.2.2.2.1, lock, r.2.2.2.2.2.1, r.2.2.2.2.2.2))
  else (rev, cr, H, B, (badS (soldE l me (tbody cls id am) rev tag (rev + 1)) bad lock).1, (badS (soldE l me (tbody cls id am) rev tag (rev + 1)) bad lock).2, 0, soldE l me (tbody cls id am) rev tag (rev + 1))
theorem soldE_vals (l : List Pr) (me body rev0 : Nat) (tag : Int) : ∀ n, soldE l me body rev0 tag n = 0 ∨ soldE l me body rev0 tag n = 11 ∨ soldE l me body rev0 tag n = 12
  | 0 => .inr (.inr rfl)
  | n + 1 => by
    unfold soldE
    split
    · split
      · exact .inr (.inl rfl)
      · exact .inl rfl
    · exact soldE_vals l me body rev0 tag n
/-- None was sold. -/
theorem soldE_none {l : List Pr} {me body rev0 : Nat} {tag : Int} : ∀ {n : Nat}, (∀ r : Nat, r < n → look l ((me : Int), (r : Int), (body : Int)) ≠ some tag) → soldE l me body rev0 tag n = 12
  | 0, _ => rfl
  | n + 1, h => by
    unfold soldE
    rw [if_neg (h n (by omega))]
    exact soldE_none (fun r hr => h r (by omega))
/-- It was sold under the meter's own. -/
theorem soldE_own {l : List Pr} {me body rev0 : Nat} {tag : Int} (h : look l ((me : Int), (rev0 : Int), (body : Int)) = some tag) : soldE l me body rev0 tag (rev0 + 1) = 0 := by
  unfold soldE
  rw [if_pos h, if_neg (by omega)]
/-- It was sold under an earlier one. -/
theorem soldE_old {l : List Pr} {me body rev0 r0 : Nat} {tag : Int} : ∀ {n : Nat}, n ≤ rev0 → r0 < n → look l ((me : Int), (r0 : Int), (body : Int)) = some tag → soldE l me body rev0 tag n = 11
  | 0, _, h, _ => by omega
  | n + 1, h1, h2, h3 => by
    unfold soldE
    split
    · rw [if_pos (by omega)]
    · rename_i hn
      have : r0 ≠ n := fun e => hn (by rw [← e]; exact h3)
      exact soldE_old (by omega) (by omega) h3
end Go.Proofs.YtopnlkhepjbjkaaDoor
namespace Go.Proofs.YtopnlkhepjbjkaaDoor
open Go.RowKit
def leafEq : Value → Value → Bool
  | .int _ a, .int _ b => a == b
  | .bool a, .bool b => a == b
  | .string a, .string b => a.toList == b.toList
  | _, _ => false
def cellsEq : List Value → List Value → Bool
  | x :: xs, y :: ys => leafEq x y && cellsEq xs ys
  | _, _ => true
def chunk (P : Program) (xs : List Value) (off : Nat) (t : TypeId) : List Value := (xs.drop off).take (P.cellsOf t)
/-- The cells are, one by one, alike; so deep. -/
def leafPair (P : Program) : Nat → TypeId → List Value → List Value → Bool
  | 0, _, _, _ => false
  | n + 1, t, xs, ys =>
    match P.underlying t with
    | some (.struct fs) => !P.stoodInHeld t && tiled P (P.cellsOf t) fs.toList 0 && xs.length == P.cellsOf t && ys.length == P.cellsOf t && fs.toList.all fun f => f.name != "_" && leafPair P n f.type (chunk P xs f.offset f.type) (chunk P ys f.offset f.type)
    | some (.array m e) => (P.info? e).isSome && m * P.cellsOf e == P.cellsOf t && xs.length == P.cellsOf t && ys.length == P.cellsOf t && (List.range m).all fun i => leafPair P n e (chunk P xs (i * P.cellsOf e) e) (chunk P ys (i * P.cellsOf e) e)
    | some (.int _) => match xs, ys with | [.int k _], [.int k' _] => k == k' && P.cellsOf t == 1 | _, _ => false
    | some .bool => match xs, ys with | [.bool _], [.bool _] => P.cellsOf t == 1 | _, _ => false
    | some .string => match xs, ys with | [.string _], [.string _] => P.cellsOf t == 1 | _, _ => false
    | _ => false
def mkv (P : Program) (t : TypeId) (xs : List Value) : Value :=
  match P.underlying t with
  | some (.struct _) => .agg ⟨xs⟩
  | some (.array _ _) => .agg ⟨xs⟩
  | _ => xs.headD undef
theorem cellsEq_append : ∀ {a a' b b' : List Value}, a.length = a'.length → cellsEq (a ++ b) (a' ++ b') = (cellsEq a a' && cellsEq b b')
  | [], [], _, _, _ => by simp [cellsEq]
  | x :: a, y :: a', b, b', h => by
    simp only [List.cons_append, cellsEq]
    rw [cellsEq_append (by simpa using h), Bool.and_assoc]
section
variable {P : Program}
theorem run_part_gen {u : TypeId} {n : Nat} {xs : List Value} {ys : List Value} {off : Nat} (hl : off + P.cellsOf u ≤ xs.length) (h : leafPair P n u (chunk P xs off u) ys = true ∨ leafPair P n u ys (chunk P xs off u) = true) (w : World) :
    (part u ⟨xs⟩ off).run P w = .ok (mkv P u (chunk P xs off u)) w := by
  cases n with
  | zero => simp [leafPair] at h
  | succ n =>
    cases hu : P.underlying u with
    | none => simp [leafPair, hu] at h
    | some d =>
      obtain ⟨i, hi⟩ := info_of_underlying hu
      have hsz := run_sizeOf (P := P) w hi
      have agg : (∃ fs, d = .struct fs) ∨ (∃ m e, d = .array m e) → (part u ⟨xs⟩ off).run P w = .ok (mkv P u (chunk P xs off u)) w := by
        intro hd
        have hm : mkv P u (chunk P xs off u) = .agg ⟨chunk P xs off u⟩ := by
          rcases hd with ⟨fs, rfl⟩ | ⟨m, e, rfl⟩ <;> simp [mkv, hu]
        have ha : (isAgg u).run P w = .ok true w := by
          rcases hd with ⟨fs, rfl⟩ | ⟨m, e, rfl⟩ <;> simp [isAgg, run_underlying hu]
        rw [hm]
        simp only [part, Sem.run_bind, ha, Result.andThen_ok, if_true, hsz, Sem.run_pure]
        congr 2
        apply Array.ext'
        simp [chunk, List.extract_eq_take_drop]
      have leaf : P.cellsOf u = 1 → (isAgg u).run P w = .ok false w → mkv P u (chunk P xs off u) = (chunk P xs off u).headD undef → (part u ⟨xs⟩ off).run P w = .ok (mkv P u (chunk P xs off u)) w := by
        intro h1 ha hm
        rw [hm]
        have hx : off < xs.length := by omega
        have hc : chunk P xs off u = [xs[off]] := by
          unfold chunk
          rw [h1, List.drop_eq_getElem_cons hx]; rfl
        rw [hc]
        simp [part, ha, hx]
      cases d
      case struct fs => exact agg (.inl ⟨fs, rfl⟩)
      case array m e => exact agg (.inr ⟨m, e, rfl⟩)
      case int k =>
        refine leaf ?_ (by simp [isAgg, run_underlying hu]) (by simp [mkv, hu])
        simp only [leafPair, hu] at h
        rcases h with h | h
        all_goals
          split at h
          · simp at h; exact h.2
          · cases h
      case bool =>
        refine leaf ?_ (by simp [isAgg, run_underlying hu]) (by simp [mkv, hu])
        simp only [leafPair, hu] at h
        rcases h with h | h
        all_goals
          split at h
          · simpa using h
          · cases h
      case string =>
        refine leaf ?_ (by simp [isAgg, run_underlying hu]) (by simp [mkv, hu])
        simp only [leafPair, hu] at h
        rcases h with h | h
        all_goals
          split at h
          · simpa using h
          · cases h
      all_goals (simp [leafPair, hu] at h; done)
/-- What holds at a depth. -/
def EqAll (P : Program) (n : Nat) : Prop := ∀ (t : TypeId) (xs ys : List Value) (d : Nat) (w : World), leafPair P n t xs ys = true → n ≤ d → (Op.equalIn d t (mkv P t xs) (mkv P t ys)).run P w = .ok (cellsEq xs ys) w
theorem fields_gen {n d total : Nat} (IH : EqAll P n) (hd : n ≤ d) {xs ys : List Value} (hx : xs.length = total) (hy : ys.length = total) :
    ∀ (fs : List Field) (k : Nat) (w : World), tiled P total fs k = true → (∀ f ∈ fs, f.name ≠ "_" ∧ leafPair P n f.type (chunk P xs f.offset f.type) (chunk P ys f.offset f.type) = true) →
      (Op.eqFields d ⟨xs⟩ ⟨ys⟩ fs).run P w = .ok (cellsEq (xs.drop k) (ys.drop k)) w
  | [], k, w, ht, _ => by
    simp [tiled] at ht
    have e : xs.drop k = [] := List.drop_eq_nil_of_le (by omega)
    rw [e]
    rfl
  | f :: fs, k, w, ht, hf => by
    simp [tiled] at ht
    obtain ⟨ho, ht⟩ := ht
    have hle := tiled_le fs _ ht
    obtain ⟨hn, hp⟩ := hf f (by simp)
    have h1 := run_part_gen (P := P) (off := f.offset) (u := f.type) (xs := xs) (by omega) (.inl hp) w
    have h2 := run_part_gen (P := P) (off := f.offset) (u := f.type) (xs := ys) (by omega) (.inr hp) w
    have h3 := IH _ _ _ d w hp hd
    have h4 := fields_gen IH hd hx hy fs _ w ht (fun g hg => hf g (by simp [hg]))
    have es : ∀ zs : List Value, zs.length = total → zs.drop k = chunk P zs f.offset f.type ++ zs.drop (k + P.cellsOf f.type) := by
      intro zs _
      unfold chunk
      rw [ho, ← List.drop_drop]
      exact (List.take_append_drop _ _).symm
    have hlen : (chunk P xs f.offset f.type).length = (chunk P ys f.offset f.type).length := by simp [chunk, hx, hy]
    rw [es xs hx, es ys hy, cellsEq_append hlen]
    simp only [Op.eqFields, hn, ne_eq, not_false_eq_true, if_true, Sem.run_bind, h1, h2, h3, Result.andThen_ok]
    cases cellsEq (chunk P xs f.offset f.type) (chunk P ys f.offset f.type)
    · simp
    · simp [h4]
theorem items_gen {n d total : Nat} (IH : EqAll P n) (hd : n ≤ d) {e : TypeId} {xs ys : List Value} (hx : xs.length = total) (hy : ys.length = total) :
    ∀ (m i : Nat) (w : World), (i + m) * P.cellsOf e = total → (∀ j, i ≤ j → j < i + m → leafPair P n e (chunk P xs (j * P.cellsOf e) e) (chunk P ys (j * P.cellsOf e) e) = true) →
      (Op.eqItems d e (P.cellsOf e) ⟨xs⟩ ⟨ys⟩ (List.range' i m)).run P w = .ok (cellsEq (xs.drop (i * P.cellsOf e)) (ys.drop (i * P.cellsOf e))) w
  | 0, i, w, ht, _ => by
    have e : xs.drop (i * P.cellsOf e) = [] := List.drop_eq_nil_of_le (by simp at ht; omega)
    rw [e]
    rfl
  | m + 1, i, w, ht, hf => by
    have hp := hf i (Nat.le_refl _) (by omega)
    have hle : i * P.cellsOf e + P.cellsOf e ≤ total := by
      rw [← ht, ← Nat.succ_mul]; exact Nat.mul_le_mul_right _ (by omega)
    have h1 := run_part_gen (P := P) (off := i * P.cellsOf e) (u := e) (xs := xs) (by omega) (.inl hp) w
    have h2 := run_part_gen (P := P) (off := i * P.cellsOf e) (u := e) (xs := ys) (by omega) (.inr hp) w
    have h3 := IH _ _ _ d w hp hd
    have h4 := items_gen IH hd hx hy m (i + 1) w (by rw [← ht]; congr 1; omega) (fun j h1 h2 => hf j (by omega) (by omega))
    have es : ∀ zs : List Value, zs.drop (i * P.cellsOf e) = chunk P zs (i * P.cellsOf e) e ++ zs.drop ((i + 1) * P.cellsOf e) := by
      intro zs
      unfold chunk
      rw [Nat.succ_mul, ← List.drop_drop]
      exact (List.take_append_drop _ _).symm
    have hlen : (chunk P xs (i * P.cellsOf e) e).length = (chunk P ys (i * P.cellsOf e) e).length := by simp [chunk, hx, hy]
    rw [es xs, es ys, cellsEq_append hlen]
    simp only [List.range'_succ, Op.eqItems, Sem.run_bind, h1, h2, h3, Result.andThen_ok]
    cases cellsEq (chunk P xs (i * P.cellsOf e) e) (chunk P ys (i * P.cellsOf e) e)
    · simp
    · simp [h4]
theorem eq_all : ∀ n, EqAll P n
  | 0 => fun t xs ys d w h _ => by simp [leafPair] at h
  | n + 1 => fun t xs ys d w h hd => by
    obtain ⟨d, rfl⟩ : ∃ k, d = k + 1 := ⟨d - 1, by omega⟩
    have hd : n ≤ d := by omega
    have IH := eq_all n
    cases hu : P.underlying t with
    | none => simp [leafPair, hu] at h
    | some k =>
      cases k
      case struct fs =>
        simp [leafPair, hu] at h
        obtain ⟨⟨⟨⟨h1, h2⟩, h3⟩, h4⟩, h5⟩ := h
        have hfo : P.fieldsOf t = fs := by simp [Program.fieldsOf, hu]
        have hm : ∀ zs, mkv P t zs = .agg ⟨zs⟩ := fun zs => by simp [mkv, hu]
        rw [hm, hm, run_equalIn_struct w d t _ _ (by rw [hfo]; exact hu) h1, hfo]
        have := fields_gen IH hd h3 h4 fs.toList 0 w h2 (fun f hf => by
          obtain ⟨i, hi, he⟩ := List.getElem_of_mem hf
          have hi' : i < fs.size := by simpa using hi
          have := h5 i hi'
          rw [show fs[i] = f by rw [← he]; simp] at this
          exact this)
        simpa using this
      case array m e =>
        simp [leafPair, hu] at h
        obtain ⟨⟨⟨⟨h0, h1⟩, h2⟩, h3⟩, h4⟩ := h
        have hm : ∀ zs, mkv P t zs = .agg ⟨zs⟩ := fun zs => by simp [mkv, hu]
        obtain ⟨i, hi⟩ := Option.isSome_iff_exists.1 h0
        rw [hm, hm, run_equalIn_array w d _ _ hu hi, List.range_eq_range']
        have := items_gen IH hd h2 h3 m 0 w (by simpa using h1) (fun j _ hj => h4 j (by omega))
        simpa using this
      case int k' =>
        simp only [leafPair, hu] at h
        split at h
        · rename_i a b c e
          simp at h
          obtain ⟨rfl, _⟩ := h
          simp [mkv, hu, Op.equalIn, run_underlying hu, cellsEq, leafEq]
        · cases h
      case bool =>
        simp only [leafPair, hu] at h
        split at h
        · simp [mkv, hu, Op.equalIn, run_underlying hu, cellsEq, leafEq]
        · cases h
      case string =>
        simp only [leafPair, hu] at h
        split at h
        · simp [mkv, hu, Op.equalIn, run_underlying hu, cellsEq, leafEq, beq_toListBytes]
        · cases h
      all_goals (simp [leafPair, hu] at h; done)
/-- '==' on two values of a type of structs or arrays. -/
theorem eq_is {t : TypeId} (xs ys : List Value) (w : World) (hl : leafPair P 9 t xs ys = true) (hm : ∀ zs, mkv P t zs = .agg ⟨zs⟩) : (Op.equalIn 10000 t (.agg xs.toArray) (.agg ys.toArray)).run P w = .ok (cellsEq xs ys) w := by
  have := eq_all (P := P) 9 t xs ys 10000 w hl (by omega)
  rwa [hm, hm] at this
theorem mkv_struct {t : TypeId} {fs : Array Field} (hu : P.underlying t = some (.struct fs)) : ∀ zs, mkv P t zs = .agg ⟨zs⟩ := fun zs => by simp [mkv, hu]
theorem mkv_array {t : TypeId} {m : Nat} {e : TypeId} (hu : P.underlying t = some (.array m e)) : ∀ zs, mkv P t zs = .agg ⟨zs⟩ := fun zs => by simp [mkv, hu]
end
end Go.Proofs.YtopnlkhepjbjkaaDoor
namespace Go.Proofs.YtopnlkhepjbjkaaDoor
open Go.RowKit
/-- Records as words. -/
def enc (l : List (List Nat)) : List Nat := l.flatMap fun r => r.length :: r
theorem enc_append (a b : List (List Nat)) : enc (a ++ b) = enc a ++ enc b := by simp [enc]
theorem enc_one (r : List Nat) : enc [r] = r.length :: r := by simp [enc]
theorem enc_take_succ {l : List (List Nat)} {i : Nat} (h : i < l.length) : enc (l.take (i + 1)) = enc (l.take i) ++ (l[i].length :: l[i]) := by
  rw [List.take_succ_eq_append_getElem h, enc_append, enc_one]
/-- Records that may be. -/
def ROk (l : List (List Nat)) : Prop := ∀ r ∈ l, 1 ≤ r.length ∧ r.length ≤ 64 ∧ ∀ x ∈ r, x < 4294967296
/-- A tape that holds just these records. -/
def IsTape (c : List Nat) (l : List (List Nat)) : Prop := ROk l ∧ ∃ rest, c = enc l ++ rest ∧ (rest = [] ∨ ∃ t, rest = 0 :: t)
theorem IsTape.le {c : List Nat} {l : List (List Nat)} (h : IsTape c l) : (enc l).length ≤ c.length := by
  obtain ⟨_, rest, rfl, _⟩ := h
  simp
/-- The word at the head of a record. -/
theorem IsTape.head {c : List Nat} {l : List (List Nat)} (h : IsTape c l) {i : Nat} (hi : i < l.length) : c[(enc (l.take i)).length]? = some l[i].length := by
  obtain ⟨_, rest, rfl, _⟩ := h
  have e : enc l = enc (l.take (i + 1)) ++ enc (l.drop (i + 1)) := by rw [← enc_append, List.take_append_drop]
  rw [e, enc_take_succ hi, List.append_assoc, List.append_assoc, List.getElem?_append_right (Nat.le_refl _), Nat.sub_self]
  rfl
theorem IsTape.rec_ {c : List Nat} {l : List (List Nat)} (h : IsTape c l) {i : Nat} (hi : i < l.length) : (c.drop ((enc (l.take i)).length + 1)).take l[i].length = l[i] := by
  obtain ⟨_, rest, rfl, _⟩ := h
  have e : enc l = enc (l.take i) ++ (l[i].length :: (l[i] ++ enc (l.drop (i + 1)))) := by
    have e1 : enc l = enc (l.take (i + 1)) ++ enc (l.drop (i + 1)) := by rw [← enc_append, List.take_append_drop]
    rw [e1, enc_take_succ hi, List.append_assoc]
    rfl
  rw [e, List.append_assoc, ← List.drop_drop]
  rw [show List.drop (enc (l.take i)).length (enc (l.take i) ++ ((l[i].length :: (l[i] ++ enc (l.drop (i + 1)))) ++ rest)) = (l[i].length :: (l[i] ++ enc (l.drop (i + 1)))) ++ rest from List.drop_left]
  simp
theorem IsTape.fits {c : List Nat} {l : List (List Nat)} (h : IsTape c l) {i : Nat} (hi : i < l.length) : (enc (l.take i)).length + 1 + l[i].length ≤ c.length := by
  have h1 := h.le
  have e : enc l = enc (l.take (i + 1)) ++ enc (l.drop (i + 1)) := by rw [← enc_append, List.take_append_drop]
  rw [e, enc_take_succ hi] at h1
  simp at h1
  omega
theorem IsTape.end_ {c : List Nat} {l : List (List Nat)} (h : IsTape c l) (hlt : (enc l).length < c.length) : c[(enc l).length]? = some 0 := by
  obtain ⟨_, rest, rfl, h⟩ := h
  rcases h with rfl | ⟨t, rfl⟩
  · simp at hlt
  · rw [List.getElem?_append_right (Nat.le_refl _), Nat.sub_self]; rfl
/-- The writes of a record. -/
def putW (len at0 : Nat) (r : List Nat) : List (Nat × Nat) :=
  (List.range r.length).map (fun i => (at0 + 1 + i, r.getD i 0)) ++ ((if at0 + 1 + r.length < len then [(at0 + 1 + r.length, 0)] else []) ++ [(at0, r.length)])
/-- The first part of the writes: words behind the end. -/
theorem applyW_range (a b r : List Nat) : ∀ k, k ≤ r.length → r.length ≤ b.length → applyW (a ++ b) ((List.range k).map fun i => (a.length + i, r.getD i 0)) = a ++ (r.take k ++ b.drop k)
  | 0, _, _ => by simp [applyW]
  | k + 1, hk, hb => by
    have ih := applyW_range a b r k (by omega) hb
    rw [List.range_succ, List.map_append, applyW_append, ih]
    show (a ++ (r.take k ++ b.drop k)).set (a.length + k) (r.getD k 0) = _
    have hk' : k < r.length := by omega
    rw [List.set_append_right _ _ (by omega), show a.length + k - a.length = k by omega]
    congr 1
    rw [List.set_append_right _ _ (by simp; omega), List.take_succ_eq_append_getElem hk', List.append_assoc]
    congr 1
    have hd : b.drop k = b[k]'(by omega) :: b.drop (k + 1) := List.drop_eq_getElem_cons (by omega)
    rw [show k - (List.take k r).length = 0 by simp; omega, hd]
    show r.getD k 0 :: b.drop (k + 1) = r[k] :: b.drop (k + 1)
    rw [show r.getD k 0 = r[k] by simp [hk']]
/-- Behind any number of the writes but all, all that was there is there; behind all, the new one too. -/
theorem put_tape {c : List Nat} {l : List (List Nat)} {r : List Nat} (h : IsTape c l) (hr : 1 ≤ r.length ∧ r.length ≤ 64 ∧ ∀ x ∈ r, x < 4294967296) (hf : (enc l).length + 1 + r.length ≤ c.length) :
    (∀ k, k < (putW c.length (enc l).length r).length → IsTape (applyW c ((putW c.length (enc l).length r).take k)) l) ∧ IsTape (applyW c (putW c.length (enc l).length r)) (l ++ [r]) := by
  obtain ⟨hl, rest, rfl, hrest⟩ := h
  obtain ⟨t, rfl⟩ : ∃ t, rest = 0 :: t := by
    rcases hrest with rfl | h
    · simp at hf; omega
    · exact h
  clear hrest
  have ht : r.length ≤ t.length := by simp at hf; omega
  obtain ⟨n, hn⟩ : ∃ n, (enc l).length = n := ⟨_, rfl⟩
  have hlen : (enc l ++ 0 :: t).length = n + 1 + t.length := by simp [hn]; omega
  rw [hlen, hn]
  have e0 : enc l ++ 0 :: t = (enc l ++ [0]) ++ t := by simp
  have hal : (enc l ++ [0]).length = n + 1 := by simp [hn]
  have hW1 : ∀ k, k ≤ r.length → applyW (enc l ++ 0 :: t) ((List.range k).map fun i => (n + 1 + i, r.getD i 0)) = enc l ++ (0 :: (r.take k ++ t.drop k)) := fun k hk => by
    have := applyW_range (enc l ++ [0]) t r k hk ht
    rw [hal] at this
    rw [e0, this]
    simp
  have hW1' := hW1 r.length (Nat.le_refl _)
  rw [List.take_length] at hW1'
  have hset : ∀ z, (enc l ++ (0 :: z)).set n r.length = enc l ++ (r.length :: z) := fun z => by
    rw [List.set_append_right _ _ (by omega), hn, Nat.sub_self]; rfl
  have hfin : ∀ z, (z = [] ∨ ∃ u, z = 0 :: u) → IsTape (enc l ++ (r.length :: (r ++ z))) (l ++ [r]) := fun z hz => by
    refine ⟨fun q hq => ?_, z, by rw [enc_append, enc_one]; simp, hz⟩
    rcases List.mem_append.1 hq with h | h
    · exact hl q h
    · simp at h; subst h; exact hr
  have hmid : ∀ z, IsTape (enc l ++ (0 :: z)) l := fun z => ⟨hl, 0 :: z, rfl, .inr ⟨z, rfl⟩⟩
  unfold putW
  by_cases hc : n + 1 + r.length < n + 1 + t.length
  · rw [if_pos hc]
    have hd : t.drop r.length = t[r.length]'(by omega) :: t.drop (r.length + 1) := List.drop_eq_getElem_cons (by omega)
    have hW2 : applyW (enc l ++ 0 :: t) ((List.range r.length).map (fun i => (n + 1 + i, r.getD i 0)) ++ [(n + 1 + r.length, 0)]) = enc l ++ (0 :: (r ++ (0 :: t.drop (r.length + 1)))) := by
      rw [applyW_append, hW1', hd]
      show (enc l ++ (0 :: (r ++ (t[r.length]'(by omega) :: t.drop (r.length + 1))))).set (n + 1 + r.length) 0 = _
      rw [List.set_append_right _ _ (by omega), hn, show n + 1 + r.length - n = r.length + 1 by omega]
      congr 1
      rw [List.set_cons_succ, List.set_append_right _ _ (Nat.le_refl _), Nat.sub_self]
      rfl
    refine ⟨fun k hk => ?_, ?_⟩
    · simp at hk
      by_cases h1 : k ≤ r.length
      · rw [List.take_append_of_le_length (by simpa using h1), ← List.map_take, List.take_range, Nat.min_eq_left h1, hW1 k h1]
        exact hmid _
      · obtain rfl : k = r.length + 1 := by omega
        rw [← List.append_assoc, List.take_append_of_le_length (by simp), List.take_of_length_le (by simp), hW2]
        exact hmid _
    · rw [← List.append_assoc, applyW_append, hW2]
      show IsTape ((enc l ++ (0 :: (r ++ (0 :: t.drop (r.length + 1))))).set n r.length) _
      rw [hset]
      exact hfin _ (.inr ⟨_, rfl⟩)
  · rw [if_neg hc]
    have hd : t.drop r.length = [] := List.drop_eq_nil_of_le (by omega)
    refine ⟨fun k hk => ?_, ?_⟩
    · simp at hk
      rw [List.take_append_of_le_length (by simp; omega), ← List.map_take, List.take_range, Nat.min_eq_left (by omega), hW1 k (by omega)]
      exact hmid _
    · rw [applyW_append, hW1', hd]
      show IsTape ((enc l ++ (0 :: (r ++ []))).set n r.length) _
      rw [hset]
      exact hfin [] (.inl rfl)
/-- A blank tape. -/
theorem blank_tape (n : Nat) : IsTape (List.replicate n 0) [] := by
  refine ⟨by intro r hr; simp at hr, List.replicate n 0, by simp [enc], ?_⟩
  cases n with
  | zero => exact .inl rfl
  | succ n => exact .inr ⟨List.replicate n 0, rfl⟩
theorem putW_at {len at0 : Nat} {r : List Nat} (h : at0 + 1 + r.length ≤ len) : ∀ p ∈ putW len at0 r, at0 ≤ p.1 ∧ p.1 < len := by
  intro p hp
  unfold putW at hp
  rcases List.mem_append.1 hp with h1 | h1
  · obtain ⟨i, hi, rfl⟩ := List.mem_map.1 h1
    have := List.mem_range.1 hi
    dsimp only; omega
  · rcases List.mem_append.1 h1 with h2 | h2
    · split at h2
      · simp at h2; subst h2; dsimp only; omega
      · simp at h2
    · simp at h2; subst h2; dsimp only; omega
theorem putW_len (len at0 : Nat) (r : List Nat) : r.length + 1 ≤ (putW len at0 r).length ∧ (putW len at0 r).length ≤ r.length + 2 := by
  unfold putW
  split <;> simp
theorem putW_lt {len at0 : Nat} {r : List Nat} (hr : r.length ≤ 64 ∧ ∀ x ∈ r, x < 4294967296) : ∀ p ∈ putW len at0 r, p.2 < 4294967296 := by
  intro p hp
  unfold putW at hp
  rcases List.mem_append.1 hp with h1 | h1
  · obtain ⟨i, hi, rfl⟩ := List.mem_map.1 h1
    have hi := List.mem_range.1 hi
    dsimp only
    have e : r.getD i 0 = r[i] := by simp [hi]
    rw [e]; exact hr.2 _ (List.getElem_mem hi)
  · rcases List.mem_append.1 h1 with h2 | h2
    · split at h2
      · simp at h2; subst h2; dsimp only; omega
      · simp at h2
    · simp at h2; subst h2; dsimp only; omega
end Go.Proofs.YtopnlkhepjbjkaaDoor
namespace Go.Proofs.YtopnlkhepjbjkaaDoor
open Go.RowKit
set_option linter.unusedVariables false
/-- The mark of a slot. -/
def slMk (m : Nat) : Nat := if 3 < m then 0 else m
theorem slMk_le (m : Nat) : slMk m ≤ 3 := by unfold slMk; split <;> omega
theorem slMk_of {m : Nat} (h : m ≤ 3) : slMk m = m := by unfold slMk; rw [if_neg (by omega)]
/-- The mark behind a mark. -/
def slNx (m : Nat) : Nat := m % 3 + 1
/-- The newer slot of two marks; 2: none is good. -/
def slNew (a b : Nat) : Nat := if a = 0 ∧ b = 0 then 2 else if a = 0 then 1 else if b = 0 ∨ a = b ∨ slNx b = a then 0 else 1
/-- Slots that hold this record, at s. -/
def IsSl (C : List Nat) (n : Nat) (r : List Nat) (s : Nat) : Prop :=
  ∃ m0 r0 m1 r1, C = (m0 :: r0) ++ (m1 :: r1) ∧ r0.length = n ∧ r1.length = n ∧ slNew (slMk m0) (slMk m1) = s ∧ s < 2 ∧ r = (if s = 0 then r0 else r1)
theorem IsSl.len {C : List Nat} {n : Nat} {r : List Nat} {s : Nat} (h : IsSl C n r s) : C.length = 2 * (n + 1) := by
  obtain ⟨m0, r0, m1, r1, rfl, h0, h1, _⟩ := h
  simp [h0, h1]; omega
theorem IsSl.rlen {C : List Nat} {n : Nat} {r : List Nat} {s : Nat} (h : IsSl C n r s) : r.length = n := by
  obtain ⟨m0, r0, m1, r1, _, h0, h1, _, _, rfl⟩ := h
  split <;> assumption
/-- The writes of a half. -/
def halfW (at0 : Nat) (r : List Nat) (x : Nat) : List (Nat × Nat) := (at0, 0) :: ((List.range r.length).map (fun i => (at0 + 1 + i, r.getD i 0)) ++ [(at0, x)])
theorem halfW_len (at0 : Nat) (r : List Nat) (x : Nat) : (halfW at0 r x).length = r.length + 2 := by simp [halfW]
theorem halfW_at {at0 : Nat} {r : List Nat} {x : Nat} : ∀ p ∈ halfW at0 r x, at0 ≤ p.1 ∧ p.1 < at0 + 1 + r.length := by
  intro p hp
  unfold halfW at hp
  rcases List.mem_cons.1 hp with rfl | hp
  · dsimp only; omega
  · rcases List.mem_append.1 hp with h | h
    · obtain ⟨i, hi, rfl⟩ := List.mem_map.1 h
      have := List.mem_range.1 hi
      dsimp only; omega
    · simp at h; subst h; dsimp only; omega
theorem halfW_lt {at0 : Nat} {r : List Nat} {x : Nat} (hr : ∀ y ∈ r, y < 4294967296) (hx : x < 4294967296) : ∀ p ∈ halfW at0 r x, p.2 < 4294967296 := by
  intro p hp
  unfold halfW at hp
  rcases List.mem_cons.1 hp with rfl | hp
  · dsimp only; omega
  · rcases List.mem_append.1 hp with h | h
    · obtain ⟨i, hi, rfl⟩ := List.mem_map.1 h
      have hi := List.mem_range.1 hi
      dsimp only
      have e : r.getD i 0 = r[i] := by simp [hi]
      rw [e]; exact hr _ (List.getElem_mem hi)
    · simp at h; subst h; exact hx
/-- Behind the mark and k words. -/
theorem half_mid (pre : List Nat) (m : Nat) (r post rec : List Nat) (hr : rec.length = r.length) (k : Nat) (hk : k ≤ rec.length) :
    applyW (pre ++ (m :: r) ++ post) ((pre.length, 0) :: (List.range k).map (fun i => (pre.length + 1 + i, rec.getD i 0))) = pre ++ (0 :: (rec.take k ++ r.drop k)) ++ post := by
  have e1 : applyW (pre ++ (m :: r) ++ post) ((pre.length, 0) :: (List.range k).map (fun i => (pre.length + 1 + i, rec.getD i 0))) =
      applyW ((pre ++ [0]) ++ (r ++ post)) ((List.range k).map (fun i => ((pre ++ [0]).length + i, rec.getD i 0))) := by
    show applyW ((pre ++ (m :: r) ++ post).set pre.length 0) _ = _
    congr 1
    · rw [List.append_assoc, List.set_append_right _ _ (Nat.le_refl _), Nat.sub_self]
      simp
    · simp
  rw [e1, applyW_range _ _ _ k hk (by simp; omega)]
  have e2 : (r ++ post).drop k = r.drop k ++ post := by rw [List.drop_append_of_le_length (by omega)]
  rw [e2]
  simp
theorem half_take (at0 : Nat) (r : List Nat) (x k : Nat) (hk : k ≤ r.length) : (halfW at0 r x).take (k + 1) = (at0, 0) :: (List.range k).map (fun i => (at0 + 1 + i, r.getD i 0)) := by
  unfold halfW
  rw [List.take_succ_cons, List.take_append_of_le_length (by simpa using hk), ← List.map_take, List.take_range, Nat.min_eq_left hk]
theorem half_all (pre : List Nat) (m : Nat) (r post rec : List Nat) (hr : rec.length = r.length) (x : Nat) : applyW (pre ++ (m :: r) ++ post) (halfW pre.length rec x) = pre ++ (x :: rec) ++ post := by
  have e : halfW pre.length rec x = ((pre.length, 0) :: (List.range rec.length).map (fun i => (pre.length + 1 + i, rec.getD i 0))) ++ [(pre.length, x)] := by simp [halfW]
  rw [e, applyW_append, half_mid pre m r post rec hr _ (Nat.le_refl _)]
  show (pre ++ (0 :: (rec.take rec.length ++ r.drop rec.length)) ++ post).set pre.length x = _
  rw [List.take_length, List.drop_eq_nil_of_le (by omega), List.append_nil, List.append_assoc, List.set_append_right _ _ (Nat.le_refl _), Nat.sub_self]
  simp
/-- The writes of a record. -/
def slW (C : List Nat) (n : Nat) (rec : List Nat) (s : Nat) : List (Nat × Nat) := halfW ((1 - s) * (n + 1)) rec (slNx (slMk (C.getD (s * (n + 1)) 0)))
theorem slNew_mid {a b s : Nat} (ha : a ≤ 3) (hb : b ≤ 3) (h : slNew a b = s) (hs : s < 2) : (s = 0 → slNew a 0 = 0) ∧ (s = 1 → slNew 0 b = 1) := by
  have key : ∀ a b : Fin 4, (slNew a b = 0 → slNew a 0 = 0) ∧ (slNew a b = 1 → slNew 0 b = 1) := by decide
  have := key ⟨a, by omega⟩ ⟨b, by omega⟩
  exact ⟨fun e => this.1 (by rw [e] at h; exact h), fun e => this.2 (by rw [e] at h; exact h)⟩
theorem slNew_next {a b s : Nat} (ha : a ≤ 3) (hb : b ≤ 3) (h : slNew a b = s) (hs : s < 2) : (s = 0 → slNew a (slNx a) = 1) ∧ (s = 1 → slNew (slNx b) b = 0) := by
  have key : ∀ a b : Fin 4, (slNew a b = 0 → slNew a (slNx a) = 1) ∧ (slNew a b = 1 → slNew (slNx b) b = 0) := by decide
  have := key ⟨a, by omega⟩ ⟨b, by omega⟩
  exact ⟨fun e => this.1 (by rw [e] at h; exact h), fun e => this.2 (by rw [e] at h; exact h)⟩
theorem slNx_le (m : Nat) : slNx m ≤ 3 := by unfold slNx; omega
/-- Behind any number of the writes but all the old record is there; behind all, the new one. -/
theorem sl_store {C : List Nat} {n : Nat} {old rec : List Nat} {s : Nat} (h : IsSl C n old s) (hr : rec.length = n) :
    (∀ k, k < (slW C n rec s).length → IsSl (applyW C ((slW C n rec s).take k)) n old s) ∧ IsSl (applyW C (slW C n rec s)) n rec (1 - s) := by
  have hall := h
  obtain ⟨m0, r0, m1, r1, rfl, h0, h1, hs, hs2, ho⟩ := h
  obtain ⟨q1, q2⟩ := slNew_mid (slMk_le m0) (slMk_le m1) hs hs2
  obtain ⟨t1, t2⟩ := slNew_next (slMk_le m0) (slMk_le m1) hs hs2
  have hz : slMk 0 = 0 := rfl
  rcases (show s = 0 ∨ s = 1 by omega) with rfl | rfl
  · have e0 : slW (m0 :: r0 ++ m1 :: r1) n rec 0 = halfW (m0 :: r0).length rec (slNx (slMk m0)) := by
      unfold slW; simp [h0]
    rw [e0]
    have key := half_mid (m0 :: r0) m1 r1 [] rec (by omega)
    have key2 := half_all (m0 :: r0) m1 r1 [] rec (by omega) (slNx (slMk m0))
    rw [List.append_nil, List.append_nil] at key2
    refine ⟨fun k hk => ?_, ?_⟩
    · match k with
      | 0 => exact hall
      | k + 1 =>
        rw [halfW_len] at hk
        have key := key k (by omega)
        rw [List.append_nil, List.append_nil] at key
        rw [half_take _ _ _ _ (by omega), key]
        exact ⟨m0, r0, 0, rec.take k ++ r1.drop k, rfl, h0, by simp; omega, by rw [hz]; exact q1 rfl, by omega, ho⟩
    · rw [key2]
      exact ⟨m0, r0, slNx (slMk m0), rec, rfl, h0, hr, by rw [slMk_of (slNx_le _)]; exact t1 rfl, by omega, rfl⟩
  · have e0 : slW (m0 :: r0 ++ m1 :: r1) n rec 1 = halfW ([] : List Nat).length rec (slNx (slMk m1)) := by
      unfold slW
      have : (m0 :: r0 ++ m1 :: r1).getD (1 * (n + 1)) 0 = m1 := by
        rw [List.getD_eq_getElem?_getD, List.getElem?_append_right (by simp; omega)]
        simp [h0]
      rw [this]; simp
    rw [e0]
    have key := half_mid [] m0 r0 (m1 :: r1) rec (by omega)
    have key2 := half_all [] m0 r0 (m1 :: r1) rec (by omega) (slNx (slMk m1))
    rw [List.nil_append, List.nil_append] at key2
    refine ⟨fun k hk => ?_, ?_⟩
    · match k with
      | 0 => exact hall
      | k + 1 =>
        rw [halfW_len] at hk
        have key := key k (by omega)
        rw [List.nil_append, List.nil_append] at key
        rw [half_take _ _ _ _ (by omega), key]
        exact ⟨0, rec.take k ++ r0.drop k, m1, r1, rfl, by simp; omega, h1, by rw [hz]; exact q2 rfl, by omega, ho⟩
    · rw [key2]
      exact ⟨slNx (slMk m1), rec, m1, r1, rfl, hr, h1, by rw [slMk_of (slNx_le _)]; exact t2 rfl, by omega, rfl⟩
/-- The marks and the record, where they stand. -/
theorem IsSl.marks {C : List Nat} {n : Nat} {r : List Nat} {s : Nat} (h : IsSl C n r s) : ∃ m0 m1, C[0]? = some m0 ∧ C[n + 1]? = some m1 ∧ slNew (slMk m0) (slMk m1) = s ∧ s < 2 := by
  obtain ⟨m0, r0, m1, r1, rfl, h0, h1, hs, hs2, ho⟩ := h
  exact ⟨m0, m1, rfl, by rw [List.getElem?_append_right (by simp; omega)]; simp [h0], hs, hs2⟩
theorem IsSl.rec_ {C : List Nat} {n : Nat} {r : List Nat} {s : Nat} (h : IsSl C n r s) : (C.drop (s * (n + 1) + 1)).take n = r := by
  obtain ⟨m0, r0, m1, r1, rfl, h0, h1, hs, hs2, ho⟩ := h
  rcases (show s = 0 ∨ s = 1 by omega) with rfl | rfl
  · rw [if_pos rfl] at ho
    subst ho; subst h0
    simp
  · rw [if_neg (by omega)] at ho
    subst ho; subst h0
    have e : (m0 :: r0 ++ m1 :: r).drop (1 * (r0.length + 1) + 1) = r := by
      rw [show 1 * (r0.length + 1) + 1 = (m0 :: r0).length + 1 by simp, ← List.drop_drop, List.drop_left]; rfl
    rw [e, ← h1, List.take_length]
/-- Fresh slots. -/
theorem fresh_sl (n : Nat) : IsSl (1 :: List.replicate (2 * n + 1) 0) n (List.replicate n 0) 0 := by
  refine ⟨1, List.replicate n 0, 0, List.replicate n 0, ?_, by simp, by simp, by decide, by omega, rfl⟩
  rw [show 2 * n + 1 = n + (n + 1) by omega, ← List.replicate_append_replicate, List.replicate_succ]
  rfl
/-- A record of n words. -/
def fitN (l : List Nat) (n : Nat) : List Nat := (List.range n).map fun i => l.getD i i
theorem fitN_len (l : List Nat) (n : Nat) : (fitN l n).length = n := by simp [fitN]
theorem fitN_succ (l : List Nat) (n : Nat) : fitN l (n + 1) = fitN l n ++ [l.getD n n] := by simp [fitN, List.range_succ]
theorem fitN_lt {l : List Nat} {n : Nat} (h : ∀ x ∈ l, x < 4294967296) (hn : n ≤ 1000) : ∀ x ∈ fitN l n, x < 4294967296 := by
  intro x hx
  obtain ⟨i, hi, rfl⟩ := List.mem_map.1 hx
  have hi := List.mem_range.1 hi
  by_cases hl : i < l.length
  · rw [show l.getD i i = l[i] by simp [hl]]; exact h _ (List.getElem_mem hl)
  · rw [show l.getD i i = i by rw [List.getD_eq_getElem?_getD, List.getElem?_eq_none (by omega)]; rfl]; omega
end Go.Proofs.YtopnlkhepjbjkaaDoor
namespace Go.Proofs.YtopnlkhepjbjkaaDoor
open Go.RowKit
section
variable {P : Program}
theorem run_append_empty {w : World} {base : Nat} {t ty e : TypeId} {size bytes : Nat} (E : Elem P t e size bytes) {v : Value} {n : Nat} {xs : List Value} (hown : w.ownsRow base e size v n xs) (c : Nat) :
    (Builtin.append_ #[t, t] ty #[v, .slice none 0 c]).run P w = .ok v w := by
  obtain ⟨i, z, hi, _⟩ := E.info
  rcases hown.2 with ⟨rfl, rfl⟩ | ⟨g, cap, cur, rfl, _, _, hnc, _⟩
  · simp [Builtin.append_, run_underlying E.und, sizeOf, typeInfo, hi, Builtin.lenOf, Builtin.firstCells]
  · simp [Builtin.append_, run_underlying E.und, sizeOf, typeInfo, hi, Builtin.lenOf, Builtin.firstCells, hnc, storeCells]
/-- 'append(v, x...)', x of whatever length. -/
theorem wpList_pushN {ops : Array Oper} {rest : List Oper} {o : Oper} {a : Act} {Q : Exit → Act → World → Prop} {t e : TypeId} {size bytes : Nat} (E : Elem P t e size bytes) (hgd : o.guard = none) (s x : Operand)
    (ho : o.op = .call { callee := .builtin .append, args := #[s, x], argTypes := #[t, t] })
    (W : World) (base : Nat) (v : Value) (n : Nat) (xs : List Value) (hs : a.eval s = v) (hown : W.ownsRow base e size v n xs) (B : Nat) (A : Option Addr) (m c : Nat) (news : List Value)
    (hx : a.eval x = .slice A m c) (hr : Rd W B size A m news) (h1 : ∀ u ∈ news, u.oneCell' = true) (hbytes : (n + m) * bytes ≤ 140737488355328) (hmax : n + m ≤ maxLen) (w0 : World) (hw0 : Below base w0 W) (hbase0 : base ≤ w0.heap.size)
    (h : ∀ A' c' w', w'.ownsRow base e size (.slice A' (n + m) c') (n + m) (xs ++ news) → Below base w0 w' → wpList P ops Q rest (a.put o.dst (.slice A' (n + m) c')) w') : wpList P ops Q (o :: rest) a W := by
  have hbase : base ≤ W.heap.size := Nat.le_trans hbase0 hw0.size
  rcases A with _ | ad
  · have hm : m = 0 := by
      rcases Nat.eq_zero_or_pos m with h0 | h0
      · exact h0
      · obtain ⟨b, off, h, _⟩ := hr.2 h0
        cases h
    subst hm
    have hn : news = [] := List.eq_nil_of_length_eq_zero (by simpa using hr.1)
    subst hn
    obtain ⟨A', c', rfl⟩ := own_slice hown
    have hh := h A' c' W (by simpa using hown) hw0
    refine wpList_plain hgd fun K hK => ?_
    have hrun := run_append_empty (P := P) (ty := o.type) E hown c
    unfold Oper.wp
    simp [execOp, ho, resolve, invoke, builtin, hs, hx, hrun, Result.andThen]
    exact hK _ _ hh
  · obtain ⟨i, z, hi, hz, hsize, hby, hzs⟩ := E.info
    have hcells : ∀ j u, news[j]? = some u → W.cell? (ad.add j) = some u := by
      intro j u hu
      rcases Nat.eq_zero_or_pos m with h0 | h0
      · subst h0
        have hn : news = [] := List.eq_nil_of_length_eq_zero (by simpa using hr.1)
        subst hn
        simp at hu
      · obtain ⟨b, off, h, _, hc⟩ := hr.2 h0
        injection h with h
        subst h
        rw [add_none]
        exact hc j u hu
    refine wpList_append_own W hgd s x t ho base e i z size bytes E.und hi hz hsize hby hzs E.pos v n xs hs hown ad m c news hx hr.1 hcells h1 hmax hbytes hbase ?_
    intro v' w' ho' hg _
    obtain ⟨A', c', rfl⟩ := own_slice ho'
    exact h A' c' w' ho' (hw0.grown hg hbase (fun k hk => (hown.lt k hk).1))
end
end Go.Proofs.YtopnlkhepjbjkaaDoor
namespace Go.Proofs.YtopnlkhepjbjkaaDoor
open Go.RowKit
set_option linter.unusedVariables false
inductive Chunk where
  | blk (g : Nat) (t : TypeId) (cs : Array Value)
  | row (base : Nat) (e : TypeId) (size : Nat) (v : Value) (n : Nat) (xs : List Value)
  | obj (g : Nat) (o : Obj)
def Chunk.num : Chunk → Option Nat
  | .blk g _ _ => some g
  | .row _ _ _ v _ _ => v.ownBlock
  | .obj g _ => some g
def Chunk.ok (w : World) : Chunk → Prop
  | .blk g t cs => Blk w g t cs
  | .row base e size v n xs => w.ownsRow base e size v n xs
  | .obj g o => w.heap[g]? = some o
def Chunk.apart (c d : Chunk) : Prop := ∀ k, c.num = some k → d.num ≠ some k
theorem Chunk.apart.symm {c d : Chunk} (h : c.apart d) : d.apart c := fun k hk hc => h k hc hk
theorem Chunk.lt {w : World} {c : Chunk} (h : c.ok w) : ∀ k, c.num = some k → k < w.heap.size := by
  intro k hk
  cases c with
  | blk g t cs => obtain rfl : g = k := by simpa [Chunk.num] using hk
                  exact Blk.lt h
  | row base e size v n xs => exact (World.ownsRow.lt h k hk).2
  | obj g o => obtain rfl : g = k := by simpa [Chunk.num] using hk
               exact (Array.getElem?_eq_some_iff.1 (show w.heap[g]? = some o from h)).1
theorem Chunk.kept {w w' : World} {c : Chunk} {row : Option Nat} (h : c.ok w) (hg : w.grownBy w' row) (hne : c.num = none ∨ c.num ≠ row) : c.ok w' := by
  cases c with
  | blk g t cs => exact (hg.block g (Blk.lt h) (by simpa [Chunk.num] using hne)).trans h
  | row base e size v n xs => exact World.ownsRow.kept h hg hne
  | obj g o =>
    have hlt : g < w.heap.size := (Array.getElem?_eq_some_iff.1 (show w.heap[g]? = some o from h)).1
    exact (hg.block g hlt (by simpa [Chunk.num] using hne)).trans h
/-- What was there when the call began is as it was, but for the blocks in G. -/
structure Keep (w0 : World) (G : List Nat) (w : World) : Prop where
  os : w.os = w0.os
  tape : w.tape = w0.tape
  output : w.output = w0.output
  size : w0.heap.size ≤ w.heap.size
  block : ∀ k, k < w0.heap.size → k ∉ G → w.heap[k]? = w0.heap[k]?
theorem Keep.below {w0 w : World} (h : Keep w0 [] w) : Below w0.heap.size w0 w := ⟨h.os, h.tape, h.output, h.size, fun k hk => h.block k hk (by simp)⟩
theorem Keep.grown {w0 w : World} {g : Nat} (h : Keep w0 [g] w) : w0.grownBy w (some g) := ⟨h.os, h.tape, h.output, h.size, fun k hk hn => h.block k hk (by simp; intro e; exact hn (by rw [e]))⟩
theorem grown_of_below {w w' : World} (hb : Below w.heap.size w w') : w.grownBy w' none := ⟨hb.os, hb.tape, hb.output, hb.size, fun k hk _ => hb.block k hk⟩
theorem grown_setCell (w : World) (p : Addr) (v : Value) : w.grownBy (w.setCell p v) (some p.block) := ⟨rfl, rfl, rfl, by simp, fun k _ hk => heap_setCell_other w p k v (fun e => hk (by simp [e]))⟩
structure Mem (w0 : World) (G : List Nat) (w : World) (l : List Chunk) : Prop where
  keep : Keep w0 G w
  ok : ∀ c ∈ l, c.ok w
  pair : l.Pairwise Chunk.apart
  own : ∀ c ∈ l, ∀ k, c.num = some k → w0.heap.size ≤ k ∨ k ∈ G
section
variable {w0 w w' : World} {G : List Nat} {l : List Chunk} {c c' : Chunk}
theorem Mem.init (w : World) : Mem w [] w [] := ⟨⟨rfl, rfl, rfl, Nat.le_refl _, fun _ _ _ => rfl⟩, by simp, by simp, by simp⟩
theorem Mem.init1 {g : Nat} {t : TypeId} {cs : Array Value} (h : Blk w g t cs) : Mem w [g] w [.blk g t cs] :=
  ⟨⟨rfl, rfl, rfl, Nat.le_refl _, fun _ _ _ => rfl⟩, fun c hc => (List.mem_singleton.1 hc) ▸ h, by simp, by simp [Chunk.num]⟩
theorem Mem.keeps {row : Option Nat} (H : Mem w0 G w l) (hg : w.grownBy w' row) (hr : ∀ k, row = some k → w0.heap.size ≤ k ∨ k ∈ G) : Keep w0 G w' :=
  ⟨hg.os.trans H.keep.os, hg.tape.trans H.keep.tape, hg.output.trans H.keep.output, Nat.le_trans H.keep.size hg.size, fun k hk hG =>
    (hg.block k (Nat.lt_of_lt_of_le hk H.keep.size) (fun e => by rcases hr k e.symm with h | h; omega; exact hG h)).trans (H.keep.block k hk hG)⟩
theorem pair_get {R : Chunk → Chunk → Prop} (hs : ∀ {a b}, R a b → R b a) : ∀ {l : List Chunk} {i j : Nat} {a b : Chunk}, l.Pairwise R → l[i]? = some a → l[j]? = some b → i ≠ j → R a b
  | [], i, j, a, b, _, h, _, _ => by simp at h
  | x :: t, 0, 0, a, b, _, _, _, hn => absurd rfl hn
  | x :: t, 0, j + 1, a, b, hp, ha, hb, _ => by
    rw [List.pairwise_cons] at hp
    obtain rfl : x = a := by simpa using ha
    exact hp.1 b (List.mem_of_getElem? (by simpa using hb))
  | x :: t, i + 1, 0, a, b, hp, ha, hb, _ => by
    rw [List.pairwise_cons] at hp
    obtain rfl : x = b := by simpa using hb
    exact hs (hp.1 a (List.mem_of_getElem? (by simpa using ha)))
  | x :: t, i + 1, j + 1, a, b, hp, ha, hb, hn => by
    rw [List.pairwise_cons] at hp
    exact pair_get hs hp.2 (by simpa using ha) (by simpa using hb) (by omega)
theorem pair_set {R : Chunk → Chunk → Prop} (hs : ∀ {a b}, R a b → R b a) : ∀ {l : List Chunk} {i : Nat} {c' : Chunk}, l.Pairwise R → (∀ j d, l[j]? = some d → j ≠ i → R c' d) → (l.set i c').Pairwise R
  | [], i, c', _, _ => by simp
  | x :: t, 0, c', hp, h => by
    rw [List.pairwise_cons] at hp
    rw [List.set_cons_zero, List.pairwise_cons]
    refine ⟨fun d hd => ?_, hp.2⟩
    obtain ⟨j, hj⟩ := List.getElem?_of_mem hd
    exact h (j + 1) d (by simpa using hj) (by omega)
  | x :: t, i + 1, c', hp, h => by
    rw [List.pairwise_cons] at hp
    rw [List.set_cons_succ, List.pairwise_cons]
    refine ⟨fun d hd => ?_, pair_set hs hp.2 (fun j d hj hn => h (j + 1) d (by simpa using hj) (by omega))⟩
    rcases List.mem_or_eq_of_mem_set hd with hm | rfl
    · exact hp.1 d hm
    · exact hs (h 0 x (by simp) (by omega))
/-- One chunk has turned into another (at its own place or at a new one). -/
theorem Mem.turn {i : Nat} (H : Mem w0 G w l) (hi : l[i]? = some c) (hg : w.grownBy w' c.num) (hok : c'.ok w') (hn : ∀ k, c'.num = some k → c.num = some k ∨ w.heap.size ≤ k) : Mem w0 G w' (l.set i c') := by
  have hc := List.mem_of_getElem? hi
  have hap : ∀ j d, l[j]? = some d → j ≠ i → c'.apart d := fun j d hj hne k hk hd => by
    have hdl := Chunk.lt (H.ok d (List.mem_of_getElem? hj)) k hd
    rcases hn k hk with h | h
    · exact pair_get Chunk.apart.symm H.pair hi hj (Ne.symm hne) k h hd
    · omega
  refine ⟨H.keeps hg (fun k hk => H.own c hc k hk), fun d hd => ?_, pair_set Chunk.apart.symm H.pair hap, fun d hd k hk => ?_⟩
  · obtain ⟨j, hj⟩ := List.getElem?_of_mem hd
    rw [List.getElem?_set] at hj
    split at hj
    · split at hj
      · obtain rfl : c' = d := by simpa using hj
        exact hok
      · simp at hj
    · rename_i hne
      have hdm := List.mem_of_getElem? hj
      refine Chunk.kept (H.ok d hdm) hg ?_
      cases hdn : d.num with
      | none => exact .inl rfl
      | some k => exact .inr fun e => pair_get Chunk.apart.symm H.pair hi hj hne k e.symm hdn
  · rcases List.mem_or_eq_of_mem_set hd with hm | rfl
    · exact H.own d hm k hk
    · rcases hn k hk with h | h
      · exact H.own c hc k h
      · exact .inl (Nat.le_trans H.keep.size h)
/-- A new chunk has come up. -/
theorem Mem.more (H : Mem w0 G w l) (hg : w.grownBy w' none) (hok : c'.ok w') (hn : ∀ k, c'.num = some k → w.heap.size ≤ k) : Mem w0 G w' (l ++ [c']) := by
  refine ⟨H.keeps hg (by simp), fun d hd => ?_, ?_, fun d hd k hk => ?_⟩
  · rcases List.mem_append.1 hd with h | h
    · exact Chunk.kept (H.ok d h) hg (by cases d.num <;> simp)
    · obtain rfl : d = c' := by simpa using h
      exact hok
  · rw [List.pairwise_append]
    refine ⟨H.pair, by simp, fun a ha b hb k hk hk' => ?_⟩
    obtain rfl : b = c' := by simpa using hb
    have := Chunk.lt (H.ok a ha) k hk
    have := hn k hk'
    omega
  · rcases List.mem_append.1 hd with h | h
    · exact H.own d h k hk
    · obtain rfl : d = c' := by simpa using h
      exact .inl (Nat.le_trans H.keep.size (hn k hk))
theorem Mem.call (H : Mem w0 G w l) (hb : Below w.heap.size w w') : Mem w0 G w' l :=
  ⟨H.keeps (grown_of_below hb) (by simp), fun c hc => Chunk.kept (H.ok c hc) (grown_of_below hb) (by cases c.num <;> simp), H.pair, H.own⟩
theorem Mem.drewN (H : Mem w0 G w l) (n : Nat) : Mem w0 G (w.drewN n) l :=
  ⟨⟨H.keep.os, H.keep.tape, H.keep.output, H.keep.size, H.keep.block⟩, fun c hc => by
    have := H.ok c hc
    cases c with
    | blk g t cs => exact this
    | row base e size v n xs => exact this
    | obj g o => exact this, H.pair, H.own⟩
theorem Mem.drew (H : Mem w0 G w l) : Mem w0 G w.drew l := H.drewN 1
theorem Mem.alloc (H : Mem w0 G w l) (g : Nat) (hg : w.heap.size = g) (cs : Array Value) (t : TypeId) : Mem w0 G (w.alloc (.cells cs t)) (l ++ [.blk g t cs]) := by
  subst hg
  exact H.more (World.grownBy_alloc w _ none) (Blk.new w t cs) (by simp [Chunk.num])
theorem Mem.set {g : Nat} {t : TypeId} {cs : Array Value} (i : Nat) (H : Mem w0 G w l) (hi : l[i]? = some (.blk g t cs)) (o : Nat) (v : Value) : Mem w0 G (w.setCell ⟨g, o, none⟩ v) (l.set i (.blk g t (cs.setIfInBounds o v))) :=
  H.turn hi (grown_setCell w ⟨g, o, none⟩ v) (Blk.set_ (H.ok _ (List.mem_of_getElem? hi)) o v) (fun k hk => .inl hk)
theorem Mem.objNew (H : Mem w0 G w l) (g : Nat) (hg : w.heap.size = g) (o : Obj) : Mem w0 G (w.alloc o) (l ++ [.obj g o]) := by
  subst hg
  exact H.more (World.grownBy_alloc w _ none) (heap_alloc_new w o) (by simp [Chunk.num])
theorem Mem.iter (H : Mem w0 G w l) (g : Nat) (hg : w.heap.size = g) (s : ByteArray) : Mem w0 G (w.iter s 0) (l ++ [.obj g (.stringIter s 0)]) := H.objNew g hg (.stringIter s 0)
theorem grown_iterAt (w : World) (g : Nat) (s : ByteArray) (p : Nat) : w.grownBy (w.iterAt g s p) (some g) := ⟨rfl, rfl, rfl, by rw [Lib.iterAt_size]; exact Nat.le_refl _, fun k _ hk => Lib.iterAt_other w g k s p (fun e => hk (by simp [e]))⟩
/-- A text's iterator goes on. -/
theorem Mem.next {g : Nat} {s : ByteArray} {p : Nat} (i : Nat) (H : Mem w0 G w l) (hi : l[i]? = some (.obj g (.stringIter s p))) (p' : Nat) : Mem w0 G (w.iterAt g s p') (l.set i (.obj g (.stringIter s p'))) :=
  H.turn hi (c' := .obj g (.stringIter s p')) (grown_iterAt w g s p') (Lib.iterAt_heap w g s p p' (H.ok _ (List.mem_of_getElem? hi))) (fun k hk => .inl hk)
theorem Mem.obj_ {g : Nat} {o : Obj} (H : Mem w0 G w l) (i : Nat) (hi : l[i]? = some (.obj g o)) : w.heap[g]? = some o := H.ok _ (List.mem_of_getElem? hi)
/-- A callee has written into a block that it was handed. -/
theorem Mem.mod {g : Nat} {t : TypeId} {cs cs' : Array Value} (i : Nat) (H : Mem w0 G w l) (hi : l[i]? = some (.blk g t cs)) (hg : w.grownBy w' (some g)) (hok : Blk w' g t cs') : Mem w0 G w' (l.set i (.blk g t cs')) :=
  H.turn hi hg (c' := .blk g t cs') hok (fun k hk => .inl hk)
/-- A callee answers with a row of its own. -/
theorem Mem.row {base : Nat} {e : TypeId} {size : Nat} {v : Value} {n : Nat} {xs : List Value} (H : Mem w0 G w l) (hb : Below w.heap.size w w') (ho : w'.ownsRow base e size v n xs) (hB : w.heap.size ≤ base) : Mem w0 G w' (l ++ [.row base e size v n xs]) :=
  H.more (grown_of_below hb) (c' := .row base e size v n xs) ho (fun k hk => Nat.le_trans hB (World.ownsRow.lt ho k hk).1)
/-- The empty row. -/
theorem Mem.nilrow (H : Mem w0 G w l) (base : Nat) (e : TypeId) (size : Nat) : Mem w0 G w (l ++ [.row base e size (.slice none 0 0) 0 []]) :=
  H.more (c' := .row base e size (.slice none 0 0) 0 []) (w' := w) ⟨rfl, rfl, rfl, Nat.le_refl _, fun _ _ _ => rfl⟩ (World.ownsRow_nil w base e size) (by simp [Chunk.num, Value.ownBlock])
/-- A row has grown by append. -/
theorem Mem.push {base base' : Nat} {e : TypeId} {size : Nat} {v v' : Value} {n n' : Nat} {xs xs' : List Value} (i : Nat) (H : Mem w0 G w l) (hi : l[i]? = some (.row base e size v n xs)) (hg : w.grownBy w' v.ownBlock) (ho : w'.ownsRow base' e size v' n' xs')
    (hn : ∀ k, v'.ownBlock = some k → v.ownBlock = some k ∨ w.heap.size ≤ k) : Mem w0 G w' (l.set i (.row base' e size v' n' xs')) :=
  H.turn hi hg (c' := .row base' e size v' n' xs') ho hn
/-- What a callee has made comes to what there is. -/
theorem Mem.join {l' : List Chunk} (H : Mem w0 G w l) (K : Mem w [] w' l') : Mem w0 G w' (l ++ l') := by
  have hb := K.keep.below
  have hg := grown_of_below hb
  have hge : ∀ c ∈ l', ∀ k, c.num = some k → w.heap.size ≤ k := fun c hc k hk => by
    rcases K.own c hc k hk with h | h
    · exact h
    · simp at h
  refine ⟨H.keeps hg (by simp), fun d hd => ?_, ?_, fun d hd k hk => ?_⟩
  · rcases List.mem_append.1 hd with h | h
    · exact Chunk.kept (H.ok d h) hg (by cases d.num <;> simp)
    · exact K.ok d h
  · rw [List.pairwise_append]
    refine ⟨H.pair, K.pair, fun a ha b hb k hk hk' => ?_⟩
    have := Chunk.lt (H.ok a ha) k hk
    have := hge b hb k hk'
    omega
  · rcases List.mem_append.1 hd with h | h
    · exact H.own d h k hk
    · exact .inl (Nat.le_trans H.keep.size (hge d h k hk))
/-- A callee has turned the block g that it was handed, and has made more. -/
theorem Mem.joinAt {l' : List Chunk} {g : Nat} {t : TypeId} {cs cs' : Array Value} (i : Nat) (H : Mem w0 G w l) (hi : l[i]? = some (.blk g t cs)) (K : Mem w [g] w' (.blk g t cs' :: l')) : Mem w0 G w' (l.set i (.blk g t cs') ++ l') := by
  have hg := K.keep.grown
  have H1 := Mem.mod (cs' := cs') i H hi hg (K.ok _ (List.mem_cons_self ..))
  have hge : ∀ c ∈ l', ∀ k, c.num = some k → w.heap.size ≤ k := fun c hc k hk => by
    rcases K.own c (List.mem_cons_of_mem _ hc) k hk with h | h
    · exact h
    · have hap := K.pair
      rw [List.pairwise_cons] at hap
      obtain rfl : k = g := by simpa using h
      exact absurd hk (hap.1 c hc k rfl)
  have hlt : ∀ a ∈ l.set i (.blk g t cs'), ∀ k, a.num = some k → k < w.heap.size := fun a ha k hk => by
    rcases List.mem_or_eq_of_mem_set ha with hm | rfl
    · exact Chunk.lt (H.ok a hm) k hk
    · obtain rfl : g = k := by simpa [Chunk.num] using hk
      exact Blk.lt (show Blk w g t cs from H.ok _ (List.mem_of_getElem? hi))
  refine ⟨H1.keep, fun d hd => ?_, ?_, fun d hd k hk => ?_⟩
  · rcases List.mem_append.1 hd with h | h
    · exact H1.ok d h
    · exact K.ok d (List.mem_cons_of_mem _ h)
  · rw [List.pairwise_append]
    have hap := K.pair
    rw [List.pairwise_cons] at hap
    refine ⟨H1.pair, hap.2, fun a ha b hb k hk hk' => ?_⟩
    have := hlt a ha k hk
    have := hge b hb k hk'
    omega
  · rcases List.mem_append.1 hd with h | h
    · exact H1.own d h k hk
    · exact .inl (Nat.le_trans H.keep.size (hge d h k hk))
theorem Mem.sub {l' : List Chunk} (H : Mem w0 G w l) (hs : l'.Sublist l) : Mem w0 G w l' := ⟨H.keep, fun c hc => H.ok c (hs.subset hc), H.pair.sublist hs, fun c hc => H.own c (hs.subset hc)⟩
theorem Mem.drop_ (i : Nat) (H : Mem w0 G w l) : Mem w0 G w (l.eraseIdx i) := H.sub (List.eraseIdx_sublist l i)
theorem Mem.blk {g : Nat} {t : TypeId} {cs : Array Value} (H : Mem w0 G w l) (i : Nat) (hi : l[i]? = some (.blk g t cs)) : Blk w g t cs := H.ok _ (List.mem_of_getElem? hi)
theorem Mem.own_ {base : Nat} {e : TypeId} {size : Nat} {v : Value} {n : Nat} {xs : List Value} (H : Mem w0 G w l) (i : Nat) (hi : l[i]? = some (.row base e size v n xs)) : w.ownsRow base e size v n xs := H.ok _ (List.mem_of_getElem? hi)
theorem Mem.ne {g g' : Nat} {t t' : TypeId} {cs cs' : Array Value} (H : Mem w0 G w l) (i j : Nat) (hi : l[i]? = some (.blk g t cs)) (hj : l[j]? = some (.blk g' t' cs')) (hn : i ≠ j) : g ≠ g' := fun e =>
  pair_get Chunk.apart.symm H.pair hi hj hn g rfl (by rw [e]; rfl)
theorem Mem.ner {g base : Nat} {t e : TypeId} {cs : Array Value} {size : Nat} {v : Value} {n : Nat} {xs : List Value} (H : Mem w0 G w l) (i j : Nat) (hi : l[i]? = some (.blk g t cs)) (hj : l[j]? = some (.row base e size v n xs)) (hn : i ≠ j) : some g ≠ v.ownBlock := fun e =>
  pair_get Chunk.apart.symm H.pair hi hj hn g rfl e.symm
theorem Mem.lt {g : Nat} {t : TypeId} {cs : Array Value} (H : Mem w0 G w l) (i : Nat) (hi : l[i]? = some (.blk g t cs)) : g < w.heap.size := Blk.lt (H.blk i hi)
theorem Mem.ge {g : Nat} {t : TypeId} {cs : Array Value} (H : Mem w0 [] w l) (i : Nat) (hi : l[i]? = some (.blk g t cs)) : w0.heap.size ≤ g := by
  rcases H.own _ (List.mem_of_getElem? hi) g rfl with h | h
  · exact h
  · simp at h
theorem Mem.below (H : Mem w0 [] w l) : Below w0.heap.size w0 w := H.keep.below
theorem Mem.grown {g : Nat} (H : Mem w0 [g] w l) : w0.grownBy w (some g) := H.keep.grown
/-- The row that a function answers with, told from the call's beginning. -/
theorem Mem.ownb {base : Nat} {e : TypeId} {size : Nat} {v : Value} {n : Nat} {xs : List Value} (H : Mem w0 [] w l) (i : Nat) (hi : l[i]? = some (.row base e size v n xs)) : w.ownsRow w0.heap.size e size v n xs := by
  have h := H.own_ i hi
  refine ⟨h.1, ?_⟩
  rcases h.2 with h2 | ⟨g, cap, cur, rfl, h2, h3⟩
  · exact .inl h2
  · refine .inr ⟨g, cap, cur, rfl, ?_, h3⟩
    rcases H.own _ (List.mem_of_getElem? hi) g (by simp [Chunk.num, Value.ownBlock]) with h | h
    · exact h
    · simp at h
end
end Go.Proofs.YtopnlkhepjbjkaaDoor
namespace Go.Proofs.YtopnlkhepjbjkaaDoor
/-- The decimal digits of a number, the first one first. -/
def dec (n : Nat) : List Nat := if n < 10 then [n] else dec (n / 10) ++ [n % 10]
termination_by n
decreasing_by omega
/-- The number that digits tell. -/
def val10 (l : List Nat) : Nat := l.foldl (fun n d => n * 10 + d) 0
theorem dec_small {n : Nat} (h : n < 10) : dec n = [n] := by rw [dec, if_pos h]
theorem dec_big {n : Nat} (h : ¬ n < 10) : dec n = dec (n / 10) ++ [n % 10] := by rw [dec, if_neg h]
theorem val10_snoc (l : List Nat) (d : Nat) : val10 (l ++ [d]) = val10 l * 10 + d := by simp [val10]
theorem val10_dec (n : Nat) : val10 (dec n) = n := by
  induction n using Nat.strongRecOn with
  | ind n ih =>
    by_cases h : n < 10
    · rw [dec_small h]; simp [val10]
    · rw [dec_big h, val10_snoc, ih (n / 10) (by omega)]; omega
theorem dec_le (n : Nat) : ∀ d ∈ dec n, d ≤ 9 := by
  induction n using Nat.strongRecOn with
  | ind n ih =>
    by_cases h : n < 10
    · rw [dec_small h]; intro d hd; simp at hd; omega
    · rw [dec_big h]
      intro d hd
      rcases List.mem_append.1 hd with h1 | h1
      · exact ih (n / 10) (by omega) d h1
      · simp at h1; omega
theorem dec_pos (n : Nat) : 0 < (dec n).length := by
  by_cases h : n < 10
  · rw [dec_small h]; simp
  · rw [dec_big h]; simp
theorem dec_len (n : Nat) : ∀ k, n < 10 ^ k → 0 < k → (dec n).length ≤ k := by
  induction n using Nat.strongRecOn with
  | ind n ih =>
    intro k hk h0
    by_cases h : n < 10
    · rw [dec_small h]; simp; omega
    · rw [dec_big h]
      obtain ⟨j, rfl⟩ : ∃ j, k = j + 1 := ⟨k - 1, by omega⟩
      rw [Nat.pow_succ] at hk
      have hj : 0 < j := by
        rcases Nat.eq_zero_or_pos j with rfl | hj
        · simp at hk; omega
        · exact hj
      have := ih (n / 10) (by omega) j (by omega) hj
      simp; omega
/-- The first digit is no nought, but for the number nought. -/
theorem dec_head (n : Nat) (h : 0 < n) : ∃ d l, dec n = d :: l ∧ 1 ≤ d := by
  induction n using Nat.strongRecOn with
  | ind n ih =>
    by_cases h1 : n < 10
    · exact ⟨n, [], dec_small h1, by omega⟩
    · obtain ⟨d, l, hd, h2⟩ := ih (n / 10) (by omega) (by omega)
      exact ⟨d, l ++ [n % 10], by rw [dec_big h1, hd]; rfl, h2⟩
theorem val10_from (l : List Nat) : ∀ a : Nat, l.foldl (fun n d => n * 10 + d) a = a * 10 ^ l.length + val10 l := by
  induction l with
  | nil => intro a; simp [val10]
  | cons d l ih =>
    intro a
    have h2 : val10 (d :: l) = d * 10 ^ l.length + val10 l := by
      show List.foldl _ _ l = _
      rw [ih (0 * 10 + d)]; simp
    rw [List.foldl_cons, ih, h2, List.length_cons, Nat.pow_succ, Nat.add_mul, Nat.mul_assoc, Nat.mul_comm 10, Nat.add_assoc]
theorem val10_cons (d : Nat) (l : List Nat) : val10 (d :: l) = d * 10 ^ l.length + val10 l := by
  show List.foldl _ _ l = _
  rw [val10_from l (0 * 10 + d)]; simp
theorem val10_append (a b : List Nat) : val10 (a ++ b) = val10 a * 10 ^ b.length + val10 b := by
  show List.foldl _ _ (a ++ b) = _
  rw [List.foldl_append]
  exact val10_from b _
theorem val10_lt {l : List Nat} (h : ∀ d ∈ l, d ≤ 9) : val10 l < 10 ^ l.length := by
  induction l with
  | nil => simp [val10]
  | cons d l ih =>
    have h1 := ih (fun x hx => h x (List.mem_cons_of_mem _ hx))
    have h2 := h d (List.mem_cons_self ..)
    rw [val10_cons, List.length_cons, Nat.pow_succ]
    have : d * 10 ^ l.length ≤ 9 * 10 ^ l.length := Nat.mul_le_mul_right _ h2
    omega
theorem val10_inj : ∀ {a b : List Nat}, a.length = b.length → (∀ d ∈ a, d ≤ 9) → (∀ d ∈ b, d ≤ 9) → val10 a = val10 b → a = b
  | [], [], _, _, _, _ => rfl
  | [], _ :: _, h, _, _, _ => by simp at h
  | _ :: _, [], h, _, _, _ => by simp at h
  | x :: a, y :: b, h, ha, hb, hv => by
    have hl : a.length = b.length := by simpa using h
    have h1 := val10_lt (l := a) (fun d hd => ha d (List.mem_cons_of_mem _ hd))
    have h2 := val10_lt (l := b) (fun d hd => hb d (List.mem_cons_of_mem _ hd))
    rw [val10_cons, val10_cons, hl] at hv
    rw [hl] at h1
    have hxy : x = y := by
      rcases Nat.lt_trichotomy x y with h3 | h3 | h3
      · exfalso
        have : (x + 1) * 10 ^ b.length ≤ y * 10 ^ b.length := Nat.mul_le_mul_right _ h3
        rw [Nat.add_mul, Nat.one_mul] at this
        omega
      · exact h3
      · exfalso
        have : (y + 1) * 10 ^ b.length ≤ x * 10 ^ b.length := Nat.mul_le_mul_right _ h3
        rw [Nat.add_mul, Nat.one_mul] at this
        omega
    subst hxy
    rw [val10_inj hl (fun d hd => ha d (List.mem_cons_of_mem _ hd)) (fun d hd => hb d (List.mem_cons_of_mem _ hd)) (by omega)]
theorem val10_zeros (k : Nat) (l : List Nat) : val10 (List.replicate k 0 ++ l) = val10 l := by
  induction k with
  | zero => simp
  | succ k ih => rw [List.replicate_succ, List.cons_append, val10_cons, ih]; omega
/-- A number's digits, filled up with noughts at the head. -/
def pad (k n : Nat) : List Nat := List.replicate (k - (dec n).length) 0 ++ dec n
theorem pad_len {k n : Nat} (h : n < 10 ^ k) (h0 : 0 < k) : (pad k n).length = k := by
  have := dec_len n k h h0
  unfold pad; simp; omega
theorem pad_le (k n : Nat) : ∀ d ∈ pad k n, d ≤ 9 := by
  intro d hd
  rcases List.mem_append.1 hd with h | h
  · have := List.eq_of_mem_replicate h; omega
  · exact dec_le n d h
theorem val10_pad (k n : Nat) : val10 (pad k n) = n := by unfold pad; rw [val10_zeros, val10_dec]
theorem pad_val {k : Nat} {l : List Nat} (hl : l.length = k) (h0 : 0 < k) (h : ∀ d ∈ l, d ≤ 9) : pad k (val10 l) = l := by
  have h1 := val10_lt h
  rw [hl] at h1
  exact val10_inj (by rw [pad_len h1 h0, hl]) (pad_le _ _) h (val10_pad _ _)
/-- Digits without noughts at the head are those of their number. -/
theorem dec_val {l : List Nat} (h0 : 0 < l.length) (h : ∀ d ∈ l, d ≤ 9) (hh : l.length = 1 ∨ l[0]? ≠ some 0) : dec (val10 l) = l := by
  have h1 := val10_lt h
  have hle := dec_len (val10 l) l.length h1 h0
  refine val10_inj ?_ (dec_le _) h (val10_dec _)
  rcases hh with hh | hh
  · have := dec_pos (val10 l); omega
  · cases l with
    | nil => simp at h0
    | cons d t =>
      have hd : 1 ≤ d := by
        rcases Nat.eq_zero_or_pos d with rfl | h2
        · simp at hh
        · exact h2
      rcases Nat.lt_or_ge (dec (val10 (d :: t))).length (d :: t).length with h2 | h2
      · exfalso
        have h3 := val10_lt (dec_le (val10 (d :: t)))
        rw [val10_dec, val10_cons] at h3
        have h4 : 10 ^ (dec (d * 10 ^ t.length + val10 t)).length ≤ 10 ^ t.length := Nat.pow_le_pow_right (by omega) (by rw [val10_cons] at h2; simp at h2; omega)
        have : 1 * 10 ^ t.length ≤ d * 10 ^ t.length := Nat.mul_le_mul_right _ hd
        omega
      · omega
end Go.Proofs.YtopnlkhepjbjkaaDoor
namespace Go.Proofs.YtopnlkhepjbjkaaDoor
open Go.RowKit

/-- The byte of a digit. -/
def dg (d : Nat) : UInt8 := UInt8.ofNat (48 + d)
/-- The text of digits. -/
def dstr (l : List Nat) : ByteArray := ⟨(l.map dg).toArray⟩
theorem dg_toNat {d : Nat} (h : d ≤ 9) : (dg d).toNat = 48 + d := by
  unfold dg; rw [UInt8.toNat_ofNat']; omega
theorem dstr_size (l : List Nat) : (dstr l).size = l.length := by
  unfold dstr; show (l.map dg).toArray.size = _; simp
theorem dstr_get (l : List Nat) (i : Nat) (h : i < (dstr l).size) : (dstr l)[i] = dg (l[i]'(by rw [dstr_size] at h; exact h)) := by
  have h2 : i < l.length := by rw [dstr_size] at h; exact h
  have : ((l.map dg).toArray)[i]'(by simpa using h2) = dg (l[i]'h2) := by simp
  exact this
theorem dstr_byte {l : List Nat} (hl : ∀ d ∈ l, d ≤ 9) (i : Nat) (h : i < (dstr l).size) : ((dstr l)[i]).toNat = 48 + l[i]'(by rw [dstr_size] at h; exact h) := by
  rw [dstr_get, dg_toNat (hl _ (List.getElem_mem _))]
theorem dstr_toList (l : List Nat) : (dstr l).data.toList = l.map dg := by unfold dstr; simp
theorem str_ext {a b : ByteArray} (h : a.data.toList = b.data.toList) : a = b := by
  cases a; cases b; congr; exact Array.ext' h
theorem dg_inj {a b : Nat} (ha : a ≤ 9) (hb : b ≤ 9) (h : dg a = dg b) : a = b := by
  have := congrArg UInt8.toNat h
  rw [dg_toNat ha, dg_toNat hb] at this
  omega
theorem map_dg_inj : ∀ {a b : List Nat}, (∀ d ∈ a, d ≤ 9) → (∀ d ∈ b, d ≤ 9) → a.map dg = b.map dg → a = b
  | [], [], _, _, _ => rfl
  | [], _ :: _, _, _, h => by simp at h
  | _ :: _, [], _, _, h => by simp at h
  | x :: a, y :: b, ha, hb, h => by
    simp at h
    rw [dg_inj (ha x (by simp)) (hb y (by simp)) h.1, map_dg_inj (fun d hd => ha d (by simp [hd])) (fun d hd => hb d (by simp [hd])) h.2]
theorem dstr_inj {a b : List Nat} (ha : ∀ d ∈ a, d ≤ 9) (hb : ∀ d ∈ b, d ≤ 9) (h : dstr a = dstr b) : a = b := by
  apply map_dg_inj ha hb
  rw [← dstr_toList, ← dstr_toList, h]
theorem dstr_empty {l : List Nat} (h : 0 < l.length) : (dstr l).toList.isEmpty = false := by
  rw [Lib.toList_data, dstr_toList]; cases l <;> simp at h ⊢
theorem app_toList (a b : ByteArray) : (a ++ b).data.toList = a.data.toList ++ b.data.toList := by simp [ByteArray.data_append]
theorem str_beq (a b : ByteArray) : (a.toList == b.toList) = decide (a = b) := by
  rw [Bool.eq_iff_iff]
  simp only [beq_iff_eq, decide_eq_true_eq, Lib.toList_data]
  exact ⟨str_ext, fun h => by rw [h]⟩
theorem dstr_append (a b : List Nat) : dstr (a ++ b) = dstr a ++ dstr b := by
  apply str_ext; rw [app_toList, dstr_toList, dstr_toList, dstr_toList, List.map_append]
theorem dstr_extract (l : List Nat) (i j : Nat) : (dstr l).extract i j = dstr ((l.drop i).take (j - i)) := by
  apply str_ext
  rw [Lib.extract_data, dstr_toList, dstr_toList, List.map_take, List.map_drop]
theorem iterPos_of {w : World} {k : Nat} {s : ByteArray} {p : Nat} (h : w.heap[k]? = some (.stringIter s p)) : w.iterPos k = p := by simp [World.iterPos, h]
theorem iterPos_iter (w : World) (s : ByteArray) (p : Nat) : (w.iter s p).iterPos w.heap.size = p := iterPos_of (World.iter_heap w s p)
theorem below_iter (w : World) (s : ByteArray) (p : Nat) : Below w.heap.size w (w.iter s p) := (Below.refl _ _).alloc (Nat.le_refl _) _
end Go.Proofs.YtopnlkhepjbjkaaDoor
namespace Go.Proofs.YtopnlkhepjbjkaaDoor
open Go.RowKit
set_option linter.unusedVariables false
section
variable {P : Program} {ops : Array Oper} {rest : List Oper} {o : Oper} {a : Act} {t e : TypeId} {size bytes : Nat} {w0 W : World} {G : List Nat} {L : List Chunk} {base n : Nat} {v : Value} {xs news : List Value}
theorem mem_pushed {A' : Option Addr} {c' i : Nat} {w' : World} (H : Mem w0 G W L) (hi : L[i]? = some (.row base e size v n xs)) (ho : w'.ownsRow base e size (.slice A' (n + 1) c') (n + 1) (xs ++ news)) (hg : (W.alloc (.cells ⟨news⟩ e)).grownBy w' v.ownBlock)
    (hb : ∀ b, b < (W.alloc (.cells ⟨news⟩ e)).heap.size → some b ≠ v.ownBlock → some b ≠ (Value.slice A' (n + 1) c').ownBlock) : Mem w0 G w' (L.set i (.row base e size (.slice A' (n + 1) c') (n + 1) (xs ++ news))) := by
  have H1 := H.alloc _ rfl ⟨news⟩ e
  have hil : i < L.length := (List.getElem?_eq_some_iff.1 hi).1
  have hi1 : (L ++ [Chunk.blk W.heap.size e ⟨news⟩])[i]? = some (.row base e size v n xs) := by rw [List.getElem?_append_left hil]; exact hi
  have H2 := Mem.push i H1 hi1 hg ho (fun k hk => by
    by_cases h1 : some k = v.ownBlock
    · exact .inl h1.symm
    · rcases Nat.lt_or_ge k (W.alloc (.cells ⟨news⟩ e)).heap.size with h2 | h2
      · exact absurd hk.symm (hb k h2 h1)
      · exact .inr h2)
  rw [List.set_append_left _ _ hil] at H2
  exact H2.sub (List.sublist_append_left _ _)
theorem wpList_pushM {Q : Exit → Act → World → Prop} (E : Elem P t e size bytes) (hgd : o.guard = none) (s x : Operand)
    (ho : o.op = .call { callee := .builtin .append, args := #[s, x], argTypes := #[t, t] })
    (i : Nat) (H : Mem w0 G W L) (hi : L[i]? = some (.row base e size v n xs)) (hs : a.eval s = v) (g : Nat) (hgW : W.heap.size = g) (hx : a.eval x = .slice (some ⟨g, 0, none⟩) 1 1)
    (hl : news.length = size) (h1 : ∀ u ∈ news, u.oneCell' = true) (hbytes : (n + 1) * bytes ≤ 140737488355328) (hmax : n + 1 ≤ maxLen) (hbase : base ≤ W.heap.size)
    (h : ∀ A' c' w', Mem w0 G w' (L.set i (.row base e size (.slice A' (n + 1) c') (n + 1) (xs ++ news))) → wpList P ops Q rest (a.put o.dst (.slice A' (n + 1) c')) w') : wpList P ops Q (o :: rest) a (W.alloc (.cells ⟨news⟩ e)) :=
  wpList_pushk E hgd s x ho _ base g v n xs news hs ((H.own_ i hi).alloc _) hx (hgW ▸ heap_alloc_new W _) hl h1 hbytes hmax (by simp; omega) fun A' c' w' ho' _ hg hb => h A' c' w' (mem_pushed H hi ho' hg hb)
end
end Go.Proofs.YtopnlkhepjbjkaaDoor
namespace Go.Proofs.YtopnlkhepjbjkaaDoor
open Go.RowKit Go.Sort
set_option linter.unusedVariables false
section
variable {P : Program} {w0 w : World} {G : List Nat} {L : List Chunk} {base c n i : Nat} {e : TypeId} {A : Option Addr}
/-- Texts as cells. -/
def strs (ss : List (List UInt8)) : List Value := ss.map encStr
theorem strs_len (ss : List (List UInt8)) : (strs ss).length = ss.length := by simp [strs]
theorem strs_snoc (ss : List (List UInt8)) (s : List UInt8) : strs (ss ++ [s]) = strs ss ++ [encStr s] := by simp [strs]
theorem strs_snoc2 (ss : List (List UInt8)) (s : ByteArray) : strs (ss ++ [s.data.toList]) = strs ss ++ [.string s] := by rw [strs_snoc]
theorem mem_reversed {g q : Nat} {ss : List (List UInt8)} (H : Mem w0 G w L) (hi : L[i]? = some (.row base e 1 (.slice (some ⟨g, 0, none⟩) n c) n (strs ss))) :
    Mem w0 G (putRow encStr (Sort.ahead w q) g 0 ss.reverse.toArray) (L.set i (.row base e 1 (.slice (some ⟨g, 0, none⟩) n c) n (strs ss.reverse))) := by
  have hown := H.own_ i hi
  have hn : ss.length = n := by have := hown.1; rw [strs_len] at this; omega
  subst hn
  rcases hown.2 with ⟨h0, _⟩ | ⟨g', cap', cur, hv, hb0, hb, h1, h2, h3, h4⟩
  · cases h0
  · cases hv
    have k1 := ownsRow_sorted (n := q) (os := #[]) (ss := ss) (ts := ss.reverse) (by simp) hb0 hb h1 h2 h3
    have k2 := grownBy_sorted (w := w) (g := g) (n := q) (os := #[]) ss.reverse.toArray
    rw [grow_empty] at k1 k2
    exact H.turn hi k2 (c' := .row base e 1 (.slice (some ⟨g, 0, none⟩) ss.length c) ss.length (strs ss.reverse)) k1 (fun k hk => .inl hk)
theorem own_holds {g : Nat} {ss : List (List UInt8)} (hown : w.ownsRow base e 1 (.slice (some ⟨g, 0, none⟩) n c) n (strs ss)) : Holds encStr w g 0 ss.toArray ∧ g < w.heap.size ∧ n ≤ c ∧ n ≤ 9223372036854775807 := by
  have hn : ss.length = n := by have := hown.1; rw [strs_len] at this; omega
  subst hn
  rcases hown.2 with ⟨h0, _⟩ | ⟨g', cap', cur, hv, hb0, hb, h1, h2, h3, h4⟩
  · cases h0
  · cases hv
    exact ⟨holds_of_block hb (by simpa [strs] using h4), (Array.getElem?_eq_some_iff.1 hb).1, h1, by unfold maxLen at h2; omega⟩
end
theorem revS_mem (ss : List (List UInt8)) (A : Option Addr) (n c i base : Nat) (e : TypeId) (w0 w : World) (G : List Nat) (L : List Chunk) (H : Mem w0 G w L) (hi : L[i]? = some (.row base e 1 (.slice A n c) n (strs ss))) :
    Calls Tryd.prog 53 #[.slice A n c] w fun e' w' => e' = .returned (.tuple #[]) ∧ Mem w0 G w' (L.set i (.row base e 1 (.slice A n c) n (strs ss.reverse))) := by
  have hown := H.own_ i hi
  have hn : ss.length = n := by have := hown.1; rw [strs_len] at this; omega
  rcases hown.2 with ⟨h0, h0'⟩ | ⟨g', cap', cur, hv, _⟩
  · cases h0
    have hs : ss = [] := List.eq_nil_of_length_eq_zero (by omega)
    subst hs
    refine (Tryd.slices_Reverse_string_empty none 0 w).mono ?_
    rintro e' w' ⟨he, rfl⟩
    refine ⟨he, ?_⟩
    have hil : i < L.length := (List.getElem?_eq_some_iff.1 hi).1
    have : L.set i (.row base e 1 (.slice none 0 0) 0 (strs [].reverse)) = L := by
      apply List.ext_getElem?
      intro j
      rw [List.getElem?_set]
      split
      · subst_vars; rw [hi]; rfl
      · rfl
    rw [this]; exact H
  · cases hv
    obtain ⟨k1, k2, k3, k4⟩ := own_holds hown
    have hc := Tryd.slices_Reverse_string_arr g' 0 c ss.toArray w k1 (by simp; omega)
    simp only [List.size_toArray, hn] at hc
    refine hc.mono ?_
    rintro e' w' ⟨he, q, rfl⟩
    refine ⟨he, ?_⟩
    have := mem_reversed (q := q) H hi
    simpa using this
theorem joinS_own (ss : List (List UInt8)) (A : Option Addr) (n c base : Nat) (e : TypeId) (sep : ByteArray) (w : World) (hown : w.ownsRow base e 1 (.slice A n c) n (strs ss)) (hn48 : n ≤ 100000) (hlen : (Lib.join ss sep.data.toList).length ≤ 100000000) :
    Calls Tryd.prog 54 #[.slice A n c, .string sep] w fun e w' => e = .returned (.string ⟨(Lib.join ss sep.data.toList).toArray⟩) ∧ Below w.heap.size w w' := by
  have hn : ss.length = n := by have := hown.1; rw [strs_len] at this; omega
  rcases hown.2 with ⟨h0, h0'⟩ | ⟨g', cap', cur, hv, _⟩
  · cases h0
    have hs : ss = [] := List.eq_nil_of_length_eq_zero (by omega)
    subst hs
    refine (Tryd.strings_Join_none none 0 sep w).mono ?_
    rintro e' w' ⟨he, rfl⟩
    exact ⟨he, Below.refl _ _⟩
  · cases hv
    obtain ⟨k1, k2, k3, k4⟩ := own_holds hown
    have hm : (ss.map fun l => (⟨l.toArray⟩ : ByteArray)).map (fun b => b.data.toList) = ss := by
      rw [List.map_map]
      exact (List.map_congr_left (fun l _ => rfl)).trans (List.map_id ss)
    have hc := Tryd.strings_Join g' 0 c (ss.map fun l => (⟨l.toArray⟩ : ByteArray)) sep w (fun j x hx => by
        rw [List.getElem?_map] at hx
        obtain ⟨l, hl, rfl⟩ := Option.map_eq_some_iff.1 hx
        have hj : j < ss.length := (List.getElem?_eq_some_iff.1 hl).1
        have h2 := (k1 j (by simpa using hj)).1
        rw [h2]
        have : ss.toArray[j]! = l := by
          rw [getElem!_pos _ j (by simpa using hj)]
          have := (List.getElem?_eq_some_iff.1 hl).2
          simpa using this
        rw [this]) k2 (by simp; omega) (by simp; omega) (by rw [hm]; omega)
    rw [hm, List.length_map, hn] at hc
    exact hc
theorem join_flat (xs : List (List UInt8)) : Lib.join xs [] = xs.flatten := by
  cases xs with
  | nil => rfl
  | cons x r => rw [Lib.join_cons]; simp [Lib.joinTail]
end Go.Proofs.YtopnlkhepjbjkaaDoor
namespace Go.Proofs.YtopnlkhepjbjkaaDoor
open Go.RowKit

/-- The rest by 97. -/
def rest97 (l : List Nat) : Nat := l.foldl (fun n d => (n * 10 + d) % 97) 0
theorem rest97_snoc (l : List Nat) (d : Nat) : rest97 (l ++ [d]) = (rest97 l * 10 + d) % 97 := by simp [rest97]
theorem rest97_lt (l : List Nat) : rest97 l < 97 := by
  rcases List.eq_nil_or_concat l with rfl | ⟨l, d, rfl⟩
  · decide
  · rw [List.concat_eq_append, rest97_snoc]; omega
theorem rest97_from (l : List Nat) : ∀ {n m : Nat}, n < 97 → m < 97 → l.foldl (fun n d => (n * 10 + d) % 97) n = l.foldl (fun n d => (n * 10 + d) % 97) m → n = m := by
  induction l with
  | nil => intro n m _ _ h; exact h
  | cons d l ih =>
    intro n m hn hm h
    have := ih (Nat.mod_lt _ (by omega)) (Nat.mod_lt _ (by omega)) h
    omega
theorem rest97_tail {a b q : List Nat} (h : rest97 (a ++ q) = rest97 (b ++ q)) : rest97 a = rest97 b := by
  unfold rest97 at h
  rw [List.foldl_append, List.foldl_append] at h
  exact rest97_from q (rest97_lt a) (rest97_lt b) h
/-- One wrong digit turns the rest. -/
theorem rest97_slip {p q : List Nat} {x d : Nat} (hx : x ≤ 9) (hd : d ≤ 9) (h : rest97 (p ++ x :: q) = rest97 (p ++ d :: q)) : x = d := by
  have h1 : rest97 ((p ++ [x]) ++ q) = rest97 ((p ++ [d]) ++ q) := by simpa using h
  have h2 := rest97_tail h1
  rw [rest97_snoc, rest97_snoc] at h2
  omega
/-- So do two neighbours that change places. -/
theorem rest97_swap1 {p q : List Nat} {x y : Nat} (hx : x ≤ 9) (hy : y ≤ 9) (h : rest97 (p ++ x :: y :: q) = rest97 (p ++ y :: x :: q)) : x = y := by
  have h1 : rest97 (((p ++ [x]) ++ [y]) ++ q) = rest97 (((p ++ [y]) ++ [x]) ++ q) := by simpa using h
  have h2 := rest97_tail h1
  simp only [rest97_snoc] at h2
  omega
theorem rest97_swap2 {p q : List Nat} {x m y : Nat} (hx : x ≤ 9) (hy : y ≤ 9) (h : rest97 (p ++ x :: m :: y :: q) = rest97 (p ++ y :: m :: x :: q)) : x = y := by
  have h1 : rest97 ((((p ++ [x]) ++ [m]) ++ [y]) ++ q) = rest97 ((((p ++ [y]) ++ [m]) ++ [x]) ++ q) := by simpa using h
  have h2 := rest97_tail h1
  simp only [rest97_snoc] at h2
  omega
/-- k noughts more. -/
def p10 : Nat → Nat → Nat
  | 0, a => a
  | k + 1, a => p10 k a * 10 % 97
theorem p10_lt {k a : Nat} (h : a < 97) : p10 k a < 97 := by
  cases k with
  | zero => exact h
  | succ k => exact Nat.mod_lt _ (by omega)
theorem rest97_append (a : List Nat) : ∀ k (b : List Nat), b.length = k → rest97 (a ++ b) = (p10 k (rest97 a) + rest97 b) % 97
  | 0, b, h => by
    have hb := List.eq_nil_of_length_eq_zero h
    subst hb
    have := rest97_lt a
    simp [p10, rest97] at *
    omega
  | k + 1, b, h => by
    rcases List.eq_nil_or_concat b with rfl | ⟨b, d, rfl⟩
    · simp at h
    · rw [List.concat_eq_append] at *
      have ih := rest97_append a k b (by simp at h; exact h)
      rw [← List.append_assoc, rest97_snoc, rest97_snoc, ih, p10]
      omega
theorem take_snoc {l : List Nat} {k : Nat} (h : k < l.length) : l.take (k + 1) = l.take k ++ [l[k]] := by
  rw [List.take_succ_eq_append_getElem h]


end Go.Proofs.YtopnlkhepjbjkaaDoor
namespace Go.Proofs.YtopnlkhepjbjkaaDoor
open Go.RowKit

theorem flat_get {s : Nat} : ∀ (rows : List (List Value)), (∀ r ∈ rows, r.length = s) → ∀ (i : Nat) (hi : i < rows.length) (j : Nat), j < s → rows.flatten[i * s + j]? = rows[i][j]?
  | [], _, i, hi, _, _ => by simp at hi
  | r :: rows, h, 0, _, j, hj => by
    have := h r (by simp)
    simp only [List.flatten_cons, Nat.zero_mul, Nat.zero_add, List.getElem_cons_zero]
    exact List.getElem?_append_left (by omega)
  | r :: rows, h, i + 1, hi, j, hj => by
    have h1 := h r (by simp)
    have := flat_get rows (fun r hr => h r (by simp [hr])) i (by simpa using hi) j hj
    simp only [List.flatten_cons, List.getElem_cons_succ]
    rw [← this, List.getElem?_append_right (by rw [h1, Nat.succ_mul]; omega), h1]
    congr 1
    rw [Nat.succ_mul]; omega

section
variable {P : Program} {w : World}
/-- A slice that came in: its elements are rows of integers of these kinds. -/
def IsRows (w : World) (v : Value) (ks : List IntKind) (n : Nat) (f : Nat → Nat → Int) : Prop :=
  ∃ (A : Option Addr) (c : Nat), v = .slice A n c ∧ n ≤ c ∧ c ≤ maxLen ∧ (∀ i, i < n → ∀ (j : Nat) (k : IntKind), ks[j]? = some k → (Lit.int k (f i j)).wf = true) ∧
    (0 < n → ∃ b off, A = some ⟨b, off, none⟩ ∧ b < w.heap.size ∧ ∀ i, i < n → ∀ (j : Nat) (k : IntKind), ks[j]? = some k → w.cell? ⟨b, off + (i * ks.length + j), none⟩ = some (.int k (f i j)))
theorem intsOf_len : ∀ (ks : List IntKind) (ns : List Int), ns.length = ks.length → (intsOf ks ns).length = ks.length := by
  intro ks ns h; simp [intsOf, h]
theorem intsOf_get {ks : List IntKind} {ns : List Int} (h : ns.length = ks.length) {j : Nat} {k : IntKind} (hk : ks[j]? = some k) : (intsOf ks ns)[j]? = some (.int k (ns.getD j 0)) := by
  obtain ⟨hj, he⟩ := List.getElem?_eq_some_iff.1 hk
  subst he
  simp [intsOf, hj, h]
theorem Fit.rows {t e : TypeId} {v : Value} {ks : List IntKind} (h : Fit P w t v) (hu : P.underlying t = some (.slice e)) (hs : P.cellsOf e = ks.length) (hs0 : 0 < ks.length) (hl : leafInts P e = some ks) :
    ∃ (n : Nat) (f : Nat → Nat → Int), IsRows w v ks n f := by
  obtain ⟨A, n, c, rfl, hc⟩ := h.slice hu
  obtain ⟨hn, hm, rows, hr, hw, hrd⟩ := hc.slice_ints hu hs hs0 hl
  refine ⟨n, fun i j => (rows.getD i []).getD j 0, A, c, rfl, hn, hm, fun i hi j k hk => ?_, fun h0 => ?_⟩
  · have hi' : i < rows.length := by omega
    have := hw rows[i] (List.getElem_mem hi')
    obtain ⟨hj, _⟩ := List.getElem?_eq_some_iff.1 hk
    refine this.2 j k _ hk ?_
    have hjl : j < rows[i].length := by rw [this.1]; exact hj
    simp [hi', hjl]
  · obtain ⟨b, off, rfl, hB, hcell⟩ := hrd.at_ h0
    refine ⟨b, off, rfl, hB, fun i hi j k hk => hcell _ _ ?_⟩
    have hi' : i < rows.length := by omega
    obtain ⟨hj, _⟩ := List.getElem?_eq_some_iff.1 hk
    have h1 := flat_get (rows.map (intsOf ks)) (s := ks.length) (fun r hr => by
      obtain ⟨x, hx, rfl⟩ := List.mem_map.1 hr
      exact intsOf_len _ _ (hw x hx).1) i (by simpa using hi') j hj
    rw [h1, List.getElem_map, intsOf_get (hw _ (List.getElem_mem hi')).1 hk]
    simp [hi']
theorem IsRows.below {w w' : World} {v : Value} {ks : List IntKind} {n : Nat} {f : Nat → Nat → Int} (h : IsRows w v ks n f) (hb : Below w.heap.size w w') : IsRows w' v ks n f := by
  obtain ⟨A, c, h1, h2, h3, h4, h5⟩ := h
  refine ⟨A, c, h1, h2, h3, h4, fun h0 => ?_⟩
  obtain ⟨b, off, e, hB, hc⟩ := h5 h0
  exact ⟨b, off, e, Nat.lt_of_lt_of_le hB hb.size, fun i hi j k hk => (hb.cell (p := ⟨b, _, none⟩) hB).trans (hc i hi j k hk)⟩
end
end Go.Proofs.YtopnlkhepjbjkaaDoor
namespace Go.Proofs.YtopnlkhepjbjkaaDoor
open Go.RowKit
set_option linter.unusedVariables false
section
variable {P : Program} {w : World}
theorem CFit.slice_val {t e : TypeId} {v : Value} (h : CFit P w t [v]) (hu : P.underlying t = some (.slice e)) : ∃ A n c, v = .slice A n c := by
  obtain ⟨H, enc, fu, y, hy⟩ := h
  rcases DataW.trod_slice hu hy with ⟨h0, _⟩ | ⟨a, len, cap, elems, rest, m, _, h1, _⟩
  · simp only [List.cons.injEq, and_true] at h0; exact ⟨_, _, _, h0⟩
  · simp only [List.cons.injEq, and_true] at h1; exact ⟨_, _, _, h1⟩
theorem CFit.rows {t e : TypeId} {v : Value} {ks : List IntKind} (h : CFit P w t [v]) (hu : P.underlying t = some (.slice e)) (hs : P.cellsOf e = ks.length) (hs0 : 0 < ks.length) (hl : leafInts P e = some ks) :
    ∃ (n : Nat) (f : Nat → Nat → Int), IsRows w v ks n f := by
  obtain ⟨A, n, c, rfl⟩ := h.slice_val hu
  obtain ⟨hn, hm, rows, hr, hw, hrd⟩ := h.slice_ints hu hs hs0 hl
  refine ⟨n, fun i j => (rows.getD i []).getD j 0, A, c, rfl, hn, hm, fun i hi j k hk => ?_, fun h0 => ?_⟩
  · have hi' : i < rows.length := by omega
    have := hw rows[i] (List.getElem_mem hi')
    obtain ⟨hj, _⟩ := List.getElem?_eq_some_iff.1 hk
    refine this.2 j k _ hk ?_
    have hjl : j < rows[i].length := by rw [this.1]; exact hj
    simp [hi', hjl]
  · obtain ⟨b, off, rfl, hB, hcell⟩ := hrd.at_ h0
    refine ⟨b, off, rfl, hB, fun i hi j k hk => hcell _ _ ?_⟩
    have hi' : i < rows.length := by omega
    obtain ⟨hj, _⟩ := List.getElem?_eq_some_iff.1 hk
    have h1 := flat_get (rows.map (intsOf ks)) (s := ks.length) (fun r hr => by
      obtain ⟨x, hx, rfl⟩ := List.mem_map.1 hr
      exact intsOf_len _ _ (hw x hx).1) i (by simpa using hi') j hj
    rw [h1, List.getElem_map, intsOf_get (hw _ (List.getElem_mem hi')).1 hk]
    simp [hi']
end
theorem IsRows.val {w : World} {v : Value} {ks : List IntKind} {n : Nat} {f : Nat → Nat → Int} (h : IsRows w v ks n f) : ∃ A c, v = .slice A n c := by
  obtain ⟨A, c, e, _⟩ := h; exact ⟨A, c, e⟩
end Go.Proofs.YtopnlkhepjbjkaaDoor
namespace Go.Proofs.YtopnlkhepjbjkaaDoor
open Go.RowKit
set_option linter.unusedVariables false
/-- A slice of strings. -/
def IsTexts (w : World) (v : Value) (L : List ByteArray) : Prop := ∃ (A : Option Addr) (c : Nat), v = .slice A L.length c ∧ L.length ≤ maxLen ∧ Rd w w.heap.size 1 A L.length (L.map Value.string)
theorem IsTexts.below {w w' : World} {v : Value} {L : List ByteArray} (h : IsTexts w v L) (hb : Below w.heap.size w w') : IsTexts w' v L := by
  obtain ⟨A, c, h1, h2, h3⟩ := h
  exact ⟨A, c, h1, h2, (h3.below hb).more hb.size⟩
theorem texts_fit {v : Value} {w : World} (h : Fit Tryd.prog w 22 v) : ∃ L, IsTexts w v L := by
  obtain ⟨A, n, c, rfl, hc⟩ := h.slice Tryd.underlying22
  obtain ⟨h1, h2, rows, h3, h4, h5⟩ := hc.slice Tryd.underlying22 (s := 1) (by kernel_rfl) (by decide)
  have key : ∀ rows : List (List Value), (∀ r ∈ rows, r.length = 1 ∧ CFit Tryd.prog w 9 r) → ∃ L : List ByteArray, L.length = rows.length ∧ rows.flatten = L.map Value.string := by
    intro rows
    induction rows with
    | nil => intro _; exact ⟨[], rfl, rfl⟩
    | cons r rows ih =>
      intro hr
      obtain ⟨L, hl, he⟩ := ih fun x hx => hr x (by simp [hx])
      obtain ⟨s, rfl, _⟩ := (hr r (by simp)).2.string Tryd.underlying9
      exact ⟨s :: L, by simp [hl], by simp [he]⟩
  obtain ⟨L, hl, he⟩ := key rows h4
  have hn : L.length = n := by omega
  subst hn
  exact ⟨L, A, c, rfl, by omega, by rw [← he]; exact h5⟩
end Go.Proofs.YtopnlkhepjbjkaaDoor
namespace Go.Proofs.YtopnlkhepjbjkaaDoor
open Go.RowKit
set_option linter.unusedVariables false
/-- Stores into the block b, one behind the other. -/
def sets (w : World) (b : Nat) (ps : List (Nat × Value)) : World := ps.foldl (fun W p => W.setCell ⟨b, p.1, none⟩ p.2) w
theorem own_sets {base b : Nat} {e : TypeId} {size : Nat} {v : Value} {n : Nat} {xs : List Value} (hb : b < base) : ∀ (ps : List (Nat × Value)) {w : World}, w.ownsRow base e size v n xs → (sets w b ps).ownsRow base e size v n xs
  | [], _, h => h
  | p :: ps, w, h => own_sets hb ps (own_far (p := ⟨b, p.1, none⟩) h hb p.2)
theorem below_sets {B b : Nat} {w0 : World} (hb : B ≤ b) : ∀ (ps : List (Nat × Value)) {w : World}, Below B w0 w → Below B w0 (sets w b ps)
  | [], _, h => h
  | p :: ps, w, h => below_sets hb ps (h.setCell (p := ⟨b, p.1, none⟩) hb p.2)
theorem Blk.sets {g : Nat} {t : TypeId} : ∀ (ps : List (Nat × Value)) {w : World} {cs : Array Value}, Blk w g t cs → Blk (sets w g ps) g t (ps.foldl (fun cs p => cs.setIfInBounds p.1 p.2) cs)
  | [], _, _, h => h
  | p :: ps, w, cs, h => Blk.sets ps (h.set_ p.1 p.2)
theorem Blk.sets_far {g b : Nat} {t : TypeId} {cs : Array Value} (hb : g ≠ b) : ∀ (ps : List (Nat × Value)) {w : World}, Blk w g t cs → Blk (Proofs.YtopnlkhepjbjkaaDoor.sets w b ps) g t cs
  | [], _, h => h
  | p :: ps, w, h => Blk.sets_far hb ps (h.far (p := ⟨b, p.1, none⟩) hb p.2)
theorem size_sets {b : Nat} : ∀ (ps : List (Nat × Value)) (w : World), (Proofs.YtopnlkhepjbjkaaDoor.sets w b ps).heap.size = w.heap.size
  | [], _ => rfl
  | p :: ps, w => (size_sets ps _).trans (by simp)
end Go.Proofs.YtopnlkhepjbjkaaDoor
namespace Go.Proofs.YtopnlkhepjbjkaaDoor
open Go.RowKit
set_option linter.unusedVariables false
section
variable {w0 w w' Wd W0 we : World} {G : List Nat} {l l' L L' : List Chunk}
theorem Mem.perm (h : l.Perm l') (H : Mem w0 G w l) : Mem w0 G w l' :=
  ⟨H.keep, fun c hc => H.ok c (h.mem_iff.2 hc), h.pairwise H.pair (fun h => Chunk.apart.symm h), fun c hc => H.own c (h.mem_iff.2 hc)⟩
theorem grownBy_sets {b : Nat} : ∀ (ps : List (Nat × Value)) (w : World), w.grownBy (sets w b ps) (some b)
  | [], w => ⟨rfl, rfl, rfl, Nat.le_refl _, fun _ _ _ => rfl⟩
  | p :: ps, w => by
    have h := grownBy_sets (b := b) ps (w.setCell ⟨b, p.1, none⟩ p.2)
    have g := grown_setCell w ⟨b, p.1, none⟩ p.2
    exact ⟨h.os.trans g.os, h.tape.trans g.tape, h.output.trans g.output, Nat.le_trans g.size h.size, fun k hk hn => (h.block k (Nat.lt_of_lt_of_le hk g.size) hn).trans (g.block k hk hn)⟩
theorem Mem.sets {j v : Nat} {t : TypeId} {cs : Array Value} (H : Mem w0 G w l) (hj : l[j]? = some (.blk v t cs)) (ps : List (Nat × Value)) :
    Mem w0 G (Proofs.YtopnlkhepjbjkaaDoor.sets w v ps) (l.set j (.blk v t (ps.foldl (fun cs p => cs.setIfInBounds p.1 p.2) cs))) :=
  H.turn hj (c' := .blk v t _) (grownBy_sets ps w) (Blk.sets ps (H.blk j hj)) (fun k hk => .inl hk)
/-- A store into a block none of whose cells could be the row's. -/
theorem rd_set {B s n : Nat} {A : Option Addr} {xs : List Value} {g : Nat} {t : TypeId} {cs : Array Value} (h : Rd w B s A n xs) (hb : Blk w g t cs) (h0 : 0 < n * s) (hne : ∀ (i : Nat) (u : Value), cs[i]? = some u → ∀ j : Nat, xs[j]? ≠ some u) (o : Nat) (v : Value) : Rd (w.setCell ⟨g, o, none⟩ v) B s A n xs := by
  refine ⟨h.1, fun hn => ?_⟩
  obtain ⟨b, off, e, hB, hc⟩ := h.2 hn
  have hl := h.1
  have hbg : g ≠ b := by
    intro hh
    subst hh
    have hx : xs[0]? = some xs[0] := List.getElem?_eq_getElem (by omega)
    have h1 := hc 0 _ hx
    rw [hb.cell] at h1
    exact hne _ _ h1 0 hx
  exact ⟨b, off, e, hB, fun j u hu => (World.cell?_setCell_far w _ _ v (show g ≠ b from hbg)).trans (hc j u hu)⟩
variable {g g1 g2 : Nat} {t t1 t2 : TypeId} {z c z1 c1 z2 c2 : Array Value}
/-- One variable, which came up behind the call. -/
theorem cr1_a (H : Mem w G Wd L) (V : Mem Wd [] W0 []) (K : Mem W0 [] we L') : Mem w G (we.alloc (.cells c t)) (L ++ (.blk we.heap.size t c :: L')) := by
  have h := (((H.join V).join K).alloc we.heap.size rfl c t)
  rw [List.append_nil] at h
  refine Mem.perm ?_ h
  rw [List.append_assoc]
  exact List.Perm.append_left _ List.perm_append_comm
/-- One variable, which stood there at the call. -/
theorem cr1_b (H : Mem w G Wd L) (V : Mem Wd [] W0 [.blk g t z]) (K : Mem W0 [] we L') (ps : List (Nat × Value)) (hc : ps.foldl (fun cs p => cs.setIfInBounds p.1 p.2) z = c) : Mem w G (Proofs.YtopnlkhepjbjkaaDoor.sets we g ps) (L ++ (.blk g t c :: L')) := by
  have h := Mem.sets (j := L.length) (v := g) (t := t) (cs := z) ((H.join V).join K) (by simp) ps
  rw [hc] at h
  simpa using h
/-- Two variables, which came up behind the call. -/
theorem cr2_a (H : Mem w G Wd L) (V : Mem Wd [] W0 []) (K : Mem W0 [] we L') : Mem w G ((we.alloc (.cells c1 t1)).alloc (.cells c2 t2)) (L ++ (.blk we.heap.size t1 c1 :: .blk (we.heap.size + 1) t2 c2 :: L')) := by
  have h := ((((H.join V).join K).alloc we.heap.size rfl c1 t1).alloc (we.heap.size + 1) (by simp) c2 t2)
  rw [List.append_nil] at h
  refine Mem.perm ?_ h
  rw [List.append_assoc, List.append_assoc]
  refine List.Perm.append_left _ (List.perm_append_comm.trans ?_)
  exact List.Perm.refl _
theorem cr2_b (H : Mem w G Wd L) (V : Mem Wd [] W0 []) (K : Mem W0 [] we L') : Mem w G ((we.alloc (.cells c2 t2)).alloc (.cells c1 t1)) (L ++ (.blk (we.heap.size + 1) t1 c1 :: .blk we.heap.size t2 c2 :: L')) :=
  Mem.perm (List.Perm.append_left _ (List.Perm.swap _ _ _)) (cr2_a H V K)
theorem cr2_c (H : Mem w G Wd L) (V : Mem Wd [] W0 [.blk g1 t1 z1]) (K : Mem W0 [] we L') (ps : List (Nat × Value)) (hc : ps.foldl (fun cs p => cs.setIfInBounds p.1 p.2) z1 = c1) : Mem w G ((Proofs.YtopnlkhepjbjkaaDoor.sets we g1 ps).alloc (.cells c2 t2)) (L ++ (.blk g1 t1 c1 :: .blk we.heap.size t2 c2 :: L')) := by
  have h := (cr1_b H V K ps hc).alloc we.heap.size (size_sets ps we) c2 t2
  refine Mem.perm ?_ h
  rw [List.append_assoc]
  refine List.Perm.append_left _ ?_
  rw [List.cons_append]
  exact List.Perm.cons _ List.perm_append_comm
theorem cr2_d (H : Mem w G Wd L) (V : Mem Wd [] W0 [.blk g2 t2 z2]) (K : Mem W0 [] we L') (ps : List (Nat × Value)) (hc : ps.foldl (fun cs p => cs.setIfInBounds p.1 p.2) z2 = c2) : Mem w G ((Proofs.YtopnlkhepjbjkaaDoor.sets we g2 ps).alloc (.cells c1 t1)) (L ++ (.blk we.heap.size t1 c1 :: .blk g2 t2 c2 :: L')) :=
  Mem.perm (List.Perm.append_left _ (List.Perm.swap _ _ _)) (cr2_c H V K ps hc)
theorem cr2_e (H : Mem w G Wd L) (V : Mem Wd [] W0 [.blk g1 t1 z1, .blk g2 t2 z2]) (K : Mem W0 [] we L') (ps qs : List (Nat × Value)) (hc : ps.foldl (fun cs p => cs.setIfInBounds p.1 p.2) z1 = c1) (hd : qs.foldl (fun cs p => cs.setIfInBounds p.1 p.2) z2 = c2) : Mem w G (Proofs.YtopnlkhepjbjkaaDoor.sets (Proofs.YtopnlkhepjbjkaaDoor.sets we g1 ps) g2 qs) (L ++ (.blk g1 t1 c1 :: .blk g2 t2 c2 :: L')) := by
  have h := Mem.sets (j := L.length + 1) (v := g2) (t := t2) (cs := z2) (Mem.sets (j := L.length) (v := g1) (t := t1) (cs := z1) ((H.join V).join K) (by simp) ps) (by simp) qs
  rw [hc, hd] at h
  simpa using h
theorem cr2_f (H : Mem w G Wd L) (V : Mem Wd [] W0 [.blk g1 t1 z1, .blk g2 t2 z2]) (K : Mem W0 [] we L') (ps qs : List (Nat × Value)) (hc : ps.foldl (fun cs p => cs.setIfInBounds p.1 p.2) z1 = c1) (hd : qs.foldl (fun cs p => cs.setIfInBounds p.1 p.2) z2 = c2) : Mem w G (Proofs.YtopnlkhepjbjkaaDoor.sets (Proofs.YtopnlkhepjbjkaaDoor.sets we g2 qs) g1 ps) (L ++ (.blk g1 t1 c1 :: .blk g2 t2 c2 :: L')) := by
  have h := Mem.sets (j := L.length) (v := g1) (t := t1) (cs := z1) (Mem.sets (j := L.length + 1) (v := g2) (t := t2) (cs := z2) ((H.join V).join K) (by simp) qs) (by simp) ps
  rw [hc, hd] at h
  simpa using h
end
/-- A slice of words behind a store into a block that holds no word. -/
theorem isws_set {w : World} {v : Value} {xs : List Nat} {g : Nat} {t : TypeId} {cs : Array Value} (h : IsWs w v xs) (hb : Blk w g t cs) (h0 : 0 < xs.length) (hne : ∀ (i : Nat) (u : Value), cs[i]? = some u → ∀ z : Int, u ≠ .int .u32 z) (o : Nat) (y : Value) : IsWs (w.setCell ⟨g, o, none⟩ y) v xs := by
  obtain ⟨A, c, e, h1, h2, h3, h4⟩ := h
  refine ⟨A, c, e, h1, h2, h3, ?_⟩
  have := rd_set h4 hb (by omega) (fun i u hu j hj => ?_) o y
  · simpa using this
  · have hj' : u ∈ ws xs := List.mem_of_getElem? hj
    obtain ⟨x, _, hx⟩ := List.mem_map.1 hj'
    exact hne i u hu _ hx.symm
end Go.Proofs.YtopnlkhepjbjkaaDoor

/- What lies in memory while a function runs, in one fact: the blocks that are known whole and the rows of the call's own, no two at one place; all else that was there when the call began is as it was, but for the blocks named in G. -/
import Derived.Test.YtfcgpgfghidajaaOwn
import Derived.Laws.OwnMore
import Derived.Lib.OthersKept
namespace Go.Proofs.Ytfcgpgfghidajaa
open Go.RowKit
set_option linter.unusedVariables false
inductive Chunk where
  | blk (g : Nat) (t : TypeId) (cs : Array Value)
  | row (base : Nat) (e : TypeId) (size : Nat) (v : Value) (n : Nat) (xs : List Value)
  | obj (g : Nat) (o : Obj)
def Chunk.num : Chunk → Option Nat
  | .blk g _ _ => some g
  | .row _ _ _ v _ _ => v.ownBlock
  | .obj g _ => some g
def Chunk.ok (w : World) : Chunk → Prop
  | .blk g t cs => Blk w g t cs
  | .row base e size v n xs => w.ownsRow base e size v n xs
  | .obj g o => w.heap[g]? = some o
def Chunk.apart (c d : Chunk) : Prop := ∀ k, c.num = some k → d.num ≠ some k
theorem Chunk.apart.symm {c d : Chunk} (h : c.apart d) : d.apart c := fun k hk hc => h k hc hk
theorem Chunk.lt {w : World} {c : Chunk} (h : c.ok w) : ∀ k, c.num = some k → k < w.heap.size := by
  intro k hk
  cases c with
  | blk g t cs => obtain rfl : g = k := by simpa [Chunk.num] using hk
                  exact Blk.lt h
  | row base e size v n xs => exact (World.ownsRow.lt h k hk).2
  | obj g o => obtain rfl : g = k := by simpa [Chunk.num] using hk
               exact (Array.getElem?_eq_some_iff.1 (show w.heap[g]? = some o from h)).1
theorem Chunk.kept {w w' : World} {c : Chunk} {row : Option Nat} (h : c.ok w) (hg : w.grownBy w' row) (hne : c.num = none ∨ c.num ≠ row) : c.ok w' := by
  cases c with
  | blk g t cs => exact (hg.block g (Blk.lt h) (by simpa [Chunk.num] using hne)).trans h
  | row base e size v n xs => exact World.ownsRow.kept h hg hne
  | obj g o =>
    have hlt : g < w.heap.size := (Array.getElem?_eq_some_iff.1 (show w.heap[g]? = some o from h)).1
    exact (hg.block g hlt (by simpa [Chunk.num] using hne)).trans h
/-- What was there when the call began is as it was, but for the blocks in G. -/
structure Keep (w0 : World) (G : List Nat) (w : World) : Prop where
  os : w.os = w0.os
  tape : w.tape = w0.tape
  output : w.output = w0.output
  size : w0.heap.size ≤ w.heap.size
  block : ∀ k, k < w0.heap.size → k ∉ G → w.heap[k]? = w0.heap[k]?
theorem Keep.below {w0 w : World} (h : Keep w0 [] w) : Below w0.heap.size w0 w := ⟨h.os, h.tape, h.output, h.size, fun k hk => h.block k hk (by simp)⟩
theorem Keep.grown {w0 w : World} {g : Nat} (h : Keep w0 [g] w) : w0.grownBy w (some g) := ⟨h.os, h.tape, h.output, h.size, fun k hk hn => h.block k hk (by simp; intro e; exact hn (by rw [e]))⟩
theorem grown_of_below {w w' : World} (hb : Below w.heap.size w w') : w.grownBy w' none := ⟨hb.os, hb.tape, hb.output, hb.size, fun k hk _ => hb.block k hk⟩
theorem grown_setCell (w : World) (p : Addr) (v : Value) : w.grownBy (w.setCell p v) (some p.block) := ⟨rfl, rfl, rfl, by simp, fun k _ hk => heap_setCell_other w p k v (fun e => hk (by simp [e]))⟩
structure Mem (w0 : World) (G : List Nat) (w : World) (l : List Chunk) : Prop where
  keep : Keep w0 G w
  ok : ∀ c ∈ l, c.ok w
  pair : l.Pairwise Chunk.apart
  own : ∀ c ∈ l, ∀ k, c.num = some k → w0.heap.size ≤ k ∨ k ∈ G
section
variable {w0 w w' : World} {G : List Nat} {l : List Chunk} {c c' : Chunk}
theorem Mem.init (w : World) : Mem w [] w [] := ⟨⟨rfl, rfl, rfl, Nat.le_refl _, fun _ _ _ => rfl⟩, by simp, by simp, by simp⟩
theorem Mem.init1 {g : Nat} {t : TypeId} {cs : Array Value} (h : Blk w g t cs) : Mem w [g] w [.blk g t cs] :=
  ⟨⟨rfl, rfl, rfl, Nat.le_refl _, fun _ _ _ => rfl⟩, fun c hc => (List.mem_singleton.1 hc) ▸ h, by simp, by simp [Chunk.num]⟩
theorem Mem.keeps {row : Option Nat} (H : Mem w0 G w l) (hg : w.grownBy w' row) (hr : ∀ k, row = some k → w0.heap.size ≤ k ∨ k ∈ G) : Keep w0 G w' :=
  ⟨hg.os.trans H.keep.os, hg.tape.trans H.keep.tape, hg.output.trans H.keep.output, Nat.le_trans H.keep.size hg.size, fun k hk hG =>
    (hg.block k (Nat.lt_of_lt_of_le hk H.keep.size) (fun e => by rcases hr k e.symm with h | h; omega; exact hG h)).trans (H.keep.block k hk hG)⟩
theorem pair_get {R : Chunk → Chunk → Prop} (hs : ∀ {a b}, R a b → R b a) : ∀ {l : List Chunk} {i j : Nat} {a b : Chunk}, l.Pairwise R → l[i]? = some a → l[j]? = some b → i ≠ j → R a b
  | [], i, j, a, b, _, h, _, _ => by simp at h
  | x :: t, 0, 0, a, b, _, _, _, hn => absurd rfl hn
  | x :: t, 0, j + 1, a, b, hp, ha, hb, _ => by
    rw [List.pairwise_cons] at hp
    obtain rfl : x = a := by simpa using ha
    exact hp.1 b (List.mem_of_getElem? (by simpa using hb))
  | x :: t, i + 1, 0, a, b, hp, ha, hb, _ => by
    rw [List.pairwise_cons] at hp
    obtain rfl : x = b := by simpa using hb
    exact hs (hp.1 a (List.mem_of_getElem? (by simpa using ha)))
  | x :: t, i + 1, j + 1, a, b, hp, ha, hb, hn => by
    rw [List.pairwise_cons] at hp
    exact pair_get hs hp.2 (by simpa using ha) (by simpa using hb) (by omega)
theorem pair_set {R : Chunk → Chunk → Prop} (hs : ∀ {a b}, R a b → R b a) : ∀ {l : List Chunk} {i : Nat} {c' : Chunk}, l.Pairwise R → (∀ j d, l[j]? = some d → j ≠ i → R c' d) → (l.set i c').Pairwise R
  | [], i, c', _, _ => by simp
  | x :: t, 0, c', hp, h => by
    rw [List.pairwise_cons] at hp
    rw [List.set_cons_zero, List.pairwise_cons]
    refine ⟨fun d hd => ?_, hp.2⟩
    obtain ⟨j, hj⟩ := List.getElem?_of_mem hd
    exact h (j + 1) d (by simpa using hj) (by omega)
  | x :: t, i + 1, c', hp, h => by
    rw [List.pairwise_cons] at hp
    rw [List.set_cons_succ, List.pairwise_cons]
    refine ⟨fun d hd => ?_, pair_set hs hp.2 (fun j d hj hn => h (j + 1) d (by simpa using hj) (by omega))⟩
    rcases List.mem_or_eq_of_mem_set hd with hm | rfl
    · exact hp.1 d hm
    · exact hs (h 0 x (by simp) (by omega))
/-- One chunk has turned into another (at its own place or at a new one). -/
theorem Mem.turn {i : Nat} (H : Mem w0 G w l) (hi : l[i]? = some c) (hg : w.grownBy w' c.num) (hok : c'.ok w') (hn : ∀ k, c'.num = some k → c.num = some k ∨ w.heap.size ≤ k) : Mem w0 G w' (l.set i c') := by
  have hc := List.mem_of_getElem? hi
  have hap : ∀ j d, l[j]? = some d → j ≠ i → c'.apart d := fun j d hj hne k hk hd => by
    have hdl := Chunk.lt (H.ok d (List.mem_of_getElem? hj)) k hd
    rcases hn k hk with h | h
    · exact pair_get Chunk.apart.symm H.pair hi hj (Ne.symm hne) k h hd
    · omega
  refine ⟨H.keeps hg (fun k hk => H.own c hc k hk), fun d hd => ?_, pair_set Chunk.apart.symm H.pair hap, fun d hd k hk => ?_⟩
  · obtain ⟨j, hj⟩ := List.getElem?_of_mem hd
    rw [List.getElem?_set] at hj
    split at hj
    · split at hj
      · obtain rfl : c' = d := by simpa using hj
        exact hok
      · simp at hj
    · rename_i hne
      have hdm := List.mem_of_getElem? hj
      refine Chunk.kept (H.ok d hdm) hg ?_
      cases hdn : d.num with
      | none => exact .inl rfl
      | some k => exact .inr fun e => pair_get Chunk.apart.symm H.pair hi hj hne k e.symm hdn
  · rcases List.mem_or_eq_of_mem_set hd with hm | rfl
    · exact H.own d hm k hk
    · rcases hn k hk with h | h
      · exact H.own c hc k h
      · exact .inl (Nat.le_trans H.keep.size h)
/-- A new chunk has come up. -/
theorem Mem.more (H : Mem w0 G w l) (hg : w.grownBy w' none) (hok : c'.ok w') (hn : ∀ k, c'.num = some k → w.heap.size ≤ k) : Mem w0 G w' (l ++ [c']) := by
  refine ⟨H.keeps hg (by simp), fun d hd => ?_, ?_, fun d hd k hk => ?_⟩
  · rcases List.mem_append.1 hd with h | h
    · exact Chunk.kept (H.ok d h) hg (by cases d.num <;> simp)
    · obtain rfl : d = c' := by simpa using h
      exact hok
  · rw [List.pairwise_append]
    refine ⟨H.pair, by simp, fun a ha b hb k hk hk' => ?_⟩
    obtain rfl : b = c' := by simpa using hb
    have := Chunk.lt (H.ok a ha) k hk
    have := hn k hk'
    omega
  · rcases List.mem_append.1 hd with h | h
    · exact H.own d h k hk
    · obtain rfl : d = c' := by simpa using h
      exact .inl (Nat.le_trans H.keep.size (hn k hk))
theorem Mem.call (H : Mem w0 G w l) (hb : Below w.heap.size w w') : Mem w0 G w' l :=
  ⟨H.keeps (grown_of_below hb) (by simp), fun c hc => Chunk.kept (H.ok c hc) (grown_of_below hb) (by cases c.num <;> simp), H.pair, H.own⟩
theorem Mem.drewN (H : Mem w0 G w l) (n : Nat) : Mem w0 G (w.drewN n) l :=
  ⟨⟨H.keep.os, H.keep.tape, H.keep.output, H.keep.size, H.keep.block⟩, fun c hc => by
    have := H.ok c hc
    cases c with
    | blk g t cs => exact this
    | row base e size v n xs => exact this
    | obj g o => exact this, H.pair, H.own⟩
theorem Mem.drew (H : Mem w0 G w l) : Mem w0 G w.drew l := H.drewN 1
theorem Mem.alloc (H : Mem w0 G w l) (g : Nat) (hg : w.heap.size = g) (cs : Array Value) (t : TypeId) : Mem w0 G (w.alloc (.cells cs t)) (l ++ [.blk g t cs]) := by
  subst hg
  exact H.more (World.grownBy_alloc w _ none) (Blk.new w t cs) (by simp [Chunk.num])
theorem Mem.set {g : Nat} {t : TypeId} {cs : Array Value} (i : Nat) (H : Mem w0 G w l) (hi : l[i]? = some (.blk g t cs)) (o : Nat) (v : Value) : Mem w0 G (w.setCell ⟨g, o, none⟩ v) (l.set i (.blk g t (cs.setIfInBounds o v))) :=
  H.turn hi (grown_setCell w ⟨g, o, none⟩ v) (Blk.set_ (H.ok _ (List.mem_of_getElem? hi)) o v) (fun k hk => .inl hk)
theorem Mem.objNew (H : Mem w0 G w l) (g : Nat) (hg : w.heap.size = g) (o : Obj) : Mem w0 G (w.alloc o) (l ++ [.obj g o]) := by
  subst hg
  exact H.more (World.grownBy_alloc w _ none) (heap_alloc_new w o) (by simp [Chunk.num])
theorem Mem.iter (H : Mem w0 G w l) (g : Nat) (hg : w.heap.size = g) (s : ByteArray) : Mem w0 G (w.iter s 0) (l ++ [.obj g (.stringIter s 0)]) := H.objNew g hg (.stringIter s 0)
theorem grown_iterAt (w : World) (g : Nat) (s : ByteArray) (p : Nat) : w.grownBy (w.iterAt g s p) (some g) := ⟨rfl, rfl, rfl, by rw [Lib.iterAt_size]; exact Nat.le_refl _, fun k _ hk => Lib.iterAt_other w g k s p (fun e => hk (by simp [e]))⟩
/-- A text's iterator goes on. -/
theorem Mem.next {g : Nat} {s : ByteArray} {p : Nat} (i : Nat) (H : Mem w0 G w l) (hi : l[i]? = some (.obj g (.stringIter s p))) (p' : Nat) : Mem w0 G (w.iterAt g s p') (l.set i (.obj g (.stringIter s p'))) :=
  H.turn hi (c' := .obj g (.stringIter s p')) (grown_iterAt w g s p') (Lib.iterAt_heap w g s p p' (H.ok _ (List.mem_of_getElem? hi))) (fun k hk => .inl hk)
theorem Mem.obj_ {g : Nat} {o : Obj} (H : Mem w0 G w l) (i : Nat) (hi : l[i]? = some (.obj g o)) : w.heap[g]? = some o := H.ok _ (List.mem_of_getElem? hi)
/-- A callee has written into a block that it was handed. -/
theorem Mem.mod {g : Nat} {t : TypeId} {cs cs' : Array Value} (i : Nat) (H : Mem w0 G w l) (hi : l[i]? = some (.blk g t cs)) (hg : w.grownBy w' (some g)) (hok : Blk w' g t cs') : Mem w0 G w' (l.set i (.blk g t cs')) :=
  H.turn hi hg (c' := .blk g t cs') hok (fun k hk => .inl hk)
/-- A callee answers with a row of its own. -/
theorem Mem.row {base : Nat} {e : TypeId} {size : Nat} {v : Value} {n : Nat} {xs : List Value} (H : Mem w0 G w l) (hb : Below w.heap.size w w') (ho : w'.ownsRow base e size v n xs) (hB : w.heap.size ≤ base) : Mem w0 G w' (l ++ [.row base e size v n xs]) :=
  H.more (grown_of_below hb) (c' := .row base e size v n xs) ho (fun k hk => Nat.le_trans hB (World.ownsRow.lt ho k hk).1)
/-- The empty row. -/
theorem Mem.nilrow (H : Mem w0 G w l) (base : Nat) (e : TypeId) (size : Nat) : Mem w0 G w (l ++ [.row base e size (.slice none 0 0) 0 []]) :=
  H.more (c' := .row base e size (.slice none 0 0) 0 []) (w' := w) ⟨rfl, rfl, rfl, Nat.le_refl _, fun _ _ _ => rfl⟩ (World.ownsRow_nil w base e size) (by simp [Chunk.num, Value.ownBlock])
/-- A row has grown by append. -/
theorem Mem.push {base base' : Nat} {e : TypeId} {size : Nat} {v v' : Value} {n n' : Nat} {xs xs' : List Value} (i : Nat) (H : Mem w0 G w l) (hi : l[i]? = some (.row base e size v n xs)) (hg : w.grownBy w' v.ownBlock) (ho : w'.ownsRow base' e size v' n' xs')
    (hn : ∀ k, v'.ownBlock = some k → v.ownBlock = some k ∨ w.heap.size ≤ k) : Mem w0 G w' (l.set i (.row base' e size v' n' xs')) :=
  H.turn hi hg (c' := .row base' e size v' n' xs') ho hn
/-- What a callee has made comes to what there is. -/
theorem Mem.join {l' : List Chunk} (H : Mem w0 G w l) (K : Mem w [] w' l') : Mem w0 G w' (l ++ l') := by
  have hb := K.keep.below
  have hg := grown_of_below hb
  have hge : ∀ c ∈ l', ∀ k, c.num = some k → w.heap.size ≤ k := fun c hc k hk => by
    rcases K.own c hc k hk with h | h
    · exact h
    · simp at h
  refine ⟨H.keeps hg (by simp), fun d hd => ?_, ?_, fun d hd k hk => ?_⟩
  · rcases List.mem_append.1 hd with h | h
    · exact Chunk.kept (H.ok d h) hg (by cases d.num <;> simp)
    · exact K.ok d h
  · rw [List.pairwise_append]
    refine ⟨H.pair, K.pair, fun a ha b hb k hk hk' => ?_⟩
    have := Chunk.lt (H.ok a ha) k hk
    have := hge b hb k hk'
    omega
  · rcases List.mem_append.1 hd with h | h
    · exact H.own d h k hk
    · exact .inl (Nat.le_trans H.keep.size (hge d h k hk))
/-- A callee has turned the block g that it was handed, and has made more. -/
theorem Mem.joinAt {l' : List Chunk} {g : Nat} {t : TypeId} {cs cs' : Array Value} (i : Nat) (H : Mem w0 G w l) (hi : l[i]? = some (.blk g t cs)) (K : Mem w [g] w' (.blk g t cs' :: l')) : Mem w0 G w' (l.set i (.blk g t cs') ++ l') := by
  have hg := K.keep.grown
  have H1 := Mem.mod (cs' := cs') i H hi hg (K.ok _ (List.mem_cons_self ..))
  have hge : ∀ c ∈ l', ∀ k, c.num = some k → w.heap.size ≤ k := fun c hc k hk => by
    rcases K.own c (List.mem_cons_of_mem _ hc) k hk with h | h
    · exact h
    · have hap := K.pair
      rw [List.pairwise_cons] at hap
      obtain rfl : k = g := by simpa using h
      exact absurd hk (hap.1 c hc k rfl)
  have hlt : ∀ a ∈ l.set i (.blk g t cs'), ∀ k, a.num = some k → k < w.heap.size := fun a ha k hk => by
    rcases List.mem_or_eq_of_mem_set ha with hm | rfl
    · exact Chunk.lt (H.ok a hm) k hk
    · obtain rfl : g = k := by simpa [Chunk.num] using hk
      exact Blk.lt (show Blk w g t cs from H.ok _ (List.mem_of_getElem? hi))
  refine ⟨H1.keep, fun d hd => ?_, ?_, fun d hd k hk => ?_⟩
  · rcases List.mem_append.1 hd with h | h
    · exact H1.ok d h
    · exact K.ok d (List.mem_cons_of_mem _ h)
  · rw [List.pairwise_append]
    have hap := K.pair
    rw [List.pairwise_cons] at hap
    refine ⟨H1.pair, hap.2, fun a ha b hb k hk hk' => ?_⟩
    have := hlt a ha k hk
    have := hge b hb k hk'
    omega
  · rcases List.mem_append.1 hd with h | h
    · exact H1.own d h k hk
    · exact .inl (Nat.le_trans H.keep.size (hge d h k hk))
theorem Mem.sub {l' : List Chunk} (H : Mem w0 G w l) (hs : l'.Sublist l) : Mem w0 G w l' := ⟨H.keep, fun c hc => H.ok c (hs.subset hc), H.pair.sublist hs, fun c hc => H.own c (hs.subset hc)⟩
theorem Mem.drop_ (i : Nat) (H : Mem w0 G w l) : Mem w0 G w (l.eraseIdx i) := H.sub (List.eraseIdx_sublist l i)
theorem Mem.blk {g : Nat} {t : TypeId} {cs : Array Value} (H : Mem w0 G w l) (i : Nat) (hi : l[i]? = some (.blk g t cs)) : Blk w g t cs := H.ok _ (List.mem_of_getElem? hi)
theorem Mem.own_ {base : Nat} {e : TypeId} {size : Nat} {v : Value} {n : Nat} {xs : List Value} (H : Mem w0 G w l) (i : Nat) (hi : l[i]? = some (.row base e size v n xs)) : w.ownsRow base e size v n xs := H.ok _ (List.mem_of_getElem? hi)
theorem Mem.ne {g g' : Nat} {t t' : TypeId} {cs cs' : Array Value} (H : Mem w0 G w l) (i j : Nat) (hi : l[i]? = some (.blk g t cs)) (hj : l[j]? = some (.blk g' t' cs')) (hn : i ≠ j) : g ≠ g' := fun e =>
  pair_get Chunk.apart.symm H.pair hi hj hn g rfl (by rw [e]; rfl)
theorem Mem.ner {g base : Nat} {t e : TypeId} {cs : Array Value} {size : Nat} {v : Value} {n : Nat} {xs : List Value} (H : Mem w0 G w l) (i j : Nat) (hi : l[i]? = some (.blk g t cs)) (hj : l[j]? = some (.row base e size v n xs)) (hn : i ≠ j) : some g ≠ v.ownBlock := fun e =>
  pair_get Chunk.apart.symm H.pair hi hj hn g rfl e.symm
theorem Mem.lt {g : Nat} {t : TypeId} {cs : Array Value} (H : Mem w0 G w l) (i : Nat) (hi : l[i]? = some (.blk g t cs)) : g < w.heap.size := Blk.lt (H.blk i hi)
theorem Mem.ge {g : Nat} {t : TypeId} {cs : Array Value} (H : Mem w0 [] w l) (i : Nat) (hi : l[i]? = some (.blk g t cs)) : w0.heap.size ≤ g := by
  rcases H.own _ (List.mem_of_getElem? hi) g rfl with h | h
  · exact h
  · simp at h
theorem Mem.below (H : Mem w0 [] w l) : Below w0.heap.size w0 w := H.keep.below
theorem Mem.grown {g : Nat} (H : Mem w0 [g] w l) : w0.grownBy w (some g) := H.keep.grown
/-- The row that a function answers with, told from the call's beginning. -/
theorem Mem.ownb {base : Nat} {e : TypeId} {size : Nat} {v : Value} {n : Nat} {xs : List Value} (H : Mem w0 [] w l) (i : Nat) (hi : l[i]? = some (.row base e size v n xs)) : w.ownsRow w0.heap.size e size v n xs := by
  have h := H.own_ i hi
  refine ⟨h.1, ?_⟩
  rcases h.2 with h2 | ⟨g, cap, cur, rfl, h2, h3⟩
  · exact .inl h2
  · refine .inr ⟨g, cap, cur, rfl, ?_, h3⟩
    rcases H.own _ (List.mem_of_getElem? hi) g (by simp [Chunk.num, Value.ownBlock]) with h | h
    · exact h
    · simp at h
theorem Mem.c1 {g : Nat} {t : TypeId} {v0 : Value} (H : Mem w0 G w l) (i : Nat) (hi : l[i]? = some (.blk g t #[v0])) : g < w.heap.size ∧ w.cell? ⟨g, 0, none⟩ = some v0 ∧ w.frozen? ⟨g, 0, none⟩ = false := ⟨H.lt i hi, (H.blk i hi).cell 0, (H.blk i hi).frozen 0⟩
theorem Mem.c2 {g : Nat} {t : TypeId} {v0 v1 : Value} (H : Mem w0 G w l) (i : Nat) (hi : l[i]? = some (.blk g t #[v0, v1])) : g < w.heap.size ∧ w.cell? ⟨g, 0, none⟩ = some v0 ∧ w.frozen? ⟨g, 0, none⟩ = false ∧ w.cell? ⟨g, 1, none⟩ = some v1 ∧ w.frozen? ⟨g, 1, none⟩ = false := ⟨H.lt i hi, (H.blk i hi).cell 0, (H.blk i hi).frozen 0, (H.blk i hi).cell 1, (H.blk i hi).frozen 1⟩
theorem Mem.c3 {g : Nat} {t : TypeId} {v0 v1 v2 : Value} (H : Mem w0 G w l) (i : Nat) (hi : l[i]? = some (.blk g t #[v0, v1, v2])) : g < w.heap.size ∧ w.cell? ⟨g, 0, none⟩ = some v0 ∧ w.frozen? ⟨g, 0, none⟩ = false ∧ w.cell? ⟨g, 1, none⟩ = some v1 ∧ w.frozen? ⟨g, 1, none⟩ = false ∧ w.cell? ⟨g, 2, none⟩ = some v2 ∧ w.frozen? ⟨g, 2, none⟩ = false := ⟨H.lt i hi, (H.blk i hi).cell 0, (H.blk i hi).frozen 0, (H.blk i hi).cell 1, (H.blk i hi).frozen 1, (H.blk i hi).cell 2, (H.blk i hi).frozen 2⟩
theorem Mem.c4 {g : Nat} {t : TypeId} {v0 v1 v2 v3 : Value} (H : Mem w0 G w l) (i : Nat) (hi : l[i]? = some (.blk g t #[v0, v1, v2, v3])) : g < w.heap.size ∧ w.cell? ⟨g, 0, none⟩ = some v0 ∧ w.frozen? ⟨g, 0, none⟩ = false ∧ w.cell? ⟨g, 1, none⟩ = some v1 ∧ w.frozen? ⟨g, 1, none⟩ = false ∧ w.cell? ⟨g, 2, none⟩ = some v2 ∧ w.frozen? ⟨g, 2, none⟩ = false ∧ w.cell? ⟨g, 3, none⟩ = some v3 ∧ w.frozen? ⟨g, 3, none⟩ = false := ⟨H.lt i hi, (H.blk i hi).cell 0, (H.blk i hi).frozen 0, (H.blk i hi).cell 1, (H.blk i hi).frozen 1, (H.blk i hi).cell 2, (H.blk i hi).frozen 2, (H.blk i hi).cell 3, (H.blk i hi).frozen 3⟩
theorem Mem.c5 {g : Nat} {t : TypeId} {v0 v1 v2 v3 v4 : Value} (H : Mem w0 G w l) (i : Nat) (hi : l[i]? = some (.blk g t #[v0, v1, v2, v3, v4])) : g < w.heap.size ∧ w.cell? ⟨g, 0, none⟩ = some v0 ∧ w.frozen? ⟨g, 0, none⟩ = false ∧ w.cell? ⟨g, 1, none⟩ = some v1 ∧ w.frozen? ⟨g, 1, none⟩ = false ∧ w.cell? ⟨g, 2, none⟩ = some v2 ∧ w.frozen? ⟨g, 2, none⟩ = false ∧ w.cell? ⟨g, 3, none⟩ = some v3 ∧ w.frozen? ⟨g, 3, none⟩ = false ∧ w.cell? ⟨g, 4, none⟩ = some v4 ∧ w.frozen? ⟨g, 4, none⟩ = false := ⟨H.lt i hi, (H.blk i hi).cell 0, (H.blk i hi).frozen 0, (H.blk i hi).cell 1, (H.blk i hi).frozen 1, (H.blk i hi).cell 2, (H.blk i hi).frozen 2, (H.blk i hi).cell 3, (H.blk i hi).frozen 3, (H.blk i hi).cell 4, (H.blk i hi).frozen 4⟩
theorem Mem.c6 {g : Nat} {t : TypeId} {v0 v1 v2 v3 v4 v5 : Value} (H : Mem w0 G w l) (i : Nat) (hi : l[i]? = some (.blk g t #[v0, v1, v2, v3, v4, v5])) : g < w.heap.size ∧ w.cell? ⟨g, 0, none⟩ = some v0 ∧ w.frozen? ⟨g, 0, none⟩ = false ∧ w.cell? ⟨g, 1, none⟩ = some v1 ∧ w.frozen? ⟨g, 1, none⟩ = false ∧ w.cell? ⟨g, 2, none⟩ = some v2 ∧ w.frozen? ⟨g, 2, none⟩ = false ∧ w.cell? ⟨g, 3, none⟩ = some v3 ∧ w.frozen? ⟨g, 3, none⟩ = false ∧ w.cell? ⟨g, 4, none⟩ = some v4 ∧ w.frozen? ⟨g, 4, none⟩ = false ∧ w.cell? ⟨g, 5, none⟩ = some v5 ∧ w.frozen? ⟨g, 5, none⟩ = false := ⟨H.lt i hi, (H.blk i hi).cell 0, (H.blk i hi).frozen 0, (H.blk i hi).cell 1, (H.blk i hi).frozen 1, (H.blk i hi).cell 2, (H.blk i hi).frozen 2, (H.blk i hi).cell 3, (H.blk i hi).frozen 3, (H.blk i hi).cell 4, (H.blk i hi).frozen 4, (H.blk i hi).cell 5, (H.blk i hi).frozen 5⟩
theorem Mem.c7 {g : Nat} {t : TypeId} {v0 v1 v2 v3 v4 v5 v6 : Value} (H : Mem w0 G w l) (i : Nat) (hi : l[i]? = some (.blk g t #[v0, v1, v2, v3, v4, v5, v6])) : g < w.heap.size ∧ w.cell? ⟨g, 0, none⟩ = some v0 ∧ w.frozen? ⟨g, 0, none⟩ = false ∧ w.cell? ⟨g, 1, none⟩ = some v1 ∧ w.frozen? ⟨g, 1, none⟩ = false ∧ w.cell? ⟨g, 2, none⟩ = some v2 ∧ w.frozen? ⟨g, 2, none⟩ = false ∧ w.cell? ⟨g, 3, none⟩ = some v3 ∧ w.frozen? ⟨g, 3, none⟩ = false ∧ w.cell? ⟨g, 4, none⟩ = some v4 ∧ w.frozen? ⟨g, 4, none⟩ = false ∧ w.cell? ⟨g, 5, none⟩ = some v5 ∧ w.frozen? ⟨g, 5, none⟩ = false ∧ w.cell? ⟨g, 6, none⟩ = some v6 ∧ w.frozen? ⟨g, 6, none⟩ = false := ⟨H.lt i hi, (H.blk i hi).cell 0, (H.blk i hi).frozen 0, (H.blk i hi).cell 1, (H.blk i hi).frozen 1, (H.blk i hi).cell 2, (H.blk i hi).frozen 2, (H.blk i hi).cell 3, (H.blk i hi).frozen 3, (H.blk i hi).cell 4, (H.blk i hi).frozen 4, (H.blk i hi).cell 5, (H.blk i hi).frozen 5, (H.blk i hi).cell 6, (H.blk i hi).frozen 6⟩
theorem Mem.c8 {g : Nat} {t : TypeId} {v0 v1 v2 v3 v4 v5 v6 v7 : Value} (H : Mem w0 G w l) (i : Nat) (hi : l[i]? = some (.blk g t #[v0, v1, v2, v3, v4, v5, v6, v7])) : g < w.heap.size ∧ w.cell? ⟨g, 0, none⟩ = some v0 ∧ w.frozen? ⟨g, 0, none⟩ = false ∧ w.cell? ⟨g, 1, none⟩ = some v1 ∧ w.frozen? ⟨g, 1, none⟩ = false ∧ w.cell? ⟨g, 2, none⟩ = some v2 ∧ w.frozen? ⟨g, 2, none⟩ = false ∧ w.cell? ⟨g, 3, none⟩ = some v3 ∧ w.frozen? ⟨g, 3, none⟩ = false ∧ w.cell? ⟨g, 4, none⟩ = some v4 ∧ w.frozen? ⟨g, 4, none⟩ = false ∧ w.cell? ⟨g, 5, none⟩ = some v5 ∧ w.frozen? ⟨g, 5, none⟩ = false ∧ w.cell? ⟨g, 6, none⟩ = some v6 ∧ w.frozen? ⟨g, 6, none⟩ = false ∧ w.cell? ⟨g, 7, none⟩ = some v7 ∧ w.frozen? ⟨g, 7, none⟩ = false := ⟨H.lt i hi, (H.blk i hi).cell 0, (H.blk i hi).frozen 0, (H.blk i hi).cell 1, (H.blk i hi).frozen 1, (H.blk i hi).cell 2, (H.blk i hi).frozen 2, (H.blk i hi).cell 3, (H.blk i hi).frozen 3, (H.blk i hi).cell 4, (H.blk i hi).frozen 4, (H.blk i hi).cell 5, (H.blk i hi).frozen 5, (H.blk i hi).cell 6, (H.blk i hi).frozen 6, (H.blk i hi).cell 7, (H.blk i hi).frozen 7⟩
theorem Mem.c9 {g : Nat} {t : TypeId} {v0 v1 v2 v3 v4 v5 v6 v7 v8 : Value} (H : Mem w0 G w l) (i : Nat) (hi : l[i]? = some (.blk g t #[v0, v1, v2, v3, v4, v5, v6, v7, v8])) : g < w.heap.size ∧ w.cell? ⟨g, 0, none⟩ = some v0 ∧ w.frozen? ⟨g, 0, none⟩ = false ∧ w.cell? ⟨g, 1, none⟩ = some v1 ∧ w.frozen? ⟨g, 1, none⟩ = false ∧ w.cell? ⟨g, 2, none⟩ = some v2 ∧ w.frozen? ⟨g, 2, none⟩ = false ∧ w.cell? ⟨g, 3, none⟩ = some v3 ∧ w.frozen? ⟨g, 3, none⟩ = false ∧ w.cell? ⟨g, 4, none⟩ = some v4 ∧ w.frozen? ⟨g, 4, none⟩ = false ∧ w.cell? ⟨g, 5, none⟩ = some v5 ∧ w.frozen? ⟨g, 5, none⟩ = false ∧ w.cell? ⟨g, 6, none⟩ = some v6 ∧ w.frozen? ⟨g, 6, none⟩ = false ∧ w.cell? ⟨g, 7, none⟩ = some v7 ∧ w.frozen? ⟨g, 7, none⟩ = false ∧ w.cell? ⟨g, 8, none⟩ = some v8 ∧ w.frozen? ⟨g, 8, none⟩ = false := ⟨H.lt i hi, (H.blk i hi).cell 0, (H.blk i hi).frozen 0, (H.blk i hi).cell 1, (H.blk i hi).frozen 1, (H.blk i hi).cell 2, (H.blk i hi).frozen 2, (H.blk i hi).cell 3, (H.blk i hi).frozen 3, (H.blk i hi).cell 4, (H.blk i hi).frozen 4, (H.blk i hi).cell 5, (H.blk i hi).frozen 5, (H.blk i hi).cell 6, (H.blk i hi).frozen 6, (H.blk i hi).cell 7, (H.blk i hi).frozen 7, (H.blk i hi).cell 8, (H.blk i hi).frozen 8⟩
theorem Mem.c10 {g : Nat} {t : TypeId} {v0 v1 v2 v3 v4 v5 v6 v7 v8 v9 : Value} (H : Mem w0 G w l) (i : Nat) (hi : l[i]? = some (.blk g t #[v0, v1, v2, v3, v4, v5, v6, v7, v8, v9])) : g < w.heap.size ∧ w.cell? ⟨g, 0, none⟩ = some v0 ∧ w.frozen? ⟨g, 0, none⟩ = false ∧ w.cell? ⟨g, 1, none⟩ = some v1 ∧ w.frozen? ⟨g, 1, none⟩ = false ∧ w.cell? ⟨g, 2, none⟩ = some v2 ∧ w.frozen? ⟨g, 2, none⟩ = false ∧ w.cell? ⟨g, 3, none⟩ = some v3 ∧ w.frozen? ⟨g, 3, none⟩ = false ∧ w.cell? ⟨g, 4, none⟩ = some v4 ∧ w.frozen? ⟨g, 4, none⟩ = false ∧ w.cell? ⟨g, 5, none⟩ = some v5 ∧ w.frozen? ⟨g, 5, none⟩ = false ∧ w.cell? ⟨g, 6, none⟩ = some v6 ∧ w.frozen? ⟨g, 6, none⟩ = false ∧ w.cell? ⟨g, 7, none⟩ = some v7 ∧ w.frozen? ⟨g, 7, none⟩ = false ∧ w.cell? ⟨g, 8, none⟩ = some v8 ∧ w.frozen? ⟨g, 8, none⟩ = false ∧ w.cell? ⟨g, 9, none⟩ = some v9 ∧ w.frozen? ⟨g, 9, none⟩ = false := ⟨H.lt i hi, (H.blk i hi).cell 0, (H.blk i hi).frozen 0, (H.blk i hi).cell 1, (H.blk i hi).frozen 1, (H.blk i hi).cell 2, (H.blk i hi).frozen 2, (H.blk i hi).cell 3, (H.blk i hi).frozen 3, (H.blk i hi).cell 4, (H.blk i hi).frozen 4, (H.blk i hi).cell 5, (H.blk i hi).frozen 5, (H.blk i hi).cell 6, (H.blk i hi).frozen 6, (H.blk i hi).cell 7, (H.blk i hi).frozen 7, (H.blk i hi).cell 8, (H.blk i hi).frozen 8, (H.blk i hi).cell 9, (H.blk i hi).frozen 9⟩
theorem Mem.c11 {g : Nat} {t : TypeId} {v0 v1 v2 v3 v4 v5 v6 v7 v8 v9 v10 : Value} (H : Mem w0 G w l) (i : Nat) (hi : l[i]? = some (.blk g t #[v0, v1, v2, v3, v4, v5, v6, v7, v8, v9, v10])) : g < w.heap.size ∧ w.cell? ⟨g, 0, none⟩ = some v0 ∧ w.frozen? ⟨g, 0, none⟩ = false ∧ w.cell? ⟨g, 1, none⟩ = some v1 ∧ w.frozen? ⟨g, 1, none⟩ = false ∧ w.cell? ⟨g, 2, none⟩ = some v2 ∧ w.frozen? ⟨g, 2, none⟩ = false ∧ w.cell? ⟨g, 3, none⟩ = some v3 ∧ w.frozen? ⟨g, 3, none⟩ = false ∧ w.cell? ⟨g, 4, none⟩ = some v4 ∧ w.frozen? ⟨g, 4, none⟩ = false ∧ w.cell? ⟨g, 5, none⟩ = some v5 ∧ w.frozen? ⟨g, 5, none⟩ = false ∧ w.cell? ⟨g, 6, none⟩ = some v6 ∧ w.frozen? ⟨g, 6, none⟩ = false ∧ w.cell? ⟨g, 7, none⟩ = some v7 ∧ w.frozen? ⟨g, 7, none⟩ = false ∧ w.cell? ⟨g, 8, none⟩ = some v8 ∧ w.frozen? ⟨g, 8, none⟩ = false ∧ w.cell? ⟨g, 9, none⟩ = some v9 ∧ w.frozen? ⟨g, 9, none⟩ = false ∧ w.cell? ⟨g, 10, none⟩ = some v10 ∧ w.frozen? ⟨g, 10, none⟩ = false := ⟨H.lt i hi, (H.blk i hi).cell 0, (H.blk i hi).frozen 0, (H.blk i hi).cell 1, (H.blk i hi).frozen 1, (H.blk i hi).cell 2, (H.blk i hi).frozen 2, (H.blk i hi).cell 3, (H.blk i hi).frozen 3, (H.blk i hi).cell 4, (H.blk i hi).frozen 4, (H.blk i hi).cell 5, (H.blk i hi).frozen 5, (H.blk i hi).cell 6, (H.blk i hi).frozen 6, (H.blk i hi).cell 7, (H.blk i hi).frozen 7, (H.blk i hi).cell 8, (H.blk i hi).frozen 8, (H.blk i hi).cell 9, (H.blk i hi).frozen 9, (H.blk i hi).cell 10, (H.blk i hi).frozen 10⟩
theorem Mem.c12 {g : Nat} {t : TypeId} {v0 v1 v2 v3 v4 v5 v6 v7 v8 v9 v10 v11 : Value} (H : Mem w0 G w l) (i : Nat) (hi : l[i]? = some (.blk g t #[v0, v1, v2, v3, v4, v5, v6, v7, v8, v9, v10, v11])) : g < w.heap.size ∧ w.cell? ⟨g, 0, none⟩ = some v0 ∧ w.frozen? ⟨g, 0, none⟩ = false ∧ w.cell? ⟨g, 1, none⟩ = some v1 ∧ w.frozen? ⟨g, 1, none⟩ = false ∧ w.cell? ⟨g, 2, none⟩ = some v2 ∧ w.frozen? ⟨g, 2, none⟩ = false ∧ w.cell? ⟨g, 3, none⟩ = some v3 ∧ w.frozen? ⟨g, 3, none⟩ = false ∧ w.cell? ⟨g, 4, none⟩ = some v4 ∧ w.frozen? ⟨g, 4, none⟩ = false ∧ w.cell? ⟨g, 5, none⟩ = some v5 ∧ w.frozen? ⟨g, 5, none⟩ = false ∧ w.cell? ⟨g, 6, none⟩ = some v6 ∧ w.frozen? ⟨g, 6, none⟩ = false ∧ w.cell? ⟨g, 7, none⟩ = some v7 ∧ w.frozen? ⟨g, 7, none⟩ = false ∧ w.cell? ⟨g, 8, none⟩ = some v8 ∧ w.frozen? ⟨g, 8, none⟩ = false ∧ w.cell? ⟨g, 9, none⟩ = some v9 ∧ w.frozen? ⟨g, 9, none⟩ = false ∧ w.cell? ⟨g, 10, none⟩ = some v10 ∧ w.frozen? ⟨g, 10, none⟩ = false ∧ w.cell? ⟨g, 11, none⟩ = some v11 ∧ w.frozen? ⟨g, 11, none⟩ = false := ⟨H.lt i hi, (H.blk i hi).cell 0, (H.blk i hi).frozen 0, (H.blk i hi).cell 1, (H.blk i hi).frozen 1, (H.blk i hi).cell 2, (H.blk i hi).frozen 2, (H.blk i hi).cell 3, (H.blk i hi).frozen 3, (H.blk i hi).cell 4, (H.blk i hi).frozen 4, (H.blk i hi).cell 5, (H.blk i hi).frozen 5, (H.blk i hi).cell 6, (H.blk i hi).frozen 6, (H.blk i hi).cell 7, (H.blk i hi).frozen 7, (H.blk i hi).cell 8, (H.blk i hi).frozen 8, (H.blk i hi).cell 9, (H.blk i hi).frozen 9, (H.blk i hi).cell 10, (H.blk i hi).frozen 10, (H.blk i hi).cell 11, (H.blk i hi).frozen 11⟩
theorem Mem.c13 {g : Nat} {t : TypeId} {v0 v1 v2 v3 v4 v5 v6 v7 v8 v9 v10 v11 v12 : Value} (H : Mem w0 G w l) (i : Nat) (hi : l[i]? = some (.blk g t #[v0, v1, v2, v3, v4, v5, v6, v7, v8, v9, v10, v11, v12])) : g < w.heap.size ∧ w.cell? ⟨g, 0, none⟩ = some v0 ∧ w.frozen? ⟨g, 0, none⟩ = false ∧ w.cell? ⟨g, 1, none⟩ = some v1 ∧ w.frozen? ⟨g, 1, none⟩ = false ∧ w.cell? ⟨g, 2, none⟩ = some v2 ∧ w.frozen? ⟨g, 2, none⟩ = false ∧ w.cell? ⟨g, 3, none⟩ = some v3 ∧ w.frozen? ⟨g, 3, none⟩ = false ∧ w.cell? ⟨g, 4, none⟩ = some v4 ∧ w.frozen? ⟨g, 4, none⟩ = false ∧ w.cell? ⟨g, 5, none⟩ = some v5 ∧ w.frozen? ⟨g, 5, none⟩ = false ∧ w.cell? ⟨g, 6, none⟩ = some v6 ∧ w.frozen? ⟨g, 6, none⟩ = false ∧ w.cell? ⟨g, 7, none⟩ = some v7 ∧ w.frozen? ⟨g, 7, none⟩ = false ∧ w.cell? ⟨g, 8, none⟩ = some v8 ∧ w.frozen? ⟨g, 8, none⟩ = false ∧ w.cell? ⟨g, 9, none⟩ = some v9 ∧ w.frozen? ⟨g, 9, none⟩ = false ∧ w.cell? ⟨g, 10, none⟩ = some v10 ∧ w.frozen? ⟨g, 10, none⟩ = false ∧ w.cell? ⟨g, 11, none⟩ = some v11 ∧ w.frozen? ⟨g, 11, none⟩ = false ∧ w.cell? ⟨g, 12, none⟩ = some v12 ∧ w.frozen? ⟨g, 12, none⟩ = false := ⟨H.lt i hi, (H.blk i hi).cell 0, (H.blk i hi).frozen 0, (H.blk i hi).cell 1, (H.blk i hi).frozen 1, (H.blk i hi).cell 2, (H.blk i hi).frozen 2, (H.blk i hi).cell 3, (H.blk i hi).frozen 3, (H.blk i hi).cell 4, (H.blk i hi).frozen 4, (H.blk i hi).cell 5, (H.blk i hi).frozen 5, (H.blk i hi).cell 6, (H.blk i hi).frozen 6, (H.blk i hi).cell 7, (H.blk i hi).frozen 7, (H.blk i hi).cell 8, (H.blk i hi).frozen 8, (H.blk i hi).cell 9, (H.blk i hi).frozen 9, (H.blk i hi).cell 10, (H.blk i hi).frozen 10, (H.blk i hi).cell 11, (H.blk i hi).frozen 11, (H.blk i hi).cell 12, (H.blk i hi).frozen 12⟩
theorem Mem.c14 {g : Nat} {t : TypeId} {v0 v1 v2 v3 v4 v5 v6 v7 v8 v9 v10 v11 v12 v13 : Value} (H : Mem w0 G w l) (i : Nat) (hi : l[i]? = some (.blk g t #[v0, v1, v2, v3, v4, v5, v6, v7, v8, v9, v10, v11, v12, v13])) : g < w.heap.size ∧ w.cell? ⟨g, 0, none⟩ = some v0 ∧ w.frozen? ⟨g, 0, none⟩ = false ∧ w.cell? ⟨g, 1, none⟩ = some v1 ∧ w.frozen? ⟨g, 1, none⟩ = false ∧ w.cell? ⟨g, 2, none⟩ = some v2 ∧ w.frozen? ⟨g, 2, none⟩ = false ∧ w.cell? ⟨g, 3, none⟩ = some v3 ∧ w.frozen? ⟨g, 3, none⟩ = false ∧ w.cell? ⟨g, 4, none⟩ = some v4 ∧ w.frozen? ⟨g, 4, none⟩ = false ∧ w.cell? ⟨g, 5, none⟩ = some v5 ∧ w.frozen? ⟨g, 5, none⟩ = false ∧ w.cell? ⟨g, 6, none⟩ = some v6 ∧ w.frozen? ⟨g, 6, none⟩ = false ∧ w.cell? ⟨g, 7, none⟩ = some v7 ∧ w.frozen? ⟨g, 7, none⟩ = false ∧ w.cell? ⟨g, 8, none⟩ = some v8 ∧ w.frozen? ⟨g, 8, none⟩ = false ∧ w.cell? ⟨g, 9, none⟩ = some v9 ∧ w.frozen? ⟨g, 9, none⟩ = false ∧ w.cell? ⟨g, 10, none⟩ = some v10 ∧ w.frozen? ⟨g, 10, none⟩ = false ∧ w.cell? ⟨g, 11, none⟩ = some v11 ∧ w.frozen? ⟨g, 11, none⟩ = false ∧ w.cell? ⟨g, 12, none⟩ = some v12 ∧ w.frozen? ⟨g, 12, none⟩ = false ∧ w.cell? ⟨g, 13, none⟩ = some v13 ∧ w.frozen? ⟨g, 13, none⟩ = false := ⟨H.lt i hi, (H.blk i hi).cell 0, (H.blk i hi).frozen 0, (H.blk i hi).cell 1, (H.blk i hi).frozen 1, (H.blk i hi).cell 2, (H.blk i hi).frozen 2, (H.blk i hi).cell 3, (H.blk i hi).frozen 3, (H.blk i hi).cell 4, (H.blk i hi).frozen 4, (H.blk i hi).cell 5, (H.blk i hi).frozen 5, (H.blk i hi).cell 6, (H.blk i hi).frozen 6, (H.blk i hi).cell 7, (H.blk i hi).frozen 7, (H.blk i hi).cell 8, (H.blk i hi).frozen 8, (H.blk i hi).cell 9, (H.blk i hi).frozen 9, (H.blk i hi).cell 10, (H.blk i hi).frozen 10, (H.blk i hi).cell 11, (H.blk i hi).frozen 11, (H.blk i hi).cell 12, (H.blk i hi).frozen 12, (H.blk i hi).cell 13, (H.blk i hi).frozen 13⟩
theorem Mem.c15 {g : Nat} {t : TypeId} {v0 v1 v2 v3 v4 v5 v6 v7 v8 v9 v10 v11 v12 v13 v14 : Value} (H : Mem w0 G w l) (i : Nat) (hi : l[i]? = some (.blk g t #[v0, v1, v2, v3, v4, v5, v6, v7, v8, v9, v10, v11, v12, v13, v14])) : g < w.heap.size ∧ w.cell? ⟨g, 0, none⟩ = some v0 ∧ w.frozen? ⟨g, 0, none⟩ = false ∧ w.cell? ⟨g, 1, none⟩ = some v1 ∧ w.frozen? ⟨g, 1, none⟩ = false ∧ w.cell? ⟨g, 2, none⟩ = some v2 ∧ w.frozen? ⟨g, 2, none⟩ = false ∧ w.cell? ⟨g, 3, none⟩ = some v3 ∧ w.frozen? ⟨g, 3, none⟩ = false ∧ w.cell? ⟨g, 4, none⟩ = some v4 ∧ w.frozen? ⟨g, 4, none⟩ = false ∧ w.cell? ⟨g, 5, none⟩ = some v5 ∧ w.frozen? ⟨g, 5, none⟩ = false ∧ w.cell? ⟨g, 6, none⟩ = some v6 ∧ w.frozen? ⟨g, 6, none⟩ = false ∧ w.cell? ⟨g, 7, none⟩ = some v7 ∧ w.frozen? ⟨g, 7, none⟩ = false ∧ w.cell? ⟨g, 8, none⟩ = some v8 ∧ w.frozen? ⟨g, 8, none⟩ = false ∧ w.cell? ⟨g, 9, none⟩ = some v9 ∧ w.frozen? ⟨g, 9, none⟩ = false ∧ w.cell? ⟨g, 10, none⟩ = some v10 ∧ w.frozen? ⟨g, 10, none⟩ = false ∧ w.cell? ⟨g, 11, none⟩ = some v11 ∧ w.frozen? ⟨g, 11, none⟩ = false ∧ w.cell? ⟨g, 12, none⟩ = some v12 ∧ w.frozen? ⟨g, 12, none⟩ = false ∧ w.cell? ⟨g, 13, none⟩ = some v13 ∧ w.frozen? ⟨g, 13, none⟩ = false ∧ w.cell? ⟨g, 14, none⟩ = some v14 ∧ w.frozen? ⟨g, 14, none⟩ = false := ⟨H.lt i hi, (H.blk i hi).cell 0, (H.blk i hi).frozen 0, (H.blk i hi).cell 1, (H.blk i hi).frozen 1, (H.blk i hi).cell 2, (H.blk i hi).frozen 2, (H.blk i hi).cell 3, (H.blk i hi).frozen 3, (H.blk i hi).cell 4, (H.blk i hi).frozen 4, (H.blk i hi).cell 5, (H.blk i hi).frozen 5, (H.blk i hi).cell 6, (H.blk i hi).frozen 6, (H.blk i hi).cell 7, (H.blk i hi).frozen 7, (H.blk i hi).cell 8, (H.blk i hi).frozen 8, (H.blk i hi).cell 9, (H.blk i hi).frozen 9, (H.blk i hi).cell 10, (H.blk i hi).frozen 10, (H.blk i hi).cell 11, (H.blk i hi).frozen 11, (H.blk i hi).cell 12, (H.blk i hi).frozen 12, (H.blk i hi).cell 13, (H.blk i hi).frozen 13, (H.blk i hi).cell 14, (H.blk i hi).frozen 14⟩
end
end Go.Proofs.Ytfcgpgfghidajaa

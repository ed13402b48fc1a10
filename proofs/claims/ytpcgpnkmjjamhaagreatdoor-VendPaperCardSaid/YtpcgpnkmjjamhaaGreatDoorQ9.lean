/- What lies in memory while a function runs, in one fact: the blocks that are known whole and the rows of the call's own, no two at one place; all else that was t -/
import Derived.Test.YtpcgpnkmjjamhaaGreatDoorQ7
import Derived.Laws.OwnMore
import Derived.Lib.OthersKept
import Derived.Test.YtpcgpnkmjjamhaaGreatDoorQ2
import Derived.Test.YtpcgpnkmjjamhaaGreatDoorProg
import Derived.WalkKit
import Derived.Test.YtpcgpnkmjjamhaaGreatDoorQ6
import Derived.Deep.RegionHeld
import Derived.Deep.RegionHeld3
import Derived.Deep.DeepCutAuto
import Derived.Laws.StructEq
import Derived.ChangeKeysEq
namespace Go.Proofs.YtpcgpnkmjjamhaaGreatDoor
open Go.RowKit
set_option linter.unusedVariables false
set_option maxRecDepth 100000
inductive Chunk where
 | blk (g : Nat) (t : TypeId) (cs : Array Value)
 | row (base : Nat) (e : TypeId) (size : Nat) (v : Value) (n : Nat) (xs : List Value)
 | obj (g : Nat) (o : Obj)
def Chunk.num : Chunk → Option Nat
 | .blk g _ _ => some g
 | .row _ _ _ v _ _ => v.ownBlock
 | .obj g _ => some g
def Chunk.ok (w : World) : Chunk → Prop
 | .blk g t cs => Blk w g t cs
 | .row base e size v n xs => w.ownsRow base e size v n xs
 | .obj g o => w.heap[g]? = some o
def Chunk.apart (c d : Chunk) : Prop := ∀ k, c.num = some k → d.num ≠ some k
theorem Chunk.apart.symm {c d : Chunk} (h : c.apart d) : d.apart c := fun k hk hc => h k hc hk
theorem Chunk.lt {w : World} {c : Chunk} (h : c.ok w) : ∀ k, c.num = some k → k < w.heap.size := by
 intro k hk
 cases c with
 | blk g t cs => obtain rfl : g = k := by simpa [Chunk.num] using hk
                 exact Blk.lt h
 | row base e size v n xs => exact (World.ownsRow.lt h k hk).2
 | obj g o => obtain rfl : g = k := by simpa [Chunk.num] using hk
              exact (Array.getElem?_eq_some_iff.1 (show w.heap[g]? = some o from h)).1
theorem Chunk.kept {w w' : World} {c : Chunk} {row : Option Nat} (h : c.ok w) (hg : w.grownBy w' row) (hne : c.num = none ∨ c.num ≠ row) : c.ok w' := by
 cases c with
 | blk g t cs => exact (hg.block g (Blk.lt h) (by simpa [Chunk.num] using hne)).trans h
 | row base e size v n xs => exact World.ownsRow.kept h hg hne
 | obj g o =>
   have hlt : g < w.heap.size := (Array.getElem?_eq_some_iff.1 (show w.heap[g]? = some o from h)).1
   exact (hg.block g hlt (by simpa [Chunk.num] using hne)).trans h
structure Keep (w0 : World) (G : List Nat) (w : World) : Prop where
 os : w.os = w0.os
 tape : w.tape = w0.tape
 output : w.output = w0.output
 size : w0.heap.size ≤ w.heap.size
 block : ∀ k, k < w0.heap.size → k ∉ G → w.heap[k]? = w0.heap[k]?
theorem Keep.below {w0 w : World} (h : Keep w0 [] w) : Below w0.heap.size w0 w := ⟨h.os, h.tape, h.output, h.size, fun k hk => h.block k hk (by simp)⟩
theorem Keep.grown {w0 w : World} {g : Nat} (h : Keep w0 [g] w) : w0.grownBy w (some g) := ⟨h.os, h.tape, h.output, h.size, fun k hk hn => h.block k hk (by simp; intro e; exact hn (by rw [e]))⟩
theorem grown_of_below {w w' : World} (hb : Below w.heap.size w w') : w.grownBy w' none := ⟨hb.os, hb.tape, hb.output, hb.size, fun k hk _ => hb.block k hk⟩
theorem grown_setCell (w : World) (p : Addr) (v : Value) : w.grownBy (w.setCell p v) (some p.block) := ⟨rfl, rfl, rfl, by simp, fun k _ hk => heap_setCell_other w p k v (fun e => hk (by simp [e]))⟩
structure Mem (w0 : World) (G : List Nat) (w : World) (l : List Chunk) : Prop where
 keep : Keep w0 G w
 ok : ∀ c ∈ l, c.ok w
 pair : l.Pairwise Chunk.apart
 own : ∀ c ∈ l, ∀ k, c.num = some k → w0.heap.size ≤ k ∨ k ∈ G
section
variable {w0 w w' : World} {G : List Nat} {l : List Chunk} {c c' : Chunk}
theorem Mem.init (w : World) : Mem w [] w [] := ⟨⟨rfl, rfl, rfl, Nat.le_refl _, fun _ _ _ => rfl⟩, by simp, by simp, by simp⟩
theorem Mem.init1 {g : Nat} {t : TypeId} {cs : Array Value} (h : Blk w g t cs) : Mem w [g] w [.blk g t cs] :=
 ⟨⟨rfl, rfl, rfl, Nat.le_refl _, fun _ _ _ => rfl⟩, fun c hc => (List.mem_singleton.1 hc) ▸ h, by simp, by simp [Chunk.num]⟩
theorem Mem.keeps {row : Option Nat} (H : Mem w0 G w l) (hg : w.grownBy w' row) (hr : ∀ k, row = some k → w0.heap.size ≤ k ∨ k ∈ G) : Keep w0 G w' :=
 ⟨hg.os.trans H.keep.os, hg.tape.trans H.keep.tape, hg.output.trans H.keep.output, Nat.le_trans H.keep.size hg.size, fun k hk hG =>
   (hg.block k (Nat.lt_of_lt_of_le hk H.keep.size) (fun e => by rcases hr k e.symm with h | h; omega; exact hG h)).trans (H.keep.block k hk hG)⟩
theorem pair_get {R : Chunk → Chunk → Prop} (hs : ∀ {a b}, R a b → R b a) : ∀ {l : List Chunk} {i j : Nat} {a b : Chunk}, l.Pairwise R → l[i]? = some a → l[j]? = some b → i ≠ j → R a b
 | [], i, j, a, b, _, h, _, _ => by simp at h
 | x :: t, 0, 0, a, b, _, _, _, hn => absurd rfl hn
 | x :: t, 0, j + 1, a, b, hp, ha, hb, _ => by
   rw [List.pairwise_cons] at hp
   obtain rfl : x = a := by simpa using ha
   exact hp.1 b (List.mem_of_getElem? (by simpa using hb))
 | x :: t, i + 1, 0, a, b, hp, ha, hb, _ => by
   rw [List.pairwise_cons] at hp
   obtain rfl : x = b := by simpa using hb
   exact hs (hp.1 a (List.mem_of_getElem? (by simpa using ha)))
 | x :: t, i + 1, j + 1, a, b, hp, ha, hb, hn => by
   rw [List.pairwise_cons] at hp
   exact pair_get hs hp.2 (by simpa using ha) (by simpa using hb) (by omega)
theorem pair_set {R : Chunk → Chunk → Prop} (hs : ∀ {a b}, R a b → R b a) : ∀ {l : List Chunk} {i : Nat} {c' : Chunk}, l.Pairwise R → (∀ j d, l[j]? = some d → j ≠ i → R c' d) → (l.set i c').Pairwise R
 | [], i, c', _, _ => by simp
 | x :: t, 0, c', hp, h => by
   rw [List.pairwise_cons] at hp
   rw [List.set_cons_zero, List.pairwise_cons]
   refine ⟨fun d hd => ?_, hp.2⟩
   obtain ⟨j, hj⟩ := List.getElem?_of_mem hd
   exact h (j + 1) d (by simpa using hj) (by omega)
 | x :: t, i + 1, c', hp, h => by
   rw [List.pairwise_cons] at hp
   rw [List.set_cons_succ, List.pairwise_cons]
   refine ⟨fun d hd => ?_, pair_set hs hp.2 (fun j d hj hn => h (j + 1) d (by simpa using hj) (by omega))⟩
   rcases List.mem_or_eq_of_mem_set hd with hm | rfl
   · exact hp.1 d hm
   · exact hs (h 0 x (by simp) (by omega))
theorem Mem.turn {i : Nat} (H : Mem w0 G w l) (hi : l[i]? = some c) (hg : w.grownBy w' c.num) (hok : c'.ok w') (hn : ∀ k, c'.num = some k → c.num = some k ∨ w.heap.size ≤ k) : Mem w0 G w' (l.set i c') := by
 have hc := List.mem_of_getElem? hi
 have hap : ∀ j d, l[j]? = some d → j ≠ i → c'.apart d := fun j d hj hne k hk hd => by
   have hdl := Chunk.lt (H.ok d (List.mem_of_getElem? hj)) k hd
   rcases hn k hk with h | h
   · exact pair_get Chunk.apart.symm H.pair hi hj (Ne.symm hne) k h hd
   · omega
 refine ⟨H.keeps hg (fun k hk => H.own c hc k hk), fun d hd => ?_, pair_set Chunk.apart.symm H.pair hap, fun d hd k hk => ?_⟩
 · obtain ⟨j, hj⟩ := List.getElem?_of_mem hd
   rw [List.getElem?_set] at hj
   split at hj
   · split at hj
     · obtain rfl : c' = d := by simpa using hj
       exact hok
     · simp at hj
   · rename_i hne
     have hdm := List.mem_of_getElem? hj
     refine Chunk.kept (H.ok d hdm) hg ?_
     cases hdn : d.num with
     | none => exact .inl rfl
     | some k => exact .inr fun e => pair_get Chunk.apart.symm H.pair hi hj hne k e.symm hdn
 · rcases List.mem_or_eq_of_mem_set hd with hm | rfl
   · exact H.own d hm k hk
   · rcases hn k hk with h | h
     · exact H.own c hc k h
     · exact .inl (Nat.le_trans H.keep.size h)
theorem Mem.more (H : Mem w0 G w l) (hg : w.grownBy w' none) (hok : c'.ok w') (hn : ∀ k, c'.num = some k → w.heap.size ≤ k) : Mem w0 G w' (l ++ [c']) := by
 refine ⟨H.keeps hg (by simp), fun d hd => ?_, ?_, fun d hd k hk => ?_⟩
 · rcases List.mem_append.1 hd with h | h
   · exact Chunk.kept (H.ok d h) hg (by cases d.num <;> simp)
   · obtain rfl : d = c' := by simpa using h
     exact hok
 · rw [List.pairwise_append]
   refine ⟨H.pair, by simp, fun a ha b hb k hk hk' => ?_⟩
   obtain rfl : b = c' := by simpa using hb
   have := Chunk.lt (H.ok a ha) k hk
   have := hn k hk'
   omega
 · rcases List.mem_append.1 hd with h | h
   · exact H.own d h k hk
   · obtain rfl : d = c' := by simpa using h
     exact .inl (Nat.le_trans H.keep.size (hn k hk))
theorem Mem.call (H : Mem w0 G w l) (hb : Below w.heap.size w w') : Mem w0 G w' l :=
 ⟨H.keeps (grown_of_below hb) (by simp), fun c hc => Chunk.kept (H.ok c hc) (grown_of_below hb) (by cases c.num <;> simp), H.pair, H.own⟩
theorem Mem.drewN (H : Mem w0 G w l) (n : Nat) : Mem w0 G (w.drewN n) l :=
 ⟨⟨H.keep.os, H.keep.tape, H.keep.output, H.keep.size, H.keep.block⟩, fun c hc => by
   have := H.ok c hc
   cases c with
   | blk g t cs => exact this
   | row base e size v n xs => exact this
   | obj g o => exact this, H.pair, H.own⟩
theorem Mem.drew (H : Mem w0 G w l) : Mem w0 G w.drew l := H.drewN 1
theorem Mem.alloc (H : Mem w0 G w l) (g : Nat) (hg : w.heap.size = g) (cs : Array Value) (t : TypeId) : Mem w0 G (w.alloc (.cells cs t)) (l ++ [.blk g t cs]) := by
 subst hg
 exact H.more (World.grownBy_alloc w _ none) (Blk.new w t cs) (by simp [Chunk.num])
theorem Mem.set {g : Nat} {t : TypeId} {cs : Array Value} (i : Nat) (H : Mem w0 G w l) (hi : l[i]? = some (.blk g t cs)) (o : Nat) (v : Value) : Mem w0 G (w.setCell ⟨g, o, none⟩ v) (l.set i (.blk g t (cs.setIfInBounds o v))) :=
 H.turn hi (grown_setCell w ⟨g, o, none⟩ v) (Blk.set_ (H.ok _ (List.mem_of_getElem? hi)) o v) (fun k hk => .inl hk)
theorem Mem.objNew (H : Mem w0 G w l) (g : Nat) (hg : w.heap.size = g) (o : Obj) : Mem w0 G (w.alloc o) (l ++ [.obj g o]) := by
 subst hg
 exact H.more (World.grownBy_alloc w _ none) (heap_alloc_new w o) (by simp [Chunk.num])
theorem Mem.iter (H : Mem w0 G w l) (g : Nat) (hg : w.heap.size = g) (s : ByteArray) : Mem w0 G (w.iter s 0) (l ++ [.obj g (.stringIter s 0)]) := H.objNew g hg (.stringIter s 0)
theorem grown_iterAt (w : World) (g : Nat) (s : ByteArray) (p : Nat) : w.grownBy (w.iterAt g s p) (some g) := ⟨rfl, rfl, rfl, by rw [Lib.iterAt_size]; exact Nat.le_refl _, fun k _ hk => Lib.iterAt_other w g k s p (fun e => hk (by simp [e]))⟩
theorem Mem.next {g : Nat} {s : ByteArray} {p : Nat} (i : Nat) (H : Mem w0 G w l) (hi : l[i]? = some (.obj g (.stringIter s p))) (p' : Nat) : Mem w0 G (w.iterAt g s p') (l.set i (.obj g (.stringIter s p'))) :=
 H.turn hi (c' := .obj g (.stringIter s p')) (grown_iterAt w g s p') (Lib.iterAt_heap w g s p p' (H.ok _ (List.mem_of_getElem? hi))) (fun k hk => .inl hk)
theorem Mem.obj_ {g : Nat} {o : Obj} (H : Mem w0 G w l) (i : Nat) (hi : l[i]? = some (.obj g o)) : w.heap[g]? = some o := H.ok _ (List.mem_of_getElem? hi)
theorem Mem.mod {g : Nat} {t : TypeId} {cs cs' : Array Value} (i : Nat) (H : Mem w0 G w l) (hi : l[i]? = some (.blk g t cs)) (hg : w.grownBy w' (some g)) (hok : Blk w' g t cs') : Mem w0 G w' (l.set i (.blk g t cs')) :=
 H.turn hi hg (c' := .blk g t cs') hok (fun k hk => .inl hk)
theorem Mem.row {base : Nat} {e : TypeId} {size : Nat} {v : Value} {n : Nat} {xs : List Value} (H : Mem w0 G w l) (hb : Below w.heap.size w w') (ho : w'.ownsRow base e size v n xs) (hB : w.heap.size ≤ base) : Mem w0 G w' (l ++ [.row base e size v n xs]) :=
 H.more (grown_of_below hb) (c' := .row base e size v n xs) ho (fun k hk => Nat.le_trans hB (World.ownsRow.lt ho k hk).1)
theorem Mem.nilrow (H : Mem w0 G w l) (base : Nat) (e : TypeId) (size : Nat) : Mem w0 G w (l ++ [.row base e size (.slice none 0 0) 0 []]) :=
 H.more (c' := .row base e size (.slice none 0 0) 0 []) (w' := w) ⟨rfl, rfl, rfl, Nat.le_refl _, fun _ _ _ => rfl⟩ (World.ownsRow_nil w base e size) (by simp [Chunk.num, Value.ownBlock])
theorem Mem.push {base base' : Nat} {e : TypeId} {size : Nat} {v v' : Value} {n n' : Nat} {xs xs' : List Value} (i : Nat) (H : Mem w0 G w l) (hi : l[i]? = some (.row base e size v n xs)) (hg : w.grownBy w' v.ownBlock) (ho : w'.ownsRow base' e size v' n' xs')
   (hn : ∀ k, v'.ownBlock = some k → v.ownBlock = some k ∨ w.heap.size ≤ k) : Mem w0 G w' (l.set i (.row base' e size v' n' xs')) :=
 H.turn hi hg (c' := .row base' e size v' n' xs') ho hn
theorem Mem.join {l' : List Chunk} (H : Mem w0 G w l) (K : Mem w [] w' l') : Mem w0 G w' (l ++ l') := by
 have hb := K.keep.below
 have hg := grown_of_below hb
 have hge : ∀ c ∈ l', ∀ k, c.num = some k → w.heap.size ≤ k := fun c hc k hk => by
   rcases K.own c hc k hk with h | h
   · exact h
   · simp at h
 refine ⟨H.keeps hg (by simp), fun d hd => ?_, ?_, fun d hd k hk => ?_⟩
 · rcases List.mem_append.1 hd with h | h
   · exact Chunk.kept (H.ok d h) hg (by cases d.num <;> simp)
   · exact K.ok d h
 · rw [List.pairwise_append]
   refine ⟨H.pair, K.pair, fun a ha b hb k hk hk' => ?_⟩
   have := Chunk.lt (H.ok a ha) k hk
   have := hge b hb k hk'
   omega
 · rcases List.mem_append.1 hd with h | h
   · exact H.own d h k hk
   · exact .inl (Nat.le_trans H.keep.size (hge d h k hk))
theorem Mem.joinAt {l' : List Chunk} {g : Nat} {t : TypeId} {cs cs' : Array Value} (i : Nat) (H : Mem w0 G w l) (hi : l[i]? = some (.blk g t cs)) (K : Mem w [g] w' (.blk g t cs' :: l')) : Mem w0 G w' (l.set i (.blk g t cs') ++ l') := by
 have hg := K.keep.grown
 have H1 := Mem.mod (cs' := cs') i H hi hg (K.ok _ (List.mem_cons_self ..))
 have hge : ∀ c ∈ l', ∀ k, c.num = some k → w.heap.size ≤ k := fun c hc k hk => by
   rcases K.own c (List.mem_cons_of_mem _ hc) k hk with h | h
   · exact h
   · have hap := K.pair
     rw [List.pairwise_cons] at hap
     obtain rfl : k = g := by simpa using h
     exact absurd hk (hap.1 c hc k rfl)
 have hlt : ∀ a ∈ l.set i (.blk g t cs'), ∀ k, a.num = some k → k < w.heap.size := fun a ha k hk => by
   rcases List.mem_or_eq_of_mem_set ha with hm | rfl
   · exact Chunk.lt (H.ok a hm) k hk
   · obtain rfl : g = k := by simpa [Chunk.num] using hk
     exact Blk.lt (show Blk w g t cs from H.ok _ (List.mem_of_getElem? hi))
 refine ⟨H1.keep, fun d hd => ?_, ?_, fun d hd k hk => ?_⟩
 · rcases List.mem_append.1 hd with h | h
   · exact H1.ok d h
   · exact K.ok d (List.mem_cons_of_mem _ h)
 · rw [List.pairwise_append]
   have hap := K.pair
   rw [List.pairwise_cons] at hap
   refine ⟨H1.pair, hap.2, fun a ha b hb k hk hk' => ?_⟩
   have := hlt a ha k hk
   have := hge b hb k hk'
   omega
 · rcases List.mem_append.1 hd with h | h
   · exact H1.own d h k hk
   · exact .inl (Nat.le_trans H.keep.size (hge d h k hk))
theorem Mem.sub {l' : List Chunk} (H : Mem w0 G w l) (hs : l'.Sublist l) : Mem w0 G w l' := ⟨H.keep, fun c hc => H.ok c (hs.subset hc), H.pair.sublist hs, fun c hc => H.own c (hs.subset hc)⟩
theorem Mem.drop_ (i : Nat) (H : Mem w0 G w l) : Mem w0 G w (l.eraseIdx i) := H.sub (List.eraseIdx_sublist l i)
theorem Mem.blk {g : Nat} {t : TypeId} {cs : Array Value} (H : Mem w0 G w l) (i : Nat) (hi : l[i]? = some (.blk g t cs)) : Blk w g t cs := H.ok _ (List.mem_of_getElem? hi)
theorem Mem.own_ {base : Nat} {e : TypeId} {size : Nat} {v : Value} {n : Nat} {xs : List Value} (H : Mem w0 G w l) (i : Nat) (hi : l[i]? = some (.row base e size v n xs)) : w.ownsRow base e size v n xs := H.ok _ (List.mem_of_getElem? hi)
theorem Mem.ne {g g' : Nat} {t t' : TypeId} {cs cs' : Array Value} (H : Mem w0 G w l) (i j : Nat) (hi : l[i]? = some (.blk g t cs)) (hj : l[j]? = some (.blk g' t' cs')) (hn : i ≠ j) : g ≠ g' := fun e =>
 pair_get Chunk.apart.symm H.pair hi hj hn g rfl (by rw [e]; rfl)
theorem Mem.lt {g : Nat} {t : TypeId} {cs : Array Value} (H : Mem w0 G w l) (i : Nat) (hi : l[i]? = some (.blk g t cs)) : g < w.heap.size := Blk.lt (H.blk i hi)
theorem Mem.ge {g : Nat} {t : TypeId} {cs : Array Value} (H : Mem w0 [] w l) (i : Nat) (hi : l[i]? = some (.blk g t cs)) : w0.heap.size ≤ g := by
 rcases H.own _ (List.mem_of_getElem? hi) g rfl with h | h
 · exact h
 · simp at h
theorem Mem.below (H : Mem w0 [] w l) : Below w0.heap.size w0 w := H.keep.below
theorem Mem.grown {g : Nat} (H : Mem w0 [g] w l) : w0.grownBy w (some g) := H.keep.grown
theorem Mem.ownb {base : Nat} {e : TypeId} {size : Nat} {v : Value} {n : Nat} {xs : List Value} (H : Mem w0 [] w l) (i : Nat) (hi : l[i]? = some (.row base e size v n xs)) : w.ownsRow w0.heap.size e size v n xs := by
 have h := H.own_ i hi
 refine ⟨h.1, ?_⟩
 rcases h.2 with h2 | ⟨g, cap, cur, rfl, h2, h3⟩
 · exact .inl h2
 · refine .inr ⟨g, cap, cur, rfl, ?_, h3⟩
   rcases H.own _ (List.mem_of_getElem? hi) g (by simp [Chunk.num, Value.ownBlock]) with h | h
   · exact h
   · simp at h
theorem Mem.c1 {g : Nat} {t : TypeId} {v0 : Value} (H : Mem w0 G w l) (i : Nat) (hi : l[i]? = some (.blk g t #[v0])) : g < w.heap.size ∧ w.cell? ⟨g, 0, none⟩ = some v0 ∧ w.frozen? ⟨g, 0, none⟩ = false := ⟨H.lt i hi, (H.blk i hi).cell 0, (H.blk i hi).frozen 0⟩
theorem Mem.c2 {g : Nat} {t : TypeId} {v0 v1 : Value} (H : Mem w0 G w l) (i : Nat) (hi : l[i]? = some (.blk g t #[v0, v1])) : g < w.heap.size ∧ w.cell? ⟨g, 0, none⟩ = some v0 ∧ w.frozen? ⟨g, 0, none⟩ = false ∧ w.cell? ⟨g, 1, none⟩ = some v1 ∧ w.frozen? ⟨g, 1, none⟩ = false := ⟨H.lt i hi, (H.blk i hi).cell 0, (H.blk i hi).frozen 0, (H.blk i hi).cell 1, (H.blk i hi).frozen 1⟩
theorem Mem.c3 {g : Nat} {t : TypeId} {v0 v1 v2 : Value} (H : Mem w0 G w l) (i : Nat) (hi : l[i]? = some (.blk g t #[v0, v1, v2])) : g < w.heap.size ∧ w.cell? ⟨g, 0, none⟩ = some v0 ∧ w.frozen? ⟨g, 0, none⟩ = false ∧ w.cell? ⟨g, 1, none⟩ = some v1 ∧ w.frozen? ⟨g, 1, none⟩ = false ∧ w.cell? ⟨g, 2, none⟩ = some v2 ∧ w.frozen? ⟨g, 2, none⟩ = false := ⟨H.lt i hi, (H.blk i hi).cell 0, (H.blk i hi).frozen 0, (H.blk i hi).cell 1, (H.blk i hi).frozen 1, (H.blk i hi).cell 2, (H.blk i hi).frozen 2⟩
theorem Mem.c4 {g : Nat} {t : TypeId} {v0 v1 v2 v3 : Value} (H : Mem w0 G w l) (i : Nat) (hi : l[i]? = some (.blk g t #[v0, v1, v2, v3])) : g < w.heap.size ∧ w.cell? ⟨g, 0, none⟩ = some v0 ∧ w.frozen? ⟨g, 0, none⟩ = false ∧ w.cell? ⟨g, 1, none⟩ = some v1 ∧ w.frozen? ⟨g, 1, none⟩ = false ∧ w.cell? ⟨g, 2, none⟩ = some v2 ∧ w.frozen? ⟨g, 2, none⟩ = false ∧ w.cell? ⟨g, 3, none⟩ = some v3 ∧ w.frozen? ⟨g, 3, none⟩ = false := ⟨H.lt i hi, (H.blk i hi).cell 0, (H.blk i hi).frozen 0, (H.blk i hi).cell 1, (H.blk i hi).frozen 1, (H.blk i hi).cell 2, (H.blk i hi).frozen 2, (H.blk i hi).cell 3, (H.blk i hi).frozen 3⟩
theorem Mem.c5 {g : Nat} {t : TypeId} {v0 v1 v2 v3 v4 : Value} (H : Mem w0 G w l) (i : Nat) (hi : l[i]? = some (.blk g t #[v0, v1, v2, v3, v4])) : g < w.heap.size ∧ w.cell? ⟨g, 0, none⟩ = some v0 ∧ w.frozen? ⟨g, 0, none⟩ = false ∧ w.cell? ⟨g, 1, none⟩ = some v1 ∧ w.frozen? ⟨g, 1, none⟩ = false ∧ w.cell? ⟨g, 2, none⟩ = some v2 ∧ w.frozen? ⟨g, 2, none⟩ = false ∧ w.cell? ⟨g, 3, none⟩ = some v3 ∧ w.frozen? ⟨g, 3, none⟩ = false ∧ w.cell? ⟨g, 4, none⟩ = some v4 ∧ w.frozen? ⟨g, 4, none⟩ = false := ⟨H.lt i hi, (H.blk i hi).cell 0, (H.blk i hi).frozen 0, (H.blk i hi).cell 1, (H.blk i hi).frozen 1, (H.blk i hi).cell 2, (H.blk i hi).frozen 2, (H.blk i hi).cell 3, (H.blk i hi).frozen 3, (H.blk i hi).cell 4, (H.blk i hi).frozen 4⟩
theorem Mem.c6 {g : Nat} {t : TypeId} {v0 v1 v2 v3 v4 v5 : Value} (H : Mem w0 G w l) (i : Nat) (hi : l[i]? = some (.blk g t #[v0, v1, v2, v3, v4, v5])) : g < w.heap.size ∧ w.cell? ⟨g, 0, none⟩ = some v0 ∧ w.frozen? ⟨g, 0, none⟩ = false ∧ w.cell? ⟨g, 1, none⟩ = some v1 ∧ w.frozen? ⟨g, 1, none⟩ = false ∧ w.cell? ⟨g, 2, none⟩ = some v2 ∧ w.frozen? ⟨g, 2, none⟩ = false ∧ w.cell? ⟨g, 3, none⟩ = some v3 ∧ w.frozen? ⟨g, 3, none⟩ = false ∧ w.cell? ⟨g, 4, none⟩ = some v4 ∧ w.frozen? ⟨g, 4, none⟩ = false ∧ w.cell? ⟨g, 5, none⟩ = some v5 ∧ w.frozen? ⟨g, 5, none⟩ = false := ⟨H.lt i hi, (H.blk i hi).cell 0, (H.blk i hi).frozen 0, (H.blk i hi).cell 1, (H.blk i hi).frozen 1, (H.blk i hi).cell 2, (H.blk i hi).frozen 2, (H.blk i hi).cell 3, (H.blk i hi).frozen 3, (H.blk i hi).cell 4, (H.blk i hi).frozen 4, (H.blk i hi).cell 5, (H.blk i hi).frozen 5⟩
theorem Mem.c7 {g : Nat} {t : TypeId} {v0 v1 v2 v3 v4 v5 v6 : Value} (H : Mem w0 G w l) (i : Nat) (hi : l[i]? = some (.blk g t #[v0, v1, v2, v3, v4, v5, v6])) : g < w.heap.size ∧ w.cell? ⟨g, 0, none⟩ = some v0 ∧ w.frozen? ⟨g, 0, none⟩ = false ∧ w.cell? ⟨g, 1, none⟩ = some v1 ∧ w.frozen? ⟨g, 1, none⟩ = false ∧ w.cell? ⟨g, 2, none⟩ = some v2 ∧ w.frozen? ⟨g, 2, none⟩ = false ∧ w.cell? ⟨g, 3, none⟩ = some v3 ∧ w.frozen? ⟨g, 3, none⟩ = false ∧ w.cell? ⟨g, 4, none⟩ = some v4 ∧ w.frozen? ⟨g, 4, none⟩ = false ∧ w.cell? ⟨g, 5, none⟩ = some v5 ∧ w.frozen? ⟨g, 5, none⟩ = false ∧ w.cell? ⟨g, 6, none⟩ = some v6 ∧ w.frozen? ⟨g, 6, none⟩ = false := ⟨H.lt i hi, (H.blk i hi).cell 0, (H.blk i hi).frozen 0, (H.blk i hi).cell 1, (H.blk i hi).frozen 1, (H.blk i hi).cell 2, (H.blk i hi).frozen 2, (H.blk i hi).cell 3, (H.blk i hi).frozen 3, (H.blk i hi).cell 4, (H.blk i hi).frozen 4, (H.blk i hi).cell 5, (H.blk i hi).frozen 5, (H.blk i hi).cell 6, (H.blk i hi).frozen 6⟩
theorem Mem.c8 {g : Nat} {t : TypeId} {v0 v1 v2 v3 v4 v5 v6 v7 : Value} (H : Mem w0 G w l) (i : Nat) (hi : l[i]? = some (.blk g t #[v0, v1, v2, v3, v4, v5, v6, v7])) : g < w.heap.size ∧ w.cell? ⟨g, 0, none⟩ = some v0 ∧ w.frozen? ⟨g, 0, none⟩ = false ∧ w.cell? ⟨g, 1, none⟩ = some v1 ∧ w.frozen? ⟨g, 1, none⟩ = false ∧ w.cell? ⟨g, 2, none⟩ = some v2 ∧ w.frozen? ⟨g, 2, none⟩ = false ∧ w.cell? ⟨g, 3, none⟩ = some v3 ∧ w.frozen? ⟨g, 3, none⟩ = false ∧ w.cell? ⟨g, 4, none⟩ = some v4 ∧ w.frozen? ⟨g, 4, none⟩ = false ∧ w.cell? ⟨g, 5, none⟩ = some v5 ∧ w.frozen? ⟨g, 5, none⟩ = false ∧ w.cell? ⟨g, 6, none⟩ = some v6 ∧ w.frozen? ⟨g, 6, none⟩ = false ∧ w.cell? ⟨g, 7, none⟩ = some v7 ∧ w.frozen? ⟨g, 7, none⟩ = false := ⟨H.lt i hi, (H.blk i hi).cell 0, (H.blk i hi).frozen 0, (H.blk i hi).cell 1, (H.blk i hi).frozen 1, (H.blk i hi).cell 2, (H.blk i hi).frozen 2, (H.blk i hi).cell 3, (H.blk i hi).frozen 3, (H.blk i hi).cell 4, (H.blk i hi).frozen 4, (H.blk i hi).cell 5, (H.blk i hi).frozen 5, (H.blk i hi).cell 6, (H.blk i hi).frozen 6, (H.blk i hi).cell 7, (H.blk i hi).frozen 7⟩
theorem Mem.c9 {g : Nat} {t : TypeId} {v0 v1 v2 v3 v4 v5 v6 v7 v8 : Value} (H : Mem w0 G w l) (i : Nat) (hi : l[i]? = some (.blk g t #[v0, v1, v2, v3, v4, v5, v6, v7, v8])) : g < w.heap.size ∧ w.cell? ⟨g, 0, none⟩ = some v0 ∧ w.frozen? ⟨g, 0, none⟩ = false ∧ w.cell? ⟨g, 1, none⟩ = some v1 ∧ w.frozen? ⟨g, 1, none⟩ = false ∧ w.cell? ⟨g, 2, none⟩ = some v2 ∧ w.frozen? ⟨g, 2, none⟩ = false ∧ w.cell? ⟨g, 3, none⟩ = some v3 ∧ w.frozen? ⟨g, 3, none⟩ = false ∧ w.cell? ⟨g, 4, none⟩ = some v4 ∧ w.frozen? ⟨g, 4, none⟩ = false ∧ w.cell? ⟨g, 5, none⟩ = some v5 ∧ w.frozen? ⟨g, 5, none⟩ = false ∧ w.cell? ⟨g, 6, none⟩ = some v6 ∧ w.frozen? ⟨g, 6, none⟩ = false ∧ w.cell? ⟨g, 7, none⟩ = some v7 ∧ w.frozen? ⟨g, 7, none⟩ = false ∧ w.cell? ⟨g, 8, none⟩ = some v8 ∧ w.frozen? ⟨g, 8, none⟩ = false := ⟨H.lt i hi, (H.blk i hi).cell 0, (H.blk i hi).frozen 0, (H.blk i hi).cell 1, (H.blk i hi).frozen 1, (H.blk i hi).cell 2, (H.blk i hi).frozen 2, (H.blk i hi).cell 3, (H.blk i hi).frozen 3, (H.blk i hi).cell 4, (H.blk i hi).frozen 4, (H.blk i hi).cell 5, (H.blk i hi).frozen 5, (H.blk i hi).cell 6, (H.blk i hi).frozen 6, (H.blk i hi).cell 7, (H.blk i hi).frozen 7, (H.blk i hi).cell 8, (H.blk i hi).frozen 8⟩
theorem Mem.c10 {g : Nat} {t : TypeId} {v0 v1 v2 v3 v4 v5 v6 v7 v8 v9 : Value} (H : Mem w0 G w l) (i : Nat) (hi : l[i]? = some (.blk g t #[v0, v1, v2, v3, v4, v5, v6, v7, v8, v9])) : g < w.heap.size ∧ w.cell? ⟨g, 0, none⟩ = some v0 ∧ w.frozen? ⟨g, 0, none⟩ = false ∧ w.cell? ⟨g, 1, none⟩ = some v1 ∧ w.frozen? ⟨g, 1, none⟩ = false ∧ w.cell? ⟨g, 2, none⟩ = some v2 ∧ w.frozen? ⟨g, 2, none⟩ = false ∧ w.cell? ⟨g, 3, none⟩ = some v3 ∧ w.frozen? ⟨g, 3, none⟩ = false ∧ w.cell? ⟨g, 4, none⟩ = some v4 ∧ w.frozen? ⟨g, 4, none⟩ = false ∧ w.cell? ⟨g, 5, none⟩ = some v5 ∧ w.frozen? ⟨g, 5, none⟩ = false ∧ w.cell? ⟨g, 6, none⟩ = some v6 ∧ w.frozen? ⟨g, 6, none⟩ = false ∧ w.cell? ⟨g, 7, none⟩ = some v7 ∧ w.frozen? ⟨g, 7, none⟩ = false ∧ w.cell? ⟨g, 8, none⟩ = some v8 ∧ w.frozen? ⟨g, 8, none⟩ = false ∧ w.cell? ⟨g, 9, none⟩ = some v9 ∧ w.frozen? ⟨g, 9, none⟩ = false := ⟨H.lt i hi, (H.blk i hi).cell 0, (H.blk i hi).frozen 0, (H.blk i hi).cell 1, (H.blk i hi).frozen 1, (H.blk i hi).cell 2, (H.blk i hi).frozen 2, (H.blk i hi).cell 3, (H.blk i hi).frozen 3, (H.blk i hi).cell 4, (H.blk i hi).frozen 4, (H.blk i hi).cell 5, (H.blk i hi).frozen 5, (H.blk i hi).cell 6, (H.blk i hi).frozen 6, (H.blk i hi).cell 7, (H.blk i hi).frozen 7, (H.blk i hi).cell 8, (H.blk i hi).frozen 8, (H.blk i hi).cell 9, (H.blk i hi).frozen 9⟩
theorem Mem.c11 {g : Nat} {t : TypeId} {v0 v1 v2 v3 v4 v5 v6 v7 v8 v9 v10 : Value} (H : Mem w0 G w l) (i : Nat) (hi : l[i]? = some (.blk g t #[v0, v1, v2, v3, v4, v5, v6, v7, v8, v9, v10])) : g < w.heap.size ∧ w.cell? ⟨g, 0, none⟩ = some v0 ∧ w.frozen? ⟨g, 0, none⟩ = false ∧ w.cell? ⟨g, 1, none⟩ = some v1 ∧ w.frozen? ⟨g, 1, none⟩ = false ∧ w.cell? ⟨g, 2, none⟩ = some v2 ∧ w.frozen? ⟨g, 2, none⟩ = false ∧ w.cell? ⟨g, 3, none⟩ = some v3 ∧ w.frozen? ⟨g, 3, none⟩ = false ∧ w.cell? ⟨g, 4, none⟩ = some v4 ∧ w.frozen? ⟨g, 4, none⟩ = false ∧ w.cell? ⟨g, 5, none⟩ = some v5 ∧ w.frozen? ⟨g, 5, none⟩ = false ∧ w.cell? ⟨g, 6, none⟩ = some v6 ∧ w.frozen? ⟨g, 6, none⟩ = false ∧ w.cell? ⟨g, 7, none⟩ = some v7 ∧ w.frozen? ⟨g, 7, none⟩ = false ∧ w.cell? ⟨g, 8, none⟩ = some v8 ∧ w.frozen? ⟨g, 8, none⟩ = false ∧ w.cell? ⟨g, 9, none⟩ = some v9 ∧ w.frozen? ⟨g, 9, none⟩ = false ∧ w.cell? ⟨g, 10, none⟩ = some v10 ∧ w.frozen? ⟨g, 10, none⟩ = false := ⟨H.lt i hi, (H.blk i hi).cell 0, (H.blk i hi).frozen 0, (H.blk i hi).cell 1, (H.blk i hi).frozen 1, (H.blk i hi).cell 2, (H.blk i hi).frozen 2, (H.blk i hi).cell 3, (H.blk i hi).frozen 3, (H.blk i hi).cell 4, (H.blk i hi).frozen 4, (H.blk i hi).cell 5, (H.blk i hi).frozen 5, (H.blk i hi).cell 6, (H.blk i hi).frozen 6, (H.blk i hi).cell 7, (H.blk i hi).frozen 7, (H.blk i hi).cell 8, (H.blk i hi).frozen 8, (H.blk i hi).cell 9, (H.blk i hi).frozen 9, (H.blk i hi).cell 10, (H.blk i hi).frozen 10⟩
theorem Mem.c12 {g : Nat} {t : TypeId} {v0 v1 v2 v3 v4 v5 v6 v7 v8 v9 v10 v11 : Value} (H : Mem w0 G w l) (i : Nat) (hi : l[i]? = some (.blk g t #[v0, v1, v2, v3, v4, v5, v6, v7, v8, v9, v10, v11])) : g < w.heap.size ∧ w.cell? ⟨g, 0, none⟩ = some v0 ∧ w.frozen? ⟨g, 0, none⟩ = false ∧ w.cell? ⟨g, 1, none⟩ = some v1 ∧ w.frozen? ⟨g, 1, none⟩ = false ∧ w.cell? ⟨g, 2, none⟩ = some v2 ∧ w.frozen? ⟨g, 2, none⟩ = false ∧ w.cell? ⟨g, 3, none⟩ = some v3 ∧ w.frozen? ⟨g, 3, none⟩ = false ∧ w.cell? ⟨g, 4, none⟩ = some v4 ∧ w.frozen? ⟨g, 4, none⟩ = false ∧ w.cell? ⟨g, 5, none⟩ = some v5 ∧ w.frozen? ⟨g, 5, none⟩ = false ∧ w.cell? ⟨g, 6, none⟩ = some v6 ∧ w.frozen? ⟨g, 6, none⟩ = false ∧ w.cell? ⟨g, 7, none⟩ = some v7 ∧ w.frozen? ⟨g, 7, none⟩ = false ∧ w.cell? ⟨g, 8, none⟩ = some v8 ∧ w.frozen? ⟨g, 8, none⟩ = false ∧ w.cell? ⟨g, 9, none⟩ = some v9 ∧ w.frozen? ⟨g, 9, none⟩ = false ∧ w.cell? ⟨g, 10, none⟩ = some v10 ∧ w.frozen? ⟨g, 10, none⟩ = false ∧ w.cell? ⟨g, 11, none⟩ = some v11 ∧ w.frozen? ⟨g, 11, none⟩ = false := ⟨H.lt i hi, (H.blk i hi).cell 0, (H.blk i hi).frozen 0, (H.blk i hi).cell 1, (H.blk i hi).frozen 1, (H.blk i hi).cell 2, (H.blk i hi).frozen 2, (H.blk i hi).cell 3, (H.blk i hi).frozen 3, (H.blk i hi).cell 4, (H.blk i hi).frozen 4, (H.blk i hi).cell 5, (H.blk i hi).frozen 5, (H.blk i hi).cell 6, (H.blk i hi).frozen 6, (H.blk i hi).cell 7, (H.blk i hi).frozen 7, (H.blk i hi).cell 8, (H.blk i hi).frozen 8, (H.blk i hi).cell 9, (H.blk i hi).frozen 9, (H.blk i hi).cell 10, (H.blk i hi).frozen 10, (H.blk i hi).cell 11, (H.blk i hi).frozen 11⟩
theorem Mem.c13 {g : Nat} {t : TypeId} {v0 v1 v2 v3 v4 v5 v6 v7 v8 v9 v10 v11 v12 : Value} (H : Mem w0 G w l) (i : Nat) (hi : l[i]? = some (.blk g t #[v0, v1, v2, v3, v4, v5, v6, v7, v8, v9, v10, v11, v12])) : g < w.heap.size ∧ w.cell? ⟨g, 0, none⟩ = some v0 ∧ w.frozen? ⟨g, 0, none⟩ = false ∧ w.cell? ⟨g, 1, none⟩ = some v1 ∧ w.frozen? ⟨g, 1, none⟩ = false ∧ w.cell? ⟨g, 2, none⟩ = some v2 ∧ w.frozen? ⟨g, 2, none⟩ = false ∧ w.cell? ⟨g, 3, none⟩ = some v3 ∧ w.frozen? ⟨g, 3, none⟩ = false ∧ w.cell? ⟨g, 4, none⟩ = some v4 ∧ w.frozen? ⟨g, 4, none⟩ = false ∧ w.cell? ⟨g, 5, none⟩ = some v5 ∧ w.frozen? ⟨g, 5, none⟩ = false ∧ w.cell? ⟨g, 6, none⟩ = some v6 ∧ w.frozen? ⟨g, 6, none⟩ = false ∧ w.cell? ⟨g, 7, none⟩ = some v7 ∧ w.frozen? ⟨g, 7, none⟩ = false ∧ w.cell? ⟨g, 8, none⟩ = some v8 ∧ w.frozen? ⟨g, 8, none⟩ = false ∧ w.cell? ⟨g, 9, none⟩ = some v9 ∧ w.frozen? ⟨g, 9, none⟩ = false ∧ w.cell? ⟨g, 10, none⟩ = some v10 ∧ w.frozen? ⟨g, 10, none⟩ = false ∧ w.cell? ⟨g, 11, none⟩ = some v11 ∧ w.frozen? ⟨g, 11, none⟩ = false ∧ w.cell? ⟨g, 12, none⟩ = some v12 ∧ w.frozen? ⟨g, 12, none⟩ = false := ⟨H.lt i hi, (H.blk i hi).cell 0, (H.blk i hi).frozen 0, (H.blk i hi).cell 1, (H.blk i hi).frozen 1, (H.blk i hi).cell 2, (H.blk i hi).frozen 2, (H.blk i hi).cell 3, (H.blk i hi).frozen 3, (H.blk i hi).cell 4, (H.blk i hi).frozen 4, (H.blk i hi).cell 5, (H.blk i hi).frozen 5, (H.blk i hi).cell 6, (H.blk i hi).frozen 6, (H.blk i hi).cell 7, (H.blk i hi).frozen 7, (H.blk i hi).cell 8, (H.blk i hi).frozen 8, (H.blk i hi).cell 9, (H.blk i hi).frozen 9, (H.blk i hi).cell 10, (H.blk i hi).frozen 10, (H.blk i hi).cell 11, (H.blk i hi).frozen 11, (H.blk i hi).cell 12, (H.blk i hi).frozen 12⟩
theorem Mem.c15 {g : Nat} {t : TypeId} {v0 v1 v2 v3 v4 v5 v6 v7 v8 v9 v10 v11 v12 v13 v14 : Value} (H : Mem w0 G w l) (i : Nat) (hi : l[i]? = some (.blk g t #[v0, v1, v2, v3, v4, v5, v6, v7, v8, v9, v10, v11, v12, v13, v14])) : g < w.heap.size ∧ w.cell? ⟨g, 0, none⟩ = some v0 ∧ w.frozen? ⟨g, 0, none⟩ = false ∧ w.cell? ⟨g, 1, none⟩ = some v1 ∧ w.frozen? ⟨g, 1, none⟩ = false ∧ w.cell? ⟨g, 2, none⟩ = some v2 ∧ w.frozen? ⟨g, 2, none⟩ = false ∧ w.cell? ⟨g, 3, none⟩ = some v3 ∧ w.frozen? ⟨g, 3, none⟩ = false ∧ w.cell? ⟨g, 4, none⟩ = some v4 ∧ w.frozen? ⟨g, 4, none⟩ = false ∧ w.cell? ⟨g, 5, none⟩ = some v5 ∧ w.frozen? ⟨g, 5, none⟩ = false ∧ w.cell? ⟨g, 6, none⟩ = some v6 ∧ w.frozen? ⟨g, 6, none⟩ = false ∧ w.cell? ⟨g, 7, none⟩ = some v7 ∧ w.frozen? ⟨g, 7, none⟩ = false ∧ w.cell? ⟨g, 8, none⟩ = some v8 ∧ w.frozen? ⟨g, 8, none⟩ = false ∧ w.cell? ⟨g, 9, none⟩ = some v9 ∧ w.frozen? ⟨g, 9, none⟩ = false ∧ w.cell? ⟨g, 10, none⟩ = some v10 ∧ w.frozen? ⟨g, 10, none⟩ = false ∧ w.cell? ⟨g, 11, none⟩ = some v11 ∧ w.frozen? ⟨g, 11, none⟩ = false ∧ w.cell? ⟨g, 12, none⟩ = some v12 ∧ w.frozen? ⟨g, 12, none⟩ = false ∧ w.cell? ⟨g, 13, none⟩ = some v13 ∧ w.frozen? ⟨g, 13, none⟩ = false ∧ w.cell? ⟨g, 14, none⟩ = some v14 ∧ w.frozen? ⟨g, 14, none⟩ = false := ⟨H.lt i hi, (H.blk i hi).cell 0, (H.blk i hi).frozen 0, (H.blk i hi).cell 1, (H.blk i hi).frozen 1, (H.blk i hi).cell 2, (H.blk i hi).frozen 2, (H.blk i hi).cell 3, (H.blk i hi).frozen 3, (H.blk i hi).cell 4, (H.blk i hi).frozen 4, (H.blk i hi).cell 5, (H.blk i hi).frozen 5, (H.blk i hi).cell 6, (H.blk i hi).frozen 6, (H.blk i hi).cell 7, (H.blk i hi).frozen 7, (H.blk i hi).cell 8, (H.blk i hi).frozen 8, (H.blk i hi).cell 9, (H.blk i hi).frozen 9, (H.blk i hi).cell 10, (H.blk i hi).frozen 10, (H.blk i hi).cell 11, (H.blk i hi).frozen 11, (H.blk i hi).cell 12, (H.blk i hi).frozen 12, (H.blk i hi).cell 13, (H.blk i hi).frozen 13, (H.blk i hi).cell 14, (H.blk i hi).frozen 14⟩
end
end Go.Proofs.YtpcgpnkmjjamhaaGreatDoor
namespace Go.Proofs.YtpcgpnkmjjamhaaGreatDoor
open Go.RowKit
set_option linter.unusedVariables false
set_option maxRecDepth 100000
section
variable {P : Program} {w : World}
theorem CFit.slice_val {t e : TypeId} {v : Value} (h : CFit P w t [v]) (hu : P.underlying t = some (.slice e)) : ∃ A n c, v = .slice A n c := by
 obtain ⟨H, enc, fu, y, hy⟩ := h
 rcases DataW.trod_slice hu hy with ⟨h0, _⟩ | ⟨a, len, cap, elems, rest, m, _, h1, _⟩
 · simp only [List.cons.injEq, and_true] at h0; exact ⟨_, _, _, h0⟩
 · simp only [List.cons.injEq, and_true] at h1; exact ⟨_, _, _, h1⟩
theorem CFit.rows {t e : TypeId} {v : Value} {ks : List IntKind} (h : CFit P w t [v]) (hu : P.underlying t = some (.slice e)) (hs : P.cellsOf e = ks.length) (hs0 : 0 < ks.length) (hl : leafInts P e = some ks) :
   ∃ (n : Nat) (f : Nat → Nat → Int), IsRows w v ks n f := by
 obtain ⟨A, n, c, rfl⟩ := h.slice_val hu
 obtain ⟨hn, hm, rows, hr, hw, hrd⟩ := h.slice_ints hu hs hs0 hl
 refine ⟨n, fun i j => (rows.getD i []).getD j 0, A, c, rfl, hn, hm, fun i hi j k hk => ?_, fun h0 => ?_⟩
 · have hi' : i < rows.length := by omega
   have := hw rows[i] (List.getElem_mem hi')
   obtain ⟨hj, _⟩ := List.getElem?_eq_some_iff.1 hk
   refine this.2 j k _ hk ?_
   have hjl : j < rows[i].length := by rw [this.1]; exact hj
   simp [hi', hjl]
 · obtain ⟨b, off, rfl, hB, hcell⟩ := hrd.at_ h0
   refine ⟨b, off, rfl, hB, fun i hi j k hk => hcell _ _ ?_⟩
   have hi' : i < rows.length := by omega
   obtain ⟨hj, _⟩ := List.getElem?_eq_some_iff.1 hk
   have h1 := flat_get (rows.map (intsOf ks)) (s := ks.length) (fun r hr => by
     obtain ⟨x, hx, rfl⟩ := List.mem_map.1 hr
     exact intsOf_len _ _ (hw x hx).1) i (by simpa using hi') j hj
   rw [h1, List.getElem_map, intsOf_get (hw _ (List.getElem_mem hi')).1 hk]
   simp [hi']
end
theorem IsRows.val {w : World} {v : Value} {ks : List IntKind} {n : Nat} {f : Nat → Nat → Int} (h : IsRows w v ks n f) : ∃ A c, v = .slice A n c := by
 obtain ⟨A, c, e, _⟩ := h; exact ⟨A, c, e⟩
theorem deal_fit {v : Value} {w : World} (h : Fit Tryz.prog w 24 v) : ∃ (A : Option Addr) (n m : Nat) (g : Nat → Nat → Int) (a b c d : Int), v = .agg #[.slice A n m, .int .i64 a, .int .i64 b, .int .i64 c, .int .i64 d] ∧
   (Lit.int .i64 a).wf = true ∧ (Lit.int .i64 b).wf = true ∧ (Lit.int .i64 c).wf = true ∧ (Lit.int .i64 d).wf = true ∧ IsRows w (.slice A n m) [.i64, .i64] n g := by
 obtain ⟨cs, rfl, hcf⟩ := h.struct Tryz.underlying24
 have hl := CFit.leaves 9 _ cs [22, 3, 3, 3, 3] (by kernel_rfl) hcf
 obtain ⟨hlen, hl⟩ := hl
 match cs, hlen with
 | [c0, c1, c2, c3, c4], _ =>
   have gi : ∀ (i : Nat) (v : Value), ([22, 3, 3, 3, 3] : List TypeId)[i]? = some 3 → [c0, c1, c2, c3, c4][i]? = some v → ∃ n, v = .int .i64 n ∧ (Lit.int .i64 n).wf = true := fun i v h1 h2 => by
     obtain ⟨v', h3, h4⟩ := hl i _ h1
     rw [h2] at h3
     injection h3 with h3
     subst h3
     obtain ⟨n, h5, h6⟩ := h4.int Tryz.underlying3
     simp only [List.cons.injEq, and_true] at h5
     exact ⟨n, h5, h6⟩
   obtain ⟨a, rfl, ha⟩ := gi 1 c1 rfl rfl
   obtain ⟨b, rfl, hb⟩ := gi 2 c2 rfl rfl
   obtain ⟨c, rfl, hc⟩ := gi 3 c3 rfl rfl
   obtain ⟨d, rfl, hd⟩ := gi 4 c4 rfl rfl
   obtain ⟨v', h3, h4⟩ := hl 0 22 rfl
   simp only [List.getElem?_cons_zero, Option.some.injEq] at h3
   subst h3
   obtain ⟨n, g, hr⟩ := h4.rows (ks := [.i64, .i64]) Tryz.underlying22 (by kernel_rfl) (by simp) (by kernel_rfl)
   obtain ⟨A, m, rfl⟩ := hr.val
   exact ⟨A, n, m, g, a, b, c, d, rfl, ha, hb, hc, hd, hr⟩
end Go.Proofs.YtpcgpnkmjjamhaaGreatDoor
namespace Go.Proofs.YtpcgpnkmjjamhaaGreatDoor
open Go.RowKit
set_option linter.unusedVariables false
set_option maxRecDepth 100000
section
variable {w0 w w' Wd W0 we : World} {G : List Nat} {l l' L L' : List Chunk}
theorem Mem.perm (h : l.Perm l') (H : Mem w0 G w l) : Mem w0 G w l' :=
 ⟨H.keep, fun c hc => H.ok c (h.mem_iff.2 hc), h.pairwise H.pair (fun h => Chunk.apart.symm h), fun c hc => H.own c (h.mem_iff.2 hc)⟩
theorem Mem.front {c : Chunk} (H : Mem w0 G w (l ++ [c])) : Mem w0 G w (c :: l) := Mem.perm List.perm_append_comm H
theorem Mem.allocF (H : Mem w0 G w l) (g : Nat) (hg : w.heap.size = g) (cs : Array Value) (t : TypeId) : Mem w0 G (w.alloc (.cells cs t)) (.blk g t cs :: l) := Mem.front (H.alloc g hg cs t)
theorem Mem.rowF {base : Nat} {e : TypeId} {size : Nat} {v : Value} {n : Nat} {xs : List Value} (H : Mem w0 G w l) (hb : Below w.heap.size w w') (ho : w'.ownsRow base e size v n xs) (hB : w.heap.size ≤ base) : Mem w0 G w' (.row base e size v n xs :: l) := Mem.front (H.row hb ho hB)
theorem Mem.nilrowF (H : Mem w0 G w l) (base : Nat) (e : TypeId) (size : Nat) : Mem w0 G w (.row base e size (.slice none 0 0) 0 [] :: l) := Mem.front (H.nilrow base e size)
theorem grownBy_sets {b : Nat} : ∀ (ps : List (Nat × Value)) (w : World), w.grownBy (sets w b ps) (some b)
 | [], w => ⟨rfl, rfl, rfl, Nat.le_refl _, fun _ _ _ => rfl⟩
 | p :: ps, w => by
   have h := grownBy_sets (b := b) ps (w.setCell ⟨b, p.1, none⟩ p.2)
   have g := grown_setCell w ⟨b, p.1, none⟩ p.2
   exact ⟨h.os.trans g.os, h.tape.trans g.tape, h.output.trans g.output, Nat.le_trans g.size h.size, fun k hk hn => (h.block k (Nat.lt_of_lt_of_le hk g.size) hn).trans (g.block k hk hn)⟩
theorem Mem.sets {j v : Nat} {t : TypeId} {cs : Array Value} (H : Mem w0 G w l) (hj : l[j]? = some (.blk v t cs)) (ps : List (Nat × Value)) :
   Mem w0 G (Proofs.YtpcgpnkmjjamhaaGreatDoor.sets w v ps) (l.set j (.blk v t (ps.foldl (fun cs p => cs.setIfInBounds p.1 p.2) cs))) :=
 H.turn hj (c' := .blk v t _) (grownBy_sets ps w) (Blk.sets ps (H.blk j hj)) (fun k hk => .inl hk)
variable {g g1 g2 : Nat} {t t1 t2 : TypeId} {z c z1 c1 z2 c2 : Array Value}
theorem cr1_a (H : Mem w G Wd L) (V : Mem Wd [] W0 []) (K : Mem W0 [] we L') : Mem w G (we.alloc (.cells c t)) (L ++ (.blk we.heap.size t c :: L')) := by
 have h := (((H.join V).join K).alloc we.heap.size rfl c t)
 rw [List.append_nil] at h
 refine Mem.perm ?_ h
 rw [List.append_assoc]
 exact List.Perm.append_left _ List.perm_append_comm
theorem cr1_b (H : Mem w G Wd L) (V : Mem Wd [] W0 [.blk g t z]) (K : Mem W0 [] we L') (ps : List (Nat × Value)) (hc : ps.foldl (fun cs p => cs.setIfInBounds p.1 p.2) z = c) : Mem w G (Proofs.YtpcgpnkmjjamhaaGreatDoor.sets we g ps) (L ++ (.blk g t c :: L')) := by
 have h := Mem.sets (j := L.length) (v := g) (t := t) (cs := z) ((H.join V).join K) (by simp) ps
 rw [hc] at h
 simpa using h
theorem cr2_a (H : Mem w G Wd L) (V : Mem Wd [] W0 []) (K : Mem W0 [] we L') : Mem w G ((we.alloc (.cells c1 t1)).alloc (.cells c2 t2)) (L ++ (.blk we.heap.size t1 c1 :: .blk (we.heap.size + 1) t2 c2 :: L')) := by
 have h := ((((H.join V).join K).alloc we.heap.size rfl c1 t1).alloc (we.heap.size + 1) (by simp) c2 t2)
 rw [List.append_nil] at h
 refine Mem.perm ?_ h
 rw [List.append_assoc, List.append_assoc]
 refine List.Perm.append_left _ (List.perm_append_comm.trans ?_)
 exact List.Perm.refl _
theorem cr2_b (H : Mem w G Wd L) (V : Mem Wd [] W0 []) (K : Mem W0 [] we L') : Mem w G ((we.alloc (.cells c2 t2)).alloc (.cells c1 t1)) (L ++ (.blk (we.heap.size + 1) t1 c1 :: .blk we.heap.size t2 c2 :: L')) :=
 Mem.perm (List.Perm.append_left _ (List.Perm.swap _ _ _)) (cr2_a H V K)
theorem cr2_c (H : Mem w G Wd L) (V : Mem Wd [] W0 [.blk g1 t1 z1]) (K : Mem W0 [] we L') (ps : List (Nat × Value)) (hc : ps.foldl (fun cs p => cs.setIfInBounds p.1 p.2) z1 = c1) : Mem w G ((Proofs.YtpcgpnkmjjamhaaGreatDoor.sets we g1 ps).alloc (.cells c2 t2)) (L ++ (.blk g1 t1 c1 :: .blk we.heap.size t2 c2 :: L')) := by
 have h := (cr1_b H V K ps hc).alloc we.heap.size (size_sets ps we) c2 t2
 refine Mem.perm ?_ h
 rw [List.append_assoc]
 refine List.Perm.append_left _ ?_
 rw [List.cons_append]
 exact List.Perm.cons _ List.perm_append_comm
theorem cr2_d (H : Mem w G Wd L) (V : Mem Wd [] W0 [.blk g2 t2 z2]) (K : Mem W0 [] we L') (ps : List (Nat × Value)) (hc : ps.foldl (fun cs p => cs.setIfInBounds p.1 p.2) z2 = c2) : Mem w G ((Proofs.YtpcgpnkmjjamhaaGreatDoor.sets we g2 ps).alloc (.cells c1 t1)) (L ++ (.blk we.heap.size t1 c1 :: .blk g2 t2 c2 :: L')) :=
 Mem.perm (List.Perm.append_left _ (List.Perm.swap _ _ _)) (cr2_c H V K ps hc)
theorem cr2_e (H : Mem w G Wd L) (V : Mem Wd [] W0 [.blk g1 t1 z1, .blk g2 t2 z2]) (K : Mem W0 [] we L') (ps qs : List (Nat × Value)) (hc : ps.foldl (fun cs p => cs.setIfInBounds p.1 p.2) z1 = c1) (hd : qs.foldl (fun cs p => cs.setIfInBounds p.1 p.2) z2 = c2) : Mem w G (Proofs.YtpcgpnkmjjamhaaGreatDoor.sets (Proofs.YtpcgpnkmjjamhaaGreatDoor.sets we g1 ps) g2 qs) (L ++ (.blk g1 t1 c1 :: .blk g2 t2 c2 :: L')) := by
 have h := Mem.sets (j := L.length + 1) (v := g2) (t := t2) (cs := z2) (Mem.sets (j := L.length) (v := g1) (t := t1) (cs := z1) ((H.join V).join K) (by simp) ps) (by simp) qs
 rw [hc, hd] at h
 simpa using h
theorem cr2_f (H : Mem w G Wd L) (V : Mem Wd [] W0 [.blk g1 t1 z1, .blk g2 t2 z2]) (K : Mem W0 [] we L') (ps qs : List (Nat × Value)) (hc : ps.foldl (fun cs p => cs.setIfInBounds p.1 p.2) z1 = c1) (hd : qs.foldl (fun cs p => cs.setIfInBounds p.1 p.2) z2 = c2) : Mem w G (Proofs.YtpcgpnkmjjamhaaGreatDoor.sets (Proofs.YtpcgpnkmjjamhaaGreatDoor.sets we g2 qs) g1 ps) (L ++ (.blk g1 t1 c1 :: .blk g2 t2 c2 :: L')) := by
 have h := Mem.sets (j := L.length) (v := g1) (t := t1) (cs := z1) (Mem.sets (j := L.length + 1) (v := g2) (t := t2) (cs := z2) ((H.join V).join K) (by simp) qs) (by simp) ps
 rw [hc, hd] at h
 simpa using h
end
end Go.Proofs.YtpcgpnkmjjamhaaGreatDoor
namespace Go.Proofs.YtpcgpnkmjjamhaaGreatDoor
open Go.RowKit
set_option linter.unusedVariables false
set_option maxRecDepth 100000
def leafEq : Value → Value → Bool
 | .int _ a, .int _ b => a == b
 | .bool a, .bool b => a == b
 | .string a, .string b => a.toList == b.toList
 | _, _ => false
def cellsEq : List Value → List Value → Bool
 | x :: xs, y :: ys => leafEq x y && cellsEq xs ys
 | _, _ => true
def chunk (P : Program) (xs : List Value) (off : Nat) (t : TypeId) : List Value := (xs.drop off).take (P.cellsOf t)
def leafPair (P : Program) : Nat → TypeId → List Value → List Value → Bool
 | 0, _, _, _ => false
 | n + 1, t, xs, ys =>
   match P.underlying t with
   | some (.struct fs) => !P.stoodInHeld t && tiled P (P.cellsOf t) fs.toList 0 && xs.length == P.cellsOf t && ys.length == P.cellsOf t && fs.toList.all fun f => f.name != "_" && leafPair P n f.type (chunk P xs f.offset f.type) (chunk P ys f.offset f.type)
   | some (.array m e) => (P.info? e).isSome && m * P.cellsOf e == P.cellsOf t && xs.length == P.cellsOf t && ys.length == P.cellsOf t && (List.range m).all fun i => leafPair P n e (chunk P xs (i * P.cellsOf e) e) (chunk P ys (i * P.cellsOf e) e)
   | some (.int _) => match xs, ys with | [.int k _], [.int k' _] => k == k' && P.cellsOf t == 1 | _, _ => false
   | some .bool => match xs, ys with | [.bool _], [.bool _] => P.cellsOf t == 1 | _, _ => false
   | some .string => match xs, ys with | [.string _], [.string _] => P.cellsOf t == 1 | _, _ => false
   | _ => false
def mkv (P : Program) (t : TypeId) (xs : List Value) : Value :=
 match P.underlying t with
 | some (.struct _) => .agg ⟨xs⟩
 | some (.array _ _) => .agg ⟨xs⟩
 | _ => xs.headD undef
theorem cellsEq_append : ∀ {a a' b b' : List Value}, a.length = a'.length → cellsEq (a ++ b) (a' ++ b') = (cellsEq a a' && cellsEq b b')
 | [], [], _, _, _ => by simp [cellsEq]
 | x :: a, y :: a', b, b', h => by
   simp only [List.cons_append, cellsEq]
   rw [cellsEq_append (by simpa using h), Bool.and_assoc]
section
variable {P : Program}
theorem run_part_gen {u : TypeId} {n : Nat} {xs : List Value} {ys : List Value} {off : Nat} (hl : off + P.cellsOf u ≤ xs.length) (h : leafPair P n u (chunk P xs off u) ys = true ∨ leafPair P n u ys (chunk P xs off u) = true) (w : World) :
   (part u ⟨xs⟩ off).run P w = .ok (mkv P u (chunk P xs off u)) w := by
 cases n with
 | zero => simp [leafPair] at h
 | succ n =>
   cases hu : P.underlying u with
   | none => simp [leafPair, hu] at h
   | some d =>
     obtain ⟨i, hi⟩ := info_of_underlying hu
     have hsz := run_sizeOf (P := P) w hi
     have agg : (∃ fs, d = .struct fs) ∨ (∃ m e, d = .array m e) → (part u ⟨xs⟩ off).run P w = .ok (mkv P u (chunk P xs off u)) w := by
       intro hd
       have hm : mkv P u (chunk P xs off u) = .agg ⟨chunk P xs off u⟩ := by
         rcases hd with ⟨fs, rfl⟩ | ⟨m, e, rfl⟩ <;> simp [mkv, hu]
       have ha : (isAgg u).run P w = .ok true w := by
         rcases hd with ⟨fs, rfl⟩ | ⟨m, e, rfl⟩ <;> simp [isAgg, run_underlying hu]
       rw [hm]
       simp only [part, Sem.run_bind, ha, Result.andThen_ok, if_true, hsz, Sem.run_pure]
       congr 2
       apply Array.ext'
       simp [chunk, List.extract_eq_take_drop]
     have leaf : P.cellsOf u = 1 → (isAgg u).run P w = .ok false w → mkv P u (chunk P xs off u) = (chunk P xs off u).headD undef → (part u ⟨xs⟩ off).run P w = .ok (mkv P u (chunk P xs off u)) w := by
       intro h1 ha hm
       rw [hm]
       have hx : off < xs.length := by omega
       have hc : chunk P xs off u = [xs[off]] := by
         unfold chunk
         rw [h1, List.drop_eq_getElem_cons hx]; rfl
       rw [hc]
       simp [part, ha, hx]
     cases d
     case struct fs => exact agg (.inl ⟨fs, rfl⟩)
     case array m e => exact agg (.inr ⟨m, e, rfl⟩)
     case int k =>
       refine leaf ?_ (by simp [isAgg, run_underlying hu]) (by simp [mkv, hu])
       simp only [leafPair, hu] at h
       rcases h with h | h
       all_goals
         split at h
         · simp at h; exact h.2
         · cases h
     case bool =>
       refine leaf ?_ (by simp [isAgg, run_underlying hu]) (by simp [mkv, hu])
       simp only [leafPair, hu] at h
       rcases h with h | h
       all_goals
         split at h
         · simpa using h
         · cases h
     case string =>
       refine leaf ?_ (by simp [isAgg, run_underlying hu]) (by simp [mkv, hu])
       simp only [leafPair, hu] at h
       rcases h with h | h
       all_goals
         split at h
         · simpa using h
         · cases h
     all_goals (simp [leafPair, hu] at h; done)
def EqAll (P : Program) (n : Nat) : Prop := ∀ (t : TypeId) (xs ys : List Value) (d : Nat) (w : World), leafPair P n t xs ys = true → n ≤ d → (Op.equalIn d t (mkv P t xs) (mkv P t ys)).run P w = .ok (cellsEq xs ys) w
theorem fields_gen {n d total : Nat} (IH : EqAll P n) (hd : n ≤ d) {xs ys : List Value} (hx : xs.length = total) (hy : ys.length = total) :
   ∀ (fs : List Field) (k : Nat) (w : World), tiled P total fs k = true → (∀ f ∈ fs, f.name ≠ "_" ∧ leafPair P n f.type (chunk P xs f.offset f.type) (chunk P ys f.offset f.type) = true) →
     (Op.eqFields d ⟨xs⟩ ⟨ys⟩ fs).run P w = .ok (cellsEq (xs.drop k) (ys.drop k)) w
 | [], k, w, ht, _ => by
   simp [tiled] at ht
   have e : xs.drop k = [] := List.drop_eq_nil_of_le (by omega)
   rw [e]
   rfl
 | f :: fs, k, w, ht, hf => by
   simp [tiled] at ht
   obtain ⟨ho, ht⟩ := ht
   have hle := tiled_le fs _ ht
   obtain ⟨hn, hp⟩ := hf f (by simp)
   have h1 := run_part_gen (P := P) (off := f.offset) (u := f.type) (xs := xs) (by omega) (.inl hp) w
   have h2 := run_part_gen (P := P) (off := f.offset) (u := f.type) (xs := ys) (by omega) (.inr hp) w
   have h3 := IH _ _ _ d w hp hd
   have h4 := fields_gen IH hd hx hy fs _ w ht (fun g hg => hf g (by simp [hg]))
   have es : ∀ zs : List Value, zs.length = total → zs.drop k = chunk P zs f.offset f.type ++ zs.drop (k + P.cellsOf f.type) := by
     intro zs _
     unfold chunk
     rw [ho, ← List.drop_drop]
     exact (List.take_append_drop _ _).symm
   have hlen : (chunk P xs f.offset f.type).length = (chunk P ys f.offset f.type).length := by simp [chunk, hx, hy]
   rw [es xs hx, es ys hy, cellsEq_append hlen]
   simp only [Op.eqFields, hn, ne_eq, not_false_eq_true, if_true, Sem.run_bind, h1, h2, h3, Result.andThen_ok]
   cases cellsEq (chunk P xs f.offset f.type) (chunk P ys f.offset f.type)
   · simp
   · simp [h4]
theorem items_gen {n d total : Nat} (IH : EqAll P n) (hd : n ≤ d) {e : TypeId} {xs ys : List Value} (hx : xs.length = total) (hy : ys.length = total) :
   ∀ (m i : Nat) (w : World), (i + m) * P.cellsOf e = total → (∀ j, i ≤ j → j < i + m → leafPair P n e (chunk P xs (j * P.cellsOf e) e) (chunk P ys (j * P.cellsOf e) e) = true) →
     (Op.eqItems d e (P.cellsOf e) ⟨xs⟩ ⟨ys⟩ (List.range' i m)).run P w = .ok (cellsEq (xs.drop (i * P.cellsOf e)) (ys.drop (i * P.cellsOf e))) w
 | 0, i, w, ht, _ => by
   have e : xs.drop (i * P.cellsOf e) = [] := List.drop_eq_nil_of_le (by simp at ht; omega)
   rw [e]
   rfl
 | m + 1, i, w, ht, hf => by
   have hp := hf i (Nat.le_refl _) (by omega)
   have hle : i * P.cellsOf e + P.cellsOf e ≤ total := by
     rw [← ht, ← Nat.succ_mul]; exact Nat.mul_le_mul_right _ (by omega)
   have h1 := run_part_gen (P := P) (off := i * P.cellsOf e) (u := e) (xs := xs) (by omega) (.inl hp) w
   have h2 := run_part_gen (P := P) (off := i * P.cellsOf e) (u := e) (xs := ys) (by omega) (.inr hp) w
   have h3 := IH _ _ _ d w hp hd
   have h4 := items_gen IH hd hx hy m (i + 1) w (by rw [← ht]; congr 1; omega) (fun j h1 h2 => hf j (by omega) (by omega))
   have es : ∀ zs : List Value, zs.drop (i * P.cellsOf e) = chunk P zs (i * P.cellsOf e) e ++ zs.drop ((i + 1) * P.cellsOf e) := by
     intro zs
     unfold chunk
     rw [Nat.succ_mul, ← List.drop_drop]
     exact (List.take_append_drop _ _).symm
   have hlen : (chunk P xs (i * P.cellsOf e) e).length = (chunk P ys (i * P.cellsOf e) e).length := by simp [chunk, hx, hy]
   rw [es xs, es ys, cellsEq_append hlen]
   simp only [List.range'_succ, Op.eqItems, Sem.run_bind, h1, h2, h3, Result.andThen_ok]
   cases cellsEq (chunk P xs (i * P.cellsOf e) e) (chunk P ys (i * P.cellsOf e) e)
   · simp
   · simp [h4]
theorem eq_all : ∀ n, EqAll P n
 | 0 => fun t xs ys d w h _ => by simp [leafPair] at h
 | n + 1 => fun t xs ys d w h hd => by
   obtain ⟨d, rfl⟩ : ∃ k, d = k + 1 := ⟨d - 1, by omega⟩
   have hd : n ≤ d := by omega
   have IH := eq_all n
   cases hu : P.underlying t with
   | none => simp [leafPair, hu] at h
   | some k =>
     cases k
     case struct fs =>
       simp [leafPair, hu] at h
       obtain ⟨⟨⟨⟨h1, h2⟩, h3⟩, h4⟩, h5⟩ := h
       have hfo : P.fieldsOf t = fs := by simp [Program.fieldsOf, hu]
       have hm : ∀ zs, mkv P t zs = .agg ⟨zs⟩ := fun zs => by simp [mkv, hu]
       rw [hm, hm, run_equalIn_struct w d t _ _ (by rw [hfo]; exact hu) h1, hfo]
       have := fields_gen IH hd h3 h4 fs.toList 0 w h2 (fun f hf => by
         obtain ⟨i, hi, he⟩ := List.getElem_of_mem hf
         have hi' : i < fs.size := by simpa using hi
         have := h5 i hi'
         rw [show fs[i] = f by rw [← he]; simp] at this
         exact this)
       simpa using this
     case array m e =>
       simp [leafPair, hu] at h
       obtain ⟨⟨⟨⟨h0, h1⟩, h2⟩, h3⟩, h4⟩ := h
       have hm : ∀ zs, mkv P t zs = .agg ⟨zs⟩ := fun zs => by simp [mkv, hu]
       obtain ⟨i, hi⟩ := Option.isSome_iff_exists.1 h0
       rw [hm, hm, run_equalIn_array w d _ _ hu hi, List.range_eq_range']
       have := items_gen IH hd h2 h3 m 0 w (by simpa using h1) (fun j _ hj => h4 j (by omega))
       simpa using this
     case int k' =>
       simp only [leafPair, hu] at h
       split at h
       · rename_i a b c e
         simp at h
         obtain ⟨rfl, _⟩ := h
         simp [mkv, hu, Op.equalIn, run_underlying hu, cellsEq, leafEq]
       · cases h
     case bool =>
       simp only [leafPair, hu] at h
       split at h
       · simp [mkv, hu, Op.equalIn, run_underlying hu, cellsEq, leafEq]
       · cases h
     case string =>
       simp only [leafPair, hu] at h
       split at h
       · simp [mkv, hu, Op.equalIn, run_underlying hu, cellsEq, leafEq, beq_toListBytes]
       · cases h
     all_goals (simp [leafPair, hu] at h; done)
theorem eq_is {t : TypeId} (xs ys : List Value) (w : World) (hl : leafPair P 9 t xs ys = true) (hm : ∀ zs, mkv P t zs = .agg ⟨zs⟩) : (Op.equalIn 10000 t (.agg xs.toArray) (.agg ys.toArray)).run P w = .ok (cellsEq xs ys) w := by
 have := eq_all (P := P) 9 t xs ys 10000 w hl (by omega)
 rwa [hm, hm] at this
theorem mkv_struct {t : TypeId} {fs : Array Field} (hu : P.underlying t = some (.struct fs)) : ∀ zs, mkv P t zs = .agg ⟨zs⟩ := fun zs => by simp [mkv, hu]
end
end Go.Proofs.YtpcgpnkmjjamhaaGreatDoor
namespace Go.Proofs.YtpcgpnkmjjamhaaGreatDoor
open Go.RowKit
set_option linter.unusedVariables false
set_option maxRecDepth 100000
section
variable {w0 w : World} {G : List Nat} {l : List Chunk}
theorem grown_self (w : World) (r : Option Nat) : w.grownBy w r := ⟨rfl, rfl, rfl, Nat.le_refl _, fun _ _ _ => rfl⟩
theorem Mem.toArr {base : Nat} {e : TypeId} {size : Nat} {v : Value} {n : Nat} {xs : List Value} (i : Nat) (H : Mem w0 G w l) (hi : l[i]? = some (.row base e size v n xs)) (hn : 0 < n) :
   ∃ g cap cur, v = .slice (some ⟨g, 0, none⟩) n cap ∧ base ≤ g ∧ n ≤ cap ∧ cap ≤ maxLen ∧ cur.size = cap * size ∧ cur.toList.take (n * size) = xs ∧ Mem w0 G w (l.set i (.blk g e cur)) := by
 have ho := H.own_ i hi
 rcases ho.2 with ⟨_, h0⟩ | ⟨g, cap, cur, rfl, hb, hg, hnc, hcm, hcs, ht⟩
 · omega
 · refine ⟨g, cap, cur, rfl, hb, hnc, hcm, hcs, ht, H.turn hi (grown_self w _) (c' := .blk g e cur) hg (fun k hk => .inl ?_)⟩
   obtain rfl : g = k := by simpa [Chunk.num] using hk
   rfl
theorem Mem.toRow {base g cap : Nat} {e : TypeId} {size n : Nat} {cur : Array Value} {xs : List Value} (i : Nat) (H : Mem w0 G w l) (hi : l[i]? = some (.blk g e cur)) (hb : base ≤ g) (hnc : n ≤ cap) (hcm : cap ≤ maxLen) (hcs : cur.size = cap * size) (ht : cur.toList.take (n * size) = xs) (hl : xs.length = n * size) :
   Mem w0 G w (l.set i (.row base e size (.slice (some ⟨g, 0, none⟩) n cap) n xs)) := by
 refine H.turn hi (grown_self w _) (c' := .row base e size (.slice (some ⟨g, 0, none⟩) n cap) n xs) ⟨hl, .inr ⟨g, cap, cur, rfl, hb, H.blk i hi, hnc, hcm, hcs, ht⟩⟩ (fun k hk => .inl ?_)
 obtain rfl : g = k := by simpa [Chunk.num, Value.ownBlock] using hk
 rfl
end
theorem set8 {cur : Array Value} {pre post : List Value} {a0 a1 a2 a3 a4 a5 a6 a7 v0 v1 v2 v3 v4 v5 v6 v7 : Value} {o : Nat} (ho : pre.length = o) (h : cur.toList = pre ++ ([a0, a1, a2, a3, a4, a5, a6, a7] ++ post)) :
   ((((((((cur.setIfInBounds (o) v0).setIfInBounds (o + 1) v1).setIfInBounds (o + 2) v2).setIfInBounds (o + 3) v3).setIfInBounds (o + 4) v4).setIfInBounds (o + 5) v5).setIfInBounds (o + 6) v6).setIfInBounds (o + 7) v7).toList = pre ++ ([v0, v1, v2, v3, v4, v5, v6, v7] ++ post) := by
 subst ho
 simp only [Array.toList_setIfInBounds, h]
 simp
theorem get8 {cur : Array Value} {pre post : List Value} {a0 a1 a2 a3 a4 a5 a6 a7 : Value} {o : Nat} (ho : pre.length = o) (h : cur.toList = pre ++ ([a0, a1, a2, a3, a4, a5, a6, a7] ++ post)) :
   cur[o]? = some a0 ∧ cur[o + 1]? = some a1 ∧ cur[o + 2]? = some a2 ∧ cur[o + 3]? = some a3 ∧ cur[o + 4]? = some a4 ∧ cur[o + 5]? = some a5 ∧ cur[o + 6]? = some a6 ∧ cur[o + 7]? = some a7 := by
 subst ho
 have key : ∀ j : Nat, j < 8 → cur[pre.length + j]? = [a0, a1, a2, a3, a4, a5, a6, a7][j]? := by
   intro j hj
   rw [← Array.getElem?_toList, h, List.getElem?_append_right (by omega), List.getElem?_append_left (by simp; omega)]
   congr 1; omega
 exact ⟨key 0 (by omega), key 1 (by omega), key 2 (by omega), key 3 (by omega), key 4 (by omega), key 5 (by omega), key 6 (by omega), key 7 (by omega)⟩
end Go.Proofs.YtpcgpnkmjjamhaaGreatDoor
namespace Go.Proofs.YtpcgpnkmjjamhaaGreatDoor
open Go.RowKit
set_option linter.unusedVariables false
set_option maxRecDepth 100000
section
variable {P : Program} {ops : Array Oper} {rest : List Oper} {o : Oper} {a : Act} {t e : TypeId} {size bytes : Nat} {w0 W : World} {G : List Nat} {L : List Chunk} {base n : Nat} {v : Value} {xs news : List Value}
theorem mem_pushed {A' : Option Addr} {c' i : Nat} {w' : World} (H : Mem w0 G W L) (hi : L[i]? = some (.row base e size v n xs)) (ho : w'.ownsRow base e size (.slice A' (n + 1) c') (n + 1) (xs ++ news)) (hg : (W.alloc (.cells ⟨news⟩ e)).grownBy w' v.ownBlock)
   (hb : ∀ b, b < (W.alloc (.cells ⟨news⟩ e)).heap.size → some b ≠ v.ownBlock → some b ≠ (Value.slice A' (n + 1) c').ownBlock) : Mem w0 G w' (L.set i (.row base e size (.slice A' (n + 1) c') (n + 1) (xs ++ news))) := by
 have H1 := H.alloc _ rfl ⟨news⟩ e
 have hil : i < L.length := (List.getElem?_eq_some_iff.1 hi).1
 have hi1 : (L ++ [Chunk.blk W.heap.size e ⟨news⟩])[i]? = some (.row base e size v n xs) := by rw [List.getElem?_append_left hil]; exact hi
 have H2 := Mem.push i H1 hi1 hg ho (fun k hk => by
   by_cases h1 : some k = v.ownBlock
   · exact .inl h1.symm
   · rcases Nat.lt_or_ge k (W.alloc (.cells ⟨news⟩ e)).heap.size with h2 | h2
     · exact absurd hk.symm (hb k h2 h1)
     · exact .inr h2)
 rw [List.set_append_left _ _ hil] at H2
 exact H2.sub (List.sublist_append_left _ _)
theorem wpList_pushM {Q : Exit → Act → World → Prop} (E : Elem P t e size bytes) (hgd : o.guard = none) (s x : Operand)
   (ho : o.op = .call { callee := .builtin .append, args := #[s, x], argTypes := #[t, t] })
   (i : Nat) (H : Mem w0 G W L) (hi : L[i]? = some (.row base e size v n xs)) (hs : a.eval s = v) (g : Nat) (hgW : W.heap.size = g) (hx : a.eval x = .slice (some ⟨g, 0, none⟩) 1 1)
   (hl : news.length = size) (h1 : ∀ u ∈ news, u.oneCell' = true) (hbytes : (n + 1) * bytes ≤ 140737488355328) (hmax : n + 1 ≤ maxLen) (hbase : base ≤ W.heap.size)
   (h : ∀ A' c' w', Mem w0 G w' (L.set i (.row base e size (.slice A' (n + 1) c') (n + 1) (xs ++ news))) → wpList P ops Q rest (a.put o.dst (.slice A' (n + 1) c')) w') : wpList P ops Q (o :: rest) a (W.alloc (.cells ⟨news⟩ e)) :=
 wpList_pushk E hgd s x ho _ base g v n xs news hs ((H.own_ i hi).alloc _) hx (hgW ▸ heap_alloc_new W _) hl h1 hbytes hmax (by simp; omega) fun A' c' w' ho' _ hg hb => h A' c' w' (mem_pushed H hi ho' hg hb)
end
end Go.Proofs.YtpcgpnkmjjamhaaGreatDoor
namespace Go.Proofs.YtpcgpnkmjjamhaaGreatDoor
open Go.RowKit
set_option linter.unusedVariables false
set_option maxRecDepth 100000
theorem Mem.row2 {w0 w w' : World} {G : List Nat} {l : List Chunk} {e1 e2 s1 s2 n1 n2 : Nat} {v1 v2 : Value} {xs1 xs2 : List Value} (H : Mem w0 G w l) (hb : Below w.heap.size w w') (h1 : w'.ownsRow w.heap.size e1 s1 v1 n1 xs1) (h2 : w'.ownsRow w.heap.size e2 s2 v2 n2 xs2) (hne : e1 ≠ e2) :
   Mem w0 G w' (l ++ [.row w.heap.size e1 s1 v1 n1 xs1, .row w.heap.size e2 s2 v2 n2 xs2]) := by
 have H1 := Mem.row H hb h1 (Nat.le_refl _)
 have H2 := Mem.row H hb h2 (Nat.le_refl _)
 have hap : (Chunk.row w.heap.size e1 s1 v1 n1 xs1).apart (Chunk.row w.heap.size e2 s2 v2 n2 xs2) := by
   intro k hk hk2
   rcases own_ne_type h1 h2 hne with h | h
   · simp only [Chunk.num] at hk; rw [h] at hk; cases hk
   · simp only [Chunk.num] at hk hk2; rw [hk, hk2] at h; exact h rfl
 refine ⟨H1.keep, fun c hc => ?_, ?_, fun c hc k hk => ?_⟩
 · rcases List.mem_append.1 hc with hc | hc
   · exact H1.ok c (List.mem_append_left _ hc)
   · rcases List.mem_cons.1 hc with rfl | hc
     · exact h1
     · obtain rfl := List.mem_singleton.1 hc; exact h2
 · rw [List.pairwise_append]
   refine ⟨H.pair, by simp only [List.pairwise_cons, List.mem_singleton, forall_eq, List.not_mem_nil, false_imp_iff, implies_true, List.Pairwise.nil, and_true]; exact hap, fun a ha b hb' => ?_⟩
   rcases List.mem_cons.1 hb' with rfl | hb'
   · have := H1.pair
     rw [List.pairwise_append] at this
     exact this.2.2 a ha _ (by simp)
   · obtain rfl := List.mem_singleton.1 hb'
     have := H2.pair
     rw [List.pairwise_append] at this
     exact this.2.2 a ha _ (by simp)
 · rcases List.mem_append.1 hc with hc | hc
   · exact H1.own c (List.mem_append_left _ hc) k hk
   · rcases List.mem_cons.1 hc with rfl | hc
     · exact H1.own _ (by simp) k hk
     · obtain rfl := List.mem_singleton.1 hc; exact H2.own _ (by simp) k hk
end Go.Proofs.YtpcgpnkmjjamhaaGreatDoor

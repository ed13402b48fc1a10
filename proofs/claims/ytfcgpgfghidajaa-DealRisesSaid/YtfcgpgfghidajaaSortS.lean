/- slices.SortStableFunc over a row of places, by cents.Deal's comparison. -/
import Derived.Test.YtfcgpgfghidajaaDealC
import Derived.Test.YtfcgpgfghidajaaHeap
namespace Go.Proofs.Ytfcgpgfghidajaa
open Go.RowKit Go.Sort
set_option linter.unusedVariables false
/-- A row of n numbers. -/
def tab (n : Nat) (f : Nat → Nat) : Array Value := ((List.range n).map fun i => Value.int .i64 ((f i : Nat) : Int)).toArray
theorem tab_size (n : Nat) (f : Nat → Nat) : (tab n f).size = n := by simp [tab]
theorem tab_get {n i : Nat} (f : Nat → Nat) (h : i < n) : (tab n f)[i]? = some (.int .i64 ((f i : Nat) : Int)) := by simp [tab, h]
theorem tab_none {n i : Nat} (f : Nat → Nat) (h : n ≤ i) : (tab n f)[i]? = none := by simp [tab, h]
theorem tab_ext {n : Nat} {f : Nat → Nat} {c : Array Value} (hs : c.size = n) (h : ∀ i, i < n → c[i]? = some (.int .i64 ((f i : Nat) : Int))) : c = tab n f := by
  apply Array.ext_getElem?
  intro i
  by_cases hi : i < n
  · rw [h i hi, tab_get f hi]
  · rw [tab_none f (by omega)]
    simp; omega
theorem tab_set {n i v : Nat} (f : Nat → Nat) (h : i < n) : (tab n f).setIfInBounds i (.int .i64 (v : Int)) = tab n (fun j => if j = i then v else f j) := by
  apply tab_ext (by simp [tab_size])
  intro j hj
  rw [Array.getElem?_setIfInBounds]
  by_cases e : i = j
  · subst e; simp [tab_size, h]
  · rw [if_neg e, tab_get f hj, if_neg (Ne.symm e)]
theorem tab_congr {n : Nat} {f g : Nat → Nat} (h : ∀ i, i < n → f i = g i) : tab n f = tab n g := tab_ext (tab_size n f) (fun i hi => by rw [tab_get f hi, h i hi])
theorem tab_zero (n : Nat) : (List.replicate n (Value.int .i64 0)).toArray = tab n (fun _ => 0) := tab_ext (by simp) (fun i hi => by simp [hi])
theorem modify_at (a : Array Obj) (i k : Nat) (f : Obj → Obj) : (a.modify i f)[k]? = if i = k then (a[k]?).map f else a[k]? := by
  rw [Array.getElem?_modify]
theorem sw_grownBy {α : Type} [Inhabited α] {enc : α → Value} {w0 W : World} {blk off : Nat} {dk : Array α} (h : SW enc w0 blk off dk W) : w0.grownBy W (some blk) := by
  have hle := h.le
  obtain ⟨m, os, rfl⟩ := h
  refine ⟨rfl, rfl, rfl, hle, fun k hk hn => ?_⟩
  unfold sortWorld
  rw [heap_grow_old _ _ (by rw [size_putRow]; exact hk)]
  show ((w0.heap.modify blk _)[k]?) = _
  rw [modify_at, if_neg (fun e => hn (by rw [e]))]
/-- The row's block behind the sort. -/
theorem sw_blk {f : Nat → Nat} {w0 W : World} {blk n : Nat} {t : TypeId} {cs : Array Value} {d0 dk : Array Nat} (h : SW (encN f) w0 blk 0 dk W) (R : Row1 (encN f) w0 blk 0 d0) (hs : dk.size = d0.size) (hn : dk.size = n) (hB : Blk w0 blk t cs) (hc : cs.size = n) : Blk W blk t (tab n fun i => f dk[i]!) := by
  have hc1 := fun i hi => h.c1 R hs i hi
  have hlt := hB.lt
  obtain ⟨m, os, rfl⟩ := h
  have hB2 : Blk (sortWorld (encN f) w0 blk 0 m dk os) blk t (putCells (encN f) 0 dk cs) := by
    unfold Blk sortWorld
    rw [heap_grow_old _ _ (by rw [size_putRow]; exact hlt)]
    show ((w0.heap.modify blk _)[blk]?) = _
    rw [modify_at, if_pos rfl, show w0.heap[blk]? = some (.cells cs t (0, 0)) from hB]
    rfl
  rwa [tab_ext (n := n) (c := putCells (encN f) 0 dk cs) (f := fun i => f dk[i]!) (by simp [putCells, hc]) (fun i (hi : i < n) => by
    rw [← hB2.cell i]
    have := hc1 i (by rw [hn]; exact hi)
    rw [Nat.zero_add] at this
    exact this)] at hB2
/-- Within the places. -/
def inb (n x : Nat) : Nat := if x < n then x else 0
theorem inb_lt {n : Nat} (h : 0 < n) (x : Nat) : inb n x < n := by unfold inb; split <;> omega
theorem inb_of {n x : Nat} (h : x < n) : inb n x = x := if_pos h
theorem CutAt.kept {t all : Nat} {l : List Nat} {g1 g2 g3 g4 b off c g : Nat} {W W' : World} (H : CutAt t all l g1 g2 g3 g4 b off c W) (hg : W.grownBy W' (some g)) (hlt : ∀ k, k = g1 ∨ k = g2 ∨ k = g3 ∨ k = g4 ∨ k = b → k < W.heap.size ∧ k ≠ g) : CutAt t all l g1 g2 g3 g4 b off c W' := by
  have e : ∀ k o, (k = g1 ∨ k = g2 ∨ k = g3 ∨ k = g4 ∨ k = b) → W'.cell? ⟨k, o, none⟩ = W.cell? ⟨k, o, none⟩ := fun k o hk => World.cell?_of_block (hg.block k (hlt k hk).1 (fun e => (hlt k hk).2 (Option.some.inj e)))
  refine ⟨?_, ?_, ?_, ?_, fun x hx => ?_⟩
  · rw [e _ _ (by simp)]; exact H.c1
  · rw [e _ _ (by simp)]; exact H.c2
  · rw [e _ _ (by simp)]; exact H.c3
  · rw [e _ _ (by simp)]; exact H.c4
  · rw [e _ _ (by simp)]; exact H.ws x hx
theorem fst_inb {key : Nat → Nat} {n x y : Nat} (hx : x < n) (hy : y < n) (h : Fst (fun k => key (inb n k)) x y) : Fst key x y := by
  unfold Fst at *
  simp only [inb_of hx, inb_of hy] at h
  exact h
/-- The order that is left. -/
theorem ord_of {key : Nat → Nat} {n : Nat} {d' : Array Nat} (hp : PermIn 0 n (List.range n).toArray d') (hs : Srt (fun k => key (inb n k)) 0 n d') : Ord key n d'.toList ∧ ∀ i, i < n → d'[i]! < n := by
  have hsz : d'.size = n := by rw [hp.1]; simp
  have hperm : d'.toList.Perm (List.range n) := by
    have h := hp.2.2
    rw [show d'.extract 0 n = d' by simp [hsz], show (List.range n).toArray.extract 0 n = (List.range n).toArray by simp] at h
    exact h
  have hlt : ∀ i, i < n → d'[i]! < n := fun i hi => by
    have hm : d'[i]! ∈ d'.toList := by
      rw [getElem!_pos d' i (by omega)]
      exact Array.getElem_mem_toList (by omega)
    exact List.mem_range.1 (hperm.mem_iff.1 hm)
  refine ⟨⟨hperm, ?_⟩, hlt⟩
  rw [List.pairwise_iff_getElem]
  intro i j hi hj hij
  simp at hi hj
  have h := fst_inb (hlt i (by omega)) (hlt j (by omega)) (hs i j (by omega) hij (by omega))
  rw [getElem!_pos d' i (by omega), getElem!_pos d' j (by omega)] at h
  exact h
/-- What the sort leaves. -/
def RetSort (t all : Nat) (l : List Nat) (g : Nat) (W : World) (e : Ending) (W' : World) : Prop :=
  e = .returned (.tuple #[]) ∧ W.grownBy W' (some g) ∧ ∃ o : List Nat, Ord (keyF t all l) l.length o ∧ Blk W' g 3 (tab l.length fun i => o.getD i 0)
set_option maxRecDepth 100000 in
set_option maxHeartbeats 4000000 in
theorem sort_ok (t all : Nat) (l : List Nat) (g1 g2 g3 g4 b off c g : Nat) (W : World) (H : CutAt t all l g1 g2 g3 g4 b off c W) (K : CutIn t all l) (hlt : ∀ k, k = g1 ∨ k = g2 ∨ k = g3 ∨ k = g4 ∨ k = b → k < W.heap.size ∧ k ≠ g) (hl : 0 < l.length) (hl2 : l.length ≤ 50) (hB : Blk W g 3 (tab l.length fun i => i)) :
    Calls Try.prog 11 #[.slice (some ⟨g, 0, none⟩) l.length l.length, .func (.func 12) #[] #[.pointer (some ⟨g4, 0, none⟩)]] W (RetSort t all l g W) := by
  have eg : ∀ args w, (callFunc 12 args).run Try.prog w = .ok (.enter 12 args) w := enters_of Try.func12 (by kernel_rfl) rfl
  have hsz : (List.range l.length).toArray.size = l.length := by simp
  have R : Row1 (encN (inb l.length)) W g 0 (List.range l.length).toArray := by
    refine ⟨fun x => rfl, fun j hj => ?_, hB.lt⟩
    rw [hsz] at hj
    rw [Nat.zero_add, hB.cell, hB.frozen, tab_get _ hj, getElem!_pos _ j (by rw [hsz]; exact hj)]
    simp [encN, inb, hj]
  have S : SW (encN (inb l.length)) W g 0 (List.range l.length).toArray W := SW.start R.hH
  have hcmp : CmpLays1 Try.prog 12 #[.pointer (some ⟨g4, 0, none⟩)] (encN (inb l.length)) (cfK fun k => keyF t all l (inb l.length k)) g 0 (List.range l.length).toArray.size W := by
    intro m os dk hs x y
    have hG := sw_grownBy (enc := encN (inb l.length)) (w0 := W) (blk := g) (off := 0) (dk := dk) ⟨m, os, rfl⟩
    refine (cmp_ok t all l g1 g2 g3 g4 b off c (inb l.length x) (inb l.length y) _ (H.kept hG hlt) K (inb_lt hl x) (inb_lt hl y)).mono ?_
    rintro e w' ⟨he, q, hq⟩
    exact ⟨he, q, #[], by rw [hq, grow_empty]⟩
  have hC := stable_ok (inb l.length) (fun k => keyF t all l (inb l.length k)) 12 #[.pointer (some ⟨g4, 0, none⟩)] g 0 l.length l.length (List.range l.length).toArray (List.range l.length).toArray W W eg hcmp R rfl S hsz.symm (by omega) (fun i hi => by simp [hi])
  have HR := Lib.hid R
  have HB := Lib.hid hB
  clear hcmp S R H K hlt hl hl2 hB eg hsz
  obtain ⟨n, hn⟩ : ∃ n, l.length = n := ⟨_, rfl⟩
  unfold RetSort
  rw [hn] at hC HR HB ⊢
  go_enter Try.func11, Try.ntmps11
  go_wp2_with fail
  refine hC.mono ?_
  rintro e w' ⟨rfl, d', hp, hst, S'⟩
  have hd : d'.size = n := by rw [hp.1]; simp
  obtain ⟨ho, hlt⟩ := ord_of hp hst
  have hb := sw_blk S' HR.out (by rw [hd]; simp) hd HB.out (tab_size _ _)
  have hg := sw_grownBy S'
  rw [tab_congr (g := fun i => d'.toList.getD i 0) (fun i hi => by
    rw [inb_of (hlt i hi), getElem!_pos d' i (by omega)]
    simp [List.getD, hd, hi])] at hb
  clear hC S' hp hst
  have HZ := Lib.hid (And.intro hg (And.intro ho hb))
  clear hg ho hb
  go_wp2
  go_end0
  exact ⟨rfl, HZ.out.1, d'.toList, HZ.out.2.1, HZ.out.2.2⟩
end Go.Proofs.Ytfcgpgfghidajaa

/- Words and writes as lists: plain definitions, and what a slice value that reads as such is. -/
import Derived.Test.YtfcgpgfghidajaaPicked
import Derived.Test.YtfcgpgfghidajaaMem
import Derived.Laws.CopyOwn
import Derived.Laws.MakeOwn
namespace Go.Proofs.Ytfcgpgfghidajaa
open Go.RowKit

/-- The cells of words. -/
def ws (xs : List Nat) : List Value := xs.map fun (x : Nat) => Value.int .u32 (x : Int)
/-- The cells of writes. -/
def wrs (l : List (Nat × Nat)) : List Value := l.flatMap fun (p : Nat × Nat) => [Value.int .i64 (p.1 : Int), Value.int .u32 (p.2 : Int)]
/-- The first writes done. -/
def applyW (xs : List Nat) (l : List (Nat × Nat)) : List Nat := l.foldl (fun x p => x.set p.1 p.2) xs
theorem applyW_length (xs : List Nat) (l : List (Nat × Nat)) : (applyW xs l).length = xs.length := by
  unfold applyW
  induction l generalizing xs with
  | nil => rfl
  | cons p l ih => simp only [List.foldl_cons]; rw [ih]; simp
theorem applyW_snoc (xs : List Nat) (l : List (Nat × Nat)) (p : Nat × Nat) : applyW xs (l ++ [p]) = (applyW xs l).set p.1 p.2 := by simp [applyW]
theorem applyW_append (xs : List Nat) (a b : List (Nat × Nat)) : applyW xs (a ++ b) = applyW (applyW xs a) b := by simp [applyW]
theorem applyW_lt {xs : List Nat} {l : List (Nat × Nat)} (hx : ∀ x ∈ xs, x < 4294967296) (hl : ∀ p ∈ l, p.2 < 4294967296) : ∀ x ∈ applyW xs l, x < 4294967296 := by
  induction l generalizing xs with
  | nil => exact hx
  | cons p l ih =>
    refine ih (fun x hx' => ?_) (fun q hq => hl q (by simp [hq]))
    rcases List.mem_or_eq_of_mem_set hx' with h | h
    · exact hx x h
    · have := hl p (by simp); omega
theorem ws_length (xs : List Nat) : (ws xs).length = xs.length := by simp [ws]
theorem wrs_length (l : List (Nat × Nat)) : (wrs l).length = l.length * 2 := by
  induction l with
  | nil => rfl
  | cons p l ih =>
    show ([Value.int .i64 p.1, Value.int .u32 p.2] ++ wrs l).length = _
    rw [List.length_append, ih]; simp only [List.length_cons, List.length_nil]; omega
theorem ws_get {xs : List Nat} {i : Nat} (h : i < xs.length) : (ws xs)[i]? = some (.int .u32 xs[i]) := by simp [ws, h]
theorem wrs_get {l : List (Nat × Nat)} {i : Nat} (h : i < l.length) : (wrs l)[i * 2]? = some (.int .i64 l[i].1) ∧ (wrs l)[i * 2 + 1]? = some (.int .u32 l[i].2) := by
  induction l generalizing i with
  | nil => simp at h
  | cons p l ih =>
    cases i with
    | zero => exact ⟨rfl, rfl⟩
    | succ i =>
      have := ih (i := i) (by simp at h; omega)
      simp only [List.getElem_cons_succ]
      rw [Nat.succ_mul]
      exact this
theorem ws_append (a b : List Nat) : ws (a ++ b) = ws a ++ ws b := by simp [ws]
theorem wrs_append (a b : List (Nat × Nat)) : wrs (a ++ b) = wrs a ++ wrs b := by simp [wrs]
theorem ws_set (xs : List Nat) (i x : Nat) : ws (xs.set i x) = (ws xs).set i (.int .u32 x) := by simp [ws, List.map_set]

/-- The value is a slice that reads as these words. -/
def IsWs (w : World) (v : Value) (xs : List Nat) : Prop :=
  ∃ (A : Option Addr) (c : Nat), v = .slice A xs.length c ∧ xs.length ≤ c ∧ c ≤ maxLen ∧ (∀ x ∈ xs, x < 4294967296) ∧ Rd w w.heap.size 1 A xs.length (ws xs)
/-- The value is a slice that reads as these writes. -/
def IsWr (w : World) (v : Value) (l : List (Nat × Nat)) : Prop :=
  ∃ (A : Option Addr) (c : Nat), v = .slice A l.length c ∧ l.length ≤ c ∧ c ≤ maxLen ∧ (∀ p ∈ l, p.2 < 4294967296) ∧ Rd w w.heap.size 2 A l.length (wrs l)
theorem IsWs.below {w w' : World} {v : Value} {xs : List Nat} (h : IsWs w v xs) (hb : Below w.heap.size w w') : IsWs w' v xs := by
  obtain ⟨A, c, h1, h2, h3, h4, h5⟩ := h
  exact ⟨A, c, h1, h2, h3, h4, (h5.below hb).more hb.size⟩
theorem IsWr.below {w w' : World} {v : Value} {l : List (Nat × Nat)} (h : IsWr w v l) (hb : Below w.heap.size w w') : IsWr w' v l := by
  obtain ⟨A, c, h1, h2, h3, h4, h5⟩ := h
  exact ⟨A, c, h1, h2, h3, h4, (h5.below hb).more hb.size⟩
theorem own_cap {w : World} {base e size n : Nat} {A : Option Addr} {c : Nat} {xs : List Value} (h : w.ownsRow base e size (.slice A n c) n xs) : n ≤ c ∧ c ≤ maxLen := by
  rcases h.2 with ⟨h1, h2⟩ | ⟨g, cap, cur, h1, _, _, h2, h3, _⟩
  · injection h1 with _ _ h1; subst h1; subst h2; exact ⟨Nat.le_refl _, Nat.zero_le _⟩
  · injection h1 with _ _ h1; subst h1; exact ⟨h2, h3⟩
theorem isws_own {w : World} {base e : Nat} {A : Option Addr} {n c : Nat} {xs : List Nat} (hn : xs.length = n) (hx : ∀ x ∈ xs, x < 4294967296) (h : w.ownsRow base e 1 (.slice A n c) n (ws xs)) : IsWs w (.slice A n c) xs := by
  subst hn
  exact ⟨A, c, rfl, (own_cap h).1, (own_cap h).2, hx, Rd.of_own h⟩
theorem iswr_own {w : World} {base e : Nat} {A : Option Addr} {n c : Nat} {l : List (Nat × Nat)} (hn : l.length = n) (hx : ∀ p ∈ l, p.2 < 4294967296) (h : w.ownsRow base e 2 (.slice A n c) n (wrs l)) : IsWr w (.slice A n c) l := by
  subst hn
  exact ⟨A, c, rfl, (own_cap h).1, (own_cap h).2, hx, Rd.of_own h⟩
/-- A block that is just these cells. -/
def Blk (w : World) (g : Nat) (t : TypeId) (cs : Array Value) : Prop := w.heap[g]? = some (.cells cs t (0, 0))
theorem Blk.lt {w : World} {g : Nat} {t : TypeId} {cs : Array Value} (h : Blk w g t cs) : g < w.heap.size := by
  rcases Nat.lt_or_ge g w.heap.size with hlt | hge
  · exact hlt
  · unfold Blk at h; rw [Array.getElem?_eq_none hge] at h; cases h
theorem Blk.cell {w : World} {g : Nat} {t : TypeId} {cs : Array Value} (h : Blk w g t cs) (i : Nat) : w.cell? ⟨g, i, none⟩ = cs[i]? := cell_of_row w g i cs t (0, 0) h
theorem Blk.frozen {w : World} {g : Nat} {t : TypeId} {cs : Array Value} (h : Blk w g t cs) (i : Nat) : w.frozen? ⟨g, i, none⟩ = false := by
  unfold Blk at h; simp [World.frozen?, h]
theorem Blk.new (w : World) (t : TypeId) (cs : Array Value) : Blk (w.alloc (.cells cs t)) w.heap.size t cs := heap_alloc_new w _
theorem Blk.below {w w' : World} {B g : Nat} {t : TypeId} {cs : Array Value} (h : Blk w g t cs) (hb : Below B w w') (hg : g < B) : Blk w' g t cs := (hb.block g hg).trans h
theorem Blk.set_ {w : World} {g : Nat} {t : TypeId} {cs : Array Value} (h : Blk w g t cs) (i : Nat) (u : Value) : Blk (w.setCell ⟨g, i, none⟩ u) g t (cs.setIfInBounds i u) := by
  unfold Blk at h ⊢
  simp [World.setCell, Array.getElem?_modify, h]
theorem Blk.alloc {w : World} {g : Nat} {t : TypeId} {cs : Array Value} (h : Blk w g t cs) (o : Obj) : Blk (w.alloc o) g t cs := (Below.heap_alloc w o g h.lt).trans h
theorem Blk.far {w : World} {g : Nat} {t : TypeId} {cs : Array Value} (h : Blk w g t cs) {p : Addr} (hp : g ≠ p.block) (u : Value) : Blk (w.setCell p u) g t cs := (Below.heap_setCell w p u g hp).trans h
/-- A row that begins at a block's head. -/
theorem Blk.rd {w : World} {g n s : Nat} {t : TypeId} {cs : Array Value} (h : Blk w g t cs) (hn : cs.size = n * s) : Rd w w.heap.size s (some ⟨g, 0, none⟩) n cs.toList := by
  refine ⟨by simpa using hn, fun _ => ⟨g, 0, rfl, h.lt, fun j u hu => ?_⟩⟩
  rw [Nat.zero_add, h.cell]; simpa using hu
theorem isws_blk {w : World} {g : Nat} {t : TypeId} {xs : List Nat} (hm : xs.length ≤ maxLen) (hx : ∀ x ∈ xs, x < 4294967296) (h : Blk w g t (ws xs).toArray) : IsWs w (.slice (some ⟨g, 0, none⟩) xs.length xs.length) xs := by
  refine ⟨_, _, rfl, Nat.le_refl _, hm, hx, ?_⟩
  have := h.rd (n := xs.length) (s := 1) (by simp [ws_length])
  simpa using this
/-- make([]T, n), T a kind of integers. -/
theorem run_make_n {P : Program} {t e : TypeId} {k : IntKind} {bytes : Nat} (hu : P.underlying t = some (.slice e)) (hinfo : (P.info? e).map (fun i => (i.zero, i.size, i.bytes)) = some (some (.int k 0), 1, bytes)) (n : Nat) (hb : bytes * n ≤ 281474976710656) (h63 : n ≤ 9223372036854775807) (w : World) :
    (Instr.makeSlice t (.int .i64 n) (.int .i64 n)).run P w = .ok (.slice (some ⟨w.heap.size, 0, none⟩) n n) (w.alloc (.cells (List.replicate n (.int k 0)).toArray e)) := by
  obtain ⟨i, hi, hz, hsize, hby⟩ := info_parts hinfo
  have hbn : (i.bytes : Int) * (n : Int) ≤ 281474976710656 := by
    rw [hby, ← Int.natCast_mul]; omega
  have h := run_make (P := P) w t e i (.int k 0) hu hi hz .i64 .i64 n n (by omega) (by omega) hbn (by omega)
  simp only [Int.toNat_natCast] at h
  rw [h, hsize, Nat.mul_one]
  congr 3
  apply Array.ext
  · simp [madeCells]
  · intro j h1 h2
    simp [madeCells, Value.cells, Nat.mod_one]
/-- copy(d, s) into what make has just laid, of the same length. -/
theorem wpList_copy_new {P : Program} {ops : Array Oper} {rest : List Oper} {o : Oper} {a : Act} {Q : Exit → Act → World → Prop} (hgd : o.guard = none) (d s : Operand) {dT sT elem : TypeId}
    (ho : o.op = .call { callee := .builtin .copy, args := #[d, s], argTypes := #[dT, sT] }) (hu : P.underlying dT = some (.slice elem)) (hsz : (P.info? elem).map (·.size) = some 1)
    (W : World) (n : Nat) (z : Value) (sp : Option Addr) (sCap : Nat) (cs : List Value) (hd : a.eval d = .slice (some ⟨W.heap.size, 0, none⟩) n n) (hs : a.eval s = .slice sp n sCap)
    (hr : Rd W W.heap.size 1 sp n cs) (h1 : ∀ v ∈ cs, v.oneCell' = true)
    (h : ∀ w', Blk w' W.heap.size elem cs.toArray → Below W.heap.size W w' → wpList P ops Q rest (a.put o.dst (goInt cs.length)) w') :
    wpList P ops Q (o :: rest) a (W.alloc (.cells (Array.replicate n z) elem)) := by
  have hlen : cs.length = n := by have := hr.len; omega
  refine wpList_copy_splice hgd d s dT sT ho elem hu hsz _ _ _ _ _ _ hd hs W.heap.size 0 (List.replicate n z) elem ?_ cs (by rw [hlen]; exact (Nat.min_self n).symm) ?_ (by simp [hlen]) h1 W.heap.size W (below_a1 W _) (Nat.le_refl _) ?_
  · have := heap_alloc_new W (.cells (Array.replicate n z) elem)
    simpa using this
  · intro hp
    obtain ⟨b, off, rfl, hB, hc⟩ := hr.at_ (by omega)
    refine ⟨rfl, ⟨b, off, none⟩, rfl, fun j v hv => ?_⟩
    rw [add_none, World.cell?_alloc_lt W _ _ (by show b < W.heap.size; exact hB)]
    exact hc j v hv
  · intro w' hh hb
    refine h w' ?_ hb
    have := hh.out
    unfold Blk
    rw [this]
    have e : splice (List.replicate n z) 0 cs = cs := by
      unfold splice
      simp [hlen]
    rw [e]
end Go.Proofs.Ytfcgpgfghidajaa

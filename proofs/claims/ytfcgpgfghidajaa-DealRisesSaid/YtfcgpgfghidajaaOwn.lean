/- Rows of the call's own, over calls and over stores elsewhere; slices of integers. -/
import Derived.Test.YtfcgpgfghidajaaPush
import Derived.Test.YtfcgpgfghidajaaCellD
import Derived.OwnWalk
namespace Go.Proofs.Ytfcgpgfghidajaa
open Go.RowKit
section
variable {w w' : World} {base : Nat} {e : TypeId} {size : Nat} {v : Value} {n : Nat} {xs : List Value}
theorem own_below (h : w.ownsRow base e size v n xs) (hb : Below w.heap.size w w') : w'.ownsRow base e size v n xs :=
  h.kept (row := none) ⟨hb.os, hb.tape, hb.output, hb.size, fun i hi _ => hb.block i hi⟩ (by cases v.ownBlock <;> simp)
theorem own_far (h : w.ownsRow base e size v n xs) {p : Addr} (hp : p.block < base) (u : Value) : (w.setCell p u).ownsRow base e size v n xs := by
  refine h.kept (row := some p.block) ⟨rfl, rfl, rfl, by simp, fun k _ hk => heap_setCell_other w p k u (fun e => hk (by simp [e]))⟩ ?_
  cases hv : v.ownBlock with
  | none => exact .inl rfl
  | some g =>
    have := (h.lt g hv).1
    refine .inr ?_
    intro h'
    injection h' with h'
    omega
theorem own_other (h : w.ownsRow base e size v n xs) {p : Addr} (hp : some p.block ≠ v.ownBlock) (u : Value) : (w.setCell p u).ownsRow base e size v n xs :=
  h.kept (row := some p.block) ⟨rfl, rfl, rfl, by simp, fun k _ hk => heap_setCell_other w p k u (fun e => hk (by simp [e]))⟩ (.inr (fun e => hp e.symm))
theorem own_mono (h : w.ownsRow base e size v n xs) {b' : Nat} (hb : b' ≤ base) : w.ownsRow b' e size v n xs := by
  refine ⟨h.1, ?_⟩
  rcases h.2 with h2 | ⟨g, cap, cur, h1, h2, h3⟩
  · exact .inl h2
  · exact .inr ⟨g, cap, cur, h1, Nat.le_trans hb h2, h3⟩
theorem own_drewN (h : w.ownsRow base e size v n xs) (k : Nat) : (w.drewN k).ownsRow base e size v n xs := h
end
/-- append of one element: what else is known of the world behind it. -/
theorem wpList_pushk {P : Program} {ops : Array Oper} {rest : List Oper} {o : Oper} {a : Act} {Q : Exit → Act → World → Prop} {t e : TypeId} {size bytes : Nat} (E : Elem P t e size bytes) (hgd : o.guard = none) (s x : Operand)
    (ho : o.op = .call { callee := .builtin .append, args := #[s, x], argTypes := #[t, t] })
    (W : World) (base g : Nat) (v : Value) (n : Nat) (xs news : List Value) (hs : a.eval s = v) (hown : W.ownsRow base e size v n xs) (hx : a.eval x = .slice (some ⟨g, 0, none⟩) 1 1) (hg : W.heap[g]? = some (.cells ⟨news⟩ e (0, 0)))
    (hl : news.length = size) (h1 : ∀ u ∈ news, u.oneCell' = true) (hbytes : (n + 1) * bytes ≤ 140737488355328) (hmax : n + 1 ≤ maxLen) (hbase : base ≤ W.heap.size)
    (h : ∀ A' c' w', w'.ownsRow base e size (.slice A' (n + 1) c') (n + 1) (xs ++ news) → Below base W w' → W.grownBy w' v.ownBlock → (∀ b, b < W.heap.size → some b ≠ v.ownBlock → some b ≠ (Value.slice A' (n + 1) c').ownBlock) → wpList P ops Q rest (a.put o.dst (.slice A' (n + 1) c')) w') : wpList P ops Q (o :: rest) a W := by
  obtain ⟨i, z, hi, hz, hsize, hby, hzs⟩ := E.info
  refine wpList_append_lies W hgd s x t ho base e i z size bytes E.und hi hz hsize hby hzs E.pos v n xs hs hown ⟨g, 0, none⟩ 1 1 news hx (by omega) ?_ h1 (by omega) hmax hbytes hbase _ rfl ?_
  · intro j u hj
    exact World.news_of_block hg j u hj
  · intro g' c' w' ho' hgr hor _
    refine h _ _ _ ho' ((Below.refl base W).grown hgr hbase (fun k hk => (hown.lt k hk).1)) hgr (fun b hb hne e => ?_)
    have e2 : b = g' := by simpa [Value.ownBlock] using e
    subst e2
    rcases hor with h | h
    · exact hne h.symm
    · omega
/-- A block known whole, over an append. -/
theorem Blk.grown {w w' : World} {g : Nat} {t : TypeId} {cs : Array Value} {row : Option Nat} (h : Blk w g t cs) (hg : w.grownBy w' row) (hne : some g ≠ row) : Blk w' g t cs := (hg.block g h.lt hne).trans h
theorem own_ne {w : World} {base : Nat} {e : TypeId} {size : Nat} {v : Value} {n : Nat} {xs : List Value} (h : w.ownsRow base e size v n xs) {g : Nat} (hg : w.heap.size ≤ g) : some g ≠ v.ownBlock := fun e => by
  have := (h.lt g e.symm).2
  omega
theorem heap_new_at (w : World) (o : Obj) (g : Nat) (h : w.heap.size = g) : (w.alloc o).heap[g]? = some o := by subst h; exact heap_alloc_new w o
/-- The cells of integers. -/
def nis (xs : List Nat) : List Value := xs.map fun (x : Nat) => Value.int .i64 (x : Int)
theorem nis_length (xs : List Nat) : (nis xs).length = xs.length := by simp [nis]
theorem nis_get {xs : List Nat} {i : Nat} (h : i < xs.length) : (nis xs)[i]? = some (.int .i64 xs[i]) := by simp [nis, h]
theorem nis_append (a b : List Nat) : nis (a ++ b) = nis a ++ nis b := by simp [nis]
theorem int_info : (Try.prog.info? 3).map (fun i => (i.zero, i.size, i.bytes)) = some (some (.int .i64 0), 1, 8) := by kernel_rfl
theorem el_int : Elem Try.prog 22 3 1 8 := elem_of Try.underlying22 int_info rfl (by omega)
/-- make([]T, n), T of one cell. -/
theorem run_make_z {P : Program} {t e : TypeId} {z : Value} {bytes : Nat} (hu : P.underlying t = some (.slice e)) (hinfo : (P.info? e).map (fun i => (i.zero, i.size, i.bytes)) = some (some z, 1, bytes)) (hz1 : z.cells = #[z]) (n : Nat) (hb : bytes * n ≤ 281474976710656) (h63 : n ≤ 9223372036854775807) (w : World) :
    (Instr.makeSlice t (.int .i64 n) (.int .i64 n)).run P w = .ok (.slice (some ⟨w.heap.size, 0, none⟩) n n) (w.alloc (.cells (List.replicate n z).toArray e)) := by
  obtain ⟨i, hi, hz, hsize, hby⟩ := info_parts hinfo
  have hbn : (i.bytes : Int) * (n : Int) ≤ 281474976710656 := by
    rw [hby, ← Int.natCast_mul]; omega
  have h := run_make (P := P) w t e i z hu hi hz .i64 .i64 n n (by omega) (by omega) hbn (by omega)
  simp only [Int.toNat_natCast] at h
  rw [h, hsize, Nat.mul_one, hz1]
  congr 3
  apply Array.ext
  · simp [madeCells]
  · intro j h1 h2
    simp [madeCells, Nat.mod_one]
/-- A slice value that reads as these numbers. -/
def IsNs (w : World) (v : Value) (xs : List Nat) : Prop :=
  ∃ (A : Option Addr) (c : Nat), v = .slice A xs.length c ∧ xs.length ≤ c ∧ c ≤ maxLen ∧ Rd w w.heap.size 1 A xs.length (nis xs)
theorem IsNs.below {w w' : World} {v : Value} {xs : List Nat} (h : IsNs w v xs) (hb : Below w.heap.size w w') : IsNs w' v xs := by
  obtain ⟨A, c, h1, h2, h3, h5⟩ := h
  exact ⟨A, c, h1, h2, h3, (h5.below hb).more hb.size⟩
theorem isns_own {w : World} {base e : Nat} {A : Option Addr} {n c : Nat} {l : List Nat} (hn : l.length = n) (h : w.ownsRow base e 1 (.slice A n c) n (nis l)) : IsNs w (.slice A n c) l := by
  subst hn
  exact ⟨A, c, rfl, (own_cap h).1, (own_cap h).2, Rd.of_own h⟩
theorem IsNs.at_ {w : World} {A : Option Addr} {n c : Nat} {l : List Nat} (h : IsNs w (.slice A n c) l) {k : Nat} (hk : k < l.length) :
    ∃ b off, A = some ⟨b, off, none⟩ ∧ b < w.heap.size ∧ w.cell? ⟨b, off + k, none⟩ = some (.int .i64 (l[k] : Nat)) := by
  obtain ⟨A', c', e, _, _, hr⟩ := h
  injection e with e1 e2
  subst e1
  obtain ⟨b, off, rfl, hB, hc⟩ := hr.at_ (by omega)
  exact ⟨b, off, rfl, hB, hc _ _ (nis_get hk)⟩
end Go.Proofs.Ytfcgpgfghidajaa

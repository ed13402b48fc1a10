/- Memory that a call makes for itself: laws whatever the program. -/
import Derived.Test.YtfcgpgfghidajaaFit
import Derived.Laws.BytesArg
import Derived.Deep.Draws
namespace Go.Proofs.Ytfcgpgfghidajaa
open Go.RowKit

/-- The table's row of a slice type t and its element type e. -/
structure Elem (P : Program) (t e : TypeId) (size bytes : Nat) : Prop where
  und : P.underlying t = some (.slice e)
  info : ∃ i z, P.info? e = some i ∧ i.zero = some z ∧ i.size = size ∧ i.bytes = bytes ∧ z.cells.size = size
  pos : 0 < size

section
variable {P : Program}
theorem elem_of {t e : TypeId} {size bytes : Nat} {z : Value} (hu : P.underlying t = some (.slice e)) (h : (P.info? e).map (fun i => (i.zero, i.size, i.bytes)) = some (some z, size, bytes)) (hz : z.cells.size = size) (hp : 0 < size) : Elem P t e size bytes := by
  obtain ⟨i, h1, h2, h3, h4⟩ := info_parts h
  exact ⟨hu, ⟨i, z, h1, h2, h3, h4, hz⟩, hp⟩

theorem cells_new (w : World) (news : List Value) (e : TypeId) : ∀ j u, news[j]? = some u → (w.alloc (.cells ⟨news⟩ e)).cell? ((⟨w.heap.size, 0, none⟩ : Addr).add j) = some u := by
  intro j u hj
  have h : (w.alloc (.cells ⟨news⟩ e)).heap[w.heap.size]? = some (.cells ⟨news⟩ e) := heap_alloc_new w _
  rw [add_none, Nat.zero_add, cell_of_row _ _ _ _ _ _ h]
  simpa using hj

theorem own_slice {w : World} {base e size n : Nat} {v : Value} {xs : List Value} (h : w.ownsRow base e size v n xs) : ∃ A c, v = .slice A n c := by
  rcases h.2 with ⟨rfl, rfl⟩ | ⟨g, cap, _, rfl, _⟩
  · exact ⟨none, 0, rfl⟩
  · exact ⟨_, cap, rfl⟩
/-- 'append(v, x)' of one element behind its own new block: the row that v owns is longer by x's cells. -/
theorem wpList_push {ops : Array Oper} {rest : List Oper} {o : Oper} {a : Act} {Q : Exit → Act → World → Prop} {t e : TypeId} {size bytes : Nat} (E : Elem P t e size bytes) (hgd : o.guard = none) (s x : Operand)
    (ho : o.op = .call { callee := .builtin .append, args := #[s, x], argTypes := #[t, t] })
    (w : World) (base : Nat) (v : Value) (n : Nat) (xs news : List Value) (hs : a.eval s = v) (hown : w.ownsRow base e size v n xs) (hx : a.eval x = .slice (some ⟨w.heap.size, 0, none⟩) 1 1)
    (hl : news.length = size) (h1 : ∀ u ∈ news, u.oneCell' = true) (hbytes : (n + 1) * bytes ≤ 140737488355328) (hmax : n + 1 ≤ maxLen) (hbase : base ≤ w.heap.size)
    (h : ∀ A' c' w', w'.ownsRow base e size (.slice A' (n + 1) c') (n + 1) (xs ++ news) → Below base w w' → w.grownBy w' v.ownBlock → wpList P ops Q rest (a.put o.dst (.slice A' (n + 1) c')) w') : wpList P ops Q (o :: rest) a (w.alloc (.cells ⟨news⟩ e)) := by
  obtain ⟨i, z, hi, hz, hsize, hby, hzs⟩ := E.info
  refine wpList_append_own _ hgd s x t ho base e i z size bytes E.und hi hz hsize hby hzs E.pos v n xs hs (hown.alloc _) ⟨w.heap.size, 0, none⟩ 1 1 news hx (by omega) (cells_new w news e) h1 hmax hbytes (by simp; omega) ?_
  intro v' w' ho' hg _
  have hgr : w.grownBy w' v.ownBlock :=
    ⟨hg.os, hg.tape, hg.output, Nat.le_trans (by simp) hg.size, fun k hk hne => (hg.block k (by simp; omega) hne).trans (Below.heap_alloc w _ k hk)⟩
  obtain ⟨A', c', rfl⟩ := own_slice ho'
  exact h A' c' w' ho' ((Below.refl _ _).grown hgr hbase (fun k hk => (hown.lt k hk).1)) hgr

/-- string(v) of a row of bytes that v owns. -/
theorem own_string {w : World} {base src dst e : TypeId} {A : Option Addr} {n c : Nat} {ns : List Int} (hs : P.underlying src = some (.slice e)) (he : P.underlying e = some (.int .u8)) (hd : P.underlying dst = some .string)
    (h : w.ownsRow base e 1 (.slice A n c) n (ns.map (Value.int .u8))) : (convert src dst (.slice A n c)).run P w = .ok (.string (strOfNums ns)) w := by
  have hlen : ns.length = n := by have := h.1; simpa using this
  by_cases hn : 0 < n
  · obtain ⟨b, off, rfl, _, hc⟩ := (Rd.of_own h).at_ hn
    refine run_convert_bytes_arg w src e hs he b off n c ns hlen (fun i hi => ?_) dst hd
    have := hc i (.int .u8 (ns.getD i 0)) (by simp [hlen, hi])
    exact this
  · have h0 : n = 0 := by omega
    subst h0
    have hns : ns = [] := List.eq_nil_of_length_eq_zero hlen
    subst hns
    rcases h.2 with ⟨h1, _⟩ | ⟨g, cap, cur, h1, _⟩
    · injection h1 with h1; subst h1
      exact run_convert_bytes_nil w src e hs he _ _ dst hd
    · injection h1 with h1; subst h1
      exact run_convert_bytes_arg w src e hs he g 0 0 c [] rfl (fun i hi => absurd hi (by omega)) dst hd
/-- string([]byte{x}). -/
theorem conv_one0 {src dst e : TypeId} (hs : P.underlying src = some (.slice e)) (he : P.underlying e = some (.int .u8)) (hd : P.underlying dst = some .string) (w : World) (x : Int) :
    (convert src dst (.slice (some ⟨w.heap.size, 0, none⟩) 1 1)).run P (w.alloc (.cells #[.int .u8 x] e)) = .ok (.string (strOfNums [x])) (w.alloc (.cells #[.int .u8 x] e)) := by
  refine run_convert_bytes_arg _ src e hs he w.heap.size 0 1 1 [x] rfl (fun i hi => ?_) dst hd
  have h := cells_new w [.int .u8 x] e i (.int .u8 x) (by
    obtain rfl : i = 0 := by omega
    rfl)
  rw [add_none] at h
  obtain rfl : i = 0 := by omega
  exact h
theorem conv_one {src dst e : TypeId} (hs : P.underlying src = some (.slice e)) (he : P.underlying e = some (.int .u8)) (hd : P.underlying dst = some .string) (w : World) (x : Int) (m : Nat) :
    (convert src dst (.slice (some ⟨w.heap.size, 0, none⟩) 1 1)).run P ((w.drewN m).alloc (.cells #[.int .u8 x] e)) = .ok (.string (strOfNums [x])) ((w.drewN m).alloc (.cells #[.int .u8 x] e)) :=
  conv_one0 hs he hd (w.drewN m) x
end
end Go.Proofs.Ytfcgpgfghidajaa

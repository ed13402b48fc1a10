/- append of one element to a row of the call's own, told by what lies in memory. -/
import Derived.Test.YtfcgpgfghidajaaHeap
import Derived.Test.YtfcgpgfghidajaaPush
namespace Go.Proofs.Ytfcgpgfghidajaa
open Go.RowKit
set_option linter.unusedVariables false
section
variable {P : Program} {ops : Array Oper} {rest : List Oper} {o : Oper} {a : Act} {t e : TypeId} {size bytes : Nat} {w0 W : World} {G : List Nat} {L : List Chunk} {base n : Nat} {v : Value} {xs news : List Value}
theorem mem_pushed {A' : Option Addr} {c' i : Nat} {w' : World} (H : Mem w0 G W L) (hi : L[i]? = some (.row base e size v n xs)) (ho : w'.ownsRow base e size (.slice A' (n + 1) c') (n + 1) (xs ++ news)) (hg : (W.alloc (.cells ⟨news⟩ e)).grownBy w' v.ownBlock)
    (hb : ∀ b, b < (W.alloc (.cells ⟨news⟩ e)).heap.size → some b ≠ v.ownBlock → some b ≠ (Value.slice A' (n + 1) c').ownBlock) : Mem w0 G w' (L.set i (.row base e size (.slice A' (n + 1) c') (n + 1) (xs ++ news))) := by
  have H1 := H.alloc _ rfl ⟨news⟩ e
  have hil : i < L.length := (List.getElem?_eq_some_iff.1 hi).1
  have hi1 : (L ++ [Chunk.blk W.heap.size e ⟨news⟩])[i]? = some (.row base e size v n xs) := by rw [List.getElem?_append_left hil]; exact hi
  have H2 := Mem.push i H1 hi1 hg ho (fun k hk => by
    by_cases h1 : some k = v.ownBlock
    · exact .inl h1.symm
    · rcases Nat.lt_or_ge k (W.alloc (.cells ⟨news⟩ e)).heap.size with h2 | h2
      · exact absurd hk.symm (hb k h2 h1)
      · exact .inr h2)
  rw [List.set_append_left _ _ hil] at H2
  exact H2.sub (List.sublist_append_left _ _)
theorem wpList_pushM {Q : Exit → Act → World → Prop} (E : Elem P t e size bytes) (hgd : o.guard = none) (s x : Operand)
    (ho : o.op = .call { callee := .builtin .append, args := #[s, x], argTypes := #[t, t] })
    (i : Nat) (H : Mem w0 G W L) (hi : L[i]? = some (.row base e size v n xs)) (hs : a.eval s = v) (g : Nat) (hgW : W.heap.size = g) (hx : a.eval x = .slice (some ⟨g, 0, none⟩) 1 1)
    (hl : news.length = size) (h1 : ∀ u ∈ news, u.oneCell' = true) (hbytes : (n + 1) * bytes ≤ 140737488355328) (hmax : n + 1 ≤ maxLen) (hbase : base ≤ W.heap.size)
    (h : ∀ A' c' w', Mem w0 G w' (L.set i (.row base e size (.slice A' (n + 1) c') (n + 1) (xs ++ news))) → wpList P ops Q rest (a.put o.dst (.slice A' (n + 1) c')) w') : wpList P ops Q (o :: rest) a (W.alloc (.cells ⟨news⟩ e)) :=
  wpList_pushk E hgd s x ho _ base g v n xs news hs ((H.own_ i hi).alloc _) hx (hgW ▸ heap_alloc_new W _) hl h1 hbytes hmax (by simp; omega) fun A' c' w' ho' _ hg hb => h A' c' w' (mem_pushed H hi ho' hg hb)
/-- The same; what else is known of the world behind it. -/
theorem wpList_pushMg {Q : Exit → Act → World → Prop} (E : Elem P t e size bytes) (hgd : o.guard = none) (s x : Operand)
    (ho : o.op = .call { callee := .builtin .append, args := #[s, x], argTypes := #[t, t] })
    (i : Nat) (H : Mem w0 G W L) (hi : L[i]? = some (.row base e size v n xs)) (hs : a.eval s = v) (g : Nat) (hgW : W.heap.size = g) (hx : a.eval x = .slice (some ⟨g, 0, none⟩) 1 1)
    (hl : news.length = size) (h1 : ∀ u ∈ news, u.oneCell' = true) (hbytes : (n + 1) * bytes ≤ 140737488355328) (hmax : n + 1 ≤ maxLen) (hbase : base ≤ W.heap.size)
    (h : ∀ A' c' w', Mem w0 G w' (L.set i (.row base e size (.slice A' (n + 1) c') (n + 1) (xs ++ news))) → (W.alloc (.cells ⟨news⟩ e)).grownBy w' v.ownBlock → wpList P ops Q rest (a.put o.dst (.slice A' (n + 1) c')) w') : wpList P ops Q (o :: rest) a (W.alloc (.cells ⟨news⟩ e)) :=
  wpList_pushk E hgd s x ho _ base g v n xs news hs ((H.own_ i hi).alloc _) hx (hgW ▸ heap_alloc_new W _) hl h1 hbytes hmax (by simp; omega) fun A' c' w' ho' _ hg hb => h A' c' w' (mem_pushed H hi ho' hg hb) hg
end
end Go.Proofs.Ytfcgpgfghidajaa

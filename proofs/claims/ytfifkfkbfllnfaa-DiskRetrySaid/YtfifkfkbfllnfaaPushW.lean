/- append of one element behind a guard that holds. -/
import Derived.Test.YtfifkfkbfllnfaaPush
namespace Go.Proofs.Ytfifkfkbfllnfaa
open Go.RowKit
theorem wpList_pushw {P : Program} {ops : Array Oper} {rest : List Oper} {o : Oper} {a : Act} {Q : Exit → Act → World → Prop} {t e : TypeId} {size bytes : Nat} (E : Elem P t e size bytes) (s x : Operand)
    (ho : o.op = .call { callee := .builtin .append, args := #[s, x], argTypes := #[t, t] }) (hw : Region.wanted o (yielded ops a.tmps) = true)
    (W : World) (base g : Nat) (v : Value) (n : Nat) (xs news : List Value) (hs : a.eval s = v) (hown : W.ownsRow base e size v n xs) (hx : a.eval x = .slice (some ⟨g, 0, none⟩) 1 1) (hg : W.heap[g]? = some (.cells ⟨news⟩ e (0, 0)))
    (hl : news.length = size) (h1 : ∀ u ∈ news, u.oneCell' = true) (hbytes : (n + 1) * bytes ≤ 140737488355328) (hmax : n + 1 ≤ maxLen) (hbase : base ≤ W.heap.size)
    (h : ∀ A' c' w', w'.ownsRow base e size (.slice A' (n + 1) c') (n + 1) (xs ++ news) → Below base W w' → W.grownBy w' v.ownBlock → wpList P ops Q rest (a.put o.dst (.slice A' (n + 1) c')) w') : wpList P ops Q (o :: rest) a W := by
  obtain ⟨i, z, hi, hz, hsize, hby, hzs⟩ := E.info
  refine wpList_step fun K hK => ?_
  rw [if_pos hw]
  refine wp_append_lies W s x t ho base e i z size bytes E.und hi hz hsize hby hzs E.pos v n xs hs hown ⟨g, 0, none⟩ 1 1 news hx (by omega) ?_ h1 (by omega) hmax hbytes hbase _ rfl ?_
  · intro j u hj
    exact World.news_of_block hg j u hj
  · intro g' c' w' ho' hgr _ _
    exact hK _ _ (h _ _ _ ho' ((Below.refl base W).grown hgr hbase (fun k hk => (hown.lt k hk).1)) hgr)
end Go.Proofs.Ytfifkfkbfllnfaa

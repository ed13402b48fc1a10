/- A step that was seen is read whole, and laid into a variable. -/
import Derived.Test.YtfgiehkfcoodbaaGreatM49
import Derived.Deep.MidRow
namespace Go.Proofs.YtfgiehkfcoodbaaGreat
open Go.RowKit
set_option linter.unusedVariables false
set_option maxRecDepth 100000
set_option maxHeartbeats 16000000
def puts:List Value → Nat → Array Value → Array Value
 | [],_,cs => cs
 | v :: r,o,cs => puts r (o + 1) (cs.setIfInBounds o v)
theorem puts_get:∀ (vs:List Value) (o:Nat) (cs:Array Value),o + vs.length ≤ cs.size → (puts vs o cs).size = cs.size ∧ ∀ k,(puts vs o cs)[k]? = if o ≤ k ∧ k < o + vs.length then vs[k - o]? else cs[k]?
 | [],o,cs,h => ⟨rfl,fun k => by rw [if_neg (by intro h;have:=h.2;simp at this;omega)];rfl⟩
 | v :: r,o,cs,h => by
  rw [List.length_cons] at h
  obtain ⟨h1,h2⟩:=puts_get r (o + 1) (cs.setIfInBounds o v) (by simp;omega)
  refine ⟨h1.trans (by simp),fun k => ?_⟩
  show (puts r (o + 1) (cs.setIfInBounds o v))[k]? = _
  rw [h2,List.length_cons]
  by_cases e:k = o
  ·subst e
   rw [if_neg (by omega),if_pos (by omega),Nat.sub_self]
   simp [Array.getElem?_setIfInBounds];omega
  ·by_cases g:o + 1 ≤ k ∧ k < o + 1 + r.length
   ·rw [if_pos g,if_pos (by omega),show k - o = (k - (o + 1)) + 1 by omega];simp
   ·rw [if_neg g,if_neg (by omega)]
    simp [Ne.symm e]
theorem puts_all (vs:List Value) (cs:Array Value) (h:cs.size = vs.length):puts vs 0 cs = vs.toArray:=by
 obtain ⟨h1,h2⟩:=puts_get vs 0 cs (by omega)
 apply Array.ext_getElem?
 intro k
 rw [h2,Nat.zero_add]
 by_cases g:k < vs.length
 ·rw [if_pos ⟨Nat.zero_le _,g⟩];simp
 ·rw [if_neg (by omega)]
  rw [Array.getElem?_eq_none (by omega)]
  simp;omega
theorem Mem.putAll {w0:World} {G:List Nat} {g:Nat} {t:TypeId} (i:Nat):∀ (vs:List Value) (o:Nat) (w:World) (l:List Chunk) (cs:Array Value),Mem w0 G w l → l[i]? = some (.blk g t cs) → Mem w0 G (w.setCells g o vs) (l.set i (.blk g t (puts vs o cs)))
 | [],o,w,l,cs,H,hi => by
  have e:l.set i (.blk g t cs) = l:=by
   apply List.ext_getElem?
   intro k
   rw [List.getElem?_set]
   split
   ·subst_vars;rw [if_pos (List.getElem?_eq_some_iff.1 hi).1,hi]
   ·rfl
  show Mem w0 G w (l.set i (.blk g t cs))
  rw [e];exact H
 | v :: r,o,w,l,cs,H,hi => by
  have h1:=H.set i hi o v
  have hil:=(List.getElem?_eq_some_iff.1 hi).1
  have h2:=Mem.putAll i r (o + 1) _ _ _ h1 (by rw [List.getElem?_set_self hil])
  rwa [List.set_set] at h2
theorem Mem.laid {w0 w:World} {G:List Nat} {l:List Chunk} (H:Mem w0 G w l) (g:Nat) (hg:w.heap.size = g) (zs:Array Value) (vs:List Value) (t:TypeId) (hl:zs.size = vs.length):∃ W,(w.alloc (.cells zs t)).setCells g 0 vs = W ∧ Mem w0 G W (l ++ [.blk g t vs.toArray]) ∧ Below w.heap.size w W:=by
 have key:∀ {w1:World} {G1:List Nat} {l1:List Chunk},Mem w1 G1 w l1 → Mem w1 G1 ((w.alloc (.cells zs t)).setCells g 0 vs) (l1 ++ [.blk g t vs.toArray]):=fun {w1 G1 l1} K => by
  have h1:=K.alloc g hg zs t
  have h2:=Mem.putAll (g:=g) (t:=t) l1.length vs 0 _ _ zs h1 (by simp)
  rw [puts_all vs zs hl,List.set_append_right _ _ (Nat.le_refl _),Nat.sub_self] at h2
  exact h2
 exact ⟨_,rfl,key H,(key (Mem.init w)).below⟩
theorem fresh_there (w:World) (zs:Array Value) (t:TypeId) (n:Nat) (h:n = zs.size):(w.alloc (.cells zs t)).there w.heap.size 0 n:=fun j hj => by
 subst h
 have hB:=Blk.new w t zs
 rw [Nat.zero_add]
 refine ⟨?_,hB.frozen j⟩
 have:=hB.cell j
 rw [this]
 simp [hj]
theorem sn_size:(Tryz.prog.info? 51).map (·.size) = some 36:=by kernel_rfl
theorem sn_range {w:World} {T:Tm} {S:List Sn} {g n c:Nat} (h:w.ownsRow 0 51 36 (.slice (some ⟨g,0,none⟩) n c) n (sns T S)) (hn:n = S.length) (i:Nat) (hi:i < S.length) {l:List Value} (hv:S[i].vs T = l):w.rangeAt g (i * 36) l:=by
 subst hn hv
 intro j v hj
 have hj36:j < 36:=by rw [← Sn.vs_len T S[i]];exact (List.getElem?_eq_some_iff.1 hj).1
 rw [h.cellAt (i * 36 + j) (by omega),sns_get T S i hi j hj36,hj]
end Go.Proofs.YtfgiehkfcoodbaaGreat

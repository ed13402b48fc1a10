/- (vendmeterkeep.shop).served: one contract for whatever is asked. -/
import Derived.Test.YtpcgpnkmjjamhaaGreatM37
import Derived.Test.YtpcgpnkmjjamhaaGreatMxAskP
namespace Go.Proofs.YtpcgpnkmjjamhaaGreat
open Go.RowKit
set_option linter.unusedVariables false
def AskQ (q : Nat) (lp : List Pr) (Ap : Option Addr) (cp : Nat) (A2 : Option Addr) (c2 : Nat) (zv : Value) (zn : Nat) (zx : List Value) : Prop :=
 (q = 0 ∧ A2 = Ap ∧ c2 = cp) ∨ (q ≠ 0 ∧ zv = .slice A2 lp.length c2 ∧ zn = lp.length ∧ zx = prs lp)
def RetAsk (V : Sv) (q : Nat) (Ap : Option Addr) (cp : Nat) (w : World) (e : Ending) (w' : World) : Prop :=
 ∃ (A3 : Option Addr) (c3 : Nat) (A2 : Option Addr) (c2 : Nat) (zv : Value) (zn : Nat) (zx : List Value), e = .returned (.tuple #[.slice A3 V.wl.length c3, .agg #[.slice A2 V.lp.length c2], .agg #[.int .i64 ↑V.me, .int .i64 ↑V.b.id, .int .i64 ↑V.b.te, .int .i64 ↑V.b.de, .int .i64 ↑V.b.fe, .int .i64 ↑V.b.pr, .int .i64 ↑V.b.ch, .int .i64 ↑V.b.un, .string V.s], .int .i64 ↑V.E]) ∧
   w'.ownsRow w.heap.size 225 4 zv zn zx ∧ w'.ownsRow w.heap.size 113 2 (.slice A3 V.wl.length c3) V.wl.length (wrs V.wl) ∧ AskQ q V.lp Ap cp A2 c2 zv zn zx ∧ Below w.heap.size w w'
theorem ask_ok (T : Tm) (hT : T.Ok) (At : Option Addr) (nt ct : Nat) (cv : Value) (c : List Nat) (L : List Ev) (B : List Cu) (o : Od) (k : Nat) (Ap : Option Addr) (cp : Nat) (lp : List Pr) (x0 x1 x2 x3 x4 : Int) (w : World)
   (wf0 : (Lit.int .i64 x0).wf = true) (wf1 : (Lit.int .i64 x1).wf = true) (wf2 : (Lit.int .i64 x2).wf = true) (wf3 : (Lit.int .i64 x3).wf = true) (wf4 : (Lit.int .i64 x4).wf = true) (ho : o.Is x0 x1 x2 x3 x4)
   (hS : Shp T c L B lp k) (hk : k ≤ 30) (hvt : IsDs w (.slice At nt ct) T.tl) (hc : IsWs w cv c) (hps : IsPs w (.slice Ap lp.length cp) lp) :
   Calls Tryz.prog 16 #[.agg #[.slice At nt ct, .int .i64 ↑T.fx, .int .i64 ↑T.fb, .int .i64 ↑T.db, .int .i64 ↑T.al, cv, .slice Ap lp.length cp], .agg #[.int .i64 x0, .int .i64 x1, .int .i64 x2, .int .i64 x3, .int .i64 x4]] w (RetAsk (o.V T (B.getD o.me cu0).a lp 600 L.length) o.q Ap cp w) := by
 have hlens := hS.lens
 have hlen := hS.len
 have hlpl := hS.lpl
 have hp := hS.at_ ho.h3
 obtain ⟨q, me, ow, bp, te, mo, d⟩ := o
 obtain ⟨h1, h2, h3, h4, h5, h6, h7, h8, h9, h10, h11, h12, h13⟩ := ho
 dsimp only at *
 unfold RetAsk Od.V
 dsimp only
 by_cases hq : q = 0
 · subst hq
   rw [if_pos rfl]
   dsimp only
   have h := served0_ok T hT At nt ct cv c L B me me ow bp Ap lp.length cp x0 x1 x2 x3 x4 (d : Int) w wf0 wf1 wf2 wf3 wf4 h1 h2 h3 h12 h4 h5 h6 h7 hvt hc hS.srv hp (by omega) (by omega)
   rw [hlen] at h
   refine h.mono ?_
   rintro e w' ⟨A3, c3, rfl, ho, hb⟩
   exact ⟨A3, c3, Ap, cp, .slice none 0 0, 0, [], rfl, World.ownsRow_nil _ _ _ _, ho, .inl ⟨rfl, rfl, rfl⟩, hb⟩
 · rw [if_neg hq]
   have h := serveds_ok T hT At nt ct cv c L B ⟨q, me, te, mo⟩ me d Ap lp.length cp lp x0 x1 x2 x3 x4 w wf0 wf1 wf2 wf3 wf4 h1 hq h2 h3 h12 h13 h8 h9 h10 h11 hvt hc hS.srv hp (by omega) (by omega) hps hS.ook (by omega)
   rw [hlen] at h
   refine h.mono ?_
   rintro e w' ⟨A3, c3, A2, c2, rfl, ho1, ho2, hb⟩
   exact ⟨A3, c3, A2, c2, _, _, _, rfl, ho1, ho2, .inr ⟨hq, rfl, rfl, rfl⟩, hb⟩
def RetHad (V : Sv) (q : Nat) (Ap : Option Addr) (cp : Nat) (w : World) (e : Ending) (w' : World) : Prop :=
 ∃ (A3 : Option Addr) (c3 : Nat) (A2 : Option Addr) (c2 : Nat) (zv : Value) (zn : Nat) (zx : List Value), e = .returned (.tuple #[.slice A3 V.wl.length c3, .agg #[.slice A2 V.lp.length c2], .agg #[.int .i64 ↑V.me, .int .i64 ↑V.b.id, .int .i64 ↑V.b.te, .int .i64 ↑V.b.de, .int .i64 ↑V.b.fe, .int .i64 ↑V.b.pr, .int .i64 ↑V.b.ch, .int .i64 ↑V.b.un, .string V.s], .int .i64 0]) ∧
   w'.ownsRow w.heap.size 225 4 zv zn zx ∧ w'.ownsRow w.heap.size 113 2 (.slice A3 V.wl.length c3) V.wl.length (wrs V.wl) ∧ AskQ q V.lp Ap cp A2 c2 zv zn zx ∧ Below w.heap.size w w'
def RetRef (E : Nat) (w : World) (e : Ending) (w' : World) : Prop :=
 ∃ (A3 : Option Addr) (c3 : Nat) (A2 : Option Addr) (n2 c2 : Nat), e = .returned (.tuple #[.slice A3 0 c3, .agg #[.slice A2 n2 c2], .agg #[.int .i64 0, .int .i64 0, .int .i64 0, .int .i64 0, .int .i64 0, .int .i64 0, .int .i64 0, .int .i64 0, .string ⟨#[]⟩], .int .i64 ↑E]) ∧ Below w.heap.size w w'
theorem RetAsk.had {V : Sv} {q : Nat} {Ap : Option Addr} {cp : Nat} {w w' : World} {e : Ending} (h0 : V.E = 0) (h : RetAsk V q Ap cp w e w') : RetHad V q Ap cp w e w' := by
 unfold RetAsk at h
 rw [h0] at h
 exact h
theorem RetAsk.ref {o : Od} {T : Tm} {a : Acc} {lp : List Pr} {n m q : Nat} {Ap : Option Addr} {cp : Nat} {w w' : World} {e : Ending} (h0 : (o.V T a lp n m).E ≠ 0) (h : RetAsk (o.V T a lp n m) q Ap cp w e w') : RetRef (o.V T a lp n m).E w e w' := by
 obtain ⟨h1, h2, h3, h4⟩ := Od.V_no h0
 obtain ⟨A3, c3, A2, c2, zv, zn, zx, he, _, _, _, hb⟩ := h
 rw [h1, h2, h3, h4] at he
 exact ⟨A3, c3, A2, _, c2, he, hb⟩
theorem perm_pick : ∀ (l : List Chunk) (i : Nat) (h : i < l.length), (l[i] :: l.eraseIdx i).Perm l
 | a :: l, 0, _ => .refl _
 | a :: l, i + 1, h => (List.Perm.swap a _ _).trans (.cons a (perm_pick l i (by simpa using h)))
theorem pick_row {w0 w : World} {G : List Nat} {l : List Chunk} {c : Chunk} (i : Nat) (H : Mem w0 G w l) (hi : l[i]? = some c) : Mem w0 G w (c :: l.eraseIdx i) := by
 refine Mem.perm ?_ H
 have hlt := (List.getElem?_eq_some_iff.1 hi)
 obtain ⟨h1, h2⟩ := hlt
 subst h2
 exact (perm_pick l i h1).symm
end Go.Proofs.YtpcgpnkmjjamhaaGreat

/- What a server is asked for, in raw numbers; what comes of it: plain. -/
import Derived.Test.YtpcgpnkmjjamhaaGreatDoorQ45
import Derived.Test.YtpcgpnkmjjamhaaGreatDoorQ46
import Derived.Test.YtpcgpnkmjjamhaaGreatDoorQ32
import Derived.Test.YtpcgpnkmjjamhaaGreatDoorQ9
import Derived.Test.YtpcgpnkmjjamhaaGreatDoorQ38
namespace Go.Proofs.YtpcgpnkmjjamhaaGreatDoor
open Go.RowKit
set_option linter.unusedVariables false
set_option maxRecDepth 100000
structure Od where
 q : Nat
 me : Nat
 ow : Nat
 bp : Nat
 te : Nat
 mo : Nat
 d : Nat
structure Od.Is (o : Od) (x0 x1 x2 x3 x4 : Int) : Prop where
 h1 : Hid (pk x0 8 = (o.q : Int))
 h2 : Hid (pk x1 3 = (o.me : Int))
 h3 : o.me ≤ 2
 h4 : Hid (1 + pk x2 100000 = (o.ow : Int))
 h5 : 1 ≤ o.ow ∧ o.ow ≤ 100000
 h6 : Hid (pk x3 1000 = (o.bp : Int))
 h7 : o.bp ≤ 999
 h8 : Hid (1 + pk x2 1000000 = (o.te : Int))
 h9 : 1 ≤ o.te ∧ o.te ≤ 1000000
 h10 : Hid (pk x3 12 = (o.mo : Int))
 h11 : o.mo ≤ 11
 h12 : Hid (pk x4 65536 = (o.d : Int))
 h13 : o.d ≤ 65535
theorem od_of (x0 x1 x2 x3 x4 : Int) : ∃ o : Od, o.Is x0 x1 x2 x3 x4 := by
 obtain ⟨q, hq, hq8⟩ := pk_nat x0 8 (by omega)
 obtain ⟨me, hme, hme3⟩ := pk_nat x1 3 (by omega)
 obtain ⟨ow, how, how1⟩ := pk_nat x2 100000 (by omega)
 obtain ⟨bp, hbp, hbp1⟩ := pk_nat x3 1000 (by omega)
 obtain ⟨te, hte, hte1⟩ := pk_nat x2 1000000 (by omega)
 obtain ⟨mo, hmo, hmo1⟩ := pk_nat x3 12 (by omega)
 obtain ⟨d, hd, hd1⟩ := pk_nat x4 65536 (by omega)
 refine ⟨⟨q, me, ow + 1, bp, te + 1, mo, d⟩, hq, hme, by dsimp only; omega, ?_, by dsimp only; omega, hbp, by dsimp only; omega, ?_, by dsimp only; omega, hmo, by dsimp only; omega, hd, by dsimp only; omega⟩
 · show _ = _
   have e : pk x2 100000 = (ow : Int) := how.out
   rw [e]; dsimp only; omega
 · show _ = _
   have e : pk x2 1000000 = (te : Int) := hte.out
   rw [e]; dsimp only; omega
theorem Od.Is.draw {o : Od} {x0 x1 x2 x3 x4 : Int} (h : o.Is x0 x1 x2 x3 x4) (y : Int) : ∃ d, d ≤ 65535 ∧ (⟨o.q, o.me, o.ow, o.bp, o.te, o.mo, d⟩ : Od).Is x0 x1 x2 x3 y := by
 obtain ⟨d, hd, hd1⟩ := pk_nat y 65536 (by omega)
 exact ⟨d, by omega, h.h1, h.h2, h.h3, h.h4, h.h5, h.h6, h.h7, h.h8, h.h9, h.h10, h.h11, hd, by dsimp only; omega⟩
def Od.rq (o : Od) : Rq := ⟨o.q, o.me, o.te, o.mo⟩
def Od.V (o : Od) (T : Tm) (a : Acc) (lp : List Pr) (n m : Nat) : Sv :=
 if o.q = 0 then ⟨if (oweP a o.ow o.bp).1 = 0 then putW n (m * 14) (evW (chgV o.me o.ow o.bp)) else [], lp, 0, bil0, ⟨#[]⟩, (oweP a o.ow o.bp).1⟩
 else saleP T a lp n m o.d o.rq
def Od.v (o : Od) (T : Tm) (a : Acc) (lp : List Pr) : Ev := if o.q = 0 then chgV o.me o.ow o.bp else saleV T a lp o.d o.rq
def Od.c (o : Od) (T : Tm) (c : Cu) (lp : List Pr) : Cu := if o.q = 0 then ⟨(oweP c.a o.ow o.bp).2, c.s⟩ else ⟨(o.rq.r T c.a).2.1, c.s ++ [soldP c.a.rev (saleV T c.a lp o.d o.rq) (o.rq.r T c.a).2.1]⟩
theorem Od.V_no {o : Od} {T : Tm} {a : Acc} {lp : List Pr} {n m : Nat} (h : (o.V T a lp n m).E ≠ 0) : (o.V T a lp n m).wl = [] ∧ (o.V T a lp n m).me = 0 ∧ (o.V T a lp n m).b = bil0 ∧ (o.V T a lp n m).s = ⟨#[]⟩ := by
 unfold Od.V at h ⊢
 by_cases hq : o.q = 0
 · rw [if_pos hq] at h ⊢
   dsimp only at h ⊢
   rw [if_neg h]
   exact ⟨rfl, rfl, rfl, rfl⟩
 · rw [if_neg hq] at h ⊢
   unfold saleP at h ⊢
   rw [svP_E] at h
   rw [svP_no h]
   exact ⟨rfl, rfl, rfl, rfl⟩
theorem Rq.next {T : Tm} {a : Acc} {x : Rq} (h : (x.r T a).1 = 0) : (x.r T a).2.1.next = a.next + 1 := by
 unfold Rq.r at h ⊢
 by_cases g1 : x.q = 1
 · simp only [g1, if_true] at h ⊢
   have e : grantP T a x.mo = (0, (grantP T a x.mo).2.1, (grantP T a x.mo).2.2) := by rw [← h]
   exact (grantP_ne e).2.2.1
 · simp only [g1, if_false] at h ⊢
   by_cases g2 : x.q = 2
   · simp only [g2, if_true] at h ⊢
     have e : rekeyP a = (0, (rekeyP a).2.1, (rekeyP a).2.2) := by rw [← h]
     rw [(rekeyP_ne e).1]
   · simp only [g2, if_false] at h ⊢
     have e : sellP T a x.te x.mo = (0, (sellP T a x.te x.mo).2.1, (sellP T a x.te x.mo).2.2) := by rw [← h]
     exact (sellP_ne e).2.2.1
theorem Rq.id {T : Tm} {a : Acc} {x : Rq} (h : (x.r T a).1 = 0) : (x.r T a).2.2.id = a.next := by
 unfold Rq.r at h ⊢
 by_cases g1 : x.q = 1
 · simp only [g1, if_true] at h ⊢
   have e : grantP T a x.mo = (0, (grantP T a x.mo).2.1, (grantP T a x.mo).2.2) := by rw [← h]
   rw [(grantP_ne e).2.2.2.2.2.2.2.1]
 · simp only [g1, if_false] at h ⊢
   by_cases g2 : x.q = 2
   · simp only [g2, if_true] at h ⊢
     have e : rekeyP a = (0, (rekeyP a).2.1, (rekeyP a).2.2) := by rw [← h]
     rw [(rekeyP_ne e).2.1]
   · simp only [g2, if_false] at h ⊢
     have e : sellP T a x.te x.mo = (0, (sellP T a x.te x.mo).2.1, (sellP T a x.te x.mo).2.2) := by rw [← h]
     exact (sellP_ne e).2.2.2.2.2.2.1
def Unlike (a b : Acc) : Prop := b.next = a.next + 1 ∨ (b.me = a.me ∧ b.rev = a.rev ∧ b.next = a.next ∧ b.month = a.month ∧ b.bought = a.bought ∧ b.free = a.free ∧ b.l.length = a.l.length + 1)
structure Had (T : Tm) (c : List Nat) (L : List Ev) (B : List Cu) (lp : List Pr) (k : Nat) (me : Nat) (c2 : Cu) (v : Ev) (V : Sv) : Prop where
 wl : V.wl = putW 600 (L.length * 14) (evW v)
 len : 1 ≤ V.wl.length ∧ V.wl.length ≤ 15
 at_ : ∀ p ∈ V.wl, p.1 < 600
 lt : ∀ p ∈ V.wl, p.2 < 4294967296
 shp : Shp T (applyW c V.wl) (L ++ [v]) (B.set me c2) V.lp (k + 1)
 torn : ∀ j, j < V.wl.length → ∀ c5 lp2 k2, Shp T c5 L B lp2 k2 → Shp T (applyW c5 (V.wl.take j)) L B lp2 k2
 whole : ∀ c5 lp2 k2, Shp T c5 L B lp2 k2 → Shp T (applyW c5 V.wl) (L ++ [v]) (B.set me c2) V.lp (k + 1)
 un : Unlike (B.getD me cu0).a c2.a
 lpl : V.lp.length ≤ lp.length + 1
 hv : v.ok
 gr : ∀ j, ∃ t, ((B.set me c2).getD j cu0).s = (B.getD j cu0).s ++ t
 hi : me < B.length
 mec : c2.a.me = (B.getD me cu0).a.me
theorem Shp.ask {T : Tm} {c : List Nat} {L : List Ev} {B : List Cu} {lp : List Pr} {k : Nat} {o : Od} {x0 x1 x2 x3 x4 : Int} (h : Shp T c L B lp k) (hT : T.Ok) (hk : k ≤ 30) (ho : o.Is x0 x1 x2 x3 x4) (h0 : (o.V T (B.getD o.me cu0).a lp 600 L.length).E = 0) :
   Had T c L B lp k o.me (o.c T (B.getD o.me cu0) lp) (o.v T (B.getD o.me cu0).a lp) (o.V T (B.getD o.me cu0).a lp 600 L.length) := by
 have hp := h.at_ ho.h3
 have hlens := h.lens
 have hlen := h.len
 have hlpl := h.lpl
 have h3 := ho.h3
 have h5 := ho.h5
 have h7 := ho.h7
 have h9 := ho.h9
 have h11 := ho.h11
 have h13 := ho.h13
 obtain ⟨hi, _⟩ := place_some hp
 have hgd : B.getD o.me cu0 = B[o.me]'hi := by simp [hi]
 have hme : (B.getD o.me cu0).a.me = o.me := by rw [hgd]; exact h.me _ _
 have key : (o.V T (B.getD o.me cu0).a lp 600 L.length).wl = putW c.length (L.length * 14) (evW (o.v T (B.getD o.me cu0).a lp)) ∧ (o.v T (B.getD o.me cu0).a lp).ok ∧ ((o.v T (B.getD o.me cu0).a lp).k ≠ 1 ∧ (o.v T (B.getD o.me cu0).a lp).te ≤ 1000000) ∧ keepE T B (o.v T (B.getD o.me cu0).a lp) = (0, B.set o.me (o.c T (B.getD o.me cu0) lp)) ∧ (o.c T (B.getD o.me cu0) lp).a.me = o.me ∧ OOk (o.V T (B.getD o.me cu0).a lp 600 L.length).lp ∧ (o.V T (B.getD o.me cu0).a lp 600 L.length).lp.length ≤ lp.length + 1 ∧ Unlike (B.getD o.me cu0).a (o.c T (B.getD o.me cu0) lp).a ∧ ∃ t, (o.c T (B.getD o.me cu0) lp).s = (B.getD o.me cu0).s ++ t := by
   by_cases hq : o.q = 0
   · have e1 : o.V T (B.getD o.me cu0).a lp 600 L.length = ⟨if (oweP (B.getD o.me cu0).a o.ow o.bp).1 = 0 then putW 600 (L.length * 14) (evW (chgV o.me o.ow o.bp)) else [], lp, 0, bil0, ⟨#[]⟩, (oweP (B.getD o.me cu0).a o.ow o.bp).1⟩ := by unfold Od.V; rw [if_pos hq]
     have e2 : o.v T (B.getD o.me cu0).a lp = chgV o.me o.ow o.bp := by unfold Od.v; rw [if_pos hq]
     have e3 : o.c T (B.getD o.me cu0) lp = ⟨(oweP (B.getD o.me cu0).a o.ow o.bp).2, (B.getD o.me cu0).s⟩ := by unfold Od.c; rw [if_pos hq]
     rw [e1] at h0 ⊢
     rw [e2, e3]
     dsimp only at h0 ⊢
     rw [if_pos h0, hlen]
     have e : oweP (B.getD o.me cu0).a o.ow o.bp = (0, (oweP (B.getD o.me cu0).a o.ow o.bp).2) := by rw [← h0]
     have hn := (oweP_ne e).1
     refine ⟨rfl, chgV_ok (by omega) (by omega) (by omega) (by omega), ⟨show (5 : Nat) ≠ 1 by decide, show (0 : Nat) ≤ 1000000 by decide⟩, chg_law hp h0, ?_, h.ook, by omega, .inr ?_, [], by simp⟩
     · rw [hn]; exact hme
     · rw [hn]; exact ⟨rfl, rfl, rfl, rfl, rfl, rfl, by simp⟩
   · have e1 : o.V T (B.getD o.me cu0).a lp 600 L.length = saleP T (B.getD o.me cu0).a lp c.length L.length o.d o.rq := by unfold Od.V; rw [if_neg hq, hlen]
     have e2 : o.v T (B.getD o.me cu0).a lp = saleV T (B.getD o.me cu0).a lp o.d o.rq := by unfold Od.v; rw [if_neg hq]
     have e3 : o.c T (B.getD o.me cu0) lp = ⟨(o.rq.r T (B.getD o.me cu0).a).2.1, (B.getD o.me cu0).s ++ [soldP (B.getD o.me cu0).a.rev (saleV T (B.getD o.me cu0).a lp o.d o.rq) (o.rq.r T (B.getD o.me cu0).a).2.1]⟩ := by unfold Od.c; rw [if_neg hq]
     rw [e1] at h0 ⊢
     rw [e2, e3]
     obtain ⟨s1, s2, s3, s4, s5, s6⟩ := sale_law (x := o.rq) (i := o.me) hT h.srv ⟨show o.me ≤ 49 by omega, show 1 ≤ o.te by omega, show o.te ≤ 1000000 by omega, show o.mo ≤ 2399 by omega⟩ hp (by omega) (by omega) h.ook (by omega) h13 h0
     exact ⟨s3, s2, ⟨o.rq.k_ne.1, Rq.tel s1 (show o.te ≤ 1000000 by omega)⟩, s4, (Rq.meq s1).trans hme, s5, s6, .inl (Rq.next s1), _, rfl⟩
 obtain ⟨k1, k2, k3, k4, k5, k6, k7, k8, k9⟩ := key
 have hat := putW_at (len := c.length) (at0 := L.length * 14) (r := evW (o.v T (B.getD o.me cu0).a lp)) (by simp only [evW, List.length_cons, List.length_nil]; omega)
 have hwn := putW_len c.length (L.length * 14) (evW (o.v T (B.getD o.me cu0).a lp))
 have e13 : (evW (o.v T (B.getD o.me cu0).a lp)).length = 13 := rfl
 rw [e13] at hwn
 have hlt := putW_lt (len := c.length) (at0 := L.length * 14) (r := evW (o.v T (B.getD o.me cu0).a lp)) ⟨by simp [evW], fun x hx => by have := k2.lt x hx; omega⟩
 have hsh := h.step hk k2 k3 hi k4 k5 k6 k7
 have hput : ∀ c5 lp2 k2', Shp T c5 L B lp2 k2' → Srv T (applyW c5 (putW 600 (L.length * 14) (evW (o.v T (B.getD o.me cu0).a lp)))) (L ++ [o.v T (B.getD o.me cu0).a lp]) (B.set o.me (o.c T (B.getD o.me cu0) lp)) ∧ ∀ k, k < (putW 600 (L.length * 14) (evW (o.v T (B.getD o.me cu0).a lp))).length → Srv T (applyW c5 ((putW 600 (L.length * 14) (evW (o.v T (B.getD o.me cu0).a lp))).take k)) L B := by
   intro c5 lp2 k2' h5
   have h := h5.srv.put k2 k4 (by omega) (by have := h5.len; omega)
   rwa [h5.len] at h
 have k1' := k1
 rw [hlen] at k1'
 rw [← k1] at hat hwn hlt hsh
 rw [← k1'] at hput
 refine ⟨k1', by omega, fun p hp => by have := (hat p hp).2; omega, hlt, hsh, fun j hj c5 lp2 k2' h2 => ⟨(hput c5 lp2 k2' h2).2 j hj, by rw [applyW_length]; exact h2.len, h2.evs, h2.cus, h2.me, h2.ook, h2.lpl⟩, fun c5 lp2 k2' h2 => ⟨(hput c5 lp2 k2' h2).1, by rw [applyW_length]; exact h2.len, hsh.evs, hsh.cus, hsh.me, hsh.ook, hsh.lpl⟩, k8, k7, k2, fun j => ?_, hi, k5.trans hme.symm⟩
 by_cases hj : j = o.me
 · subst hj
   obtain ⟨t, ht⟩ := k9
   exact ⟨t, by rw [← ht]; simp [hi]⟩
 · refine ⟨[], ?_⟩
   simp only [List.append_nil, List.getD_eq_getElem?_getD, List.getElem?_set_ne (Ne.symm hj)]
theorem Od.V_lp0 {o : Od} {T : Tm} {a : Acc} {lp : List Pr} {n m : Nat} (hq : o.q = 0) : (o.V T a lp n m).lp = lp ∧ (o.V T a lp n m).s = ⟨#[]⟩ ∧ (o.V T a lp n m).me = 0 ∧ (o.V T a lp n m).b = bil0 := by
 unfold Od.V
 rw [if_pos hq]
 exact ⟨rfl, rfl, rfl, rfl⟩
theorem sold_tok {T : Tm} {a : Acc} {lp : List Pr} {d : Nat} {x : Rq} : (soldP a.rev (saleV T a lp d x) (x.r T a).2.1).cls = x.cls ∧ (soldP a.rev (saleV T a lp d x) (x.r T a).2.1).id = (x.r T a).2.2.id ∧ (soldP a.rev (saleV T a lp d x) (x.r T a).2.1).am = amP x.cls (x.r T a) ∧ (soldP a.rev (saleV T a lp d x) (x.r T a).2.1).tag = tagP lp x.me a.rev x.cls d (x.r T a) := by
 unfold soldP saleV evP amP
 dsimp only
 by_cases g1 : x.q = 1
 · have hk : x.k = 3 := by unfold Rq.k; rw [if_pos g1]
   have hc : x.cls = 0 := by unfold Rq.cls; rw [if_neg (by omega)]
   rw [hk, hc]
   exact ⟨rfl, rfl, rfl, rfl⟩
 · by_cases g2 : x.q = 2
   · have hk : x.k = 4 := by unfold Rq.k; rw [if_neg g1, if_pos g2]
     have hc : x.cls = 2 := by unfold Rq.cls; rw [if_pos g2]
     rw [hk, hc]
     exact ⟨rfl, rfl, rfl, rfl⟩
   · have hk : x.k = 2 := by unfold Rq.k; rw [if_neg g1, if_neg g2]
     have hc : x.cls = 0 := by unfold Rq.cls; rw [if_neg g2]
     rw [hk, hc]
     exact ⟨rfl, rfl, rfl, rfl⟩
theorem Od.V_sale {o : Od} {T : Tm} {a : Acc} {lp : List Pr} {n m : Nat} (hq : o.q ≠ 0) (h : (o.V T a lp n m).E = 0) : (o.V T a lp n m).me = o.me ∧ (o.V T a lp n m).b = (o.rq.r T a).2.2 ∧ (o.rq.r T a).1 = 0 ∧ (o.V T a lp n m).s = dstr (tokD o.rq.cls (o.rq.r T a).2.2.id (amP o.rq.cls (o.rq.r T a)) (tagP lp o.me a.rev o.rq.cls o.d (o.rq.r T a))) := by
 unfold Od.V at h ⊢
 rw [if_neg hq] at h ⊢
 unfold saleP at h ⊢
 rw [svP_E] at h
 rw [svP_ok h]
 exact ⟨rfl, rfl, h, rfl⟩
def AskQ (q : Nat) (lp : List Pr) (Ap : Option Addr) (cp : Nat) (A2 : Option Addr) (c2 : Nat) (zv : Value) (zn : Nat) (zx : List Value) : Prop :=
 (q = 0 ∧ A2 = Ap ∧ c2 = cp) ∨ (q ≠ 0 ∧ zv = .slice A2 lp.length c2 ∧ zn = lp.length ∧ zx = prs lp)
def RetAsk (V : Sv) (q : Nat) (Ap : Option Addr) (cp : Nat) (w : World) (e : Ending) (w' : World) : Prop :=
 ∃ (A3 : Option Addr) (c3 : Nat) (A2 : Option Addr) (c2 : Nat) (zv : Value) (zn : Nat) (zx : List Value), e = .returned (.tuple #[.slice A3 V.wl.length c3, .agg #[.slice A2 V.lp.length c2], .agg #[.int .i64 ↑V.me, .int .i64 ↑V.b.id, .int .i64 ↑V.b.te, .int .i64 ↑V.b.de, .int .i64 ↑V.b.fe, .int .i64 ↑V.b.pr, .int .i64 ↑V.b.ch, .int .i64 ↑V.b.un, .string V.s], .int .i64 ↑V.E]) ∧
   w'.ownsRow w.heap.size 155 4 zv zn zx ∧ w'.ownsRow w.heap.size 119 2 (.slice A3 V.wl.length c3) V.wl.length (wrs V.wl) ∧ AskQ q V.lp Ap cp A2 c2 zv zn zx ∧ Below w.heap.size w w'
theorem ask_ok (T : Tm) (hT : T.Ok) (At : Option Addr) (nt ct : Nat) (cv : Value) (c : List Nat) (L : List Ev) (B : List Cu) (o : Od) (k : Nat) (Ap : Option Addr) (cp : Nat) (lp : List Pr) (x0 x1 x2 x3 x4 : Int) (w : World)
   (wf0 : (Lit.int .i64 x0).wf = true) (wf1 : (Lit.int .i64 x1).wf = true) (wf2 : (Lit.int .i64 x2).wf = true) (wf3 : (Lit.int .i64 x3).wf = true) (wf4 : (Lit.int .i64 x4).wf = true) (ho : o.Is x0 x1 x2 x3 x4)
   (hS : Shp T c L B lp k) (hk : k ≤ 30) (hvt : IsDs w (.slice At nt ct) T.tl) (hc : IsWs w cv c) (hps : IsPs w (.slice Ap lp.length cp) lp) :
   Calls Tryz.prog 7 #[.agg #[.slice At nt ct, .int .i64 ↑T.fx, .int .i64 ↑T.fb, .int .i64 ↑T.db, .int .i64 ↑T.al, cv, .slice Ap lp.length cp], .agg #[.int .i64 x0, .int .i64 x1, .int .i64 x2, .int .i64 x3, .int .i64 x4]] w (RetAsk (o.V T (B.getD o.me cu0).a lp 600 L.length) o.q Ap cp w) := by
 have hlens := hS.lens
 have hlen := hS.len
 have hlpl := hS.lpl
 have hp := hS.at_ ho.h3
 obtain ⟨q, me, ow, bp, te, mo, d⟩ := o
 obtain ⟨h1, h2, h3, h4, h5, h6, h7, h8, h9, h10, h11, h12, h13⟩ := ho
 dsimp only at *
 unfold RetAsk Od.V
 dsimp only
 by_cases hq : q = 0
 · subst hq
   rw [if_pos rfl]
   dsimp only
   have h := served0_ok T hT At nt ct cv c L B me me ow bp Ap lp.length cp x0 x1 x2 x3 x4 (d : Int) w wf0 wf1 wf2 wf3 wf4 h1 h2 h3 h12 h4 h5 h6 h7 hvt hc hS.srv hp (by omega) (by omega)
   rw [hlen] at h
   refine h.mono ?_
   rintro e w' ⟨A3, c3, rfl, ho, hb⟩
   exact ⟨A3, c3, Ap, cp, .slice none 0 0, 0, [], rfl, World.ownsRow_nil _ _ _ _, ho, .inl ⟨rfl, rfl, rfl⟩, hb⟩
 · rw [if_neg hq]
   have h := serveds_ok T hT At nt ct cv c L B ⟨q, me, te, mo⟩ me d Ap lp.length cp lp x0 x1 x2 x3 x4 w wf0 wf1 wf2 wf3 wf4 h1 hq h2 h3 h12 h13 h8 h9 h10 h11 hvt hc hS.srv hp (by omega) (by omega) hps hS.ook (by omega)
   rw [hlen] at h
   refine h.mono ?_
   rintro e w' ⟨A3, c3, A2, c2, rfl, ho1, ho2, hb⟩
   exact ⟨A3, c3, A2, c2, _, _, _, rfl, ho1, ho2, .inr ⟨hq, rfl, rfl, rfl⟩, hb⟩
def RetHad (V : Sv) (q : Nat) (Ap : Option Addr) (cp : Nat) (w : World) (e : Ending) (w' : World) : Prop :=
 ∃ (A3 : Option Addr) (c3 : Nat) (A2 : Option Addr) (c2 : Nat) (zv : Value) (zn : Nat) (zx : List Value), e = .returned (.tuple #[.slice A3 V.wl.length c3, .agg #[.slice A2 V.lp.length c2], .agg #[.int .i64 ↑V.me, .int .i64 ↑V.b.id, .int .i64 ↑V.b.te, .int .i64 ↑V.b.de, .int .i64 ↑V.b.fe, .int .i64 ↑V.b.pr, .int .i64 ↑V.b.ch, .int .i64 ↑V.b.un, .string V.s], .int .i64 0]) ∧
   w'.ownsRow w.heap.size 155 4 zv zn zx ∧ w'.ownsRow w.heap.size 119 2 (.slice A3 V.wl.length c3) V.wl.length (wrs V.wl) ∧ AskQ q V.lp Ap cp A2 c2 zv zn zx ∧ Below w.heap.size w w'
def RetRef (E : Nat) (w : World) (e : Ending) (w' : World) : Prop :=
 ∃ (A3 : Option Addr) (c3 : Nat) (A2 : Option Addr) (n2 c2 : Nat), e = .returned (.tuple #[.slice A3 0 c3, .agg #[.slice A2 n2 c2], .agg #[.int .i64 0, .int .i64 0, .int .i64 0, .int .i64 0, .int .i64 0, .int .i64 0, .int .i64 0, .int .i64 0, .string ⟨#[]⟩], .int .i64 ↑E]) ∧ Below w.heap.size w w'
theorem RetAsk.had {V : Sv} {q : Nat} {Ap : Option Addr} {cp : Nat} {w w' : World} {e : Ending} (h0 : V.E = 0) (h : RetAsk V q Ap cp w e w') : RetHad V q Ap cp w e w' := by
 unfold RetAsk at h
 rw [h0] at h
 exact h
theorem RetAsk.ref {o : Od} {T : Tm} {a : Acc} {lp : List Pr} {n m q : Nat} {Ap : Option Addr} {cp : Nat} {w w' : World} {e : Ending} (h0 : (o.V T a lp n m).E ≠ 0) (h : RetAsk (o.V T a lp n m) q Ap cp w e w') : RetRef (o.V T a lp n m).E w e w' := by
 obtain ⟨h1, h2, h3, h4⟩ := Od.V_no h0
 obtain ⟨A3, c3, A2, c2, zv, zn, zx, he, _, _, _, hb⟩ := h
 rw [h1, h2, h3, h4] at he
 exact ⟨A3, c3, A2, _, c2, he, hb⟩
def RetZero (n E : Nat) (w : World) (e : Ending) (w' : World) : Prop :=
 ∃ (A3 : Option Addr) (c3 : Nat) (A2 : Option Addr) (n2 c2 : Nat), e = .returned (.tuple #[.slice A3 n c3, .agg #[.slice A2 n2 c2], .agg #[.int .i64 0, .int .i64 0, .int .i64 0, .int .i64 0, .int .i64 0, .int .i64 0, .int .i64 0, .int .i64 0, .string ⟨#[]⟩], .int .i64 ↑E]) ∧ Below w.heap.size w w'
theorem RetAsk.zero {V : Sv} {q : Nat} {Ap : Option Addr} {cp : Nat} {w w' : World} {e : Ending} (hz : V.me = 0 ∧ V.b = bil0 ∧ V.s = ⟨#[]⟩) (h : RetAsk V q Ap cp w e w') : RetZero V.wl.length V.E w e w' := by
 obtain ⟨A3, c3, A2, c2, zv, zn, zx, he, _, _, _, hb⟩ := h
 rw [hz.1, hz.2.1, hz.2.2] at he
 exact ⟨A3, c3, A2, _, c2, he, hb⟩
theorem order_fit {v : Value} {w : World} (h : Fit Tryz.prog w 27 v) : ∃ a b c d e : Int, v = .agg #[.int .i64 a, .int .i64 b, .int .i64 c, .int .i64 d, .int .i64 e] ∧
   (Lit.int .i64 a).wf = true ∧ (Lit.int .i64 b).wf = true ∧ (Lit.int .i64 c).wf = true ∧ (Lit.int .i64 d).wf = true ∧ (Lit.int .i64 e).wf = true := by
 obtain ⟨cs, rfl, hcf⟩ := h.struct Tryz.underlying27
 obtain ⟨ns, hl, rfl, hw⟩ := hcf.ints (ks := [.i64, .i64, .i64, .i64, .i64]) (by kernel_rfl)
 match ns, hl with
 | [a, b, c, d, e], _ => exact ⟨a, b, c, d, e, rfl, hw 0 _ _ rfl rfl, hw 1 _ _ rfl rfl, hw 2 _ _ rfl rfl, hw 3 _ _ rfl rfl, hw 4 _ _ rfl rfl⟩
theorem rc_same (a b c d e f g h : Int) (s : ByteArray) (W : World) : (Op.equalIn 10000 50 (.agg #[.int .i64 a, .int .i64 b, .int .i64 c, .int .i64 d, .int .i64 e, .int .i64 f, .int .i64 g, .int .i64 h, .string s]) (.agg #[.int .i64 a, .int .i64 b, .int .i64 c, .int .i64 d, .int .i64 e, .int .i64 f, .int .i64 g, .int .i64 h, .string s])).run Tryz.prog W = .ok true W := by
 have q := eq_is (P := Tryz.prog) (t := 50) [.int .i64 a, .int .i64 b, .int .i64 c, .int .i64 d, .int .i64 e, .int .i64 f, .int .i64 g, .int .i64 h, .string s] [.int .i64 a, .int .i64 b, .int .i64 c, .int .i64 d, .int .i64 e, .int .i64 f, .int .i64 g, .int .i64 h, .string s] W (by kernel_rfl) (mkv_struct Tryz.underlying50)
 simpa [cellsEq, leafEq] using q
theorem rc_zero (W : World) : (Op.equalIn 10000 50 (.agg #[.int .i64 0, .int .i64 0, .int .i64 0, .int .i64 0, .int .i64 0, .int .i64 0, .int .i64 0, .int .i64 0, .string ⟨#[]⟩]) (.agg #[.int .i64 0, .int .i64 0, .int .i64 0, .int .i64 0, .int .i64 0, .int .i64 0, .int .i64 0, .int .i64 0, .string ⟨#[]⟩])).run Tryz.prog W = .ok true W := rc_same 0 0 0 0 0 0 0 0 ⟨#[]⟩ W
def SoOk (B : List Cu) : Prop := ∀ c ∈ B, ∀ s ∈ c.s, TkOk s.cls s.id s.am s.tag
theorem soldP_ok {T : Tm} {a : Acc} {v : Ev} (hT : T.Ok) (ha : a.Ok) (hn : a.next ≤ 1048575) (hv : v.ok) (h1 : v.k ≠ 1) (h5 : v.k ≠ 5) (h : (deedP T a v).1 = 0) : TkOk (soldP a.rev v (deedP T a v).2.1).cls (soldP a.rev v (deedP T a v).2.1).id (soldP a.rev v (deedP T a v).2.1).am (soldP a.rev v (deedP T a v).2.1).tag := by
 have hb := hv.bds
 have hvk : 1 ≤ v.id ∧ v.id ≤ 1048575 ∧ (v.k ≠ 4 → 1 ≤ v.un) := by
   have := hv
   unfold Ev.ok evOk at this
   omega
 unfold soldP
 by_cases g : v.k = 4
 · rw [if_pos g]
   have hd : deedP T a v = rekeyP a := by unfold deedP; rw [if_neg (by omega), if_neg (by omega)]
   rw [hd] at h ⊢
   have e : rekeyP a = (0, (rekeyP a).2.1, (rekeyP a).2.2) := by rw [← h]
   obtain ⟨e1, _, e3⟩ := rekeyP_ne e
   have h2 := ha.h1.h2
   rw [e1]
   dsimp only
   exact ⟨by omega, by omega, by omega, .inr (.inr (.inl ⟨rfl, by omega, by omega⟩)), by omega⟩
 · rw [if_neg g]
   dsimp only
   exact ⟨by omega, by omega, by omega, .inl ⟨rfl, by omega, by omega⟩, by omega⟩
theorem keepE_so {T : Tm} {B B2 : List Cu} {v : Ev} {n : Nat} (hT : T.Ok) (hB : BOk T B n) (hn : n ≤ 1000) (hv : v.ok) (h : keepE T B v = (0, B2)) (hN : SoOk B) : SoOk B2 := by
 rcases keepE_ne h with ⟨_, hp, rfl⟩ | ⟨hk1, i, hi, hp, hme, hc, rfl⟩
 · intro c hc s hs
   rcases List.mem_append.1 hc with hc | hc
   · exact hN c hc s hs
   · obtain rfl := List.mem_singleton.1 hc
     simp at hs
 · have hmem : B[i] ∈ B := List.getElem_mem hi
   have hs := hB.sold hmem
   have hao := hB.h1 _ hmem
   intro c hc' s hs'
   rcases List.mem_or_eq_of_mem_set hc' with hc' | rfl
   · exact hN c hc' s hs'
   · have hold := hN _ hmem
     generalize B[i] = c at hs hao hc hold hs'
     unfold custP at hc hs'
     by_cases g : v.k = 5
     · rw [if_pos g] at hc hs'
       by_cases g2 : (oweP c.a v.ow v.bp).1 = 0
       · rw [if_pos g2] at hs'; exact hold s hs'
       · rw [if_neg g2] at hc; injection hc with h _; exact absurd h g2
     · rw [if_neg g] at hc hs'
       by_cases g2 : (deedP T c.a v).1 = 0
       · rw [if_pos g2] at hc hs'
         by_cases g3 : (deedP T c.a v).2.2.same v
         · rw [if_pos g3] at hs'
           rcases List.mem_append.1 hs' with h | h
           · exact hold s h
           · obtain rfl := List.mem_singleton.1 h
             exact soldP_ok hT hao.1 (by omega) hv hk1 g g2
         · rw [if_neg g3] at hc; injection hc with h _; exact absurd h (by decide)
       · rw [if_neg g2] at hc; injection hc with h _; exact absurd h g2
theorem runE_so {T : Tm} (hT : T.Ok) : ∀ (l : List Ev) (B B2 : List Cu) (n : Nat), BOk T B n → n + l.length ≤ 1000 → (∀ v ∈ l, v.ok) → SoOk B → runE T B l = some B2 → SoOk B2 := by
 intro l
 induction l with
 | nil => intro B B2 n hB _ _ hN h; simp only [runE, Option.some.injEq] at h; subst h; exact hN
 | cons v l ih =>
   intro B B2 n hB hn hv hN h
   rw [show v :: l = [v] ++ l from rfl, runE_append] at h
   obtain ⟨B1, h1, h2⟩ := Option.bind_eq_some_iff.1 h
   have hk := runE_one.1 h1
   have hB1 := keepE_bok hT hB (by simp only [List.length_cons] at hn; omega) (hv v (by simp)) hk
   have hN1 := keepE_so hT hB (by simp only [List.length_cons] at hn; omega) (hv v (by simp)) hk hN
   exact ih B1 B2 (n + 1) hB1 (by simp only [List.length_cons] at hn; omega) (fun u hu => hv u (by simp [hu])) hN1 h2
theorem Srv.so {T : Tm} {c : List Nat} {L : List Ev} {B : List Cu} (hT : T.Ok) (hS : Srv T c L B) : SoOk B :=
 runE_so hT L [] B 0 (bok_nil T) (by have := hS.len; omega) hS.ok (fun c hc => by simp at hc) hS.run
def findS (l : List So) (id : Nat) : Option So := l.find? fun s => s.id == id
theorem findS_num {l : List So} (h : ∀ k (hk : k < l.length), (l[k]'hk).id = k + 1) (id : Nat) : findS l id = if hi : 1 ≤ id ∧ id ≤ l.length then some (l[id - 1]'(by omega)) else none := by
 unfold findS
 by_cases hi : 1 ≤ id ∧ id ≤ l.length
 · rw [dif_pos hi, List.find?_eq_some_iff_getElem]
   refine ⟨by have := h (id - 1) (by omega); simp; omega, id - 1, by omega, rfl, fun j hj => ?_⟩
   have := h j (by omega)
   simp; omega
 · rw [dif_neg hi, List.find?_eq_none]
   intro s hs
   obtain ⟨j, hj, rfl⟩ := List.getElem_of_mem hs
   have := h j hj
   simp; omega
def repV : Option So → Value
 | some s => .tuple #[.string (dstr (tokD s.cls s.id s.am s.tag)), .int .i64 0]
 | none => .tuple #[.string ⟨#[]⟩, .int .i64 22]
theorem Shp.again {T : Tm} {c c3 : List Nat} {L L3 : List Ev} {B B3 : List Cu} {lp lp3 : List Pr} {k k3 : Nat} {o : Od} (h : Shp T c L B lp k) (hT : T.Ok) (hk : k ≤ 30) (hm : o.me ≤ 2) (hq : o.q ≠ 0) (h0 : (o.V T (B.getD o.me cu0).a lp 600 L.length).E = 0) (h3 : Shp T c3 L3 B3 lp3 k3) (hk3 : k3 ≤ 40)
   (hg : ∃ t, (B3.getD o.me cu0).s = (o.c T (B.getD o.me cu0) lp).s ++ t) : repV (findS (B3.getD o.me cu0).s (o.V T (B.getD o.me cu0).a lp 600 L.length).b.id) = .tuple #[.string (o.V T (B.getD o.me cu0).a lp 600 L.length).s, .int .i64 0] := by
 obtain ⟨v1, v2, v3, v4⟩ := Od.V_sale hq h0
 obtain ⟨t, ht⟩ := hg
 have hc3 := h3.cus
 have hc := h.cus
 have hB := h.srv.bok hT
 have hN3 := h3.srv.num hT
 have hgd : B.getD o.me cu0 = B[o.me] := by simp [hc, show o.me < 3 by omega]
 have hgd3 : B3.getD o.me cu0 = B3[o.me] := by simp [hc3, show o.me < 3 by omega]
 have hnx := (hB.h1 B[o.me] (List.getElem_mem _)).2
 have hn := hN3 B3[o.me] (List.getElem_mem _)
 rw [← hgd] at hnx
 rw [← hgd3] at hn
 have hid : (o.rq.r T (B.getD o.me cu0).a).2.2.id = (B.getD o.me cu0).s.length + 1 := by rw [Rq.id v3, hnx]
 have hcs : (o.c T (B.getD o.me cu0) lp).s = (B.getD o.me cu0).s ++ [soldP (B.getD o.me cu0).a.rev (saleV T (B.getD o.me cu0).a lp o.d o.rq) (o.rq.r T (B.getD o.me cu0).a).2.1] := by unfold Od.c; rw [if_neg hq]
 obtain ⟨t1, t2, t3, t4⟩ := sold_tok (T := T) (a := (B.getD o.me cu0).a) (lp := lp) (d := o.d) (x := o.rq)
 rw [hcs] at ht
 generalize hso : soldP (B.getD o.me cu0).a.rev (saleV T (B.getD o.me cu0).a lp o.d o.rq) (o.rq.r T (B.getD o.me cu0).a).2.1 = so at *
 have hlen : (B.getD o.me cu0).s.length + 1 ≤ (B3.getD o.me cu0).s.length := by rw [ht]; simp
 rw [v2, hid, findS_num (fun j hj => (hn j hj).1), dif_pos ⟨by omega, hlen⟩]
 have hat : (B3.getD o.me cu0).s[(B.getD o.me cu0).s.length + 1 - 1]'(by omega) = so := by
   simp only [ht]
   simp
 rw [hat]
 unfold repV
 dsimp only
 rw [t1, t2, t3, t4, v4]
 rfl
theorem Od.V_str {T : Tm} {c : List Nat} {L : List Ev} {B : List Cu} {lp : List Pr} {k : Nat} {o : Od} {x0 x1 x2 x3 x4 : Int} (h : Shp T c L B lp k) (hT : T.Ok) (hk : k ≤ 30) (ho : o.Is x0 x1 x2 x3 x4) (hq : o.q ≠ 0) (h0 : (o.V T (B.getD o.me cu0).a lp 600 L.length).E = 0) : (o.V T (B.getD o.me cu0).a lp 600 L.length).s.toList.isEmpty = false := by
 obtain ⟨v1, v2, v3, v4⟩ := Od.V_sale hq h0
 have hm := ho.h3
 have h9 := ho.h9
 have h11 := ho.h11
 have hc := h.cus
 have hlens := h.lens
 have hB := h.srv.bok hT
 have hi : o.me < B.length := by omega
 have hgd : B.getD o.me cu0 = B[o.me] := by simp [hi]
 have hao := hB.h1 B[o.me] (List.getElem_mem hi)
 have hs := hB.sold (List.getElem_mem hi)
 rw [← hgd] at hao hs
 have htk := (Rq.tk (x := o.rq) (T := T) (a := (B.getD o.me cu0).a) ⟨show o.me ≤ 49 by omega, show 1 ≤ o.te by omega, show o.te ≤ 1000000 by omega, show o.mo ≤ 2399 by omega⟩ hT hao.1 (by omega) v3).1
 rw [v4]
 refine dstr_empty ?_
 obtain ⟨t1, t2, t3, t4, t5⟩ := htk
 rw [tokD_len ⟨t1, t2, t3, t4, by have := tagP_le (r := o.rq.r T (B.getD o.me cu0).a) (me := o.me) (rev := (B.getD o.me cu0).a.rev) (cls := o.rq.cls) h.ook ho.h13; omega⟩]
 omega
theorem Shp.few {T : Tm} {c : List Nat} {L : List Ev} {B : List Cu} {lp : List Pr} {k : Nat} (h : Shp T c L B lp k) (hT : T.Ok) (j : Nat) (hj : j ≤ 2) : (B.getD j cu0).s.length ≤ k := by
 have hc := h.cus
 have hB := h.srv.bok hT
 have hl := h.lens
 have hgd : B.getD j cu0 = B[j] := by simp [hc, show j < 3 by omega]
 rw [hgd]
 have h3 := hB.h3
 have := le_sum (List.mem_map_of_mem (f := fun c : Cu => c.s.length) (List.getElem_mem (l := B) (n := j) (by omega)))
 try dsimp only at this
 omega
theorem Shp.none {T : Tm} {c : List Nat} {L : List Ev} {B : List Cu} {lp : List Pr} {k : Nat} (h : Shp T c L B lp k) (hT : T.Ok) (j id : Nat) (hj : j ≤ 2) (hi : k < id) : findS (B.getD j cu0).s id = Option.none := by
 have hN := h.srv.num hT
 have hc := h.cus
 have hf := h.few hT j hj
 have hgd : B.getD j cu0 = B[j] := by simp [hc, show j < 3 by omega]
 have hn := hN B[j] (List.getElem_mem _)
 rw [← hgd] at hn
 rw [findS_num (fun i hi => (hn i hi).1), dif_neg (by omega)]
structure Told (a : Acc) (me : Nat) (V : Sv) (cls am tag : Nat) : Prop where
 tk : TkOk cls a.next am tag
 meq : V.me = me
 id : V.b.id = a.next
 s : V.s = dstr (tokD cls a.next am tag)
 lk : look V.lp ((me : Int), (a.rev : Int), ((tbody cls a.next am : Nat) : Int)) = some (tag : Int)
 ook : OOk V.lp
 sum : V.b.te = V.b.de + V.b.fe + V.b.pr + V.b.ch
 te : V.b.te ≤ 1000000
 un : V.b.un ≤ 2097151
 cl : (cls = 2 ∧ am = a.rev + 1 ∧ V.b.un = 0) ∨ (cls = 0 ∧ am = V.b.un)
 bd : a.rev ≤ 15
theorem Rq.sum {T : Tm} {a : Acc} {x : Rq} (hT : T.Ok) (ha : a.Ok) (h : (x.r T a).1 = 0) : (x.r T a).2.2.te = (x.r T a).2.2.de + (x.r T a).2.2.fe + (x.r T a).2.2.pr + (x.r T a).2.2.ch ∧ (x.r T a).2.2.un ≤ 2097151 ∧ ((x.cls = 2 ∧ amP x.cls (x.r T a) = a.rev + 1 ∧ (x.r T a).2.2.un = 0) ∨ (x.cls = 0 ∧ amP x.cls (x.r T a) = (x.r T a).2.2.un)) := by
 unfold Rq.r Rq.cls amP at *
 by_cases g1 : x.q = 1
 · have g2 : ¬ x.q = 2 := by omega
   simp only [g1, if_true] at h ⊢
   have e : grantP T a x.mo = (0, (grantP T a x.mo).2.1, (grantP T a x.mo).2.2) := by rw [← h]
   have hal := hT.h2.h4
   rw [(grantP_ne e).2.2.2.2.2.2.2.1]
   refine ⟨rfl, ?_, .inr ⟨rfl, rfl⟩⟩
   dsimp only; omega
 · simp only [g1, if_false] at h ⊢
   by_cases g2 : x.q = 2
   · simp only [g2, if_true] at h ⊢
     have e : rekeyP a = (0, (rekeyP a).2.1, (rekeyP a).2.2) := by rw [← h]
     rw [(rekeyP_ne e).1, (rekeyP_ne e).2.1]
     refine ⟨rfl, Nat.zero_le _, ?_⟩
     simp
   · simp only [g2, if_false] at h ⊢
     have e : sellP T a x.te x.mo = (0, (sellP T a x.te x.mo).2.1, (sellP T a x.te x.mo).2.2) := by rw [← h]
     obtain ⟨s1, s2⟩ := sellP_sum hT ha e
     refine ⟨s1, s2, ?_⟩
     simp
theorem Shp.told {T : Tm} {c : List Nat} {L : List Ev} {B : List Cu} {lp : List Pr} {k : Nat} {o : Od} {x0 x1 x2 x3 x4 : Int} (h : Shp T c L B lp k) (hT : T.Ok) (hk : k ≤ 30) (ho : o.Is x0 x1 x2 x3 x4) (hq : o.q ≠ 0) (h0 : (o.V T (B.getD o.me cu0).a lp 600 L.length).E = 0) :
   ∃ cls am tag, Told (B.getD o.me cu0).a o.me (o.V T (B.getD o.me cu0).a lp 600 L.length) cls am tag := by
 obtain ⟨v1, v2, v3, v4⟩ := Od.V_sale hq h0
 have hX := h.ask hT hk ho h0
 have hm := ho.h3
 have h9 := ho.h9
 have h11 := ho.h11
 have hc := h.cus
 have hlens := h.lens
 have hB := h.srv.bok hT
 have hi : o.me < B.length := by omega
 have hgd : B.getD o.me cu0 = B[o.me] := by simp [hi]
 have hao := hB.h1 B[o.me] (List.getElem_mem hi)
 have hs := hB.sold (List.getElem_mem hi)
 rw [← hgd] at hao hs
 have htk := (Rq.tk (x := o.rq) (T := T) (a := (B.getD o.me cu0).a) ⟨show o.me ≤ 49 by omega, show 1 ≤ o.te by omega, show o.te ≤ 1000000 by omega, show o.mo ≤ 2399 by omega⟩ hT hao.1 (by omega) v3).1
 have hid := Rq.id v3
 have htl := Rq.tel v3 (show o.te ≤ 1000000 by omega)
 obtain ⟨s1, s2, s3⟩ := Rq.sum hT hao.1 v3
 have htg := tagP_le (r := o.rq.r T (B.getD o.me cu0).a) (me := o.me) (rev := (B.getD o.me cu0).a.rev) (cls := o.rq.cls) h.ook ho.h13
 have hlp : (o.V T (B.getD o.me cu0).a lp 600 L.length).lp = issL lp (o.me : Int) ((B.getD o.me cu0).a.rev : Int) (tbody o.rq.cls (o.rq.r T (B.getD o.me cu0).a).2.2.id (amP o.rq.cls (o.rq.r T (B.getD o.me cu0).a)) : Nat) (o.d : Int) := by
   unfold Od.V
   rw [if_neg hq]
   unfold saleP
   rw [svP_ok v3]
   rfl
 have hlk := issL_look lp (o.me : Int) ((B.getD o.me cu0).a.rev : Int) (tbody o.rq.cls (o.rq.r T (B.getD o.me cu0).a).2.2.id (amP o.rq.cls (o.rq.r T (B.getD o.me cu0).a)) : Nat) (o.d : Int) ((o.me : Int), ((B.getD o.me cu0).a.rev : Int), ((tbody o.rq.cls (o.rq.r T (B.getD o.me cu0).a).2.2.id (amP o.rq.cls (o.rq.r T (B.getD o.me cu0).a)) : Nat) : Int))
 rw [if_pos rfl] at hlk
 have hbd := issT_bd (x := (o.me : Int)) (y := ((B.getD o.me cu0).a.rev : Int)) (z := (tbody o.rq.cls (o.rq.r T (B.getD o.me cu0).a).2.2.id (amP o.rq.cls (o.rq.r T (B.getD o.me cu0).a)) : Nat)) (d := (o.d : Int)) h.ook (by omega) (by have := ho.h13; omega)
 rw [hid] at v4 hlk htk hlp
 obtain ⟨t1, t2, t3, t4, t5⟩ := htk
 refine ⟨o.rq.cls, amP o.rq.cls (o.rq.r T (B.getD o.me cu0).a), tagP lp o.me (B.getD o.me cu0).a.rev o.rq.cls o.d (o.rq.r T (B.getD o.me cu0).a), ⟨⟨t1, t2, t3, t4, htg⟩, v1, by rw [v2]; exact hid, v4, ?_, hX.shp.ook, by rw [v2]; exact s1, by rw [v2]; exact htl, by rw [v2]; exact s2, by rw [v2]; exact s3, ?_⟩⟩
 · rw [hlp, hlk]
   unfold tagP
   rw [hid] at hbd ⊢
   congr 1
   omega
 · exact hao.1.h1.h2
end Go.Proofs.YtpcgpnkmjjamhaaGreatDoor

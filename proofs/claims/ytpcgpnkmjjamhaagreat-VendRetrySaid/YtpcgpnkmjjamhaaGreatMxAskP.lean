/- What a server is asked for, in raw numbers; what comes of it: plain. -/
import Derived.Test.YtpcgpnkmjjamhaaGreatM37
import Derived.Test.YtpcgpnkmjjamhaaGreatM29
namespace Go.Proofs.YtpcgpnkmjjamhaaGreat
open Go.RowKit
set_option linter.unusedVariables false
structure Od where
 q : Nat
 me : Nat
 ow : Nat
 bp : Nat
 te : Nat
 mo : Nat
 d : Nat
structure Od.Is (o : Od) (x0 x1 x2 x3 x4 : Int) : Prop where
 h1 : Hid (pk x0 8 = (o.q : Int))
 h2 : Hid (pk x1 3 = (o.me : Int))
 h3 : o.me ≤ 2
 h4 : Hid (1 + pk x2 100000 = (o.ow : Int))
 h5 : 1 ≤ o.ow ∧ o.ow ≤ 100000
 h6 : Hid (pk x3 1000 = (o.bp : Int))
 h7 : o.bp ≤ 999
 h8 : Hid (1 + pk x2 1000000 = (o.te : Int))
 h9 : 1 ≤ o.te ∧ o.te ≤ 1000000
 h10 : Hid (pk x3 12 = (o.mo : Int))
 h11 : o.mo ≤ 11
 h12 : Hid (pk x4 65536 = (o.d : Int))
 h13 : o.d ≤ 65535
theorem od_of (x0 x1 x2 x3 x4 : Int) : ∃ o : Od, o.Is x0 x1 x2 x3 x4 := by
 obtain ⟨q, hq, hq8⟩ := pk_nat x0 8 (by omega)
 obtain ⟨me, hme, hme3⟩ := pk_nat x1 3 (by omega)
 obtain ⟨ow, how, how1⟩ := pk_nat x2 100000 (by omega)
 obtain ⟨bp, hbp, hbp1⟩ := pk_nat x3 1000 (by omega)
 obtain ⟨te, hte, hte1⟩ := pk_nat x2 1000000 (by omega)
 obtain ⟨mo, hmo, hmo1⟩ := pk_nat x3 12 (by omega)
 obtain ⟨d, hd, hd1⟩ := pk_nat x4 65536 (by omega)
 refine ⟨⟨q, me, ow + 1, bp, te + 1, mo, d⟩, hq, hme, by dsimp only; omega, ?_, by dsimp only; omega, hbp, by dsimp only; omega, ?_, by dsimp only; omega, hmo, by dsimp only; omega, hd, by dsimp only; omega⟩
 · show _ = _
   have e : pk x2 100000 = (ow : Int) := how.out
   rw [e]; dsimp only; omega
 · show _ = _
   have e : pk x2 1000000 = (te : Int) := hte.out
   rw [e]; dsimp only; omega
theorem Od.Is.draw {o : Od} {x0 x1 x2 x3 x4 : Int} (h : o.Is x0 x1 x2 x3 x4) (y : Int) : ∃ d, d ≤ 65535 ∧ (⟨o.q, o.me, o.ow, o.bp, o.te, o.mo, d⟩ : Od).Is x0 x1 x2 x3 y := by
 obtain ⟨d, hd, hd1⟩ := pk_nat y 65536 (by omega)
 exact ⟨d, by omega, h.h1, h.h2, h.h3, h.h4, h.h5, h.h6, h.h7, h.h8, h.h9, h.h10, h.h11, hd, by dsimp only; omega⟩
def Od.rq (o : Od) : Rq := ⟨o.q, o.me, o.te, o.mo⟩
def Od.V (o : Od) (T : Tm) (a : Acc) (lp : List Pr) (n m : Nat) : Sv :=
 if o.q = 0 then ⟨if (oweP a o.ow o.bp).1 = 0 then putW n (m * 14) (evW (chgV o.me o.ow o.bp)) else [], lp, 0, bil0, ⟨#[]⟩, (oweP a o.ow o.bp).1⟩
 else saleP T a lp n m o.d o.rq
def Od.v (o : Od) (T : Tm) (a : Acc) (lp : List Pr) : Ev := if o.q = 0 then chgV o.me o.ow o.bp else saleV T a lp o.d o.rq
def Od.c (o : Od) (T : Tm) (c : Cu) (lp : List Pr) : Cu := if o.q = 0 then ⟨(oweP c.a o.ow o.bp).2, c.s⟩ else ⟨(o.rq.r T c.a).2.1, c.s ++ [soldP c.a.rev (saleV T c.a lp o.d o.rq) (o.rq.r T c.a).2.1]⟩
theorem Od.V_no {o : Od} {T : Tm} {a : Acc} {lp : List Pr} {n m : Nat} (h : (o.V T a lp n m).E ≠ 0) : (o.V T a lp n m).wl = [] ∧ (o.V T a lp n m).me = 0 ∧ (o.V T a lp n m).b = bil0 ∧ (o.V T a lp n m).s = ⟨#[]⟩ := by
 unfold Od.V at h ⊢
 by_cases hq : o.q = 0
 · rw [if_pos hq] at h ⊢
   dsimp only at h ⊢
   rw [if_neg h]
   exact ⟨rfl, rfl, rfl, rfl⟩
 · rw [if_neg hq] at h ⊢
   unfold saleP at h ⊢
   rw [svP_E] at h
   rw [svP_no h]
   exact ⟨rfl, rfl, rfl, rfl⟩
theorem Rq.next {T : Tm} {a : Acc} {x : Rq} (h : (x.r T a).1 = 0) : (x.r T a).2.1.next = a.next + 1 := by
 unfold Rq.r at h ⊢
 by_cases g1 : x.q = 1
 · simp only [g1, if_true] at h ⊢
   have e : grantP T a x.mo = (0, (grantP T a x.mo).2.1, (grantP T a x.mo).2.2) := by rw [← h]
   exact (grantP_ne e).2.2.1
 · simp only [g1, if_false] at h ⊢
   by_cases g2 : x.q = 2
   · simp only [g2, if_true] at h ⊢
     have e : rekeyP a = (0, (rekeyP a).2.1, (rekeyP a).2.2) := by rw [← h]
     rw [(rekeyP_ne e).1]
   · simp only [g2, if_false] at h ⊢
     have e : sellP T a x.te x.mo = (0, (sellP T a x.te x.mo).2.1, (sellP T a x.te x.mo).2.2) := by rw [← h]
     exact (sellP_ne e).2.2.1
theorem Rq.id {T : Tm} {a : Acc} {x : Rq} (h : (x.r T a).1 = 0) : (x.r T a).2.2.id = a.next := by
 unfold Rq.r at h ⊢
 by_cases g1 : x.q = 1
 · simp only [g1, if_true] at h ⊢
   have e : grantP T a x.mo = (0, (grantP T a x.mo).2.1, (grantP T a x.mo).2.2) := by rw [← h]
   rw [(grantP_ne e).2.2.2.2.2.2.2.1]
 · simp only [g1, if_false] at h ⊢
   by_cases g2 : x.q = 2
   · simp only [g2, if_true] at h ⊢
     have e : rekeyP a = (0, (rekeyP a).2.1, (rekeyP a).2.2) := by rw [← h]
     rw [(rekeyP_ne e).2.1]
   · simp only [g2, if_false] at h ⊢
     have e : sellP T a x.te x.mo = (0, (sellP T a x.te x.mo).2.1, (sellP T a x.te x.mo).2.2) := by rw [← h]
     exact (sellP_ne e).2.2.2.2.2.2.1
def Unlike (a b : Acc) : Prop := b.next = a.next + 1 ∨ (b.me = a.me ∧ b.rev = a.rev ∧ b.next = a.next ∧ b.month = a.month ∧ b.bought = a.bought ∧ b.free = a.free ∧ b.l.length = a.l.length + 1)
structure Had (T : Tm) (c : List Nat) (L : List Ev) (B : List Cu) (lp : List Pr) (k : Nat) (me : Nat) (c2 : Cu) (v : Ev) (V : Sv) : Prop where
 wl : V.wl = putW 600 (L.length * 14) (evW v)
 len : 1 ≤ V.wl.length ∧ V.wl.length ≤ 15
 at_ : ∀ p ∈ V.wl, p.1 < 600
 lt : ∀ p ∈ V.wl, p.2 < 4294967296
 shp : Shp T (applyW c V.wl) (L ++ [v]) (B.set me c2) V.lp (k + 1)
 torn : ∀ j, j < V.wl.length → ∀ c5 lp2 k2, Shp T c5 L B lp2 k2 → Shp T (applyW c5 (V.wl.take j)) L B lp2 k2
 whole : ∀ c5 lp2 k2, Shp T c5 L B lp2 k2 → Shp T (applyW c5 V.wl) (L ++ [v]) (B.set me c2) V.lp (k + 1)
 un : Unlike (B.getD me cu0).a c2.a
 lpl : V.lp.length ≤ lp.length + 1
 hv : v.ok
 gr : ∀ j, ∃ t, ((B.set me c2).getD j cu0).s = (B.getD j cu0).s ++ t
 hi : me < B.length
 mec : c2.a.me = (B.getD me cu0).a.me
theorem Shp.ask {T : Tm} {c : List Nat} {L : List Ev} {B : List Cu} {lp : List Pr} {k : Nat} {o : Od} {x0 x1 x2 x3 x4 : Int} (h : Shp T c L B lp k) (hT : T.Ok) (hk : k ≤ 30) (ho : o.Is x0 x1 x2 x3 x4) (h0 : (o.V T (B.getD o.me cu0).a lp 600 L.length).E = 0) :
   Had T c L B lp k o.me (o.c T (B.getD o.me cu0) lp) (o.v T (B.getD o.me cu0).a lp) (o.V T (B.getD o.me cu0).a lp 600 L.length) := by
 have hp := h.at_ ho.h3
 have hlens := h.lens
 have hlen := h.len
 have hlpl := h.lpl
 have h3 := ho.h3
 have h5 := ho.h5
 have h7 := ho.h7
 have h9 := ho.h9
 have h11 := ho.h11
 have h13 := ho.h13
 obtain ⟨hi, _⟩ := place_some hp
 have hgd : B.getD o.me cu0 = B[o.me]'hi := by simp [hi]
 have hme : (B.getD o.me cu0).a.me = o.me := by rw [hgd]; exact h.me _ _
 have key : (o.V T (B.getD o.me cu0).a lp 600 L.length).wl = putW c.length (L.length * 14) (evW (o.v T (B.getD o.me cu0).a lp)) ∧ (o.v T (B.getD o.me cu0).a lp).ok ∧ ((o.v T (B.getD o.me cu0).a lp).k ≠ 1 ∧ (o.v T (B.getD o.me cu0).a lp).te ≤ 1000000) ∧ keepE T B (o.v T (B.getD o.me cu0).a lp) = (0, B.set o.me (o.c T (B.getD o.me cu0) lp)) ∧ (o.c T (B.getD o.me cu0) lp).a.me = o.me ∧ OOk (o.V T (B.getD o.me cu0).a lp 600 L.length).lp ∧ (o.V T (B.getD o.me cu0).a lp 600 L.length).lp.length ≤ lp.length + 1 ∧ Unlike (B.getD o.me cu0).a (o.c T (B.getD o.me cu0) lp).a ∧ ∃ t, (o.c T (B.getD o.me cu0) lp).s = (B.getD o.me cu0).s ++ t := by
   by_cases hq : o.q = 0
   · have e1 : o.V T (B.getD o.me cu0).a lp 600 L.length = ⟨if (oweP (B.getD o.me cu0).a o.ow o.bp).1 = 0 then putW 600 (L.length * 14) (evW (chgV o.me o.ow o.bp)) else [], lp, 0, bil0, ⟨#[]⟩, (oweP (B.getD o.me cu0).a o.ow o.bp).1⟩ := by unfold Od.V; rw [if_pos hq]
     have e2 : o.v T (B.getD o.me cu0).a lp = chgV o.me o.ow o.bp := by unfold Od.v; rw [if_pos hq]
     have e3 : o.c T (B.getD o.me cu0) lp = ⟨(oweP (B.getD o.me cu0).a o.ow o.bp).2, (B.getD o.me cu0).s⟩ := by unfold Od.c; rw [if_pos hq]
     rw [e1] at h0 ⊢
     rw [e2, e3]
     dsimp only at h0 ⊢
     rw [if_pos h0, hlen]
     have e : oweP (B.getD o.me cu0).a o.ow o.bp = (0, (oweP (B.getD o.me cu0).a o.ow o.bp).2) := by rw [← h0]
     have hn := (oweP_ne e).1
     refine ⟨rfl, chgV_ok (by omega) (by omega) (by omega) (by omega), ⟨show (5 : Nat) ≠ 1 by decide, show (0 : Nat) ≤ 1000000 by decide⟩, chg_law hp h0, ?_, h.ook, by omega, .inr ?_, [], by simp⟩
     · rw [hn]; exact hme
     · rw [hn]; exact ⟨rfl, rfl, rfl, rfl, rfl, rfl, by simp⟩
   · have e1 : o.V T (B.getD o.me cu0).a lp 600 L.length = saleP T (B.getD o.me cu0).a lp c.length L.length o.d o.rq := by unfold Od.V; rw [if_neg hq, hlen]
     have e2 : o.v T (B.getD o.me cu0).a lp = saleV T (B.getD o.me cu0).a lp o.d o.rq := by unfold Od.v; rw [if_neg hq]
     have e3 : o.c T (B.getD o.me cu0) lp = ⟨(o.rq.r T (B.getD o.me cu0).a).2.1, (B.getD o.me cu0).s ++ [soldP (B.getD o.me cu0).a.rev (saleV T (B.getD o.me cu0).a lp o.d o.rq) (o.rq.r T (B.getD o.me cu0).a).2.1]⟩ := by unfold Od.c; rw [if_neg hq]
     rw [e1] at h0 ⊢
     rw [e2, e3]
     obtain ⟨s1, s2, s3, s4, s5, s6⟩ := sale_law (x := o.rq) (i := o.me) hT h.srv ⟨show o.me ≤ 49 by omega, show 1 ≤ o.te by omega, show o.te ≤ 1000000 by omega, show o.mo ≤ 2399 by omega⟩ hp (by omega) (by omega) h.ook (by omega) h13 h0
     exact ⟨s3, s2, ⟨o.rq.k_ne.1, Rq.tel s1 (show o.te ≤ 1000000 by omega)⟩, s4, (Rq.meq s1).trans hme, s5, s6, .inl (Rq.next s1), _, rfl⟩
 obtain ⟨k1, k2, k3, k4, k5, k6, k7, k8, k9⟩ := key
 have hat := putW_at (len := c.length) (at0 := L.length * 14) (r := evW (o.v T (B.getD o.me cu0).a lp)) (by simp only [evW, List.length_cons, List.length_nil]; omega)
 have hwn := putW_len c.length (L.length * 14) (evW (o.v T (B.getD o.me cu0).a lp))
 have e13 : (evW (o.v T (B.getD o.me cu0).a lp)).length = 13 := rfl
 rw [e13] at hwn
 have hlt := putW_lt (len := c.length) (at0 := L.length * 14) (r := evW (o.v T (B.getD o.me cu0).a lp)) ⟨by simp [evW], fun x hx => by have := k2.lt x hx; omega⟩
 have hsh := h.step hk k2 k3 hi k4 k5 k6 k7
 have hput : ∀ c5 lp2 k2', Shp T c5 L B lp2 k2' → Srv T (applyW c5 (putW 600 (L.length * 14) (evW (o.v T (B.getD o.me cu0).a lp)))) (L ++ [o.v T (B.getD o.me cu0).a lp]) (B.set o.me (o.c T (B.getD o.me cu0) lp)) ∧ ∀ k, k < (putW 600 (L.length * 14) (evW (o.v T (B.getD o.me cu0).a lp))).length → Srv T (applyW c5 ((putW 600 (L.length * 14) (evW (o.v T (B.getD o.me cu0).a lp))).take k)) L B := by
   intro c5 lp2 k2' h5
   have h := h5.srv.put k2 k4 (by omega) (by have := h5.len; omega)
   rwa [h5.len] at h
 have k1' := k1
 rw [hlen] at k1'
 rw [← k1] at hat hwn hlt hsh
 rw [← k1'] at hput
 refine ⟨k1', by omega, fun p hp => by have := (hat p hp).2; omega, hlt, hsh, fun j hj c5 lp2 k2' h2 => ⟨(hput c5 lp2 k2' h2).2 j hj, by rw [applyW_length]; exact h2.len, h2.evs, h2.cus, h2.me, h2.ook, h2.lpl⟩, fun c5 lp2 k2' h2 => ⟨(hput c5 lp2 k2' h2).1, by rw [applyW_length]; exact h2.len, hsh.evs, hsh.cus, hsh.me, hsh.ook, hsh.lpl⟩, k8, k7, k2, fun j => ?_, hi, k5.trans hme.symm⟩
 by_cases hj : j = o.me
 · subst hj
   obtain ⟨t, ht⟩ := k9
   exact ⟨t, by rw [← ht]; simp [hi]⟩
 · refine ⟨[], ?_⟩
   simp only [List.append_nil, List.getD_eq_getElem?_getD, List.getElem?_set_ne (Ne.symm hj)]
theorem tag_again {lp : List Pr} {me rev cls d d2 : Nat} {r : Nat × Acc × Bil} : tagP (issL lp (me : Int) (rev : Int) (tbody cls r.2.2.id (amP cls r) : Nat) (d : Int)) me rev cls d2 r = tagP lp me rev cls d r := by
 unfold tagP
 generalize ((tbody cls r.2.2.id (amP cls r) : Nat) : Int) = z
 have h := issL_look lp me rev z d (me, rev, z)
 rw [if_pos rfl] at h
 have e : ∀ l : List Pr, issT l me rev z d2 = (look l (me, rev, z)).getD d2 := fun l => rfl
 rw [e, h]
 rfl
theorem iss_again {lp : List Pr} {x y z d d2 : Int} : issL (issL lp x y z d) x y z d2 = issL lp x y z d := by
 have h := issL_look lp x y z d (x, y, z)
 rw [if_pos rfl] at h
 have e : ∀ l : List Pr, issL l x y z d2 = if look l (x, y, z) = none then l ++ [(x, y, z, d2)] else l := fun l => rfl
 rw [e, h]
 simp
theorem Od.retry {o : Od} {T : Tm} {a : Acc} {lp : List Pr} {n m : Nat} (d2 : Nat) (h : (o.V T a lp n m).E = 0) : (⟨o.q, o.me, o.ow, o.bp, o.te, o.mo, d2⟩ : Od).V T a (o.V T a lp n m).lp n m = o.V T a lp n m := by
 obtain ⟨q, me, ow, bp, te, mo, d⟩ := o
 unfold Od.V at h ⊢
 try dsimp only at h
 try dsimp only
 by_cases hq : q = 0
 · simp only [hq, if_true]
 · simp only [hq, if_false] at h ⊢
   unfold saleP Od.rq at h ⊢
   try dsimp only at h
   try dsimp only
   rw [svP_E] at h
   rw [svP_ok h]
   try dsimp only
   rw [svP_ok h, tag_again, iss_again]
theorem Od.V_lp0 {o : Od} {T : Tm} {a : Acc} {lp : List Pr} {n m : Nat} (hq : o.q = 0) : (o.V T a lp n m).lp = lp ∧ (o.V T a lp n m).s = ⟨#[]⟩ ∧ (o.V T a lp n m).me = 0 ∧ (o.V T a lp n m).b = bil0 := by
 unfold Od.V
 rw [if_pos hq]
 exact ⟨rfl, rfl, rfl, rfl⟩
theorem sold_tok {T : Tm} {a : Acc} {lp : List Pr} {d : Nat} {x : Rq} : (soldP a.rev (saleV T a lp d x) (x.r T a).2.1).cls = x.cls ∧ (soldP a.rev (saleV T a lp d x) (x.r T a).2.1).id = (x.r T a).2.2.id ∧ (soldP a.rev (saleV T a lp d x) (x.r T a).2.1).am = amP x.cls (x.r T a) ∧ (soldP a.rev (saleV T a lp d x) (x.r T a).2.1).tag = tagP lp x.me a.rev x.cls d (x.r T a) := by
 unfold soldP saleV evP amP
 dsimp only
 by_cases g1 : x.q = 1
 · have hk : x.k = 3 := by unfold Rq.k; rw [if_pos g1]
   have hc : x.cls = 0 := by unfold Rq.cls; rw [if_neg (by omega)]
   rw [hk, hc]
   exact ⟨rfl, rfl, rfl, rfl⟩
 · by_cases g2 : x.q = 2
   · have hk : x.k = 4 := by unfold Rq.k; rw [if_neg g1, if_pos g2]
     have hc : x.cls = 2 := by unfold Rq.cls; rw [if_pos g2]
     rw [hk, hc]
     exact ⟨rfl, rfl, rfl, rfl⟩
   · have hk : x.k = 2 := by unfold Rq.k; rw [if_neg g1, if_neg g2]
     have hc : x.cls = 0 := by unfold Rq.cls; rw [if_neg g2]
     rw [hk, hc]
     exact ⟨rfl, rfl, rfl, rfl⟩
theorem Od.V_sale {o : Od} {T : Tm} {a : Acc} {lp : List Pr} {n m : Nat} (hq : o.q ≠ 0) (h : (o.V T a lp n m).E = 0) : (o.V T a lp n m).me = o.me ∧ (o.V T a lp n m).b = (o.rq.r T a).2.2 ∧ (o.rq.r T a).1 = 0 ∧ (o.V T a lp n m).s = dstr (tokD o.rq.cls (o.rq.r T a).2.2.id (amP o.rq.cls (o.rq.r T a)) (tagP lp o.me a.rev o.rq.cls o.d (o.rq.r T a))) := by
 unfold Od.V at h ⊢
 rw [if_neg hq] at h ⊢
 unfold saleP at h ⊢
 rw [svP_E] at h
 rw [svP_ok h]
 exact ⟨rfl, rfl, h, rfl⟩
end Go.Proofs.YtpcgpnkmjjamhaaGreat

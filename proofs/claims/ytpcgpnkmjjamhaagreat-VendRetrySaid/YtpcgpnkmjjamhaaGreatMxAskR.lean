/- What was sold is found again: plain. -/
import Derived.Test.YtpcgpnkmjjamhaaGreatMxAskP
import Derived.Test.YtpcgpnkmjjamhaaGreatMxReprint
namespace Go.Proofs.YtpcgpnkmjjamhaaGreat
open Go.RowKit
set_option linter.unusedVariables false
theorem Shp.again {T : Tm} {c c3 : List Nat} {L L3 : List Ev} {B B3 : List Cu} {lp lp3 : List Pr} {k k3 : Nat} {o : Od} (h : Shp T c L B lp k) (hT : T.Ok) (hk : k ≤ 30) (hm : o.me ≤ 2) (hq : o.q ≠ 0) (h0 : (o.V T (B.getD o.me cu0).a lp 600 L.length).E = 0) (h3 : Shp T c3 L3 B3 lp3 k3) (hk3 : k3 ≤ 40)
   (hg : ∃ t, (B3.getD o.me cu0).s = (o.c T (B.getD o.me cu0) lp).s ++ t) : repV (findS (B3.getD o.me cu0).s (o.V T (B.getD o.me cu0).a lp 600 L.length).b.id) = .tuple #[.string (o.V T (B.getD o.me cu0).a lp 600 L.length).s, .int .i64 0] := by
 obtain ⟨v1, v2, v3, v4⟩ := Od.V_sale hq h0
 obtain ⟨t, ht⟩ := hg
 have hc3 := h3.cus
 have hc := h.cus
 have hB := h.srv.bok hT
 have hN3 := h3.srv.num hT
 have hgd : B.getD o.me cu0 = B[o.me] := by simp [hc, show o.me < 3 by omega]
 have hgd3 : B3.getD o.me cu0 = B3[o.me] := by simp [hc3, show o.me < 3 by omega]
 have hnx := (hB.h1 B[o.me] (List.getElem_mem _)).2
 have hn := hN3 B3[o.me] (List.getElem_mem _)
 rw [← hgd] at hnx
 rw [← hgd3] at hn
 have hid : (o.rq.r T (B.getD o.me cu0).a).2.2.id = (B.getD o.me cu0).s.length + 1 := by rw [Rq.id v3, hnx]
 have hcs : (o.c T (B.getD o.me cu0) lp).s = (B.getD o.me cu0).s ++ [soldP (B.getD o.me cu0).a.rev (saleV T (B.getD o.me cu0).a lp o.d o.rq) (o.rq.r T (B.getD o.me cu0).a).2.1] := by unfold Od.c; rw [if_neg hq]
 obtain ⟨t1, t2, t3, t4⟩ := sold_tok (T := T) (a := (B.getD o.me cu0).a) (lp := lp) (d := o.d) (x := o.rq)
 rw [hcs] at ht
 generalize hso : soldP (B.getD o.me cu0).a.rev (saleV T (B.getD o.me cu0).a lp o.d o.rq) (o.rq.r T (B.getD o.me cu0).a).2.1 = so at *
 have hlen : (B.getD o.me cu0).s.length + 1 ≤ (B3.getD o.me cu0).s.length := by rw [ht]; simp
 rw [v2, hid, findS_num (fun j hj => (hn j hj).1), dif_pos ⟨by omega, hlen⟩]
 have hat : (B3.getD o.me cu0).s[(B.getD o.me cu0).s.length + 1 - 1]'(by omega) = so := by
   simp only [ht]
   simp
 rw [hat]
 unfold repV
 dsimp only
 rw [t1, t2, t3, t4, v4]
 rfl
theorem Od.V_str {T : Tm} {c : List Nat} {L : List Ev} {B : List Cu} {lp : List Pr} {k : Nat} {o : Od} {x0 x1 x2 x3 x4 : Int} (h : Shp T c L B lp k) (hT : T.Ok) (hk : k ≤ 30) (ho : o.Is x0 x1 x2 x3 x4) (hq : o.q ≠ 0) (h0 : (o.V T (B.getD o.me cu0).a lp 600 L.length).E = 0) : (o.V T (B.getD o.me cu0).a lp 600 L.length).s.toList.isEmpty = false := by
 obtain ⟨v1, v2, v3, v4⟩ := Od.V_sale hq h0
 have hm := ho.h3
 have h9 := ho.h9
 have h11 := ho.h11
 have hc := h.cus
 have hlens := h.lens
 have hB := h.srv.bok hT
 have hi : o.me < B.length := by omega
 have hgd : B.getD o.me cu0 = B[o.me] := by simp [hi]
 have hao := hB.h1 B[o.me] (List.getElem_mem hi)
 have hs := hB.sold (List.getElem_mem hi)
 rw [← hgd] at hao hs
 have htk := (Rq.tk (x := o.rq) (T := T) (a := (B.getD o.me cu0).a) ⟨show o.me ≤ 49 by omega, show 1 ≤ o.te by omega, show o.te ≤ 1000000 by omega, show o.mo ≤ 2399 by omega⟩ hT hao.1 (by omega) v3).1
 rw [v4]
 refine dstr_empty ?_
 obtain ⟨t1, t2, t3, t4, t5⟩ := htk
 rw [tokD_len ⟨t1, t2, t3, t4, by have := tagP_le (r := o.rq.r T (B.getD o.me cu0).a) (me := o.me) (rev := (B.getD o.me cu0).a.rev) (cls := o.rq.cls) h.ook ho.h13; omega⟩]
 omega
theorem Shp.few {T : Tm} {c : List Nat} {L : List Ev} {B : List Cu} {lp : List Pr} {k : Nat} (h : Shp T c L B lp k) (hT : T.Ok) (j : Nat) (hj : j ≤ 2) : (B.getD j cu0).s.length ≤ k := by
 have hc := h.cus
 have hB := h.srv.bok hT
 have hl := h.lens
 have hgd : B.getD j cu0 = B[j] := by simp [hc, show j < 3 by omega]
 rw [hgd]
 have h3 := hB.h3
 have := le_sum (List.mem_map_of_mem (f := fun c : Cu => c.s.length) (List.getElem_mem (l := B) (n := j) (by omega)))
 try dsimp only at this
 omega
theorem Shp.none {T : Tm} {c : List Nat} {L : List Ev} {B : List Cu} {lp : List Pr} {k : Nat} (h : Shp T c L B lp k) (hT : T.Ok) (j id : Nat) (hj : j ≤ 2) (hi : k < id) : findS (B.getD j cu0).s id = Option.none := by
 have hN := h.srv.num hT
 have hc := h.cus
 have hf := h.few hT j hj
 have hgd : B.getD j cu0 = B[j] := by simp [hc, show j < 3 by omega]
 have hn := hN B[j] (List.getElem_mem _)
 rw [← hgd] at hn
 rw [findS_num (fun i hi => (hn i hi).1), dif_neg (by omega)]
end Go.Proofs.YtpcgpnkmjjamhaaGreat

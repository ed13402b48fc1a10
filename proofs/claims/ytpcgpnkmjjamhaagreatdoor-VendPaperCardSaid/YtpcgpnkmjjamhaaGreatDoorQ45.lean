/- (vendmeterkeep.shop).served: kind 4. -/
import Derived.Test.YtpcgpnkmjjamhaaGreatDoorQ44
import Derived.Test.YtpcgpnkmjjamhaaGreatDoorQ9
import Derived.Test.YtpcgpnkmjjamhaaGreatDoorQ39
import Derived.Test.YtpcgpnkmjjamhaaGreatDoorQ41
import Derived.Test.YtpcgpnkmjjamhaaGreatDoorQ43
import Derived.Test.YtpcgpnkmjjamhaaGreatDoorQ32
namespace Go.Proofs.YtpcgpnkmjjamhaaGreatDoor
open Go.RowKit
set_option linter.unusedVariables false
set_option maxRecDepth 100000
set_option maxHeartbeats 8000000 in
theorem served4_ok (T : Tm) (hT : T.Ok) (At : Option Addr) (nt ct : Nat) (cv : Value) (c : List Nat) (L : List Ev) (B : List Cu) (me i d : Nat) (Ao : Option Addr) (no co : Nat) (lp : List Pr) (xk xm xa xb xd q : Int) (w : World)
   (wfk : (Lit.int .i64 xk).wf = true) (wfm : (Lit.int .i64 xm).wf = true) (wfa : (Lit.int .i64 xa).wf = true) (wfb : (Lit.int .i64 xb).wf = true) (wfd : (Lit.int .i64 xd).wf = true) (hk : Hid (pk xk 8 = 2)) (hM : Hid (pk xm 3 = (me : Int))) (hme : me ≤ 2) (hD : Hid (pk xd 65536 = (d : Int))) (hd : d ≤ 65535)
   (hvt : IsDs w (.slice At nt ct) T.tl) (hc : IsWs w cv c) (hS : Srv T c L B) (hp : place B me = some i) (hL : L.length < 120) (hf : (L.length + 1) * 14 ≤ c.length) (hps : IsPs w (.slice Ao no co) lp) (hlp : OOk lp) (h5 : lp.length < 500) :
   Calls Tryz.prog 7 #[.agg #[.slice At nt ct, .int .i64 ↑T.fx, .int .i64 ↑T.fb, .int .i64 ↑T.db, .int .i64 ↑T.al, cv, .slice Ao no co], .agg #[.int .i64 xk, .int .i64 xm, .int .i64 xa, .int .i64 xb, .int .i64 xd]] w (RetServe (svP (rekeyP (B.getD i cu0).a) 4 me 0 2 (B.getD i cu0).a.rev d lp c.length L.length) w) := by
 obtain ⟨Ac, nc, cc, rfl⟩ : ∃ Ac nc cc, cv = .slice Ac nc cc := by obtain ⟨X, y, h, _⟩ := hc; exact ⟨X, _, y, h⟩
 have hV := fun W h1 h2 h3 => vserve4_ok T hT At nt ct (.slice Ac nc cc) c L B me i d Ao no co lp W h1 h2 hS (by omega) hp hL hf h3 hlp h5 (by omega)
 obtain ⟨v, hv⟩ : ∃ v, svP (rekeyP (B.getD i cu0).a) 4 me 0 2 (B.getD i cu0).a.rev d lp c.length L.length = v := ⟨_, rfl⟩
 rw [hv] at hV ⊢
 obtain ⟨wl, lq, vme, ⟨id, te', de, fe, pr, ch, un⟩, s, E⟩ := v
 unfold RetServe at hV
 unfold RetServe
 dsimp only at hV
 dsimp only
 clear hv hS hp hL hf hlp h5
 have H := Mem.init w
 obtain ⟨W0, hW0⟩ : ∃ W0, ((((w).alloc (.cells #[.slice At nt ct, .int .i64 ↑T.fx, .int .i64 ↑T.fb, .int .i64 ↑T.db, .int .i64 ↑T.al, .slice Ac nc cc, .slice Ao no co] 36)).alloc (.cells #[.int .i64 xk, .int .i64 xm, .int .i64 xa, .int .i64 xb, .int .i64 xd] 27)).alloc (.cells #[.slice none 0 0] 34)).alloc (.cells #[.int .i64 0, .int .i64 0, .int .i64 0, .int .i64 0, .int .i64 0, .int .i64 0, .int .i64 0, .int .i64 0, .string ⟨#[]⟩] 50) = W0 := ⟨_, rfl⟩
 replace H := Mem.alloc H (w.heap.size) (by first | (simp; done) | (simp; omega)) #[.slice At nt ct, .int .i64 ↑T.fx, .int .i64 ↑T.fb, .int .i64 ↑T.db, .int .i64 ↑T.al, .slice Ac nc cc, .slice Ao no co] 36
 replace H := Mem.alloc H (w.heap.size + 1) (by first | (simp; done) | (simp; omega)) #[.int .i64 xk, .int .i64 xm, .int .i64 xa, .int .i64 xb, .int .i64 xd] 27
 replace H := Mem.alloc H (w.heap.size + 1 + 1) (by first | (simp; done) | (simp; omega)) #[.slice none 0 0] 34
 replace H := Mem.alloc H (w.heap.size + 1 + 1 + 1) (by first | (simp; done) | (simp; omega)) #[.int .i64 0, .int .i64 0, .int .i64 0, .int .i64 0, .int .i64 0, .int .i64 0, .int .i64 0, .int .i64 0, .string ⟨#[]⟩] 50
 simp only [List.nil_append, List.cons_append] at H
 rw [hW0] at H
 have hvt0 := hvt.below H.below
 have hc0 := hc.below H.below
 have hps0 := hps.below H.below
 clear hvt hc hps
 obtain ⟨shlt, sh0, shf0, sh1, shf1, sh2, shf2, sh3, shf3, sh4, shf4, sh5, shf5, sh6, shf6⟩ := H.c7 0 rfl
 obtain ⟨odlt, od0, odf0, od1, odf1, od2, odf2, od3, odf3, od4, odf4⟩ := H.c5 1 rfl
 have ne_sh_od := H.ne 0 1 rfl rfl (by decide)
 have ne_od_sh := H.ne 1 0 rfl rfl (by decide)
 go_enter Tryz.func7, Tryz.ntmps7
 go_wp2_with (first | (go_at_call 6; (with_reducible refine (picked_is _ hM wfm (by omega) (by omega)).mono ?_); rintro e w' ⟨rfl, rfl⟩) | (go_at_call 6; (with_reducible refine (picked_is _ hD wfd (by omega) (by omega)).mono ?_); rintro e w' ⟨rfl, rfl⟩) | (go_at_call 6; (with_reducible refine (picked_is _ hk wfk (by omega) (by omega)).mono ?_); rintro e w' ⟨rfl, rfl⟩))
 refine (hV _ hvt0 hc0 hps0).mono ?_
 rintro e w1 ⟨A3, c3, A2, c2, rfl, ho1, ho2, hb1⟩
 have HH := Mem.row2 H hb1 ho1 ho2 (by decide)

 have H : Mem (w) [] (w1) [.blk (w.heap.size) 36 #[.slice At nt ct, .int .i64 ↑T.fx, .int .i64 ↑T.fb, .int .i64 ↑T.db, .int .i64 ↑T.al, .slice Ac nc cc, .slice Ao no co], .blk (w.heap.size + 1) 27 #[.int .i64 xk, .int .i64 xm, .int .i64 xa, .int .i64 xb, .int .i64 xd], .blk (w.heap.size + 1 + 1) 34 #[.slice none 0 0], .blk (w.heap.size + 1 + 1 + 1) 50 #[.int .i64 0, .int .i64 0, .int .i64 0, .int .i64 0, .int .i64 0, .int .i64 0, .int .i64 0, .int .i64 0, .string ⟨#[]⟩], .row (W0.heap.size) (155) (4) (.slice A2 lq.length c2) (lq.length) (prs lq), .row (W0.heap.size) (119) (2) (.slice A3 wl.length c3) (wl.length) (wrs wl)] := HH
 clear HH hV hW0 hvt0 hc0 hps0 hb1 ho1 ho2
 clear shlt sh0 shf0 sh1 shf1 sh2 shf2 sh3 shf3 sh4 shf4 sh5 shf5 sh6 shf6 odlt od0 odf0 od1 odf1 od2 odf2 od3 odf3 od4 odf4 ne_sh_od ne_od_sh
 go_wp2
 obtain ⟨w2, hw2⟩ : ∃ w2, ((w1).alloc (.cells #[.slice A2 lq.length c2] 34)).alloc (.cells #[.int .i64 ↑vme, .int .i64 ↑id, .int .i64 (te' : Int), .int .i64 ↑de, .int .i64 ↑fe, .int .i64 ↑pr, .int .i64 ↑ch, .int .i64 ↑un, .string s] 50) = w2 := ⟨_, rfl⟩
 replace H := Mem.alloc H (w1.heap.size) (by first | (simp; done) | (simp; omega)) #[.slice A2 lq.length c2] 34
 replace H := Mem.alloc H (w1.heap.size + 1) (by first | (simp; done) | (simp; omega)) #[.int .i64 ↑vme, .int .i64 ↑id, .int .i64 (te' : Int), .int .i64 ↑de, .int .i64 ↑fe, .int .i64 ↑pr, .int .i64 ↑ch, .int .i64 ↑un, .string s] 50
 simp only [List.cons_append, List.nil_append] at H
 rw [hw2] at H ⊢
 clear hw2
 obtain ⟨oblt, ob0, obf0⟩ := H.c1 6 rfl
 obtain ⟨rblt, rb0, rbf0, rb1, rbf1, rb2, rbf2, rb3, rbf3, rb4, rbf4, rb5, rbf5, rb6, rbf6, rb7, rbf7, rb8, rbf8⟩ := H.c9 7 rfl
 obtain ⟨rolt, ro0, rof0⟩ := H.c1 2 rfl
 obtain ⟨rrlt, rr0, rrf0, rr1, rrf1, rr2, rrf2, rr3, rrf3, rr4, rrf4, rr5, rrf5, rr6, rrf6, rr7, rrf7, rr8, rrf8⟩ := H.c9 3 rfl
 have ne_ob_rb := H.ne 6 7 rfl rfl (by decide)
 have ne_ob_ro := H.ne 6 2 rfl rfl (by decide)
 have ne_ob_rr := H.ne 6 3 rfl rfl (by decide)
 have ne_rb_ob := H.ne 7 6 rfl rfl (by decide)
 have ne_rb_ro := H.ne 7 2 rfl rfl (by decide)
 have ne_rb_rr := H.ne 7 3 rfl rfl (by decide)
 have ne_ro_ob := H.ne 2 6 rfl rfl (by decide)
 have ne_ro_rb := H.ne 2 7 rfl rfl (by decide)
 have ne_ro_rr := H.ne 2 3 rfl rfl (by decide)
 have ne_rr_ob := H.ne 3 6 rfl rfl (by decide)
 have ne_rr_rb := H.ne 3 7 rfl rfl (by decide)
 have ne_rr_ro := H.ne 3 2 rfl rfl (by decide)
 go_region
 go_wp2
 clear oblt ob0 obf0 rblt rb0 rbf0 rb1 rbf1 rb2 rbf2 rb3 rbf3 rb4 rbf4 rb5 rbf5 rb6 rbf6 rb7 rbf7 rb8 rbf8 rolt ro0 rof0 rrlt rr0 rrf0 rr1 rrf1 rr2 rrf2 rr3 rrf3 rr4 rrf4 rr5 rrf5 rr6 rrf6 rr7 rrf7 rr8 rrf8 ne_ob_rb ne_ob_ro ne_ob_rr ne_rb_ob ne_rb_ro ne_rb_rr ne_ro_ob ne_ro_rb ne_ro_rr ne_rr_ob ne_rr_rb ne_rr_ro
 obtain ⟨w3, hw3⟩ : ∃ w3, (((((((((((w2).setCell ⟨w.heap.size + 1 + 1, 0, none⟩ (.slice A2 lq.length c2)).setCell ⟨w.heap.size + 1 + 1 + 1, 0, none⟩ (.int .i64 ↑vme)).setCell ⟨w.heap.size + 1 + 1 + 1, 1, none⟩ (.int .i64 ↑id)).setCell ⟨w.heap.size + 1 + 1 + 1, 2, none⟩ (.int .i64 (te' : Int))).setCell ⟨w.heap.size + 1 + 1 + 1, 3, none⟩ (.int .i64 ↑de)).setCell ⟨w.heap.size + 1 + 1 + 1, 4, none⟩ (.int .i64 ↑fe)).setCell ⟨w.heap.size + 1 + 1 + 1, 5, none⟩ (.int .i64 ↑pr)).setCell ⟨w.heap.size + 1 + 1 + 1, 6, none⟩ (.int .i64 ↑ch)).setCell ⟨w.heap.size + 1 + 1 + 1, 7, none⟩ (.int .i64 ↑un)).setCell ⟨w.heap.size + 1 + 1 + 1, 8, none⟩ (.string s)).drew = w3 := ⟨_, rfl⟩
 replace H := Mem.set 2 H rfl (0) (.slice A2 lq.length c2)
 replace H := Mem.set 3 H rfl (0) (.int .i64 ↑vme)
 replace H := Mem.set 3 H rfl (1) (.int .i64 ↑id)
 replace H := Mem.set 3 H rfl (2) (.int .i64 (te' : Int))
 replace H := Mem.set 3 H rfl (3) (.int .i64 ↑de)
 replace H := Mem.set 3 H rfl (4) (.int .i64 ↑fe)
 replace H := Mem.set 3 H rfl (5) (.int .i64 ↑pr)
 replace H := Mem.set 3 H rfl (6) (.int .i64 ↑ch)
 replace H := Mem.set 3 H rfl (7) (.int .i64 ↑un)
 replace H := Mem.set 3 H rfl (8) (.string s)
 simp only [List.set_cons_zero, List.set_cons_succ, List.setIfInBounds_toArray] at H
 replace H := H.drew
 rw [hw3] at H ⊢
 clear hw3
 obtain ⟨rolt, ro0, rof0⟩ := H.c1 2 rfl
 obtain ⟨rrlt, rr0, rrf0, rr1, rrf1, rr2, rrf2, rr3, rrf3, rr4, rrf4, rr5, rrf5, rr6, rrf6, rr7, rrf7, rr8, rrf8⟩ := H.c9 3 rfl
 have ne_ro_rr := H.ne 2 3 rfl rfl (by decide)
 have ne_rr_ro := H.ne 3 2 rfl rfl (by decide)
 refine bodyPost_ret (v := .tuple #[.slice A3 wl.length c3, .agg #[.slice A2 lq.length c2], .agg #[.int .i64 ↑vme, .int .i64 ↑id, .int .i64 (te' : Int), .int .i64 ↑de, .int .i64 ↑fe, .int .i64 ↑pr, .int .i64 ↑ch, .int .i64 ↑un, .string s], .int .i64 ↑E]) (by simp [results, Tryz.results7, go_sem, ro0, rr0, rr1, rr2, rr3, rr4, rr5, rr6, rr7, rr8]; done) rfl ?_
 exact ⟨A3, c3, A2, c2, rfl, H.ownb 4 rfl, H.ownb 5 rfl, H.below⟩
theorem Srv.put {T : Tm} {c : List Nat} {L : List Ev} {B B2 : List Cu} {v : Ev} (hS : Srv T c L B) (hv : v.ok) (hk : keepE T B v = (0, B2)) (hL : L.length < 120) (hf : (L.length + 1) * 14 ≤ c.length) :
   Srv T (applyW c (putW c.length (L.length * 14) (evW v))) (L ++ [v]) B2 ∧ ∀ k, k < (putW c.length (L.length * 14) (evW v)).length → Srv T (applyW c ((putW c.length (L.length * 14) (evW v)).take k)) L B := by
 have hp := put_tape (r := evW v) hS.tape ⟨by simp [evW], by simp [evW], fun x hx => by have := hv.lt x hx; omega⟩ (by rw [enc_evs]; simp only [evW, List.length_cons, List.length_nil]; omega)
 rw [enc_evs] at hp
 refine ⟨⟨by rw [List.map_append]; exact hp.2, ?_, ?_, by simp; omega, by rw [applyW_length]; exact hS.h1, by rw [applyW_length]; exact hS.h2⟩, fun k hk' => ⟨hp.1 k hk', hS.ok, hS.run, hS.len, by rw [applyW_length]; exact hS.h1, by rw [applyW_length]; exact hS.h2⟩⟩
 · intro u hu
   rcases List.mem_append.1 hu with h | h
   · exact hS.ok u h
   · obtain rfl := List.mem_singleton.1 h; exact hv
 · rw [runE_append, hS.run]
   exact runE_one.2 hk
theorem Srv.bok {T : Tm} {c : List Nat} {L : List Ev} {B : List Cu} (hT : T.Ok) (hS : Srv T c L B) : BOk T B L.length := by
 have := runE_bok hT L [] B 0 (bok_nil T) (by have := hS.len; omega) hS.ok hS.run
 rwa [Nat.zero_add] at this
theorem svP_E {r : Nat × Acc × Bil} {k me mo cls rev d : Nat} {lp : List Pr} {n m : Nat} : (svP r k me mo cls rev d lp n m).E = r.1 := by
 unfold svP
 by_cases h : r.1 = 0
 · rw [if_pos h, h]
 · rw [if_neg h]
theorem svP_ok {r : Nat × Acc × Bil} {k me mo cls rev d : Nat} {lp : List Pr} {n m : Nat} (h : r.1 = 0) : svP r k me mo cls rev d lp n m = ⟨putW n (m * 14) (evW (evP k me mo (tagP lp me rev cls d r) r.2.2)), issL lp (me : Int) (rev : Int) (tbody cls r.2.2.id (amP cls r) : Nat) (d : Int), me, r.2.2, dstr (tokD cls r.2.2.id (amP cls r) (tagP lp me rev cls d r)), 0⟩ := by
 unfold svP; rw [if_pos h]
theorem svP_no {r : Nat × Acc × Bil} {k me mo cls rev d : Nat} {lp : List Pr} {n m : Nat} (h : r.1 ≠ 0) : svP r k me mo cls rev d lp n m = ⟨[], [], 0, bil0, ⟨#[]⟩, r.1⟩ := by
 unfold svP; rw [if_neg h]
theorem tagP_le {r : Nat × Acc × Bil} {me rev cls d : Nat} {lp : List Pr} (hl : OOk lp) (hd : d ≤ 65535) : tagP lp me rev cls d r ≤ 65535 := by
 have := issT_bd (x := (me : Int)) (y := (rev : Int)) (z := (tbody cls r.2.2.id (amP cls r) : Nat)) (d := (d : Int)) hl (by omega) (by omega)
 unfold tagP; omega
structure Rq where
 q : Nat
 me : Nat
 te : Nat
 mo : Nat
structure Rq.Ok (x : Rq) : Prop where
 h1 : x.me ≤ 49
 h2 : 1 ≤ x.te
 h3 : x.te ≤ 1000000
 h4 : x.mo ≤ 2399
def Rq.k (x : Rq) : Nat := if x.q = 1 then 3 else if x.q = 2 then 4 else 2
def Rq.cls (x : Rq) : Nat := if x.q = 2 then 2 else 0
def Rq.m (x : Rq) : Nat := if x.q = 2 then 0 else x.mo
def Rq.r (x : Rq) (T : Tm) (a : Acc) : Nat × Acc × Bil := if x.q = 1 then grantP T a x.mo else if x.q = 2 then rekeyP a else sellP T a x.te x.mo
def saleP (T : Tm) (a : Acc) (lp : List Pr) (n m d : Nat) (x : Rq) : Sv := svP (x.r T a) x.k x.me x.m x.cls a.rev d lp n m
def saleV (T : Tm) (a : Acc) (lp : List Pr) (d : Nat) (x : Rq) : Ev := evP x.k x.me x.m (tagP lp x.me a.rev x.cls d (x.r T a)) (x.r T a).2.2
theorem Rq.deed {T : Tm} {a : Acc} {x : Rq} (t : Nat) (h : (x.r T a).1 = 0) : deedP T a (evP x.k x.me x.m t (x.r T a).2.2) = x.r T a := by
 unfold deedP evP Rq.k Rq.m Rq.r
 unfold Rq.r at h
 by_cases g1 : x.q = 1
 · simp only [g1, if_true]
   rfl
 · simp only [g1, if_false] at h ⊢
   by_cases g2 : x.q = 2
   · simp only [g2, if_true]
     rfl
   · simp only [g2, if_false] at h ⊢
     have e : sellP T a x.te x.mo = (0, (sellP T a x.te x.mo).2.1, (sellP T a x.te x.mo).2.2) := by rw [← h]
     have := (sellP_ne e).2.2.2.2.2.2.2.1
     simp only [if_true]
     rw [this]
theorem Rq.tk {T : Tm} {a : Acc} {x : Rq} (hx : x.Ok) (hT : T.Ok) (ha : a.Ok) (hn : a.next ≤ 1048575) (h : (x.r T a).1 = 0) : TkOk x.cls (x.r T a).2.2.id (amP x.cls (x.r T a)) 0 ∧ ∀ t, t ≤ 65535 → (evP x.k x.me x.m t (x.r T a).2.2).ok := by
 unfold evP Rq.k Rq.m Rq.r Rq.cls amP
 unfold Rq.r at h
 by_cases g1 : x.q = 1
 · simp only [g1, if_true] at h ⊢
   have e : grantP T a x.mo = (0, (grantP T a x.mo).2.1, (grantP T a x.mo).2.2) := by rw [← h]
   exact grant_ev hT ha hn hx.h4 hx.h1 e
 · simp only [g1, if_false] at h ⊢
   by_cases g2 : x.q = 2
   · simp only [g2, if_true] at h ⊢
     have e : rekeyP a = (0, (rekeyP a).2.1, (rekeyP a).2.2) := by rw [← h]
     exact rekey_ev ha hn hx.h1 e
   · simp only [g2, if_false] at h ⊢
     have e : sellP T a x.te x.mo = (0, (sellP T a x.te x.mo).2.1, (sellP T a x.te x.mo).2.2) := by rw [← h]
     exact sell_ev hT ha hn hx.h4 hx.h1 hx.h2 (by have := hx.h3; omega) e
theorem Rq.k_ne (x : Rq) : x.k ≠ 1 ∧ x.k ≠ 5 := by
 unfold Rq.k
 split
 · omega
 · split <;> omega
theorem Rq.cust {T : Tm} {c : Cu} {x : Rq} (t : Nat) (h : (x.r T c.a).1 = 0) : custP T c (evP x.k x.me x.m t (x.r T c.a).2.2) = (0, ⟨(x.r T c.a).2.1, c.s ++ [soldP c.a.rev (evP x.k x.me x.m t (x.r T c.a).2.2) (x.r T c.a).2.1]⟩) := by
 have hd := Rq.deed (T := T) (a := c.a) t h
 unfold custP
 rw [if_neg (show ¬ (evP x.k x.me x.m t (x.r T c.a).2.2).k = 5 from x.k_ne.2), hd, if_pos h, if_pos (show (x.r T c.a).2.2.same _ from ⟨rfl, rfl, rfl, rfl, rfl, rfl, rfl⟩)]
theorem keepE_at {T : Tm} {B : List Cu} {v : Ev} {i : Nat} {c2 : Cu} (hp : place B v.me = some i) (hk : v.k ≠ 1) (h : custP T (B.getD i cu0) v = (0, c2)) : keepE T B v = (0, B.set i c2) := by
 unfold keepE
 rw [hp]
 dsimp only
 rw [if_neg hk, h, if_pos rfl]
theorem sale_law {T : Tm} {c : List Nat} {L : List Ev} {B : List Cu} {lp : List Pr} {i d : Nat} {x : Rq} (hT : T.Ok) (hS : Srv T c L B) (hx : x.Ok) (hp : place B x.me = some i) (hL : L.length < 120) (hf : (L.length + 1) * 14 ≤ c.length) (hl : OOk lp) (h5 : lp.length < 500) (hd : d ≤ 65535) (h : (saleP T (B.getD i cu0).a lp c.length L.length d x).E = 0) :
   (x.r T (B.getD i cu0).a).1 = 0 ∧ (saleV T (B.getD i cu0).a lp d x).ok ∧ (saleP T (B.getD i cu0).a lp c.length L.length d x).wl = putW c.length (L.length * 14) (evW (saleV T (B.getD i cu0).a lp d x)) ∧
   keepE T B (saleV T (B.getD i cu0).a lp d x) = (0, B.set i ⟨(x.r T (B.getD i cu0).a).2.1, (B.getD i cu0).s ++ [soldP (B.getD i cu0).a.rev (saleV T (B.getD i cu0).a lp d x) (x.r T (B.getD i cu0).a).2.1]⟩) ∧
   OOk (saleP T (B.getD i cu0).a lp c.length L.length d x).lp ∧ (saleP T (B.getD i cu0).a lp c.length L.length d x).lp.length ≤ lp.length + 1 := by
 unfold saleP at h ⊢
 rw [svP_E] at h
 have hB := hS.bok hT
 obtain ⟨hi, hme⟩ := place_some hp
 have hgd : B.getD i cu0 = B[i] := by simp [hi]
 have hao := hB.h1 B[i] (List.getElem_mem hi)
 have hsl := hB.sold (List.getElem_mem hi)
 have hlen := hS.len
 rw [hgd] at h ⊢
 have hn : B[i].a.next ≤ 1048575 := by omega
 obtain ⟨k1, k2⟩ := Rq.tk hx hT hao.1 hn h
 have ht := tagP_le (r := x.r T B[i].a) (me := x.me) (rev := B[i].a.rev) (cls := x.cls) hl hd
 refine ⟨h, k2 _ ht, ?_, ?_, ?_, ?_⟩
 · rw [svP_ok h]; rfl
 · refine keepE_at (v := saleV T B[i].a lp d x) hp x.k_ne.1 ?_
   rw [hgd]
   exact Rq.cust _ h
 · rw [svP_ok h]
   refine issL_ok hl ?_ (by omega) (by omega) h5
   have := tbody_le k1
   have h2 := hao.1.h1.h2
   have h3 := hx.h1
   unfold mayK; dsimp only; omega
 · rw [svP_ok h]
   exact (issL_len _ _ _ _ _).2
theorem chg_law {T : Tm} {B : List Cu} {i me ow bp : Nat} (hp : place B me = some i) (h : (oweP (B.getD i cu0).a ow bp).1 = 0) : keepE T B ⟨5, me, 0, 0, 0, 0, 0, 0, 0, 0, 0, ow, bp⟩ = (0, B.set i ⟨(oweP (B.getD i cu0).a ow bp).2, (B.getD i cu0).s⟩) := by
 refine keepE_at (v := ⟨5, me, 0, 0, 0, 0, 0, 0, 0, 0, 0, ow, bp⟩) hp (show (5 : Nat) ≠ 1 by decide) ?_
 unfold custP
 rw [if_pos rfl, if_pos h]
theorem serveds_ok (T : Tm) (hT : T.Ok) (At : Option Addr) (nt ct : Nat) (cv : Value) (c : List Nat) (L : List Ev) (B : List Cu) (x : Rq) (i d : Nat) (Ao : Option Addr) (no co : Nat) (lp : List Pr) (xk xm xa xb xd : Int) (w : World)
   (wfk : (Lit.int .i64 xk).wf = true) (wfm : (Lit.int .i64 xm).wf = true) (wfa : (Lit.int .i64 xa).wf = true) (wfb : (Lit.int .i64 xb).wf = true) (wfd : (Lit.int .i64 xd).wf = true) (hk : Hid (pk xk 8 = (x.q : Int))) (hq : x.q ≠ 0) (hM : Hid (pk xm 3 = (x.me : Int))) (hme : x.me ≤ 2) (hD : Hid (pk xd 65536 = (d : Int))) (hd : d ≤ 65535) (hA : Hid (1 + pk xa 1000000 = (x.te : Int))) (hte : 1 ≤ x.te ∧ x.te ≤ 1000000) (hB : Hid (pk xb 12 = (x.mo : Int))) (hmo : x.mo ≤ 11)
   (hvt : IsDs w (.slice At nt ct) T.tl) (hc : IsWs w cv c) (hS : Srv T c L B) (hp : place B x.me = some i) (hL : L.length < 120) (hf : (L.length + 1) * 14 ≤ c.length) (hps : IsPs w (.slice Ao no co) lp) (hlp : OOk lp) (h5 : lp.length < 500) :
   Calls Tryz.prog 7 #[.agg #[.slice At nt ct, .int .i64 ↑T.fx, .int .i64 ↑T.fb, .int .i64 ↑T.db, .int .i64 ↑T.al, cv, .slice Ao no co], .agg #[.int .i64 xk, .int .i64 xm, .int .i64 xa, .int .i64 xb, .int .i64 xd]] w (RetServe (saleP T (B.getD i cu0).a lp c.length L.length d x) w) := by
 obtain ⟨q, me, te, mo⟩ := x
 dsimp only at hk hq hM hme hA hte hB hmo hp
 unfold saleP Rq.r Rq.k Rq.m Rq.cls
 dsimp only
 by_cases g1 : q = 1
 · subst g1
   exact served3_ok T hT At nt ct cv c L B me i mo d Ao no co lp xk xm xa xb xd 0 w wfk wfm wfa wfb wfd hk hM hme hD hd hB hmo hvt hc hS hp hL hf hps hlp h5
 · by_cases g2 : q = 2
   · subst g2
     exact served4_ok T hT At nt ct cv c L B me i d Ao no co lp xk xm xa xb xd 0 w wfk wfm wfa wfb wfd hk hM hme hD hd hvt hc hS hp hL hf hps hlp h5
   · simp only [g1, g2, if_false]
     exact served2_ok T hT At nt ct cv c L B me i te mo d Ao no co lp xk xm xa xb xd q w wfk wfm wfa wfb wfd hk (by omega) hM hme hD hd hA hte hB hmo hvt hc hS hp hL hf hps hlp h5
structure Opn (T : Tm) (c : List Nat) (L : List Ev) (B : List Cu) (m : Nat) : Prop where
 srv : Srv T c L B
 len : c.length = 600
 evs : L = (List.range m).map regV
 cus : B.length = m
 me : ∀ j (h : j < B.length), (B[j]'h).a.me = j
theorem opn_nil (T : Tm) : Opn T (List.replicate 600 0) [] [] 0 := ⟨⟨blank_tape 600, by simp, rfl, Nat.zero_le _, by rw [List.length_replicate]; omega, by rw [List.length_replicate]; omega⟩, List.length_replicate, rfl, rfl, fun j h => by simp at h⟩
theorem Opn.none {T : Tm} {c : List Nat} {L : List Ev} {B : List Cu} {m : Nat} (h : Opn T c L B m) : place B m = none := by
 rw [place_none]
 intro x hx
 obtain ⟨j, hj, rfl⟩ := List.getElem_of_mem hx
 rw [h.me j hj]
 have := h.cus
 omega
theorem Opn.next {T : Tm} {c : List Nat} {L : List Ev} {B : List Cu} {m : Nat} (h : Opn T c L B m) (hm : m ≤ 2) : Opn T (applyW c (putW c.length (L.length * 14) (evW (regV m)))) (L ++ [regV m]) (B ++ [⟨openP m, []⟩]) (m + 1) := by
 have hl : L.length = m := by rw [h.evs]; simp
 have hk : keepE T B (regV m) = (0, B ++ [⟨openP m, []⟩]) := by
   unfold keepE
   rw [show (regV m).me = m from rfl, h.none]
   rfl
 have hlen := h.len
 refine ⟨(h.srv.put (regV_ok (by omega)) hk (by omega) (by omega)).1, by rw [applyW_length]; exact hlen, ?_, by simp [h.cus], fun j hj => ?_⟩
 · rw [h.evs, List.range_succ, List.map_append]; rfl
 · by_cases e : j < B.length
   · rw [List.getElem_append_left e]; exact h.me j e
   · have hj2 : j = B.length := by simp at hj; omega
     subst hj2
     rw [List.getElem_append_right (Nat.le_refl _)]
     simp [openP, h.cus]
structure Shp (T : Tm) (c : List Nat) (L : List Ev) (B : List Cu) (lp : List Pr) (k : Nat) : Prop where
 srv : Srv T c L B
 len : c.length = 600
 evs : ∃ M, L = [regV 0, regV 1, regV 2] ++ M ∧ M.length ≤ k ∧ ∀ v ∈ M, v.k ≠ 1 ∧ v.te ≤ 1000000
 cus : B.length = 3
 me : ∀ j (h : j < B.length), (B[j]'h).a.me = j
 ook : OOk lp
 lpl : lp.length ≤ k
theorem ook_nil0 : OOk [] := ⟨by simp, by simp, by simp⟩
theorem Opn.shp {T : Tm} {c : List Nat} {L : List Ev} {B : List Cu} (h : Opn T c L B 3) : Shp T c L B [] 0 :=
 ⟨h.srv, h.len, ⟨[], by rw [h.evs]; rfl, by simp, by simp⟩, h.cus, h.me, ook_nil0, by simp⟩
theorem Shp.at_ {T : Tm} {c : List Nat} {L : List Ev} {B : List Cu} {lp : List Pr} {k me : Nat} (h : Shp T c L B lp k) (hm : me ≤ 2) : place B me = some me := by
 have := h.cus
 refine place_found (by omega) (fun j hj => ?_) (h.me me (by omega))
 rw [h.me j (by omega)]; omega
theorem Shp.lens {T : Tm} {c : List Nat} {L : List Ev} {B : List Cu} {lp : List Pr} {k : Nat} (h : Shp T c L B lp k) : L.length ≤ 3 + k := by
 obtain ⟨M, h1, h2, _⟩ := h.evs
 rw [h1]; simp; omega
theorem Shp.more {T : Tm} {c : List Nat} {L : List Ev} {B : List Cu} {lp : List Pr} {k : Nat} (h : Shp T c L B lp k) : Shp T c L B lp (k + 1) := by
 obtain ⟨M, h1, h2, h3⟩ := h.evs
 exact ⟨h.srv, h.len, ⟨M, h1, by omega, h3⟩, h.cus, h.me, h.ook, by have := h.lpl; omega⟩
theorem Shp.step {T : Tm} {c : List Nat} {L : List Ev} {B : List Cu} {lp lp2 : List Pr} {k i : Nat} {v : Ev} {c2 : Cu} (h : Shp T c L B lp k) (hk : k ≤ 30) (hv : v.ok) (hv1 : v.k ≠ 1 ∧ v.te ≤ 1000000) (hi : i < B.length) (hkp : keepE T B v = (0, B.set i c2)) (hme : c2.a.me = i) (ho : OOk lp2) (hl : lp2.length ≤ lp.length + 1) :
   Shp T (applyW c (putW c.length (L.length * 14) (evW v))) (L ++ [v]) (B.set i c2) lp2 (k + 1) := by
 have hlen := h.lens
 have h6 := h.len
 obtain ⟨M, h1, h2, h3⟩ := h.evs
 refine ⟨(h.srv.put hv hkp (by omega) (by omega)).1, by rw [applyW_length]; exact h6, ⟨M ++ [v], by rw [h1]; simp, by simp; omega, fun u hu => ?_⟩, by rw [List.length_set]; exact h.cus, fun j hj => ?_, ho, by have := h.lpl; omega⟩
 · rcases List.mem_append.1 hu with hu | hu
   · exact h3 u hu
   · obtain rfl := List.mem_singleton.1 hu; exact hv1
 · rw [List.getElem_set]
   split
   · rename_i e; subst e; exact hme
   · exact h.me j (by simpa using hj)
theorem Shp.le {T : Tm} {c : List Nat} {L : List Ev} {B : List Cu} {lp : List Pr} {k k2 : Nat} (h : Shp T c L B lp k) (hk : k ≤ k2) : Shp T c L B lp k2 := by
 obtain ⟨M, h1, h2, h3⟩ := h.evs
 exact ⟨h.srv, h.len, ⟨M, h1, by omega, h3⟩, h.cus, h.me, h.ook, by have := h.lpl; omega⟩
theorem Rq.meq {T : Tm} {a : Acc} {x : Rq} (h : (x.r T a).1 = 0) : (x.r T a).2.1.me = a.me := by
 unfold Rq.r at h ⊢
 by_cases g1 : x.q = 1
 · simp only [g1, if_true] at h ⊢
   have e : grantP T a x.mo = (0, (grantP T a x.mo).2.1, (grantP T a x.mo).2.2) := by rw [← h]
   exact (grantP_ne e).2.1
 · simp only [g1, if_false] at h ⊢
   by_cases g2 : x.q = 2
   · simp only [g2, if_true] at h ⊢
     have e : rekeyP a = (0, (rekeyP a).2.1, (rekeyP a).2.2) := by rw [← h]
     rw [(rekeyP_ne e).1]
   · simp only [g2, if_false] at h ⊢
     have e : sellP T a x.te x.mo = (0, (sellP T a x.te x.mo).2.1, (sellP T a x.te x.mo).2.2) := by rw [← h]
     exact (sellP_ne e).2.1
theorem Rq.tel {T : Tm} {a : Acc} {x : Rq} (h : (x.r T a).1 = 0) (hx : x.te ≤ 1000000) : (x.r T a).2.2.te ≤ 1000000 := by
 unfold Rq.r at h ⊢
 by_cases g1 : x.q = 1
 · simp only [g1, if_true] at h ⊢
   have e : grantP T a x.mo = (0, (grantP T a x.mo).2.1, (grantP T a x.mo).2.2) := by rw [← h]
   rw [(grantP_ne e).2.2.2.2.2.2.2.1]
   exact Nat.zero_le _
 · simp only [g1, if_false] at h ⊢
   by_cases g2 : x.q = 2
   · simp only [g2, if_true] at h ⊢
     have e : rekeyP a = (0, (rekeyP a).2.1, (rekeyP a).2.2) := by rw [← h]
     rw [(rekeyP_ne e).2.1]
     exact Nat.zero_le _
   · simp only [g2, if_false] at h ⊢
     have e : sellP T a x.te x.mo = (0, (sellP T a x.te x.mo).2.1, (sellP T a x.te x.mo).2.2) := by rw [← h]
     rw [(sellP_ne e).2.2.2.2.2.2.2.1]
     exact hx
theorem Shp.sale {T : Tm} {c : List Nat} {L : List Ev} {B : List Cu} {lp : List Pr} {k d : Nat} {x : Rq} (h : Shp T c L B lp k) (hT : T.Ok) (hk : k ≤ 30) (hx : x.Ok) (hme : x.me ≤ 2) (hd : d ≤ 65535) (h0 : (saleP T (B.getD x.me cu0).a lp c.length L.length d x).E = 0) :
   (1 ≤ (saleP T (B.getD x.me cu0).a lp c.length L.length d x).wl.length ∧ (saleP T (B.getD x.me cu0).a lp c.length L.length d x).wl.length ≤ 15) ∧ (∀ p ∈ (saleP T (B.getD x.me cu0).a lp c.length L.length d x).wl, p.1 < 600) ∧ (∀ p ∈ (saleP T (B.getD x.me cu0).a lp c.length L.length d x).wl, p.2 < 4294967296) ∧ ∃ L2 B2, Shp T (applyW c (saleP T (B.getD x.me cu0).a lp c.length L.length d x).wl) L2 B2 (saleP T (B.getD x.me cu0).a lp c.length L.length d x).lp (k + 1) := by
 have hp := h.at_ hme
 have hlens := h.lens
 have hlen := h.len
 have hlpl := h.lpl
 obtain ⟨s1, s2, s3, s4, s5, s6⟩ := sale_law hT h.srv hx hp (by omega) (by omega) h.ook (by omega) hd h0
 have hat := putW_at (len := c.length) (at0 := L.length * 14) (r := evW (saleV T (B.getD x.me cu0).a lp d x)) (by simp only [evW, List.length_cons, List.length_nil]; omega)
 have hwn := putW_len c.length (L.length * 14) (evW (saleV T (B.getD x.me cu0).a lp d x))
 have hlt := putW_lt (len := c.length) (at0 := L.length * 14) (r := evW (saleV T (B.getD x.me cu0).a lp d x)) ⟨by simp [evW], fun y hy => by have := s2.lt y hy; omega⟩
 have hgd : B.getD x.me cu0 = B[x.me]'(place_some hp).1 := by simp [(place_some hp).1]
 have hsh := h.step hk s2 ⟨x.k_ne.1, Rq.tel s1 hx.h3⟩ (place_some hp).1 s4 (by
   dsimp only
   rw [Rq.meq s1, hgd]; exact h.me _ _) s5 s6
 rw [s3]
 have e13 : (evW (saleV T (B.getD x.me cu0).a lp d x)).length = 13 := rfl
 rw [e13] at hwn
 exact ⟨by omega, fun p hp => by have := (hat p hp).2; omega, hlt, _, _, hsh⟩
end Go.Proofs.YtpcgpnkmjjamhaaGreatDoor

/- vend.sell: its answer. What a server answers, as a function: plain; the events of deeds. (vendmeterkeep.shop).served: a debt is charged. vend.sell: kind 2. vend.Sell, by its function. (vendmeterkeep.shop).served: kind 2. vend.sell: kind 3. vend.Grant, by its function. -/
import Derived.Test.YtpcgpnkmjjamhaaGreatM29
import Derived.Test.YtpcgpnkmjjamhaaGreatM35
import Derived.Test.YtpcgpnkmjjamhaaGreatM14
import Derived.Test.YtpcgpnkmjjamhaaGreatM21
import Derived.Test.YtpcgpnkmjjamhaaGreatM26
import Derived.Test.YtpcgpnkmjjamhaaGreatM9
import Derived.Test.YtpcgpnkmjjamhaaGreatM22
namespace Go.Proofs.YtpcgpnkmjjamhaaGreat
open Go.RowKit
set_option linter.unusedVariables false
def RetVSell (E k me mo id te de fe pr ch un cls am rev d : Nat) (lp : List Pr) (c : List Nat) (L : List Ev) (w : World) (e : Ending) (w' : World) : Prop :=
 (E = 0 ∧ ∃ (t2 : Nat) (lp2 : List Pr) (A2 : Option Addr) (c2 : Nat) (A3 : Option Addr) (c3 : Nat), t2 ≤ 65535 ∧ issL lp (me : Int) (rev : Int) (tbody cls id am : Nat) (d : Int) = lp2 ∧ issT lp (me : Int) (rev : Int) (tbody cls id am : Nat) (d : Int) = (t2 : Int) ∧ OOk lp2 ∧
   e = .returned (.tuple #[.agg #[.slice A3 (putW c.length (L.length * 14) (evW ⟨k, me, mo, id, te, de, fe, pr, ch, un, t2, 0, 0⟩)).length c3, .slice A2 lp2.length c2, .int .i64 ↑me, .int .i64 ↑id, .int .i64 ↑te, .int .i64 ↑de, .int .i64 ↑fe, .int .i64 ↑pr, .int .i64 ↑ch, .int .i64 ↑un, .string (dstr (tokD cls id am t2))], .int .i64 0]) ∧
   w'.ownsRow w.heap.size 225 4 (.slice A2 lp2.length c2) lp2.length (prs lp2) ∧ w'.ownsRow w.heap.size 113 2 (.slice A3 (putW c.length (L.length * 14) (evW ⟨k, me, mo, id, te, de, fe, pr, ch, un, t2, 0, 0⟩)).length c3) (putW c.length (L.length * 14) (evW ⟨k, me, mo, id, te, de, fe, pr, ch, un, t2, 0, 0⟩)).length (wrs (putW c.length (L.length * 14) (evW ⟨k, me, mo, id, te, de, fe, pr, ch, un, t2, 0, 0⟩))) ∧ Below w.heap.size w w') ∨
 (E ≠ 0 ∧ e = .returned (.tuple #[.agg #[.slice none 0 0, .slice none 0 0, .int .i64 0, .int .i64 0, .int .i64 0, .int .i64 0, .int .i64 0, .int .i64 0, .int .i64 0, .int .i64 0, .string ⟨#[]⟩], .int .i64 ↑E]) ∧ Below w.heap.size w w')
end Go.Proofs.YtpcgpnkmjjamhaaGreat
namespace Go.Proofs.YtpcgpnkmjjamhaaGreat
open Go.RowKit
set_option linter.unusedVariables false
structure Sv where
 wl : List (Nat × Nat)
 lp : List Pr
 me : Nat
 b : Bil
 s : ByteArray
 E : Nat
def amP (cls : Nat) (r : Nat × Acc × Bil) : Nat := if cls = 2 then r.2.1.rev else r.2.2.un
def evP (k me mo t : Nat) (b : Bil) : Ev := ⟨k, me, mo, b.id, b.te, b.de, b.fe, b.pr, b.ch, b.un, t, 0, 0⟩
def tagP (lp : List Pr) (me rev cls d : Nat) (r : Nat × Acc × Bil) : Nat := (issT lp (me : Int) (rev : Int) (tbody cls r.2.2.id (amP cls r) : Nat) (d : Int)).toNat
def svP (r : Nat × Acc × Bil) (k me mo cls rev d : Nat) (lp : List Pr) (n m : Nat) : Sv :=
 if r.1 = 0 then ⟨putW n (m * 14) (evW (evP k me mo (tagP lp me rev cls d r) r.2.2)), issL lp (me : Int) (rev : Int) (tbody cls r.2.2.id (amP cls r) : Nat) (d : Int), me, r.2.2, dstr (tokD cls r.2.2.id (amP cls r) (tagP lp me rev cls d r)), 0⟩
 else ⟨[], [], 0, bil0, ⟨#[]⟩, r.1⟩
theorem sellP_sum {T : Tm} {a : Acc} {t m : Nat} {a2 : Acc} {b : Bil} (hT : T.Ok) (ha : a.Ok) (h : sellP T a t m = (0, a2, b)) : b.te = b.de + b.fe + b.pr + b.ch ∧ b.un ≤ 2097151 := by
 unfold sellP at h
 by_cases g1 : m < a.month
 · rw [if_pos g1] at h; injection h with h _; exact absurd h (by decide)
 · rw [if_neg g1] at h
   dsimp only at h
   have hr := rolled_P (b := a.bought) (l := a.l) (show a.month ≤ m by omega)
   generalize rollP a.month a.bought a.l m = r at h hr
   obtain ⟨b2, l2⟩ := r
   dsimp only at h hr
   generalize recov (t * T.db / 10000) l2 = rc at h
   obtain ⟨paid, out⟩ := rc
   dsimp only at h
   generalize T.fx + t * T.fb / 10000 = F at h
   by_cases g2 : t < paid + F
   · rw [if_pos g2] at h; injection h with h _; exact absurd h (by decide)
   · rw [if_neg g2] at h
     generalize hmo : most (pcs T.tl b2) (t - paid - F) 0 0 = mo at h
     obtain ⟨U, P⟩ := mo
     dsimp only at h
     by_cases g3 : U = 0
     · rw [if_pos g3] at h; injection h with h _; exact absurd h (by decide)
     · rw [if_neg g3] at h
       injection h with _ h
       injection h with h h'
       subst h h'
       have a6 := ha.h1.h6
       have hb2 : b2 ≤ 10000000 := by rcases hr with ⟨_, h, _⟩ | ⟨_, h, _⟩ <;> omega
       obtain ⟨m1, m2, m3, m4, _⟩ := most_law hT.h1 hb2 hmo
       dsimp only
       omega
theorem sell_ev {T : Tm} {a : Acc} {t m me : Nat} {a2 : Acc} {b : Bil} (hT : T.Ok) (ha : a.Ok) (hn : a.next ≤ 1048575) (hm : m ≤ 2399) (hme : me ≤ 49) (ht1 : 1 ≤ t) (ht : t ≤ 100000000) (h : sellP T a t m = (0, a2, b)) :
   TkOk 0 b.id b.un 0 ∧ ∀ tg, tg ≤ 65535 → (Ev.mk 2 me m b.id b.te b.de b.fe b.pr b.ch b.un tg 0 0).ok := by
 obtain ⟨s1, s2⟩ := sellP_sum hT ha h
 have e := sellP_ne h
 have a3 := ha.h1.h3
 have e7 := e.2.2.2.2.2.2.1
 have e8 := e.2.2.2.2.2.2.2.1
 have e9 := e.2.2.2.2.2.2.2.2.1
 refine ⟨⟨by omega, by omega, by omega, .inl ⟨rfl, by omega, by omega⟩, by omega⟩, fun tg htg => ?_⟩
 clear h e
 unfold Ev.ok evOk
 dsimp only
 exact ⟨by omega, by omega, .inr (.inl ⟨rfl, by omega, by omega, by omega, by omega, by omega, by omega, by omega, by omega, by omega, by omega, by omega, by omega, by omega, by omega, by omega, by omega, by omega, by omega, by omega, rfl, rfl⟩)⟩
theorem grant_ev {T : Tm} {a : Acc} {m me : Nat} {a2 : Acc} {b : Bil} (hT : T.Ok) (ha : a.Ok) (hn : a.next ≤ 1048575) (hm : m ≤ 2399) (hme : me ≤ 49) (h : grantP T a m = (0, a2, b)) :
   TkOk 0 b.id b.un 0 ∧ ∀ tg, tg ≤ 65535 → (Ev.mk 3 me m b.id b.te b.de b.fe b.pr b.ch b.un tg 0 0).ok := by
 have e := grantP_ne h
 have a3 := ha.h1.h3
 have e8 := e.2.2.2.2.2.2.2.1
 have e9 := e.2.2.2.2.2.2.2.2.2
 have hal := hT.h2.h4
 subst e8
 dsimp only
 refine ⟨⟨by omega, by omega, by omega, .inl ⟨rfl, by omega, by omega⟩, by omega⟩, fun tg htg => ?_⟩
 clear h e
 unfold Ev.ok evOk
 dsimp only
 exact ⟨by omega, by omega, .inr (.inr (.inl ⟨rfl, by omega, by omega, by omega, by omega, by omega, by omega, by omega, by omega, rfl, rfl, rfl, rfl, rfl, rfl, rfl⟩))⟩
theorem rekey_ev {a : Acc} {me : Nat} {a2 : Acc} {b : Bil} (ha : a.Ok) (hn : a.next ≤ 1048575) (hme : me ≤ 49) (h : rekeyP a = (0, a2, b)) :
   TkOk 2 b.id a2.rev 0 ∧ ∀ tg, tg ≤ 65535 → (Ev.mk 4 me 0 b.id b.te b.de b.fe b.pr b.ch b.un tg 0 0).ok := by
 obtain ⟨e1, e2, e3⟩ := rekeyP_ne h
 have a3 := ha.h1.h3
 have a2' := ha.h1.h2
 subst e1 e2
 dsimp only
 refine ⟨⟨by omega, by omega, by omega, .inr (.inr (.inl ⟨rfl, by omega, by omega⟩)), by omega⟩, fun tg htg => ?_⟩
 clear h
 unfold Ev.ok evOk
 dsimp only
 exact ⟨by omega, by omega, .inr (.inr (.inr (.inl ⟨rfl, by omega, by omega, by omega, by omega, rfl, rfl, rfl, rfl, rfl, rfl, rfl, rfl, rfl⟩)))⟩
theorem own_set {base e size n k o : Nat} {v x : Value} {xs : List Value} {w : World} (h : w.ownsRow base e size v n xs) (hk : k < base) : (w.setCell ⟨k, o, none⟩ x).ownsRow base e size v n xs :=
 own_kept h (grown_setCell w ⟨k, o, none⟩ x) (fun j hj => by injection hj with e; subst e; exact hk)
theorem own_drewK {base e size n : Nat} {v : Value} {xs : List Value} {w : World} (h : w.ownsRow base e size v n xs) : w.drew.ownsRow base e size v n xs :=
 own_kept (row := none) h ⟨rfl, rfl, rfl, Nat.le_refl _, fun _ _ _ => rfl⟩ (by simp)
def RetSv (v : Sv) (w : World) (e : Ending) (w' : World) : Prop :=
 ∃ (A3 : Option Addr) (c3 : Nat) (A2 : Option Addr) (c2 : Nat), e = .returned (.tuple #[.agg #[.slice A3 v.wl.length c3, .slice A2 v.lp.length c2, .int .i64 ↑v.me, .int .i64 ↑v.b.id, .int .i64 ↑v.b.te, .int .i64 ↑v.b.de, .int .i64 ↑v.b.fe, .int .i64 ↑v.b.pr, .int .i64 ↑v.b.ch, .int .i64 ↑v.b.un, .string v.s], .int .i64 ↑v.E]) ∧
   w'.ownsRow w.heap.size 225 4 (.slice A2 v.lp.length c2) v.lp.length (prs v.lp) ∧ w'.ownsRow w.heap.size 113 2 (.slice A3 v.wl.length c3) v.wl.length (wrs v.wl) ∧ Below w.heap.size w w'
theorem retsv_of {r : Nat × Acc × Bil} {k me mo cls rev d am : Nat} {lp : List Pr} {c : List Nat} {L : List Ev} {w w' : World} {e : Ending} (ham : r.1 = 0 → am = amP cls r)
   (h : RetVSell r.1 k me mo r.2.2.id r.2.2.te r.2.2.de r.2.2.fe r.2.2.pr r.2.2.ch r.2.2.un cls am rev d lp c L w e w') : RetSv (svP r k me mo cls rev d lp c.length L.length) w e w' := by
 rcases h with ⟨h0, t2, lp2, A2, c2, A3, c3, ht, hl2, ht2, hO, rfl, ho1, ho2, hb⟩ | ⟨h0, rfl, hb⟩
 · have ha := ham h0
   subst ha
   have et : tagP lp me rev cls d r = t2 := by unfold tagP; rw [ht2]; simp
   unfold svP
   rw [if_pos h0, et, hl2]
   exact ⟨A3, c3, A2, c2, rfl, ho1, ho2, hb⟩
 · unfold svP
   rw [if_neg h0]
   exact ⟨none, 0, none, 0, rfl, World.ownsRow_nil _ _ _ _, World.ownsRow_nil _ _ _ _, hb⟩
def RetServe (v : Sv) (w : World) (e : Ending) (w' : World) : Prop :=
 ∃ (A3 : Option Addr) (c3 : Nat) (A2 : Option Addr) (c2 : Nat), e = .returned (.tuple #[.slice A3 v.wl.length c3, .agg #[.slice A2 v.lp.length c2], .agg #[.int .i64 ↑v.me, .int .i64 ↑v.b.id, .int .i64 ↑v.b.te, .int .i64 ↑v.b.de, .int .i64 ↑v.b.fe, .int .i64 ↑v.b.pr, .int .i64 ↑v.b.ch, .int .i64 ↑v.b.un, .string v.s], .int .i64 ↑v.E]) ∧
   w'.ownsRow w.heap.size 225 4 (.slice A2 v.lp.length c2) v.lp.length (prs v.lp) ∧ w'.ownsRow w.heap.size 113 2 (.slice A3 v.wl.length c3) v.wl.length (wrs v.wl) ∧ Below w.heap.size w w'
end Go.Proofs.YtpcgpnkmjjamhaaGreat
namespace Go.Proofs.YtpcgpnkmjjamhaaGreat
open Go.RowKit
set_option linter.unusedVariables false
def RetChg (E : Nat) (wl : List (Nat × Nat)) (po : Value) (w : World) (e : Ending) (w' : World) : Prop :=
 ∃ (A3 : Option Addr) (c3 : Nat), e = .returned (.tuple #[.slice A3 wl.length c3, .agg #[po], .agg #[.int .i64 0, .int .i64 0, .int .i64 0, .int .i64 0, .int .i64 0, .int .i64 0, .int .i64 0, .int .i64 0, .string ⟨#[]⟩], .int .i64 ↑E]) ∧ w'.ownsRow w.heap.size 113 2 (.slice A3 wl.length c3) wl.length (wrs wl) ∧ Below w.heap.size w w'
set_option maxRecDepth 100000 in
set_option maxHeartbeats 8000000 in
theorem served0_ok (T : Tm) (hT : T.Ok) (At : Option Addr) (nt ct : Nat) (cv : Value) (c : List Nat) (L : List Ev) (B : List Cu) (me i ow bp : Nat) (Ao : Option Addr) (no co : Nat) (xk xm xa xb xd dd : Int) (w : World)
   (wfk : (Lit.int .i64 xk).wf = true) (wfm : (Lit.int .i64 xm).wf = true) (wfa : (Lit.int .i64 xa).wf = true) (wfb : (Lit.int .i64 xb).wf = true) (wfd : (Lit.int .i64 xd).wf = true) (hk : Hid (pk xk 8 = 0)) (hM : Hid (pk xm 3 = (me : Int))) (hme : me ≤ 2) (hD : Hid (pk xd 65536 = dd)) (hA : Hid (1 + pk xa 100000 = (ow : Int))) (how : 1 ≤ ow ∧ ow ≤ 100000) (hB : Hid (pk xb 1000 = (bp : Int))) (hbp : bp ≤ 999)
   (hvt : IsDs w (.slice At nt ct) T.tl) (hc : IsWs w cv c) (hS : Srv T c L B) (hp : place B me = some i) (hL : L.length < 120) (hf : (L.length + 1) * 14 ≤ c.length) :
   Calls Tryz.prog 16 #[.agg #[.slice At nt ct, .int .i64 ↑T.fx, .int .i64 ↑T.fb, .int .i64 ↑T.db, .int .i64 ↑T.al, cv, .slice Ao no co], .agg #[.int .i64 xk, .int .i64 xm, .int .i64 xa, .int .i64 xb, .int .i64 xd]] w (RetChg (oweP (B.getD i cu0).a ow bp).1 (if (oweP (B.getD i cu0).a ow bp).1 = 0 then putW c.length (L.length * 14) (evW (chgV me ow bp)) else []) (.slice Ao no co) w) := by
 obtain ⟨Ac, nc, cc, rfl⟩ : ∃ Ac nc cc, cv = .slice Ac nc cc := by obtain ⟨X, y, h, _⟩ := hc; exact ⟨X, _, y, h⟩
 have hV := fun W h1 h2 => (charge_ok T hT At nt ct (.slice Ac nc cc) c L B me i ow bp W h1 h2 hS (by omega) hp hL hf how.1 (by omega) (by omega))
 obtain ⟨E, hE⟩ : ∃ E, (oweP (B.getD i cu0).a ow bp).1 = E := ⟨_, rfl⟩
 obtain ⟨wl0, hwl0⟩ : ∃ wl0, putW c.length (L.length * 14) (evW (chgV me ow bp)) = wl0 := ⟨_, rfl⟩
 rw [hE, hwl0] at hV
 rw [hE, hwl0]
 obtain ⟨wl, hwl⟩ : ∃ wl, (if E = 0 then wl0 else []) = wl := ⟨_, rfl⟩
 rw [hwl]
 replace hV : ∀ W, IsDs W (.slice At nt ct) T.tl → IsWs W (.slice Ac nc cc) c → Calls Tryz.prog 30 #[.agg #[.slice At nt ct, .int .i64 ↑T.fx, .int .i64 ↑T.fb, .int .i64 ↑T.db, .int .i64 ↑T.al], .slice Ac nc cc, .int .i64 ↑me, .agg #[.int .i64 ↑ow, .int .i64 ↑bp]] W (fun e w' => ∃ (A3 : Option Addr) (c3 : Nat), e = .returned (.tuple #[.slice A3 wl.length c3, .int .i64 ↑E]) ∧ w'.ownsRow W.heap.size 113 2 (.slice A3 wl.length c3) wl.length (wrs wl) ∧ Below W.heap.size W w') := by
   intro W h1 h2
   refine (hV W h1 h2).mono ?_
   rintro e w' (⟨h0, A, c', rfl, _, ho, hb⟩ | ⟨h0, rfl, hb⟩)
   · subst h0
     rw [if_pos rfl] at hwl
     subst hwl
     exact ⟨A, c', rfl, ho, hb⟩
   · rw [if_neg h0] at hwl
     subst hwl
     exact ⟨none, 0, rfl, World.ownsRow_nil _ _ _ _, hb⟩
 obtain ⟨ta, hA1⟩ : ∃ ta, Hid (pk xa 100000 = ta) := ⟨_, rfl⟩
 have hta : 1 + ta = (ow : Int) := by rw [← hA.out, hA1.out]
 have hwr : IntKind.i64.wrap (ow : Int) = (ow : Int) := IntWalk.i64_in _ (by omega)
 unfold RetChg
 clear hS hp hL hf hE hwl0 hwl
 have H := Mem.init w
 obtain ⟨W0, hW0⟩ : ∃ W0, ((((w).alloc (.cells #[.slice At nt ct, .int .i64 ↑T.fx, .int .i64 ↑T.fb, .int .i64 ↑T.db, .int .i64 ↑T.al, .slice Ac nc cc, .slice Ao no co] 34)).alloc (.cells #[.int .i64 xk, .int .i64 xm, .int .i64 xa, .int .i64 xb, .int .i64 xd] 69)).alloc (.cells #[.slice none 0 0] 32)).alloc (.cells #[.int .i64 0, .int .i64 0, .int .i64 0, .int .i64 0, .int .i64 0, .int .i64 0, .int .i64 0, .int .i64 0, .string ⟨#[]⟩] 72) = W0 := ⟨_, rfl⟩
 replace H := Mem.alloc H (w.heap.size) (by first | (simp; done) | (simp; omega)) #[.slice At nt ct, .int .i64 ↑T.fx, .int .i64 ↑T.fb, .int .i64 ↑T.db, .int .i64 ↑T.al, .slice Ac nc cc, .slice Ao no co] 34
 replace H := Mem.alloc H (w.heap.size + 1) (by first | (simp; done) | (simp; omega)) #[.int .i64 xk, .int .i64 xm, .int .i64 xa, .int .i64 xb, .int .i64 xd] 69
 replace H := Mem.alloc H (w.heap.size + 1 + 1) (by first | (simp; done) | (simp; omega)) #[.slice none 0 0] 32
 replace H := Mem.alloc H (w.heap.size + 1 + 1 + 1) (by first | (simp; done) | (simp; omega)) #[.int .i64 0, .int .i64 0, .int .i64 0, .int .i64 0, .int .i64 0, .int .i64 0, .int .i64 0, .int .i64 0, .string ⟨#[]⟩] 72
 simp only [List.nil_append, List.cons_append] at H
 rw [hW0] at H
 have hvt0 := hvt.below H.below
 have hc0 := hc.below H.below
 clear hvt hc
 obtain ⟨shlt, sh0, shf0, sh1, shf1, sh2, shf2, sh3, shf3, sh4, shf4, sh5, shf5, sh6, shf6⟩ := H.c7 0 rfl
 obtain ⟨odlt, od0, odf0, od1, odf1, od2, odf2, od3, odf3, od4, odf4⟩ := H.c5 1 rfl
 have ne_sh_od := H.ne 0 1 rfl rfl (by decide)
 have ne_od_sh := H.ne 1 0 rfl rfl (by decide)
 go_enter Tryz.func16, Tryz.ntmps16
 go_upto_region 5 with (first | (go_at_call 11; (with_reducible refine (picked_is _ hM wfm (by omega) (by omega)).mono ?_); rintro e w' ⟨rfl, rfl⟩) | (go_at_call 11; (with_reducible refine (picked_is _ hD wfd (by omega) (by omega)).mono ?_); rintro e w' ⟨rfl, rfl⟩) | (go_at_call 11; (with_reducible refine (picked_is _ hk wfk (by omega) (by omega)).mono ?_); rintro e w' ⟨rfl, rfl⟩))
 clear hW0
 have V0 : Below W0.heap.size W0 W0.drew := below_draws (Below.refl _ _) 1
 have hV1 := hV _ (hvt0.below V0) (hc0.below V0)
 go_region_held3 (fun w' => w'.cell? ⟨w.heap.size, 0, none⟩ = some (.slice At nt ct) ∧ w'.cell? ⟨w.heap.size, 1, none⟩ = some (.int .i64 ↑T.fx) ∧ w'.cell? ⟨w.heap.size, 2, none⟩ = some (.int .i64 ↑T.fb) ∧ w'.cell? ⟨w.heap.size, 3, none⟩ = some (.int .i64 ↑T.db) ∧ w'.cell? ⟨w.heap.size, 4, none⟩ = some (.int .i64 ↑T.al) ∧ w'.cell? ⟨w.heap.size, 5, none⟩ = some (.slice Ac nc cc) ∧ w'.cell? ⟨w.heap.size + 1, 2, none⟩ = some (.int .i64 xa) ∧ w'.cell? ⟨w.heap.size + 1, 3, none⟩ = some (.int .i64 xb))
   (first | with_reducible exact ⟨s0, s1, s2, s3, s4, s5, s6, s7⟩ | go_keep | fail)
   (first | (go_at_call 11; (with_reducible refine (picked_is _ hA1 wfa (by omega) (by omega)).mono ?_); rintro e w' ⟨rfl, rfl⟩) | (go_at_call 11; (with_reducible refine (picked_is _ hB wfb (by omega) (by omega)).mono ?_); rintro e w' ⟨rfl, rfl⟩) | (go_at_call 30; (with_reducible refine hV1.mono ?_); rintro e we ⟨A3, c3, rfl, hown, hbe⟩; have hWe := V0.trans (hbe.mono V0.size); have s0 := (hWe.cell (p := ⟨w.heap.size, 0, none⟩) shlt).trans sh0; have s1 := (hWe.cell (p := ⟨w.heap.size, 1, none⟩) shlt).trans sh1; have s2 := (hWe.cell (p := ⟨w.heap.size, 2, none⟩) shlt).trans sh2; have s3 := (hWe.cell (p := ⟨w.heap.size, 3, none⟩) shlt).trans sh3; have s4 := (hWe.cell (p := ⟨w.heap.size, 4, none⟩) shlt).trans sh4; have s5 := (hWe.cell (p := ⟨w.heap.size, 5, none⟩) shlt).trans sh5; have s6 := (hWe.cell (p := ⟨w.heap.size + 1, 2, none⟩) odlt).trans od2; have s7 := (hWe.cell (p := ⟨w.heap.size + 1, 3, none⟩) odlt).trans od3))
 clear s0 s1 s2 s3 s4 s5 s6 s7 hV hV1 hvt0 hc0 V0 hbe
 replace H : Mem (w) [] (we) [.blk (w.heap.size) 34 #[.slice At nt ct, .int .i64 ↑T.fx, .int .i64 ↑T.fb, .int .i64 ↑T.db, .int .i64 ↑T.al, .slice Ac nc cc, .slice Ao no co], .blk (w.heap.size + 1) 69 #[.int .i64 xk, .int .i64 xm, .int .i64 xa, .int .i64 xb, .int .i64 xd], .blk (w.heap.size + 1 + 1) 32 #[.slice none 0 0], .blk (w.heap.size + 1 + 1 + 1) 72 #[.int .i64 0, .int .i64 0, .int .i64 0, .int .i64 0, .int .i64 0, .int .i64 0, .int .i64 0, .int .i64 0, .string ⟨#[]⟩], .row (W0.heap.size) (113) (2) (.slice A3 wl.length c3) (wl.length) (wrs wl)] := Mem.row H hWe hown (Nat.le_refl _)
 clear hWe hown
 clear shlt sh0 shf0 sh1 shf1 sh2 shf2 sh3 shf3 sh4 shf4 sh5 shf5 sh6 shf6 odlt od0 odf0 od1 odf1 od2 odf2 od3 odf3 od4 odf4 ne_sh_od ne_od_sh
 obtain ⟨shlt, sh0, shf0, sh1, shf1, sh2, shf2, sh3, shf3, sh4, shf4, sh5, shf5, sh6, shf6⟩ := H.c7 0 rfl
 obtain ⟨rolt, ro0, rof0⟩ := H.c1 2 rfl
 obtain ⟨rrlt, rr0, rrf0, rr1, rrf1, rr2, rrf2, rr3, rrf3, rr4, rrf4, rr5, rrf5, rr6, rrf6, rr7, rrf7, rr8, rrf8⟩ := H.c9 3 rfl
 have ne_sh_ro := H.ne 0 2 rfl rfl (by decide)
 have ne_sh_rr := H.ne 0 3 rfl rfl (by decide)
 have ne_ro_sh := H.ne 2 0 rfl rfl (by decide)
 have ne_ro_rr := H.ne 2 3 rfl rfl (by decide)
 have ne_rr_sh := H.ne 3 0 rfl rfl (by decide)
 have ne_rr_ro := H.ne 3 2 rfl rfl (by decide)
 go_wp2
 go_region
 go_wp2
 clear shlt sh0 shf0 sh1 shf1 sh2 shf2 sh3 shf3 sh4 shf4 sh5 shf5 sh6 shf6 rolt ro0 rof0 rrlt rr0 rrf0 rr1 rrf1 rr2 rrf2 rr3 rrf3 rr4 rrf4 rr5 rrf5 rr6 rrf6 rr7 rrf7 rr8 rrf8 ne_sh_ro ne_sh_rr ne_ro_sh ne_ro_rr ne_rr_sh ne_rr_ro
 obtain ⟨w3, hw3⟩ : ∃ w3, (((((((((((we).setCell ⟨w.heap.size + 1 + 1, 0, none⟩ (.slice Ao no co)).setCell ⟨w.heap.size + 1 + 1 + 1, 0, none⟩ (.int .i64 0)).setCell ⟨w.heap.size + 1 + 1 + 1, 1, none⟩ (.int .i64 0)).setCell ⟨w.heap.size + 1 + 1 + 1, 2, none⟩ (.int .i64 0)).setCell ⟨w.heap.size + 1 + 1 + 1, 3, none⟩ (.int .i64 0)).setCell ⟨w.heap.size + 1 + 1 + 1, 4, none⟩ (.int .i64 0)).setCell ⟨w.heap.size + 1 + 1 + 1, 5, none⟩ (.int .i64 0)).setCell ⟨w.heap.size + 1 + 1 + 1, 6, none⟩ (.int .i64 0)).setCell ⟨w.heap.size + 1 + 1 + 1, 7, none⟩ (.int .i64 0)).setCell ⟨w.heap.size + 1 + 1 + 1, 8, none⟩ (.string ⟨#[]⟩)).drew = w3 := ⟨_, rfl⟩
 replace H := Mem.set 2 H rfl (0) (.slice Ao no co)
 replace H := Mem.set 3 H rfl (0) (.int .i64 0)
 replace H := Mem.set 3 H rfl (1) (.int .i64 0)
 replace H := Mem.set 3 H rfl (2) (.int .i64 0)
 replace H := Mem.set 3 H rfl (3) (.int .i64 0)
 replace H := Mem.set 3 H rfl (4) (.int .i64 0)
 replace H := Mem.set 3 H rfl (5) (.int .i64 0)
 replace H := Mem.set 3 H rfl (6) (.int .i64 0)
 replace H := Mem.set 3 H rfl (7) (.int .i64 0)
 replace H := Mem.set 3 H rfl (8) (.string ⟨#[]⟩)
 simp only [List.set_cons_zero, List.set_cons_succ, List.setIfInBounds_toArray] at H
 replace H := H.drew
 rw [hw3] at H ⊢
 clear hw3
 obtain ⟨rolt, ro0, rof0⟩ := H.c1 2 rfl
 obtain ⟨rrlt, rr0, rrf0, rr1, rrf1, rr2, rrf2, rr3, rrf3, rr4, rrf4, rr5, rrf5, rr6, rrf6, rr7, rrf7, rr8, rrf8⟩ := H.c9 3 rfl
 have ne_ro_rr := H.ne 2 3 rfl rfl (by decide)
 have ne_rr_ro := H.ne 3 2 rfl rfl (by decide)
 refine bodyPost_ret (v := .tuple #[.slice A3 wl.length c3, .agg #[.slice Ao no co], .agg #[.int .i64 0, .int .i64 0, .int .i64 0, .int .i64 0, .int .i64 0, .int .i64 0, .int .i64 0, .int .i64 0, .string ⟨#[]⟩], .int .i64 ↑E]) (by simp [results, Tryz.results16, go_sem, ro0, rr0, rr1, rr2, rr3, rr4, rr5, rr6, rr7, rr8]; done) rfl ?_
 exact ⟨A3, c3, rfl, H.ownb 4 rfl, H.below⟩
end Go.Proofs.YtpcgpnkmjjamhaaGreat
namespace Go.Proofs.YtpcgpnkmjjamhaaGreat
open Go.RowKit
set_option linter.unusedVariables false
set_option maxRecDepth 100000 in
set_option maxHeartbeats 16000000 in
theorem vsell2_ok (T : Tm) (hT : T.Ok) (At : Option Addr) (nt ct : Nat) (cv : Value) (c : List Nat) (L : List Ev) (B : List Cu) (me i mo d : Nat) (Ao : Option Addr) (no co : Nat) (lp : List Pr) (gt g1 g2 : Nat) (E me2 rev2 next2 month2 bought2 : Nat) (free2 : Int) (l2 : List (Nat × Nat)) (id te de fe pr ch un : Nat) (w : World)
   (hvt : IsDs w (.slice At nt ct) T.tl) (hc : IsWs w cv c) (hS : Srv T c L B) (hme : me ≤ 49) (hp : place B me = some i) (hL : L.length < 120) (hf : (L.length + 1) * 14 ≤ c.length) (hps : IsPs w (.slice Ao no co) lp) (hlp : OOk lp) (h5 : lp.length < 500) (hd : d ≤ 65535)
   (hW : ∀ (W : World) (Ad : Option Addr) (cd : Nat), Below w.heap.size w W → IsDs W (.slice Ad (B.getD i cu0).a.l.length cd) (B.getD i cu0).a.l → Calls Tryz.prog 57 #[.agg #[.int .i64 ((B.getD i cu0).a.me : Int), .int .i64 ((B.getD i cu0).a.rev : Int), .int .i64 ((B.getD i cu0).a.next : Int), .int .i64 ((B.getD i cu0).a.month : Int), .int .i64 ((B.getD i cu0).a.bought : Int), .int .i64 (B.getD i cu0).a.free, .slice Ad (B.getD i cu0).a.l.length cd], .pointer (some ⟨gt, 0, none⟩), .pointer (some ⟨g1, 0, none⟩), .pointer (some ⟨g2, 0, none⟩)] W (RetDI E me2 rev2 next2 month2 bought2 free2 l2 id te de fe pr ch un W))
   (hz : E = 0 → TkOk 0 id un 0 ∧ ∀ t, t ≤ 65535 → (Ev.mk 2 me mo id te de fe pr ch un t 0 0).ok) :
   Calls Tryz.prog 53 #[.agg #[.slice At nt ct, .int .i64 ↑T.fx, .int .i64 ↑T.fb, .int .i64 ↑T.db, .int .i64 ↑T.al], cv, .agg #[.slice Ao no co], .int .i64 ↑d, .agg #[.int .i64 2, .int .i64 ↑me, .int .i64 ↑mo, .int .i64 0, .int .i64 0, .int .i64 0, .int .i64 0, .int .i64 0, .int .i64 0, .int .i64 0, .int .i64 0, .int .i64 0, .int .i64 0, .int .i64 0, .func (.func 57) #[] #[.pointer (some ⟨gt, 0, none⟩), .pointer (some ⟨g1, 0, none⟩), .pointer (some ⟨g2, 0, none⟩)]]] w (RetVSell E 2 me mo id te de fe pr ch un 0 un (B.getD i cu0).a.rev d lp c L w) := by
 obtain ⟨hi, hime⟩ := place_some hp
 clear hime
 have hBk := runE_bok hT L [] B 0 (bok_nil T) (by omega) hS.ok hS.run
 have hgd : B.getD i cu0 = B[i] := by simp [hi]
 have hao := (hBk.h1 B[i] (List.getElem_mem hi)).1
 rw [hgd] at hW ⊢
 have hO := fun W h1 h2 => vopen_ok T hT At nt ct cv c L B W h1 h2 hS
 unfold RetShop at hO
 have hK := fun g x0 x1 x2 x3 x4 x5 v W hv hs hw => vkeep_ok g x0 x1 x2 x3 x4 x5 cv c L v W hs hw hS.tape hS.h2 hL hv hf
 unfold RetWrOwn at hK
 obtain ⟨Ac, nc, cc, rfl⟩ : ∃ Ac nc cc, cv = .slice Ac nc cc := by obtain ⟨X, y, h, _⟩ := hc; exact ⟨X, _, y, h⟩
 have HI := Lib.hid (And.intro hi hp)
 have hat := fun W A n c (h : IsBk W (.slice A n c) B) => h.at_ hi
 generalize B[i] = cu at hao hat hW ⊢
 obtain ⟨⟨ame, rev, next, month, bought, free, l⟩, s⟩ := cu
 dsimp only at hao hat hW ⊢
 have hrev : rev ≤ 15 := hao.h1.h2
 have HB := Lib.hid (And.intro hrev (And.intro hme (And.intro hlp (And.intro h5 hd))))
 clear hS hL hf hgd hBk hi hao hp hrev
 have H := Mem.init w
 obtain ⟨W0, hW0⟩ : ∃ W0, ((((w).alloc (.cells #[.slice At nt ct, .int .i64 ↑T.fx, .int .i64 ↑T.fb, .int .i64 ↑T.db, .int .i64 ↑T.al] 28)).alloc (.cells #[.slice Ao no co] 32)).alloc (.cells #[.int .i64 2, .int .i64 ↑me, .int .i64 ↑mo, .int .i64 0, .int .i64 0, .int .i64 0, .int .i64 0, .int .i64 0, .int .i64 0, .int .i64 0, .int .i64 0, .int .i64 0, .int .i64 0, .int .i64 0, .func (.func 57) #[] #[.pointer (some ⟨gt, 0, none⟩), .pointer (some ⟨g1, 0, none⟩), .pointer (some ⟨g2, 0, none⟩)]] 153)).alloc (.cells #[.slice none 0 0, .slice none 0 0, .int .i64 0, .int .i64 0, .int .i64 0, .int .i64 0, .int .i64 0, .int .i64 0, .int .i64 0, .int .i64 0, .string ⟨#[]⟩] 146) = W0 := ⟨_, rfl⟩
 replace H := Mem.alloc H (w.heap.size) (by first | (simp; done) | (simp; omega)) #[.slice At nt ct, .int .i64 ↑T.fx, .int .i64 ↑T.fb, .int .i64 ↑T.db, .int .i64 ↑T.al] 28
 replace H := Mem.alloc H (w.heap.size + 1) (by first | (simp; done) | (simp; omega)) #[.slice Ao no co] 32
 replace H := Mem.alloc H (w.heap.size + 1 + 1) (by first | (simp; done) | (simp; omega)) #[.int .i64 2, .int .i64 ↑me, .int .i64 ↑mo, .int .i64 0, .int .i64 0, .int .i64 0, .int .i64 0, .int .i64 0, .int .i64 0, .int .i64 0, .int .i64 0, .int .i64 0, .int .i64 0, .int .i64 0, .func (.func 57) #[] #[.pointer (some ⟨gt, 0, none⟩), .pointer (some ⟨g1, 0, none⟩), .pointer (some ⟨g2, 0, none⟩)]] 153
 replace H := Mem.alloc H (w.heap.size + 1 + 1 + 1) (by first | (simp; done) | (simp; omega)) #[.slice none 0 0, .slice none 0 0, .int .i64 0, .int .i64 0, .int .i64 0, .int .i64 0, .int .i64 0, .int .i64 0, .int .i64 0, .int .i64 0, .string ⟨#[]⟩] 146
 simp only [List.nil_append, List.cons_append] at H
 rw [hW0] at H
 have hvt0 := hvt.below H.below
 have hc0 := hc.below H.below
 obtain ⟨ttlt, tt0, ttf0, tt1, ttf1, tt2, ttf2, tt3, ttf3, tt4, ttf4⟩ := H.c5 0 rfl
 go_enter Tryz.func53, Tryz.ntmps53
 go_wp2_with fail
 refine (hO _ hvt0 hc0).mono ?_
 rintro e w1 ⟨g, u, rfl, HK, hbk⟩
 obtain ⟨Ab, nb, cb, rfl⟩ := hbk.slice
 have hbw := HK.below
 obtain ⟨b, off, Ad, cd, As, cs, rfl, hbl, hds, hss, p0, p1, p2, p3, p4, p5, p6, p7⟩ := hat w1 Ab nb cb hbk.is
 clear p7 hss
 have hc1 := hc0.below hbw
 replace H : Mem (w) [] (w1) [.blk (w.heap.size) 28 #[.slice At nt ct, .int .i64 ↑T.fx, .int .i64 ↑T.fb, .int .i64 ↑T.db, .int .i64 ↑T.al], .blk (w.heap.size + 1) 32 #[.slice Ao no co], .blk (w.heap.size + 1 + 1) 153 #[.int .i64 2, .int .i64 ↑me, .int .i64 ↑mo, .int .i64 0, .int .i64 0, .int .i64 0, .int .i64 0, .int .i64 0, .int .i64 0, .int .i64 0, .int .i64 0, .int .i64 0, .int .i64 0, .int .i64 0, .func (.func 57) #[] #[.pointer (some ⟨gt, 0, none⟩), .pointer (some ⟨g1, 0, none⟩), .pointer (some ⟨g2, 0, none⟩)]], .blk (w.heap.size + 1 + 1 + 1) 146 #[.slice none 0 0, .slice none 0 0, .int .i64 0, .int .i64 0, .int .i64 0, .int .i64 0, .int .i64 0, .int .i64 0, .int .i64 0, .int .i64 0, .string ⟨#[]⟩], .blk (g) 103 #[.slice (some ⟨b, off, none⟩) nb cb, .slice At nt ct, .int .i64 ↑T.fx, .int .i64 ↑T.fb, .int .i64 ↑T.db, .int .i64 ↑T.al, .slice Ac nc cc, .int .i64 ↑L.length]] := Mem.join H HK
 clear hO hvt0 hc0 hW0 HK hbw
 clear ttlt tt0 ttf0 tt1 ttf1 tt2 ttf2 tt3 ttf3 tt4 ttf4
 obtain ⟨odlt, od0, odf0, od1, odf1, od2, odf2, od3, odf3, od4, odf4, od5, odf5, od6, odf6, od7, odf7, od8, odf8, od9, odf9, od10, odf10, od11, odf11, od12, odf12, od13, odf13, od14, odf14⟩ := H.c15 2 rfl
 go_wp2_with fail
 refine (customer_some g b off nb cb i me _ _ _ _ _ _ _ B _ (H.blk 4 rfl) hbk.is HI.out.2).mono ?_
 rintro e w2 ⟨rfl, hb2⟩
 obtain ⟨o, ho⟩ : ∃ o, off + i * 8 = o := ⟨_, rfl⟩
 rw [ho] at p0 p1 p2 p3 p4 p5 p6 ⊢
 have q0 := (hb2.cell (p := ⟨b, o, none⟩) hbl).trans p0
 have q1 := (hb2.cell (p := ⟨b, o + 1, none⟩) hbl).trans p1
 have q2 := (hb2.cell (p := ⟨b, o + 2, none⟩) hbl).trans p2
 have q3 := (hb2.cell (p := ⟨b, o + 3, none⟩) hbl).trans p3
 have q4 := (hb2.cell (p := ⟨b, o + 4, none⟩) hbl).trans p4
 have q5 := (hb2.cell (p := ⟨b, o + 5, none⟩) hbl).trans p5
 have q6 := (hb2.cell (p := ⟨b, o + 6, none⟩) hbl).trans p6
 have hbl2 := Nat.lt_of_lt_of_le hbl hb2.size
 have hds2 := hds.below hb2
 have hc2 := hc1.below hb2
 replace H := Mem.call H hb2
 have hbww := H.below
 have hWk := fun W h h2 => hW W Ad cd (hbww.trans (Below.mono h hbww.size)) h2
 unfold RetDI at hWk
 clear ho p0 p1 p2 p3 p4 p5 p6 hc1 hb2 hbl hbk hds hW hbww
 clear odlt od0 odf0 od1 odf1 od2 odf2 od3 odf3 od4 odf4 od5 odf5 od6 odf6 od7 odf7 od8 odf8 od9 odf9 od10 odf10 od11 odf11 od12 odf12 od13 odf13 od14 odf14
 obtain ⟨odlt, od0, odf0, od1, odf1, od2, odf2, od3, odf3, od4, odf4, od5, odf5, od6, odf6, od7, odf7, od8, odf8, od9, odf9, od10, odf10, od11, odf11, od12, odf12, od13, odf13, od14, odf14⟩ := H.c15 2 rfl
 go_upto_region 7 with fail
 obtain ⟨LL, hLL⟩ : ∃ LL : List Chunk, [.blk (w.heap.size) 28 #[.slice At nt ct, .int .i64 ↑T.fx, .int .i64 ↑T.fb, .int .i64 ↑T.db, .int .i64 ↑T.al], .blk (w.heap.size + 1) 32 #[.slice Ao no co], .blk (w.heap.size + 1 + 1) 153 #[.int .i64 2, .int .i64 ↑me, .int .i64 ↑mo, .int .i64 0, .int .i64 0, .int .i64 0, .int .i64 0, .int .i64 0, .int .i64 0, .int .i64 0, .int .i64 0, .int .i64 0, .int .i64 0, .int .i64 0, .func (.func 57) #[] #[.pointer (some ⟨gt, 0, none⟩), .pointer (some ⟨g1, 0, none⟩), .pointer (some ⟨g2, 0, none⟩)]], .blk (w.heap.size + 1 + 1 + 1) 146 #[.slice none 0 0, .slice none 0 0, .int .i64 0, .int .i64 0, .int .i64 0, .int .i64 0, .int .i64 0, .int .i64 0, .int .i64 0, .int .i64 0, .string ⟨#[]⟩], .blk (g) 103 #[.slice (some ⟨b, off, none⟩) nb cb, .slice At nt ct, .int .i64 ↑T.fx, .int .i64 ↑T.fb, .int .i64 ↑T.db, .int .i64 ↑T.al, .slice Ac nc cc, .int .i64 ↑L.length]] = LL := ⟨_, rfl⟩
 rw [hLL] at H
 go_cut [15, 16, 13] (fun p0 p1 p2 wx => ∃ (na bi : Nat) (A2 : Option Addr) (d2 : Nat) (base : Nat), p0 = .pointer (some ⟨na, 0, none⟩) ∧ p1 = .pointer (some ⟨bi, 0, none⟩) ∧ p2 = .int .i64 ↑E ∧ Mem (w) [] wx (LL ++ (.blk na 58 #[.int .i64 ↑me2, .int .i64 ↑rev2, .int .i64 ↑next2, .int .i64 ↑month2, .int .i64 ↑bought2, .int .i64 free2, .slice A2 l2.length d2] :: .blk bi 42 #[.int .i64 ↑id, .int .i64 ↑te, .int .i64 ↑de, .int .i64 ↑fe, .int .i64 ↑pr, .int .i64 ↑ch, .int .i64 ↑un] :: [.row (base) (44) (2) (.slice A2 l2.length d2) (l2.length) (drs l2)])) ∧ Below w2.heap.size w2 wx)
 case first =>
   have nz0a : w2.heap.size ≠ w.heap.size + 1 + 1 := by have := odlt; omega
   have nz0b : w2.heap.size + 1 ≠ w.heap.size + 1 + 1 := by have := odlt; omega
   have nz0c : w.heap.size + 1 + 1 ≠ w2.heap.size := by have := odlt; omega
   have nz0d : w.heap.size + 1 + 1 ≠ w2.heap.size + 1 := by have := odlt; omega
   have nz1a : w2.heap.size ≠ b := by have := hbl2; omega
   have nz1b : w2.heap.size + 1 ≠ b := by have := hbl2; omega
   have nz1c : b ≠ w2.heap.size := by have := hbl2; omega
   have nz1d : b ≠ w2.heap.size + 1 := by have := hbl2; omega
   have nz0e : w2.heap.size ≠ w.heap.size + 1 := by have := odlt; omega
   have nz0f : w.heap.size + 1 ≠ w2.heap.size := by have := odlt; omega
   have V0 : Mem w2 [] (w2).drew [] := (Mem.init w2).drew
   have B0 := V0.below
   have V1 : Mem w2 [] (w2.alloc (.cells #[.int .i64 0, .int .i64 0, .int .i64 0, .int .i64 0, .int .i64 0, .int .i64 0, .slice none 0 0] 58)).drew [.blk (w2.heap.size) 58 #[.int .i64 0, .int .i64 0, .int .i64 0, .int .i64 0, .int .i64 0, .int .i64 0, .slice none 0 0]] := ((Mem.init w2).alloc _ rfl #[.int .i64 0, .int .i64 0, .int .i64 0, .int .i64 0, .int .i64 0, .int .i64 0, .slice none 0 0] 58).drew
   have B1 := V1.below
   have V1b0 := V1.blk 0 rfl
   have V2 : Mem w2 [] (w2.alloc (.cells #[.int .i64 0, .int .i64 0, .int .i64 0, .int .i64 0, .int .i64 0, .int .i64 0, .int .i64 0] 42)).drew [.blk (w2.heap.size) 42 #[.int .i64 0, .int .i64 0, .int .i64 0, .int .i64 0, .int .i64 0, .int .i64 0, .int .i64 0]] := ((Mem.init w2).alloc _ rfl #[.int .i64 0, .int .i64 0, .int .i64 0, .int .i64 0, .int .i64 0, .int .i64 0, .int .i64 0] 42).drew
   have B2 := V2.below
   have V2b1 := V2.blk 0 rfl
   have V3 : Mem w2 [] ((w2.alloc (.cells #[.int .i64 0, .int .i64 0, .int .i64 0, .int .i64 0, .int .i64 0, .int .i64 0, .slice none 0 0] 58)).alloc (.cells #[.int .i64 0, .int .i64 0, .int .i64 0, .int .i64 0, .int .i64 0, .int .i64 0, .int .i64 0] 42)).drew [.blk (w2.heap.size) 58 #[.int .i64 0, .int .i64 0, .int .i64 0, .int .i64 0, .int .i64 0, .int .i64 0, .slice none 0 0], .blk (w2.heap.size + 1) 42 #[.int .i64 0, .int .i64 0, .int .i64 0, .int .i64 0, .int .i64 0, .int .i64 0, .int .i64 0]] := (((Mem.init w2).alloc _ rfl #[.int .i64 0, .int .i64 0, .int .i64 0, .int .i64 0, .int .i64 0, .int .i64 0, .slice none 0 0] 58).alloc (w2.heap.size + 1) (by simp) #[.int .i64 0, .int .i64 0, .int .i64 0, .int .i64 0, .int .i64 0, .int .i64 0, .int .i64 0] 42).drew
   have B3 := V3.below
   have V3b0 := V3.blk 0 rfl
   have V3b1 := V3.blk 1 rfl
   have V4 : Mem w2 [] ((w2.alloc (.cells #[.int .i64 0, .int .i64 0, .int .i64 0, .int .i64 0, .int .i64 0, .int .i64 0, .int .i64 0] 42)).alloc (.cells #[.int .i64 0, .int .i64 0, .int .i64 0, .int .i64 0, .int .i64 0, .int .i64 0, .slice none 0 0] 58)).drew [.blk (w2.heap.size + 1) 58 #[.int .i64 0, .int .i64 0, .int .i64 0, .int .i64 0, .int .i64 0, .int .i64 0, .slice none 0 0], .blk (w2.heap.size) 42 #[.int .i64 0, .int .i64 0, .int .i64 0, .int .i64 0, .int .i64 0, .int .i64 0, .int .i64 0]] := Mem.perm (List.Perm.swap _ _ _) (((Mem.init w2).alloc _ rfl #[.int .i64 0, .int .i64 0, .int .i64 0, .int .i64 0, .int .i64 0, .int .i64 0, .int .i64 0] 42).alloc (w2.heap.size + 1) (by simp) #[.int .i64 0, .int .i64 0, .int .i64 0, .int .i64 0, .int .i64 0, .int .i64 0, .slice none 0 0] 58).drew
   have B4 := V4.below
   have V4b0 := V4.blk 0 rfl
   have V4b1 := V4.blk 1 rfl
   go_region_held3 (fun w' => w'.cell? ⟨w.heap.size + 1 + 1, 14, none⟩ = some (.func (.func 57) #[] #[.pointer (some ⟨gt, 0, none⟩), .pointer (some ⟨g1, 0, none⟩), .pointer (some ⟨g2, 0, none⟩)]) ∧ w'.cell? ⟨b, o, none⟩ = some (.int .i64 ↑ame) ∧ w'.cell? ⟨b, o + 1, none⟩ = some (.int .i64 ↑rev) ∧ w'.cell? ⟨b, o + 2, none⟩ = some (.int .i64 ↑next) ∧ w'.cell? ⟨b, o + 3, none⟩ = some (.int .i64 ↑month) ∧ w'.cell? ⟨b, o + 4, none⟩ = some (.int .i64 ↑bought) ∧ w'.cell? ⟨b, o + 5, none⟩ = some (.int .i64 free) ∧ w'.cell? ⟨b, o + 6, none⟩ = some (.slice Ad l.length cd)) (first | with_reducible exact ⟨s0, s1, s2, s3, s4, s5, s6, s7⟩ | go_keep | fail) (first | (go_at_call 57; (with_reducible refine (hWk (w2).drew B0 (hds2.below B0)).mono ?_); rintro e we ⟨A2, d2, rfl, hown, hbe⟩; have hV := V0; obtain ⟨bse, hK⟩ : ∃ bse : Nat, Mem (w2).drew [] we [.row (bse) (44) (2) (.slice A2 l2.length d2) (l2.length) (drs l2)] := ⟨_, Mem.row (Mem.init _) hbe hown (Nat.le_refl _)⟩; have hWe : Below w2.heap.size w2 we := B0.trans (hbe.mono B0.size); have s0 := (hWe.cell (p := ⟨w.heap.size + 1 + 1, 14, none⟩) odlt).trans od14; have s1 := (hWe.cell (p := ⟨b, o, none⟩) hbl2).trans q0; have s2 := (hWe.cell (p := ⟨b, o + 1, none⟩) hbl2).trans q1; have s3 := (hWe.cell (p := ⟨b, o + 2, none⟩) hbl2).trans q2; have s4 := (hWe.cell (p := ⟨b, o + 3, none⟩) hbl2).trans q3; have s5 := (hWe.cell (p := ⟨b, o + 4, none⟩) hbl2).trans q4; have s6 := (hWe.cell (p := ⟨b, o + 5, none⟩) hbl2).trans q5; have s7 := (hWe.cell (p := ⟨b, o + 6, none⟩) hbl2).trans q6; have sz := hWe.size; have ez0c : we.heap.size ≠ w.heap.size + 1 := (by have := odlt; omega); have ez0a : we.heap.size ≠ w.heap.size + 1 + 1 := (by have := odlt; omega); have ez0b : we.heap.size + 1 ≠ w.heap.size + 1 + 1 := (by have := odlt; omega); have ez1a : we.heap.size ≠ b := (by have := hbl2; omega); have ez1b : we.heap.size + 1 ≠ b := (by have := hbl2; omega)) | (go_at_call 57; (with_reducible refine (hWk (w2.alloc (.cells #[.int .i64 0, .int .i64 0, .int .i64 0, .int .i64 0, .int .i64 0, .int .i64 0, .slice none 0 0] 58)).drew B1 (hds2.below B1)).mono ?_); rintro e we ⟨A2, d2, rfl, hown, hbe⟩; have hV := V1; obtain ⟨bse, hK⟩ : ∃ bse : Nat, Mem (w2.alloc (.cells #[.int .i64 0, .int .i64 0, .int .i64 0, .int .i64 0, .int .i64 0, .int .i64 0, .slice none 0 0] 58)).drew [] we [.row (bse) (44) (2) (.slice A2 l2.length d2) (l2.length) (drs l2)] := ⟨_, Mem.row (Mem.init _) hbe hown (Nat.le_refl _)⟩; have hWe : Below w2.heap.size w2 we := B1.trans (hbe.mono B1.size); have s0 := (hWe.cell (p := ⟨w.heap.size + 1 + 1, 14, none⟩) odlt).trans od14; have s1 := (hWe.cell (p := ⟨b, o, none⟩) hbl2).trans q0; have s2 := (hWe.cell (p := ⟨b, o + 1, none⟩) hbl2).trans q1; have s3 := (hWe.cell (p := ⟨b, o + 2, none⟩) hbl2).trans q2; have s4 := (hWe.cell (p := ⟨b, o + 3, none⟩) hbl2).trans q3; have s5 := (hWe.cell (p := ⟨b, o + 4, none⟩) hbl2).trans q4; have s6 := (hWe.cell (p := ⟨b, o + 5, none⟩) hbl2).trans q5; have s7 := (hWe.cell (p := ⟨b, o + 6, none⟩) hbl2).trans q6; have sz := hWe.size; have ez0c : we.heap.size ≠ w.heap.size + 1 := (by have := odlt; omega); have ez0a : we.heap.size ≠ w.heap.size + 1 + 1 := (by have := odlt; omega); have ez0b : we.heap.size + 1 ≠ w.heap.size + 1 + 1 := (by have := odlt; omega); have ez1a : we.heap.size ≠ b := (by have := hbl2; omega); have ez1b : we.heap.size + 1 ≠ b := (by have := hbl2; omega); have zb0 := Blk.below V1b0 hbe V1b0.lt; have zb0_0 := zb0.cell 0; have zb0f0 := zb0.frozen 0; have zb0_1 := zb0.cell 1; have zb0f1 := zb0.frozen 1; have zb0_2 := zb0.cell 2; have zb0f2 := zb0.frozen 2; have zb0_3 := zb0.cell 3; have zb0f3 := zb0.frozen 3; have zb0_4 := zb0.cell 4; have zb0f4 := zb0.frozen 4; have zb0_5 := zb0.cell 5; have zb0f5 := zb0.frozen 5; have zb0_6 := zb0.cell 6; have zb0f6 := zb0.frozen 6; have zb0lt : w2.heap.size < we.heap.size := zb0.lt) | (go_at_call 57; (with_reducible refine (hWk (w2.alloc (.cells #[.int .i64 0, .int .i64 0, .int .i64 0, .int .i64 0, .int .i64 0, .int .i64 0, .int .i64 0] 42)).drew B2 (hds2.below B2)).mono ?_); rintro e we ⟨A2, d2, rfl, hown, hbe⟩; have hV := V2; obtain ⟨bse, hK⟩ : ∃ bse : Nat, Mem (w2.alloc (.cells #[.int .i64 0, .int .i64 0, .int .i64 0, .int .i64 0, .int .i64 0, .int .i64 0, .int .i64 0] 42)).drew [] we [.row (bse) (44) (2) (.slice A2 l2.length d2) (l2.length) (drs l2)] := ⟨_, Mem.row (Mem.init _) hbe hown (Nat.le_refl _)⟩; have hWe : Below w2.heap.size w2 we := B2.trans (hbe.mono B2.size); have s0 := (hWe.cell (p := ⟨w.heap.size + 1 + 1, 14, none⟩) odlt).trans od14; have s1 := (hWe.cell (p := ⟨b, o, none⟩) hbl2).trans q0; have s2 := (hWe.cell (p := ⟨b, o + 1, none⟩) hbl2).trans q1; have s3 := (hWe.cell (p := ⟨b, o + 2, none⟩) hbl2).trans q2; have s4 := (hWe.cell (p := ⟨b, o + 3, none⟩) hbl2).trans q3; have s5 := (hWe.cell (p := ⟨b, o + 4, none⟩) hbl2).trans q4; have s6 := (hWe.cell (p := ⟨b, o + 5, none⟩) hbl2).trans q5; have s7 := (hWe.cell (p := ⟨b, o + 6, none⟩) hbl2).trans q6; have sz := hWe.size; have ez0c : we.heap.size ≠ w.heap.size + 1 := (by have := odlt; omega); have ez0a : we.heap.size ≠ w.heap.size + 1 + 1 := (by have := odlt; omega); have ez0b : we.heap.size + 1 ≠ w.heap.size + 1 + 1 := (by have := odlt; omega); have ez1a : we.heap.size ≠ b := (by have := hbl2; omega); have ez1b : we.heap.size + 1 ≠ b := (by have := hbl2; omega); have zb1 := Blk.below V2b1 hbe V2b1.lt; have zb1_0 := zb1.cell 0; have zb1f0 := zb1.frozen 0; have zb1_1 := zb1.cell 1; have zb1f1 := zb1.frozen 1; have zb1_2 := zb1.cell 2; have zb1f2 := zb1.frozen 2; have zb1_3 := zb1.cell 3; have zb1f3 := zb1.frozen 3; have zb1_4 := zb1.cell 4; have zb1f4 := zb1.frozen 4; have zb1_5 := zb1.cell 5; have zb1f5 := zb1.frozen 5; have zb1_6 := zb1.cell 6; have zb1f6 := zb1.frozen 6; have zb1lt : w2.heap.size < we.heap.size := zb1.lt) | (go_at_call 57; (with_reducible refine (hWk ((w2.alloc (.cells #[.int .i64 0, .int .i64 0, .int .i64 0, .int .i64 0, .int .i64 0, .int .i64 0, .slice none 0 0] 58)).alloc (.cells #[.int .i64 0, .int .i64 0, .int .i64 0, .int .i64 0, .int .i64 0, .int .i64 0, .int .i64 0] 42)).drew B3 (hds2.below B3)).mono ?_); rintro e we ⟨A2, d2, rfl, hown, hbe⟩; have hV := V3; obtain ⟨bse, hK⟩ : ∃ bse : Nat, Mem ((w2.alloc (.cells #[.int .i64 0, .int .i64 0, .int .i64 0, .int .i64 0, .int .i64 0, .int .i64 0, .slice none 0 0] 58)).alloc (.cells #[.int .i64 0, .int .i64 0, .int .i64 0, .int .i64 0, .int .i64 0, .int .i64 0, .int .i64 0] 42)).drew [] we [.row (bse) (44) (2) (.slice A2 l2.length d2) (l2.length) (drs l2)] := ⟨_, Mem.row (Mem.init _) hbe hown (Nat.le_refl _)⟩; have hWe : Below w2.heap.size w2 we := B3.trans (hbe.mono B3.size); have s0 := (hWe.cell (p := ⟨w.heap.size + 1 + 1, 14, none⟩) odlt).trans od14; have s1 := (hWe.cell (p := ⟨b, o, none⟩) hbl2).trans q0; have s2 := (hWe.cell (p := ⟨b, o + 1, none⟩) hbl2).trans q1; have s3 := (hWe.cell (p := ⟨b, o + 2, none⟩) hbl2).trans q2; have s4 := (hWe.cell (p := ⟨b, o + 3, none⟩) hbl2).trans q3; have s5 := (hWe.cell (p := ⟨b, o + 4, none⟩) hbl2).trans q4; have s6 := (hWe.cell (p := ⟨b, o + 5, none⟩) hbl2).trans q5; have s7 := (hWe.cell (p := ⟨b, o + 6, none⟩) hbl2).trans q6; have sz := hWe.size; have ez0c : we.heap.size ≠ w.heap.size + 1 := (by have := odlt; omega); have ez0a : we.heap.size ≠ w.heap.size + 1 + 1 := (by have := odlt; omega); have ez0b : we.heap.size + 1 ≠ w.heap.size + 1 + 1 := (by have := odlt; omega); have ez1a : we.heap.size ≠ b := (by have := hbl2; omega); have ez1b : we.heap.size + 1 ≠ b := (by have := hbl2; omega); have zb0 := Blk.below V3b0 hbe V3b0.lt; have zb0_0 := zb0.cell 0; have zb0f0 := zb0.frozen 0; have zb0_1 := zb0.cell 1; have zb0f1 := zb0.frozen 1; have zb0_2 := zb0.cell 2; have zb0f2 := zb0.frozen 2; have zb0_3 := zb0.cell 3; have zb0f3 := zb0.frozen 3; have zb0_4 := zb0.cell 4; have zb0f4 := zb0.frozen 4; have zb0_5 := zb0.cell 5; have zb0f5 := zb0.frozen 5; have zb0_6 := zb0.cell 6; have zb0f6 := zb0.frozen 6; have zb0lt : w2.heap.size < we.heap.size := zb0.lt; have zb1 := Blk.below V3b1 hbe V3b1.lt; have zb1_0 := zb1.cell 0; have zb1f0 := zb1.frozen 0; have zb1_1 := zb1.cell 1; have zb1f1 := zb1.frozen 1; have zb1_2 := zb1.cell 2; have zb1f2 := zb1.frozen 2; have zb1_3 := zb1.cell 3; have zb1f3 := zb1.frozen 3; have zb1_4 := zb1.cell 4; have zb1f4 := zb1.frozen 4; have zb1_5 := zb1.cell 5; have zb1f5 := zb1.frozen 5; have zb1_6 := zb1.cell 6; have zb1f6 := zb1.frozen 6; have zb1lt : w2.heap.size + 1 < we.heap.size := zb1.lt; have zn1 : w2.heap.size ≠ w2.heap.size + 1 := (by omega); have zn2 : w2.heap.size + 1 ≠ w2.heap.size := (by omega)) | (go_at_call 57; (with_reducible refine (hWk ((w2.alloc (.cells #[.int .i64 0, .int .i64 0, .int .i64 0, .int .i64 0, .int .i64 0, .int .i64 0, .int .i64 0] 42)).alloc (.cells #[.int .i64 0, .int .i64 0, .int .i64 0, .int .i64 0, .int .i64 0, .int .i64 0, .slice none 0 0] 58)).drew B4 (hds2.below B4)).mono ?_); rintro e we ⟨A2, d2, rfl, hown, hbe⟩; have hV := V4; obtain ⟨bse, hK⟩ : ∃ bse : Nat, Mem ((w2.alloc (.cells #[.int .i64 0, .int .i64 0, .int .i64 0, .int .i64 0, .int .i64 0, .int .i64 0, .int .i64 0] 42)).alloc (.cells #[.int .i64 0, .int .i64 0, .int .i64 0, .int .i64 0, .int .i64 0, .int .i64 0, .slice none 0 0] 58)).drew [] we [.row (bse) (44) (2) (.slice A2 l2.length d2) (l2.length) (drs l2)] := ⟨_, Mem.row (Mem.init _) hbe hown (Nat.le_refl _)⟩; have hWe : Below w2.heap.size w2 we := B4.trans (hbe.mono B4.size); have s0 := (hWe.cell (p := ⟨w.heap.size + 1 + 1, 14, none⟩) odlt).trans od14; have s1 := (hWe.cell (p := ⟨b, o, none⟩) hbl2).trans q0; have s2 := (hWe.cell (p := ⟨b, o + 1, none⟩) hbl2).trans q1; have s3 := (hWe.cell (p := ⟨b, o + 2, none⟩) hbl2).trans q2; have s4 := (hWe.cell (p := ⟨b, o + 3, none⟩) hbl2).trans q3; have s5 := (hWe.cell (p := ⟨b, o + 4, none⟩) hbl2).trans q4; have s6 := (hWe.cell (p := ⟨b, o + 5, none⟩) hbl2).trans q5; have s7 := (hWe.cell (p := ⟨b, o + 6, none⟩) hbl2).trans q6; have sz := hWe.size; have ez0c : we.heap.size ≠ w.heap.size + 1 := (by have := odlt; omega); have ez0a : we.heap.size ≠ w.heap.size + 1 + 1 := (by have := odlt; omega); have ez0b : we.heap.size + 1 ≠ w.heap.size + 1 + 1 := (by have := odlt; omega); have ez1a : we.heap.size ≠ b := (by have := hbl2; omega); have ez1b : we.heap.size + 1 ≠ b := (by have := hbl2; omega); have zb0 := Blk.below V4b0 hbe V4b0.lt; have zb0_0 := zb0.cell 0; have zb0f0 := zb0.frozen 0; have zb0_1 := zb0.cell 1; have zb0f1 := zb0.frozen 1; have zb0_2 := zb0.cell 2; have zb0f2 := zb0.frozen 2; have zb0_3 := zb0.cell 3; have zb0f3 := zb0.frozen 3; have zb0_4 := zb0.cell 4; have zb0f4 := zb0.frozen 4; have zb0_5 := zb0.cell 5; have zb0f5 := zb0.frozen 5; have zb0_6 := zb0.cell 6; have zb0f6 := zb0.frozen 6; have zb0lt : w2.heap.size + 1 < we.heap.size := zb0.lt; have zb1 := Blk.below V4b1 hbe V4b1.lt; have zb1_0 := zb1.cell 0; have zb1f0 := zb1.frozen 0; have zb1_1 := zb1.cell 1; have zb1f1 := zb1.frozen 1; have zb1_2 := zb1.cell 2; have zb1f2 := zb1.frozen 2; have zb1_3 := zb1.cell 3; have zb1f3 := zb1.frozen 3; have zb1_4 := zb1.cell 4; have zb1f4 := zb1.frozen 4; have zb1_5 := zb1.cell 5; have zb1f5 := zb1.frozen 5; have zb1_6 := zb1.cell 6; have zb1f6 := zb1.frozen 6; have zb1lt : w2.heap.size < we.heap.size := zb1.lt; have zn1 : w2.heap.size + 1 ≠ w2.heap.size := (by omega); have zn2 : w2.heap.size ≠ w2.heap.size + 1 := (by omega)))
   all_goals
     go_wp2_with fail
     go_meet
     refine ⟨_, _, A2, d2, bse, rfl, rfl, rfl, ?_⟩
     first
     | with_reducible exact ⟨cr2_a H hV hK, (cr2_a (Mem.init w2) hV hK).below⟩
     | with_reducible exact ⟨cr2_b H hV hK, (cr2_b (Mem.init w2) hV hK).below⟩
     | (have h := cr2_c (c1 := #[.int .i64 ↑me2, .int .i64 ↑rev2, .int .i64 ↑next2, .int .i64 ↑month2, .int .i64 ↑bought2, .int .i64 free2, .slice A2 l2.length d2]) (c2 := #[.int .i64 ↑id, .int .i64 ↑te, .int .i64 ↑de, .int .i64 ↑fe, .int .i64 ↑pr, .int .i64 ↑ch, .int .i64 ↑un]) (t1 := 58) (t2 := 42) H hV hK [(0, .int .i64 ↑me2), (1, .int .i64 ↑rev2), (2, .int .i64 ↑next2), (3, .int .i64 ↑month2), (4, .int .i64 ↑bought2), (5, .int .i64 free2), (6, .slice A2 l2.length d2)] (by simp only [List.foldl_cons, List.foldl_nil, List.setIfInBounds_toArray, List.set_cons_zero, List.set_cons_succ])
        have h2 := (cr2_c (c1 := #[.int .i64 ↑me2, .int .i64 ↑rev2, .int .i64 ↑next2, .int .i64 ↑month2, .int .i64 ↑bought2, .int .i64 free2, .slice A2 l2.length d2]) (c2 := #[.int .i64 ↑id, .int .i64 ↑te, .int .i64 ↑de, .int .i64 ↑fe, .int .i64 ↑pr, .int .i64 ↑ch, .int .i64 ↑un]) (t1 := 58) (t2 := 42) (Mem.init w2) hV hK [(0, .int .i64 ↑me2), (1, .int .i64 ↑rev2), (2, .int .i64 ↑next2), (3, .int .i64 ↑month2), (4, .int .i64 ↑bought2), (5, .int .i64 free2), (6, .slice A2 l2.length d2)] (by simp only [List.foldl_cons, List.foldl_nil, List.setIfInBounds_toArray, List.set_cons_zero, List.set_cons_succ])).below
        simp only [sets, List.foldl_cons, List.foldl_nil] at h h2
        with_reducible exact ⟨h, h2⟩)
     | (have h := cr2_d (c1 := #[.int .i64 ↑me2, .int .i64 ↑rev2, .int .i64 ↑next2, .int .i64 ↑month2, .int .i64 ↑bought2, .int .i64 free2, .slice A2 l2.length d2]) (c2 := #[.int .i64 ↑id, .int .i64 ↑te, .int .i64 ↑de, .int .i64 ↑fe, .int .i64 ↑pr, .int .i64 ↑ch, .int .i64 ↑un]) (t1 := 58) (t2 := 42) H hV hK [(0, .int .i64 ↑id), (1, .int .i64 ↑te), (2, .int .i64 ↑de), (3, .int .i64 ↑fe), (4, .int .i64 ↑pr), (5, .int .i64 ↑ch), (6, .int .i64 ↑un)] (by simp only [List.foldl_cons, List.foldl_nil, List.setIfInBounds_toArray, List.set_cons_zero, List.set_cons_succ])
        have h2 := (cr2_d (c1 := #[.int .i64 ↑me2, .int .i64 ↑rev2, .int .i64 ↑next2, .int .i64 ↑month2, .int .i64 ↑bought2, .int .i64 free2, .slice A2 l2.length d2]) (c2 := #[.int .i64 ↑id, .int .i64 ↑te, .int .i64 ↑de, .int .i64 ↑fe, .int .i64 ↑pr, .int .i64 ↑ch, .int .i64 ↑un]) (t1 := 58) (t2 := 42) (Mem.init w2) hV hK [(0, .int .i64 ↑id), (1, .int .i64 ↑te), (2, .int .i64 ↑de), (3, .int .i64 ↑fe), (4, .int .i64 ↑pr), (5, .int .i64 ↑ch), (6, .int .i64 ↑un)] (by simp only [List.foldl_cons, List.foldl_nil, List.setIfInBounds_toArray, List.set_cons_zero, List.set_cons_succ])).below
        simp only [sets, List.foldl_cons, List.foldl_nil] at h h2
        with_reducible exact ⟨h, h2⟩)
     | (have h := cr2_e (c1 := #[.int .i64 ↑me2, .int .i64 ↑rev2, .int .i64 ↑next2, .int .i64 ↑month2, .int .i64 ↑bought2, .int .i64 free2, .slice A2 l2.length d2]) (c2 := #[.int .i64 ↑id, .int .i64 ↑te, .int .i64 ↑de, .int .i64 ↑fe, .int .i64 ↑pr, .int .i64 ↑ch, .int .i64 ↑un]) (t1 := 58) (t2 := 42) H hV hK [(0, .int .i64 ↑me2), (1, .int .i64 ↑rev2), (2, .int .i64 ↑next2), (3, .int .i64 ↑month2), (4, .int .i64 ↑bought2), (5, .int .i64 free2), (6, .slice A2 l2.length d2)] [(0, .int .i64 ↑id), (1, .int .i64 ↑te), (2, .int .i64 ↑de), (3, .int .i64 ↑fe), (4, .int .i64 ↑pr), (5, .int .i64 ↑ch), (6, .int .i64 ↑un)] (by simp only [List.foldl_cons, List.foldl_nil, List.setIfInBounds_toArray, List.set_cons_zero, List.set_cons_succ]) (by simp only [List.foldl_cons, List.foldl_nil, List.setIfInBounds_toArray, List.set_cons_zero, List.set_cons_succ])
        have h2 := (cr2_e (c1 := #[.int .i64 ↑me2, .int .i64 ↑rev2, .int .i64 ↑next2, .int .i64 ↑month2, .int .i64 ↑bought2, .int .i64 free2, .slice A2 l2.length d2]) (c2 := #[.int .i64 ↑id, .int .i64 ↑te, .int .i64 ↑de, .int .i64 ↑fe, .int .i64 ↑pr, .int .i64 ↑ch, .int .i64 ↑un]) (t1 := 58) (t2 := 42) (Mem.init w2) hV hK [(0, .int .i64 ↑me2), (1, .int .i64 ↑rev2), (2, .int .i64 ↑next2), (3, .int .i64 ↑month2), (4, .int .i64 ↑bought2), (5, .int .i64 free2), (6, .slice A2 l2.length d2)] [(0, .int .i64 ↑id), (1, .int .i64 ↑te), (2, .int .i64 ↑de), (3, .int .i64 ↑fe), (4, .int .i64 ↑pr), (5, .int .i64 ↑ch), (6, .int .i64 ↑un)] (by simp only [List.foldl_cons, List.foldl_nil, List.setIfInBounds_toArray, List.set_cons_zero, List.set_cons_succ]) (by simp only [List.foldl_cons, List.foldl_nil, List.setIfInBounds_toArray, List.set_cons_zero, List.set_cons_succ])).below
        simp only [sets, List.foldl_cons, List.foldl_nil] at h h2
        with_reducible exact ⟨h, h2⟩)
     | (have h := cr2_f (c1 := #[.int .i64 ↑me2, .int .i64 ↑rev2, .int .i64 ↑next2, .int .i64 ↑month2, .int .i64 ↑bought2, .int .i64 free2, .slice A2 l2.length d2]) (c2 := #[.int .i64 ↑id, .int .i64 ↑te, .int .i64 ↑de, .int .i64 ↑fe, .int .i64 ↑pr, .int .i64 ↑ch, .int .i64 ↑un]) (t1 := 58) (t2 := 42) H hV hK [(0, .int .i64 ↑me2), (1, .int .i64 ↑rev2), (2, .int .i64 ↑next2), (3, .int .i64 ↑month2), (4, .int .i64 ↑bought2), (5, .int .i64 free2), (6, .slice A2 l2.length d2)] [(0, .int .i64 ↑id), (1, .int .i64 ↑te), (2, .int .i64 ↑de), (3, .int .i64 ↑fe), (4, .int .i64 ↑pr), (5, .int .i64 ↑ch), (6, .int .i64 ↑un)] (by simp only [List.foldl_cons, List.foldl_nil, List.setIfInBounds_toArray, List.set_cons_zero, List.set_cons_succ]) (by simp only [List.foldl_cons, List.foldl_nil, List.setIfInBounds_toArray, List.set_cons_zero, List.set_cons_succ])
        have h2 := (cr2_f (c1 := #[.int .i64 ↑me2, .int .i64 ↑rev2, .int .i64 ↑next2, .int .i64 ↑month2, .int .i64 ↑bought2, .int .i64 free2, .slice A2 l2.length d2]) (c2 := #[.int .i64 ↑id, .int .i64 ↑te, .int .i64 ↑de, .int .i64 ↑fe, .int .i64 ↑pr, .int .i64 ↑ch, .int .i64 ↑un]) (t1 := 58) (t2 := 42) (Mem.init w2) hV hK [(0, .int .i64 ↑me2), (1, .int .i64 ↑rev2), (2, .int .i64 ↑next2), (3, .int .i64 ↑month2), (4, .int .i64 ↑bought2), (5, .int .i64 free2), (6, .slice A2 l2.length d2)] [(0, .int .i64 ↑id), (1, .int .i64 ↑te), (2, .int .i64 ↑de), (3, .int .i64 ↑fe), (4, .int .i64 ↑pr), (5, .int .i64 ↑ch), (6, .int .i64 ↑un)] (by simp only [List.foldl_cons, List.foldl_nil, List.setIfInBounds_toArray, List.set_cons_zero, List.set_cons_succ]) (by simp only [List.foldl_cons, List.foldl_nil, List.setIfInBounds_toArray, List.set_cons_zero, List.set_cons_succ])).below
        simp only [sets, List.foldl_cons, List.foldl_nil] at h h2
        with_reducible exact ⟨h, h2⟩)
 case rest =>
   obtain ⟨na, bi, A2, d2, base, rfl, rfl, rfl, H, hCR⟩ := hcut
   subst hLL
   replace H : Mem (w) [] (wc) [.blk (w.heap.size) 28 #[.slice At nt ct, .int .i64 ↑T.fx, .int .i64 ↑T.fb, .int .i64 ↑T.db, .int .i64 ↑T.al], .blk (w.heap.size + 1) 32 #[.slice Ao no co], .blk (w.heap.size + 1 + 1) 153 #[.int .i64 2, .int .i64 ↑me, .int .i64 ↑mo, .int .i64 0, .int .i64 0, .int .i64 0, .int .i64 0, .int .i64 0, .int .i64 0, .int .i64 0, .int .i64 0, .int .i64 0, .int .i64 0, .int .i64 0, .func (.func 57) #[] #[.pointer (some ⟨gt, 0, none⟩), .pointer (some ⟨g1, 0, none⟩), .pointer (some ⟨g2, 0, none⟩)]], .blk (w.heap.size + 1 + 1 + 1) 146 #[.slice none 0 0, .slice none 0 0, .int .i64 0, .int .i64 0, .int .i64 0, .int .i64 0, .int .i64 0, .int .i64 0, .int .i64 0, .int .i64 0, .string ⟨#[]⟩], .blk (g) 103 #[.slice (some ⟨b, off, none⟩) nb cb, .slice At nt ct, .int .i64 ↑T.fx, .int .i64 ↑T.fb, .int .i64 ↑T.db, .int .i64 ↑T.al, .slice Ac nc cc, .int .i64 ↑L.length], .blk (na) 58 #[.int .i64 ↑me2, .int .i64 ↑rev2, .int .i64 ↑next2, .int .i64 ↑month2, .int .i64 ↑bought2, .int .i64 free2, .slice A2 l2.length d2], .blk (bi) 42 #[.int .i64 ↑id, .int .i64 ↑te, .int .i64 ↑de, .int .i64 ↑fe, .int .i64 ↑pr, .int .i64 ↑ch, .int .i64 ↑un], .row (base) (44) (2) (.slice A2 l2.length d2) (l2.length) (drs l2)] := H
   obtain ⟨wk, hwk⟩ : ∃ wk, wk = wc := ⟨_, rfl⟩
   subst hwk

   have hc3 := hc2.below (Below.mono hCR (Nat.le_refl _))
   have q1c := (hCR.cell (p := ⟨b, o + 1, none⟩) hbl2).trans q1
   have hbl3 := Nat.lt_of_lt_of_le hbl2 hCR.size
   clear q0 q1 q2 q3 q4 q5 q6 hbl2 hds2 hWk hc2 hCR
   by_cases hE : E = 0
   rotate_left
   · have hEb : ((E : Int) == 0) = false := by simp; omega
     have hEn : ¬ (E : Int) = 0 := by omega
     clear hK q1c

     clear odlt od0 odf0 od1 odf1 od2 odf2 od3 odf3 od4 odf4 od5 odf5 od6 odf6 od7 odf7 od8 odf8 od9 odf9 od10 odf10 od11 odf11 od12 odf12 od13 odf13 od14 odf14
     obtain ⟨rslt, rs0, rsf0, rs1, rsf1, rs2, rsf2, rs3, rsf3, rs4, rsf4, rs5, rsf5, rs6, rsf6, rs7, rsf7, rs8, rsf8, rs9, rsf9, rs10, rsf10⟩ := H.c11 3 rfl
     go_wp2
     obtain ⟨wz, hwz⟩ : ∃ wz, (((((((((((wk).setCell ⟨w.heap.size + 1 + 1 + 1, 0, none⟩ (.slice none 0 0)).setCell ⟨w.heap.size + 1 + 1 + 1, 1, none⟩ (.slice none 0 0)).setCell ⟨w.heap.size + 1 + 1 + 1, 2, none⟩ (.int .i64 0)).setCell ⟨w.heap.size + 1 + 1 + 1, 3, none⟩ (.int .i64 0)).setCell ⟨w.heap.size + 1 + 1 + 1, 4, none⟩ (.int .i64 0)).setCell ⟨w.heap.size + 1 + 1 + 1, 5, none⟩ (.int .i64 0)).setCell ⟨w.heap.size + 1 + 1 + 1, 6, none⟩ (.int .i64 0)).setCell ⟨w.heap.size + 1 + 1 + 1, 7, none⟩ (.int .i64 0)).setCell ⟨w.heap.size + 1 + 1 + 1, 8, none⟩ (.int .i64 0)).setCell ⟨w.heap.size + 1 + 1 + 1, 9, none⟩ (.int .i64 0)).setCell ⟨w.heap.size + 1 + 1 + 1, 10, none⟩ (.string ⟨#[]⟩) = wz := ⟨_, rfl⟩
     replace H := Mem.set 3 H rfl (0) (.slice none 0 0)
     replace H := Mem.set 3 H rfl (1) (.slice none 0 0)
     replace H := Mem.set 3 H rfl (2) (.int .i64 0)
     replace H := Mem.set 3 H rfl (3) (.int .i64 0)
     replace H := Mem.set 3 H rfl (4) (.int .i64 0)
     replace H := Mem.set 3 H rfl (5) (.int .i64 0)
     replace H := Mem.set 3 H rfl (6) (.int .i64 0)
     replace H := Mem.set 3 H rfl (7) (.int .i64 0)
     replace H := Mem.set 3 H rfl (8) (.int .i64 0)
     replace H := Mem.set 3 H rfl (9) (.int .i64 0)
     replace H := Mem.set 3 H rfl (10) (.string ⟨#[]⟩)
     simp only [List.set_cons_zero, List.set_cons_succ, List.setIfInBounds_toArray] at H
     rw [hwz] at H ⊢
     clear hwz
     clear rslt rs0 rsf0 rs1 rsf1 rs2 rsf2 rs3 rsf3 rs4 rsf4 rs5 rsf5 rs6 rsf6 rs7 rsf7 rs8 rsf8 rs9 rsf9 rs10 rsf10
     obtain ⟨rslt, rs0, rsf0, rs1, rsf1, rs2, rsf2, rs3, rsf3, rs4, rsf4, rs5, rsf5, rs6, rsf6, rs7, rsf7, rs8, rsf8, rs9, rsf9, rs10, rsf10⟩ := H.c11 3 rfl
     refine bodyPost_ret (v := .tuple #[.agg #[.slice none 0 0, .slice none 0 0, .int .i64 0, .int .i64 0, .int .i64 0, .int .i64 0, .int .i64 0, .int .i64 0, .int .i64 0, .int .i64 0, .string ⟨#[]⟩], .int .i64 ↑E]) (by simp [results, Tryz.results53, go_sem, rs0, rs1, rs2, rs3, rs4, rs5, rs6, rs7, rs8, rs9, rs10]; done) rfl ?_
     exact .inr ⟨hE, rfl, H.below⟩
   · subst hE
     skip
     obtain ⟨hk0, hvo⟩ := hz rfl
     clear hz
     obtain ⟨hrev, hme, hlp, h5, hd⟩ := HB.out
     obtain ⟨body, hbody⟩ : ∃ bb, tbody 0 id un = bb := ⟨_, rfl⟩
     have hB := fun W => tbody_ok 0 id un 0 body W hk0 (Lib.hid hbody)
     have hbl := tbody_le hk0
     rw [hbody] at hbl
     have hmk : mayK ((me : Int), (rev : Int), (body : Int)) := by unfold mayK; dsimp only; omega
     have hwf : wf3 (me : Int) (rev : Int) (body : Int) := ⟨WalkArith.wf_i64 (by omega), WalkArith.wf_i64 (by omega), WalkArith.wf_i64 (by omega)⟩
     obtain ⟨t0, t9⟩ := issT_bd (x := (me : Int)) (y := (rev : Int)) (z := (body : Int)) (d := (d : Int)) hlp (by omega) (by omega)
     obtain ⟨t2, ht2⟩ : ∃ t2 : Nat, issT lp (me : Int) (rev : Int) (body : Int) (d : Int) = (t2 : Int) := ⟨(issT lp (me : Int) (rev : Int) (body : Int) (d : Int)).toNat, by omega⟩
     rw [ht2] at t0 t9
     obtain ⟨lp2, hl2⟩ : ∃ lp2, issL lp (me : Int) (rev : Int) (body : Int) (d : Int) = lp2 := ⟨_, rfl⟩
     have hO2 := issL_ok (x := (me : Int)) (y := (rev : Int)) (z := (body : Int)) (d := (d : Int)) hlp hmk (by omega) (by omega) h5
     rw [hl2] at hO2
     have hI := fun W h => issue_ok (.slice Ao no co) lp lp2 (me : Int) (rev : Int) (body : Int) (d : Int) (t2 : Int) W h hlp hmk hwf (by omega) (by omega) h5 (Lib.hid hl2) (Lib.hid ht2)
     unfold RetIss at hI
     have ht65 : t2 ≤ 65535 := by omega
     have hk2 : TkOk 0 id un t2 := ⟨hk0.h1, hk0.h2, hk0.h3, hk0.h4, ht65⟩
     have hFm := fun W => format_ok 0 id un t2 W hk2
     have hKv := fun g x0 x1 x2 x3 x4 x5 W hs hw => hK g x0 x1 x2 x3 x4 x5 (Ev.mk 2 me mo id te de fe pr ch un t2 0 0) W (hvo t2 ht65) hs hw
     have hev : evV (Ev.mk 2 me mo id te de fe pr ch un t2 0 0) = .agg #[.int .i64 2, .int .i64 ↑me, .int .i64 ↑mo, .int .i64 ↑id, .int .i64 ↑te, .int .i64 ↑de, .int .i64 ↑fe, .int .i64 ↑pr, .int .i64 ↑ch, .int .i64 ↑un, .int .i64 ↑t2, .int .i64 0, .int .i64 0] := rfl
     rw [hev] at hKv
     obtain ⟨wl, hwl⟩ : ∃ wl, putW c.length (L.length * 14) (evW ⟨2, me, mo, id, te, de, fe, pr, ch, un, t2, 0, 0⟩) = wl := ⟨_, rfl⟩
     rw [hwl] at hKv
     have HF := Lib.hid (And.intro ht65 (And.intro hl2 (And.intro ht2 (And.intro hO2 (And.intro hwl hbody)))))
     simp only [Int.cast_ofNat_Int] at hB hFm
     obtain ⟨dg, hdg⟩ : ∃ dg, dstr (tokD 0 id un t2) = dg := ⟨_, rfl⟩
     rw [hdg] at hFm
     clear hK hk0 hvo hbl hmk hwf t0 t9 ht2 hl2 hO2 ht65 hk2 hev hwl hbody
     clear odlt od0 odf0 od1 odf1 od2 odf2 od3 odf3 od4 odf4 od5 odf5 od6 odf6 od7 odf7 od8 odf8 od9 odf9 od10 odf10 od11 odf11 od12 odf12 od13 odf13 od14 odf14
     obtain ⟨odlt, od0, odf0, od1, odf1, od2, odf2, od3, odf3, od4, odf4, od5, odf5, od6, odf6, od7, odf7, od8, odf8, od9, odf9, od10, odf10, od11, odf11, od12, odf12, od13, odf13, od14, odf14⟩ := H.c15 2 rfl
     obtain ⟨bilt, bi0, bif0, bi1, bif1, bi2, bif2, bi3, bif3, bi4, bif4, bi5, bif5, bi6, bif6⟩ := H.c7 6 rfl
     obtain ⟨nalt, na0, naf0, na1, naf1, na2, naf2, na3, naf3, na4, naf4, na5, naf5, na6, naf6⟩ := H.c7 5 rfl
     have ne_od_bi := H.ne 2 6 rfl rfl (by decide)
     have ne_od_na := H.ne 2 5 rfl rfl (by decide)
     have ne_bi_od := H.ne 6 2 rfl rfl (by decide)
     have ne_bi_na := H.ne 6 5 rfl rfl (by decide)
     have ne_na_od := H.ne 5 2 rfl rfl (by decide)
     have ne_na_bi := H.ne 5 6 rfl rfl (by decide)
     go_wp2_with fail
     replace H := Mem.alloc H (wk.heap.size) (by first | (simp; done) | (simp; omega)) #[.int .i64 0, .int .i64 ↑id, .int .i64 ↑un, .int .i64 0] 120
     simp only [List.cons_append, List.nil_append] at H
     refine (hB _).mono ?_
     rintro e wd ⟨rfl, hbd⟩
     have hbw2 : Below wk.heap.size wk wd := (below_a1 wk _).trans (Below.mono hbd (by simp))
     have hc4 := hc3.below hbw2
     have q1d := (hbw2.cell (p := ⟨b, o + 1, none⟩) hbl3).trans q1c
     have hbl4 := Nat.lt_of_lt_of_le hbl3 hbw2.size
     replace H := Mem.call H hbd
     have hpsd := hps.below H.below
     clear hB hbd hc3 q1c hbl3 hbw2
     clear odlt od0 odf0 od1 odf1 od2 odf2 od3 odf3 od4 odf4 od5 odf5 od6 odf6 od7 odf7 od8 odf8 od9 odf9 od10 odf10 od11 odf11 od12 odf12 od13 odf13 od14 odf14 bilt bi0 bif0 bi1 bif1 bi2 bif2 bi3 bif3 bi4 bif4 bi5 bif5 bi6 bif6 nalt na0 naf0 na1 naf1 na2 naf2 na3 naf3 na4 naf4 na5 naf5 na6 naf6 ne_od_bi ne_od_na ne_bi_od ne_bi_na ne_na_od ne_na_bi
     obtain ⟨oolt, oo0, oof0⟩ := H.c1 1 rfl
     obtain ⟨odlt, od0, odf0, od1, odf1, od2, odf2, od3, odf3, od4, odf4, od5, odf5, od6, odf6, od7, odf7, od8, odf8, od9, odf9, od10, odf10, od11, odf11, od12, odf12, od13, odf13, od14, odf14⟩ := H.c15 2 rfl
     have ne_oo_od := H.ne 1 2 rfl rfl (by decide)
     have ne_od_oo := H.ne 2 1 rfl rfl (by decide)
     go_upto_region 16 with fail
     obtain ⟨LL, hLL⟩ : ∃ LL : List Chunk, [.blk (w.heap.size) 28 #[.slice At nt ct, .int .i64 ↑T.fx, .int .i64 ↑T.fb, .int .i64 ↑T.db, .int .i64 ↑T.al], .blk (w.heap.size + 1) 32 #[.slice Ao no co], .blk (w.heap.size + 1 + 1) 153 #[.int .i64 2, .int .i64 ↑me, .int .i64 ↑mo, .int .i64 0, .int .i64 0, .int .i64 0, .int .i64 0, .int .i64 0, .int .i64 0, .int .i64 0, .int .i64 0, .int .i64 0, .int .i64 0, .int .i64 0, .func (.func 57) #[] #[.pointer (some ⟨gt, 0, none⟩), .pointer (some ⟨g1, 0, none⟩), .pointer (some ⟨g2, 0, none⟩)]], .blk (w.heap.size + 1 + 1 + 1) 146 #[.slice none 0 0, .slice none 0 0, .int .i64 0, .int .i64 0, .int .i64 0, .int .i64 0, .int .i64 0, .int .i64 0, .int .i64 0, .int .i64 0, .string ⟨#[]⟩], .blk (g) 103 #[.slice (some ⟨b, off, none⟩) nb cb, .slice At nt ct, .int .i64 ↑T.fx, .int .i64 ↑T.fb, .int .i64 ↑T.db, .int .i64 ↑T.al, .slice Ac nc cc, .int .i64 ↑L.length], .blk (na) 58 #[.int .i64 ↑me2, .int .i64 ↑rev2, .int .i64 ↑next2, .int .i64 ↑month2, .int .i64 ↑bought2, .int .i64 free2, .slice A2 l2.length d2], .blk (bi) 42 #[.int .i64 ↑id, .int .i64 ↑te, .int .i64 ↑de, .int .i64 ↑fe, .int .i64 ↑pr, .int .i64 ↑ch, .int .i64 ↑un], .row (base) (44) (2) (.slice A2 l2.length d2) (l2.length) (drs l2), .blk (wk.heap.size) 120 #[.int .i64 0, .int .i64 ↑id, .int .i64 ↑un, .int .i64 0]] = LL := ⟨_, rfl⟩
     rw [hLL] at H
     go_cut [19, 20, 13] (fun p0 p1 p2 wx => ∃ (no2 : Nat) (A4 : Option Addr) (c4 : Nat) (base : Nat), p0 = .pointer (some ⟨no2, 0, none⟩) ∧ p1 = .int .i64 ↑t2 ∧ p2 = .int .i64 0 ∧ Mem (w) [] wx (LL ++ (.blk no2 32 #[.slice A4 lp2.length c4] :: [.row (base) (225) (4) (.slice A4 lp2.length c4) (lp2.length) (prs lp2)])) ∧ Below wd.heap.size wd wx)
     case first =>
       have nz0a : wd.heap.size ≠ w.heap.size + 1 := by have := oolt; omega
       have nz0b : wd.heap.size + 1 ≠ w.heap.size + 1 := by have := oolt; omega
       have nz0c : w.heap.size + 1 ≠ wd.heap.size := by have := oolt; omega
       have nz0d : w.heap.size + 1 ≠ wd.heap.size + 1 := by have := oolt; omega
       have nz1a : wd.heap.size ≠ w.heap.size + 1 + 1 := by have := odlt; omega
       have nz1b : wd.heap.size + 1 ≠ w.heap.size + 1 + 1 := by have := odlt; omega
       have nz1c : w.heap.size + 1 + 1 ≠ wd.heap.size := by have := odlt; omega
       have nz1d : w.heap.size + 1 + 1 ≠ wd.heap.size + 1 := by have := odlt; omega
       have nz2a : wd.heap.size ≠ b := by have := hbl4; omega
       have nz2b : wd.heap.size + 1 ≠ b := by have := hbl4; omega
       have nz2c : b ≠ wd.heap.size := by have := hbl4; omega
       have nz2d : b ≠ wd.heap.size + 1 := by have := hbl4; omega
       have nz0e : wd.heap.size ≠ w.heap.size := by have := oolt; omega
       have nz0f : w.heap.size ≠ wd.heap.size := by have := oolt; omega
       have nz1e : wd.heap.size ≠ w.heap.size + 1 := by have := odlt; omega
       have nz1f : w.heap.size + 1 ≠ wd.heap.size := by have := odlt; omega
       have V0 : Mem wd [] (wd).drew [] := (Mem.init wd).drew
       have B0 := V0.below
       have V1 : Mem wd [] (wd.alloc (.cells #[.slice none 0 0] 32)).drew [.blk (wd.heap.size) 32 #[.slice none 0 0]] := ((Mem.init wd).alloc _ rfl #[.slice none 0 0] 32).drew
       have B1 := V1.below
       have V1b0 := V1.blk 0 rfl
       go_region_held3 (fun w' => w'.cell? ⟨w.heap.size + 1, 0, none⟩ = some (.slice Ao no co) ∧ w'.cell? ⟨w.heap.size + 1 + 1, 0, none⟩ = some (.int .i64 2) ∧ w'.cell? ⟨w.heap.size + 1 + 1, 1, none⟩ = some (.int .i64 ↑me) ∧ w'.cell? ⟨w.heap.size + 1 + 1, 2, none⟩ = some (.int .i64 ↑mo) ∧ w'.cell? ⟨w.heap.size + 1 + 1, 3, none⟩ = some (.int .i64 0) ∧ w'.cell? ⟨w.heap.size + 1 + 1, 4, none⟩ = some (.int .i64 0) ∧ w'.cell? ⟨w.heap.size + 1 + 1, 5, none⟩ = some (.int .i64 0) ∧ w'.cell? ⟨w.heap.size + 1 + 1, 6, none⟩ = some (.int .i64 0) ∧ w'.cell? ⟨w.heap.size + 1 + 1, 7, none⟩ = some (.int .i64 0) ∧ w'.cell? ⟨w.heap.size + 1 + 1, 8, none⟩ = some (.int .i64 0) ∧ w'.cell? ⟨w.heap.size + 1 + 1, 9, none⟩ = some (.int .i64 0) ∧ w'.cell? ⟨w.heap.size + 1 + 1, 10, none⟩ = some (.int .i64 0) ∧ w'.cell? ⟨w.heap.size + 1 + 1, 11, none⟩ = some (.int .i64 0) ∧ w'.cell? ⟨w.heap.size + 1 + 1, 12, none⟩ = some (.int .i64 0) ∧ w'.cell? ⟨w.heap.size + 1 + 1, 13, none⟩ = some (.int .i64 0) ∧ w'.cell? ⟨w.heap.size + 1 + 1, 14, none⟩ = some (.func (.func 57) #[] #[.pointer (some ⟨gt, 0, none⟩), .pointer (some ⟨g1, 0, none⟩), .pointer (some ⟨g2, 0, none⟩)]) ∧ w'.cell? ⟨b, o + 1, none⟩ = some (.int .i64 ↑rev)) (first | with_reducible exact ⟨s0, s1, s2, s3, s4, s5, s6, s7, s8, s9, s10, s11, s12, s13, s14, s15, s16⟩ | go_keep | fail) (first | (go_at_call 71; (with_reducible refine (hI (wd).drew (hpsd.below B0)).mono ?_); rintro e we ⟨A4, c4, rfl, _, hown, hbe⟩; have hV := V0; obtain ⟨bse, hK⟩ : ∃ bse : Nat, Mem (wd).drew [] we [.row (bse) (225) (4) (.slice A4 lp2.length c4) (lp2.length) (prs lp2)] := ⟨_, Mem.row (Mem.init _) hbe hown (Nat.le_refl _)⟩; have hWe : Below wd.heap.size wd we := B0.trans (hbe.mono B0.size); have s0 := (hWe.cell (p := ⟨w.heap.size + 1, 0, none⟩) oolt).trans oo0; have s1 := (hWe.cell (p := ⟨w.heap.size + 1 + 1, 0, none⟩) odlt).trans od0; have s2 := (hWe.cell (p := ⟨w.heap.size + 1 + 1, 1, none⟩) odlt).trans od1; have s3 := (hWe.cell (p := ⟨w.heap.size + 1 + 1, 2, none⟩) odlt).trans od2; have s4 := (hWe.cell (p := ⟨w.heap.size + 1 + 1, 3, none⟩) odlt).trans od3; have s5 := (hWe.cell (p := ⟨w.heap.size + 1 + 1, 4, none⟩) odlt).trans od4; have s6 := (hWe.cell (p := ⟨w.heap.size + 1 + 1, 5, none⟩) odlt).trans od5; have s7 := (hWe.cell (p := ⟨w.heap.size + 1 + 1, 6, none⟩) odlt).trans od6; have s8 := (hWe.cell (p := ⟨w.heap.size + 1 + 1, 7, none⟩) odlt).trans od7; have s9 := (hWe.cell (p := ⟨w.heap.size + 1 + 1, 8, none⟩) odlt).trans od8; have s10 := (hWe.cell (p := ⟨w.heap.size + 1 + 1, 9, none⟩) odlt).trans od9; have s11 := (hWe.cell (p := ⟨w.heap.size + 1 + 1, 10, none⟩) odlt).trans od10; have s12 := (hWe.cell (p := ⟨w.heap.size + 1 + 1, 11, none⟩) odlt).trans od11; have s13 := (hWe.cell (p := ⟨w.heap.size + 1 + 1, 12, none⟩) odlt).trans od12; have s14 := (hWe.cell (p := ⟨w.heap.size + 1 + 1, 13, none⟩) odlt).trans od13; have s15 := (hWe.cell (p := ⟨w.heap.size + 1 + 1, 14, none⟩) odlt).trans od14; have s16 := (hWe.cell (p := ⟨b, o + 1, none⟩) hbl4).trans q1d; have sz := hWe.size; have ez0c : we.heap.size ≠ w.heap.size := (by have := oolt; omega); have ez0a : we.heap.size ≠ w.heap.size + 1 := (by have := oolt; omega); have ez0b : we.heap.size + 1 ≠ w.heap.size + 1 := (by have := oolt; omega); have ez1c : we.heap.size ≠ w.heap.size + 1 := (by have := odlt; omega); have ez1a : we.heap.size ≠ w.heap.size + 1 + 1 := (by have := odlt; omega); have ez1b : we.heap.size + 1 ≠ w.heap.size + 1 + 1 := (by have := odlt; omega); have ez2a : we.heap.size ≠ b := (by have := hbl4; omega); have ez2b : we.heap.size + 1 ≠ b := (by have := hbl4; omega)) | (go_at_call 71; (with_reducible refine (hI (wd.alloc (.cells #[.slice none 0 0] 32)).drew (hpsd.below B1)).mono ?_); rintro e we ⟨A4, c4, rfl, _, hown, hbe⟩; have hV := V1; obtain ⟨bse, hK⟩ : ∃ bse : Nat, Mem (wd.alloc (.cells #[.slice none 0 0] 32)).drew [] we [.row (bse) (225) (4) (.slice A4 lp2.length c4) (lp2.length) (prs lp2)] := ⟨_, Mem.row (Mem.init _) hbe hown (Nat.le_refl _)⟩; have hWe : Below wd.heap.size wd we := B1.trans (hbe.mono B1.size); have s0 := (hWe.cell (p := ⟨w.heap.size + 1, 0, none⟩) oolt).trans oo0; have s1 := (hWe.cell (p := ⟨w.heap.size + 1 + 1, 0, none⟩) odlt).trans od0; have s2 := (hWe.cell (p := ⟨w.heap.size + 1 + 1, 1, none⟩) odlt).trans od1; have s3 := (hWe.cell (p := ⟨w.heap.size + 1 + 1, 2, none⟩) odlt).trans od2; have s4 := (hWe.cell (p := ⟨w.heap.size + 1 + 1, 3, none⟩) odlt).trans od3; have s5 := (hWe.cell (p := ⟨w.heap.size + 1 + 1, 4, none⟩) odlt).trans od4; have s6 := (hWe.cell (p := ⟨w.heap.size + 1 + 1, 5, none⟩) odlt).trans od5; have s7 := (hWe.cell (p := ⟨w.heap.size + 1 + 1, 6, none⟩) odlt).trans od6; have s8 := (hWe.cell (p := ⟨w.heap.size + 1 + 1, 7, none⟩) odlt).trans od7; have s9 := (hWe.cell (p := ⟨w.heap.size + 1 + 1, 8, none⟩) odlt).trans od8; have s10 := (hWe.cell (p := ⟨w.heap.size + 1 + 1, 9, none⟩) odlt).trans od9; have s11 := (hWe.cell (p := ⟨w.heap.size + 1 + 1, 10, none⟩) odlt).trans od10; have s12 := (hWe.cell (p := ⟨w.heap.size + 1 + 1, 11, none⟩) odlt).trans od11; have s13 := (hWe.cell (p := ⟨w.heap.size + 1 + 1, 12, none⟩) odlt).trans od12; have s14 := (hWe.cell (p := ⟨w.heap.size + 1 + 1, 13, none⟩) odlt).trans od13; have s15 := (hWe.cell (p := ⟨w.heap.size + 1 + 1, 14, none⟩) odlt).trans od14; have s16 := (hWe.cell (p := ⟨b, o + 1, none⟩) hbl4).trans q1d; have sz := hWe.size; have ez0c : we.heap.size ≠ w.heap.size := (by have := oolt; omega); have ez0a : we.heap.size ≠ w.heap.size + 1 := (by have := oolt; omega); have ez0b : we.heap.size + 1 ≠ w.heap.size + 1 := (by have := oolt; omega); have ez1c : we.heap.size ≠ w.heap.size + 1 := (by have := odlt; omega); have ez1a : we.heap.size ≠ w.heap.size + 1 + 1 := (by have := odlt; omega); have ez1b : we.heap.size + 1 ≠ w.heap.size + 1 + 1 := (by have := odlt; omega); have ez2a : we.heap.size ≠ b := (by have := hbl4; omega); have ez2b : we.heap.size + 1 ≠ b := (by have := hbl4; omega); have zb0 := Blk.below V1b0 hbe V1b0.lt; have zb0_0 := zb0.cell 0; have zb0f0 := zb0.frozen 0; have zb0lt : wd.heap.size < we.heap.size := zb0.lt))
       all_goals
         go_wp2_with fail
         go_meet
         refine ⟨_, A4, c4, bse, rfl, rfl, rfl, ?_⟩
         first
         | with_reducible exact ⟨cr1_a H hV hK, (cr1_a (Mem.init wd) hV hK).below⟩
         | (have h := cr1_b (c := #[.slice A4 lp2.length c4]) H hV hK [(0, .slice A4 lp2.length c4)] (by simp only [List.foldl_cons, List.foldl_nil, List.setIfInBounds_toArray, List.set_cons_zero])
            have h2 := (cr1_b (c := #[.slice A4 lp2.length c4]) (Mem.init wd) hV hK [(0, .slice A4 lp2.length c4)] (by simp only [List.foldl_cons, List.foldl_nil, List.setIfInBounds_toArray, List.set_cons_zero])).below
            simp only [sets, List.foldl_cons, List.foldl_nil] at h h2
            with_reducible exact ⟨h, h2⟩)
     case rest =>
       obtain ⟨no2, A4, c4, base2, rfl, rfl, rfl, H, hCR2⟩ := hcut
       subst hLL
       replace H : Mem (w) [] (wc) [.blk (w.heap.size) 28 #[.slice At nt ct, .int .i64 ↑T.fx, .int .i64 ↑T.fb, .int .i64 ↑T.db, .int .i64 ↑T.al], .blk (w.heap.size + 1) 32 #[.slice Ao no co], .blk (w.heap.size + 1 + 1) 153 #[.int .i64 2, .int .i64 ↑me, .int .i64 ↑mo, .int .i64 0, .int .i64 0, .int .i64 0, .int .i64 0, .int .i64 0, .int .i64 0, .int .i64 0, .int .i64 0, .int .i64 0, .int .i64 0, .int .i64 0, .func (.func 57) #[] #[.pointer (some ⟨gt, 0, none⟩), .pointer (some ⟨g1, 0, none⟩), .pointer (some ⟨g2, 0, none⟩)]], .blk (w.heap.size + 1 + 1 + 1) 146 #[.slice none 0 0, .slice none 0 0, .int .i64 0, .int .i64 0, .int .i64 0, .int .i64 0, .int .i64 0, .int .i64 0, .int .i64 0, .int .i64 0, .string ⟨#[]⟩], .blk (g) 103 #[.slice (some ⟨b, off, none⟩) nb cb, .slice At nt ct, .int .i64 ↑T.fx, .int .i64 ↑T.fb, .int .i64 ↑T.db, .int .i64 ↑T.al, .slice Ac nc cc, .int .i64 ↑L.length], .blk (na) 58 #[.int .i64 ↑me2, .int .i64 ↑rev2, .int .i64 ↑next2, .int .i64 ↑month2, .int .i64 ↑bought2, .int .i64 free2, .slice A2 l2.length d2], .blk (bi) 42 #[.int .i64 ↑id, .int .i64 ↑te, .int .i64 ↑de, .int .i64 ↑fe, .int .i64 ↑pr, .int .i64 ↑ch, .int .i64 ↑un], .row (base) (44) (2) (.slice A2 l2.length d2) (l2.length) (drs l2), .blk (wk.heap.size) 120 #[.int .i64 0, .int .i64 ↑id, .int .i64 ↑un, .int .i64 0], .blk (no2) 32 #[.slice A4 lp2.length c4], .row (base2) (225) (4) (.slice A4 lp2.length c4) (lp2.length) (prs lp2)] := H
       have hc5 := hc4.below hCR2
       clear hI hpsd hc4 q1d hbl4 hCR2
       clear oolt oo0 oof0 odlt od0 odf0 od1 odf1 od2 odf2 od3 odf3 od4 odf4 od5 odf5 od6 odf6 od7 odf7 od8 odf8 od9 odf9 od10 odf10 od11 odf11 od12 odf12 od13 odf13 od14 odf14 ne_oo_od ne_od_oo
       obtain ⟨odlt, od0, odf0, od1, odf1, od2, odf2, od3, odf3, od4, odf4, od5, odf5, od6, odf6, od7, odf7, od8, odf8, od9, odf9, od10, odf10, od11, odf11, od12, odf12, od13, odf13, od14, odf14⟩ := H.c15 2 rfl
       obtain ⟨bilt, bi0, bif0, bi1, bif1, bi2, bif2, bi3, bif3, bi4, bif4, bi5, bif5, bi6, bif6⟩ := H.c7 6 rfl
       obtain ⟨tklt, tk0, tkf0, tk1, tkf1, tk2, tkf2, tk3, tkf3⟩ := H.c4 8 rfl
       have ne_od_bi := H.ne 2 6 rfl rfl (by decide)
       have ne_od_tk := H.ne 2 8 rfl rfl (by decide)
       have ne_bi_od := H.ne 6 2 rfl rfl (by decide)
       have ne_bi_tk := H.ne 6 8 rfl rfl (by decide)
       have ne_tk_od := H.ne 8 2 rfl rfl (by decide)
       have ne_tk_bi := H.ne 8 6 rfl rfl (by decide)
       go_wp2_with fail
       obtain ⟨Wd, hWd⟩ : ∃ Wd, (((((((((wc).setCell ⟨wk.heap.size, 3, none⟩ (.int .i64 ↑t2)).setCell ⟨w.heap.size + 1 + 1, 3, none⟩ (.int .i64 ↑id)).setCell ⟨w.heap.size + 1 + 1, 4, none⟩ (.int .i64 ↑te)).setCell ⟨w.heap.size + 1 + 1, 5, none⟩ (.int .i64 ↑de)).setCell ⟨w.heap.size + 1 + 1, 6, none⟩ (.int .i64 ↑fe)).setCell ⟨w.heap.size + 1 + 1, 7, none⟩ (.int .i64 ↑pr)).setCell ⟨w.heap.size + 1 + 1, 8, none⟩ (.int .i64 ↑ch)).setCell ⟨w.heap.size + 1 + 1, 9, none⟩ (.int .i64 ↑un)).setCell ⟨w.heap.size + 1 + 1, 10, none⟩ (.int .i64 ↑t2) = Wd := ⟨_, rfl⟩
       replace H := Mem.set 8 H rfl (3) (.int .i64 ↑t2)
       replace H := Mem.set 2 H rfl (3) (.int .i64 ↑id)
       replace H := Mem.set 2 H rfl (4) (.int .i64 ↑te)
       replace H := Mem.set 2 H rfl (5) (.int .i64 ↑de)
       replace H := Mem.set 2 H rfl (6) (.int .i64 ↑fe)
       replace H := Mem.set 2 H rfl (7) (.int .i64 ↑pr)
       replace H := Mem.set 2 H rfl (8) (.int .i64 ↑ch)
       replace H := Mem.set 2 H rfl (9) (.int .i64 ↑un)
       replace H := Mem.set 2 H rfl (10) (.int .i64 ↑t2)
       simp only [List.set_cons_zero, List.set_cons_succ, List.setIfInBounds_toArray] at H
       rw [hWd] at H ⊢
       clear hWd
       refine (hKv g _ _ _ _ _ _ _ (H.blk 4 rfl) (hc.below H.below)).mono ?_
       rintro e wf ⟨A5, c5, rfl, hp2, hown, hbf⟩
       replace H : Mem (w) [] (wf) [.blk (w.heap.size) 28 #[.slice At nt ct, .int .i64 ↑T.fx, .int .i64 ↑T.fb, .int .i64 ↑T.db, .int .i64 ↑T.al], .blk (w.heap.size + 1) 32 #[.slice Ao no co], .blk (w.heap.size + 1 + 1) 153 #[.int .i64 2, .int .i64 ↑me, .int .i64 ↑mo, .int .i64 ↑id, .int .i64 ↑te, .int .i64 ↑de, .int .i64 ↑fe, .int .i64 ↑pr, .int .i64 ↑ch, .int .i64 ↑un, .int .i64 ↑t2, .int .i64 0, .int .i64 0, .int .i64 0, .func (.func 57) #[] #[.pointer (some ⟨gt, 0, none⟩), .pointer (some ⟨g1, 0, none⟩), .pointer (some ⟨g2, 0, none⟩)]], .blk (w.heap.size + 1 + 1 + 1) 146 #[.slice none 0 0, .slice none 0 0, .int .i64 0, .int .i64 0, .int .i64 0, .int .i64 0, .int .i64 0, .int .i64 0, .int .i64 0, .int .i64 0, .string ⟨#[]⟩], .blk (g) 103 #[.slice (some ⟨b, off, none⟩) nb cb, .slice At nt ct, .int .i64 ↑T.fx, .int .i64 ↑T.fb, .int .i64 ↑T.db, .int .i64 ↑T.al, .slice Ac nc cc, .int .i64 ↑L.length], .blk (na) 58 #[.int .i64 ↑me2, .int .i64 ↑rev2, .int .i64 ↑next2, .int .i64 ↑month2, .int .i64 ↑bought2, .int .i64 free2, .slice A2 l2.length d2], .blk (bi) 42 #[.int .i64 ↑id, .int .i64 ↑te, .int .i64 ↑de, .int .i64 ↑fe, .int .i64 ↑pr, .int .i64 ↑ch, .int .i64 ↑un], .row (base) (44) (2) (.slice A2 l2.length d2) (l2.length) (drs l2), .blk (wk.heap.size) 120 #[.int .i64 0, .int .i64 ↑id, .int .i64 ↑un, .int .i64 ↑t2], .blk (no2) 32 #[.slice A4 lp2.length c4], .row (base2) (225) (4) (.slice A4 lp2.length c4) (lp2.length) (prs lp2), .row (Wd.heap.size) (113) (2) (.slice A5 wl.length c5) (wl.length) (wrs wl)] := Mem.row H hbf hown (Nat.le_refl _)
       clear hKv hc5 hp2 hown hbf
       clear odlt od0 odf0 od1 odf1 od2 odf2 od3 odf3 od4 odf4 od5 odf5 od6 odf6 od7 odf7 od8 odf8 od9 odf9 od10 odf10 od11 odf11 od12 odf12 od13 odf13 od14 odf14 bilt bi0 bif0 bi1 bif1 bi2 bif2 bi3 bif3 bi4 bif4 bi5 bif5 bi6 bif6 tklt tk0 tkf0 tk1 tkf1 tk2 tkf2 tk3 tkf3 ne_od_bi ne_od_tk ne_bi_od ne_bi_tk ne_tk_od ne_tk_bi
       obtain ⟨tklt, tk0, tkf0, tk1, tkf1, tk2, tkf2, tk3, tkf3⟩ := H.c4 8 rfl
       go_wp2_with fail
       refine (hFm _).mono ?_
       rintro e wg ⟨rfl, hbg⟩
       replace H := Mem.call H hbg
       clear hFm hbg
       clear tklt tk0 tkf0 tk1 tkf1 tk2 tkf2 tk3 tkf3
       obtain ⟨odlt, od0, odf0, od1, odf1, od2, odf2, od3, odf3, od4, odf4, od5, odf5, od6, odf6, od7, odf7, od8, odf8, od9, odf9, od10, odf10, od11, odf11, od12, odf12, od13, odf13, od14, odf14⟩ := H.c15 2 rfl
       obtain ⟨bilt, bi0, bif0, bi1, bif1, bi2, bif2, bi3, bif3, bi4, bif4, bi5, bif5, bi6, bif6⟩ := H.c7 6 rfl
       obtain ⟨no2lt, no20, no2f0⟩ := H.c1 9 rfl
       obtain ⟨rslt, rs0, rsf0, rs1, rsf1, rs2, rsf2, rs3, rsf3, rs4, rsf4, rs5, rsf5, rs6, rsf6, rs7, rsf7, rs8, rsf8, rs9, rsf9, rs10, rsf10⟩ := H.c11 3 rfl
       have ne_od_bi := H.ne 2 6 rfl rfl (by decide)
       have ne_od_no2 := H.ne 2 9 rfl rfl (by decide)
       have ne_od_rs := H.ne 2 3 rfl rfl (by decide)
       have ne_bi_od := H.ne 6 2 rfl rfl (by decide)
       have ne_bi_no2 := H.ne 6 9 rfl rfl (by decide)
       have ne_bi_rs := H.ne 6 3 rfl rfl (by decide)
       have ne_no2_od := H.ne 9 2 rfl rfl (by decide)
       have ne_no2_bi := H.ne 9 6 rfl rfl (by decide)
       have ne_no2_rs := H.ne 9 3 rfl rfl (by decide)
       have ne_rs_od := H.ne 3 2 rfl rfl (by decide)
       have ne_rs_bi := H.ne 3 6 rfl rfl (by decide)
       have ne_rs_no2 := H.ne 3 9 rfl rfl (by decide)
       go_wp2
       obtain ⟨wz, hwz⟩ : ∃ wz, (((((((((((wg).setCell ⟨w.heap.size + 1 + 1 + 1, 0, none⟩ (.slice A5 wl.length c5)).setCell ⟨w.heap.size + 1 + 1 + 1, 1, none⟩ (.slice A4 lp2.length c4)).setCell ⟨w.heap.size + 1 + 1 + 1, 2, none⟩ (.int .i64 ↑me)).setCell ⟨w.heap.size + 1 + 1 + 1, 3, none⟩ (.int .i64 ↑id)).setCell ⟨w.heap.size + 1 + 1 + 1, 4, none⟩ (.int .i64 ↑te)).setCell ⟨w.heap.size + 1 + 1 + 1, 5, none⟩ (.int .i64 ↑de)).setCell ⟨w.heap.size + 1 + 1 + 1, 6, none⟩ (.int .i64 ↑fe)).setCell ⟨w.heap.size + 1 + 1 + 1, 7, none⟩ (.int .i64 ↑pr)).setCell ⟨w.heap.size + 1 + 1 + 1, 8, none⟩ (.int .i64 ↑ch)).setCell ⟨w.heap.size + 1 + 1 + 1, 9, none⟩ (.int .i64 ↑un)).setCell ⟨w.heap.size + 1 + 1 + 1, 10, none⟩ (.string dg) = wz := ⟨_, rfl⟩
       replace H := Mem.set 3 H rfl (0) (.slice A5 wl.length c5)
       replace H := Mem.set 3 H rfl (1) (.slice A4 lp2.length c4)
       replace H := Mem.set 3 H rfl (2) (.int .i64 ↑me)
       replace H := Mem.set 3 H rfl (3) (.int .i64 ↑id)
       replace H := Mem.set 3 H rfl (4) (.int .i64 ↑te)
       replace H := Mem.set 3 H rfl (5) (.int .i64 ↑de)
       replace H := Mem.set 3 H rfl (6) (.int .i64 ↑fe)
       replace H := Mem.set 3 H rfl (7) (.int .i64 ↑pr)
       replace H := Mem.set 3 H rfl (8) (.int .i64 ↑ch)
       replace H := Mem.set 3 H rfl (9) (.int .i64 ↑un)
       replace H := Mem.set 3 H rfl (10) (.string dg)
       simp only [List.set_cons_zero, List.set_cons_succ, List.setIfInBounds_toArray] at H
       rw [hwz] at H ⊢
       clear hwz
       clear odlt od0 odf0 od1 odf1 od2 odf2 od3 odf3 od4 odf4 od5 odf5 od6 odf6 od7 odf7 od8 odf8 od9 odf9 od10 odf10 od11 odf11 od12 odf12 od13 odf13 od14 odf14 bilt bi0 bif0 bi1 bif1 bi2 bif2 bi3 bif3 bi4 bif4 bi5 bif5 bi6 bif6 no2lt no20 no2f0 rslt rs0 rsf0 rs1 rsf1 rs2 rsf2 rs3 rsf3 rs4 rsf4 rs5 rsf5 rs6 rsf6 rs7 rsf7 rs8 rsf8 rs9 rsf9 rs10 rsf10 ne_od_bi ne_od_no2 ne_od_rs ne_bi_od ne_bi_no2 ne_bi_rs ne_no2_od ne_no2_bi ne_no2_rs ne_rs_od ne_rs_bi ne_rs_no2
       obtain ⟨rslt, rs0, rsf0, rs1, rsf1, rs2, rsf2, rs3, rsf3, rs4, rsf4, rs5, rsf5, rs6, rsf6, rs7, rsf7, rs8, rsf8, rs9, rsf9, rs10, rsf10⟩ := H.c11 3 rfl
       refine bodyPost_ret (v := .tuple #[.agg #[.slice A5 wl.length c5, .slice A4 lp2.length c4, .int .i64 ↑me, .int .i64 ↑id, .int .i64 ↑te, .int .i64 ↑de, .int .i64 ↑fe, .int .i64 ↑pr, .int .i64 ↑ch, .int .i64 ↑un, .string dg], .int .i64 0]) (by simp [results, Tryz.results53, go_sem, rs0, rs1, rs2, rs3, rs4, rs5, rs6, rs7, rs8, rs9, rs10]; done) rfl ?_
       obtain ⟨ht65, hl2, ht2, hO2, hwl, hbody⟩ := HF.out
       refine .inl ⟨rfl, t2, lp2, A4, c4, A5, c5, ht65, by rw [hbody]; exact hl2, by rw [hbody]; exact ht2, hO2, by rw [hwl, hdg], H.ownb 10 rfl, by rw [hwl]; exact H.ownb 11 rfl, H.below⟩
end Go.Proofs.YtpcgpnkmjjamhaaGreat
namespace Go.Proofs.YtpcgpnkmjjamhaaGreat
open Go.RowKit
set_option linter.unusedVariables false
set_option maxRecDepth 100000 in
set_option maxHeartbeats 4000000 in
theorem vserve2_ok (T : Tm) (hT : T.Ok) (At : Option Addr) (nt ct : Nat) (cv : Value) (c : List Nat) (L : List Ev) (B : List Cu) (me i te mo d : Nat) (Ao : Option Addr) (no co : Nat) (lp : List Pr) (w : World)
   (hvt : IsDs w (.slice At nt ct) T.tl) (hc : IsWs w cv c) (hS : Srv T c L B) (hme : me ≤ 49) (hp : place B me = some i) (hL : L.length < 120) (hf : (L.length + 1) * 14 ≤ c.length) (hps : IsPs w (.slice Ao no co) lp) (hlp : OOk lp) (h5 : lp.length < 500) (hd : d ≤ 65535) (ht1 : 1 ≤ te) (ht9 : te ≤ 100000000) (hmo : mo ≤ 2399) :
   Calls Tryz.prog 33 #[.agg #[.slice At nt ct, .int .i64 ↑T.fx, .int .i64 ↑T.fb, .int .i64 ↑T.db, .int .i64 ↑T.al], cv, .agg #[.slice Ao no co], .int .i64 ↑me, .int .i64 ↑te, .int .i64 ↑mo, .int .i64 ↑d] w (RetServe (svP (sellP T (B.getD i cu0).a te mo) 2 me mo 0 (B.getD i cu0).a.rev d lp c.length L.length) w) := by
 obtain ⟨hi, hime⟩ := place_some hp
 have hBk := runE_bok hT L [] B 0 (bok_nil T) (by omega) hS.ok hS.run
 have hgd : B.getD i cu0 = B[i] := by simp [hi]
 have hao : (B.getD i cu0).a.Ok ∧ (B.getD i cu0).a.next = (B.getD i cu0).s.length + 1 := by rw [hgd]; exact hBk.h1 B[i] (List.getElem_mem hi)
 have hsl : (B.getD i cu0).s.length ≤ 1000 := by rw [hgd]; have := hBk.sold (List.getElem_mem hi); omega
 have hnx : (B.getD i cu0).a.next ≤ 1048575 := by omega
 obtain ⟨r, hr⟩ : ∃ r, sellP T (B.getD i cu0).a te mo = r := ⟨_, rfl⟩
 rw [hr]
 obtain ⟨Ac, nc, cc, rfl⟩ : ∃ Ac nc cc, cv = .slice Ac nc cc := by obtain ⟨X, y, h, _⟩ := hc; exact ⟨X, _, y, h⟩
 have H := Mem.init w
 obtain ⟨W0, hW0⟩ : ∃ W0, ((((((w).alloc (.cells #[.slice At nt ct, .int .i64 ↑T.fx, .int .i64 ↑T.fb, .int .i64 ↑T.db, .int .i64 ↑T.al] 28)).alloc (.cells #[.slice Ao no co] 32)).alloc (.cells #[.int .i64 ↑te] 3)).alloc (.cells #[.int .i64 ↑mo] 3)).alloc (.cells #[.slice none 0 0] 32)).alloc (.cells #[.int .i64 0, .int .i64 0, .int .i64 0, .int .i64 0, .int .i64 0, .int .i64 0, .int .i64 0, .int .i64 0, .string ⟨#[]⟩] 72) = W0 := ⟨_, rfl⟩
 replace H := Mem.alloc H (w.heap.size) (by first | (simp; done) | (simp; omega)) #[.slice At nt ct, .int .i64 ↑T.fx, .int .i64 ↑T.fb, .int .i64 ↑T.db, .int .i64 ↑T.al] 28
 replace H := Mem.alloc H (w.heap.size + 1) (by first | (simp; done) | (simp; omega)) #[.slice Ao no co] 32
 replace H := Mem.alloc H (w.heap.size + 1 + 1) (by first | (simp; done) | (simp; omega)) #[.int .i64 ↑te] 3
 replace H := Mem.alloc H (w.heap.size + 1 + 1 + 1) (by first | (simp; done) | (simp; omega)) #[.int .i64 ↑mo] 3
 replace H := Mem.alloc H (w.heap.size + 1 + 1 + 1 + 1) (by first | (simp; done) | (simp; omega)) #[.slice none 0 0] 32
 replace H := Mem.alloc H (w.heap.size + 1 + 1 + 1 + 1 + 1) (by first | (simp; done) | (simp; omega)) #[.int .i64 0, .int .i64 0, .int .i64 0, .int .i64 0, .int .i64 0, .int .i64 0, .int .i64 0, .int .i64 0, .string ⟨#[]⟩] 72
 simp only [List.nil_append, List.cons_append] at H
 rw [hW0] at H
 have hvt0 := hvt.below H.below
 have hc0 := hc.below H.below
 have hps0 := hps.below H.below
 obtain ⟨ttlt, tt0, ttf0, tt1, ttf1, tt2, ttf2, tt3, ttf3, tt4, ttf4⟩ := H.c5 0 rfl
 obtain ⟨oolt, oo0, oof0⟩ := H.c1 1 rfl
 obtain ⟨btelt, bte0, btef0⟩ := H.c1 2 rfl
 obtain ⟨bmolt, bmo0, bmof0⟩ := H.c1 3 rfl
 have ne_tt_oo := H.ne 0 1 rfl rfl (by decide)
 have ne_tt_bte := H.ne 0 2 rfl rfl (by decide)
 have ne_tt_bmo := H.ne 0 3 rfl rfl (by decide)
 have ne_oo_tt := H.ne 1 0 rfl rfl (by decide)
 have ne_oo_bte := H.ne 1 2 rfl rfl (by decide)
 have ne_oo_bmo := H.ne 1 3 rfl rfl (by decide)
 have ne_bte_tt := H.ne 2 0 rfl rfl (by decide)
 have ne_bte_oo := H.ne 2 1 rfl rfl (by decide)
 have ne_bte_bmo := H.ne 2 3 rfl rfl (by decide)
 have ne_bmo_tt := H.ne 3 0 rfl rfl (by decide)
 have ne_bmo_oo := H.ne 3 1 rfl rfl (by decide)
 have ne_bmo_bte := H.ne 3 2 rfl rfl (by decide)
 have hz : r.1 = 0 → TkOk 0 r.2.2.id r.2.2.un 0 ∧ ∀ t, t ≤ 65535 → (Ev.mk 2 me mo r.2.2.id r.2.2.te r.2.2.de r.2.2.fe r.2.2.pr r.2.2.ch r.2.2.un t 0 0).ok := by
   intro h0
   have h : sellP T (B.getD i cu0).a te mo = (0, r.2.1, r.2.2) := by rw [hr, ← h0]
   exact sell_ev hT hao.1 hnx hmo hme ht1 ht9 h
 have hWk : ∀ (W : World) (Ad : Option Addr) (cd : Nat), Below W0.heap.size W0 W → IsDs W (.slice Ad (B.getD i cu0).a.l.length cd) (B.getD i cu0).a.l → Calls Tryz.prog 57 #[.agg #[.int .i64 ((B.getD i cu0).a.me : Int), .int .i64 ((B.getD i cu0).a.rev : Int), .int .i64 ((B.getD i cu0).a.next : Int), .int .i64 ((B.getD i cu0).a.month : Int), .int .i64 ((B.getD i cu0).a.bought : Int), .int .i64 (B.getD i cu0).a.free, .slice Ad (B.getD i cu0).a.l.length cd], .pointer (some ⟨w.heap.size, 0, none⟩), .pointer (some ⟨w.heap.size + 1 + 1, 0, none⟩), .pointer (some ⟨w.heap.size + 1 + 1 + 1, 0, none⟩)] W (RetDI r.1 r.2.1.me r.2.1.rev r.2.1.next r.2.1.month r.2.1.bought r.2.1.free r.2.1.l r.2.2.id r.2.2.te r.2.2.de r.2.2.fe r.2.2.pr r.2.2.ch r.2.2.un W) := by
   intro W Ad cd hbW h2
   exact vsellw_ok w.heap.size (w.heap.size + 1 + 1) (w.heap.size + 1 + 1 + 1) (B.getD i cu0).a.me (B.getD i cu0).a.rev (B.getD i cu0).a.next (B.getD i cu0).a.month (B.getD i cu0).a.bought (B.getD i cu0).a.free Ad (B.getD i cu0).a.l.length cd (B.getD i cu0).a.l At nt ct T.fx T.fb T.db T.al T.tl te mo r.1 r.2.1.me r.2.1.rev r.2.1.next r.2.1.month r.2.1.bought r.2.1.free r.2.1.l r.2.2.id r.2.2.te r.2.2.de r.2.2.fe r.2.2.pr r.2.2.ch r.2.2.un W h2 hao.1.h2 hao.1.h1 (hvt0.below hbW) hT.h1 hT.h2 ht1 ht9 hmo hnx (Lib.hid hr) ((hbW.cell (p := ⟨w.heap.size, 0, none⟩) (Nat.lt_of_lt_of_le ttlt (Nat.le_refl _))).trans tt0) ((hbW.cell (p := ⟨w.heap.size, 1, none⟩) (Nat.lt_of_lt_of_le ttlt (Nat.le_refl _))).trans tt1) ((hbW.cell (p := ⟨w.heap.size, 2, none⟩) (Nat.lt_of_lt_of_le ttlt (Nat.le_refl _))).trans tt2) ((hbW.cell (p := ⟨w.heap.size, 3, none⟩) (Nat.lt_of_lt_of_le ttlt (Nat.le_refl _))).trans tt3) ((hbW.cell (p := ⟨w.heap.size, 4, none⟩) (Nat.lt_of_lt_of_le ttlt (Nat.le_refl _))).trans tt4) ((hbW.cell (p := ⟨w.heap.size + 1 + 1, 0, none⟩) (Nat.lt_of_lt_of_le btelt (Nat.le_refl _))).trans bte0) ((hbW.cell (p := ⟨w.heap.size + 1 + 1 + 1, 0, none⟩) (Nat.lt_of_lt_of_le bmolt (Nat.le_refl _))).trans bmo0)
 have hSl := vsell2_ok T hT At nt ct (.slice Ac nc cc) c L B me i mo d Ao no co lp w.heap.size (w.heap.size + 1 + 1) (w.heap.size + 1 + 1 + 1) r.1 r.2.1.me r.2.1.rev r.2.1.next r.2.1.month r.2.1.bought r.2.1.free r.2.1.l r.2.2.id r.2.2.te r.2.2.de r.2.2.fe r.2.2.pr r.2.2.ch r.2.2.un W0 hvt0 hc0 hS hme hp hL hf hps0 hlp h5 hd hWk hz
 replace hSl := hSl.mono fun e w' h => retsv_of (r := r) (cls := 0) (am := r.2.2.un) (fun _ => by unfold amP; simp) h
 obtain ⟨v, hv⟩ : ∃ v, svP r 2 me mo 0 (B.getD i cu0).a.rev d lp c.length L.length = v := ⟨_, rfl⟩
 rw [hv] at hSl ⊢
 unfold RetSv at hSl
 obtain ⟨wl, lq, vme, ⟨id, te', de, fe, pr, ch, un⟩, s, E⟩ := v
 dsimp only at hSl
 unfold RetServe
 dsimp only
 clear hWk hz hr hv hvt hc hps hS hf
 go_enter Tryz.func33, Tryz.ntmps33
 go_wp2_with fail
 refine hSl.mono ?_
 rintro e w1 ⟨A3, c3, A2, c2, rfl, ho1, ho2, hb1⟩
 replace H := Mem.call H hb1
 have hsz : W0.heap.size = w.heap.size + 1 + 1 + 1 + 1 + 1 + 1 := by rw [← hW0]; simp
 clear hSl hW0 hvt0 hc0 hps0 hb1
 clear ttlt tt0 ttf0 tt1 ttf1 tt2 ttf2 tt3 ttf3 tt4 ttf4 oolt oo0 oof0 btelt bte0 btef0 bmolt bmo0 bmof0 ne_tt_oo ne_tt_bte ne_tt_bmo ne_oo_tt ne_oo_bte ne_oo_bmo ne_bte_tt ne_bte_oo ne_bte_bmo ne_bmo_tt ne_bmo_oo ne_bmo_bte
 go_wp2
 obtain ⟨w2, hw2⟩ : ∃ w2, (w1).alloc (.cells #[.slice A3 wl.length c3, .slice A2 lq.length c2, .int .i64 ↑vme, .int .i64 ↑id, .int .i64 (te' : Int), .int .i64 ↑de, .int .i64 ↑fe, .int .i64 ↑pr, .int .i64 ↑ch, .int .i64 ↑un, .string s] 146) = w2 := ⟨_, rfl⟩
 replace H := Mem.alloc H (w1.heap.size) (by first | (simp; done) | (simp; omega)) #[.slice A3 wl.length c3, .slice A2 lq.length c2, .int .i64 ↑vme, .int .i64 ↑id, .int .i64 (te' : Int), .int .i64 ↑de, .int .i64 ↑fe, .int .i64 ↑pr, .int .i64 ↑ch, .int .i64 ↑un, .string s] 146
 simp only [List.cons_append, List.nil_append] at H
 rw [hw2] at H ⊢
 have hq1 := own_kept ho1 (World.grownBy_alloc w1 (.cells #[.slice A3 wl.length c3, .slice A2 lq.length c2, .int .i64 ↑vme, .int .i64 ↑id, .int .i64 (te' : Int), .int .i64 ↑de, .int .i64 ↑fe, .int .i64 ↑pr, .int .i64 ↑ch, .int .i64 ↑un, .string s] 146) none) (by simp)
 have hq2 := own_kept ho2 (World.grownBy_alloc w1 (.cells #[.slice A3 wl.length c3, .slice A2 lq.length c2, .int .i64 ↑vme, .int .i64 ↑id, .int .i64 (te' : Int), .int .i64 ↑de, .int .i64 ↑fe, .int .i64 ↑pr, .int .i64 ↑ch, .int .i64 ↑un, .string s] 146) none) (by simp)
 rw [hw2] at hq1 hq2
 clear hw2 ho1 ho2
 obtain ⟨svlt, sv0, svf0, sv1, svf1, sv2, svf2, sv3, svf3, sv4, svf4, sv5, svf5, sv6, svf6, sv7, svf7, sv8, svf8, sv9, svf9, sv10, svf10⟩ := H.c11 6 rfl
 obtain ⟨rolt, ro0, rof0⟩ := H.c1 4 rfl
 obtain ⟨rrlt, rr0, rrf0, rr1, rrf1, rr2, rrf2, rr3, rrf3, rr4, rrf4, rr5, rrf5, rr6, rrf6, rr7, rrf7, rr8, rrf8⟩ := H.c9 5 rfl
 have ne_sv_ro := H.ne 6 4 rfl rfl (by decide)
 have ne_sv_rr := H.ne 6 5 rfl rfl (by decide)
 have ne_ro_sv := H.ne 4 6 rfl rfl (by decide)
 have ne_ro_rr := H.ne 4 5 rfl rfl (by decide)
 have ne_rr_sv := H.ne 5 6 rfl rfl (by decide)
 have ne_rr_ro := H.ne 5 4 rfl rfl (by decide)
 go_region
 go_wp2
 clear svlt sv0 svf0 sv1 svf1 sv2 svf2 sv3 svf3 sv4 svf4 sv5 svf5 sv6 svf6 sv7 svf7 sv8 svf8 sv9 svf9 sv10 svf10 rolt ro0 rof0 rrlt rr0 rrf0 rr1 rrf1 rr2 rrf2 rr3 rrf3 rr4 rrf4 rr5 rrf5 rr6 rrf6 rr7 rrf7 rr8 rrf8 ne_sv_ro ne_sv_rr ne_ro_sv ne_ro_rr ne_rr_sv ne_rr_ro
 obtain ⟨w3, hw3⟩ : ∃ w3, (((((((((((w2).setCell ⟨w.heap.size + 1 + 1 + 1 + 1, 0, none⟩ (.slice A2 lq.length c2)).setCell ⟨w.heap.size + 1 + 1 + 1 + 1 + 1, 0, none⟩ (.int .i64 ↑vme)).setCell ⟨w.heap.size + 1 + 1 + 1 + 1 + 1, 1, none⟩ (.int .i64 ↑id)).setCell ⟨w.heap.size + 1 + 1 + 1 + 1 + 1, 2, none⟩ (.int .i64 (te' : Int))).setCell ⟨w.heap.size + 1 + 1 + 1 + 1 + 1, 3, none⟩ (.int .i64 ↑de)).setCell ⟨w.heap.size + 1 + 1 + 1 + 1 + 1, 4, none⟩ (.int .i64 ↑fe)).setCell ⟨w.heap.size + 1 + 1 + 1 + 1 + 1, 5, none⟩ (.int .i64 ↑pr)).setCell ⟨w.heap.size + 1 + 1 + 1 + 1 + 1, 6, none⟩ (.int .i64 ↑ch)).setCell ⟨w.heap.size + 1 + 1 + 1 + 1 + 1, 7, none⟩ (.int .i64 ↑un)).setCell ⟨w.heap.size + 1 + 1 + 1 + 1 + 1, 8, none⟩ (.string s)).drew = w3 := ⟨_, rfl⟩
 replace H := Mem.set 4 H rfl (0) (.slice A2 lq.length c2)
 replace H := Mem.set 5 H rfl (0) (.int .i64 ↑vme)
 replace H := Mem.set 5 H rfl (1) (.int .i64 ↑id)
 replace H := Mem.set 5 H rfl (2) (.int .i64 (te' : Int))
 replace H := Mem.set 5 H rfl (3) (.int .i64 ↑de)
 replace H := Mem.set 5 H rfl (4) (.int .i64 ↑fe)
 replace H := Mem.set 5 H rfl (5) (.int .i64 ↑pr)
 replace H := Mem.set 5 H rfl (6) (.int .i64 ↑ch)
 replace H := Mem.set 5 H rfl (7) (.int .i64 ↑un)
 replace H := Mem.set 5 H rfl (8) (.string s)
 simp only [List.set_cons_zero, List.set_cons_succ, List.setIfInBounds_toArray] at H
 replace H := H.drew
 rw [hw3] at H ⊢
 have hz1 := own_drewK ((own_set (k := w.heap.size + 1 + 1 + 1 + 1 + 1) (o := 8) (x := .string s) (own_set (k := w.heap.size + 1 + 1 + 1 + 1 + 1) (o := 7) (x := .int .i64 ↑un) (own_set (k := w.heap.size + 1 + 1 + 1 + 1 + 1) (o := 6) (x := .int .i64 ↑ch) (own_set (k := w.heap.size + 1 + 1 + 1 + 1 + 1) (o := 5) (x := .int .i64 ↑pr) (own_set (k := w.heap.size + 1 + 1 + 1 + 1 + 1) (o := 4) (x := .int .i64 ↑fe) (own_set (k := w.heap.size + 1 + 1 + 1 + 1 + 1) (o := 3) (x := .int .i64 ↑de) (own_set (k := w.heap.size + 1 + 1 + 1 + 1 + 1) (o := 2) (x := .int .i64 (te' : Int)) (own_set (k := w.heap.size + 1 + 1 + 1 + 1 + 1) (o := 1) (x := .int .i64 ↑id) (own_set (k := w.heap.size + 1 + 1 + 1 + 1 + 1) (o := 0) (x := .int .i64 ↑vme) (own_set (k := w.heap.size + 1 + 1 + 1 + 1) (o := 0) (x := .slice A2 lq.length c2) hq1 (by omega)) (by omega)) (by omega)) (by omega)) (by omega)) (by omega)) (by omega)) (by omega)) (by omega)) (by omega)))
 have hz2 := own_drewK ((own_set (k := w.heap.size + 1 + 1 + 1 + 1 + 1) (o := 8) (x := .string s) (own_set (k := w.heap.size + 1 + 1 + 1 + 1 + 1) (o := 7) (x := .int .i64 ↑un) (own_set (k := w.heap.size + 1 + 1 + 1 + 1 + 1) (o := 6) (x := .int .i64 ↑ch) (own_set (k := w.heap.size + 1 + 1 + 1 + 1 + 1) (o := 5) (x := .int .i64 ↑pr) (own_set (k := w.heap.size + 1 + 1 + 1 + 1 + 1) (o := 4) (x := .int .i64 ↑fe) (own_set (k := w.heap.size + 1 + 1 + 1 + 1 + 1) (o := 3) (x := .int .i64 ↑de) (own_set (k := w.heap.size + 1 + 1 + 1 + 1 + 1) (o := 2) (x := .int .i64 (te' : Int)) (own_set (k := w.heap.size + 1 + 1 + 1 + 1 + 1) (o := 1) (x := .int .i64 ↑id) (own_set (k := w.heap.size + 1 + 1 + 1 + 1 + 1) (o := 0) (x := .int .i64 ↑vme) (own_set (k := w.heap.size + 1 + 1 + 1 + 1) (o := 0) (x := .slice A2 lq.length c2) hq2 (by omega)) (by omega)) (by omega)) (by omega)) (by omega)) (by omega)) (by omega)) (by omega)) (by omega)) (by omega)))
 rw [hw3] at hz1 hz2
 clear hw3 hq1 hq2
 obtain ⟨rolt, ro0, rof0⟩ := H.c1 4 rfl
 obtain ⟨rrlt, rr0, rrf0, rr1, rrf1, rr2, rrf2, rr3, rrf3, rr4, rrf4, rr5, rrf5, rr6, rrf6, rr7, rrf7, rr8, rrf8⟩ := H.c9 5 rfl
 have ne_ro_rr := H.ne 4 5 rfl rfl (by decide)
 have ne_rr_ro := H.ne 5 4 rfl rfl (by decide)
 refine bodyPost_ret (v := .tuple #[.slice A3 wl.length c3, .agg #[.slice A2 lq.length c2], .agg #[.int .i64 ↑vme, .int .i64 ↑id, .int .i64 (te' : Int), .int .i64 ↑de, .int .i64 ↑fe, .int .i64 ↑pr, .int .i64 ↑ch, .int .i64 ↑un, .string s], .int .i64 ↑E]) (by simp [results, Tryz.results33, go_sem, ro0, rr0, rr1, rr2, rr3, rr4, rr5, rr6, rr7, rr8]; done) rfl ?_
 exact ⟨A3, c3, A2, c2, rfl, own_mono hz1 (by omega), own_mono hz2 (by omega), H.below⟩
end Go.Proofs.YtpcgpnkmjjamhaaGreat
namespace Go.Proofs.YtpcgpnkmjjamhaaGreat
open Go.RowKit
set_option linter.unusedVariables false
set_option maxRecDepth 100000 in
set_option maxHeartbeats 8000000 in
theorem served2_ok (T : Tm) (hT : T.Ok) (At : Option Addr) (nt ct : Nat) (cv : Value) (c : List Nat) (L : List Ev) (B : List Cu) (me i te mo d : Nat) (Ao : Option Addr) (no co : Nat) (lp : List Pr) (xk xm xa xb xd q : Int) (w : World)
   (wfk : (Lit.int .i64 xk).wf = true) (wfm : (Lit.int .i64 xm).wf = true) (wfa : (Lit.int .i64 xa).wf = true) (wfb : (Lit.int .i64 xb).wf = true) (wfd : (Lit.int .i64 xd).wf = true) (hk : Hid (pk xk 8 = q)) (hq : 3 ≤ q) (hM : Hid (pk xm 3 = (me : Int))) (hme : me ≤ 2) (hD : Hid (pk xd 65536 = (d : Int))) (hd : d ≤ 65535) (hA : Hid (1 + pk xa 1000000 = (te : Int))) (hte : 1 ≤ te ∧ te ≤ 1000000) (hB : Hid (pk xb 12 = (mo : Int))) (hmo : mo ≤ 11)
   (hvt : IsDs w (.slice At nt ct) T.tl) (hc : IsWs w cv c) (hS : Srv T c L B) (hp : place B me = some i) (hL : L.length < 120) (hf : (L.length + 1) * 14 ≤ c.length) (hps : IsPs w (.slice Ao no co) lp) (hlp : OOk lp) (h5 : lp.length < 500) :
   Calls Tryz.prog 16 #[.agg #[.slice At nt ct, .int .i64 ↑T.fx, .int .i64 ↑T.fb, .int .i64 ↑T.db, .int .i64 ↑T.al, cv, .slice Ao no co], .agg #[.int .i64 xk, .int .i64 xm, .int .i64 xa, .int .i64 xb, .int .i64 xd]] w (RetServe (svP (sellP T (B.getD i cu0).a te mo) 2 me mo 0 (B.getD i cu0).a.rev d lp c.length L.length) w) := by
 obtain ⟨Ac, nc, cc, rfl⟩ : ∃ Ac nc cc, cv = .slice Ac nc cc := by obtain ⟨X, y, h, _⟩ := hc; exact ⟨X, _, y, h⟩
 have hV := fun W h1 h2 h3 => vserve2_ok T hT At nt ct (.slice Ac nc cc) c L B me i te mo d Ao no co lp W h1 h2 hS (by omega) hp hL hf h3 hlp h5 (by omega) hte.1 (by omega) (by omega)
 obtain ⟨v, hv⟩ : ∃ v, svP (sellP T (B.getD i cu0).a te mo) 2 me mo 0 (B.getD i cu0).a.rev d lp c.length L.length = v := ⟨_, rfl⟩
 rw [hv] at hV ⊢
 obtain ⟨wl, lq, vme, ⟨id, te', de, fe, pr, ch, un⟩, s, E⟩ := v
 unfold RetServe at hV
 unfold RetServe
 dsimp only at hV
 dsimp only
 have q0 : (q == 0) = false := by simp; omega
 have q1 : (q == 1) = false := by simp; omega
 have q2 : (q == 2) = false := by simp; omega
 have q0n : ¬ q = 0 := by omega
 have q1n : ¬ q = 1 := by omega
 have q2n : ¬ q = 2 := by omega
 obtain ⟨ta, hA1⟩ : ∃ ta, Hid (pk xa 1000000 = ta) := ⟨_, rfl⟩
 have hta : 1 + ta = (te : Int) := by rw [← hA.out, hA1.out]
 have hwr : IntKind.i64.wrap (te : Int) = (te : Int) := IntWalk.i64_in _ (by omega)
 clear hv hS hp hL hf hlp h5
 have H := Mem.init w
 obtain ⟨W0, hW0⟩ : ∃ W0, ((((w).alloc (.cells #[.slice At nt ct, .int .i64 ↑T.fx, .int .i64 ↑T.fb, .int .i64 ↑T.db, .int .i64 ↑T.al, .slice Ac nc cc, .slice Ao no co] 34)).alloc (.cells #[.int .i64 xk, .int .i64 xm, .int .i64 xa, .int .i64 xb, .int .i64 xd] 69)).alloc (.cells #[.slice none 0 0] 32)).alloc (.cells #[.int .i64 0, .int .i64 0, .int .i64 0, .int .i64 0, .int .i64 0, .int .i64 0, .int .i64 0, .int .i64 0, .string ⟨#[]⟩] 72) = W0 := ⟨_, rfl⟩
 replace H := Mem.alloc H (w.heap.size) (by first | (simp; done) | (simp; omega)) #[.slice At nt ct, .int .i64 ↑T.fx, .int .i64 ↑T.fb, .int .i64 ↑T.db, .int .i64 ↑T.al, .slice Ac nc cc, .slice Ao no co] 34
 replace H := Mem.alloc H (w.heap.size + 1) (by first | (simp; done) | (simp; omega)) #[.int .i64 xk, .int .i64 xm, .int .i64 xa, .int .i64 xb, .int .i64 xd] 69
 replace H := Mem.alloc H (w.heap.size + 1 + 1) (by first | (simp; done) | (simp; omega)) #[.slice none 0 0] 32
 replace H := Mem.alloc H (w.heap.size + 1 + 1 + 1) (by first | (simp; done) | (simp; omega)) #[.int .i64 0, .int .i64 0, .int .i64 0, .int .i64 0, .int .i64 0, .int .i64 0, .int .i64 0, .int .i64 0, .string ⟨#[]⟩] 72
 simp only [List.nil_append, List.cons_append] at H
 rw [hW0] at H
 have hvt0 := hvt.below H.below
 have hc0 := hc.below H.below
 have hps0 := hps.below H.below
 clear hvt hc hps
 obtain ⟨shlt, sh0, shf0, sh1, shf1, sh2, shf2, sh3, shf3, sh4, shf4, sh5, shf5, sh6, shf6⟩ := H.c7 0 rfl
 obtain ⟨odlt, od0, odf0, od1, odf1, od2, odf2, od3, odf3, od4, odf4⟩ := H.c5 1 rfl
 have ne_sh_od := H.ne 0 1 rfl rfl (by decide)
 have ne_od_sh := H.ne 1 0 rfl rfl (by decide)
 go_enter Tryz.func16, Tryz.ntmps16
 go_upto_region 13 with (first | (go_at_call 11; (with_reducible refine (picked_is _ hM wfm (by omega) (by omega)).mono ?_); rintro e w' ⟨rfl, rfl⟩) | (go_at_call 11; (with_reducible refine (picked_is _ hD wfd (by omega) (by omega)).mono ?_); rintro e w' ⟨rfl, rfl⟩) | (go_at_call 11; (with_reducible refine (picked_is _ hk wfk (by omega) (by omega)).mono ?_); rintro e w' ⟨rfl, rfl⟩))
 clear hW0
 obtain ⟨LL, hLL⟩ : ∃ LL : List Chunk, [.blk (w.heap.size) 34 #[.slice At nt ct, .int .i64 ↑T.fx, .int .i64 ↑T.fb, .int .i64 ↑T.db, .int .i64 ↑T.al, .slice Ac nc cc, .slice Ao no co], .blk (w.heap.size + 1) 69 #[.int .i64 xk, .int .i64 xm, .int .i64 xa, .int .i64 xb, .int .i64 xd], .blk (w.heap.size + 1 + 1) 32 #[.slice none 0 0], .blk (w.heap.size + 1 + 1 + 1) 72 #[.int .i64 0, .int .i64 0, .int .i64 0, .int .i64 0, .int .i64 0, .int .i64 0, .int .i64 0, .int .i64 0, .string ⟨#[]⟩]] = LL := ⟨_, rfl⟩
 rw [hLL] at H
 go_cut [21, 22, 20, 23] (fun p0 p1 p2 p3 wx => ∃ (ob rb : Nat) (A3 : Option Addr) (c3 : Nat) (A2 : Option Addr) (c2 : Nat) (base : Nat), p0 = .pointer (some ⟨ob, 0, none⟩) ∧ p1 = .pointer (some ⟨rb, 0, none⟩) ∧ p2 = .slice A3 wl.length c3 ∧ p3 = .int .i64 ↑E ∧ Mem (w) [] wx (LL ++ (.blk ob 32 #[.slice A2 lq.length c2] :: .blk rb 72 #[.int .i64 ↑vme, .int .i64 ↑id, .int .i64 (te' : Int), .int .i64 ↑de, .int .i64 ↑fe, .int .i64 ↑pr, .int .i64 ↑ch, .int .i64 ↑un, .string s] :: [.row (base) (225) (4) (.slice A2 lq.length c2) (lq.length) (prs lq), .row (base) (113) (2) (.slice A3 wl.length c3) (wl.length) (wrs wl)])) ∧ Below W0.heap.size W0 wx)
 case first =>
   have nz0a : W0.heap.size ≠ w.heap.size := by have := shlt; omega
   have nz0b : W0.heap.size + 1 ≠ w.heap.size := by have := shlt; omega
   have nz0c : w.heap.size ≠ W0.heap.size := by have := shlt; omega
   have nz0d : w.heap.size ≠ W0.heap.size + 1 := by have := shlt; omega
   have nz1a : W0.heap.size ≠ w.heap.size + 1 := by have := odlt; omega
   have nz1b : W0.heap.size + 1 ≠ w.heap.size + 1 := by have := odlt; omega
   have nz1c : w.heap.size + 1 ≠ W0.heap.size := by have := odlt; omega
   have nz1d : w.heap.size + 1 ≠ W0.heap.size + 1 := by have := odlt; omega
   have nz1e : W0.heap.size ≠ w.heap.size := by have := odlt; omega
   have nz1f : w.heap.size ≠ W0.heap.size := by have := odlt; omega
   have V0 : Mem W0 [] (W0).drew [] := (Mem.init W0).drew
   have B0 := V0.below
   have V1 : Mem W0 [] (W0.alloc (.cells #[.slice none 0 0] 32)).drew [.blk (W0.heap.size) 32 #[.slice none 0 0]] := ((Mem.init W0).alloc _ rfl #[.slice none 0 0] 32).drew
   have B1 := V1.below
   have V1b0 := V1.blk 0 rfl
   have V2 : Mem W0 [] (W0.alloc (.cells #[.int .i64 0, .int .i64 0, .int .i64 0, .int .i64 0, .int .i64 0, .int .i64 0, .int .i64 0, .int .i64 0, .string ⟨#[]⟩] 72)).drew [.blk (W0.heap.size) 72 #[.int .i64 0, .int .i64 0, .int .i64 0, .int .i64 0, .int .i64 0, .int .i64 0, .int .i64 0, .int .i64 0, .string ⟨#[]⟩]] := ((Mem.init W0).alloc _ rfl #[.int .i64 0, .int .i64 0, .int .i64 0, .int .i64 0, .int .i64 0, .int .i64 0, .int .i64 0, .int .i64 0, .string ⟨#[]⟩] 72).drew
   have B2 := V2.below
   have V2b1 := V2.blk 0 rfl
   have V3 : Mem W0 [] ((W0.alloc (.cells #[.slice none 0 0] 32)).alloc (.cells #[.int .i64 0, .int .i64 0, .int .i64 0, .int .i64 0, .int .i64 0, .int .i64 0, .int .i64 0, .int .i64 0, .string ⟨#[]⟩] 72)).drew [.blk (W0.heap.size) 32 #[.slice none 0 0], .blk (W0.heap.size + 1) 72 #[.int .i64 0, .int .i64 0, .int .i64 0, .int .i64 0, .int .i64 0, .int .i64 0, .int .i64 0, .int .i64 0, .string ⟨#[]⟩]] := (((Mem.init W0).alloc _ rfl #[.slice none 0 0] 32).alloc (W0.heap.size + 1) (by simp) #[.int .i64 0, .int .i64 0, .int .i64 0, .int .i64 0, .int .i64 0, .int .i64 0, .int .i64 0, .int .i64 0, .string ⟨#[]⟩] 72).drew
   have B3 := V3.below
   have V3b0 := V3.blk 0 rfl
   have V3b1 := V3.blk 1 rfl
   have V4 : Mem W0 [] ((W0.alloc (.cells #[.int .i64 0, .int .i64 0, .int .i64 0, .int .i64 0, .int .i64 0, .int .i64 0, .int .i64 0, .int .i64 0, .string ⟨#[]⟩] 72)).alloc (.cells #[.slice none 0 0] 32)).drew [.blk (W0.heap.size + 1) 32 #[.slice none 0 0], .blk (W0.heap.size) 72 #[.int .i64 0, .int .i64 0, .int .i64 0, .int .i64 0, .int .i64 0, .int .i64 0, .int .i64 0, .int .i64 0, .string ⟨#[]⟩]] := Mem.perm (List.Perm.swap _ _ _) (((Mem.init W0).alloc _ rfl #[.int .i64 0, .int .i64 0, .int .i64 0, .int .i64 0, .int .i64 0, .int .i64 0, .int .i64 0, .int .i64 0, .string ⟨#[]⟩] 72).alloc (W0.heap.size + 1) (by simp) #[.slice none 0 0] 32).drew
   have B4 := V4.below
   have V4b0 := V4.blk 0 rfl
   have V4b1 := V4.blk 1 rfl
   go_region_held3 (fun w' => w'.cell? ⟨w.heap.size, 0, none⟩ = some (.slice At nt ct) ∧ w'.cell? ⟨w.heap.size, 1, none⟩ = some (.int .i64 ↑T.fx) ∧ w'.cell? ⟨w.heap.size, 2, none⟩ = some (.int .i64 ↑T.fb) ∧ w'.cell? ⟨w.heap.size, 3, none⟩ = some (.int .i64 ↑T.db) ∧ w'.cell? ⟨w.heap.size, 4, none⟩ = some (.int .i64 ↑T.al) ∧ w'.cell? ⟨w.heap.size, 5, none⟩ = some (.slice Ac nc cc) ∧ w'.cell? ⟨w.heap.size, 6, none⟩ = some (.slice Ao no co) ∧ w'.cell? ⟨w.heap.size + 1, 0, none⟩ = some (.int .i64 xk) ∧ w'.cell? ⟨w.heap.size + 1, 1, none⟩ = some (.int .i64 xm) ∧ w'.cell? ⟨w.heap.size + 1, 2, none⟩ = some (.int .i64 xa) ∧ w'.cell? ⟨w.heap.size + 1, 3, none⟩ = some (.int .i64 xb) ∧ w'.cell? ⟨w.heap.size + 1, 4, none⟩ = some (.int .i64 xd)) (first | with_reducible exact ⟨s0, s1, s2, s3, s4, s5, s6, s7, s8, s9, s10, s11⟩ | go_keep | fail) (first | (go_at_call 11; (with_reducible refine (picked_is _ hA1 wfa (by omega) (by omega)).mono ?_); rintro e w' ⟨rfl, rfl⟩) | (go_at_call 11; (with_reducible refine (picked_is _ hB wfb (by omega) (by omega)).mono ?_); rintro e w' ⟨rfl, rfl⟩) | (go_at_call 33; (with_reducible refine (hV (W0).drew (hvt0.below B0) (hc0.below B0) (hps0.below B0)).mono ?_); rintro e we ⟨A3, c3, A2, c2, rfl, ho1, ho2, hbe⟩; have hV := V0; obtain ⟨bse, hK⟩ : ∃ bse : Nat, Mem (W0).drew [] we [.row (bse) (225) (4) (.slice A2 lq.length c2) (lq.length) (prs lq), .row (bse) (113) (2) (.slice A3 wl.length c3) (wl.length) (wrs wl)] := ⟨_, Mem.row2 (Mem.init _) hbe ho1 ho2 (by decide)⟩; have hWe : Below W0.heap.size W0 we := B0.trans (hbe.mono B0.size); have s0 := (hWe.cell (p := ⟨w.heap.size, 0, none⟩) shlt).trans sh0; have s1 := (hWe.cell (p := ⟨w.heap.size, 1, none⟩) shlt).trans sh1; have s2 := (hWe.cell (p := ⟨w.heap.size, 2, none⟩) shlt).trans sh2; have s3 := (hWe.cell (p := ⟨w.heap.size, 3, none⟩) shlt).trans sh3; have s4 := (hWe.cell (p := ⟨w.heap.size, 4, none⟩) shlt).trans sh4; have s5 := (hWe.cell (p := ⟨w.heap.size, 5, none⟩) shlt).trans sh5; have s6 := (hWe.cell (p := ⟨w.heap.size, 6, none⟩) shlt).trans sh6; have s7 := (hWe.cell (p := ⟨w.heap.size + 1, 0, none⟩) odlt).trans od0; have s8 := (hWe.cell (p := ⟨w.heap.size + 1, 1, none⟩) odlt).trans od1; have s9 := (hWe.cell (p := ⟨w.heap.size + 1, 2, none⟩) odlt).trans od2; have s10 := (hWe.cell (p := ⟨w.heap.size + 1, 3, none⟩) odlt).trans od3; have s11 := (hWe.cell (p := ⟨w.heap.size + 1, 4, none⟩) odlt).trans od4; have sz := hWe.size; have ez0a : we.heap.size ≠ w.heap.size := (by have := shlt; omega); have ez0b : we.heap.size + 1 ≠ w.heap.size := (by have := shlt; omega); have ez1c : we.heap.size ≠ w.heap.size := (by have := odlt; omega); have ez1a : we.heap.size ≠ w.heap.size + 1 := (by have := odlt; omega); have ez1b : we.heap.size + 1 ≠ w.heap.size + 1 := (by have := odlt; omega)) | (go_at_call 33; (with_reducible refine (hV (W0.alloc (.cells #[.slice none 0 0] 32)).drew (hvt0.below B1) (hc0.below B1) (hps0.below B1)).mono ?_); rintro e we ⟨A3, c3, A2, c2, rfl, ho1, ho2, hbe⟩; have hV := V1; obtain ⟨bse, hK⟩ : ∃ bse : Nat, Mem (W0.alloc (.cells #[.slice none 0 0] 32)).drew [] we [.row (bse) (225) (4) (.slice A2 lq.length c2) (lq.length) (prs lq), .row (bse) (113) (2) (.slice A3 wl.length c3) (wl.length) (wrs wl)] := ⟨_, Mem.row2 (Mem.init _) hbe ho1 ho2 (by decide)⟩; have hWe : Below W0.heap.size W0 we := B1.trans (hbe.mono B1.size); have s0 := (hWe.cell (p := ⟨w.heap.size, 0, none⟩) shlt).trans sh0; have s1 := (hWe.cell (p := ⟨w.heap.size, 1, none⟩) shlt).trans sh1; have s2 := (hWe.cell (p := ⟨w.heap.size, 2, none⟩) shlt).trans sh2; have s3 := (hWe.cell (p := ⟨w.heap.size, 3, none⟩) shlt).trans sh3; have s4 := (hWe.cell (p := ⟨w.heap.size, 4, none⟩) shlt).trans sh4; have s5 := (hWe.cell (p := ⟨w.heap.size, 5, none⟩) shlt).trans sh5; have s6 := (hWe.cell (p := ⟨w.heap.size, 6, none⟩) shlt).trans sh6; have s7 := (hWe.cell (p := ⟨w.heap.size + 1, 0, none⟩) odlt).trans od0; have s8 := (hWe.cell (p := ⟨w.heap.size + 1, 1, none⟩) odlt).trans od1; have s9 := (hWe.cell (p := ⟨w.heap.size + 1, 2, none⟩) odlt).trans od2; have s10 := (hWe.cell (p := ⟨w.heap.size + 1, 3, none⟩) odlt).trans od3; have s11 := (hWe.cell (p := ⟨w.heap.size + 1, 4, none⟩) odlt).trans od4; have sz := hWe.size; have ez0a : we.heap.size ≠ w.heap.size := (by have := shlt; omega); have ez0b : we.heap.size + 1 ≠ w.heap.size := (by have := shlt; omega); have ez1c : we.heap.size ≠ w.heap.size := (by have := odlt; omega); have ez1a : we.heap.size ≠ w.heap.size + 1 := (by have := odlt; omega); have ez1b : we.heap.size + 1 ≠ w.heap.size + 1 := (by have := odlt; omega); have zb0 := Blk.below V1b0 hbe V1b0.lt; have zb0_0 := zb0.cell 0; have zb0f0 := zb0.frozen 0; have zb0lt : W0.heap.size < we.heap.size := zb0.lt) | (go_at_call 33; (with_reducible refine (hV (W0.alloc (.cells #[.int .i64 0, .int .i64 0, .int .i64 0, .int .i64 0, .int .i64 0, .int .i64 0, .int .i64 0, .int .i64 0, .string ⟨#[]⟩] 72)).drew (hvt0.below B2) (hc0.below B2) (hps0.below B2)).mono ?_); rintro e we ⟨A3, c3, A2, c2, rfl, ho1, ho2, hbe⟩; have hV := V2; obtain ⟨bse, hK⟩ : ∃ bse : Nat, Mem (W0.alloc (.cells #[.int .i64 0, .int .i64 0, .int .i64 0, .int .i64 0, .int .i64 0, .int .i64 0, .int .i64 0, .int .i64 0, .string ⟨#[]⟩] 72)).drew [] we [.row (bse) (225) (4) (.slice A2 lq.length c2) (lq.length) (prs lq), .row (bse) (113) (2) (.slice A3 wl.length c3) (wl.length) (wrs wl)] := ⟨_, Mem.row2 (Mem.init _) hbe ho1 ho2 (by decide)⟩; have hWe : Below W0.heap.size W0 we := B2.trans (hbe.mono B2.size); have s0 := (hWe.cell (p := ⟨w.heap.size, 0, none⟩) shlt).trans sh0; have s1 := (hWe.cell (p := ⟨w.heap.size, 1, none⟩) shlt).trans sh1; have s2 := (hWe.cell (p := ⟨w.heap.size, 2, none⟩) shlt).trans sh2; have s3 := (hWe.cell (p := ⟨w.heap.size, 3, none⟩) shlt).trans sh3; have s4 := (hWe.cell (p := ⟨w.heap.size, 4, none⟩) shlt).trans sh4; have s5 := (hWe.cell (p := ⟨w.heap.size, 5, none⟩) shlt).trans sh5; have s6 := (hWe.cell (p := ⟨w.heap.size, 6, none⟩) shlt).trans sh6; have s7 := (hWe.cell (p := ⟨w.heap.size + 1, 0, none⟩) odlt).trans od0; have s8 := (hWe.cell (p := ⟨w.heap.size + 1, 1, none⟩) odlt).trans od1; have s9 := (hWe.cell (p := ⟨w.heap.size + 1, 2, none⟩) odlt).trans od2; have s10 := (hWe.cell (p := ⟨w.heap.size + 1, 3, none⟩) odlt).trans od3; have s11 := (hWe.cell (p := ⟨w.heap.size + 1, 4, none⟩) odlt).trans od4; have sz := hWe.size; have ez0a : we.heap.size ≠ w.heap.size := (by have := shlt; omega); have ez0b : we.heap.size + 1 ≠ w.heap.size := (by have := shlt; omega); have ez1c : we.heap.size ≠ w.heap.size := (by have := odlt; omega); have ez1a : we.heap.size ≠ w.heap.size + 1 := (by have := odlt; omega); have ez1b : we.heap.size + 1 ≠ w.heap.size + 1 := (by have := odlt; omega); have zb1 := Blk.below V2b1 hbe V2b1.lt; have zb1_0 := zb1.cell 0; have zb1f0 := zb1.frozen 0; have zb1_1 := zb1.cell 1; have zb1f1 := zb1.frozen 1; have zb1_2 := zb1.cell 2; have zb1f2 := zb1.frozen 2; have zb1_3 := zb1.cell 3; have zb1f3 := zb1.frozen 3; have zb1_4 := zb1.cell 4; have zb1f4 := zb1.frozen 4; have zb1_5 := zb1.cell 5; have zb1f5 := zb1.frozen 5; have zb1_6 := zb1.cell 6; have zb1f6 := zb1.frozen 6; have zb1_7 := zb1.cell 7; have zb1f7 := zb1.frozen 7; have zb1_8 := zb1.cell 8; have zb1f8 := zb1.frozen 8; have zb1lt : W0.heap.size < we.heap.size := zb1.lt) | (go_at_call 33; (with_reducible refine (hV ((W0.alloc (.cells #[.slice none 0 0] 32)).alloc (.cells #[.int .i64 0, .int .i64 0, .int .i64 0, .int .i64 0, .int .i64 0, .int .i64 0, .int .i64 0, .int .i64 0, .string ⟨#[]⟩] 72)).drew (hvt0.below B3) (hc0.below B3) (hps0.below B3)).mono ?_); rintro e we ⟨A3, c3, A2, c2, rfl, ho1, ho2, hbe⟩; have hV := V3; obtain ⟨bse, hK⟩ : ∃ bse : Nat, Mem ((W0.alloc (.cells #[.slice none 0 0] 32)).alloc (.cells #[.int .i64 0, .int .i64 0, .int .i64 0, .int .i64 0, .int .i64 0, .int .i64 0, .int .i64 0, .int .i64 0, .string ⟨#[]⟩] 72)).drew [] we [.row (bse) (225) (4) (.slice A2 lq.length c2) (lq.length) (prs lq), .row (bse) (113) (2) (.slice A3 wl.length c3) (wl.length) (wrs wl)] := ⟨_, Mem.row2 (Mem.init _) hbe ho1 ho2 (by decide)⟩; have hWe : Below W0.heap.size W0 we := B3.trans (hbe.mono B3.size); have s0 := (hWe.cell (p := ⟨w.heap.size, 0, none⟩) shlt).trans sh0; have s1 := (hWe.cell (p := ⟨w.heap.size, 1, none⟩) shlt).trans sh1; have s2 := (hWe.cell (p := ⟨w.heap.size, 2, none⟩) shlt).trans sh2; have s3 := (hWe.cell (p := ⟨w.heap.size, 3, none⟩) shlt).trans sh3; have s4 := (hWe.cell (p := ⟨w.heap.size, 4, none⟩) shlt).trans sh4; have s5 := (hWe.cell (p := ⟨w.heap.size, 5, none⟩) shlt).trans sh5; have s6 := (hWe.cell (p := ⟨w.heap.size, 6, none⟩) shlt).trans sh6; have s7 := (hWe.cell (p := ⟨w.heap.size + 1, 0, none⟩) odlt).trans od0; have s8 := (hWe.cell (p := ⟨w.heap.size + 1, 1, none⟩) odlt).trans od1; have s9 := (hWe.cell (p := ⟨w.heap.size + 1, 2, none⟩) odlt).trans od2; have s10 := (hWe.cell (p := ⟨w.heap.size + 1, 3, none⟩) odlt).trans od3; have s11 := (hWe.cell (p := ⟨w.heap.size + 1, 4, none⟩) odlt).trans od4; have sz := hWe.size; have ez0a : we.heap.size ≠ w.heap.size := (by have := shlt; omega); have ez0b : we.heap.size + 1 ≠ w.heap.size := (by have := shlt; omega); have ez1c : we.heap.size ≠ w.heap.size := (by have := odlt; omega); have ez1a : we.heap.size ≠ w.heap.size + 1 := (by have := odlt; omega); have ez1b : we.heap.size + 1 ≠ w.heap.size + 1 := (by have := odlt; omega); have zb0 := Blk.below V3b0 hbe V3b0.lt; have zb0_0 := zb0.cell 0; have zb0f0 := zb0.frozen 0; have zb0lt : W0.heap.size < we.heap.size := zb0.lt; have zb1 := Blk.below V3b1 hbe V3b1.lt; have zb1_0 := zb1.cell 0; have zb1f0 := zb1.frozen 0; have zb1_1 := zb1.cell 1; have zb1f1 := zb1.frozen 1; have zb1_2 := zb1.cell 2; have zb1f2 := zb1.frozen 2; have zb1_3 := zb1.cell 3; have zb1f3 := zb1.frozen 3; have zb1_4 := zb1.cell 4; have zb1f4 := zb1.frozen 4; have zb1_5 := zb1.cell 5; have zb1f5 := zb1.frozen 5; have zb1_6 := zb1.cell 6; have zb1f6 := zb1.frozen 6; have zb1_7 := zb1.cell 7; have zb1f7 := zb1.frozen 7; have zb1_8 := zb1.cell 8; have zb1f8 := zb1.frozen 8; have zb1lt : W0.heap.size + 1 < we.heap.size := zb1.lt; have zn1 : W0.heap.size ≠ W0.heap.size + 1 := (by omega); have zn2 : W0.heap.size + 1 ≠ W0.heap.size := (by omega)) | (go_at_call 33; (with_reducible refine (hV ((W0.alloc (.cells #[.int .i64 0, .int .i64 0, .int .i64 0, .int .i64 0, .int .i64 0, .int .i64 0, .int .i64 0, .int .i64 0, .string ⟨#[]⟩] 72)).alloc (.cells #[.slice none 0 0] 32)).drew (hvt0.below B4) (hc0.below B4) (hps0.below B4)).mono ?_); rintro e we ⟨A3, c3, A2, c2, rfl, ho1, ho2, hbe⟩; have hV := V4; obtain ⟨bse, hK⟩ : ∃ bse : Nat, Mem ((W0.alloc (.cells #[.int .i64 0, .int .i64 0, .int .i64 0, .int .i64 0, .int .i64 0, .int .i64 0, .int .i64 0, .int .i64 0, .string ⟨#[]⟩] 72)).alloc (.cells #[.slice none 0 0] 32)).drew [] we [.row (bse) (225) (4) (.slice A2 lq.length c2) (lq.length) (prs lq), .row (bse) (113) (2) (.slice A3 wl.length c3) (wl.length) (wrs wl)] := ⟨_, Mem.row2 (Mem.init _) hbe ho1 ho2 (by decide)⟩; have hWe : Below W0.heap.size W0 we := B4.trans (hbe.mono B4.size); have s0 := (hWe.cell (p := ⟨w.heap.size, 0, none⟩) shlt).trans sh0; have s1 := (hWe.cell (p := ⟨w.heap.size, 1, none⟩) shlt).trans sh1; have s2 := (hWe.cell (p := ⟨w.heap.size, 2, none⟩) shlt).trans sh2; have s3 := (hWe.cell (p := ⟨w.heap.size, 3, none⟩) shlt).trans sh3; have s4 := (hWe.cell (p := ⟨w.heap.size, 4, none⟩) shlt).trans sh4; have s5 := (hWe.cell (p := ⟨w.heap.size, 5, none⟩) shlt).trans sh5; have s6 := (hWe.cell (p := ⟨w.heap.size, 6, none⟩) shlt).trans sh6; have s7 := (hWe.cell (p := ⟨w.heap.size + 1, 0, none⟩) odlt).trans od0; have s8 := (hWe.cell (p := ⟨w.heap.size + 1, 1, none⟩) odlt).trans od1; have s9 := (hWe.cell (p := ⟨w.heap.size + 1, 2, none⟩) odlt).trans od2; have s10 := (hWe.cell (p := ⟨w.heap.size + 1, 3, none⟩) odlt).trans od3; have s11 := (hWe.cell (p := ⟨w.heap.size + 1, 4, none⟩) odlt).trans od4; have sz := hWe.size; have ez0a : we.heap.size ≠ w.heap.size := (by have := shlt; omega); have ez0b : we.heap.size + 1 ≠ w.heap.size := (by have := shlt; omega); have ez1c : we.heap.size ≠ w.heap.size := (by have := odlt; omega); have ez1a : we.heap.size ≠ w.heap.size + 1 := (by have := odlt; omega); have ez1b : we.heap.size + 1 ≠ w.heap.size + 1 := (by have := odlt; omega); have zb0 := Blk.below V4b0 hbe V4b0.lt; have zb0_0 := zb0.cell 0; have zb0f0 := zb0.frozen 0; have zb0lt : W0.heap.size + 1 < we.heap.size := zb0.lt; have zb1 := Blk.below V4b1 hbe V4b1.lt; have zb1_0 := zb1.cell 0; have zb1f0 := zb1.frozen 0; have zb1_1 := zb1.cell 1; have zb1f1 := zb1.frozen 1; have zb1_2 := zb1.cell 2; have zb1f2 := zb1.frozen 2; have zb1_3 := zb1.cell 3; have zb1f3 := zb1.frozen 3; have zb1_4 := zb1.cell 4; have zb1f4 := zb1.frozen 4; have zb1_5 := zb1.cell 5; have zb1f5 := zb1.frozen 5; have zb1_6 := zb1.cell 6; have zb1f6 := zb1.frozen 6; have zb1_7 := zb1.cell 7; have zb1f7 := zb1.frozen 7; have zb1_8 := zb1.cell 8; have zb1f8 := zb1.frozen 8; have zb1lt : W0.heap.size < we.heap.size := zb1.lt; have zn1 : W0.heap.size + 1 ≠ W0.heap.size := (by omega); have zn2 : W0.heap.size ≠ W0.heap.size + 1 := (by omega)))
   all_goals
     go_wp2_with fail
     go_meet
     refine ⟨_, _, A3, c3, A2, c2, bse, rfl, rfl, rfl, rfl, ?_⟩
     first
     | with_reducible exact ⟨cr2_a H hV hK, (cr2_a (Mem.init W0) hV hK).below⟩
     | with_reducible exact ⟨cr2_b H hV hK, (cr2_b (Mem.init W0) hV hK).below⟩
     | (have h := cr2_c (c1 := #[.slice A2 lq.length c2]) (c2 := #[.int .i64 ↑vme, .int .i64 ↑id, .int .i64 (te' : Int), .int .i64 ↑de, .int .i64 ↑fe, .int .i64 ↑pr, .int .i64 ↑ch, .int .i64 ↑un, .string s]) (t1 := 32) (t2 := 72) H hV hK [(0, .slice A2 lq.length c2)] (by simp only [List.foldl_cons, List.foldl_nil, List.setIfInBounds_toArray, List.set_cons_zero])
        have h2 := (cr2_c (c1 := #[.slice A2 lq.length c2]) (c2 := #[.int .i64 ↑vme, .int .i64 ↑id, .int .i64 (te' : Int), .int .i64 ↑de, .int .i64 ↑fe, .int .i64 ↑pr, .int .i64 ↑ch, .int .i64 ↑un, .string s]) (t1 := 32) (t2 := 72) (Mem.init W0) hV hK [(0, .slice A2 lq.length c2)] (by simp only [List.foldl_cons, List.foldl_nil, List.setIfInBounds_toArray, List.set_cons_zero])).below
        simp only [sets, List.foldl_cons, List.foldl_nil] at h h2
        with_reducible exact ⟨h, h2⟩)
     | (have h := cr2_d (c1 := #[.slice A2 lq.length c2]) (c2 := #[.int .i64 ↑vme, .int .i64 ↑id, .int .i64 (te' : Int), .int .i64 ↑de, .int .i64 ↑fe, .int .i64 ↑pr, .int .i64 ↑ch, .int .i64 ↑un, .string s]) (t1 := 32) (t2 := 72) H hV hK [(0, .int .i64 ↑vme), (1, .int .i64 ↑id), (2, .int .i64 (te' : Int)), (3, .int .i64 ↑de), (4, .int .i64 ↑fe), (5, .int .i64 ↑pr), (6, .int .i64 ↑ch), (7, .int .i64 ↑un), (8, .string s)] (by simp only [List.foldl_cons, List.foldl_nil, List.setIfInBounds_toArray, List.set_cons_zero, List.set_cons_succ])
        have h2 := (cr2_d (c1 := #[.slice A2 lq.length c2]) (c2 := #[.int .i64 ↑vme, .int .i64 ↑id, .int .i64 (te' : Int), .int .i64 ↑de, .int .i64 ↑fe, .int .i64 ↑pr, .int .i64 ↑ch, .int .i64 ↑un, .string s]) (t1 := 32) (t2 := 72) (Mem.init W0) hV hK [(0, .int .i64 ↑vme), (1, .int .i64 ↑id), (2, .int .i64 (te' : Int)), (3, .int .i64 ↑de), (4, .int .i64 ↑fe), (5, .int .i64 ↑pr), (6, .int .i64 ↑ch), (7, .int .i64 ↑un), (8, .string s)] (by simp only [List.foldl_cons, List.foldl_nil, List.setIfInBounds_toArray, List.set_cons_zero, List.set_cons_succ])).below
        simp only [sets, List.foldl_cons, List.foldl_nil] at h h2
        with_reducible exact ⟨h, h2⟩)
     | (have h := cr2_e (c1 := #[.slice A2 lq.length c2]) (c2 := #[.int .i64 ↑vme, .int .i64 ↑id, .int .i64 (te' : Int), .int .i64 ↑de, .int .i64 ↑fe, .int .i64 ↑pr, .int .i64 ↑ch, .int .i64 ↑un, .string s]) (t1 := 32) (t2 := 72) H hV hK [(0, .slice A2 lq.length c2)] [(0, .int .i64 ↑vme), (1, .int .i64 ↑id), (2, .int .i64 (te' : Int)), (3, .int .i64 ↑de), (4, .int .i64 ↑fe), (5, .int .i64 ↑pr), (6, .int .i64 ↑ch), (7, .int .i64 ↑un), (8, .string s)] (by simp only [List.foldl_cons, List.foldl_nil, List.setIfInBounds_toArray, List.set_cons_zero]) (by simp only [List.foldl_cons, List.foldl_nil, List.setIfInBounds_toArray, List.set_cons_zero, List.set_cons_succ])
        have h2 := (cr2_e (c1 := #[.slice A2 lq.length c2]) (c2 := #[.int .i64 ↑vme, .int .i64 ↑id, .int .i64 (te' : Int), .int .i64 ↑de, .int .i64 ↑fe, .int .i64 ↑pr, .int .i64 ↑ch, .int .i64 ↑un, .string s]) (t1 := 32) (t2 := 72) (Mem.init W0) hV hK [(0, .slice A2 lq.length c2)] [(0, .int .i64 ↑vme), (1, .int .i64 ↑id), (2, .int .i64 (te' : Int)), (3, .int .i64 ↑de), (4, .int .i64 ↑fe), (5, .int .i64 ↑pr), (6, .int .i64 ↑ch), (7, .int .i64 ↑un), (8, .string s)] (by simp only [List.foldl_cons, List.foldl_nil, List.setIfInBounds_toArray, List.set_cons_zero]) (by simp only [List.foldl_cons, List.foldl_nil, List.setIfInBounds_toArray, List.set_cons_zero, List.set_cons_succ])).below
        simp only [sets, List.foldl_cons, List.foldl_nil] at h h2
        with_reducible exact ⟨h, h2⟩)
     | (have h := cr2_f (c1 := #[.slice A2 lq.length c2]) (c2 := #[.int .i64 ↑vme, .int .i64 ↑id, .int .i64 (te' : Int), .int .i64 ↑de, .int .i64 ↑fe, .int .i64 ↑pr, .int .i64 ↑ch, .int .i64 ↑un, .string s]) (t1 := 32) (t2 := 72) H hV hK [(0, .slice A2 lq.length c2)] [(0, .int .i64 ↑vme), (1, .int .i64 ↑id), (2, .int .i64 (te' : Int)), (3, .int .i64 ↑de), (4, .int .i64 ↑fe), (5, .int .i64 ↑pr), (6, .int .i64 ↑ch), (7, .int .i64 ↑un), (8, .string s)] (by simp only [List.foldl_cons, List.foldl_nil, List.setIfInBounds_toArray, List.set_cons_zero]) (by simp only [List.foldl_cons, List.foldl_nil, List.setIfInBounds_toArray, List.set_cons_zero, List.set_cons_succ])
        have h2 := (cr2_f (c1 := #[.slice A2 lq.length c2]) (c2 := #[.int .i64 ↑vme, .int .i64 ↑id, .int .i64 (te' : Int), .int .i64 ↑de, .int .i64 ↑fe, .int .i64 ↑pr, .int .i64 ↑ch, .int .i64 ↑un, .string s]) (t1 := 32) (t2 := 72) (Mem.init W0) hV hK [(0, .slice A2 lq.length c2)] [(0, .int .i64 ↑vme), (1, .int .i64 ↑id), (2, .int .i64 (te' : Int)), (3, .int .i64 ↑de), (4, .int .i64 ↑fe), (5, .int .i64 ↑pr), (6, .int .i64 ↑ch), (7, .int .i64 ↑un), (8, .string s)] (by simp only [List.foldl_cons, List.foldl_nil, List.setIfInBounds_toArray, List.set_cons_zero]) (by simp only [List.foldl_cons, List.foldl_nil, List.setIfInBounds_toArray, List.set_cons_zero, List.set_cons_succ])).below
        simp only [sets, List.foldl_cons, List.foldl_nil] at h h2
        with_reducible exact ⟨h, h2⟩)
 case rest =>
   obtain ⟨ob, rb, A3, c3, A2, c2, base, rfl, rfl, rfl, rfl, H, hCR⟩ := hcut
   subst hLL
   replace H : Mem (w) [] (wc) [.blk (w.heap.size) 34 #[.slice At nt ct, .int .i64 ↑T.fx, .int .i64 ↑T.fb, .int .i64 ↑T.db, .int .i64 ↑T.al, .slice Ac nc cc, .slice Ao no co], .blk (w.heap.size + 1) 69 #[.int .i64 xk, .int .i64 xm, .int .i64 xa, .int .i64 xb, .int .i64 xd], .blk (w.heap.size + 1 + 1) 32 #[.slice none 0 0], .blk (w.heap.size + 1 + 1 + 1) 72 #[.int .i64 0, .int .i64 0, .int .i64 0, .int .i64 0, .int .i64 0, .int .i64 0, .int .i64 0, .int .i64 0, .string ⟨#[]⟩], .blk (ob) 32 #[.slice A2 lq.length c2], .blk (rb) 72 #[.int .i64 ↑vme, .int .i64 ↑id, .int .i64 (te' : Int), .int .i64 ↑de, .int .i64 ↑fe, .int .i64 ↑pr, .int .i64 ↑ch, .int .i64 ↑un, .string s], .row (base) (225) (4) (.slice A2 lq.length c2) (lq.length) (prs lq), .row (base) (113) (2) (.slice A3 wl.length c3) (wl.length) (wrs wl)] := H
   clear hV hvt0 hc0 hps0 hCR
   clear shlt sh0 shf0 sh1 shf1 sh2 shf2 sh3 shf3 sh4 shf4 sh5 shf5 sh6 shf6 odlt od0 odf0 od1 odf1 od2 odf2 od3 odf3 od4 odf4 ne_sh_od ne_od_sh
   obtain ⟨oblt, ob0, obf0⟩ := H.c1 4 rfl
   obtain ⟨rblt, rb0, rbf0, rb1, rbf1, rb2, rbf2, rb3, rbf3, rb4, rbf4, rb5, rbf5, rb6, rbf6, rb7, rbf7, rb8, rbf8⟩ := H.c9 5 rfl
   obtain ⟨rolt, ro0, rof0⟩ := H.c1 2 rfl
   obtain ⟨rrlt, rr0, rrf0, rr1, rrf1, rr2, rrf2, rr3, rrf3, rr4, rrf4, rr5, rrf5, rr6, rrf6, rr7, rrf7, rr8, rrf8⟩ := H.c9 3 rfl
   have ne_ob_rb := H.ne 4 5 rfl rfl (by decide)
   have ne_ob_ro := H.ne 4 2 rfl rfl (by decide)
   have ne_ob_rr := H.ne 4 3 rfl rfl (by decide)
   have ne_rb_ob := H.ne 5 4 rfl rfl (by decide)
   have ne_rb_ro := H.ne 5 2 rfl rfl (by decide)
   have ne_rb_rr := H.ne 5 3 rfl rfl (by decide)
   have ne_ro_ob := H.ne 2 4 rfl rfl (by decide)
   have ne_ro_rb := H.ne 2 5 rfl rfl (by decide)
   have ne_ro_rr := H.ne 2 3 rfl rfl (by decide)
   have ne_rr_ob := H.ne 3 4 rfl rfl (by decide)
   have ne_rr_rb := H.ne 3 5 rfl rfl (by decide)
   have ne_rr_ro := H.ne 3 2 rfl rfl (by decide)
   go_wp2
   go_region
   go_wp2
   clear oblt ob0 obf0 rblt rb0 rbf0 rb1 rbf1 rb2 rbf2 rb3 rbf3 rb4 rbf4 rb5 rbf5 rb6 rbf6 rb7 rbf7 rb8 rbf8 rolt ro0 rof0 rrlt rr0 rrf0 rr1 rrf1 rr2 rrf2 rr3 rrf3 rr4 rrf4 rr5 rrf5 rr6 rrf6 rr7 rrf7 rr8 rrf8 ne_ob_rb ne_ob_ro ne_ob_rr ne_rb_ob ne_rb_ro ne_rb_rr ne_ro_ob ne_ro_rb ne_ro_rr ne_rr_ob ne_rr_rb ne_rr_ro
   obtain ⟨w3, hw3⟩ : ∃ w3, (((((((((((wc).setCell ⟨w.heap.size + 1 + 1, 0, none⟩ (.slice A2 lq.length c2)).setCell ⟨w.heap.size + 1 + 1 + 1, 0, none⟩ (.int .i64 ↑vme)).setCell ⟨w.heap.size + 1 + 1 + 1, 1, none⟩ (.int .i64 ↑id)).setCell ⟨w.heap.size + 1 + 1 + 1, 2, none⟩ (.int .i64 (te' : Int))).setCell ⟨w.heap.size + 1 + 1 + 1, 3, none⟩ (.int .i64 ↑de)).setCell ⟨w.heap.size + 1 + 1 + 1, 4, none⟩ (.int .i64 ↑fe)).setCell ⟨w.heap.size + 1 + 1 + 1, 5, none⟩ (.int .i64 ↑pr)).setCell ⟨w.heap.size + 1 + 1 + 1, 6, none⟩ (.int .i64 ↑ch)).setCell ⟨w.heap.size + 1 + 1 + 1, 7, none⟩ (.int .i64 ↑un)).setCell ⟨w.heap.size + 1 + 1 + 1, 8, none⟩ (.string s)).drew = w3 := ⟨_, rfl⟩
   replace H := Mem.set 2 H rfl (0) (.slice A2 lq.length c2)
   replace H := Mem.set 3 H rfl (0) (.int .i64 ↑vme)
   replace H := Mem.set 3 H rfl (1) (.int .i64 ↑id)
   replace H := Mem.set 3 H rfl (2) (.int .i64 (te' : Int))
   replace H := Mem.set 3 H rfl (3) (.int .i64 ↑de)
   replace H := Mem.set 3 H rfl (4) (.int .i64 ↑fe)
   replace H := Mem.set 3 H rfl (5) (.int .i64 ↑pr)
   replace H := Mem.set 3 H rfl (6) (.int .i64 ↑ch)
   replace H := Mem.set 3 H rfl (7) (.int .i64 ↑un)
   replace H := Mem.set 3 H rfl (8) (.string s)
   simp only [List.set_cons_zero, List.set_cons_succ, List.setIfInBounds_toArray] at H
   replace H := H.drew
   rw [hw3] at H ⊢
   clear hw3
   obtain ⟨rolt, ro0, rof0⟩ := H.c1 2 rfl
   obtain ⟨rrlt, rr0, rrf0, rr1, rrf1, rr2, rrf2, rr3, rrf3, rr4, rrf4, rr5, rrf5, rr6, rrf6, rr7, rrf7, rr8, rrf8⟩ := H.c9 3 rfl
   have ne_ro_rr := H.ne 2 3 rfl rfl (by decide)
   have ne_rr_ro := H.ne 3 2 rfl rfl (by decide)
   refine bodyPost_ret (v := .tuple #[.slice A3 wl.length c3, .agg #[.slice A2 lq.length c2], .agg #[.int .i64 ↑vme, .int .i64 ↑id, .int .i64 (te' : Int), .int .i64 ↑de, .int .i64 ↑fe, .int .i64 ↑pr, .int .i64 ↑ch, .int .i64 ↑un, .string s], .int .i64 ↑E]) (by simp [results, Tryz.results16, go_sem, ro0, rr0, rr1, rr2, rr3, rr4, rr5, rr6, rr7, rr8]; done) rfl ?_
   exact ⟨A3, c3, A2, c2, rfl, H.ownb 6 rfl, H.ownb 7 rfl, H.below⟩
end Go.Proofs.YtpcgpnkmjjamhaaGreat
namespace Go.Proofs.YtpcgpnkmjjamhaaGreat
open Go.RowKit
set_option linter.unusedVariables false
set_option maxRecDepth 100000 in
set_option maxHeartbeats 16000000 in
theorem vsell3_ok (T : Tm) (hT : T.Ok) (At : Option Addr) (nt ct : Nat) (cv : Value) (c : List Nat) (L : List Ev) (B : List Cu) (me i mo d : Nat) (Ao : Option Addr) (no co : Nat) (lp : List Pr) (gt g1 : Nat) (E me2 rev2 next2 month2 bought2 : Nat) (free2 : Int) (l2 : List (Nat × Nat)) (id te de fe pr ch un : Nat) (w : World)
   (hvt : IsDs w (.slice At nt ct) T.tl) (hc : IsWs w cv c) (hS : Srv T c L B) (hme : me ≤ 49) (hp : place B me = some i) (hL : L.length < 120) (hf : (L.length + 1) * 14 ≤ c.length) (hps : IsPs w (.slice Ao no co) lp) (hlp : OOk lp) (h5 : lp.length < 500) (hd : d ≤ 65535)
   (hW : ∀ (W : World) (Ad : Option Addr) (cd : Nat), Below w.heap.size w W → IsDs W (.slice Ad (B.getD i cu0).a.l.length cd) (B.getD i cu0).a.l → Calls Tryz.prog 54 #[.agg #[.int .i64 ((B.getD i cu0).a.me : Int), .int .i64 ((B.getD i cu0).a.rev : Int), .int .i64 ((B.getD i cu0).a.next : Int), .int .i64 ((B.getD i cu0).a.month : Int), .int .i64 ((B.getD i cu0).a.bought : Int), .int .i64 (B.getD i cu0).a.free, .slice Ad (B.getD i cu0).a.l.length cd], .pointer (some ⟨gt, 0, none⟩), .pointer (some ⟨g1, 0, none⟩)] W (RetDI E me2 rev2 next2 month2 bought2 free2 l2 id te de fe pr ch un W))
   (hz : E = 0 → TkOk 0 id un 0 ∧ ∀ t, t ≤ 65535 → (Ev.mk 3 me mo id te de fe pr ch un t 0 0).ok) :
   Calls Tryz.prog 53 #[.agg #[.slice At nt ct, .int .i64 ↑T.fx, .int .i64 ↑T.fb, .int .i64 ↑T.db, .int .i64 ↑T.al], cv, .agg #[.slice Ao no co], .int .i64 ↑d, .agg #[.int .i64 3, .int .i64 ↑me, .int .i64 ↑mo, .int .i64 0, .int .i64 0, .int .i64 0, .int .i64 0, .int .i64 0, .int .i64 0, .int .i64 0, .int .i64 0, .int .i64 0, .int .i64 0, .int .i64 0, .func (.func 54) #[] #[.pointer (some ⟨gt, 0, none⟩), .pointer (some ⟨g1, 0, none⟩)]]] w (RetVSell E 3 me mo id te de fe pr ch un 0 un (B.getD i cu0).a.rev d lp c L w) := by
 obtain ⟨hi, hime⟩ := place_some hp
 clear hime
 have hBk := runE_bok hT L [] B 0 (bok_nil T) (by omega) hS.ok hS.run
 have hgd : B.getD i cu0 = B[i] := by simp [hi]
 have hao := (hBk.h1 B[i] (List.getElem_mem hi)).1
 rw [hgd] at hW ⊢
 have hO := fun W h1 h2 => vopen_ok T hT At nt ct cv c L B W h1 h2 hS
 unfold RetShop at hO
 have hK := fun g x0 x1 x2 x3 x4 x5 v W hv hs hw => vkeep_ok g x0 x1 x2 x3 x4 x5 cv c L v W hs hw hS.tape hS.h2 hL hv hf
 unfold RetWrOwn at hK
 obtain ⟨Ac, nc, cc, rfl⟩ : ∃ Ac nc cc, cv = .slice Ac nc cc := by obtain ⟨X, y, h, _⟩ := hc; exact ⟨X, _, y, h⟩
 have HI := Lib.hid (And.intro hi hp)
 have hat := fun W A n c (h : IsBk W (.slice A n c) B) => h.at_ hi
 generalize B[i] = cu at hao hat hW ⊢
 obtain ⟨⟨ame, rev, next, month, bought, free, l⟩, s⟩ := cu
 dsimp only at hao hat hW ⊢
 have hrev : rev ≤ 15 := hao.h1.h2
 have HB := Lib.hid (And.intro hrev (And.intro hme (And.intro hlp (And.intro h5 hd))))
 clear hS hL hf hgd hBk hi hao hp hrev
 have H := Mem.init w
 obtain ⟨W0, hW0⟩ : ∃ W0, ((((w).alloc (.cells #[.slice At nt ct, .int .i64 ↑T.fx, .int .i64 ↑T.fb, .int .i64 ↑T.db, .int .i64 ↑T.al] 28)).alloc (.cells #[.slice Ao no co] 32)).alloc (.cells #[.int .i64 3, .int .i64 ↑me, .int .i64 ↑mo, .int .i64 0, .int .i64 0, .int .i64 0, .int .i64 0, .int .i64 0, .int .i64 0, .int .i64 0, .int .i64 0, .int .i64 0, .int .i64 0, .int .i64 0, .func (.func 54) #[] #[.pointer (some ⟨gt, 0, none⟩), .pointer (some ⟨g1, 0, none⟩)]] 153)).alloc (.cells #[.slice none 0 0, .slice none 0 0, .int .i64 0, .int .i64 0, .int .i64 0, .int .i64 0, .int .i64 0, .int .i64 0, .int .i64 0, .int .i64 0, .string ⟨#[]⟩] 146) = W0 := ⟨_, rfl⟩
 replace H := Mem.alloc H (w.heap.size) (by first | (simp; done) | (simp; omega)) #[.slice At nt ct, .int .i64 ↑T.fx, .int .i64 ↑T.fb, .int .i64 ↑T.db, .int .i64 ↑T.al] 28
 replace H := Mem.alloc H (w.heap.size + 1) (by first | (simp; done) | (simp; omega)) #[.slice Ao no co] 32
 replace H := Mem.alloc H (w.heap.size + 1 + 1) (by first | (simp; done) | (simp; omega)) #[.int .i64 3, .int .i64 ↑me, .int .i64 ↑mo, .int .i64 0, .int .i64 0, .int .i64 0, .int .i64 0, .int .i64 0, .int .i64 0, .int .i64 0, .int .i64 0, .int .i64 0, .int .i64 0, .int .i64 0, .func (.func 54) #[] #[.pointer (some ⟨gt, 0, none⟩), .pointer (some ⟨g1, 0, none⟩)]] 153
 replace H := Mem.alloc H (w.heap.size + 1 + 1 + 1) (by first | (simp; done) | (simp; omega)) #[.slice none 0 0, .slice none 0 0, .int .i64 0, .int .i64 0, .int .i64 0, .int .i64 0, .int .i64 0, .int .i64 0, .int .i64 0, .int .i64 0, .string ⟨#[]⟩] 146
 simp only [List.nil_append, List.cons_append] at H
 rw [hW0] at H
 have hvt0 := hvt.below H.below
 have hc0 := hc.below H.below
 obtain ⟨ttlt, tt0, ttf0, tt1, ttf1, tt2, ttf2, tt3, ttf3, tt4, ttf4⟩ := H.c5 0 rfl
 go_enter Tryz.func53, Tryz.ntmps53
 go_wp2_with fail
 refine (hO _ hvt0 hc0).mono ?_
 rintro e w1 ⟨g, u, rfl, HK, hbk⟩
 obtain ⟨Ab, nb, cb, rfl⟩ := hbk.slice
 have hbw := HK.below
 obtain ⟨b, off, Ad, cd, As, cs, rfl, hbl, hds, hss, p0, p1, p2, p3, p4, p5, p6, p7⟩ := hat w1 Ab nb cb hbk.is
 clear p7 hss
 have hc1 := hc0.below hbw
 replace H : Mem (w) [] (w1) [.blk (w.heap.size) 28 #[.slice At nt ct, .int .i64 ↑T.fx, .int .i64 ↑T.fb, .int .i64 ↑T.db, .int .i64 ↑T.al], .blk (w.heap.size + 1) 32 #[.slice Ao no co], .blk (w.heap.size + 1 + 1) 153 #[.int .i64 3, .int .i64 ↑me, .int .i64 ↑mo, .int .i64 0, .int .i64 0, .int .i64 0, .int .i64 0, .int .i64 0, .int .i64 0, .int .i64 0, .int .i64 0, .int .i64 0, .int .i64 0, .int .i64 0, .func (.func 54) #[] #[.pointer (some ⟨gt, 0, none⟩), .pointer (some ⟨g1, 0, none⟩)]], .blk (w.heap.size + 1 + 1 + 1) 146 #[.slice none 0 0, .slice none 0 0, .int .i64 0, .int .i64 0, .int .i64 0, .int .i64 0, .int .i64 0, .int .i64 0, .int .i64 0, .int .i64 0, .string ⟨#[]⟩], .blk (g) 103 #[.slice (some ⟨b, off, none⟩) nb cb, .slice At nt ct, .int .i64 ↑T.fx, .int .i64 ↑T.fb, .int .i64 ↑T.db, .int .i64 ↑T.al, .slice Ac nc cc, .int .i64 ↑L.length]] := Mem.join H HK
 clear hO hvt0 hc0 hW0 HK hbw
 clear ttlt tt0 ttf0 tt1 ttf1 tt2 ttf2 tt3 ttf3 tt4 ttf4
 obtain ⟨odlt, od0, odf0, od1, odf1, od2, odf2, od3, odf3, od4, odf4, od5, odf5, od6, odf6, od7, odf7, od8, odf8, od9, odf9, od10, odf10, od11, odf11, od12, odf12, od13, odf13, od14, odf14⟩ := H.c15 2 rfl
 go_wp2_with fail
 refine (customer_some g b off nb cb i me _ _ _ _ _ _ _ B _ (H.blk 4 rfl) hbk.is HI.out.2).mono ?_
 rintro e w2 ⟨rfl, hb2⟩
 obtain ⟨o, ho⟩ : ∃ o, off + i * 8 = o := ⟨_, rfl⟩
 rw [ho] at p0 p1 p2 p3 p4 p5 p6 ⊢
 have q0 := (hb2.cell (p := ⟨b, o, none⟩) hbl).trans p0
 have q1 := (hb2.cell (p := ⟨b, o + 1, none⟩) hbl).trans p1
 have q2 := (hb2.cell (p := ⟨b, o + 2, none⟩) hbl).trans p2
 have q3 := (hb2.cell (p := ⟨b, o + 3, none⟩) hbl).trans p3
 have q4 := (hb2.cell (p := ⟨b, o + 4, none⟩) hbl).trans p4
 have q5 := (hb2.cell (p := ⟨b, o + 5, none⟩) hbl).trans p5
 have q6 := (hb2.cell (p := ⟨b, o + 6, none⟩) hbl).trans p6
 have hbl2 := Nat.lt_of_lt_of_le hbl hb2.size
 have hds2 := hds.below hb2
 have hc2 := hc1.below hb2
 replace H := Mem.call H hb2
 have hbww := H.below
 have hWk := fun W h h2 => hW W Ad cd (hbww.trans (Below.mono h hbww.size)) h2
 unfold RetDI at hWk
 clear ho p0 p1 p2 p3 p4 p5 p6 hc1 hb2 hbl hbk hds hW hbww
 clear odlt od0 odf0 od1 odf1 od2 odf2 od3 odf3 od4 odf4 od5 odf5 od6 odf6 od7 odf7 od8 odf8 od9 odf9 od10 odf10 od11 odf11 od12 odf12 od13 odf13 od14 odf14
 obtain ⟨odlt, od0, odf0, od1, odf1, od2, odf2, od3, odf3, od4, odf4, od5, odf5, od6, odf6, od7, odf7, od8, odf8, od9, odf9, od10, odf10, od11, odf11, od12, odf12, od13, odf13, od14, odf14⟩ := H.c15 2 rfl
 go_upto_region 7 with fail
 obtain ⟨LL, hLL⟩ : ∃ LL : List Chunk, [.blk (w.heap.size) 28 #[.slice At nt ct, .int .i64 ↑T.fx, .int .i64 ↑T.fb, .int .i64 ↑T.db, .int .i64 ↑T.al], .blk (w.heap.size + 1) 32 #[.slice Ao no co], .blk (w.heap.size + 1 + 1) 153 #[.int .i64 3, .int .i64 ↑me, .int .i64 ↑mo, .int .i64 0, .int .i64 0, .int .i64 0, .int .i64 0, .int .i64 0, .int .i64 0, .int .i64 0, .int .i64 0, .int .i64 0, .int .i64 0, .int .i64 0, .func (.func 54) #[] #[.pointer (some ⟨gt, 0, none⟩), .pointer (some ⟨g1, 0, none⟩)]], .blk (w.heap.size + 1 + 1 + 1) 146 #[.slice none 0 0, .slice none 0 0, .int .i64 0, .int .i64 0, .int .i64 0, .int .i64 0, .int .i64 0, .int .i64 0, .int .i64 0, .int .i64 0, .string ⟨#[]⟩], .blk (g) 103 #[.slice (some ⟨b, off, none⟩) nb cb, .slice At nt ct, .int .i64 ↑T.fx, .int .i64 ↑T.fb, .int .i64 ↑T.db, .int .i64 ↑T.al, .slice Ac nc cc, .int .i64 ↑L.length]] = LL := ⟨_, rfl⟩
 rw [hLL] at H
 go_cut [15, 16, 13] (fun p0 p1 p2 wx => ∃ (na bi : Nat) (A2 : Option Addr) (d2 : Nat) (base : Nat), p0 = .pointer (some ⟨na, 0, none⟩) ∧ p1 = .pointer (some ⟨bi, 0, none⟩) ∧ p2 = .int .i64 ↑E ∧ Mem (w) [] wx (LL ++ (.blk na 58 #[.int .i64 ↑me2, .int .i64 ↑rev2, .int .i64 ↑next2, .int .i64 ↑month2, .int .i64 ↑bought2, .int .i64 free2, .slice A2 l2.length d2] :: .blk bi 42 #[.int .i64 ↑id, .int .i64 ↑te, .int .i64 ↑de, .int .i64 ↑fe, .int .i64 ↑pr, .int .i64 ↑ch, .int .i64 ↑un] :: [.row (base) (44) (2) (.slice A2 l2.length d2) (l2.length) (drs l2)])) ∧ Below w2.heap.size w2 wx)
 case first =>
   have nz0a : w2.heap.size ≠ w.heap.size + 1 + 1 := by have := odlt; omega
   have nz0b : w2.heap.size + 1 ≠ w.heap.size + 1 + 1 := by have := odlt; omega
   have nz0c : w.heap.size + 1 + 1 ≠ w2.heap.size := by have := odlt; omega
   have nz0d : w.heap.size + 1 + 1 ≠ w2.heap.size + 1 := by have := odlt; omega
   have nz1a : w2.heap.size ≠ b := by have := hbl2; omega
   have nz1b : w2.heap.size + 1 ≠ b := by have := hbl2; omega
   have nz1c : b ≠ w2.heap.size := by have := hbl2; omega
   have nz1d : b ≠ w2.heap.size + 1 := by have := hbl2; omega
   have nz0e : w2.heap.size ≠ w.heap.size + 1 := by have := odlt; omega
   have nz0f : w.heap.size + 1 ≠ w2.heap.size := by have := odlt; omega
   have V0 : Mem w2 [] (w2).drew [] := (Mem.init w2).drew
   have B0 := V0.below
   have V1 : Mem w2 [] (w2.alloc (.cells #[.int .i64 0, .int .i64 0, .int .i64 0, .int .i64 0, .int .i64 0, .int .i64 0, .slice none 0 0] 58)).drew [.blk (w2.heap.size) 58 #[.int .i64 0, .int .i64 0, .int .i64 0, .int .i64 0, .int .i64 0, .int .i64 0, .slice none 0 0]] := ((Mem.init w2).alloc _ rfl #[.int .i64 0, .int .i64 0, .int .i64 0, .int .i64 0, .int .i64 0, .int .i64 0, .slice none 0 0] 58).drew
   have B1 := V1.below
   have V1b0 := V1.blk 0 rfl
   have V2 : Mem w2 [] (w2.alloc (.cells #[.int .i64 0, .int .i64 0, .int .i64 0, .int .i64 0, .int .i64 0, .int .i64 0, .int .i64 0] 42)).drew [.blk (w2.heap.size) 42 #[.int .i64 0, .int .i64 0, .int .i64 0, .int .i64 0, .int .i64 0, .int .i64 0, .int .i64 0]] := ((Mem.init w2).alloc _ rfl #[.int .i64 0, .int .i64 0, .int .i64 0, .int .i64 0, .int .i64 0, .int .i64 0, .int .i64 0] 42).drew
   have B2 := V2.below
   have V2b1 := V2.blk 0 rfl
   have V3 : Mem w2 [] ((w2.alloc (.cells #[.int .i64 0, .int .i64 0, .int .i64 0, .int .i64 0, .int .i64 0, .int .i64 0, .slice none 0 0] 58)).alloc (.cells #[.int .i64 0, .int .i64 0, .int .i64 0, .int .i64 0, .int .i64 0, .int .i64 0, .int .i64 0] 42)).drew [.blk (w2.heap.size) 58 #[.int .i64 0, .int .i64 0, .int .i64 0, .int .i64 0, .int .i64 0, .int .i64 0, .slice none 0 0], .blk (w2.heap.size + 1) 42 #[.int .i64 0, .int .i64 0, .int .i64 0, .int .i64 0, .int .i64 0, .int .i64 0, .int .i64 0]] := (((Mem.init w2).alloc _ rfl #[.int .i64 0, .int .i64 0, .int .i64 0, .int .i64 0, .int .i64 0, .int .i64 0, .slice none 0 0] 58).alloc (w2.heap.size + 1) (by simp) #[.int .i64 0, .int .i64 0, .int .i64 0, .int .i64 0, .int .i64 0, .int .i64 0, .int .i64 0] 42).drew
   have B3 := V3.below
   have V3b0 := V3.blk 0 rfl
   have V3b1 := V3.blk 1 rfl
   have V4 : Mem w2 [] ((w2.alloc (.cells #[.int .i64 0, .int .i64 0, .int .i64 0, .int .i64 0, .int .i64 0, .int .i64 0, .int .i64 0] 42)).alloc (.cells #[.int .i64 0, .int .i64 0, .int .i64 0, .int .i64 0, .int .i64 0, .int .i64 0, .slice none 0 0] 58)).drew [.blk (w2.heap.size + 1) 58 #[.int .i64 0, .int .i64 0, .int .i64 0, .int .i64 0, .int .i64 0, .int .i64 0, .slice none 0 0], .blk (w2.heap.size) 42 #[.int .i64 0, .int .i64 0, .int .i64 0, .int .i64 0, .int .i64 0, .int .i64 0, .int .i64 0]] := Mem.perm (List.Perm.swap _ _ _) (((Mem.init w2).alloc _ rfl #[.int .i64 0, .int .i64 0, .int .i64 0, .int .i64 0, .int .i64 0, .int .i64 0, .int .i64 0] 42).alloc (w2.heap.size + 1) (by simp) #[.int .i64 0, .int .i64 0, .int .i64 0, .int .i64 0, .int .i64 0, .int .i64 0, .slice none 0 0] 58).drew
   have B4 := V4.below
   have V4b0 := V4.blk 0 rfl
   have V4b1 := V4.blk 1 rfl
   go_region_held3 (fun w' => w'.cell? ⟨w.heap.size + 1 + 1, 14, none⟩ = some (.func (.func 54) #[] #[.pointer (some ⟨gt, 0, none⟩), .pointer (some ⟨g1, 0, none⟩)]) ∧ w'.cell? ⟨b, o, none⟩ = some (.int .i64 ↑ame) ∧ w'.cell? ⟨b, o + 1, none⟩ = some (.int .i64 ↑rev) ∧ w'.cell? ⟨b, o + 2, none⟩ = some (.int .i64 ↑next) ∧ w'.cell? ⟨b, o + 3, none⟩ = some (.int .i64 ↑month) ∧ w'.cell? ⟨b, o + 4, none⟩ = some (.int .i64 ↑bought) ∧ w'.cell? ⟨b, o + 5, none⟩ = some (.int .i64 free) ∧ w'.cell? ⟨b, o + 6, none⟩ = some (.slice Ad l.length cd)) (first | with_reducible exact ⟨s0, s1, s2, s3, s4, s5, s6, s7⟩ | go_keep | fail) (first | (go_at_call 54; (with_reducible refine (hWk (w2).drew B0 (hds2.below B0)).mono ?_); rintro e we ⟨A2, d2, rfl, hown, hbe⟩; have hV := V0; obtain ⟨bse, hK⟩ : ∃ bse : Nat, Mem (w2).drew [] we [.row (bse) (44) (2) (.slice A2 l2.length d2) (l2.length) (drs l2)] := ⟨_, Mem.row (Mem.init _) hbe hown (Nat.le_refl _)⟩; have hWe : Below w2.heap.size w2 we := B0.trans (hbe.mono B0.size); have s0 := (hWe.cell (p := ⟨w.heap.size + 1 + 1, 14, none⟩) odlt).trans od14; have s1 := (hWe.cell (p := ⟨b, o, none⟩) hbl2).trans q0; have s2 := (hWe.cell (p := ⟨b, o + 1, none⟩) hbl2).trans q1; have s3 := (hWe.cell (p := ⟨b, o + 2, none⟩) hbl2).trans q2; have s4 := (hWe.cell (p := ⟨b, o + 3, none⟩) hbl2).trans q3; have s5 := (hWe.cell (p := ⟨b, o + 4, none⟩) hbl2).trans q4; have s6 := (hWe.cell (p := ⟨b, o + 5, none⟩) hbl2).trans q5; have s7 := (hWe.cell (p := ⟨b, o + 6, none⟩) hbl2).trans q6; have sz := hWe.size; have ez0c : we.heap.size ≠ w.heap.size + 1 := (by have := odlt; omega); have ez0a : we.heap.size ≠ w.heap.size + 1 + 1 := (by have := odlt; omega); have ez0b : we.heap.size + 1 ≠ w.heap.size + 1 + 1 := (by have := odlt; omega); have ez1a : we.heap.size ≠ b := (by have := hbl2; omega); have ez1b : we.heap.size + 1 ≠ b := (by have := hbl2; omega)) | (go_at_call 54; (with_reducible refine (hWk (w2.alloc (.cells #[.int .i64 0, .int .i64 0, .int .i64 0, .int .i64 0, .int .i64 0, .int .i64 0, .slice none 0 0] 58)).drew B1 (hds2.below B1)).mono ?_); rintro e we ⟨A2, d2, rfl, hown, hbe⟩; have hV := V1; obtain ⟨bse, hK⟩ : ∃ bse : Nat, Mem (w2.alloc (.cells #[.int .i64 0, .int .i64 0, .int .i64 0, .int .i64 0, .int .i64 0, .int .i64 0, .slice none 0 0] 58)).drew [] we [.row (bse) (44) (2) (.slice A2 l2.length d2) (l2.length) (drs l2)] := ⟨_, Mem.row (Mem.init _) hbe hown (Nat.le_refl _)⟩; have hWe : Below w2.heap.size w2 we := B1.trans (hbe.mono B1.size); have s0 := (hWe.cell (p := ⟨w.heap.size + 1 + 1, 14, none⟩) odlt).trans od14; have s1 := (hWe.cell (p := ⟨b, o, none⟩) hbl2).trans q0; have s2 := (hWe.cell (p := ⟨b, o + 1, none⟩) hbl2).trans q1; have s3 := (hWe.cell (p := ⟨b, o + 2, none⟩) hbl2).trans q2; have s4 := (hWe.cell (p := ⟨b, o + 3, none⟩) hbl2).trans q3; have s5 := (hWe.cell (p := ⟨b, o + 4, none⟩) hbl2).trans q4; have s6 := (hWe.cell (p := ⟨b, o + 5, none⟩) hbl2).trans q5; have s7 := (hWe.cell (p := ⟨b, o + 6, none⟩) hbl2).trans q6; have sz := hWe.size; have ez0c : we.heap.size ≠ w.heap.size + 1 := (by have := odlt; omega); have ez0a : we.heap.size ≠ w.heap.size + 1 + 1 := (by have := odlt; omega); have ez0b : we.heap.size + 1 ≠ w.heap.size + 1 + 1 := (by have := odlt; omega); have ez1a : we.heap.size ≠ b := (by have := hbl2; omega); have ez1b : we.heap.size + 1 ≠ b := (by have := hbl2; omega); have zb0 := Blk.below V1b0 hbe V1b0.lt; have zb0_0 := zb0.cell 0; have zb0f0 := zb0.frozen 0; have zb0_1 := zb0.cell 1; have zb0f1 := zb0.frozen 1; have zb0_2 := zb0.cell 2; have zb0f2 := zb0.frozen 2; have zb0_3 := zb0.cell 3; have zb0f3 := zb0.frozen 3; have zb0_4 := zb0.cell 4; have zb0f4 := zb0.frozen 4; have zb0_5 := zb0.cell 5; have zb0f5 := zb0.frozen 5; have zb0_6 := zb0.cell 6; have zb0f6 := zb0.frozen 6; have zb0lt : w2.heap.size < we.heap.size := zb0.lt) | (go_at_call 54; (with_reducible refine (hWk (w2.alloc (.cells #[.int .i64 0, .int .i64 0, .int .i64 0, .int .i64 0, .int .i64 0, .int .i64 0, .int .i64 0] 42)).drew B2 (hds2.below B2)).mono ?_); rintro e we ⟨A2, d2, rfl, hown, hbe⟩; have hV := V2; obtain ⟨bse, hK⟩ : ∃ bse : Nat, Mem (w2.alloc (.cells #[.int .i64 0, .int .i64 0, .int .i64 0, .int .i64 0, .int .i64 0, .int .i64 0, .int .i64 0] 42)).drew [] we [.row (bse) (44) (2) (.slice A2 l2.length d2) (l2.length) (drs l2)] := ⟨_, Mem.row (Mem.init _) hbe hown (Nat.le_refl _)⟩; have hWe : Below w2.heap.size w2 we := B2.trans (hbe.mono B2.size); have s0 := (hWe.cell (p := ⟨w.heap.size + 1 + 1, 14, none⟩) odlt).trans od14; have s1 := (hWe.cell (p := ⟨b, o, none⟩) hbl2).trans q0; have s2 := (hWe.cell (p := ⟨b, o + 1, none⟩) hbl2).trans q1; have s3 := (hWe.cell (p := ⟨b, o + 2, none⟩) hbl2).trans q2; have s4 := (hWe.cell (p := ⟨b, o + 3, none⟩) hbl2).trans q3; have s5 := (hWe.cell (p := ⟨b, o + 4, none⟩) hbl2).trans q4; have s6 := (hWe.cell (p := ⟨b, o + 5, none⟩) hbl2).trans q5; have s7 := (hWe.cell (p := ⟨b, o + 6, none⟩) hbl2).trans q6; have sz := hWe.size; have ez0c : we.heap.size ≠ w.heap.size + 1 := (by have := odlt; omega); have ez0a : we.heap.size ≠ w.heap.size + 1 + 1 := (by have := odlt; omega); have ez0b : we.heap.size + 1 ≠ w.heap.size + 1 + 1 := (by have := odlt; omega); have ez1a : we.heap.size ≠ b := (by have := hbl2; omega); have ez1b : we.heap.size + 1 ≠ b := (by have := hbl2; omega); have zb1 := Blk.below V2b1 hbe V2b1.lt; have zb1_0 := zb1.cell 0; have zb1f0 := zb1.frozen 0; have zb1_1 := zb1.cell 1; have zb1f1 := zb1.frozen 1; have zb1_2 := zb1.cell 2; have zb1f2 := zb1.frozen 2; have zb1_3 := zb1.cell 3; have zb1f3 := zb1.frozen 3; have zb1_4 := zb1.cell 4; have zb1f4 := zb1.frozen 4; have zb1_5 := zb1.cell 5; have zb1f5 := zb1.frozen 5; have zb1_6 := zb1.cell 6; have zb1f6 := zb1.frozen 6; have zb1lt : w2.heap.size < we.heap.size := zb1.lt) | (go_at_call 54; (with_reducible refine (hWk ((w2.alloc (.cells #[.int .i64 0, .int .i64 0, .int .i64 0, .int .i64 0, .int .i64 0, .int .i64 0, .slice none 0 0] 58)).alloc (.cells #[.int .i64 0, .int .i64 0, .int .i64 0, .int .i64 0, .int .i64 0, .int .i64 0, .int .i64 0] 42)).drew B3 (hds2.below B3)).mono ?_); rintro e we ⟨A2, d2, rfl, hown, hbe⟩; have hV := V3; obtain ⟨bse, hK⟩ : ∃ bse : Nat, Mem ((w2.alloc (.cells #[.int .i64 0, .int .i64 0, .int .i64 0, .int .i64 0, .int .i64 0, .int .i64 0, .slice none 0 0] 58)).alloc (.cells #[.int .i64 0, .int .i64 0, .int .i64 0, .int .i64 0, .int .i64 0, .int .i64 0, .int .i64 0] 42)).drew [] we [.row (bse) (44) (2) (.slice A2 l2.length d2) (l2.length) (drs l2)] := ⟨_, Mem.row (Mem.init _) hbe hown (Nat.le_refl _)⟩; have hWe : Below w2.heap.size w2 we := B3.trans (hbe.mono B3.size); have s0 := (hWe.cell (p := ⟨w.heap.size + 1 + 1, 14, none⟩) odlt).trans od14; have s1 := (hWe.cell (p := ⟨b, o, none⟩) hbl2).trans q0; have s2 := (hWe.cell (p := ⟨b, o + 1, none⟩) hbl2).trans q1; have s3 := (hWe.cell (p := ⟨b, o + 2, none⟩) hbl2).trans q2; have s4 := (hWe.cell (p := ⟨b, o + 3, none⟩) hbl2).trans q3; have s5 := (hWe.cell (p := ⟨b, o + 4, none⟩) hbl2).trans q4; have s6 := (hWe.cell (p := ⟨b, o + 5, none⟩) hbl2).trans q5; have s7 := (hWe.cell (p := ⟨b, o + 6, none⟩) hbl2).trans q6; have sz := hWe.size; have ez0c : we.heap.size ≠ w.heap.size + 1 := (by have := odlt; omega); have ez0a : we.heap.size ≠ w.heap.size + 1 + 1 := (by have := odlt; omega); have ez0b : we.heap.size + 1 ≠ w.heap.size + 1 + 1 := (by have := odlt; omega); have ez1a : we.heap.size ≠ b := (by have := hbl2; omega); have ez1b : we.heap.size + 1 ≠ b := (by have := hbl2; omega); have zb0 := Blk.below V3b0 hbe V3b0.lt; have zb0_0 := zb0.cell 0; have zb0f0 := zb0.frozen 0; have zb0_1 := zb0.cell 1; have zb0f1 := zb0.frozen 1; have zb0_2 := zb0.cell 2; have zb0f2 := zb0.frozen 2; have zb0_3 := zb0.cell 3; have zb0f3 := zb0.frozen 3; have zb0_4 := zb0.cell 4; have zb0f4 := zb0.frozen 4; have zb0_5 := zb0.cell 5; have zb0f5 := zb0.frozen 5; have zb0_6 := zb0.cell 6; have zb0f6 := zb0.frozen 6; have zb0lt : w2.heap.size < we.heap.size := zb0.lt; have zb1 := Blk.below V3b1 hbe V3b1.lt; have zb1_0 := zb1.cell 0; have zb1f0 := zb1.frozen 0; have zb1_1 := zb1.cell 1; have zb1f1 := zb1.frozen 1; have zb1_2 := zb1.cell 2; have zb1f2 := zb1.frozen 2; have zb1_3 := zb1.cell 3; have zb1f3 := zb1.frozen 3; have zb1_4 := zb1.cell 4; have zb1f4 := zb1.frozen 4; have zb1_5 := zb1.cell 5; have zb1f5 := zb1.frozen 5; have zb1_6 := zb1.cell 6; have zb1f6 := zb1.frozen 6; have zb1lt : w2.heap.size + 1 < we.heap.size := zb1.lt; have zn1 : w2.heap.size ≠ w2.heap.size + 1 := (by omega); have zn2 : w2.heap.size + 1 ≠ w2.heap.size := (by omega)) | (go_at_call 54; (with_reducible refine (hWk ((w2.alloc (.cells #[.int .i64 0, .int .i64 0, .int .i64 0, .int .i64 0, .int .i64 0, .int .i64 0, .int .i64 0] 42)).alloc (.cells #[.int .i64 0, .int .i64 0, .int .i64 0, .int .i64 0, .int .i64 0, .int .i64 0, .slice none 0 0] 58)).drew B4 (hds2.below B4)).mono ?_); rintro e we ⟨A2, d2, rfl, hown, hbe⟩; have hV := V4; obtain ⟨bse, hK⟩ : ∃ bse : Nat, Mem ((w2.alloc (.cells #[.int .i64 0, .int .i64 0, .int .i64 0, .int .i64 0, .int .i64 0, .int .i64 0, .int .i64 0] 42)).alloc (.cells #[.int .i64 0, .int .i64 0, .int .i64 0, .int .i64 0, .int .i64 0, .int .i64 0, .slice none 0 0] 58)).drew [] we [.row (bse) (44) (2) (.slice A2 l2.length d2) (l2.length) (drs l2)] := ⟨_, Mem.row (Mem.init _) hbe hown (Nat.le_refl _)⟩; have hWe : Below w2.heap.size w2 we := B4.trans (hbe.mono B4.size); have s0 := (hWe.cell (p := ⟨w.heap.size + 1 + 1, 14, none⟩) odlt).trans od14; have s1 := (hWe.cell (p := ⟨b, o, none⟩) hbl2).trans q0; have s2 := (hWe.cell (p := ⟨b, o + 1, none⟩) hbl2).trans q1; have s3 := (hWe.cell (p := ⟨b, o + 2, none⟩) hbl2).trans q2; have s4 := (hWe.cell (p := ⟨b, o + 3, none⟩) hbl2).trans q3; have s5 := (hWe.cell (p := ⟨b, o + 4, none⟩) hbl2).trans q4; have s6 := (hWe.cell (p := ⟨b, o + 5, none⟩) hbl2).trans q5; have s7 := (hWe.cell (p := ⟨b, o + 6, none⟩) hbl2).trans q6; have sz := hWe.size; have ez0c : we.heap.size ≠ w.heap.size + 1 := (by have := odlt; omega); have ez0a : we.heap.size ≠ w.heap.size + 1 + 1 := (by have := odlt; omega); have ez0b : we.heap.size + 1 ≠ w.heap.size + 1 + 1 := (by have := odlt; omega); have ez1a : we.heap.size ≠ b := (by have := hbl2; omega); have ez1b : we.heap.size + 1 ≠ b := (by have := hbl2; omega); have zb0 := Blk.below V4b0 hbe V4b0.lt; have zb0_0 := zb0.cell 0; have zb0f0 := zb0.frozen 0; have zb0_1 := zb0.cell 1; have zb0f1 := zb0.frozen 1; have zb0_2 := zb0.cell 2; have zb0f2 := zb0.frozen 2; have zb0_3 := zb0.cell 3; have zb0f3 := zb0.frozen 3; have zb0_4 := zb0.cell 4; have zb0f4 := zb0.frozen 4; have zb0_5 := zb0.cell 5; have zb0f5 := zb0.frozen 5; have zb0_6 := zb0.cell 6; have zb0f6 := zb0.frozen 6; have zb0lt : w2.heap.size + 1 < we.heap.size := zb0.lt; have zb1 := Blk.below V4b1 hbe V4b1.lt; have zb1_0 := zb1.cell 0; have zb1f0 := zb1.frozen 0; have zb1_1 := zb1.cell 1; have zb1f1 := zb1.frozen 1; have zb1_2 := zb1.cell 2; have zb1f2 := zb1.frozen 2; have zb1_3 := zb1.cell 3; have zb1f3 := zb1.frozen 3; have zb1_4 := zb1.cell 4; have zb1f4 := zb1.frozen 4; have zb1_5 := zb1.cell 5; have zb1f5 := zb1.frozen 5; have zb1_6 := zb1.cell 6; have zb1f6 := zb1.frozen 6; have zb1lt : w2.heap.size < we.heap.size := zb1.lt; have zn1 : w2.heap.size + 1 ≠ w2.heap.size := (by omega); have zn2 : w2.heap.size ≠ w2.heap.size + 1 := (by omega)))
   all_goals
     go_wp2_with fail
     go_meet
     refine ⟨_, _, A2, d2, bse, rfl, rfl, rfl, ?_⟩
     first
     | with_reducible exact ⟨cr2_a H hV hK, (cr2_a (Mem.init w2) hV hK).below⟩
     | with_reducible exact ⟨cr2_b H hV hK, (cr2_b (Mem.init w2) hV hK).below⟩
     | (have h := cr2_c (c1 := #[.int .i64 ↑me2, .int .i64 ↑rev2, .int .i64 ↑next2, .int .i64 ↑month2, .int .i64 ↑bought2, .int .i64 free2, .slice A2 l2.length d2]) (c2 := #[.int .i64 ↑id, .int .i64 ↑te, .int .i64 ↑de, .int .i64 ↑fe, .int .i64 ↑pr, .int .i64 ↑ch, .int .i64 ↑un]) (t1 := 58) (t2 := 42) H hV hK [(0, .int .i64 ↑me2), (1, .int .i64 ↑rev2), (2, .int .i64 ↑next2), (3, .int .i64 ↑month2), (4, .int .i64 ↑bought2), (5, .int .i64 free2), (6, .slice A2 l2.length d2)] (by simp only [List.foldl_cons, List.foldl_nil, List.setIfInBounds_toArray, List.set_cons_zero, List.set_cons_succ])
        have h2 := (cr2_c (c1 := #[.int .i64 ↑me2, .int .i64 ↑rev2, .int .i64 ↑next2, .int .i64 ↑month2, .int .i64 ↑bought2, .int .i64 free2, .slice A2 l2.length d2]) (c2 := #[.int .i64 ↑id, .int .i64 ↑te, .int .i64 ↑de, .int .i64 ↑fe, .int .i64 ↑pr, .int .i64 ↑ch, .int .i64 ↑un]) (t1 := 58) (t2 := 42) (Mem.init w2) hV hK [(0, .int .i64 ↑me2), (1, .int .i64 ↑rev2), (2, .int .i64 ↑next2), (3, .int .i64 ↑month2), (4, .int .i64 ↑bought2), (5, .int .i64 free2), (6, .slice A2 l2.length d2)] (by simp only [List.foldl_cons, List.foldl_nil, List.setIfInBounds_toArray, List.set_cons_zero, List.set_cons_succ])).below
        simp only [sets, List.foldl_cons, List.foldl_nil] at h h2
        with_reducible exact ⟨h, h2⟩)
     | (have h := cr2_d (c1 := #[.int .i64 ↑me2, .int .i64 ↑rev2, .int .i64 ↑next2, .int .i64 ↑month2, .int .i64 ↑bought2, .int .i64 free2, .slice A2 l2.length d2]) (c2 := #[.int .i64 ↑id, .int .i64 ↑te, .int .i64 ↑de, .int .i64 ↑fe, .int .i64 ↑pr, .int .i64 ↑ch, .int .i64 ↑un]) (t1 := 58) (t2 := 42) H hV hK [(0, .int .i64 ↑id), (1, .int .i64 ↑te), (2, .int .i64 ↑de), (3, .int .i64 ↑fe), (4, .int .i64 ↑pr), (5, .int .i64 ↑ch), (6, .int .i64 ↑un)] (by simp only [List.foldl_cons, List.foldl_nil, List.setIfInBounds_toArray, List.set_cons_zero, List.set_cons_succ])
        have h2 := (cr2_d (c1 := #[.int .i64 ↑me2, .int .i64 ↑rev2, .int .i64 ↑next2, .int .i64 ↑month2, .int .i64 ↑bought2, .int .i64 free2, .slice A2 l2.length d2]) (c2 := #[.int .i64 ↑id, .int .i64 ↑te, .int .i64 ↑de, .int .i64 ↑fe, .int .i64 ↑pr, .int .i64 ↑ch, .int .i64 ↑un]) (t1 := 58) (t2 := 42) (Mem.init w2) hV hK [(0, .int .i64 ↑id), (1, .int .i64 ↑te), (2, .int .i64 ↑de), (3, .int .i64 ↑fe), (4, .int .i64 ↑pr), (5, .int .i64 ↑ch), (6, .int .i64 ↑un)] (by simp only [List.foldl_cons, List.foldl_nil, List.setIfInBounds_toArray, List.set_cons_zero, List.set_cons_succ])).below
        simp only [sets, List.foldl_cons, List.foldl_nil] at h h2
        with_reducible exact ⟨h, h2⟩)
     | (have h := cr2_e (c1 := #[.int .i64 ↑me2, .int .i64 ↑rev2, .int .i64 ↑next2, .int .i64 ↑month2, .int .i64 ↑bought2, .int .i64 free2, .slice A2 l2.length d2]) (c2 := #[.int .i64 ↑id, .int .i64 ↑te, .int .i64 ↑de, .int .i64 ↑fe, .int .i64 ↑pr, .int .i64 ↑ch, .int .i64 ↑un]) (t1 := 58) (t2 := 42) H hV hK [(0, .int .i64 ↑me2), (1, .int .i64 ↑rev2), (2, .int .i64 ↑next2), (3, .int .i64 ↑month2), (4, .int .i64 ↑bought2), (5, .int .i64 free2), (6, .slice A2 l2.length d2)] [(0, .int .i64 ↑id), (1, .int .i64 ↑te), (2, .int .i64 ↑de), (3, .int .i64 ↑fe), (4, .int .i64 ↑pr), (5, .int .i64 ↑ch), (6, .int .i64 ↑un)] (by simp only [List.foldl_cons, List.foldl_nil, List.setIfInBounds_toArray, List.set_cons_zero, List.set_cons_succ]) (by simp only [List.foldl_cons, List.foldl_nil, List.setIfInBounds_toArray, List.set_cons_zero, List.set_cons_succ])
        have h2 := (cr2_e (c1 := #[.int .i64 ↑me2, .int .i64 ↑rev2, .int .i64 ↑next2, .int .i64 ↑month2, .int .i64 ↑bought2, .int .i64 free2, .slice A2 l2.length d2]) (c2 := #[.int .i64 ↑id, .int .i64 ↑te, .int .i64 ↑de, .int .i64 ↑fe, .int .i64 ↑pr, .int .i64 ↑ch, .int .i64 ↑un]) (t1 := 58) (t2 := 42) (Mem.init w2) hV hK [(0, .int .i64 ↑me2), (1, .int .i64 ↑rev2), (2, .int .i64 ↑next2), (3, .int .i64 ↑month2), (4, .int .i64 ↑bought2), (5, .int .i64 free2), (6, .slice A2 l2.length d2)] [(0, .int .i64 ↑id), (1, .int .i64 ↑te), (2, .int .i64 ↑de), (3, .int .i64 ↑fe), (4, .int .i64 ↑pr), (5, .int .i64 ↑ch), (6, .int .i64 ↑un)] (by simp only [List.foldl_cons, List.foldl_nil, List.setIfInBounds_toArray, List.set_cons_zero, List.set_cons_succ]) (by simp only [List.foldl_cons, List.foldl_nil, List.setIfInBounds_toArray, List.set_cons_zero, List.set_cons_succ])).below
        simp only [sets, List.foldl_cons, List.foldl_nil] at h h2
        with_reducible exact ⟨h, h2⟩)
     | (have h := cr2_f (c1 := #[.int .i64 ↑me2, .int .i64 ↑rev2, .int .i64 ↑next2, .int .i64 ↑month2, .int .i64 ↑bought2, .int .i64 free2, .slice A2 l2.length d2]) (c2 := #[.int .i64 ↑id, .int .i64 ↑te, .int .i64 ↑de, .int .i64 ↑fe, .int .i64 ↑pr, .int .i64 ↑ch, .int .i64 ↑un]) (t1 := 58) (t2 := 42) H hV hK [(0, .int .i64 ↑me2), (1, .int .i64 ↑rev2), (2, .int .i64 ↑next2), (3, .int .i64 ↑month2), (4, .int .i64 ↑bought2), (5, .int .i64 free2), (6, .slice A2 l2.length d2)] [(0, .int .i64 ↑id), (1, .int .i64 ↑te), (2, .int .i64 ↑de), (3, .int .i64 ↑fe), (4, .int .i64 ↑pr), (5, .int .i64 ↑ch), (6, .int .i64 ↑un)] (by simp only [List.foldl_cons, List.foldl_nil, List.setIfInBounds_toArray, List.set_cons_zero, List.set_cons_succ]) (by simp only [List.foldl_cons, List.foldl_nil, List.setIfInBounds_toArray, List.set_cons_zero, List.set_cons_succ])
        have h2 := (cr2_f (c1 := #[.int .i64 ↑me2, .int .i64 ↑rev2, .int .i64 ↑next2, .int .i64 ↑month2, .int .i64 ↑bought2, .int .i64 free2, .slice A2 l2.length d2]) (c2 := #[.int .i64 ↑id, .int .i64 ↑te, .int .i64 ↑de, .int .i64 ↑fe, .int .i64 ↑pr, .int .i64 ↑ch, .int .i64 ↑un]) (t1 := 58) (t2 := 42) (Mem.init w2) hV hK [(0, .int .i64 ↑me2), (1, .int .i64 ↑rev2), (2, .int .i64 ↑next2), (3, .int .i64 ↑month2), (4, .int .i64 ↑bought2), (5, .int .i64 free2), (6, .slice A2 l2.length d2)] [(0, .int .i64 ↑id), (1, .int .i64 ↑te), (2, .int .i64 ↑de), (3, .int .i64 ↑fe), (4, .int .i64 ↑pr), (5, .int .i64 ↑ch), (6, .int .i64 ↑un)] (by simp only [List.foldl_cons, List.foldl_nil, List.setIfInBounds_toArray, List.set_cons_zero, List.set_cons_succ]) (by simp only [List.foldl_cons, List.foldl_nil, List.setIfInBounds_toArray, List.set_cons_zero, List.set_cons_succ])).below
        simp only [sets, List.foldl_cons, List.foldl_nil] at h h2
        with_reducible exact ⟨h, h2⟩)
 case rest =>
   obtain ⟨na, bi, A2, d2, base, rfl, rfl, rfl, H, hCR⟩ := hcut
   subst hLL
   replace H : Mem (w) [] (wc) [.blk (w.heap.size) 28 #[.slice At nt ct, .int .i64 ↑T.fx, .int .i64 ↑T.fb, .int .i64 ↑T.db, .int .i64 ↑T.al], .blk (w.heap.size + 1) 32 #[.slice Ao no co], .blk (w.heap.size + 1 + 1) 153 #[.int .i64 3, .int .i64 ↑me, .int .i64 ↑mo, .int .i64 0, .int .i64 0, .int .i64 0, .int .i64 0, .int .i64 0, .int .i64 0, .int .i64 0, .int .i64 0, .int .i64 0, .int .i64 0, .int .i64 0, .func (.func 54) #[] #[.pointer (some ⟨gt, 0, none⟩), .pointer (some ⟨g1, 0, none⟩)]], .blk (w.heap.size + 1 + 1 + 1) 146 #[.slice none 0 0, .slice none 0 0, .int .i64 0, .int .i64 0, .int .i64 0, .int .i64 0, .int .i64 0, .int .i64 0, .int .i64 0, .int .i64 0, .string ⟨#[]⟩], .blk (g) 103 #[.slice (some ⟨b, off, none⟩) nb cb, .slice At nt ct, .int .i64 ↑T.fx, .int .i64 ↑T.fb, .int .i64 ↑T.db, .int .i64 ↑T.al, .slice Ac nc cc, .int .i64 ↑L.length], .blk (na) 58 #[.int .i64 ↑me2, .int .i64 ↑rev2, .int .i64 ↑next2, .int .i64 ↑month2, .int .i64 ↑bought2, .int .i64 free2, .slice A2 l2.length d2], .blk (bi) 42 #[.int .i64 ↑id, .int .i64 ↑te, .int .i64 ↑de, .int .i64 ↑fe, .int .i64 ↑pr, .int .i64 ↑ch, .int .i64 ↑un], .row (base) (44) (2) (.slice A2 l2.length d2) (l2.length) (drs l2)] := H
   obtain ⟨wk, hwk⟩ : ∃ wk, wk = wc := ⟨_, rfl⟩
   subst hwk

   have hc3 := hc2.below (Below.mono hCR (Nat.le_refl _))
   have q1c := (hCR.cell (p := ⟨b, o + 1, none⟩) hbl2).trans q1
   have hbl3 := Nat.lt_of_lt_of_le hbl2 hCR.size
   clear q0 q1 q2 q3 q4 q5 q6 hbl2 hds2 hWk hc2 hCR
   by_cases hE : E = 0
   rotate_left
   · have hEb : ((E : Int) == 0) = false := by simp; omega
     have hEn : ¬ (E : Int) = 0 := by omega
     clear hK q1c

     clear odlt od0 odf0 od1 odf1 od2 odf2 od3 odf3 od4 odf4 od5 odf5 od6 odf6 od7 odf7 od8 odf8 od9 odf9 od10 odf10 od11 odf11 od12 odf12 od13 odf13 od14 odf14
     obtain ⟨rslt, rs0, rsf0, rs1, rsf1, rs2, rsf2, rs3, rsf3, rs4, rsf4, rs5, rsf5, rs6, rsf6, rs7, rsf7, rs8, rsf8, rs9, rsf9, rs10, rsf10⟩ := H.c11 3 rfl
     go_wp2
     obtain ⟨wz, hwz⟩ : ∃ wz, (((((((((((wk).setCell ⟨w.heap.size + 1 + 1 + 1, 0, none⟩ (.slice none 0 0)).setCell ⟨w.heap.size + 1 + 1 + 1, 1, none⟩ (.slice none 0 0)).setCell ⟨w.heap.size + 1 + 1 + 1, 2, none⟩ (.int .i64 0)).setCell ⟨w.heap.size + 1 + 1 + 1, 3, none⟩ (.int .i64 0)).setCell ⟨w.heap.size + 1 + 1 + 1, 4, none⟩ (.int .i64 0)).setCell ⟨w.heap.size + 1 + 1 + 1, 5, none⟩ (.int .i64 0)).setCell ⟨w.heap.size + 1 + 1 + 1, 6, none⟩ (.int .i64 0)).setCell ⟨w.heap.size + 1 + 1 + 1, 7, none⟩ (.int .i64 0)).setCell ⟨w.heap.size + 1 + 1 + 1, 8, none⟩ (.int .i64 0)).setCell ⟨w.heap.size + 1 + 1 + 1, 9, none⟩ (.int .i64 0)).setCell ⟨w.heap.size + 1 + 1 + 1, 10, none⟩ (.string ⟨#[]⟩) = wz := ⟨_, rfl⟩
     replace H := Mem.set 3 H rfl (0) (.slice none 0 0)
     replace H := Mem.set 3 H rfl (1) (.slice none 0 0)
     replace H := Mem.set 3 H rfl (2) (.int .i64 0)
     replace H := Mem.set 3 H rfl (3) (.int .i64 0)
     replace H := Mem.set 3 H rfl (4) (.int .i64 0)
     replace H := Mem.set 3 H rfl (5) (.int .i64 0)
     replace H := Mem.set 3 H rfl (6) (.int .i64 0)
     replace H := Mem.set 3 H rfl (7) (.int .i64 0)
     replace H := Mem.set 3 H rfl (8) (.int .i64 0)
     replace H := Mem.set 3 H rfl (9) (.int .i64 0)
     replace H := Mem.set 3 H rfl (10) (.string ⟨#[]⟩)
     simp only [List.set_cons_zero, List.set_cons_succ, List.setIfInBounds_toArray] at H
     rw [hwz] at H ⊢
     clear hwz
     clear rslt rs0 rsf0 rs1 rsf1 rs2 rsf2 rs3 rsf3 rs4 rsf4 rs5 rsf5 rs6 rsf6 rs7 rsf7 rs8 rsf8 rs9 rsf9 rs10 rsf10
     obtain ⟨rslt, rs0, rsf0, rs1, rsf1, rs2, rsf2, rs3, rsf3, rs4, rsf4, rs5, rsf5, rs6, rsf6, rs7, rsf7, rs8, rsf8, rs9, rsf9, rs10, rsf10⟩ := H.c11 3 rfl
     refine bodyPost_ret (v := .tuple #[.agg #[.slice none 0 0, .slice none 0 0, .int .i64 0, .int .i64 0, .int .i64 0, .int .i64 0, .int .i64 0, .int .i64 0, .int .i64 0, .int .i64 0, .string ⟨#[]⟩], .int .i64 ↑E]) (by simp [results, Tryz.results53, go_sem, rs0, rs1, rs2, rs3, rs4, rs5, rs6, rs7, rs8, rs9, rs10]; done) rfl ?_
     exact .inr ⟨hE, rfl, H.below⟩
   · subst hE
     skip
     obtain ⟨hk0, hvo⟩ := hz rfl
     clear hz
     obtain ⟨hrev, hme, hlp, h5, hd⟩ := HB.out
     obtain ⟨body, hbody⟩ : ∃ bb, tbody 0 id un = bb := ⟨_, rfl⟩
     have hB := fun W => tbody_ok 0 id un 0 body W hk0 (Lib.hid hbody)
     have hbl := tbody_le hk0
     rw [hbody] at hbl
     have hmk : mayK ((me : Int), (rev : Int), (body : Int)) := by unfold mayK; dsimp only; omega
     have hwf : wf3 (me : Int) (rev : Int) (body : Int) := ⟨WalkArith.wf_i64 (by omega), WalkArith.wf_i64 (by omega), WalkArith.wf_i64 (by omega)⟩
     obtain ⟨t0, t9⟩ := issT_bd (x := (me : Int)) (y := (rev : Int)) (z := (body : Int)) (d := (d : Int)) hlp (by omega) (by omega)
     obtain ⟨t2, ht2⟩ : ∃ t2 : Nat, issT lp (me : Int) (rev : Int) (body : Int) (d : Int) = (t2 : Int) := ⟨(issT lp (me : Int) (rev : Int) (body : Int) (d : Int)).toNat, by omega⟩
     rw [ht2] at t0 t9
     obtain ⟨lp2, hl2⟩ : ∃ lp2, issL lp (me : Int) (rev : Int) (body : Int) (d : Int) = lp2 := ⟨_, rfl⟩
     have hO2 := issL_ok (x := (me : Int)) (y := (rev : Int)) (z := (body : Int)) (d := (d : Int)) hlp hmk (by omega) (by omega) h5
     rw [hl2] at hO2
     have hI := fun W h => issue_ok (.slice Ao no co) lp lp2 (me : Int) (rev : Int) (body : Int) (d : Int) (t2 : Int) W h hlp hmk hwf (by omega) (by omega) h5 (Lib.hid hl2) (Lib.hid ht2)
     unfold RetIss at hI
     have ht65 : t2 ≤ 65535 := by omega
     have hk2 : TkOk 0 id un t2 := ⟨hk0.h1, hk0.h2, hk0.h3, hk0.h4, ht65⟩
     have hFm := fun W => format_ok 0 id un t2 W hk2
     have hKv := fun g x0 x1 x2 x3 x4 x5 W hs hw => hK g x0 x1 x2 x3 x4 x5 (Ev.mk 3 me mo id te de fe pr ch un t2 0 0) W (hvo t2 ht65) hs hw
     have hev : evV (Ev.mk 3 me mo id te de fe pr ch un t2 0 0) = .agg #[.int .i64 3, .int .i64 ↑me, .int .i64 ↑mo, .int .i64 ↑id, .int .i64 ↑te, .int .i64 ↑de, .int .i64 ↑fe, .int .i64 ↑pr, .int .i64 ↑ch, .int .i64 ↑un, .int .i64 ↑t2, .int .i64 0, .int .i64 0] := rfl
     rw [hev] at hKv
     obtain ⟨wl, hwl⟩ : ∃ wl, putW c.length (L.length * 14) (evW ⟨3, me, mo, id, te, de, fe, pr, ch, un, t2, 0, 0⟩) = wl := ⟨_, rfl⟩
     rw [hwl] at hKv
     have HF := Lib.hid (And.intro ht65 (And.intro hl2 (And.intro ht2 (And.intro hO2 (And.intro hwl hbody)))))
     simp only [Int.cast_ofNat_Int] at hB hFm
     obtain ⟨dg, hdg⟩ : ∃ dg, dstr (tokD 0 id un t2) = dg := ⟨_, rfl⟩
     rw [hdg] at hFm
     clear hK hk0 hvo hbl hmk hwf t0 t9 ht2 hl2 hO2 ht65 hk2 hev hwl hbody
     clear odlt od0 odf0 od1 odf1 od2 odf2 od3 odf3 od4 odf4 od5 odf5 od6 odf6 od7 odf7 od8 odf8 od9 odf9 od10 odf10 od11 odf11 od12 odf12 od13 odf13 od14 odf14
     obtain ⟨odlt, od0, odf0, od1, odf1, od2, odf2, od3, odf3, od4, odf4, od5, odf5, od6, odf6, od7, odf7, od8, odf8, od9, odf9, od10, odf10, od11, odf11, od12, odf12, od13, odf13, od14, odf14⟩ := H.c15 2 rfl
     obtain ⟨bilt, bi0, bif0, bi1, bif1, bi2, bif2, bi3, bif3, bi4, bif4, bi5, bif5, bi6, bif6⟩ := H.c7 6 rfl
     obtain ⟨nalt, na0, naf0, na1, naf1, na2, naf2, na3, naf3, na4, naf4, na5, naf5, na6, naf6⟩ := H.c7 5 rfl
     have ne_od_bi := H.ne 2 6 rfl rfl (by decide)
     have ne_od_na := H.ne 2 5 rfl rfl (by decide)
     have ne_bi_od := H.ne 6 2 rfl rfl (by decide)
     have ne_bi_na := H.ne 6 5 rfl rfl (by decide)
     have ne_na_od := H.ne 5 2 rfl rfl (by decide)
     have ne_na_bi := H.ne 5 6 rfl rfl (by decide)
     go_wp2_with fail
     replace H := Mem.alloc H (wk.heap.size) (by first | (simp; done) | (simp; omega)) #[.int .i64 0, .int .i64 ↑id, .int .i64 ↑un, .int .i64 0] 120
     simp only [List.cons_append, List.nil_append] at H
     refine (hB _).mono ?_
     rintro e wd ⟨rfl, hbd⟩
     have hbw2 : Below wk.heap.size wk wd := (below_a1 wk _).trans (Below.mono hbd (by simp))
     have hc4 := hc3.below hbw2
     have q1d := (hbw2.cell (p := ⟨b, o + 1, none⟩) hbl3).trans q1c
     have hbl4 := Nat.lt_of_lt_of_le hbl3 hbw2.size
     replace H := Mem.call H hbd
     have hpsd := hps.below H.below
     clear hB hbd hc3 q1c hbl3 hbw2
     clear odlt od0 odf0 od1 odf1 od2 odf2 od3 odf3 od4 odf4 od5 odf5 od6 odf6 od7 odf7 od8 odf8 od9 odf9 od10 odf10 od11 odf11 od12 odf12 od13 odf13 od14 odf14 bilt bi0 bif0 bi1 bif1 bi2 bif2 bi3 bif3 bi4 bif4 bi5 bif5 bi6 bif6 nalt na0 naf0 na1 naf1 na2 naf2 na3 naf3 na4 naf4 na5 naf5 na6 naf6 ne_od_bi ne_od_na ne_bi_od ne_bi_na ne_na_od ne_na_bi
     obtain ⟨oolt, oo0, oof0⟩ := H.c1 1 rfl
     obtain ⟨odlt, od0, odf0, od1, odf1, od2, odf2, od3, odf3, od4, odf4, od5, odf5, od6, odf6, od7, odf7, od8, odf8, od9, odf9, od10, odf10, od11, odf11, od12, odf12, od13, odf13, od14, odf14⟩ := H.c15 2 rfl
     have ne_oo_od := H.ne 1 2 rfl rfl (by decide)
     have ne_od_oo := H.ne 2 1 rfl rfl (by decide)
     go_upto_region 16 with fail
     obtain ⟨LL, hLL⟩ : ∃ LL : List Chunk, [.blk (w.heap.size) 28 #[.slice At nt ct, .int .i64 ↑T.fx, .int .i64 ↑T.fb, .int .i64 ↑T.db, .int .i64 ↑T.al], .blk (w.heap.size + 1) 32 #[.slice Ao no co], .blk (w.heap.size + 1 + 1) 153 #[.int .i64 3, .int .i64 ↑me, .int .i64 ↑mo, .int .i64 0, .int .i64 0, .int .i64 0, .int .i64 0, .int .i64 0, .int .i64 0, .int .i64 0, .int .i64 0, .int .i64 0, .int .i64 0, .int .i64 0, .func (.func 54) #[] #[.pointer (some ⟨gt, 0, none⟩), .pointer (some ⟨g1, 0, none⟩)]], .blk (w.heap.size + 1 + 1 + 1) 146 #[.slice none 0 0, .slice none 0 0, .int .i64 0, .int .i64 0, .int .i64 0, .int .i64 0, .int .i64 0, .int .i64 0, .int .i64 0, .int .i64 0, .string ⟨#[]⟩], .blk (g) 103 #[.slice (some ⟨b, off, none⟩) nb cb, .slice At nt ct, .int .i64 ↑T.fx, .int .i64 ↑T.fb, .int .i64 ↑T.db, .int .i64 ↑T.al, .slice Ac nc cc, .int .i64 ↑L.length], .blk (na) 58 #[.int .i64 ↑me2, .int .i64 ↑rev2, .int .i64 ↑next2, .int .i64 ↑month2, .int .i64 ↑bought2, .int .i64 free2, .slice A2 l2.length d2], .blk (bi) 42 #[.int .i64 ↑id, .int .i64 ↑te, .int .i64 ↑de, .int .i64 ↑fe, .int .i64 ↑pr, .int .i64 ↑ch, .int .i64 ↑un], .row (base) (44) (2) (.slice A2 l2.length d2) (l2.length) (drs l2), .blk (wk.heap.size) 120 #[.int .i64 0, .int .i64 ↑id, .int .i64 ↑un, .int .i64 0]] = LL := ⟨_, rfl⟩
     rw [hLL] at H
     go_cut [19, 20, 13] (fun p0 p1 p2 wx => ∃ (no2 : Nat) (A4 : Option Addr) (c4 : Nat) (base : Nat), p0 = .pointer (some ⟨no2, 0, none⟩) ∧ p1 = .int .i64 ↑t2 ∧ p2 = .int .i64 0 ∧ Mem (w) [] wx (LL ++ (.blk no2 32 #[.slice A4 lp2.length c4] :: [.row (base) (225) (4) (.slice A4 lp2.length c4) (lp2.length) (prs lp2)])) ∧ Below wd.heap.size wd wx)
     case first =>
       have nz0a : wd.heap.size ≠ w.heap.size + 1 := by have := oolt; omega
       have nz0b : wd.heap.size + 1 ≠ w.heap.size + 1 := by have := oolt; omega
       have nz0c : w.heap.size + 1 ≠ wd.heap.size := by have := oolt; omega
       have nz0d : w.heap.size + 1 ≠ wd.heap.size + 1 := by have := oolt; omega
       have nz1a : wd.heap.size ≠ w.heap.size + 1 + 1 := by have := odlt; omega
       have nz1b : wd.heap.size + 1 ≠ w.heap.size + 1 + 1 := by have := odlt; omega
       have nz1c : w.heap.size + 1 + 1 ≠ wd.heap.size := by have := odlt; omega
       have nz1d : w.heap.size + 1 + 1 ≠ wd.heap.size + 1 := by have := odlt; omega
       have nz2a : wd.heap.size ≠ b := by have := hbl4; omega
       have nz2b : wd.heap.size + 1 ≠ b := by have := hbl4; omega
       have nz2c : b ≠ wd.heap.size := by have := hbl4; omega
       have nz2d : b ≠ wd.heap.size + 1 := by have := hbl4; omega
       have nz0e : wd.heap.size ≠ w.heap.size := by have := oolt; omega
       have nz0f : w.heap.size ≠ wd.heap.size := by have := oolt; omega
       have nz1e : wd.heap.size ≠ w.heap.size + 1 := by have := odlt; omega
       have nz1f : w.heap.size + 1 ≠ wd.heap.size := by have := odlt; omega
       have V0 : Mem wd [] (wd).drew [] := (Mem.init wd).drew
       have B0 := V0.below
       have V1 : Mem wd [] (wd.alloc (.cells #[.slice none 0 0] 32)).drew [.blk (wd.heap.size) 32 #[.slice none 0 0]] := ((Mem.init wd).alloc _ rfl #[.slice none 0 0] 32).drew
       have B1 := V1.below
       have V1b0 := V1.blk 0 rfl
       go_region_held3 (fun w' => w'.cell? ⟨w.heap.size + 1, 0, none⟩ = some (.slice Ao no co) ∧ w'.cell? ⟨w.heap.size + 1 + 1, 0, none⟩ = some (.int .i64 3) ∧ w'.cell? ⟨w.heap.size + 1 + 1, 1, none⟩ = some (.int .i64 ↑me) ∧ w'.cell? ⟨w.heap.size + 1 + 1, 2, none⟩ = some (.int .i64 ↑mo) ∧ w'.cell? ⟨w.heap.size + 1 + 1, 3, none⟩ = some (.int .i64 0) ∧ w'.cell? ⟨w.heap.size + 1 + 1, 4, none⟩ = some (.int .i64 0) ∧ w'.cell? ⟨w.heap.size + 1 + 1, 5, none⟩ = some (.int .i64 0) ∧ w'.cell? ⟨w.heap.size + 1 + 1, 6, none⟩ = some (.int .i64 0) ∧ w'.cell? ⟨w.heap.size + 1 + 1, 7, none⟩ = some (.int .i64 0) ∧ w'.cell? ⟨w.heap.size + 1 + 1, 8, none⟩ = some (.int .i64 0) ∧ w'.cell? ⟨w.heap.size + 1 + 1, 9, none⟩ = some (.int .i64 0) ∧ w'.cell? ⟨w.heap.size + 1 + 1, 10, none⟩ = some (.int .i64 0) ∧ w'.cell? ⟨w.heap.size + 1 + 1, 11, none⟩ = some (.int .i64 0) ∧ w'.cell? ⟨w.heap.size + 1 + 1, 12, none⟩ = some (.int .i64 0) ∧ w'.cell? ⟨w.heap.size + 1 + 1, 13, none⟩ = some (.int .i64 0) ∧ w'.cell? ⟨w.heap.size + 1 + 1, 14, none⟩ = some (.func (.func 54) #[] #[.pointer (some ⟨gt, 0, none⟩), .pointer (some ⟨g1, 0, none⟩)]) ∧ w'.cell? ⟨b, o + 1, none⟩ = some (.int .i64 ↑rev)) (first | with_reducible exact ⟨s0, s1, s2, s3, s4, s5, s6, s7, s8, s9, s10, s11, s12, s13, s14, s15, s16⟩ | go_keep | fail) (first | (go_at_call 71; (with_reducible refine (hI (wd).drew (hpsd.below B0)).mono ?_); rintro e we ⟨A4, c4, rfl, _, hown, hbe⟩; have hV := V0; obtain ⟨bse, hK⟩ : ∃ bse : Nat, Mem (wd).drew [] we [.row (bse) (225) (4) (.slice A4 lp2.length c4) (lp2.length) (prs lp2)] := ⟨_, Mem.row (Mem.init _) hbe hown (Nat.le_refl _)⟩; have hWe : Below wd.heap.size wd we := B0.trans (hbe.mono B0.size); have s0 := (hWe.cell (p := ⟨w.heap.size + 1, 0, none⟩) oolt).trans oo0; have s1 := (hWe.cell (p := ⟨w.heap.size + 1 + 1, 0, none⟩) odlt).trans od0; have s2 := (hWe.cell (p := ⟨w.heap.size + 1 + 1, 1, none⟩) odlt).trans od1; have s3 := (hWe.cell (p := ⟨w.heap.size + 1 + 1, 2, none⟩) odlt).trans od2; have s4 := (hWe.cell (p := ⟨w.heap.size + 1 + 1, 3, none⟩) odlt).trans od3; have s5 := (hWe.cell (p := ⟨w.heap.size + 1 + 1, 4, none⟩) odlt).trans od4; have s6 := (hWe.cell (p := ⟨w.heap.size + 1 + 1, 5, none⟩) odlt).trans od5; have s7 := (hWe.cell (p := ⟨w.heap.size + 1 + 1, 6, none⟩) odlt).trans od6; have s8 := (hWe.cell (p := ⟨w.heap.size + 1 + 1, 7, none⟩) odlt).trans od7; have s9 := (hWe.cell (p := ⟨w.heap.size + 1 + 1, 8, none⟩) odlt).trans od8; have s10 := (hWe.cell (p := ⟨w.heap.size + 1 + 1, 9, none⟩) odlt).trans od9; have s11 := (hWe.cell (p := ⟨w.heap.size + 1 + 1, 10, none⟩) odlt).trans od10; have s12 := (hWe.cell (p := ⟨w.heap.size + 1 + 1, 11, none⟩) odlt).trans od11; have s13 := (hWe.cell (p := ⟨w.heap.size + 1 + 1, 12, none⟩) odlt).trans od12; have s14 := (hWe.cell (p := ⟨w.heap.size + 1 + 1, 13, none⟩) odlt).trans od13; have s15 := (hWe.cell (p := ⟨w.heap.size + 1 + 1, 14, none⟩) odlt).trans od14; have s16 := (hWe.cell (p := ⟨b, o + 1, none⟩) hbl4).trans q1d; have sz := hWe.size; have ez0c : we.heap.size ≠ w.heap.size := (by have := oolt; omega); have ez0a : we.heap.size ≠ w.heap.size + 1 := (by have := oolt; omega); have ez0b : we.heap.size + 1 ≠ w.heap.size + 1 := (by have := oolt; omega); have ez1c : we.heap.size ≠ w.heap.size + 1 := (by have := odlt; omega); have ez1a : we.heap.size ≠ w.heap.size + 1 + 1 := (by have := odlt; omega); have ez1b : we.heap.size + 1 ≠ w.heap.size + 1 + 1 := (by have := odlt; omega); have ez2a : we.heap.size ≠ b := (by have := hbl4; omega); have ez2b : we.heap.size + 1 ≠ b := (by have := hbl4; omega)) | (go_at_call 71; (with_reducible refine (hI (wd.alloc (.cells #[.slice none 0 0] 32)).drew (hpsd.below B1)).mono ?_); rintro e we ⟨A4, c4, rfl, _, hown, hbe⟩; have hV := V1; obtain ⟨bse, hK⟩ : ∃ bse : Nat, Mem (wd.alloc (.cells #[.slice none 0 0] 32)).drew [] we [.row (bse) (225) (4) (.slice A4 lp2.length c4) (lp2.length) (prs lp2)] := ⟨_, Mem.row (Mem.init _) hbe hown (Nat.le_refl _)⟩; have hWe : Below wd.heap.size wd we := B1.trans (hbe.mono B1.size); have s0 := (hWe.cell (p := ⟨w.heap.size + 1, 0, none⟩) oolt).trans oo0; have s1 := (hWe.cell (p := ⟨w.heap.size + 1 + 1, 0, none⟩) odlt).trans od0; have s2 := (hWe.cell (p := ⟨w.heap.size + 1 + 1, 1, none⟩) odlt).trans od1; have s3 := (hWe.cell (p := ⟨w.heap.size + 1 + 1, 2, none⟩) odlt).trans od2; have s4 := (hWe.cell (p := ⟨w.heap.size + 1 + 1, 3, none⟩) odlt).trans od3; have s5 := (hWe.cell (p := ⟨w.heap.size + 1 + 1, 4, none⟩) odlt).trans od4; have s6 := (hWe.cell (p := ⟨w.heap.size + 1 + 1, 5, none⟩) odlt).trans od5; have s7 := (hWe.cell (p := ⟨w.heap.size + 1 + 1, 6, none⟩) odlt).trans od6; have s8 := (hWe.cell (p := ⟨w.heap.size + 1 + 1, 7, none⟩) odlt).trans od7; have s9 := (hWe.cell (p := ⟨w.heap.size + 1 + 1, 8, none⟩) odlt).trans od8; have s10 := (hWe.cell (p := ⟨w.heap.size + 1 + 1, 9, none⟩) odlt).trans od9; have s11 := (hWe.cell (p := ⟨w.heap.size + 1 + 1, 10, none⟩) odlt).trans od10; have s12 := (hWe.cell (p := ⟨w.heap.size + 1 + 1, 11, none⟩) odlt).trans od11; have s13 := (hWe.cell (p := ⟨w.heap.size + 1 + 1, 12, none⟩) odlt).trans od12; have s14 := (hWe.cell (p := ⟨w.heap.size + 1 + 1, 13, none⟩) odlt).trans od13; have s15 := (hWe.cell (p := ⟨w.heap.size + 1 + 1, 14, none⟩) odlt).trans od14; have s16 := (hWe.cell (p := ⟨b, o + 1, none⟩) hbl4).trans q1d; have sz := hWe.size; have ez0c : we.heap.size ≠ w.heap.size := (by have := oolt; omega); have ez0a : we.heap.size ≠ w.heap.size + 1 := (by have := oolt; omega); have ez0b : we.heap.size + 1 ≠ w.heap.size + 1 := (by have := oolt; omega); have ez1c : we.heap.size ≠ w.heap.size + 1 := (by have := odlt; omega); have ez1a : we.heap.size ≠ w.heap.size + 1 + 1 := (by have := odlt; omega); have ez1b : we.heap.size + 1 ≠ w.heap.size + 1 + 1 := (by have := odlt; omega); have ez2a : we.heap.size ≠ b := (by have := hbl4; omega); have ez2b : we.heap.size + 1 ≠ b := (by have := hbl4; omega); have zb0 := Blk.below V1b0 hbe V1b0.lt; have zb0_0 := zb0.cell 0; have zb0f0 := zb0.frozen 0; have zb0lt : wd.heap.size < we.heap.size := zb0.lt))
       all_goals
         go_wp2_with fail
         go_meet
         refine ⟨_, A4, c4, bse, rfl, rfl, rfl, ?_⟩
         first
         | with_reducible exact ⟨cr1_a H hV hK, (cr1_a (Mem.init wd) hV hK).below⟩
         | (have h := cr1_b (c := #[.slice A4 lp2.length c4]) H hV hK [(0, .slice A4 lp2.length c4)] (by simp only [List.foldl_cons, List.foldl_nil, List.setIfInBounds_toArray, List.set_cons_zero])
            have h2 := (cr1_b (c := #[.slice A4 lp2.length c4]) (Mem.init wd) hV hK [(0, .slice A4 lp2.length c4)] (by simp only [List.foldl_cons, List.foldl_nil, List.setIfInBounds_toArray, List.set_cons_zero])).below
            simp only [sets, List.foldl_cons, List.foldl_nil] at h h2
            with_reducible exact ⟨h, h2⟩)
     case rest =>
       obtain ⟨no2, A4, c4, base2, rfl, rfl, rfl, H, hCR2⟩ := hcut
       subst hLL
       replace H : Mem (w) [] (wc) [.blk (w.heap.size) 28 #[.slice At nt ct, .int .i64 ↑T.fx, .int .i64 ↑T.fb, .int .i64 ↑T.db, .int .i64 ↑T.al], .blk (w.heap.size + 1) 32 #[.slice Ao no co], .blk (w.heap.size + 1 + 1) 153 #[.int .i64 3, .int .i64 ↑me, .int .i64 ↑mo, .int .i64 0, .int .i64 0, .int .i64 0, .int .i64 0, .int .i64 0, .int .i64 0, .int .i64 0, .int .i64 0, .int .i64 0, .int .i64 0, .int .i64 0, .func (.func 54) #[] #[.pointer (some ⟨gt, 0, none⟩), .pointer (some ⟨g1, 0, none⟩)]], .blk (w.heap.size + 1 + 1 + 1) 146 #[.slice none 0 0, .slice none 0 0, .int .i64 0, .int .i64 0, .int .i64 0, .int .i64 0, .int .i64 0, .int .i64 0, .int .i64 0, .int .i64 0, .string ⟨#[]⟩], .blk (g) 103 #[.slice (some ⟨b, off, none⟩) nb cb, .slice At nt ct, .int .i64 ↑T.fx, .int .i64 ↑T.fb, .int .i64 ↑T.db, .int .i64 ↑T.al, .slice Ac nc cc, .int .i64 ↑L.length], .blk (na) 58 #[.int .i64 ↑me2, .int .i64 ↑rev2, .int .i64 ↑next2, .int .i64 ↑month2, .int .i64 ↑bought2, .int .i64 free2, .slice A2 l2.length d2], .blk (bi) 42 #[.int .i64 ↑id, .int .i64 ↑te, .int .i64 ↑de, .int .i64 ↑fe, .int .i64 ↑pr, .int .i64 ↑ch, .int .i64 ↑un], .row (base) (44) (2) (.slice A2 l2.length d2) (l2.length) (drs l2), .blk (wk.heap.size) 120 #[.int .i64 0, .int .i64 ↑id, .int .i64 ↑un, .int .i64 0], .blk (no2) 32 #[.slice A4 lp2.length c4], .row (base2) (225) (4) (.slice A4 lp2.length c4) (lp2.length) (prs lp2)] := H
       have hc5 := hc4.below hCR2
       clear hI hpsd hc4 q1d hbl4 hCR2
       clear oolt oo0 oof0 odlt od0 odf0 od1 odf1 od2 odf2 od3 odf3 od4 odf4 od5 odf5 od6 odf6 od7 odf7 od8 odf8 od9 odf9 od10 odf10 od11 odf11 od12 odf12 od13 odf13 od14 odf14 ne_oo_od ne_od_oo
       obtain ⟨odlt, od0, odf0, od1, odf1, od2, odf2, od3, odf3, od4, odf4, od5, odf5, od6, odf6, od7, odf7, od8, odf8, od9, odf9, od10, odf10, od11, odf11, od12, odf12, od13, odf13, od14, odf14⟩ := H.c15 2 rfl
       obtain ⟨bilt, bi0, bif0, bi1, bif1, bi2, bif2, bi3, bif3, bi4, bif4, bi5, bif5, bi6, bif6⟩ := H.c7 6 rfl
       obtain ⟨tklt, tk0, tkf0, tk1, tkf1, tk2, tkf2, tk3, tkf3⟩ := H.c4 8 rfl
       have ne_od_bi := H.ne 2 6 rfl rfl (by decide)
       have ne_od_tk := H.ne 2 8 rfl rfl (by decide)
       have ne_bi_od := H.ne 6 2 rfl rfl (by decide)
       have ne_bi_tk := H.ne 6 8 rfl rfl (by decide)
       have ne_tk_od := H.ne 8 2 rfl rfl (by decide)
       have ne_tk_bi := H.ne 8 6 rfl rfl (by decide)
       go_wp2_with fail
       obtain ⟨Wd, hWd⟩ : ∃ Wd, (((((((((wc).setCell ⟨wk.heap.size, 3, none⟩ (.int .i64 ↑t2)).setCell ⟨w.heap.size + 1 + 1, 3, none⟩ (.int .i64 ↑id)).setCell ⟨w.heap.size + 1 + 1, 4, none⟩ (.int .i64 ↑te)).setCell ⟨w.heap.size + 1 + 1, 5, none⟩ (.int .i64 ↑de)).setCell ⟨w.heap.size + 1 + 1, 6, none⟩ (.int .i64 ↑fe)).setCell ⟨w.heap.size + 1 + 1, 7, none⟩ (.int .i64 ↑pr)).setCell ⟨w.heap.size + 1 + 1, 8, none⟩ (.int .i64 ↑ch)).setCell ⟨w.heap.size + 1 + 1, 9, none⟩ (.int .i64 ↑un)).setCell ⟨w.heap.size + 1 + 1, 10, none⟩ (.int .i64 ↑t2) = Wd := ⟨_, rfl⟩
       replace H := Mem.set 8 H rfl (3) (.int .i64 ↑t2)
       replace H := Mem.set 2 H rfl (3) (.int .i64 ↑id)
       replace H := Mem.set 2 H rfl (4) (.int .i64 ↑te)
       replace H := Mem.set 2 H rfl (5) (.int .i64 ↑de)
       replace H := Mem.set 2 H rfl (6) (.int .i64 ↑fe)
       replace H := Mem.set 2 H rfl (7) (.int .i64 ↑pr)
       replace H := Mem.set 2 H rfl (8) (.int .i64 ↑ch)
       replace H := Mem.set 2 H rfl (9) (.int .i64 ↑un)
       replace H := Mem.set 2 H rfl (10) (.int .i64 ↑t2)
       simp only [List.set_cons_zero, List.set_cons_succ, List.setIfInBounds_toArray] at H
       rw [hWd] at H ⊢
       clear hWd
       refine (hKv g _ _ _ _ _ _ _ (H.blk 4 rfl) (hc.below H.below)).mono ?_
       rintro e wf ⟨A5, c5, rfl, hp2, hown, hbf⟩
       replace H : Mem (w) [] (wf) [.blk (w.heap.size) 28 #[.slice At nt ct, .int .i64 ↑T.fx, .int .i64 ↑T.fb, .int .i64 ↑T.db, .int .i64 ↑T.al], .blk (w.heap.size + 1) 32 #[.slice Ao no co], .blk (w.heap.size + 1 + 1) 153 #[.int .i64 3, .int .i64 ↑me, .int .i64 ↑mo, .int .i64 ↑id, .int .i64 ↑te, .int .i64 ↑de, .int .i64 ↑fe, .int .i64 ↑pr, .int .i64 ↑ch, .int .i64 ↑un, .int .i64 ↑t2, .int .i64 0, .int .i64 0, .int .i64 0, .func (.func 54) #[] #[.pointer (some ⟨gt, 0, none⟩), .pointer (some ⟨g1, 0, none⟩)]], .blk (w.heap.size + 1 + 1 + 1) 146 #[.slice none 0 0, .slice none 0 0, .int .i64 0, .int .i64 0, .int .i64 0, .int .i64 0, .int .i64 0, .int .i64 0, .int .i64 0, .int .i64 0, .string ⟨#[]⟩], .blk (g) 103 #[.slice (some ⟨b, off, none⟩) nb cb, .slice At nt ct, .int .i64 ↑T.fx, .int .i64 ↑T.fb, .int .i64 ↑T.db, .int .i64 ↑T.al, .slice Ac nc cc, .int .i64 ↑L.length], .blk (na) 58 #[.int .i64 ↑me2, .int .i64 ↑rev2, .int .i64 ↑next2, .int .i64 ↑month2, .int .i64 ↑bought2, .int .i64 free2, .slice A2 l2.length d2], .blk (bi) 42 #[.int .i64 ↑id, .int .i64 ↑te, .int .i64 ↑de, .int .i64 ↑fe, .int .i64 ↑pr, .int .i64 ↑ch, .int .i64 ↑un], .row (base) (44) (2) (.slice A2 l2.length d2) (l2.length) (drs l2), .blk (wk.heap.size) 120 #[.int .i64 0, .int .i64 ↑id, .int .i64 ↑un, .int .i64 ↑t2], .blk (no2) 32 #[.slice A4 lp2.length c4], .row (base2) (225) (4) (.slice A4 lp2.length c4) (lp2.length) (prs lp2), .row (Wd.heap.size) (113) (2) (.slice A5 wl.length c5) (wl.length) (wrs wl)] := Mem.row H hbf hown (Nat.le_refl _)
       clear hKv hc5 hp2 hown hbf
       clear odlt od0 odf0 od1 odf1 od2 odf2 od3 odf3 od4 odf4 od5 odf5 od6 odf6 od7 odf7 od8 odf8 od9 odf9 od10 odf10 od11 odf11 od12 odf12 od13 odf13 od14 odf14 bilt bi0 bif0 bi1 bif1 bi2 bif2 bi3 bif3 bi4 bif4 bi5 bif5 bi6 bif6 tklt tk0 tkf0 tk1 tkf1 tk2 tkf2 tk3 tkf3 ne_od_bi ne_od_tk ne_bi_od ne_bi_tk ne_tk_od ne_tk_bi
       obtain ⟨tklt, tk0, tkf0, tk1, tkf1, tk2, tkf2, tk3, tkf3⟩ := H.c4 8 rfl
       go_wp2_with fail
       refine (hFm _).mono ?_
       rintro e wg ⟨rfl, hbg⟩
       replace H := Mem.call H hbg
       clear hFm hbg
       clear tklt tk0 tkf0 tk1 tkf1 tk2 tkf2 tk3 tkf3
       obtain ⟨odlt, od0, odf0, od1, odf1, od2, odf2, od3, odf3, od4, odf4, od5, odf5, od6, odf6, od7, odf7, od8, odf8, od9, odf9, od10, odf10, od11, odf11, od12, odf12, od13, odf13, od14, odf14⟩ := H.c15 2 rfl
       obtain ⟨bilt, bi0, bif0, bi1, bif1, bi2, bif2, bi3, bif3, bi4, bif4, bi5, bif5, bi6, bif6⟩ := H.c7 6 rfl
       obtain ⟨no2lt, no20, no2f0⟩ := H.c1 9 rfl
       obtain ⟨rslt, rs0, rsf0, rs1, rsf1, rs2, rsf2, rs3, rsf3, rs4, rsf4, rs5, rsf5, rs6, rsf6, rs7, rsf7, rs8, rsf8, rs9, rsf9, rs10, rsf10⟩ := H.c11 3 rfl
       have ne_od_bi := H.ne 2 6 rfl rfl (by decide)
       have ne_od_no2 := H.ne 2 9 rfl rfl (by decide)
       have ne_od_rs := H.ne 2 3 rfl rfl (by decide)
       have ne_bi_od := H.ne 6 2 rfl rfl (by decide)
       have ne_bi_no2 := H.ne 6 9 rfl rfl (by decide)
       have ne_bi_rs := H.ne 6 3 rfl rfl (by decide)
       have ne_no2_od := H.ne 9 2 rfl rfl (by decide)
       have ne_no2_bi := H.ne 9 6 rfl rfl (by decide)
       have ne_no2_rs := H.ne 9 3 rfl rfl (by decide)
       have ne_rs_od := H.ne 3 2 rfl rfl (by decide)
       have ne_rs_bi := H.ne 3 6 rfl rfl (by decide)
       have ne_rs_no2 := H.ne 3 9 rfl rfl (by decide)
       go_wp2
       obtain ⟨wz, hwz⟩ : ∃ wz, (((((((((((wg).setCell ⟨w.heap.size + 1 + 1 + 1, 0, none⟩ (.slice A5 wl.length c5)).setCell ⟨w.heap.size + 1 + 1 + 1, 1, none⟩ (.slice A4 lp2.length c4)).setCell ⟨w.heap.size + 1 + 1 + 1, 2, none⟩ (.int .i64 ↑me)).setCell ⟨w.heap.size + 1 + 1 + 1, 3, none⟩ (.int .i64 ↑id)).setCell ⟨w.heap.size + 1 + 1 + 1, 4, none⟩ (.int .i64 ↑te)).setCell ⟨w.heap.size + 1 + 1 + 1, 5, none⟩ (.int .i64 ↑de)).setCell ⟨w.heap.size + 1 + 1 + 1, 6, none⟩ (.int .i64 ↑fe)).setCell ⟨w.heap.size + 1 + 1 + 1, 7, none⟩ (.int .i64 ↑pr)).setCell ⟨w.heap.size + 1 + 1 + 1, 8, none⟩ (.int .i64 ↑ch)).setCell ⟨w.heap.size + 1 + 1 + 1, 9, none⟩ (.int .i64 ↑un)).setCell ⟨w.heap.size + 1 + 1 + 1, 10, none⟩ (.string dg) = wz := ⟨_, rfl⟩
       replace H := Mem.set 3 H rfl (0) (.slice A5 wl.length c5)
       replace H := Mem.set 3 H rfl (1) (.slice A4 lp2.length c4)
       replace H := Mem.set 3 H rfl (2) (.int .i64 ↑me)
       replace H := Mem.set 3 H rfl (3) (.int .i64 ↑id)
       replace H := Mem.set 3 H rfl (4) (.int .i64 ↑te)
       replace H := Mem.set 3 H rfl (5) (.int .i64 ↑de)
       replace H := Mem.set 3 H rfl (6) (.int .i64 ↑fe)
       replace H := Mem.set 3 H rfl (7) (.int .i64 ↑pr)
       replace H := Mem.set 3 H rfl (8) (.int .i64 ↑ch)
       replace H := Mem.set 3 H rfl (9) (.int .i64 ↑un)
       replace H := Mem.set 3 H rfl (10) (.string dg)
       simp only [List.set_cons_zero, List.set_cons_succ, List.setIfInBounds_toArray] at H
       rw [hwz] at H ⊢
       clear hwz
       clear odlt od0 odf0 od1 odf1 od2 odf2 od3 odf3 od4 odf4 od5 odf5 od6 odf6 od7 odf7 od8 odf8 od9 odf9 od10 odf10 od11 odf11 od12 odf12 od13 odf13 od14 odf14 bilt bi0 bif0 bi1 bif1 bi2 bif2 bi3 bif3 bi4 bif4 bi5 bif5 bi6 bif6 no2lt no20 no2f0 rslt rs0 rsf0 rs1 rsf1 rs2 rsf2 rs3 rsf3 rs4 rsf4 rs5 rsf5 rs6 rsf6 rs7 rsf7 rs8 rsf8 rs9 rsf9 rs10 rsf10 ne_od_bi ne_od_no2 ne_od_rs ne_bi_od ne_bi_no2 ne_bi_rs ne_no2_od ne_no2_bi ne_no2_rs ne_rs_od ne_rs_bi ne_rs_no2
       obtain ⟨rslt, rs0, rsf0, rs1, rsf1, rs2, rsf2, rs3, rsf3, rs4, rsf4, rs5, rsf5, rs6, rsf6, rs7, rsf7, rs8, rsf8, rs9, rsf9, rs10, rsf10⟩ := H.c11 3 rfl
       refine bodyPost_ret (v := .tuple #[.agg #[.slice A5 wl.length c5, .slice A4 lp2.length c4, .int .i64 ↑me, .int .i64 ↑id, .int .i64 ↑te, .int .i64 ↑de, .int .i64 ↑fe, .int .i64 ↑pr, .int .i64 ↑ch, .int .i64 ↑un, .string dg], .int .i64 0]) (by simp [results, Tryz.results53, go_sem, rs0, rs1, rs2, rs3, rs4, rs5, rs6, rs7, rs8, rs9, rs10]; done) rfl ?_
       obtain ⟨ht65, hl2, ht2, hO2, hwl, hbody⟩ := HF.out
       refine .inl ⟨rfl, t2, lp2, A4, c4, A5, c5, ht65, by rw [hbody]; exact hl2, by rw [hbody]; exact ht2, hO2, by rw [hwl, hdg], H.ownb 10 rfl, by rw [hwl]; exact H.ownb 11 rfl, H.below⟩
end Go.Proofs.YtpcgpnkmjjamhaaGreat
namespace Go.Proofs.YtpcgpnkmjjamhaaGreat
open Go.RowKit
set_option linter.unusedVariables false
set_option maxRecDepth 100000 in
set_option maxHeartbeats 4000000 in
theorem vserve3_ok (T : Tm) (hT : T.Ok) (At : Option Addr) (nt ct : Nat) (cv : Value) (c : List Nat) (L : List Ev) (B : List Cu) (me i mo d : Nat) (Ao : Option Addr) (no co : Nat) (lp : List Pr) (w : World)
   (hvt : IsDs w (.slice At nt ct) T.tl) (hc : IsWs w cv c) (hS : Srv T c L B) (hme : me ≤ 49) (hp : place B me = some i) (hL : L.length < 120) (hf : (L.length + 1) * 14 ≤ c.length) (hps : IsPs w (.slice Ao no co) lp) (hlp : OOk lp) (h5 : lp.length < 500) (hd : d ≤ 65535) (hmo : mo ≤ 2399) :
   Calls Tryz.prog 31 #[.agg #[.slice At nt ct, .int .i64 ↑T.fx, .int .i64 ↑T.fb, .int .i64 ↑T.db, .int .i64 ↑T.al], cv, .agg #[.slice Ao no co], .int .i64 ↑me, .int .i64 ↑mo, .int .i64 ↑d] w (RetServe (svP (grantP T (B.getD i cu0).a mo) 3 me mo 0 (B.getD i cu0).a.rev d lp c.length L.length) w) := by
 obtain ⟨hi, hime⟩ := place_some hp
 have hBk := runE_bok hT L [] B 0 (bok_nil T) (by omega) hS.ok hS.run
 have hgd : B.getD i cu0 = B[i] := by simp [hi]
 have hao : (B.getD i cu0).a.Ok ∧ (B.getD i cu0).a.next = (B.getD i cu0).s.length + 1 := by rw [hgd]; exact hBk.h1 B[i] (List.getElem_mem hi)
 have hsl : (B.getD i cu0).s.length ≤ 1000 := by rw [hgd]; have := hBk.sold (List.getElem_mem hi); omega
 have hnx : (B.getD i cu0).a.next ≤ 1048575 := by omega
 obtain ⟨r, hr⟩ : ∃ r, grantP T (B.getD i cu0).a mo = r := ⟨_, rfl⟩
 rw [hr]
 obtain ⟨Ac, nc, cc, rfl⟩ : ∃ Ac nc cc, cv = .slice Ac nc cc := by obtain ⟨X, y, h, _⟩ := hc; exact ⟨X, _, y, h⟩
 have H := Mem.init w
 obtain ⟨W0, hW0⟩ : ∃ W0, (((((w).alloc (.cells #[.slice At nt ct, .int .i64 ↑T.fx, .int .i64 ↑T.fb, .int .i64 ↑T.db, .int .i64 ↑T.al] 28)).alloc (.cells #[.slice Ao no co] 32)).alloc (.cells #[.int .i64 ↑mo] 3)).alloc (.cells #[.slice none 0 0] 32)).alloc (.cells #[.int .i64 0, .int .i64 0, .int .i64 0, .int .i64 0, .int .i64 0, .int .i64 0, .int .i64 0, .int .i64 0, .string ⟨#[]⟩] 72) = W0 := ⟨_, rfl⟩
 replace H := Mem.alloc H (w.heap.size) (by first | (simp; done) | (simp; omega)) #[.slice At nt ct, .int .i64 ↑T.fx, .int .i64 ↑T.fb, .int .i64 ↑T.db, .int .i64 ↑T.al] 28
 replace H := Mem.alloc H (w.heap.size + 1) (by first | (simp; done) | (simp; omega)) #[.slice Ao no co] 32
 replace H := Mem.alloc H (w.heap.size + 1 + 1) (by first | (simp; done) | (simp; omega)) #[.int .i64 ↑mo] 3
 replace H := Mem.alloc H (w.heap.size + 1 + 1 + 1) (by first | (simp; done) | (simp; omega)) #[.slice none 0 0] 32
 replace H := Mem.alloc H (w.heap.size + 1 + 1 + 1 + 1) (by first | (simp; done) | (simp; omega)) #[.int .i64 0, .int .i64 0, .int .i64 0, .int .i64 0, .int .i64 0, .int .i64 0, .int .i64 0, .int .i64 0, .string ⟨#[]⟩] 72
 simp only [List.nil_append, List.cons_append] at H
 rw [hW0] at H
 have hvt0 := hvt.below H.below
 have hc0 := hc.below H.below
 have hps0 := hps.below H.below
 obtain ⟨ttlt, tt0, ttf0, tt1, ttf1, tt2, ttf2, tt3, ttf3, tt4, ttf4⟩ := H.c5 0 rfl
 obtain ⟨oolt, oo0, oof0⟩ := H.c1 1 rfl
 obtain ⟨bmolt, bmo0, bmof0⟩ := H.c1 2 rfl
 have ne_tt_oo := H.ne 0 1 rfl rfl (by decide)
 have ne_tt_bmo := H.ne 0 2 rfl rfl (by decide)
 have ne_oo_tt := H.ne 1 0 rfl rfl (by decide)
 have ne_oo_bmo := H.ne 1 2 rfl rfl (by decide)
 have ne_bmo_tt := H.ne 2 0 rfl rfl (by decide)
 have ne_bmo_oo := H.ne 2 1 rfl rfl (by decide)
 have hz : r.1 = 0 → TkOk 0 r.2.2.id r.2.2.un 0 ∧ ∀ t, t ≤ 65535 → (Ev.mk 3 me mo r.2.2.id r.2.2.te r.2.2.de r.2.2.fe r.2.2.pr r.2.2.ch r.2.2.un t 0 0).ok := by
   intro h0
   have h : grantP T (B.getD i cu0).a mo = (0, r.2.1, r.2.2) := by rw [hr, ← h0]
   exact grant_ev hT hao.1 hnx hmo hme h
 have hWk : ∀ (W : World) (Ad : Option Addr) (cd : Nat), Below W0.heap.size W0 W → IsDs W (.slice Ad (B.getD i cu0).a.l.length cd) (B.getD i cu0).a.l → Calls Tryz.prog 54 #[.agg #[.int .i64 ((B.getD i cu0).a.me : Int), .int .i64 ((B.getD i cu0).a.rev : Int), .int .i64 ((B.getD i cu0).a.next : Int), .int .i64 ((B.getD i cu0).a.month : Int), .int .i64 ((B.getD i cu0).a.bought : Int), .int .i64 (B.getD i cu0).a.free, .slice Ad (B.getD i cu0).a.l.length cd], .pointer (some ⟨w.heap.size, 0, none⟩), .pointer (some ⟨w.heap.size + 1 + 1, 0, none⟩)] W (RetDI r.1 r.2.1.me r.2.1.rev r.2.1.next r.2.1.month r.2.1.bought r.2.1.free r.2.1.l r.2.2.id r.2.2.te r.2.2.de r.2.2.fe r.2.2.pr r.2.2.ch r.2.2.un W) := by
   intro W Ad cd hbW h2
   exact vgrantw_ok w.heap.size (w.heap.size + 1 + 1) (B.getD i cu0).a.me (B.getD i cu0).a.rev (B.getD i cu0).a.next (B.getD i cu0).a.month (B.getD i cu0).a.bought (B.getD i cu0).a.free Ad (B.getD i cu0).a.l.length cd (B.getD i cu0).a.l At nt ct T.fx T.fb T.db T.al T.tl mo r.1 r.2.1.me r.2.1.rev r.2.1.next r.2.1.month r.2.1.bought r.2.1.free r.2.1.l r.2.2.id r.2.2.te r.2.2.de r.2.2.fe r.2.2.pr r.2.2.ch r.2.2.un W h2 hao.1.h2 hao.1.h1 (hvt0.below hbW) hT.h1 hT.h2 hmo hnx (Lib.hid hr) ((hbW.cell (p := ⟨w.heap.size, 0, none⟩) (Nat.lt_of_lt_of_le ttlt (Nat.le_refl _))).trans tt0) ((hbW.cell (p := ⟨w.heap.size, 1, none⟩) (Nat.lt_of_lt_of_le ttlt (Nat.le_refl _))).trans tt1) ((hbW.cell (p := ⟨w.heap.size, 2, none⟩) (Nat.lt_of_lt_of_le ttlt (Nat.le_refl _))).trans tt2) ((hbW.cell (p := ⟨w.heap.size, 3, none⟩) (Nat.lt_of_lt_of_le ttlt (Nat.le_refl _))).trans tt3) ((hbW.cell (p := ⟨w.heap.size, 4, none⟩) (Nat.lt_of_lt_of_le ttlt (Nat.le_refl _))).trans tt4) ((hbW.cell (p := ⟨w.heap.size + 1 + 1, 0, none⟩) (Nat.lt_of_lt_of_le bmolt (Nat.le_refl _))).trans bmo0)
 have hSl := vsell3_ok T hT At nt ct (.slice Ac nc cc) c L B me i mo d Ao no co lp w.heap.size (w.heap.size + 1 + 1) r.1 r.2.1.me r.2.1.rev r.2.1.next r.2.1.month r.2.1.bought r.2.1.free r.2.1.l r.2.2.id r.2.2.te r.2.2.de r.2.2.fe r.2.2.pr r.2.2.ch r.2.2.un W0 hvt0 hc0 hS hme hp hL hf hps0 hlp h5 hd hWk hz
 replace hSl := hSl.mono fun e w' h => retsv_of (r := r) (cls := 0) (am := r.2.2.un) (fun _ => by unfold amP; simp) h
 obtain ⟨v, hv⟩ : ∃ v, svP r 3 me mo 0 (B.getD i cu0).a.rev d lp c.length L.length = v := ⟨_, rfl⟩
 rw [hv] at hSl ⊢
 unfold RetSv at hSl
 obtain ⟨wl, lq, vme, ⟨id, te', de, fe, pr, ch, un⟩, s, E⟩ := v
 dsimp only at hSl
 unfold RetServe
 dsimp only
 clear hWk hz hr hv hvt hc hps hS hf
 go_enter Tryz.func31, Tryz.ntmps31
 go_wp2_with fail
 refine hSl.mono ?_
 rintro e w1 ⟨A3, c3, A2, c2, rfl, ho1, ho2, hb1⟩
 replace H := Mem.call H hb1
 have hsz : W0.heap.size = w.heap.size + 1 + 1 + 1 + 1 + 1 := by rw [← hW0]; simp
 clear hSl hW0 hvt0 hc0 hps0 hb1
 clear ttlt tt0 ttf0 tt1 ttf1 tt2 ttf2 tt3 ttf3 tt4 ttf4 oolt oo0 oof0 bmolt bmo0 bmof0 ne_tt_oo ne_tt_bmo ne_oo_tt ne_oo_bmo ne_bmo_tt ne_bmo_oo
 go_wp2
 obtain ⟨w2, hw2⟩ : ∃ w2, (w1).alloc (.cells #[.slice A3 wl.length c3, .slice A2 lq.length c2, .int .i64 ↑vme, .int .i64 ↑id, .int .i64 (te' : Int), .int .i64 ↑de, .int .i64 ↑fe, .int .i64 ↑pr, .int .i64 ↑ch, .int .i64 ↑un, .string s] 146) = w2 := ⟨_, rfl⟩
 replace H := Mem.alloc H (w1.heap.size) (by first | (simp; done) | (simp; omega)) #[.slice A3 wl.length c3, .slice A2 lq.length c2, .int .i64 ↑vme, .int .i64 ↑id, .int .i64 (te' : Int), .int .i64 ↑de, .int .i64 ↑fe, .int .i64 ↑pr, .int .i64 ↑ch, .int .i64 ↑un, .string s] 146
 simp only [List.cons_append, List.nil_append] at H
 rw [hw2] at H ⊢
 have hq1 := own_kept ho1 (World.grownBy_alloc w1 (.cells #[.slice A3 wl.length c3, .slice A2 lq.length c2, .int .i64 ↑vme, .int .i64 ↑id, .int .i64 (te' : Int), .int .i64 ↑de, .int .i64 ↑fe, .int .i64 ↑pr, .int .i64 ↑ch, .int .i64 ↑un, .string s] 146) none) (by simp)
 have hq2 := own_kept ho2 (World.grownBy_alloc w1 (.cells #[.slice A3 wl.length c3, .slice A2 lq.length c2, .int .i64 ↑vme, .int .i64 ↑id, .int .i64 (te' : Int), .int .i64 ↑de, .int .i64 ↑fe, .int .i64 ↑pr, .int .i64 ↑ch, .int .i64 ↑un, .string s] 146) none) (by simp)
 rw [hw2] at hq1 hq2
 clear hw2 ho1 ho2
 obtain ⟨svlt, sv0, svf0, sv1, svf1, sv2, svf2, sv3, svf3, sv4, svf4, sv5, svf5, sv6, svf6, sv7, svf7, sv8, svf8, sv9, svf9, sv10, svf10⟩ := H.c11 5 rfl
 obtain ⟨rolt, ro0, rof0⟩ := H.c1 3 rfl
 obtain ⟨rrlt, rr0, rrf0, rr1, rrf1, rr2, rrf2, rr3, rrf3, rr4, rrf4, rr5, rrf5, rr6, rrf6, rr7, rrf7, rr8, rrf8⟩ := H.c9 4 rfl
 have ne_sv_ro := H.ne 5 3 rfl rfl (by decide)
 have ne_sv_rr := H.ne 5 4 rfl rfl (by decide)
 have ne_ro_sv := H.ne 3 5 rfl rfl (by decide)
 have ne_ro_rr := H.ne 3 4 rfl rfl (by decide)
 have ne_rr_sv := H.ne 4 5 rfl rfl (by decide)
 have ne_rr_ro := H.ne 4 3 rfl rfl (by decide)
 go_region
 go_wp2
 clear svlt sv0 svf0 sv1 svf1 sv2 svf2 sv3 svf3 sv4 svf4 sv5 svf5 sv6 svf6 sv7 svf7 sv8 svf8 sv9 svf9 sv10 svf10 rolt ro0 rof0 rrlt rr0 rrf0 rr1 rrf1 rr2 rrf2 rr3 rrf3 rr4 rrf4 rr5 rrf5 rr6 rrf6 rr7 rrf7 rr8 rrf8 ne_sv_ro ne_sv_rr ne_ro_sv ne_ro_rr ne_rr_sv ne_rr_ro
 obtain ⟨w3, hw3⟩ : ∃ w3, (((((((((((w2).setCell ⟨w.heap.size + 1 + 1 + 1, 0, none⟩ (.slice A2 lq.length c2)).setCell ⟨w.heap.size + 1 + 1 + 1 + 1, 0, none⟩ (.int .i64 ↑vme)).setCell ⟨w.heap.size + 1 + 1 + 1 + 1, 1, none⟩ (.int .i64 ↑id)).setCell ⟨w.heap.size + 1 + 1 + 1 + 1, 2, none⟩ (.int .i64 (te' : Int))).setCell ⟨w.heap.size + 1 + 1 + 1 + 1, 3, none⟩ (.int .i64 ↑de)).setCell ⟨w.heap.size + 1 + 1 + 1 + 1, 4, none⟩ (.int .i64 ↑fe)).setCell ⟨w.heap.size + 1 + 1 + 1 + 1, 5, none⟩ (.int .i64 ↑pr)).setCell ⟨w.heap.size + 1 + 1 + 1 + 1, 6, none⟩ (.int .i64 ↑ch)).setCell ⟨w.heap.size + 1 + 1 + 1 + 1, 7, none⟩ (.int .i64 ↑un)).setCell ⟨w.heap.size + 1 + 1 + 1 + 1, 8, none⟩ (.string s)).drew = w3 := ⟨_, rfl⟩
 replace H := Mem.set 3 H rfl (0) (.slice A2 lq.length c2)
 replace H := Mem.set 4 H rfl (0) (.int .i64 ↑vme)
 replace H := Mem.set 4 H rfl (1) (.int .i64 ↑id)
 replace H := Mem.set 4 H rfl (2) (.int .i64 (te' : Int))
 replace H := Mem.set 4 H rfl (3) (.int .i64 ↑de)
 replace H := Mem.set 4 H rfl (4) (.int .i64 ↑fe)
 replace H := Mem.set 4 H rfl (5) (.int .i64 ↑pr)
 replace H := Mem.set 4 H rfl (6) (.int .i64 ↑ch)
 replace H := Mem.set 4 H rfl (7) (.int .i64 ↑un)
 replace H := Mem.set 4 H rfl (8) (.string s)
 simp only [List.set_cons_zero, List.set_cons_succ, List.setIfInBounds_toArray] at H
 replace H := H.drew
 rw [hw3] at H ⊢
 have hz1 := own_drewK ((own_set (k := w.heap.size + 1 + 1 + 1 + 1) (o := 8) (x := .string s) (own_set (k := w.heap.size + 1 + 1 + 1 + 1) (o := 7) (x := .int .i64 ↑un) (own_set (k := w.heap.size + 1 + 1 + 1 + 1) (o := 6) (x := .int .i64 ↑ch) (own_set (k := w.heap.size + 1 + 1 + 1 + 1) (o := 5) (x := .int .i64 ↑pr) (own_set (k := w.heap.size + 1 + 1 + 1 + 1) (o := 4) (x := .int .i64 ↑fe) (own_set (k := w.heap.size + 1 + 1 + 1 + 1) (o := 3) (x := .int .i64 ↑de) (own_set (k := w.heap.size + 1 + 1 + 1 + 1) (o := 2) (x := .int .i64 (te' : Int)) (own_set (k := w.heap.size + 1 + 1 + 1 + 1) (o := 1) (x := .int .i64 ↑id) (own_set (k := w.heap.size + 1 + 1 + 1 + 1) (o := 0) (x := .int .i64 ↑vme) (own_set (k := w.heap.size + 1 + 1 + 1) (o := 0) (x := .slice A2 lq.length c2) hq1 (by omega)) (by omega)) (by omega)) (by omega)) (by omega)) (by omega)) (by omega)) (by omega)) (by omega)) (by omega)))
 have hz2 := own_drewK ((own_set (k := w.heap.size + 1 + 1 + 1 + 1) (o := 8) (x := .string s) (own_set (k := w.heap.size + 1 + 1 + 1 + 1) (o := 7) (x := .int .i64 ↑un) (own_set (k := w.heap.size + 1 + 1 + 1 + 1) (o := 6) (x := .int .i64 ↑ch) (own_set (k := w.heap.size + 1 + 1 + 1 + 1) (o := 5) (x := .int .i64 ↑pr) (own_set (k := w.heap.size + 1 + 1 + 1 + 1) (o := 4) (x := .int .i64 ↑fe) (own_set (k := w.heap.size + 1 + 1 + 1 + 1) (o := 3) (x := .int .i64 ↑de) (own_set (k := w.heap.size + 1 + 1 + 1 + 1) (o := 2) (x := .int .i64 (te' : Int)) (own_set (k := w.heap.size + 1 + 1 + 1 + 1) (o := 1) (x := .int .i64 ↑id) (own_set (k := w.heap.size + 1 + 1 + 1 + 1) (o := 0) (x := .int .i64 ↑vme) (own_set (k := w.heap.size + 1 + 1 + 1) (o := 0) (x := .slice A2 lq.length c2) hq2 (by omega)) (by omega)) (by omega)) (by omega)) (by omega)) (by omega)) (by omega)) (by omega)) (by omega)) (by omega)))
 rw [hw3] at hz1 hz2
 clear hw3 hq1 hq2
 obtain ⟨rolt, ro0, rof0⟩ := H.c1 3 rfl
 obtain ⟨rrlt, rr0, rrf0, rr1, rrf1, rr2, rrf2, rr3, rrf3, rr4, rrf4, rr5, rrf5, rr6, rrf6, rr7, rrf7, rr8, rrf8⟩ := H.c9 4 rfl
 have ne_ro_rr := H.ne 3 4 rfl rfl (by decide)
 have ne_rr_ro := H.ne 4 3 rfl rfl (by decide)
 refine bodyPost_ret (v := .tuple #[.slice A3 wl.length c3, .agg #[.slice A2 lq.length c2], .agg #[.int .i64 ↑vme, .int .i64 ↑id, .int .i64 (te' : Int), .int .i64 ↑de, .int .i64 ↑fe, .int .i64 ↑pr, .int .i64 ↑ch, .int .i64 ↑un, .string s], .int .i64 ↑E]) (by simp [results, Tryz.results31, go_sem, ro0, rr0, rr1, rr2, rr3, rr4, rr5, rr6, rr7, rr8]; done) rfl ?_
 exact ⟨A3, c3, A2, c2, rfl, own_mono hz1 (by omega), own_mono hz2 (by omega), H.below⟩
end Go.Proofs.YtpcgpnkmjjamhaaGreat

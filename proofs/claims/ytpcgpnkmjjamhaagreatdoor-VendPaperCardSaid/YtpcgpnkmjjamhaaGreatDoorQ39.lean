/- vend.sell: its answer. -/
import Derived.Test.YtpcgpnkmjjamhaaGreatDoorQ32
import Derived.Test.YtpcgpnkmjjamhaaGreatDoorQ38
import Derived.Test.YtpcgpnkmjjamhaaGreatDoorQ14
import Derived.Test.YtpcgpnkmjjamhaaGreatDoorQ21
import Derived.Test.YtpcgpnkmjjamhaaGreatDoorQ31
import Derived.Test.YtpcgpnkmjjamhaaGreatDoorQ9
namespace Go.Proofs.YtpcgpnkmjjamhaaGreatDoor
open Go.RowKit
set_option linter.unusedVariables false
set_option maxRecDepth 100000
def RetVSell (E k me mo id te de fe pr ch un cls am rev d : Nat) (lp : List Pr) (c : List Nat) (L : List Ev) (w : World) (e : Ending) (w' : World) : Prop :=
 (E = 0 ∧ ∃ (t2 : Nat) (lp2 : List Pr) (A2 : Option Addr) (c2 : Nat) (A3 : Option Addr) (c3 : Nat), t2 ≤ 65535 ∧ issL lp (me : Int) (rev : Int) (tbody cls id am : Nat) (d : Int) = lp2 ∧ issT lp (me : Int) (rev : Int) (tbody cls id am : Nat) (d : Int) = (t2 : Int) ∧ OOk lp2 ∧
   e = .returned (.tuple #[.agg #[.slice A3 (putW c.length (L.length * 14) (evW ⟨k, me, mo, id, te, de, fe, pr, ch, un, t2, 0, 0⟩)).length c3, .slice A2 lp2.length c2, .int .i64 ↑me, .int .i64 ↑id, .int .i64 ↑te, .int .i64 ↑de, .int .i64 ↑fe, .int .i64 ↑pr, .int .i64 ↑ch, .int .i64 ↑un, .string (dstr (tokD cls id am t2))], .int .i64 0]) ∧
   w'.ownsRow w.heap.size 155 4 (.slice A2 lp2.length c2) lp2.length (prs lp2) ∧ w'.ownsRow w.heap.size 119 2 (.slice A3 (putW c.length (L.length * 14) (evW ⟨k, me, mo, id, te, de, fe, pr, ch, un, t2, 0, 0⟩)).length c3) (putW c.length (L.length * 14) (evW ⟨k, me, mo, id, te, de, fe, pr, ch, un, t2, 0, 0⟩)).length (wrs (putW c.length (L.length * 14) (evW ⟨k, me, mo, id, te, de, fe, pr, ch, un, t2, 0, 0⟩))) ∧ Below w.heap.size w w') ∨
 (E ≠ 0 ∧ e = .returned (.tuple #[.agg #[.slice none 0 0, .slice none 0 0, .int .i64 0, .int .i64 0, .int .i64 0, .int .i64 0, .int .i64 0, .int .i64 0, .int .i64 0, .int .i64 0, .string ⟨#[]⟩], .int .i64 ↑E]) ∧ Below w.heap.size w w')
structure Sv where
 wl : List (Nat × Nat)
 lp : List Pr
 me : Nat
 b : Bil
 s : ByteArray
 E : Nat
def amP (cls : Nat) (r : Nat × Acc × Bil) : Nat := if cls = 2 then r.2.1.rev else r.2.2.un
def evP (k me mo t : Nat) (b : Bil) : Ev := ⟨k, me, mo, b.id, b.te, b.de, b.fe, b.pr, b.ch, b.un, t, 0, 0⟩
def tagP (lp : List Pr) (me rev cls d : Nat) (r : Nat × Acc × Bil) : Nat := (issT lp (me : Int) (rev : Int) (tbody cls r.2.2.id (amP cls r) : Nat) (d : Int)).toNat
def svP (r : Nat × Acc × Bil) (k me mo cls rev d : Nat) (lp : List Pr) (n m : Nat) : Sv :=
 if r.1 = 0 then ⟨putW n (m * 14) (evW (evP k me mo (tagP lp me rev cls d r) r.2.2)), issL lp (me : Int) (rev : Int) (tbody cls r.2.2.id (amP cls r) : Nat) (d : Int), me, r.2.2, dstr (tokD cls r.2.2.id (amP cls r) (tagP lp me rev cls d r)), 0⟩
 else ⟨[], [], 0, bil0, ⟨#[]⟩, r.1⟩
theorem sellP_sum {T : Tm} {a : Acc} {t m : Nat} {a2 : Acc} {b : Bil} (hT : T.Ok) (ha : a.Ok) (h : sellP T a t m = (0, a2, b)) : b.te = b.de + b.fe + b.pr + b.ch ∧ b.un ≤ 2097151 := by
 unfold sellP at h
 by_cases g1 : m < a.month
 · rw [if_pos g1] at h; injection h with h _; exact absurd h (by decide)
 · rw [if_neg g1] at h
   dsimp only at h
   have hr := rolled_P (b := a.bought) (l := a.l) (show a.month ≤ m by omega)
   generalize rollP a.month a.bought a.l m = r at h hr
   obtain ⟨b2, l2⟩ := r
   dsimp only at h hr
   generalize recov (t * T.db / 10000) l2 = rc at h
   obtain ⟨paid, out⟩ := rc
   dsimp only at h
   generalize T.fx + t * T.fb / 10000 = F at h
   by_cases g2 : t < paid + F
   · rw [if_pos g2] at h; injection h with h _; exact absurd h (by decide)
   · rw [if_neg g2] at h
     generalize hmo : most (pcs T.tl b2) (t - paid - F) 0 0 = mo at h
     obtain ⟨U, P⟩ := mo
     dsimp only at h
     by_cases g3 : U = 0
     · rw [if_pos g3] at h; injection h with h _; exact absurd h (by decide)
     · rw [if_neg g3] at h
       injection h with _ h
       injection h with h h'
       subst h h'
       have a6 := ha.h1.h6
       have hb2 : b2 ≤ 10000000 := by rcases hr with ⟨_, h, _⟩ | ⟨_, h, _⟩ <;> omega
       obtain ⟨m1, m2, m3, m4, _⟩ := most_law hT.h1 hb2 hmo
       dsimp only
       omega
theorem sell_ev {T : Tm} {a : Acc} {t m me : Nat} {a2 : Acc} {b : Bil} (hT : T.Ok) (ha : a.Ok) (hn : a.next ≤ 1048575) (hm : m ≤ 2399) (hme : me ≤ 49) (ht1 : 1 ≤ t) (ht : t ≤ 100000000) (h : sellP T a t m = (0, a2, b)) :
   TkOk 0 b.id b.un 0 ∧ ∀ tg, tg ≤ 65535 → (Ev.mk 2 me m b.id b.te b.de b.fe b.pr b.ch b.un tg 0 0).ok := by
 obtain ⟨s1, s2⟩ := sellP_sum hT ha h
 have e := sellP_ne h
 have a3 := ha.h1.h3
 have e7 := e.2.2.2.2.2.2.1
 have e8 := e.2.2.2.2.2.2.2.1
 have e9 := e.2.2.2.2.2.2.2.2.1
 refine ⟨⟨by omega, by omega, by omega, .inl ⟨rfl, by omega, by omega⟩, by omega⟩, fun tg htg => ?_⟩
 clear h e
 unfold Ev.ok evOk
 dsimp only
 exact ⟨by omega, by omega, .inr (.inl ⟨rfl, by omega, by omega, by omega, by omega, by omega, by omega, by omega, by omega, by omega, by omega, by omega, by omega, by omega, by omega, by omega, by omega, by omega, by omega, by omega, rfl, rfl⟩)⟩
theorem grant_ev {T : Tm} {a : Acc} {m me : Nat} {a2 : Acc} {b : Bil} (hT : T.Ok) (ha : a.Ok) (hn : a.next ≤ 1048575) (hm : m ≤ 2399) (hme : me ≤ 49) (h : grantP T a m = (0, a2, b)) :
   TkOk 0 b.id b.un 0 ∧ ∀ tg, tg ≤ 65535 → (Ev.mk 3 me m b.id b.te b.de b.fe b.pr b.ch b.un tg 0 0).ok := by
 have e := grantP_ne h
 have a3 := ha.h1.h3
 have e8 := e.2.2.2.2.2.2.2.1
 have e9 := e.2.2.2.2.2.2.2.2.2
 have hal := hT.h2.h4
 subst e8
 dsimp only
 refine ⟨⟨by omega, by omega, by omega, .inl ⟨rfl, by omega, by omega⟩, by omega⟩, fun tg htg => ?_⟩
 clear h e
 unfold Ev.ok evOk
 dsimp only
 exact ⟨by omega, by omega, .inr (.inr (.inl ⟨rfl, by omega, by omega, by omega, by omega, by omega, by omega, by omega, by omega, rfl, rfl, rfl, rfl, rfl, rfl, rfl⟩))⟩
theorem rekey_ev {a : Acc} {me : Nat} {a2 : Acc} {b : Bil} (ha : a.Ok) (hn : a.next ≤ 1048575) (hme : me ≤ 49) (h : rekeyP a = (0, a2, b)) :
   TkOk 2 b.id a2.rev 0 ∧ ∀ tg, tg ≤ 65535 → (Ev.mk 4 me 0 b.id b.te b.de b.fe b.pr b.ch b.un tg 0 0).ok := by
 obtain ⟨e1, e2, e3⟩ := rekeyP_ne h
 have a3 := ha.h1.h3
 have a2' := ha.h1.h2
 subst e1 e2
 dsimp only
 refine ⟨⟨by omega, by omega, by omega, .inr (.inr (.inl ⟨rfl, by omega, by omega⟩)), by omega⟩, fun tg htg => ?_⟩
 clear h
 unfold Ev.ok evOk
 dsimp only
 exact ⟨by omega, by omega, .inr (.inr (.inr (.inl ⟨rfl, by omega, by omega, by omega, by omega, rfl, rfl, rfl, rfl, rfl, rfl, rfl, rfl, rfl⟩)))⟩
theorem own_set {base e size n k o : Nat} {v x : Value} {xs : List Value} {w : World} (h : w.ownsRow base e size v n xs) (hk : k < base) : (w.setCell ⟨k, o, none⟩ x).ownsRow base e size v n xs :=
 own_kept h (grown_setCell w ⟨k, o, none⟩ x) (fun j hj => by injection hj with e; subst e; exact hk)
theorem own_drewK {base e size n : Nat} {v : Value} {xs : List Value} {w : World} (h : w.ownsRow base e size v n xs) : w.drew.ownsRow base e size v n xs :=
 own_kept (row := none) h ⟨rfl, rfl, rfl, Nat.le_refl _, fun _ _ _ => rfl⟩ (by simp)
def RetSv (v : Sv) (w : World) (e : Ending) (w' : World) : Prop :=
 ∃ (A3 : Option Addr) (c3 : Nat) (A2 : Option Addr) (c2 : Nat), e = .returned (.tuple #[.agg #[.slice A3 v.wl.length c3, .slice A2 v.lp.length c2, .int .i64 ↑v.me, .int .i64 ↑v.b.id, .int .i64 ↑v.b.te, .int .i64 ↑v.b.de, .int .i64 ↑v.b.fe, .int .i64 ↑v.b.pr, .int .i64 ↑v.b.ch, .int .i64 ↑v.b.un, .string v.s], .int .i64 ↑v.E]) ∧
   w'.ownsRow w.heap.size 155 4 (.slice A2 v.lp.length c2) v.lp.length (prs v.lp) ∧ w'.ownsRow w.heap.size 119 2 (.slice A3 v.wl.length c3) v.wl.length (wrs v.wl) ∧ Below w.heap.size w w'
theorem retsv_of {r : Nat × Acc × Bil} {k me mo cls rev d am : Nat} {lp : List Pr} {c : List Nat} {L : List Ev} {w w' : World} {e : Ending} (ham : r.1 = 0 → am = amP cls r)
   (h : RetVSell r.1 k me mo r.2.2.id r.2.2.te r.2.2.de r.2.2.fe r.2.2.pr r.2.2.ch r.2.2.un cls am rev d lp c L w e w') : RetSv (svP r k me mo cls rev d lp c.length L.length) w e w' := by
 rcases h with ⟨h0, t2, lp2, A2, c2, A3, c3, ht, hl2, ht2, hO, rfl, ho1, ho2, hb⟩ | ⟨h0, rfl, hb⟩
 · have ha := ham h0
   subst ha
   have et : tagP lp me rev cls d r = t2 := by unfold tagP; rw [ht2]; simp
   unfold svP
   rw [if_pos h0, et, hl2]
   exact ⟨A3, c3, A2, c2, rfl, ho1, ho2, hb⟩
 · unfold svP
   rw [if_neg h0]
   exact ⟨none, 0, none, 0, rfl, World.ownsRow_nil _ _ _ _, World.ownsRow_nil _ _ _ _, hb⟩
def RetServe (v : Sv) (w : World) (e : Ending) (w' : World) : Prop :=
 ∃ (A3 : Option Addr) (c3 : Nat) (A2 : Option Addr) (c2 : Nat), e = .returned (.tuple #[.slice A3 v.wl.length c3, .agg #[.slice A2 v.lp.length c2], .agg #[.int .i64 ↑v.me, .int .i64 ↑v.b.id, .int .i64 ↑v.b.te, .int .i64 ↑v.b.de, .int .i64 ↑v.b.fe, .int .i64 ↑v.b.pr, .int .i64 ↑v.b.ch, .int .i64 ↑v.b.un, .string v.s], .int .i64 ↑v.E]) ∧
   w'.ownsRow w.heap.size 155 4 (.slice A2 v.lp.length c2) v.lp.length (prs v.lp) ∧ w'.ownsRow w.heap.size 119 2 (.slice A3 v.wl.length c3) v.wl.length (wrs v.wl) ∧ Below w.heap.size w w'
def RetChg (E : Nat) (wl : List (Nat × Nat)) (po : Value) (w : World) (e : Ending) (w' : World) : Prop :=
 ∃ (A3 : Option Addr) (c3 : Nat), e = .returned (.tuple #[.slice A3 wl.length c3, .agg #[po], .agg #[.int .i64 0, .int .i64 0, .int .i64 0, .int .i64 0, .int .i64 0, .int .i64 0, .int .i64 0, .int .i64 0, .string ⟨#[]⟩], .int .i64 ↑E]) ∧ w'.ownsRow w.heap.size 119 2 (.slice A3 wl.length c3) wl.length (wrs wl) ∧ Below w.heap.size w w'
set_option maxHeartbeats 8000000 in
theorem served0_ok (T : Tm) (hT : T.Ok) (At : Option Addr) (nt ct : Nat) (cv : Value) (c : List Nat) (L : List Ev) (B : List Cu) (me i ow bp : Nat) (Ao : Option Addr) (no co : Nat) (xk xm xa xb xd dd : Int) (w : World)
   (wfk : (Lit.int .i64 xk).wf = true) (wfm : (Lit.int .i64 xm).wf = true) (wfa : (Lit.int .i64 xa).wf = true) (wfb : (Lit.int .i64 xb).wf = true) (wfd : (Lit.int .i64 xd).wf = true) (hk : Hid (pk xk 8 = 0)) (hM : Hid (pk xm 3 = (me : Int))) (hme : me ≤ 2) (hD : Hid (pk xd 65536 = dd)) (hA : Hid (1 + pk xa 100000 = (ow : Int))) (how : 1 ≤ ow ∧ ow ≤ 100000) (hB : Hid (pk xb 1000 = (bp : Int))) (hbp : bp ≤ 999)
   (hvt : IsDs w (.slice At nt ct) T.tl) (hc : IsWs w cv c) (hS : Srv T c L B) (hp : place B me = some i) (hL : L.length < 120) (hf : (L.length + 1) * 14 ≤ c.length) :
   Calls Tryz.prog 7 #[.agg #[.slice At nt ct, .int .i64 ↑T.fx, .int .i64 ↑T.fb, .int .i64 ↑T.db, .int .i64 ↑T.al, cv, .slice Ao no co], .agg #[.int .i64 xk, .int .i64 xm, .int .i64 xa, .int .i64 xb, .int .i64 xd]] w (RetChg (oweP (B.getD i cu0).a ow bp).1 (if (oweP (B.getD i cu0).a ow bp).1 = 0 then putW c.length (L.length * 14) (evW (chgV me ow bp)) else []) (.slice Ao no co) w) := by
 obtain ⟨Ac, nc, cc, rfl⟩ : ∃ Ac nc cc, cv = .slice Ac nc cc := by obtain ⟨X, y, h, _⟩ := hc; exact ⟨X, _, y, h⟩
 have hV := fun W h1 h2 => (charge_ok T hT At nt ct (.slice Ac nc cc) c L B me i ow bp W h1 h2 hS (by omega) hp hL hf how.1 (by omega) (by omega))
 obtain ⟨E, hE⟩ : ∃ E, (oweP (B.getD i cu0).a ow bp).1 = E := ⟨_, rfl⟩
 obtain ⟨wl0, hwl0⟩ : ∃ wl0, putW c.length (L.length * 14) (evW (chgV me ow bp)) = wl0 := ⟨_, rfl⟩
 rw [hE, hwl0] at hV
 rw [hE, hwl0]
 obtain ⟨wl, hwl⟩ : ∃ wl, (if E = 0 then wl0 else []) = wl := ⟨_, rfl⟩
 rw [hwl]
 replace hV : ∀ W, IsDs W (.slice At nt ct) T.tl → IsWs W (.slice Ac nc cc) c → Calls Tryz.prog 17 #[.agg #[.slice At nt ct, .int .i64 ↑T.fx, .int .i64 ↑T.fb, .int .i64 ↑T.db, .int .i64 ↑T.al], .slice Ac nc cc, .int .i64 ↑me, .agg #[.int .i64 ↑ow, .int .i64 ↑bp]] W (fun e w' => ∃ (A3 : Option Addr) (c3 : Nat), e = .returned (.tuple #[.slice A3 wl.length c3, .int .i64 ↑E]) ∧ w'.ownsRow W.heap.size 119 2 (.slice A3 wl.length c3) wl.length (wrs wl) ∧ Below W.heap.size W w') := by
   intro W h1 h2
   refine (hV W h1 h2).mono ?_
   rintro e w' (⟨h0, A, c', rfl, _, ho, hb⟩ | ⟨h0, rfl, hb⟩)
   · subst h0
     rw [if_pos rfl] at hwl
     subst hwl
     exact ⟨A, c', rfl, ho, hb⟩
   · rw [if_neg h0] at hwl
     subst hwl
     exact ⟨none, 0, rfl, World.ownsRow_nil _ _ _ _, hb⟩
 obtain ⟨ta, hA1⟩ : ∃ ta, Hid (pk xa 100000 = ta) := ⟨_, rfl⟩
 have hta : 1 + ta = (ow : Int) := by rw [← hA.out, hA1.out]
 have hwr : IntKind.i64.wrap (ow : Int) = (ow : Int) := IntWalk.i64_in _ (by omega)
 unfold RetChg
 clear hS hp hL hf hE hwl0 hwl
 have H := Mem.init w
 obtain ⟨W0, hW0⟩ : ∃ W0, ((((w).alloc (.cells #[.slice At nt ct, .int .i64 ↑T.fx, .int .i64 ↑T.fb, .int .i64 ↑T.db, .int .i64 ↑T.al, .slice Ac nc cc, .slice Ao no co] 36)).alloc (.cells #[.int .i64 xk, .int .i64 xm, .int .i64 xa, .int .i64 xb, .int .i64 xd] 27)).alloc (.cells #[.slice none 0 0] 34)).alloc (.cells #[.int .i64 0, .int .i64 0, .int .i64 0, .int .i64 0, .int .i64 0, .int .i64 0, .int .i64 0, .int .i64 0, .string ⟨#[]⟩] 50) = W0 := ⟨_, rfl⟩
 replace H := Mem.alloc H (w.heap.size) (by first | (simp; done) | (simp; omega)) #[.slice At nt ct, .int .i64 ↑T.fx, .int .i64 ↑T.fb, .int .i64 ↑T.db, .int .i64 ↑T.al, .slice Ac nc cc, .slice Ao no co] 36
 replace H := Mem.alloc H (w.heap.size + 1) (by first | (simp; done) | (simp; omega)) #[.int .i64 xk, .int .i64 xm, .int .i64 xa, .int .i64 xb, .int .i64 xd] 27
 replace H := Mem.alloc H (w.heap.size + 1 + 1) (by first | (simp; done) | (simp; omega)) #[.slice none 0 0] 34
 replace H := Mem.alloc H (w.heap.size + 1 + 1 + 1) (by first | (simp; done) | (simp; omega)) #[.int .i64 0, .int .i64 0, .int .i64 0, .int .i64 0, .int .i64 0, .int .i64 0, .int .i64 0, .int .i64 0, .string ⟨#[]⟩] 50
 simp only [List.nil_append, List.cons_append] at H
 rw [hW0] at H
 have hvt0 := hvt.below H.below
 have hc0 := hc.below H.below
 clear hvt hc
 obtain ⟨shlt, sh0, shf0, sh1, shf1, sh2, shf2, sh3, shf3, sh4, shf4, sh5, shf5, sh6, shf6⟩ := H.c7 0 rfl
 obtain ⟨odlt, od0, odf0, od1, odf1, od2, odf2, od3, odf3, od4, odf4⟩ := H.c5 1 rfl
 have ne_sh_od := H.ne 0 1 rfl rfl (by decide)
 have ne_od_sh := H.ne 1 0 rfl rfl (by decide)
 go_enter Tryz.func7, Tryz.ntmps7
 go_upto_region 5 with (first | (go_at_call 6; (with_reducible refine (picked_is _ hM wfm (by omega) (by omega)).mono ?_); rintro e w' ⟨rfl, rfl⟩) | (go_at_call 6; (with_reducible refine (picked_is _ hD wfd (by omega) (by omega)).mono ?_); rintro e w' ⟨rfl, rfl⟩) | (go_at_call 6; (with_reducible refine (picked_is _ hk wfk (by omega) (by omega)).mono ?_); rintro e w' ⟨rfl, rfl⟩))
 clear hW0
 have V0 : Below W0.heap.size W0 W0.drew := below_draws (Below.refl _ _) 1
 have hV1 := hV _ (hvt0.below V0) (hc0.below V0)
 go_region_held3 (fun w' => w'.cell? ⟨w.heap.size, 0, none⟩ = some (.slice At nt ct) ∧ w'.cell? ⟨w.heap.size, 1, none⟩ = some (.int .i64 ↑T.fx) ∧ w'.cell? ⟨w.heap.size, 2, none⟩ = some (.int .i64 ↑T.fb) ∧ w'.cell? ⟨w.heap.size, 3, none⟩ = some (.int .i64 ↑T.db) ∧ w'.cell? ⟨w.heap.size, 4, none⟩ = some (.int .i64 ↑T.al) ∧ w'.cell? ⟨w.heap.size, 5, none⟩ = some (.slice Ac nc cc) ∧ w'.cell? ⟨w.heap.size + 1, 2, none⟩ = some (.int .i64 xa) ∧ w'.cell? ⟨w.heap.size + 1, 3, none⟩ = some (.int .i64 xb))
   (first | with_reducible exact ⟨s0, s1, s2, s3, s4, s5, s6, s7⟩ | go_keep | fail)
   (first | (go_at_call 6; (with_reducible refine (picked_is _ hA1 wfa (by omega) (by omega)).mono ?_); rintro e w' ⟨rfl, rfl⟩) | (go_at_call 6; (with_reducible refine (picked_is _ hB wfb (by omega) (by omega)).mono ?_); rintro e w' ⟨rfl, rfl⟩) | (go_at_call 17; (with_reducible refine hV1.mono ?_); rintro e we ⟨A3, c3, rfl, hown, hbe⟩; have hWe := V0.trans (hbe.mono V0.size); have s0 := (hWe.cell (p := ⟨w.heap.size, 0, none⟩) shlt).trans sh0; have s1 := (hWe.cell (p := ⟨w.heap.size, 1, none⟩) shlt).trans sh1; have s2 := (hWe.cell (p := ⟨w.heap.size, 2, none⟩) shlt).trans sh2; have s3 := (hWe.cell (p := ⟨w.heap.size, 3, none⟩) shlt).trans sh3; have s4 := (hWe.cell (p := ⟨w.heap.size, 4, none⟩) shlt).trans sh4; have s5 := (hWe.cell (p := ⟨w.heap.size, 5, none⟩) shlt).trans sh5; have s6 := (hWe.cell (p := ⟨w.heap.size + 1, 2, none⟩) odlt).trans od2; have s7 := (hWe.cell (p := ⟨w.heap.size + 1, 3, none⟩) odlt).trans od3))
 clear s0 s1 s2 s3 s4 s5 s6 s7 hV hV1 hvt0 hc0 V0 hbe
 replace H : Mem (w) [] (we) [.blk (w.heap.size) 36 #[.slice At nt ct, .int .i64 ↑T.fx, .int .i64 ↑T.fb, .int .i64 ↑T.db, .int .i64 ↑T.al, .slice Ac nc cc, .slice Ao no co], .blk (w.heap.size + 1) 27 #[.int .i64 xk, .int .i64 xm, .int .i64 xa, .int .i64 xb, .int .i64 xd], .blk (w.heap.size + 1 + 1) 34 #[.slice none 0 0], .blk (w.heap.size + 1 + 1 + 1) 50 #[.int .i64 0, .int .i64 0, .int .i64 0, .int .i64 0, .int .i64 0, .int .i64 0, .int .i64 0, .int .i64 0, .string ⟨#[]⟩], .row (W0.heap.size) (119) (2) (.slice A3 wl.length c3) (wl.length) (wrs wl)] := Mem.row H hWe hown (Nat.le_refl _)
 clear hWe hown
 clear shlt sh0 shf0 sh1 shf1 sh2 shf2 sh3 shf3 sh4 shf4 sh5 shf5 sh6 shf6 odlt od0 odf0 od1 odf1 od2 odf2 od3 odf3 od4 odf4 ne_sh_od ne_od_sh
 obtain ⟨shlt, sh0, shf0, sh1, shf1, sh2, shf2, sh3, shf3, sh4, shf4, sh5, shf5, sh6, shf6⟩ := H.c7 0 rfl
 obtain ⟨rolt, ro0, rof0⟩ := H.c1 2 rfl
 obtain ⟨rrlt, rr0, rrf0, rr1, rrf1, rr2, rrf2, rr3, rrf3, rr4, rrf4, rr5, rrf5, rr6, rrf6, rr7, rrf7, rr8, rrf8⟩ := H.c9 3 rfl
 have ne_sh_ro := H.ne 0 2 rfl rfl (by decide)
 have ne_sh_rr := H.ne 0 3 rfl rfl (by decide)
 have ne_ro_sh := H.ne 2 0 rfl rfl (by decide)
 have ne_ro_rr := H.ne 2 3 rfl rfl (by decide)
 have ne_rr_sh := H.ne 3 0 rfl rfl (by decide)
 have ne_rr_ro := H.ne 3 2 rfl rfl (by decide)
 go_wp2
 go_region
 go_wp2
 clear shlt sh0 shf0 sh1 shf1 sh2 shf2 sh3 shf3 sh4 shf4 sh5 shf5 sh6 shf6 rolt ro0 rof0 rrlt rr0 rrf0 rr1 rrf1 rr2 rrf2 rr3 rrf3 rr4 rrf4 rr5 rrf5 rr6 rrf6 rr7 rrf7 rr8 rrf8 ne_sh_ro ne_sh_rr ne_ro_sh ne_ro_rr ne_rr_sh ne_rr_ro
 obtain ⟨w3, hw3⟩ : ∃ w3, (((((((((((we).setCell ⟨w.heap.size + 1 + 1, 0, none⟩ (.slice Ao no co)).setCell ⟨w.heap.size + 1 + 1 + 1, 0, none⟩ (.int .i64 0)).setCell ⟨w.heap.size + 1 + 1 + 1, 1, none⟩ (.int .i64 0)).setCell ⟨w.heap.size + 1 + 1 + 1, 2, none⟩ (.int .i64 0)).setCell ⟨w.heap.size + 1 + 1 + 1, 3, none⟩ (.int .i64 0)).setCell ⟨w.heap.size + 1 + 1 + 1, 4, none⟩ (.int .i64 0)).setCell ⟨w.heap.size + 1 + 1 + 1, 5, none⟩ (.int .i64 0)).setCell ⟨w.heap.size + 1 + 1 + 1, 6, none⟩ (.int .i64 0)).setCell ⟨w.heap.size + 1 + 1 + 1, 7, none⟩ (.int .i64 0)).setCell ⟨w.heap.size + 1 + 1 + 1, 8, none⟩ (.string ⟨#[]⟩)).drew = w3 := ⟨_, rfl⟩
 replace H := Mem.set 2 H rfl (0) (.slice Ao no co)
 replace H := Mem.set 3 H rfl (0) (.int .i64 0)
 replace H := Mem.set 3 H rfl (1) (.int .i64 0)
 replace H := Mem.set 3 H rfl (2) (.int .i64 0)
 replace H := Mem.set 3 H rfl (3) (.int .i64 0)
 replace H := Mem.set 3 H rfl (4) (.int .i64 0)
 replace H := Mem.set 3 H rfl (5) (.int .i64 0)
 replace H := Mem.set 3 H rfl (6) (.int .i64 0)
 replace H := Mem.set 3 H rfl (7) (.int .i64 0)
 replace H := Mem.set 3 H rfl (8) (.string ⟨#[]⟩)
 simp only [List.set_cons_zero, List.set_cons_succ, List.setIfInBounds_toArray] at H
 replace H := H.drew
 rw [hw3] at H ⊢
 clear hw3
 obtain ⟨rolt, ro0, rof0⟩ := H.c1 2 rfl
 obtain ⟨rrlt, rr0, rrf0, rr1, rrf1, rr2, rrf2, rr3, rrf3, rr4, rrf4, rr5, rrf5, rr6, rrf6, rr7, rrf7, rr8, rrf8⟩ := H.c9 3 rfl
 have ne_ro_rr := H.ne 2 3 rfl rfl (by decide)
 have ne_rr_ro := H.ne 3 2 rfl rfl (by decide)
 refine bodyPost_ret (v := .tuple #[.slice A3 wl.length c3, .agg #[.slice Ao no co], .agg #[.int .i64 0, .int .i64 0, .int .i64 0, .int .i64 0, .int .i64 0, .int .i64 0, .int .i64 0, .int .i64 0, .string ⟨#[]⟩], .int .i64 ↑E]) (by simp [results, Tryz.results7, go_sem, ro0, rr0, rr1, rr2, rr3, rr4, rr5, rr6, rr7, rr8]; done) rfl ?_
 exact ⟨A3, c3, rfl, H.ownb 4 rfl, H.below⟩
end Go.Proofs.YtpcgpnkmjjamhaaGreatDoor

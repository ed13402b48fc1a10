/- vend.sell: kind 2. -/
import Derived.Test.YtpcgpnkmjjamhaaGreatDoorQ32
import Derived.Test.YtpcgpnkmjjamhaaGreatDoorQ39
import Derived.Test.YtpcgpnkmjjamhaaGreatDoorQ22
namespace Go.Proofs.YtpcgpnkmjjamhaaGreatDoor
open Go.RowKit
set_option linter.unusedVariables false
set_option maxRecDepth 100000
set_option maxHeartbeats 16000000 in
theorem vsell2_ok (T : Tm) (hT : T.Ok) (At : Option Addr) (nt ct : Nat) (cv : Value) (c : List Nat) (L : List Ev) (B : List Cu) (me i mo d : Nat) (Ao : Option Addr) (no co : Nat) (lp : List Pr) (gt g1 g2 : Nat) (E me2 rev2 next2 month2 bought2 : Nat) (free2 : Int) (l2 : List (Nat × Nat)) (id te de fe pr ch un : Nat) (w : World)
   (hvt : IsDs w (.slice At nt ct) T.tl) (hc : IsWs w cv c) (hS : Srv T c L B) (hme : me ≤ 49) (hp : place B me = some i) (hL : L.length < 120) (hf : (L.length + 1) * 14 ≤ c.length) (hps : IsPs w (.slice Ao no co) lp) (hlp : OOk lp) (h5 : lp.length < 500) (hd : d ≤ 65535)
   (hW : ∀ (W : World) (Ad : Option Addr) (cd : Nat), Below w.heap.size w W → IsDs W (.slice Ad (B.getD i cu0).a.l.length cd) (B.getD i cu0).a.l → Calls Tryz.prog 43 #[.agg #[.int .i64 ((B.getD i cu0).a.me : Int), .int .i64 ((B.getD i cu0).a.rev : Int), .int .i64 ((B.getD i cu0).a.next : Int), .int .i64 ((B.getD i cu0).a.month : Int), .int .i64 ((B.getD i cu0).a.bought : Int), .int .i64 (B.getD i cu0).a.free, .slice Ad (B.getD i cu0).a.l.length cd], .pointer (some ⟨gt, 0, none⟩), .pointer (some ⟨g1, 0, none⟩), .pointer (some ⟨g2, 0, none⟩)] W (RetDI E me2 rev2 next2 month2 bought2 free2 l2 id te de fe pr ch un W))
   (hz : E = 0 → TkOk 0 id un 0 ∧ ∀ t, t ≤ 65535 → (Ev.mk 2 me mo id te de fe pr ch un t 0 0).ok) :
   Calls Tryz.prog 39 #[.agg #[.slice At nt ct, .int .i64 ↑T.fx, .int .i64 ↑T.fb, .int .i64 ↑T.db, .int .i64 ↑T.al], cv, .agg #[.slice Ao no co], .int .i64 ↑d, .agg #[.int .i64 2, .int .i64 ↑me, .int .i64 ↑mo, .int .i64 0, .int .i64 0, .int .i64 0, .int .i64 0, .int .i64 0, .int .i64 0, .int .i64 0, .int .i64 0, .int .i64 0, .int .i64 0, .int .i64 0, .func (.func 43) #[] #[.pointer (some ⟨gt, 0, none⟩), .pointer (some ⟨g1, 0, none⟩), .pointer (some ⟨g2, 0, none⟩)]]] w (RetVSell E 2 me mo id te de fe pr ch un 0 un (B.getD i cu0).a.rev d lp c L w) := by
 obtain ⟨hi, hime⟩ := place_some hp
 clear hime
 have hBk := runE_bok hT L [] B 0 (bok_nil T) (by omega) hS.ok hS.run
 have hgd : B.getD i cu0 = B[i] := by simp [hi]
 have hao := (hBk.h1 B[i] (List.getElem_mem hi)).1
 rw [hgd] at hW ⊢
 have hO := fun W h1 h2 => vopen_ok T hT At nt ct cv c L B W h1 h2 hS
 unfold RetShop at hO
 have hK := fun g x0 x1 x2 x3 x4 x5 v W hv hs hw => vkeep_ok g x0 x1 x2 x3 x4 x5 cv c L v W hs hw hS.tape hS.h2 hL hv hf
 unfold RetWrOwn at hK
 obtain ⟨Ac, nc, cc, rfl⟩ : ∃ Ac nc cc, cv = .slice Ac nc cc := by obtain ⟨X, y, h, _⟩ := hc; exact ⟨X, _, y, h⟩
 have HI := Lib.hid (And.intro hi hp)
 have hat := fun W A n c (h : IsBk W (.slice A n c) B) => h.at_ hi
 generalize B[i] = cu at hao hat hW ⊢
 obtain ⟨⟨ame, rev, next, month, bought, free, l⟩, s⟩ := cu
 dsimp only at hao hat hW ⊢
 have hrev : rev ≤ 15 := hao.h1.h2
 have HB := Lib.hid (And.intro hrev (And.intro hme (And.intro hlp (And.intro h5 hd))))
 clear hS hL hf hgd hBk hi hao hp hrev
 have H := Mem.init w
 obtain ⟨W0, hW0⟩ : ∃ W0, ((((w).alloc (.cells #[.slice At nt ct, .int .i64 ↑T.fx, .int .i64 ↑T.fb, .int .i64 ↑T.db, .int .i64 ↑T.al] 30)).alloc (.cells #[.slice Ao no co] 34)).alloc (.cells #[.int .i64 2, .int .i64 ↑me, .int .i64 ↑mo, .int .i64 0, .int .i64 0, .int .i64 0, .int .i64 0, .int .i64 0, .int .i64 0, .int .i64 0, .int .i64 0, .int .i64 0, .int .i64 0, .int .i64 0, .func (.func 43) #[] #[.pointer (some ⟨gt, 0, none⟩), .pointer (some ⟨g1, 0, none⟩), .pointer (some ⟨g2, 0, none⟩)]] 138)).alloc (.cells #[.slice none 0 0, .slice none 0 0, .int .i64 0, .int .i64 0, .int .i64 0, .int .i64 0, .int .i64 0, .int .i64 0, .int .i64 0, .int .i64 0, .string ⟨#[]⟩] 131) = W0 := ⟨_, rfl⟩
 replace H := Mem.alloc H (w.heap.size) (by first | (simp; done) | (simp; omega)) #[.slice At nt ct, .int .i64 ↑T.fx, .int .i64 ↑T.fb, .int .i64 ↑T.db, .int .i64 ↑T.al] 30
 replace H := Mem.alloc H (w.heap.size + 1) (by first | (simp; done) | (simp; omega)) #[.slice Ao no co] 34
 replace H := Mem.alloc H (w.heap.size + 1 + 1) (by first | (simp; done) | (simp; omega)) #[.int .i64 2, .int .i64 ↑me, .int .i64 ↑mo, .int .i64 0, .int .i64 0, .int .i64 0, .int .i64 0, .int .i64 0, .int .i64 0, .int .i64 0, .int .i64 0, .int .i64 0, .int .i64 0, .int .i64 0, .func (.func 43) #[] #[.pointer (some ⟨gt, 0, none⟩), .pointer (some ⟨g1, 0, none⟩), .pointer (some ⟨g2, 0, none⟩)]] 138
 replace H := Mem.alloc H (w.heap.size + 1 + 1 + 1) (by first | (simp; done) | (simp; omega)) #[.slice none 0 0, .slice none 0 0, .int .i64 0, .int .i64 0, .int .i64 0, .int .i64 0, .int .i64 0, .int .i64 0, .int .i64 0, .int .i64 0, .string ⟨#[]⟩] 131
 simp only [List.nil_append, List.cons_append] at H
 rw [hW0] at H
 have hvt0 := hvt.below H.below
 have hc0 := hc.below H.below
 obtain ⟨ttlt, tt0, ttf0, tt1, ttf1, tt2, ttf2, tt3, ttf3, tt4, ttf4⟩ := H.c5 0 rfl
 go_enter Tryz.func39, Tryz.ntmps39
 go_wp2_with fail
 refine (hO _ hvt0 hc0).mono ?_
 rintro e w1 ⟨g, u, rfl, HK, hbk⟩
 obtain ⟨Ab, nb, cb, rfl⟩ := hbk.slice
 have hbw := HK.below
 obtain ⟨b, off, Ad, cd, As, cs, rfl, hbl, hds, hss, p0, p1, p2, p3, p4, p5, p6, p7⟩ := hat w1 Ab nb cb hbk.is
 clear p7 hss
 have hc1 := hc0.below hbw
 replace H : Mem (w) [] (w1) [.blk (w.heap.size) 30 #[.slice At nt ct, .int .i64 ↑T.fx, .int .i64 ↑T.fb, .int .i64 ↑T.db, .int .i64 ↑T.al], .blk (w.heap.size + 1) 34 #[.slice Ao no co], .blk (w.heap.size + 1 + 1) 138 #[.int .i64 2, .int .i64 ↑me, .int .i64 ↑mo, .int .i64 0, .int .i64 0, .int .i64 0, .int .i64 0, .int .i64 0, .int .i64 0, .int .i64 0, .int .i64 0, .int .i64 0, .int .i64 0, .int .i64 0, .func (.func 43) #[] #[.pointer (some ⟨gt, 0, none⟩), .pointer (some ⟨g1, 0, none⟩), .pointer (some ⟨g2, 0, none⟩)]], .blk (w.heap.size + 1 + 1 + 1) 131 #[.slice none 0 0, .slice none 0 0, .int .i64 0, .int .i64 0, .int .i64 0, .int .i64 0, .int .i64 0, .int .i64 0, .int .i64 0, .int .i64 0, .string ⟨#[]⟩], .blk (g) 78 #[.slice (some ⟨b, off, none⟩) nb cb, .slice At nt ct, .int .i64 ↑T.fx, .int .i64 ↑T.fb, .int .i64 ↑T.db, .int .i64 ↑T.al, .slice Ac nc cc, .int .i64 ↑L.length]] := Mem.join H HK
 clear hO hvt0 hc0 hW0 HK hbw
 clear ttlt tt0 ttf0 tt1 ttf1 tt2 ttf2 tt3 ttf3 tt4 ttf4
 obtain ⟨odlt, od0, odf0, od1, odf1, od2, odf2, od3, odf3, od4, odf4, od5, odf5, od6, odf6, od7, odf7, od8, odf8, od9, odf9, od10, odf10, od11, odf11, od12, odf12, od13, odf13, od14, odf14⟩ := H.c15 2 rfl
 go_wp2_with fail
 refine (customer_some g b off nb cb i me _ _ _ _ _ _ _ B _ (H.blk 4 rfl) hbk.is HI.out.2).mono ?_
 rintro e w2 ⟨rfl, hb2⟩
 obtain ⟨o, ho⟩ : ∃ o, off + i * 8 = o := ⟨_, rfl⟩
 rw [ho] at p0 p1 p2 p3 p4 p5 p6 ⊢
 have q0 := (hb2.cell (p := ⟨b, o, none⟩) hbl).trans p0
 have q1 := (hb2.cell (p := ⟨b, o + 1, none⟩) hbl).trans p1
 have q2 := (hb2.cell (p := ⟨b, o + 2, none⟩) hbl).trans p2
 have q3 := (hb2.cell (p := ⟨b, o + 3, none⟩) hbl).trans p3
 have q4 := (hb2.cell (p := ⟨b, o + 4, none⟩) hbl).trans p4
 have q5 := (hb2.cell (p := ⟨b, o + 5, none⟩) hbl).trans p5
 have q6 := (hb2.cell (p := ⟨b, o + 6, none⟩) hbl).trans p6
 have hbl2 := Nat.lt_of_lt_of_le hbl hb2.size
 have hds2 := hds.below hb2
 have hc2 := hc1.below hb2
 replace H := Mem.call H hb2
 have hbww := H.below
 have hWk := fun W h h2 => hW W Ad cd (hbww.trans (Below.mono h hbww.size)) h2
 unfold RetDI at hWk
 clear ho p0 p1 p2 p3 p4 p5 p6 hc1 hb2 hbl hbk hds hW hbww
 clear odlt od0 odf0 od1 odf1 od2 odf2 od3 odf3 od4 odf4 od5 odf5 od6 odf6 od7 odf7 od8 odf8 od9 odf9 od10 odf10 od11 odf11 od12 odf12 od13 odf13 od14 odf14
 obtain ⟨odlt, od0, odf0, od1, odf1, od2, odf2, od3, odf3, od4, odf4, od5, odf5, od6, odf6, od7, odf7, od8, odf8, od9, odf9, od10, odf10, od11, odf11, od12, odf12, od13, odf13, od14, odf14⟩ := H.c15 2 rfl
 go_upto_region 7 with fail
 obtain ⟨LL, hLL⟩ : ∃ LL : List Chunk, [.blk (w.heap.size) 30 #[.slice At nt ct, .int .i64 ↑T.fx, .int .i64 ↑T.fb, .int .i64 ↑T.db, .int .i64 ↑T.al], .blk (w.heap.size + 1) 34 #[.slice Ao no co], .blk (w.heap.size + 1 + 1) 138 #[.int .i64 2, .int .i64 ↑me, .int .i64 ↑mo, .int .i64 0, .int .i64 0, .int .i64 0, .int .i64 0, .int .i64 0, .int .i64 0, .int .i64 0, .int .i64 0, .int .i64 0, .int .i64 0, .int .i64 0, .func (.func 43) #[] #[.pointer (some ⟨gt, 0, none⟩), .pointer (some ⟨g1, 0, none⟩), .pointer (some ⟨g2, 0, none⟩)]], .blk (w.heap.size + 1 + 1 + 1) 131 #[.slice none 0 0, .slice none 0 0, .int .i64 0, .int .i64 0, .int .i64 0, .int .i64 0, .int .i64 0, .int .i64 0, .int .i64 0, .int .i64 0, .string ⟨#[]⟩], .blk (g) 78 #[.slice (some ⟨b, off, none⟩) nb cb, .slice At nt ct, .int .i64 ↑T.fx, .int .i64 ↑T.fb, .int .i64 ↑T.db, .int .i64 ↑T.al, .slice Ac nc cc, .int .i64 ↑L.length]] = LL := ⟨_, rfl⟩
 rw [hLL] at H
 go_cut [15, 16, 13] (fun p0 p1 p2 wx => ∃ (na bi : Nat) (A2 : Option Addr) (d2 : Nat) (base : Nat), p0 = .pointer (some ⟨na, 0, none⟩) ∧ p1 = .pointer (some ⟨bi, 0, none⟩) ∧ p2 = .int .i64 ↑E ∧ Mem (w) [] wx (LL ++ (.blk na 61 #[.int .i64 ↑me2, .int .i64 ↑rev2, .int .i64 ↑next2, .int .i64 ↑month2, .int .i64 ↑bought2, .int .i64 free2, .slice A2 l2.length d2] :: .blk bi 48 #[.int .i64 ↑id, .int .i64 ↑te, .int .i64 ↑de, .int .i64 ↑fe, .int .i64 ↑pr, .int .i64 ↑ch, .int .i64 ↑un] :: [.row (base) (81) (2) (.slice A2 l2.length d2) (l2.length) (drs l2)])) ∧ Below w2.heap.size w2 wx)
 case first =>
   obtain ⟨Sd, hSd⟩ : ∃ Sd : World → Prop, Sd = fun w' => w'.cell? ⟨w.heap.size + 1 + 1, 14, none⟩ = some (.func (.func 43) #[] #[.pointer (some ⟨gt, 0, none⟩), .pointer (some ⟨g1, 0, none⟩), .pointer (some ⟨g2, 0, none⟩)]) ∧ w'.cell? ⟨b, o, none⟩ = some (.int .i64 ↑ame) ∧ w'.cell? ⟨b, o + 1, none⟩ = some (.int .i64 ↑rev) ∧ w'.cell? ⟨b, o + 2, none⟩ = some (.int .i64 ↑next) ∧ w'.cell? ⟨b, o + 3, none⟩ = some (.int .i64 ↑month) ∧ w'.cell? ⟨b, o + 4, none⟩ = some (.int .i64 ↑bought) ∧ w'.cell? ⟨b, o + 5, none⟩ = some (.int .i64 free) ∧ w'.cell? ⟨b, o + 6, none⟩ = some (.slice Ad l.length cd) := ⟨_, rfl⟩
   have hSk : ∀ we, Below w2.heap.size w2 we → Sd we := fun we hWe => by rw [hSd]; exact ⟨(hWe.cell odlt).trans od14, (hWe.cell hbl2).trans q0, (hWe.cell hbl2).trans q1, (hWe.cell hbl2).trans q2, (hWe.cell hbl2).trans q3, (hWe.cell hbl2).trans q4, (hWe.cell hbl2).trans q5, (hWe.cell hbl2).trans q6⟩
   have nz0a : w2.heap.size ≠ w.heap.size + 1 + 1 := by have := odlt; omega
   have nz0b : w2.heap.size + 1 ≠ w.heap.size + 1 + 1 := by have := odlt; omega
   have nz0c : w.heap.size + 1 + 1 ≠ w2.heap.size := by have := odlt; omega
   have nz0d : w.heap.size + 1 + 1 ≠ w2.heap.size + 1 := by have := odlt; omega
   have nz1a : w2.heap.size ≠ b := by have := hbl2; omega
   have nz1b : w2.heap.size + 1 ≠ b := by have := hbl2; omega
   have nz1c : b ≠ w2.heap.size := by have := hbl2; omega
   have nz1d : b ≠ w2.heap.size + 1 := by have := hbl2; omega
   have nz0e : w2.heap.size ≠ w.heap.size + 1 := by have := odlt; omega
   have nz0f : w.heap.size + 1 ≠ w2.heap.size := by have := odlt; omega
   have V0 : Mem w2 [] (w2).drew [] := (Mem.init w2).drew
   have B0 := V0.below
   have V1 : Mem w2 [] (w2.alloc (.cells #[.int .i64 0, .int .i64 0, .int .i64 0, .int .i64 0, .int .i64 0, .int .i64 0, .slice none 0 0] 61)).drew [.blk (w2.heap.size) 61 #[.int .i64 0, .int .i64 0, .int .i64 0, .int .i64 0, .int .i64 0, .int .i64 0, .slice none 0 0]] := ((Mem.init w2).alloc _ rfl #[.int .i64 0, .int .i64 0, .int .i64 0, .int .i64 0, .int .i64 0, .int .i64 0, .slice none 0 0] 61).drew
   have B1 := V1.below
   have V1b0 := V1.blk 0 rfl
   have V2 : Mem w2 [] (w2.alloc (.cells #[.int .i64 0, .int .i64 0, .int .i64 0, .int .i64 0, .int .i64 0, .int .i64 0, .int .i64 0] 48)).drew [.blk (w2.heap.size) 48 #[.int .i64 0, .int .i64 0, .int .i64 0, .int .i64 0, .int .i64 0, .int .i64 0, .int .i64 0]] := ((Mem.init w2).alloc _ rfl #[.int .i64 0, .int .i64 0, .int .i64 0, .int .i64 0, .int .i64 0, .int .i64 0, .int .i64 0] 48).drew
   have B2 := V2.below
   have V2b1 := V2.blk 0 rfl
   have V3 : Mem w2 [] ((w2.alloc (.cells #[.int .i64 0, .int .i64 0, .int .i64 0, .int .i64 0, .int .i64 0, .int .i64 0, .slice none 0 0] 61)).alloc (.cells #[.int .i64 0, .int .i64 0, .int .i64 0, .int .i64 0, .int .i64 0, .int .i64 0, .int .i64 0] 48)).drew [.blk (w2.heap.size) 61 #[.int .i64 0, .int .i64 0, .int .i64 0, .int .i64 0, .int .i64 0, .int .i64 0, .slice none 0 0], .blk (w2.heap.size + 1) 48 #[.int .i64 0, .int .i64 0, .int .i64 0, .int .i64 0, .int .i64 0, .int .i64 0, .int .i64 0]] := (((Mem.init w2).alloc _ rfl #[.int .i64 0, .int .i64 0, .int .i64 0, .int .i64 0, .int .i64 0, .int .i64 0, .slice none 0 0] 61).alloc (w2.heap.size + 1) (by simp) #[.int .i64 0, .int .i64 0, .int .i64 0, .int .i64 0, .int .i64 0, .int .i64 0, .int .i64 0] 48).drew
   have B3 := V3.below
   have V3b0 := V3.blk 0 rfl
   have V3b1 := V3.blk 1 rfl
   have V4 : Mem w2 [] ((w2.alloc (.cells #[.int .i64 0, .int .i64 0, .int .i64 0, .int .i64 0, .int .i64 0, .int .i64 0, .int .i64 0] 48)).alloc (.cells #[.int .i64 0, .int .i64 0, .int .i64 0, .int .i64 0, .int .i64 0, .int .i64 0, .slice none 0 0] 61)).drew [.blk (w2.heap.size + 1) 61 #[.int .i64 0, .int .i64 0, .int .i64 0, .int .i64 0, .int .i64 0, .int .i64 0, .slice none 0 0], .blk (w2.heap.size) 48 #[.int .i64 0, .int .i64 0, .int .i64 0, .int .i64 0, .int .i64 0, .int .i64 0, .int .i64 0]] := Mem.perm (List.Perm.swap _ _ _) (((Mem.init w2).alloc _ rfl #[.int .i64 0, .int .i64 0, .int .i64 0, .int .i64 0, .int .i64 0, .int .i64 0, .int .i64 0] 48).alloc (w2.heap.size + 1) (by simp) #[.int .i64 0, .int .i64 0, .int .i64 0, .int .i64 0, .int .i64 0, .int .i64 0, .slice none 0 0] 61).drew
   have B4 := V4.below
   have V4b0 := V4.blk 0 rfl
   have V4b1 := V4.blk 1 rfl
   go_region_held3 (fun w' => w'.cell? ⟨w.heap.size + 1 + 1, 14, none⟩ = some (.func (.func 43) #[] #[.pointer (some ⟨gt, 0, none⟩), .pointer (some ⟨g1, 0, none⟩), .pointer (some ⟨g2, 0, none⟩)]) ∧ w'.cell? ⟨b, o, none⟩ = some (.int .i64 ↑ame) ∧ w'.cell? ⟨b, o + 1, none⟩ = some (.int .i64 ↑rev) ∧ w'.cell? ⟨b, o + 2, none⟩ = some (.int .i64 ↑next) ∧ w'.cell? ⟨b, o + 3, none⟩ = some (.int .i64 ↑month) ∧ w'.cell? ⟨b, o + 4, none⟩ = some (.int .i64 ↑bought) ∧ w'.cell? ⟨b, o + 5, none⟩ = some (.int .i64 free) ∧ w'.cell? ⟨b, o + 6, none⟩ = some (.slice Ad l.length cd)) (first | with_reducible exact ⟨s0, s1, s2, s3, s4, s5, s6, s7⟩ | go_keep | fail) (first | (go_at_call 43; (with_reducible refine (hWk (w2).drew B0 (hds2.below B0)).mono ?_); rintro e we ⟨A2, d2, rfl, hown, hbe⟩; have hV := V0; obtain ⟨bse, hK⟩ : ∃ bse : Nat, Mem (w2).drew [] we [.row (bse) (81) (2) (.slice A2 l2.length d2) (l2.length) (drs l2)] := ⟨_, Mem.row (Mem.init _) hbe hown (Nat.le_refl _)⟩; have hWe : Below w2.heap.size w2 we := B0.trans (hbe.mono B0.size); have q := hSk _ hWe; rw [hSd] at q; obtain ⟨s0, s1, s2, s3, s4, s5, s6, s7⟩ := q; have sz := hWe.size; have ez0c : we.heap.size ≠ w.heap.size + 1 := (by have := odlt; omega); have ez0a : we.heap.size ≠ w.heap.size + 1 + 1 := (by have := odlt; omega); have ez0b : we.heap.size + 1 ≠ w.heap.size + 1 + 1 := (by have := odlt; omega); have ez1a : we.heap.size ≠ b := (by have := hbl2; omega); have ez1b : we.heap.size + 1 ≠ b := (by have := hbl2; omega)) | (go_at_call 43; (with_reducible refine (hWk (w2.alloc (.cells #[.int .i64 0, .int .i64 0, .int .i64 0, .int .i64 0, .int .i64 0, .int .i64 0, .slice none 0 0] 61)).drew B1 (hds2.below B1)).mono ?_); rintro e we ⟨A2, d2, rfl, hown, hbe⟩; have hV := V1; obtain ⟨bse, hK⟩ : ∃ bse : Nat, Mem (w2.alloc (.cells #[.int .i64 0, .int .i64 0, .int .i64 0, .int .i64 0, .int .i64 0, .int .i64 0, .slice none 0 0] 61)).drew [] we [.row (bse) (81) (2) (.slice A2 l2.length d2) (l2.length) (drs l2)] := ⟨_, Mem.row (Mem.init _) hbe hown (Nat.le_refl _)⟩; have hWe : Below w2.heap.size w2 we := B1.trans (hbe.mono B1.size); have q := hSk _ hWe; rw [hSd] at q; obtain ⟨s0, s1, s2, s3, s4, s5, s6, s7⟩ := q; have sz := hWe.size; have ez0c : we.heap.size ≠ w.heap.size + 1 := (by have := odlt; omega); have ez0a : we.heap.size ≠ w.heap.size + 1 + 1 := (by have := odlt; omega); have ez0b : we.heap.size + 1 ≠ w.heap.size + 1 + 1 := (by have := odlt; omega); have ez1a : we.heap.size ≠ b := (by have := hbl2; omega); have ez1b : we.heap.size + 1 ≠ b := (by have := hbl2; omega); have zb0 := Blk.below V1b0 hbe V1b0.lt; obtain ⟨zb0lt, zb0_0, zb0f0, zb0_1, zb0f1, zb0_2, zb0f2, zb0_3, zb0f3, zb0_4, zb0f4, zb0_5, zb0f5, zb0_6, zb0f6⟩ := (V1.call hbe).c7 0 rfl) | (go_at_call 43; (with_reducible refine (hWk (w2.alloc (.cells #[.int .i64 0, .int .i64 0, .int .i64 0, .int .i64 0, .int .i64 0, .int .i64 0, .int .i64 0] 48)).drew B2 (hds2.below B2)).mono ?_); rintro e we ⟨A2, d2, rfl, hown, hbe⟩; have hV := V2; obtain ⟨bse, hK⟩ : ∃ bse : Nat, Mem (w2.alloc (.cells #[.int .i64 0, .int .i64 0, .int .i64 0, .int .i64 0, .int .i64 0, .int .i64 0, .int .i64 0] 48)).drew [] we [.row (bse) (81) (2) (.slice A2 l2.length d2) (l2.length) (drs l2)] := ⟨_, Mem.row (Mem.init _) hbe hown (Nat.le_refl _)⟩; have hWe : Below w2.heap.size w2 we := B2.trans (hbe.mono B2.size); have q := hSk _ hWe; rw [hSd] at q; obtain ⟨s0, s1, s2, s3, s4, s5, s6, s7⟩ := q; have sz := hWe.size; have ez0c : we.heap.size ≠ w.heap.size + 1 := (by have := odlt; omega); have ez0a : we.heap.size ≠ w.heap.size + 1 + 1 := (by have := odlt; omega); have ez0b : we.heap.size + 1 ≠ w.heap.size + 1 + 1 := (by have := odlt; omega); have ez1a : we.heap.size ≠ b := (by have := hbl2; omega); have ez1b : we.heap.size + 1 ≠ b := (by have := hbl2; omega); have zb1 := Blk.below V2b1 hbe V2b1.lt; obtain ⟨zb1lt, zb1_0, zb1f0, zb1_1, zb1f1, zb1_2, zb1f2, zb1_3, zb1f3, zb1_4, zb1f4, zb1_5, zb1f5, zb1_6, zb1f6⟩ := (V2.call hbe).c7 0 rfl) | (go_at_call 43; (with_reducible refine (hWk ((w2.alloc (.cells #[.int .i64 0, .int .i64 0, .int .i64 0, .int .i64 0, .int .i64 0, .int .i64 0, .slice none 0 0] 61)).alloc (.cells #[.int .i64 0, .int .i64 0, .int .i64 0, .int .i64 0, .int .i64 0, .int .i64 0, .int .i64 0] 48)).drew B3 (hds2.below B3)).mono ?_); rintro e we ⟨A2, d2, rfl, hown, hbe⟩; have hV := V3; obtain ⟨bse, hK⟩ : ∃ bse : Nat, Mem ((w2.alloc (.cells #[.int .i64 0, .int .i64 0, .int .i64 0, .int .i64 0, .int .i64 0, .int .i64 0, .slice none 0 0] 61)).alloc (.cells #[.int .i64 0, .int .i64 0, .int .i64 0, .int .i64 0, .int .i64 0, .int .i64 0, .int .i64 0] 48)).drew [] we [.row (bse) (81) (2) (.slice A2 l2.length d2) (l2.length) (drs l2)] := ⟨_, Mem.row (Mem.init _) hbe hown (Nat.le_refl _)⟩; have hWe : Below w2.heap.size w2 we := B3.trans (hbe.mono B3.size); have q := hSk _ hWe; rw [hSd] at q; obtain ⟨s0, s1, s2, s3, s4, s5, s6, s7⟩ := q; have sz := hWe.size; have ez0c : we.heap.size ≠ w.heap.size + 1 := (by have := odlt; omega); have ez0a : we.heap.size ≠ w.heap.size + 1 + 1 := (by have := odlt; omega); have ez0b : we.heap.size + 1 ≠ w.heap.size + 1 + 1 := (by have := odlt; omega); have ez1a : we.heap.size ≠ b := (by have := hbl2; omega); have ez1b : we.heap.size + 1 ≠ b := (by have := hbl2; omega); have zb0 := Blk.below V3b0 hbe V3b0.lt; obtain ⟨zb0lt, zb0_0, zb0f0, zb0_1, zb0f1, zb0_2, zb0f2, zb0_3, zb0f3, zb0_4, zb0f4, zb0_5, zb0f5, zb0_6, zb0f6⟩ := (V3.call hbe).c7 0 rfl; have zb1 := Blk.below V3b1 hbe V3b1.lt; obtain ⟨zb1lt, zb1_0, zb1f0, zb1_1, zb1f1, zb1_2, zb1f2, zb1_3, zb1f3, zb1_4, zb1f4, zb1_5, zb1f5, zb1_6, zb1f6⟩ := (V3.call hbe).c7 1 rfl; have zn1 : w2.heap.size ≠ w2.heap.size + 1 := (by omega); have zn2 : w2.heap.size + 1 ≠ w2.heap.size := (by omega)) | (go_at_call 43; (with_reducible refine (hWk ((w2.alloc (.cells #[.int .i64 0, .int .i64 0, .int .i64 0, .int .i64 0, .int .i64 0, .int .i64 0, .int .i64 0] 48)).alloc (.cells #[.int .i64 0, .int .i64 0, .int .i64 0, .int .i64 0, .int .i64 0, .int .i64 0, .slice none 0 0] 61)).drew B4 (hds2.below B4)).mono ?_); rintro e we ⟨A2, d2, rfl, hown, hbe⟩; have hV := V4; obtain ⟨bse, hK⟩ : ∃ bse : Nat, Mem ((w2.alloc (.cells #[.int .i64 0, .int .i64 0, .int .i64 0, .int .i64 0, .int .i64 0, .int .i64 0, .int .i64 0] 48)).alloc (.cells #[.int .i64 0, .int .i64 0, .int .i64 0, .int .i64 0, .int .i64 0, .int .i64 0, .slice none 0 0] 61)).drew [] we [.row (bse) (81) (2) (.slice A2 l2.length d2) (l2.length) (drs l2)] := ⟨_, Mem.row (Mem.init _) hbe hown (Nat.le_refl _)⟩; have hWe : Below w2.heap.size w2 we := B4.trans (hbe.mono B4.size); have q := hSk _ hWe; rw [hSd] at q; obtain ⟨s0, s1, s2, s3, s4, s5, s6, s7⟩ := q; have sz := hWe.size; have ez0c : we.heap.size ≠ w.heap.size + 1 := (by have := odlt; omega); have ez0a : we.heap.size ≠ w.heap.size + 1 + 1 := (by have := odlt; omega); have ez0b : we.heap.size + 1 ≠ w.heap.size + 1 + 1 := (by have := odlt; omega); have ez1a : we.heap.size ≠ b := (by have := hbl2; omega); have ez1b : we.heap.size + 1 ≠ b := (by have := hbl2; omega); have zb0 := Blk.below V4b0 hbe V4b0.lt; obtain ⟨zb0lt, zb0_0, zb0f0, zb0_1, zb0f1, zb0_2, zb0f2, zb0_3, zb0f3, zb0_4, zb0f4, zb0_5, zb0f5, zb0_6, zb0f6⟩ := (V4.call hbe).c7 0 rfl; have zb1 := Blk.below V4b1 hbe V4b1.lt; obtain ⟨zb1lt, zb1_0, zb1f0, zb1_1, zb1f1, zb1_2, zb1f2, zb1_3, zb1f3, zb1_4, zb1f4, zb1_5, zb1f5, zb1_6, zb1f6⟩ := (V4.call hbe).c7 1 rfl; have zn1 : w2.heap.size + 1 ≠ w2.heap.size := (by omega); have zn2 : w2.heap.size ≠ w2.heap.size + 1 := (by omega)))
   all_goals
     go_wp2_with fail
     go_meet
     refine ⟨_, _, A2, d2, bse, rfl, rfl, rfl, ?_⟩
     first
     | with_reducible exact ⟨cr2_a H hV hK, (cr2_a (Mem.init w2) hV hK).below⟩
     | with_reducible exact ⟨cr2_b H hV hK, (cr2_b (Mem.init w2) hV hK).below⟩
     | (have h := cr2_c (c1 := #[.int .i64 ↑me2, .int .i64 ↑rev2, .int .i64 ↑next2, .int .i64 ↑month2, .int .i64 ↑bought2, .int .i64 free2, .slice A2 l2.length d2]) (c2 := #[.int .i64 ↑id, .int .i64 ↑te, .int .i64 ↑de, .int .i64 ↑fe, .int .i64 ↑pr, .int .i64 ↑ch, .int .i64 ↑un]) (t1 := 61) (t2 := 48) (Mem.init w2) hV hK [(0, .int .i64 ↑me2), (1, .int .i64 ↑rev2), (2, .int .i64 ↑next2), (3, .int .i64 ↑month2), (4, .int .i64 ↑bought2), (5, .int .i64 free2), (6, .slice A2 l2.length d2)] (by simp only [List.foldl_cons, List.foldl_nil, List.setIfInBounds_toArray, List.set_cons_zero, List.set_cons_succ])
        simp only [sets, List.foldl_cons, List.foldl_nil, List.nil_append] at h
        with_reducible exact ⟨H.join h, h.below⟩)
     | (have h := cr2_d (c1 := #[.int .i64 ↑me2, .int .i64 ↑rev2, .int .i64 ↑next2, .int .i64 ↑month2, .int .i64 ↑bought2, .int .i64 free2, .slice A2 l2.length d2]) (c2 := #[.int .i64 ↑id, .int .i64 ↑te, .int .i64 ↑de, .int .i64 ↑fe, .int .i64 ↑pr, .int .i64 ↑ch, .int .i64 ↑un]) (t1 := 61) (t2 := 48) (Mem.init w2) hV hK [(0, .int .i64 ↑id), (1, .int .i64 ↑te), (2, .int .i64 ↑de), (3, .int .i64 ↑fe), (4, .int .i64 ↑pr), (5, .int .i64 ↑ch), (6, .int .i64 ↑un)] (by simp only [List.foldl_cons, List.foldl_nil, List.setIfInBounds_toArray, List.set_cons_zero, List.set_cons_succ])
        simp only [sets, List.foldl_cons, List.foldl_nil, List.nil_append] at h
        with_reducible exact ⟨H.join h, h.below⟩)
     | (have h := cr2_e (c1 := #[.int .i64 ↑me2, .int .i64 ↑rev2, .int .i64 ↑next2, .int .i64 ↑month2, .int .i64 ↑bought2, .int .i64 free2, .slice A2 l2.length d2]) (c2 := #[.int .i64 ↑id, .int .i64 ↑te, .int .i64 ↑de, .int .i64 ↑fe, .int .i64 ↑pr, .int .i64 ↑ch, .int .i64 ↑un]) (t1 := 61) (t2 := 48) (Mem.init w2) hV hK [(0, .int .i64 ↑me2), (1, .int .i64 ↑rev2), (2, .int .i64 ↑next2), (3, .int .i64 ↑month2), (4, .int .i64 ↑bought2), (5, .int .i64 free2), (6, .slice A2 l2.length d2)] [(0, .int .i64 ↑id), (1, .int .i64 ↑te), (2, .int .i64 ↑de), (3, .int .i64 ↑fe), (4, .int .i64 ↑pr), (5, .int .i64 ↑ch), (6, .int .i64 ↑un)] (by simp only [List.foldl_cons, List.foldl_nil, List.setIfInBounds_toArray, List.set_cons_zero, List.set_cons_succ]) (by simp only [List.foldl_cons, List.foldl_nil, List.setIfInBounds_toArray, List.set_cons_zero, List.set_cons_succ])
        simp only [sets, List.foldl_cons, List.foldl_nil, List.nil_append] at h
        with_reducible exact ⟨H.join h, h.below⟩)
     | (have h := cr2_f (c1 := #[.int .i64 ↑me2, .int .i64 ↑rev2, .int .i64 ↑next2, .int .i64 ↑month2, .int .i64 ↑bought2, .int .i64 free2, .slice A2 l2.length d2]) (c2 := #[.int .i64 ↑id, .int .i64 ↑te, .int .i64 ↑de, .int .i64 ↑fe, .int .i64 ↑pr, .int .i64 ↑ch, .int .i64 ↑un]) (t1 := 61) (t2 := 48) (Mem.init w2) hV hK [(0, .int .i64 ↑me2), (1, .int .i64 ↑rev2), (2, .int .i64 ↑next2), (3, .int .i64 ↑month2), (4, .int .i64 ↑bought2), (5, .int .i64 free2), (6, .slice A2 l2.length d2)] [(0, .int .i64 ↑id), (1, .int .i64 ↑te), (2, .int .i64 ↑de), (3, .int .i64 ↑fe), (4, .int .i64 ↑pr), (5, .int .i64 ↑ch), (6, .int .i64 ↑un)] (by simp only [List.foldl_cons, List.foldl_nil, List.setIfInBounds_toArray, List.set_cons_zero, List.set_cons_succ]) (by simp only [List.foldl_cons, List.foldl_nil, List.setIfInBounds_toArray, List.set_cons_zero, List.set_cons_succ])
        simp only [sets, List.foldl_cons, List.foldl_nil, List.nil_append] at h
        with_reducible exact ⟨H.join h, h.below⟩)
 case rest =>
   obtain ⟨na, bi, A2, d2, base, rfl, rfl, rfl, H, hCR⟩ := hcut
   subst hLL
   replace H : Mem (w) [] (wc) [.blk (w.heap.size) 30 #[.slice At nt ct, .int .i64 ↑T.fx, .int .i64 ↑T.fb, .int .i64 ↑T.db, .int .i64 ↑T.al], .blk (w.heap.size + 1) 34 #[.slice Ao no co], .blk (w.heap.size + 1 + 1) 138 #[.int .i64 2, .int .i64 ↑me, .int .i64 ↑mo, .int .i64 0, .int .i64 0, .int .i64 0, .int .i64 0, .int .i64 0, .int .i64 0, .int .i64 0, .int .i64 0, .int .i64 0, .int .i64 0, .int .i64 0, .func (.func 43) #[] #[.pointer (some ⟨gt, 0, none⟩), .pointer (some ⟨g1, 0, none⟩), .pointer (some ⟨g2, 0, none⟩)]], .blk (w.heap.size + 1 + 1 + 1) 131 #[.slice none 0 0, .slice none 0 0, .int .i64 0, .int .i64 0, .int .i64 0, .int .i64 0, .int .i64 0, .int .i64 0, .int .i64 0, .int .i64 0, .string ⟨#[]⟩], .blk (g) 78 #[.slice (some ⟨b, off, none⟩) nb cb, .slice At nt ct, .int .i64 ↑T.fx, .int .i64 ↑T.fb, .int .i64 ↑T.db, .int .i64 ↑T.al, .slice Ac nc cc, .int .i64 ↑L.length], .blk (na) 61 #[.int .i64 ↑me2, .int .i64 ↑rev2, .int .i64 ↑next2, .int .i64 ↑month2, .int .i64 ↑bought2, .int .i64 free2, .slice A2 l2.length d2], .blk (bi) 48 #[.int .i64 ↑id, .int .i64 ↑te, .int .i64 ↑de, .int .i64 ↑fe, .int .i64 ↑pr, .int .i64 ↑ch, .int .i64 ↑un], .row (base) (81) (2) (.slice A2 l2.length d2) (l2.length) (drs l2)] := H
   obtain ⟨wk, hwk⟩ : ∃ wk, wk = wc := ⟨_, rfl⟩
   subst hwk

   have hc3 := hc2.below (Below.mono hCR (Nat.le_refl _))
   have q1c := (hCR.cell (p := ⟨b, o + 1, none⟩) hbl2).trans q1
   have hbl3 := Nat.lt_of_lt_of_le hbl2 hCR.size
   clear q0 q1 q2 q3 q4 q5 q6 hbl2 hds2 hWk hc2 hCR
   by_cases hE : E = 0
   rotate_left
   · have hEb : ((E : Int) == 0) = false := by simp; omega
     have hEn : ¬ (E : Int) = 0 := by omega
     clear hK q1c

     clear odlt od0 odf0 od1 odf1 od2 odf2 od3 odf3 od4 odf4 od5 odf5 od6 odf6 od7 odf7 od8 odf8 od9 odf9 od10 odf10 od11 odf11 od12 odf12 od13 odf13 od14 odf14
     obtain ⟨rslt, rs0, rsf0, rs1, rsf1, rs2, rsf2, rs3, rsf3, rs4, rsf4, rs5, rsf5, rs6, rsf6, rs7, rsf7, rs8, rsf8, rs9, rsf9, rs10, rsf10⟩ := H.c11 3 rfl
     go_wp2
     obtain ⟨wz, hwz⟩ : ∃ wz, (((((((((((wk).setCell ⟨w.heap.size + 1 + 1 + 1, 0, none⟩ (.slice none 0 0)).setCell ⟨w.heap.size + 1 + 1 + 1, 1, none⟩ (.slice none 0 0)).setCell ⟨w.heap.size + 1 + 1 + 1, 2, none⟩ (.int .i64 0)).setCell ⟨w.heap.size + 1 + 1 + 1, 3, none⟩ (.int .i64 0)).setCell ⟨w.heap.size + 1 + 1 + 1, 4, none⟩ (.int .i64 0)).setCell ⟨w.heap.size + 1 + 1 + 1, 5, none⟩ (.int .i64 0)).setCell ⟨w.heap.size + 1 + 1 + 1, 6, none⟩ (.int .i64 0)).setCell ⟨w.heap.size + 1 + 1 + 1, 7, none⟩ (.int .i64 0)).setCell ⟨w.heap.size + 1 + 1 + 1, 8, none⟩ (.int .i64 0)).setCell ⟨w.heap.size + 1 + 1 + 1, 9, none⟩ (.int .i64 0)).setCell ⟨w.heap.size + 1 + 1 + 1, 10, none⟩ (.string ⟨#[]⟩) = wz := ⟨_, rfl⟩
     replace H := Mem.set 3 H rfl (0) (.slice none 0 0)
     replace H := Mem.set 3 H rfl (1) (.slice none 0 0)
     replace H := Mem.set 3 H rfl (2) (.int .i64 0)
     replace H := Mem.set 3 H rfl (3) (.int .i64 0)
     replace H := Mem.set 3 H rfl (4) (.int .i64 0)
     replace H := Mem.set 3 H rfl (5) (.int .i64 0)
     replace H := Mem.set 3 H rfl (6) (.int .i64 0)
     replace H := Mem.set 3 H rfl (7) (.int .i64 0)
     replace H := Mem.set 3 H rfl (8) (.int .i64 0)
     replace H := Mem.set 3 H rfl (9) (.int .i64 0)
     replace H := Mem.set 3 H rfl (10) (.string ⟨#[]⟩)
     simp only [List.set_cons_zero, List.set_cons_succ, List.setIfInBounds_toArray] at H
     rw [hwz] at H ⊢
     clear hwz
     clear rslt rs0 rsf0 rs1 rsf1 rs2 rsf2 rs3 rsf3 rs4 rsf4 rs5 rsf5 rs6 rsf6 rs7 rsf7 rs8 rsf8 rs9 rsf9 rs10 rsf10
     obtain ⟨rslt, rs0, rsf0, rs1, rsf1, rs2, rsf2, rs3, rsf3, rs4, rsf4, rs5, rsf5, rs6, rsf6, rs7, rsf7, rs8, rsf8, rs9, rsf9, rs10, rsf10⟩ := H.c11 3 rfl
     refine bodyPost_ret (v := .tuple #[.agg #[.slice none 0 0, .slice none 0 0, .int .i64 0, .int .i64 0, .int .i64 0, .int .i64 0, .int .i64 0, .int .i64 0, .int .i64 0, .int .i64 0, .string ⟨#[]⟩], .int .i64 ↑E]) (by simp [results, Tryz.results39, go_sem, rs0, rs1, rs2, rs3, rs4, rs5, rs6, rs7, rs8, rs9, rs10]; done) rfl ?_
     exact .inr ⟨hE, rfl, H.below⟩
   · subst hE
     skip
     obtain ⟨hk0, hvo⟩ := hz rfl
     clear hz
     obtain ⟨hrev, hme, hlp, h5, hd⟩ := HB.out
     obtain ⟨body, hbody⟩ : ∃ bb, tbody 0 id un = bb := ⟨_, rfl⟩
     have hB := fun W => tbody_ok 0 id un 0 body W hk0 (Lib.hid hbody)
     have hbl := tbody_le hk0
     rw [hbody] at hbl
     have hmk : mayK ((me : Int), (rev : Int), (body : Int)) := by unfold mayK; dsimp only; omega
     have hwf : wf3 (me : Int) (rev : Int) (body : Int) := ⟨WalkArith.wf_i64 (by omega), WalkArith.wf_i64 (by omega), WalkArith.wf_i64 (by omega)⟩
     obtain ⟨t0, t9⟩ := issT_bd (x := (me : Int)) (y := (rev : Int)) (z := (body : Int)) (d := (d : Int)) hlp (by omega) (by omega)
     obtain ⟨t2, ht2⟩ : ∃ t2 : Nat, issT lp (me : Int) (rev : Int) (body : Int) (d : Int) = (t2 : Int) := ⟨(issT lp (me : Int) (rev : Int) (body : Int) (d : Int)).toNat, by omega⟩
     rw [ht2] at t0 t9
     obtain ⟨lp2, hl2⟩ : ∃ lp2, issL lp (me : Int) (rev : Int) (body : Int) (d : Int) = lp2 := ⟨_, rfl⟩
     have hO2 := issL_ok (x := (me : Int)) (y := (rev : Int)) (z := (body : Int)) (d := (d : Int)) hlp hmk (by omega) (by omega) h5
     rw [hl2] at hO2
     have hI := fun W h => issue_ok (.slice Ao no co) lp lp2 (me : Int) (rev : Int) (body : Int) (d : Int) (t2 : Int) W h hlp hmk hwf (by omega) (by omega) h5 (Lib.hid hl2) (Lib.hid ht2)
     unfold RetIss at hI
     have ht65 : t2 ≤ 65535 := by omega
     have hk2 : TkOk 0 id un t2 := ⟨hk0.h1, hk0.h2, hk0.h3, hk0.h4, ht65⟩
     have hFm := fun W => format_ok 0 id un t2 W hk2
     have hKv := fun g x0 x1 x2 x3 x4 x5 W hs hw => hK g x0 x1 x2 x3 x4 x5 (Ev.mk 2 me mo id te de fe pr ch un t2 0 0) W (hvo t2 ht65) hs hw
     have hev : evV (Ev.mk 2 me mo id te de fe pr ch un t2 0 0) = .agg #[.int .i64 2, .int .i64 ↑me, .int .i64 ↑mo, .int .i64 ↑id, .int .i64 ↑te, .int .i64 ↑de, .int .i64 ↑fe, .int .i64 ↑pr, .int .i64 ↑ch, .int .i64 ↑un, .int .i64 ↑t2, .int .i64 0, .int .i64 0] := rfl
     rw [hev] at hKv
     obtain ⟨wl, hwl⟩ : ∃ wl, putW c.length (L.length * 14) (evW ⟨2, me, mo, id, te, de, fe, pr, ch, un, t2, 0, 0⟩) = wl := ⟨_, rfl⟩
     rw [hwl] at hKv
     have HF := Lib.hid (And.intro ht65 (And.intro hl2 (And.intro ht2 (And.intro hO2 (And.intro hwl hbody)))))
     simp only [Int.cast_ofNat_Int] at hB hFm
     obtain ⟨dg, hdg⟩ : ∃ dg, dstr (tokD 0 id un t2) = dg := ⟨_, rfl⟩
     rw [hdg] at hFm
     clear hK hk0 hvo hbl hmk hwf t0 t9 ht2 hl2 hO2 ht65 hk2 hev hwl hbody
     clear odlt od0 odf0 od1 odf1 od2 odf2 od3 odf3 od4 odf4 od5 odf5 od6 odf6 od7 odf7 od8 odf8 od9 odf9 od10 odf10 od11 odf11 od12 odf12 od13 odf13 od14 odf14
     obtain ⟨odlt, od0, odf0, od1, odf1, od2, odf2, od3, odf3, od4, odf4, od5, odf5, od6, odf6, od7, odf7, od8, odf8, od9, odf9, od10, odf10, od11, odf11, od12, odf12, od13, odf13, od14, odf14⟩ := H.c15 2 rfl
     obtain ⟨bilt, bi0, bif0, bi1, bif1, bi2, bif2, bi3, bif3, bi4, bif4, bi5, bif5, bi6, bif6⟩ := H.c7 6 rfl
     obtain ⟨nalt, na0, naf0, na1, naf1, na2, naf2, na3, naf3, na4, naf4, na5, naf5, na6, naf6⟩ := H.c7 5 rfl
     have ne_od_bi := H.ne 2 6 rfl rfl (by decide)
     have ne_od_na := H.ne 2 5 rfl rfl (by decide)
     have ne_bi_od := H.ne 6 2 rfl rfl (by decide)
     have ne_bi_na := H.ne 6 5 rfl rfl (by decide)
     have ne_na_od := H.ne 5 2 rfl rfl (by decide)
     have ne_na_bi := H.ne 5 6 rfl rfl (by decide)
     go_wp2_with fail
     replace H := Mem.alloc H (wk.heap.size) (by first | (simp; done) | (simp; omega)) #[.int .i64 0, .int .i64 ↑id, .int .i64 ↑un, .int .i64 0] 54
     simp only [List.cons_append, List.nil_append] at H
     refine (hB _).mono ?_
     rintro e wd ⟨rfl, hbd⟩
     have hbw2 : Below wk.heap.size wk wd := (below_a1 wk _).trans (Below.mono hbd (by simp))
     have hc4 := hc3.below hbw2
     have q1d := (hbw2.cell (p := ⟨b, o + 1, none⟩) hbl3).trans q1c
     have hbl4 := Nat.lt_of_lt_of_le hbl3 hbw2.size
     replace H := Mem.call H hbd
     have hpsd := hps.below H.below
     clear hB hbd hc3 q1c hbl3 hbw2
     clear odlt od0 odf0 od1 odf1 od2 odf2 od3 odf3 od4 odf4 od5 odf5 od6 odf6 od7 odf7 od8 odf8 od9 odf9 od10 odf10 od11 odf11 od12 odf12 od13 odf13 od14 odf14 bilt bi0 bif0 bi1 bif1 bi2 bif2 bi3 bif3 bi4 bif4 bi5 bif5 bi6 bif6 nalt na0 naf0 na1 naf1 na2 naf2 na3 naf3 na4 naf4 na5 naf5 na6 naf6 ne_od_bi ne_od_na ne_bi_od ne_bi_na ne_na_od ne_na_bi
     obtain ⟨oolt, oo0, oof0⟩ := H.c1 1 rfl
     obtain ⟨odlt, od0, odf0, od1, odf1, od2, odf2, od3, odf3, od4, odf4, od5, odf5, od6, odf6, od7, odf7, od8, odf8, od9, odf9, od10, odf10, od11, odf11, od12, odf12, od13, odf13, od14, odf14⟩ := H.c15 2 rfl
     have ne_oo_od := H.ne 1 2 rfl rfl (by decide)
     have ne_od_oo := H.ne 2 1 rfl rfl (by decide)
     go_upto_region 16 with fail
     obtain ⟨LL, hLL⟩ : ∃ LL : List Chunk, [.blk (w.heap.size) 30 #[.slice At nt ct, .int .i64 ↑T.fx, .int .i64 ↑T.fb, .int .i64 ↑T.db, .int .i64 ↑T.al], .blk (w.heap.size + 1) 34 #[.slice Ao no co], .blk (w.heap.size + 1 + 1) 138 #[.int .i64 2, .int .i64 ↑me, .int .i64 ↑mo, .int .i64 0, .int .i64 0, .int .i64 0, .int .i64 0, .int .i64 0, .int .i64 0, .int .i64 0, .int .i64 0, .int .i64 0, .int .i64 0, .int .i64 0, .func (.func 43) #[] #[.pointer (some ⟨gt, 0, none⟩), .pointer (some ⟨g1, 0, none⟩), .pointer (some ⟨g2, 0, none⟩)]], .blk (w.heap.size + 1 + 1 + 1) 131 #[.slice none 0 0, .slice none 0 0, .int .i64 0, .int .i64 0, .int .i64 0, .int .i64 0, .int .i64 0, .int .i64 0, .int .i64 0, .int .i64 0, .string ⟨#[]⟩], .blk (g) 78 #[.slice (some ⟨b, off, none⟩) nb cb, .slice At nt ct, .int .i64 ↑T.fx, .int .i64 ↑T.fb, .int .i64 ↑T.db, .int .i64 ↑T.al, .slice Ac nc cc, .int .i64 ↑L.length], .blk (na) 61 #[.int .i64 ↑me2, .int .i64 ↑rev2, .int .i64 ↑next2, .int .i64 ↑month2, .int .i64 ↑bought2, .int .i64 free2, .slice A2 l2.length d2], .blk (bi) 48 #[.int .i64 ↑id, .int .i64 ↑te, .int .i64 ↑de, .int .i64 ↑fe, .int .i64 ↑pr, .int .i64 ↑ch, .int .i64 ↑un], .row (base) (81) (2) (.slice A2 l2.length d2) (l2.length) (drs l2), .blk (wk.heap.size) 54 #[.int .i64 0, .int .i64 ↑id, .int .i64 ↑un, .int .i64 0]] = LL := ⟨_, rfl⟩
     rw [hLL] at H
     go_cut [19, 20, 13] (fun p0 p1 p2 wx => ∃ (no2 : Nat) (A4 : Option Addr) (c4 : Nat) (base : Nat), p0 = .pointer (some ⟨no2, 0, none⟩) ∧ p1 = .int .i64 ↑t2 ∧ p2 = .int .i64 0 ∧ Mem (w) [] wx (LL ++ (.blk no2 34 #[.slice A4 lp2.length c4] :: [.row (base) (155) (4) (.slice A4 lp2.length c4) (lp2.length) (prs lp2)])) ∧ Below wd.heap.size wd wx)
     case first =>
       obtain ⟨Sd, hSd⟩ : ∃ Sd : World → Prop, Sd = fun w' => w'.cell? ⟨w.heap.size + 1, 0, none⟩ = some (.slice Ao no co) ∧ w'.cell? ⟨w.heap.size + 1 + 1, 0, none⟩ = some (.int .i64 2) ∧ w'.cell? ⟨w.heap.size + 1 + 1, 1, none⟩ = some (.int .i64 ↑me) ∧ w'.cell? ⟨w.heap.size + 1 + 1, 2, none⟩ = some (.int .i64 ↑mo) ∧ w'.cell? ⟨w.heap.size + 1 + 1, 3, none⟩ = some (.int .i64 0) ∧ w'.cell? ⟨w.heap.size + 1 + 1, 4, none⟩ = some (.int .i64 0) ∧ w'.cell? ⟨w.heap.size + 1 + 1, 5, none⟩ = some (.int .i64 0) ∧ w'.cell? ⟨w.heap.size + 1 + 1, 6, none⟩ = some (.int .i64 0) ∧ w'.cell? ⟨w.heap.size + 1 + 1, 7, none⟩ = some (.int .i64 0) ∧ w'.cell? ⟨w.heap.size + 1 + 1, 8, none⟩ = some (.int .i64 0) ∧ w'.cell? ⟨w.heap.size + 1 + 1, 9, none⟩ = some (.int .i64 0) ∧ w'.cell? ⟨w.heap.size + 1 + 1, 10, none⟩ = some (.int .i64 0) ∧ w'.cell? ⟨w.heap.size + 1 + 1, 11, none⟩ = some (.int .i64 0) ∧ w'.cell? ⟨w.heap.size + 1 + 1, 12, none⟩ = some (.int .i64 0) ∧ w'.cell? ⟨w.heap.size + 1 + 1, 13, none⟩ = some (.int .i64 0) ∧ w'.cell? ⟨w.heap.size + 1 + 1, 14, none⟩ = some (.func (.func 43) #[] #[.pointer (some ⟨gt, 0, none⟩), .pointer (some ⟨g1, 0, none⟩), .pointer (some ⟨g2, 0, none⟩)]) ∧ w'.cell? ⟨b, o + 1, none⟩ = some (.int .i64 ↑rev) := ⟨_, rfl⟩
       have hSk : ∀ we, Below wd.heap.size wd we → Sd we := fun we hWe => by rw [hSd]; exact ⟨(hWe.cell oolt).trans oo0, (hWe.cell odlt).trans od0, (hWe.cell odlt).trans od1, (hWe.cell odlt).trans od2, (hWe.cell odlt).trans od3, (hWe.cell odlt).trans od4, (hWe.cell odlt).trans od5, (hWe.cell odlt).trans od6, (hWe.cell odlt).trans od7, (hWe.cell odlt).trans od8, (hWe.cell odlt).trans od9, (hWe.cell odlt).trans od10, (hWe.cell odlt).trans od11, (hWe.cell odlt).trans od12, (hWe.cell odlt).trans od13, (hWe.cell odlt).trans od14, (hWe.cell hbl4).trans q1d⟩
       have nz0a : wd.heap.size ≠ w.heap.size + 1 := by have := oolt; omega
       have nz0b : wd.heap.size + 1 ≠ w.heap.size + 1 := by have := oolt; omega
       have nz0c : w.heap.size + 1 ≠ wd.heap.size := by have := oolt; omega
       have nz0d : w.heap.size + 1 ≠ wd.heap.size + 1 := by have := oolt; omega
       have nz1a : wd.heap.size ≠ w.heap.size + 1 + 1 := by have := odlt; omega
       have nz1b : wd.heap.size + 1 ≠ w.heap.size + 1 + 1 := by have := odlt; omega
       have nz1c : w.heap.size + 1 + 1 ≠ wd.heap.size := by have := odlt; omega
       have nz1d : w.heap.size + 1 + 1 ≠ wd.heap.size + 1 := by have := odlt; omega
       have nz2a : wd.heap.size ≠ b := by have := hbl4; omega
       have nz2b : wd.heap.size + 1 ≠ b := by have := hbl4; omega
       have nz2c : b ≠ wd.heap.size := by have := hbl4; omega
       have nz2d : b ≠ wd.heap.size + 1 := by have := hbl4; omega
       have nz0e : wd.heap.size ≠ w.heap.size := by have := oolt; omega
       have nz0f : w.heap.size ≠ wd.heap.size := by have := oolt; omega
       have nz1e : wd.heap.size ≠ w.heap.size + 1 := by have := odlt; omega
       have nz1f : w.heap.size + 1 ≠ wd.heap.size := by have := odlt; omega
       have V0 : Mem wd [] (wd).drew [] := (Mem.init wd).drew
       have B0 := V0.below
       have V1 : Mem wd [] (wd.alloc (.cells #[.slice none 0 0] 34)).drew [.blk (wd.heap.size) 34 #[.slice none 0 0]] := ((Mem.init wd).alloc _ rfl #[.slice none 0 0] 34).drew
       have B1 := V1.below
       have V1b0 := V1.blk 0 rfl
       go_region_held3 (fun w' => w'.cell? ⟨w.heap.size + 1, 0, none⟩ = some (.slice Ao no co) ∧ w'.cell? ⟨w.heap.size + 1 + 1, 0, none⟩ = some (.int .i64 2) ∧ w'.cell? ⟨w.heap.size + 1 + 1, 1, none⟩ = some (.int .i64 ↑me) ∧ w'.cell? ⟨w.heap.size + 1 + 1, 2, none⟩ = some (.int .i64 ↑mo) ∧ w'.cell? ⟨w.heap.size + 1 + 1, 3, none⟩ = some (.int .i64 0) ∧ w'.cell? ⟨w.heap.size + 1 + 1, 4, none⟩ = some (.int .i64 0) ∧ w'.cell? ⟨w.heap.size + 1 + 1, 5, none⟩ = some (.int .i64 0) ∧ w'.cell? ⟨w.heap.size + 1 + 1, 6, none⟩ = some (.int .i64 0) ∧ w'.cell? ⟨w.heap.size + 1 + 1, 7, none⟩ = some (.int .i64 0) ∧ w'.cell? ⟨w.heap.size + 1 + 1, 8, none⟩ = some (.int .i64 0) ∧ w'.cell? ⟨w.heap.size + 1 + 1, 9, none⟩ = some (.int .i64 0) ∧ w'.cell? ⟨w.heap.size + 1 + 1, 10, none⟩ = some (.int .i64 0) ∧ w'.cell? ⟨w.heap.size + 1 + 1, 11, none⟩ = some (.int .i64 0) ∧ w'.cell? ⟨w.heap.size + 1 + 1, 12, none⟩ = some (.int .i64 0) ∧ w'.cell? ⟨w.heap.size + 1 + 1, 13, none⟩ = some (.int .i64 0) ∧ w'.cell? ⟨w.heap.size + 1 + 1, 14, none⟩ = some (.func (.func 43) #[] #[.pointer (some ⟨gt, 0, none⟩), .pointer (some ⟨g1, 0, none⟩), .pointer (some ⟨g2, 0, none⟩)]) ∧ w'.cell? ⟨b, o + 1, none⟩ = some (.int .i64 ↑rev)) (first | with_reducible exact ⟨s0, s1, s2, s3, s4, s5, s6, s7, s8, s9, s10, s11, s12, s13, s14, s15, s16⟩ | go_keep | fail) (first | (go_at_call 72; (with_reducible refine (hI (wd).drew (hpsd.below B0)).mono ?_); rintro e we ⟨A4, c4, rfl, _, hown, hbe⟩; have hV := V0; obtain ⟨bse, hK⟩ : ∃ bse : Nat, Mem (wd).drew [] we [.row (bse) (155) (4) (.slice A4 lp2.length c4) (lp2.length) (prs lp2)] := ⟨_, Mem.row (Mem.init _) hbe hown (Nat.le_refl _)⟩; have hWe : Below wd.heap.size wd we := B0.trans (hbe.mono B0.size); have q := hSk _ hWe; rw [hSd] at q; obtain ⟨s0, s1, s2, s3, s4, s5, s6, s7, s8, s9, s10, s11, s12, s13, s14, s15, s16⟩ := q; have sz := hWe.size; have ez0c : we.heap.size ≠ w.heap.size := (by have := oolt; omega); have ez0a : we.heap.size ≠ w.heap.size + 1 := (by have := oolt; omega); have ez0b : we.heap.size + 1 ≠ w.heap.size + 1 := (by have := oolt; omega); have ez1c : we.heap.size ≠ w.heap.size + 1 := (by have := odlt; omega); have ez1a : we.heap.size ≠ w.heap.size + 1 + 1 := (by have := odlt; omega); have ez1b : we.heap.size + 1 ≠ w.heap.size + 1 + 1 := (by have := odlt; omega); have ez2a : we.heap.size ≠ b := (by have := hbl4; omega); have ez2b : we.heap.size + 1 ≠ b := (by have := hbl4; omega)) | (go_at_call 72; (with_reducible refine (hI (wd.alloc (.cells #[.slice none 0 0] 34)).drew (hpsd.below B1)).mono ?_); rintro e we ⟨A4, c4, rfl, _, hown, hbe⟩; have hV := V1; obtain ⟨bse, hK⟩ : ∃ bse : Nat, Mem (wd.alloc (.cells #[.slice none 0 0] 34)).drew [] we [.row (bse) (155) (4) (.slice A4 lp2.length c4) (lp2.length) (prs lp2)] := ⟨_, Mem.row (Mem.init _) hbe hown (Nat.le_refl _)⟩; have hWe : Below wd.heap.size wd we := B1.trans (hbe.mono B1.size); have q := hSk _ hWe; rw [hSd] at q; obtain ⟨s0, s1, s2, s3, s4, s5, s6, s7, s8, s9, s10, s11, s12, s13, s14, s15, s16⟩ := q; have sz := hWe.size; have ez0c : we.heap.size ≠ w.heap.size := (by have := oolt; omega); have ez0a : we.heap.size ≠ w.heap.size + 1 := (by have := oolt; omega); have ez0b : we.heap.size + 1 ≠ w.heap.size + 1 := (by have := oolt; omega); have ez1c : we.heap.size ≠ w.heap.size + 1 := (by have := odlt; omega); have ez1a : we.heap.size ≠ w.heap.size + 1 + 1 := (by have := odlt; omega); have ez1b : we.heap.size + 1 ≠ w.heap.size + 1 + 1 := (by have := odlt; omega); have ez2a : we.heap.size ≠ b := (by have := hbl4; omega); have ez2b : we.heap.size + 1 ≠ b := (by have := hbl4; omega); have zb0 := Blk.below V1b0 hbe V1b0.lt; obtain ⟨zb0lt, zb0_0, zb0f0⟩ := (V1.call hbe).c1 0 rfl))
       all_goals
         go_wp2_with fail
         go_meet
         refine ⟨_, A4, c4, bse, rfl, rfl, rfl, ?_⟩
         first
         | with_reducible exact ⟨cr1_a H hV hK, (cr1_a (Mem.init wd) hV hK).below⟩
         | (have h := cr1_b (c := #[.slice A4 lp2.length c4]) (Mem.init wd) hV hK [(0, .slice A4 lp2.length c4)] (by simp only [List.foldl_cons, List.foldl_nil, List.setIfInBounds_toArray, List.set_cons_zero])
            simp only [sets, List.foldl_cons, List.foldl_nil, List.nil_append] at h
            with_reducible exact ⟨H.join h, h.below⟩)
     case rest =>
       obtain ⟨no2, A4, c4, base2, rfl, rfl, rfl, H, hCR2⟩ := hcut
       subst hLL
       replace H : Mem (w) [] (wc) [.blk (w.heap.size) 30 #[.slice At nt ct, .int .i64 ↑T.fx, .int .i64 ↑T.fb, .int .i64 ↑T.db, .int .i64 ↑T.al], .blk (w.heap.size + 1) 34 #[.slice Ao no co], .blk (w.heap.size + 1 + 1) 138 #[.int .i64 2, .int .i64 ↑me, .int .i64 ↑mo, .int .i64 0, .int .i64 0, .int .i64 0, .int .i64 0, .int .i64 0, .int .i64 0, .int .i64 0, .int .i64 0, .int .i64 0, .int .i64 0, .int .i64 0, .func (.func 43) #[] #[.pointer (some ⟨gt, 0, none⟩), .pointer (some ⟨g1, 0, none⟩), .pointer (some ⟨g2, 0, none⟩)]], .blk (w.heap.size + 1 + 1 + 1) 131 #[.slice none 0 0, .slice none 0 0, .int .i64 0, .int .i64 0, .int .i64 0, .int .i64 0, .int .i64 0, .int .i64 0, .int .i64 0, .int .i64 0, .string ⟨#[]⟩], .blk (g) 78 #[.slice (some ⟨b, off, none⟩) nb cb, .slice At nt ct, .int .i64 ↑T.fx, .int .i64 ↑T.fb, .int .i64 ↑T.db, .int .i64 ↑T.al, .slice Ac nc cc, .int .i64 ↑L.length], .blk (na) 61 #[.int .i64 ↑me2, .int .i64 ↑rev2, .int .i64 ↑next2, .int .i64 ↑month2, .int .i64 ↑bought2, .int .i64 free2, .slice A2 l2.length d2], .blk (bi) 48 #[.int .i64 ↑id, .int .i64 ↑te, .int .i64 ↑de, .int .i64 ↑fe, .int .i64 ↑pr, .int .i64 ↑ch, .int .i64 ↑un], .row (base) (81) (2) (.slice A2 l2.length d2) (l2.length) (drs l2), .blk (wk.heap.size) 54 #[.int .i64 0, .int .i64 ↑id, .int .i64 ↑un, .int .i64 0], .blk (no2) 34 #[.slice A4 lp2.length c4], .row (base2) (155) (4) (.slice A4 lp2.length c4) (lp2.length) (prs lp2)] := H
       have hc5 := hc4.below hCR2
       clear hI hpsd hc4 q1d hbl4 hCR2
       clear oolt oo0 oof0 odlt od0 odf0 od1 odf1 od2 odf2 od3 odf3 od4 odf4 od5 odf5 od6 odf6 od7 odf7 od8 odf8 od9 odf9 od10 odf10 od11 odf11 od12 odf12 od13 odf13 od14 odf14 ne_oo_od ne_od_oo
       obtain ⟨odlt, od0, odf0, od1, odf1, od2, odf2, od3, odf3, od4, odf4, od5, odf5, od6, odf6, od7, odf7, od8, odf8, od9, odf9, od10, odf10, od11, odf11, od12, odf12, od13, odf13, od14, odf14⟩ := H.c15 2 rfl
       obtain ⟨bilt, bi0, bif0, bi1, bif1, bi2, bif2, bi3, bif3, bi4, bif4, bi5, bif5, bi6, bif6⟩ := H.c7 6 rfl
       obtain ⟨tklt, tk0, tkf0, tk1, tkf1, tk2, tkf2, tk3, tkf3⟩ := H.c4 8 rfl
       have ne_od_bi := H.ne 2 6 rfl rfl (by decide)
       have ne_od_tk := H.ne 2 8 rfl rfl (by decide)
       have ne_bi_od := H.ne 6 2 rfl rfl (by decide)
       have ne_bi_tk := H.ne 6 8 rfl rfl (by decide)
       have ne_tk_od := H.ne 8 2 rfl rfl (by decide)
       have ne_tk_bi := H.ne 8 6 rfl rfl (by decide)
       go_wp2_with fail
       obtain ⟨Wd, hWd⟩ : ∃ Wd, (((((((((wc).setCell ⟨wk.heap.size, 3, none⟩ (.int .i64 ↑t2)).setCell ⟨w.heap.size + 1 + 1, 3, none⟩ (.int .i64 ↑id)).setCell ⟨w.heap.size + 1 + 1, 4, none⟩ (.int .i64 ↑te)).setCell ⟨w.heap.size + 1 + 1, 5, none⟩ (.int .i64 ↑de)).setCell ⟨w.heap.size + 1 + 1, 6, none⟩ (.int .i64 ↑fe)).setCell ⟨w.heap.size + 1 + 1, 7, none⟩ (.int .i64 ↑pr)).setCell ⟨w.heap.size + 1 + 1, 8, none⟩ (.int .i64 ↑ch)).setCell ⟨w.heap.size + 1 + 1, 9, none⟩ (.int .i64 ↑un)).setCell ⟨w.heap.size + 1 + 1, 10, none⟩ (.int .i64 ↑t2) = Wd := ⟨_, rfl⟩
       replace H := Mem.set 8 H rfl (3) (.int .i64 ↑t2)
       replace H := Mem.set 2 H rfl (3) (.int .i64 ↑id)
       replace H := Mem.set 2 H rfl (4) (.int .i64 ↑te)
       replace H := Mem.set 2 H rfl (5) (.int .i64 ↑de)
       replace H := Mem.set 2 H rfl (6) (.int .i64 ↑fe)
       replace H := Mem.set 2 H rfl (7) (.int .i64 ↑pr)
       replace H := Mem.set 2 H rfl (8) (.int .i64 ↑ch)
       replace H := Mem.set 2 H rfl (9) (.int .i64 ↑un)
       replace H := Mem.set 2 H rfl (10) (.int .i64 ↑t2)
       simp only [List.set_cons_zero, List.set_cons_succ, List.setIfInBounds_toArray] at H
       rw [hWd] at H ⊢
       clear hWd
       refine (hKv g _ _ _ _ _ _ _ (H.blk 4 rfl) (hc.below H.below)).mono ?_
       rintro e wf ⟨A5, c5, rfl, hp2, hown, hbf⟩
       replace H : Mem (w) [] (wf) [.blk (w.heap.size) 30 #[.slice At nt ct, .int .i64 ↑T.fx, .int .i64 ↑T.fb, .int .i64 ↑T.db, .int .i64 ↑T.al], .blk (w.heap.size + 1) 34 #[.slice Ao no co], .blk (w.heap.size + 1 + 1) 138 #[.int .i64 2, .int .i64 ↑me, .int .i64 ↑mo, .int .i64 ↑id, .int .i64 ↑te, .int .i64 ↑de, .int .i64 ↑fe, .int .i64 ↑pr, .int .i64 ↑ch, .int .i64 ↑un, .int .i64 ↑t2, .int .i64 0, .int .i64 0, .int .i64 0, .func (.func 43) #[] #[.pointer (some ⟨gt, 0, none⟩), .pointer (some ⟨g1, 0, none⟩), .pointer (some ⟨g2, 0, none⟩)]], .blk (w.heap.size + 1 + 1 + 1) 131 #[.slice none 0 0, .slice none 0 0, .int .i64 0, .int .i64 0, .int .i64 0, .int .i64 0, .int .i64 0, .int .i64 0, .int .i64 0, .int .i64 0, .string ⟨#[]⟩], .blk (g) 78 #[.slice (some ⟨b, off, none⟩) nb cb, .slice At nt ct, .int .i64 ↑T.fx, .int .i64 ↑T.fb, .int .i64 ↑T.db, .int .i64 ↑T.al, .slice Ac nc cc, .int .i64 ↑L.length], .blk (na) 61 #[.int .i64 ↑me2, .int .i64 ↑rev2, .int .i64 ↑next2, .int .i64 ↑month2, .int .i64 ↑bought2, .int .i64 free2, .slice A2 l2.length d2], .blk (bi) 48 #[.int .i64 ↑id, .int .i64 ↑te, .int .i64 ↑de, .int .i64 ↑fe, .int .i64 ↑pr, .int .i64 ↑ch, .int .i64 ↑un], .row (base) (81) (2) (.slice A2 l2.length d2) (l2.length) (drs l2), .blk (wk.heap.size) 54 #[.int .i64 0, .int .i64 ↑id, .int .i64 ↑un, .int .i64 ↑t2], .blk (no2) 34 #[.slice A4 lp2.length c4], .row (base2) (155) (4) (.slice A4 lp2.length c4) (lp2.length) (prs lp2), .row (Wd.heap.size) (119) (2) (.slice A5 wl.length c5) (wl.length) (wrs wl)] := Mem.row H hbf hown (Nat.le_refl _)
       clear hKv hc5 hp2 hown hbf
       clear odlt od0 odf0 od1 odf1 od2 odf2 od3 odf3 od4 odf4 od5 odf5 od6 odf6 od7 odf7 od8 odf8 od9 odf9 od10 odf10 od11 odf11 od12 odf12 od13 odf13 od14 odf14 bilt bi0 bif0 bi1 bif1 bi2 bif2 bi3 bif3 bi4 bif4 bi5 bif5 bi6 bif6 tklt tk0 tkf0 tk1 tkf1 tk2 tkf2 tk3 tkf3 ne_od_bi ne_od_tk ne_bi_od ne_bi_tk ne_tk_od ne_tk_bi
       obtain ⟨tklt, tk0, tkf0, tk1, tkf1, tk2, tkf2, tk3, tkf3⟩ := H.c4 8 rfl
       go_wp2_with fail
       refine (hFm _).mono ?_
       rintro e wg ⟨rfl, hbg⟩
       replace H := Mem.call H hbg
       clear hFm hbg
       clear tklt tk0 tkf0 tk1 tkf1 tk2 tkf2 tk3 tkf3
       obtain ⟨odlt, od0, odf0, od1, odf1, od2, odf2, od3, odf3, od4, odf4, od5, odf5, od6, odf6, od7, odf7, od8, odf8, od9, odf9, od10, odf10, od11, odf11, od12, odf12, od13, odf13, od14, odf14⟩ := H.c15 2 rfl
       obtain ⟨bilt, bi0, bif0, bi1, bif1, bi2, bif2, bi3, bif3, bi4, bif4, bi5, bif5, bi6, bif6⟩ := H.c7 6 rfl
       obtain ⟨no2lt, no20, no2f0⟩ := H.c1 9 rfl
       obtain ⟨rslt, rs0, rsf0, rs1, rsf1, rs2, rsf2, rs3, rsf3, rs4, rsf4, rs5, rsf5, rs6, rsf6, rs7, rsf7, rs8, rsf8, rs9, rsf9, rs10, rsf10⟩ := H.c11 3 rfl
       have ne_od_bi := H.ne 2 6 rfl rfl (by decide)
       have ne_od_no2 := H.ne 2 9 rfl rfl (by decide)
       have ne_od_rs := H.ne 2 3 rfl rfl (by decide)
       have ne_bi_od := H.ne 6 2 rfl rfl (by decide)
       have ne_bi_no2 := H.ne 6 9 rfl rfl (by decide)
       have ne_bi_rs := H.ne 6 3 rfl rfl (by decide)
       have ne_no2_od := H.ne 9 2 rfl rfl (by decide)
       have ne_no2_bi := H.ne 9 6 rfl rfl (by decide)
       have ne_no2_rs := H.ne 9 3 rfl rfl (by decide)
       have ne_rs_od := H.ne 3 2 rfl rfl (by decide)
       have ne_rs_bi := H.ne 3 6 rfl rfl (by decide)
       have ne_rs_no2 := H.ne 3 9 rfl rfl (by decide)
       go_wp2
       obtain ⟨wz, hwz⟩ : ∃ wz, (((((((((((wg).setCell ⟨w.heap.size + 1 + 1 + 1, 0, none⟩ (.slice A5 wl.length c5)).setCell ⟨w.heap.size + 1 + 1 + 1, 1, none⟩ (.slice A4 lp2.length c4)).setCell ⟨w.heap.size + 1 + 1 + 1, 2, none⟩ (.int .i64 ↑me)).setCell ⟨w.heap.size + 1 + 1 + 1, 3, none⟩ (.int .i64 ↑id)).setCell ⟨w.heap.size + 1 + 1 + 1, 4, none⟩ (.int .i64 ↑te)).setCell ⟨w.heap.size + 1 + 1 + 1, 5, none⟩ (.int .i64 ↑de)).setCell ⟨w.heap.size + 1 + 1 + 1, 6, none⟩ (.int .i64 ↑fe)).setCell ⟨w.heap.size + 1 + 1 + 1, 7, none⟩ (.int .i64 ↑pr)).setCell ⟨w.heap.size + 1 + 1 + 1, 8, none⟩ (.int .i64 ↑ch)).setCell ⟨w.heap.size + 1 + 1 + 1, 9, none⟩ (.int .i64 ↑un)).setCell ⟨w.heap.size + 1 + 1 + 1, 10, none⟩ (.string dg) = wz := ⟨_, rfl⟩
       replace H := Mem.set 3 H rfl (0) (.slice A5 wl.length c5)
       replace H := Mem.set 3 H rfl (1) (.slice A4 lp2.length c4)
       replace H := Mem.set 3 H rfl (2) (.int .i64 ↑me)
       replace H := Mem.set 3 H rfl (3) (.int .i64 ↑id)
       replace H := Mem.set 3 H rfl (4) (.int .i64 ↑te)
       replace H := Mem.set 3 H rfl (5) (.int .i64 ↑de)
       replace H := Mem.set 3 H rfl (6) (.int .i64 ↑fe)
       replace H := Mem.set 3 H rfl (7) (.int .i64 ↑pr)
       replace H := Mem.set 3 H rfl (8) (.int .i64 ↑ch)
       replace H := Mem.set 3 H rfl (9) (.int .i64 ↑un)
       replace H := Mem.set 3 H rfl (10) (.string dg)
       simp only [List.set_cons_zero, List.set_cons_succ, List.setIfInBounds_toArray] at H
       rw [hwz] at H ⊢
       clear hwz
       clear odlt od0 odf0 od1 odf1 od2 odf2 od3 odf3 od4 odf4 od5 odf5 od6 odf6 od7 odf7 od8 odf8 od9 odf9 od10 odf10 od11 odf11 od12 odf12 od13 odf13 od14 odf14 bilt bi0 bif0 bi1 bif1 bi2 bif2 bi3 bif3 bi4 bif4 bi5 bif5 bi6 bif6 no2lt no20 no2f0 rslt rs0 rsf0 rs1 rsf1 rs2 rsf2 rs3 rsf3 rs4 rsf4 rs5 rsf5 rs6 rsf6 rs7 rsf7 rs8 rsf8 rs9 rsf9 rs10 rsf10 ne_od_bi ne_od_no2 ne_od_rs ne_bi_od ne_bi_no2 ne_bi_rs ne_no2_od ne_no2_bi ne_no2_rs ne_rs_od ne_rs_bi ne_rs_no2
       obtain ⟨rslt, rs0, rsf0, rs1, rsf1, rs2, rsf2, rs3, rsf3, rs4, rsf4, rs5, rsf5, rs6, rsf6, rs7, rsf7, rs8, rsf8, rs9, rsf9, rs10, rsf10⟩ := H.c11 3 rfl
       refine bodyPost_ret (v := .tuple #[.agg #[.slice A5 wl.length c5, .slice A4 lp2.length c4, .int .i64 ↑me, .int .i64 ↑id, .int .i64 ↑te, .int .i64 ↑de, .int .i64 ↑fe, .int .i64 ↑pr, .int .i64 ↑ch, .int .i64 ↑un, .string dg], .int .i64 0]) (by simp [results, Tryz.results39, go_sem, rs0, rs1, rs2, rs3, rs4, rs5, rs6, rs7, rs8, rs9, rs10]; done) rfl ?_
       obtain ⟨ht65, hl2, ht2, hO2, hwl, hbody⟩ := HF.out
       refine .inl ⟨rfl, t2, lp2, A4, c4, A5, c5, ht65, by rw [hbody]; exact hl2, by rw [hbody]; exact ht2, hO2, by rw [hwl, hdg], H.ownb 10 rfl, by rw [hwl]; exact H.ownb 11 rfl, H.below⟩
set_option maxHeartbeats 4000000 in
theorem vserve2_ok (T : Tm) (hT : T.Ok) (At : Option Addr) (nt ct : Nat) (cv : Value) (c : List Nat) (L : List Ev) (B : List Cu) (me i te mo d : Nat) (Ao : Option Addr) (no co : Nat) (lp : List Pr) (w : World)
   (hvt : IsDs w (.slice At nt ct) T.tl) (hc : IsWs w cv c) (hS : Srv T c L B) (hme : me ≤ 49) (hp : place B me = some i) (hL : L.length < 120) (hf : (L.length + 1) * 14 ≤ c.length) (hps : IsPs w (.slice Ao no co) lp) (hlp : OOk lp) (h5 : lp.length < 500) (hd : d ≤ 65535) (ht1 : 1 ≤ te) (ht9 : te ≤ 100000000) (hmo : mo ≤ 2399) :
   Calls Tryz.prog 20 #[.agg #[.slice At nt ct, .int .i64 ↑T.fx, .int .i64 ↑T.fb, .int .i64 ↑T.db, .int .i64 ↑T.al], cv, .agg #[.slice Ao no co], .int .i64 ↑me, .int .i64 ↑te, .int .i64 ↑mo, .int .i64 ↑d] w (RetServe (svP (sellP T (B.getD i cu0).a te mo) 2 me mo 0 (B.getD i cu0).a.rev d lp c.length L.length) w) := by
 obtain ⟨hi, hime⟩ := place_some hp
 have hBk := runE_bok hT L [] B 0 (bok_nil T) (by omega) hS.ok hS.run
 have hgd : B.getD i cu0 = B[i] := by simp [hi]
 have hao : (B.getD i cu0).a.Ok ∧ (B.getD i cu0).a.next = (B.getD i cu0).s.length + 1 := by rw [hgd]; exact hBk.h1 B[i] (List.getElem_mem hi)
 have hsl : (B.getD i cu0).s.length ≤ 1000 := by rw [hgd]; have := hBk.sold (List.getElem_mem hi); omega
 have hnx : (B.getD i cu0).a.next ≤ 1048575 := by omega
 obtain ⟨r, hr⟩ : ∃ r, sellP T (B.getD i cu0).a te mo = r := ⟨_, rfl⟩
 rw [hr]
 obtain ⟨Ac, nc, cc, rfl⟩ : ∃ Ac nc cc, cv = .slice Ac nc cc := by obtain ⟨X, y, h, _⟩ := hc; exact ⟨X, _, y, h⟩
 have H := Mem.init w
 obtain ⟨W0, hW0⟩ : ∃ W0, ((((((w).alloc (.cells #[.slice At nt ct, .int .i64 ↑T.fx, .int .i64 ↑T.fb, .int .i64 ↑T.db, .int .i64 ↑T.al] 30)).alloc (.cells #[.slice Ao no co] 34)).alloc (.cells #[.int .i64 ↑te] 3)).alloc (.cells #[.int .i64 ↑mo] 3)).alloc (.cells #[.slice none 0 0] 34)).alloc (.cells #[.int .i64 0, .int .i64 0, .int .i64 0, .int .i64 0, .int .i64 0, .int .i64 0, .int .i64 0, .int .i64 0, .string ⟨#[]⟩] 50) = W0 := ⟨_, rfl⟩
 replace H := Mem.alloc H (w.heap.size) (by first | (simp; done) | (simp; omega)) #[.slice At nt ct, .int .i64 ↑T.fx, .int .i64 ↑T.fb, .int .i64 ↑T.db, .int .i64 ↑T.al] 30
 replace H := Mem.alloc H (w.heap.size + 1) (by first | (simp; done) | (simp; omega)) #[.slice Ao no co] 34
 replace H := Mem.alloc H (w.heap.size + 1 + 1) (by first | (simp; done) | (simp; omega)) #[.int .i64 ↑te] 3
 replace H := Mem.alloc H (w.heap.size + 1 + 1 + 1) (by first | (simp; done) | (simp; omega)) #[.int .i64 ↑mo] 3
 replace H := Mem.alloc H (w.heap.size + 1 + 1 + 1 + 1) (by first | (simp; done) | (simp; omega)) #[.slice none 0 0] 34
 replace H := Mem.alloc H (w.heap.size + 1 + 1 + 1 + 1 + 1) (by first | (simp; done) | (simp; omega)) #[.int .i64 0, .int .i64 0, .int .i64 0, .int .i64 0, .int .i64 0, .int .i64 0, .int .i64 0, .int .i64 0, .string ⟨#[]⟩] 50
 simp only [List.nil_append, List.cons_append] at H
 rw [hW0] at H
 have hvt0 := hvt.below H.below
 have hc0 := hc.below H.below
 have hps0 := hps.below H.below
 obtain ⟨ttlt, tt0, ttf0, tt1, ttf1, tt2, ttf2, tt3, ttf3, tt4, ttf4⟩ := H.c5 0 rfl
 obtain ⟨oolt, oo0, oof0⟩ := H.c1 1 rfl
 obtain ⟨btelt, bte0, btef0⟩ := H.c1 2 rfl
 obtain ⟨bmolt, bmo0, bmof0⟩ := H.c1 3 rfl
 have ne_tt_oo := H.ne 0 1 rfl rfl (by decide)
 have ne_tt_bte := H.ne 0 2 rfl rfl (by decide)
 have ne_tt_bmo := H.ne 0 3 rfl rfl (by decide)
 have ne_oo_tt := H.ne 1 0 rfl rfl (by decide)
 have ne_oo_bte := H.ne 1 2 rfl rfl (by decide)
 have ne_oo_bmo := H.ne 1 3 rfl rfl (by decide)
 have ne_bte_tt := H.ne 2 0 rfl rfl (by decide)
 have ne_bte_oo := H.ne 2 1 rfl rfl (by decide)
 have ne_bte_bmo := H.ne 2 3 rfl rfl (by decide)
 have ne_bmo_tt := H.ne 3 0 rfl rfl (by decide)
 have ne_bmo_oo := H.ne 3 1 rfl rfl (by decide)
 have ne_bmo_bte := H.ne 3 2 rfl rfl (by decide)
 have hz : r.1 = 0 → TkOk 0 r.2.2.id r.2.2.un 0 ∧ ∀ t, t ≤ 65535 → (Ev.mk 2 me mo r.2.2.id r.2.2.te r.2.2.de r.2.2.fe r.2.2.pr r.2.2.ch r.2.2.un t 0 0).ok := by
   intro h0
   have h : sellP T (B.getD i cu0).a te mo = (0, r.2.1, r.2.2) := by rw [hr, ← h0]
   exact sell_ev hT hao.1 hnx hmo hme ht1 ht9 h
 have hWk : ∀ (W : World) (Ad : Option Addr) (cd : Nat), Below W0.heap.size W0 W → IsDs W (.slice Ad (B.getD i cu0).a.l.length cd) (B.getD i cu0).a.l → Calls Tryz.prog 43 #[.agg #[.int .i64 ((B.getD i cu0).a.me : Int), .int .i64 ((B.getD i cu0).a.rev : Int), .int .i64 ((B.getD i cu0).a.next : Int), .int .i64 ((B.getD i cu0).a.month : Int), .int .i64 ((B.getD i cu0).a.bought : Int), .int .i64 (B.getD i cu0).a.free, .slice Ad (B.getD i cu0).a.l.length cd], .pointer (some ⟨w.heap.size, 0, none⟩), .pointer (some ⟨w.heap.size + 1 + 1, 0, none⟩), .pointer (some ⟨w.heap.size + 1 + 1 + 1, 0, none⟩)] W (RetDI r.1 r.2.1.me r.2.1.rev r.2.1.next r.2.1.month r.2.1.bought r.2.1.free r.2.1.l r.2.2.id r.2.2.te r.2.2.de r.2.2.fe r.2.2.pr r.2.2.ch r.2.2.un W) := by
   intro W Ad cd hbW h2
   exact vsellw_ok w.heap.size (w.heap.size + 1 + 1) (w.heap.size + 1 + 1 + 1) (B.getD i cu0).a.me (B.getD i cu0).a.rev (B.getD i cu0).a.next (B.getD i cu0).a.month (B.getD i cu0).a.bought (B.getD i cu0).a.free Ad (B.getD i cu0).a.l.length cd (B.getD i cu0).a.l At nt ct T.fx T.fb T.db T.al T.tl te mo r.1 r.2.1.me r.2.1.rev r.2.1.next r.2.1.month r.2.1.bought r.2.1.free r.2.1.l r.2.2.id r.2.2.te r.2.2.de r.2.2.fe r.2.2.pr r.2.2.ch r.2.2.un W h2 hao.1.h2 hao.1.h1 (hvt0.below hbW) hT.h1 hT.h2 ht1 ht9 hmo hnx (Lib.hid hr) ((hbW.cell (p := ⟨w.heap.size, 0, none⟩) (Nat.lt_of_lt_of_le ttlt (Nat.le_refl _))).trans tt0) ((hbW.cell (p := ⟨w.heap.size, 1, none⟩) (Nat.lt_of_lt_of_le ttlt (Nat.le_refl _))).trans tt1) ((hbW.cell (p := ⟨w.heap.size, 2, none⟩) (Nat.lt_of_lt_of_le ttlt (Nat.le_refl _))).trans tt2) ((hbW.cell (p := ⟨w.heap.size, 3, none⟩) (Nat.lt_of_lt_of_le ttlt (Nat.le_refl _))).trans tt3) ((hbW.cell (p := ⟨w.heap.size, 4, none⟩) (Nat.lt_of_lt_of_le ttlt (Nat.le_refl _))).trans tt4) ((hbW.cell (p := ⟨w.heap.size + 1 + 1, 0, none⟩) (Nat.lt_of_lt_of_le btelt (Nat.le_refl _))).trans bte0) ((hbW.cell (p := ⟨w.heap.size + 1 + 1 + 1, 0, none⟩) (Nat.lt_of_lt_of_le bmolt (Nat.le_refl _))).trans bmo0)
 have hSl := vsell2_ok T hT At nt ct (.slice Ac nc cc) c L B me i mo d Ao no co lp w.heap.size (w.heap.size + 1 + 1) (w.heap.size + 1 + 1 + 1) r.1 r.2.1.me r.2.1.rev r.2.1.next r.2.1.month r.2.1.bought r.2.1.free r.2.1.l r.2.2.id r.2.2.te r.2.2.de r.2.2.fe r.2.2.pr r.2.2.ch r.2.2.un W0 hvt0 hc0 hS hme hp hL hf hps0 hlp h5 hd hWk hz
 replace hSl := hSl.mono fun e w' h => retsv_of (r := r) (cls := 0) (am := r.2.2.un) (fun _ => by unfold amP; simp) h
 obtain ⟨v, hv⟩ : ∃ v, svP r 2 me mo 0 (B.getD i cu0).a.rev d lp c.length L.length = v := ⟨_, rfl⟩
 rw [hv] at hSl ⊢
 unfold RetSv at hSl
 obtain ⟨wl, lq, vme, ⟨id, te', de, fe, pr, ch, un⟩, s, E⟩ := v
 dsimp only at hSl
 unfold RetServe
 dsimp only
 clear hWk hz hr hv hvt hc hps hS hf
 go_enter Tryz.func20, Tryz.ntmps20
 go_wp2_with fail
 refine hSl.mono ?_
 rintro e w1 ⟨A3, c3, A2, c2, rfl, ho1, ho2, hb1⟩
 replace H := Mem.call H hb1
 have hsz : W0.heap.size = w.heap.size + 1 + 1 + 1 + 1 + 1 + 1 := by rw [← hW0]; simp
 clear hSl hW0 hvt0 hc0 hps0 hb1
 clear ttlt tt0 ttf0 tt1 ttf1 tt2 ttf2 tt3 ttf3 tt4 ttf4 oolt oo0 oof0 btelt bte0 btef0 bmolt bmo0 bmof0 ne_tt_oo ne_tt_bte ne_tt_bmo ne_oo_tt ne_oo_bte ne_oo_bmo ne_bte_tt ne_bte_oo ne_bte_bmo ne_bmo_tt ne_bmo_oo ne_bmo_bte
 go_wp2
 obtain ⟨w2, hw2⟩ : ∃ w2, (w1).alloc (.cells #[.slice A3 wl.length c3, .slice A2 lq.length c2, .int .i64 ↑vme, .int .i64 ↑id, .int .i64 (te' : Int), .int .i64 ↑de, .int .i64 ↑fe, .int .i64 ↑pr, .int .i64 ↑ch, .int .i64 ↑un, .string s] 131) = w2 := ⟨_, rfl⟩
 replace H := Mem.alloc H (w1.heap.size) (by first | (simp; done) | (simp; omega)) #[.slice A3 wl.length c3, .slice A2 lq.length c2, .int .i64 ↑vme, .int .i64 ↑id, .int .i64 (te' : Int), .int .i64 ↑de, .int .i64 ↑fe, .int .i64 ↑pr, .int .i64 ↑ch, .int .i64 ↑un, .string s] 131
 simp only [List.cons_append, List.nil_append] at H
 rw [hw2] at H ⊢
 have hq1 := own_kept ho1 (World.grownBy_alloc w1 (.cells #[.slice A3 wl.length c3, .slice A2 lq.length c2, .int .i64 ↑vme, .int .i64 ↑id, .int .i64 (te' : Int), .int .i64 ↑de, .int .i64 ↑fe, .int .i64 ↑pr, .int .i64 ↑ch, .int .i64 ↑un, .string s] 131) none) (by simp)
 have hq2 := own_kept ho2 (World.grownBy_alloc w1 (.cells #[.slice A3 wl.length c3, .slice A2 lq.length c2, .int .i64 ↑vme, .int .i64 ↑id, .int .i64 (te' : Int), .int .i64 ↑de, .int .i64 ↑fe, .int .i64 ↑pr, .int .i64 ↑ch, .int .i64 ↑un, .string s] 131) none) (by simp)
 rw [hw2] at hq1 hq2
 clear hw2 ho1 ho2
 obtain ⟨svlt, sv0, svf0, sv1, svf1, sv2, svf2, sv3, svf3, sv4, svf4, sv5, svf5, sv6, svf6, sv7, svf7, sv8, svf8, sv9, svf9, sv10, svf10⟩ := H.c11 6 rfl
 obtain ⟨rolt, ro0, rof0⟩ := H.c1 4 rfl
 obtain ⟨rrlt, rr0, rrf0, rr1, rrf1, rr2, rrf2, rr3, rrf3, rr4, rrf4, rr5, rrf5, rr6, rrf6, rr7, rrf7, rr8, rrf8⟩ := H.c9 5 rfl
 have ne_sv_ro := H.ne 6 4 rfl rfl (by decide)
 have ne_sv_rr := H.ne 6 5 rfl rfl (by decide)
 have ne_ro_sv := H.ne 4 6 rfl rfl (by decide)
 have ne_ro_rr := H.ne 4 5 rfl rfl (by decide)
 have ne_rr_sv := H.ne 5 6 rfl rfl (by decide)
 have ne_rr_ro := H.ne 5 4 rfl rfl (by decide)
 go_region
 go_wp2
 clear svlt sv0 svf0 sv1 svf1 sv2 svf2 sv3 svf3 sv4 svf4 sv5 svf5 sv6 svf6 sv7 svf7 sv8 svf8 sv9 svf9 sv10 svf10 rolt ro0 rof0 rrlt rr0 rrf0 rr1 rrf1 rr2 rrf2 rr3 rrf3 rr4 rrf4 rr5 rrf5 rr6 rrf6 rr7 rrf7 rr8 rrf8 ne_sv_ro ne_sv_rr ne_ro_sv ne_ro_rr ne_rr_sv ne_rr_ro
 obtain ⟨w3, hw3⟩ : ∃ w3, (((((((((((w2).setCell ⟨w.heap.size + 1 + 1 + 1 + 1, 0, none⟩ (.slice A2 lq.length c2)).setCell ⟨w.heap.size + 1 + 1 + 1 + 1 + 1, 0, none⟩ (.int .i64 ↑vme)).setCell ⟨w.heap.size + 1 + 1 + 1 + 1 + 1, 1, none⟩ (.int .i64 ↑id)).setCell ⟨w.heap.size + 1 + 1 + 1 + 1 + 1, 2, none⟩ (.int .i64 (te' : Int))).setCell ⟨w.heap.size + 1 + 1 + 1 + 1 + 1, 3, none⟩ (.int .i64 ↑de)).setCell ⟨w.heap.size + 1 + 1 + 1 + 1 + 1, 4, none⟩ (.int .i64 ↑fe)).setCell ⟨w.heap.size + 1 + 1 + 1 + 1 + 1, 5, none⟩ (.int .i64 ↑pr)).setCell ⟨w.heap.size + 1 + 1 + 1 + 1 + 1, 6, none⟩ (.int .i64 ↑ch)).setCell ⟨w.heap.size + 1 + 1 + 1 + 1 + 1, 7, none⟩ (.int .i64 ↑un)).setCell ⟨w.heap.size + 1 + 1 + 1 + 1 + 1, 8, none⟩ (.string s)).drew = w3 := ⟨_, rfl⟩
 replace H := Mem.set 4 H rfl (0) (.slice A2 lq.length c2)
 replace H := Mem.set 5 H rfl (0) (.int .i64 ↑vme)
 replace H := Mem.set 5 H rfl (1) (.int .i64 ↑id)
 replace H := Mem.set 5 H rfl (2) (.int .i64 (te' : Int))
 replace H := Mem.set 5 H rfl (3) (.int .i64 ↑de)
 replace H := Mem.set 5 H rfl (4) (.int .i64 ↑fe)
 replace H := Mem.set 5 H rfl (5) (.int .i64 ↑pr)
 replace H := Mem.set 5 H rfl (6) (.int .i64 ↑ch)
 replace H := Mem.set 5 H rfl (7) (.int .i64 ↑un)
 replace H := Mem.set 5 H rfl (8) (.string s)
 simp only [List.set_cons_zero, List.set_cons_succ, List.setIfInBounds_toArray] at H
 replace H := H.drew
 rw [hw3] at H ⊢
 have hz1 := own_drewK ((own_set (k := w.heap.size + 1 + 1 + 1 + 1 + 1) (o := 8) (x := .string s) (own_set (k := w.heap.size + 1 + 1 + 1 + 1 + 1) (o := 7) (x := .int .i64 ↑un) (own_set (k := w.heap.size + 1 + 1 + 1 + 1 + 1) (o := 6) (x := .int .i64 ↑ch) (own_set (k := w.heap.size + 1 + 1 + 1 + 1 + 1) (o := 5) (x := .int .i64 ↑pr) (own_set (k := w.heap.size + 1 + 1 + 1 + 1 + 1) (o := 4) (x := .int .i64 ↑fe) (own_set (k := w.heap.size + 1 + 1 + 1 + 1 + 1) (o := 3) (x := .int .i64 ↑de) (own_set (k := w.heap.size + 1 + 1 + 1 + 1 + 1) (o := 2) (x := .int .i64 (te' : Int)) (own_set (k := w.heap.size + 1 + 1 + 1 + 1 + 1) (o := 1) (x := .int .i64 ↑id) (own_set (k := w.heap.size + 1 + 1 + 1 + 1 + 1) (o := 0) (x := .int .i64 ↑vme) (own_set (k := w.heap.size + 1 + 1 + 1 + 1) (o := 0) (x := .slice A2 lq.length c2) hq1 (by omega)) (by omega)) (by omega)) (by omega)) (by omega)) (by omega)) (by omega)) (by omega)) (by omega)) (by omega)))
 have hz2 := own_drewK ((own_set (k := w.heap.size + 1 + 1 + 1 + 1 + 1) (o := 8) (x := .string s) (own_set (k := w.heap.size + 1 + 1 + 1 + 1 + 1) (o := 7) (x := .int .i64 ↑un) (own_set (k := w.heap.size + 1 + 1 + 1 + 1 + 1) (o := 6) (x := .int .i64 ↑ch) (own_set (k := w.heap.size + 1 + 1 + 1 + 1 + 1) (o := 5) (x := .int .i64 ↑pr) (own_set (k := w.heap.size + 1 + 1 + 1 + 1 + 1) (o := 4) (x := .int .i64 ↑fe) (own_set (k := w.heap.size + 1 + 1 + 1 + 1 + 1) (o := 3) (x := .int .i64 ↑de) (own_set (k := w.heap.size + 1 + 1 + 1 + 1 + 1) (o := 2) (x := .int .i64 (te' : Int)) (own_set (k := w.heap.size + 1 + 1 + 1 + 1 + 1) (o := 1) (x := .int .i64 ↑id) (own_set (k := w.heap.size + 1 + 1 + 1 + 1 + 1) (o := 0) (x := .int .i64 ↑vme) (own_set (k := w.heap.size + 1 + 1 + 1 + 1) (o := 0) (x := .slice A2 lq.length c2) hq2 (by omega)) (by omega)) (by omega)) (by omega)) (by omega)) (by omega)) (by omega)) (by omega)) (by omega)) (by omega)))
 rw [hw3] at hz1 hz2
 clear hw3 hq1 hq2
 obtain ⟨rolt, ro0, rof0⟩ := H.c1 4 rfl
 obtain ⟨rrlt, rr0, rrf0, rr1, rrf1, rr2, rrf2, rr3, rrf3, rr4, rrf4, rr5, rrf5, rr6, rrf6, rr7, rrf7, rr8, rrf8⟩ := H.c9 5 rfl
 have ne_ro_rr := H.ne 4 5 rfl rfl (by decide)
 have ne_rr_ro := H.ne 5 4 rfl rfl (by decide)
 refine bodyPost_ret (v := .tuple #[.slice A3 wl.length c3, .agg #[.slice A2 lq.length c2], .agg #[.int .i64 ↑vme, .int .i64 ↑id, .int .i64 (te' : Int), .int .i64 ↑de, .int .i64 ↑fe, .int .i64 ↑pr, .int .i64 ↑ch, .int .i64 ↑un, .string s], .int .i64 ↑E]) (by simp [results, Tryz.results20, go_sem, ro0, rr0, rr1, rr2, rr3, rr4, rr5, rr6, rr7, rr8]; done) rfl ?_
 exact ⟨A3, c3, A2, c2, rfl, own_mono hz1 (by omega), own_mono hz2 (by omega), H.below⟩
end Go.Proofs.YtpcgpnkmjjamhaaGreatDoor

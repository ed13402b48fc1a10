/- (vendmeterkeep.shop).served: kind 3. -/
import Derived.Test.YtpcgpnkmjjamhaaGreatDoorQ42
import Derived.Test.YtpcgpnkmjjamhaaGreatDoorQ9
namespace Go.Proofs.YtpcgpnkmjjamhaaGreatDoor
open Go.RowKit
set_option linter.unusedVariables false
set_option maxRecDepth 100000
set_option maxHeartbeats 8000000 in
theorem served3_ok (T : Tm) (hT : T.Ok) (At : Option Addr) (nt ct : Nat) (cv : Value) (c : List Nat) (L : List Ev) (B : List Cu) (me i mo d : Nat) (Ao : Option Addr) (no co : Nat) (lp : List Pr) (xk xm xa xb xd q : Int) (w : World)
   (wfk : (Lit.int .i64 xk).wf = true) (wfm : (Lit.int .i64 xm).wf = true) (wfa : (Lit.int .i64 xa).wf = true) (wfb : (Lit.int .i64 xb).wf = true) (wfd : (Lit.int .i64 xd).wf = true) (hk : Hid (pk xk 8 = 1)) (hM : Hid (pk xm 3 = (me : Int))) (hme : me ≤ 2) (hD : Hid (pk xd 65536 = (d : Int))) (hd : d ≤ 65535) (hB : Hid (pk xb 12 = (mo : Int))) (hmo : mo ≤ 11)
   (hvt : IsDs w (.slice At nt ct) T.tl) (hc : IsWs w cv c) (hS : Srv T c L B) (hp : place B me = some i) (hL : L.length < 120) (hf : (L.length + 1) * 14 ≤ c.length) (hps : IsPs w (.slice Ao no co) lp) (hlp : OOk lp) (h5 : lp.length < 500) :
   Calls Tryz.prog 7 #[.agg #[.slice At nt ct, .int .i64 ↑T.fx, .int .i64 ↑T.fb, .int .i64 ↑T.db, .int .i64 ↑T.al, cv, .slice Ao no co], .agg #[.int .i64 xk, .int .i64 xm, .int .i64 xa, .int .i64 xb, .int .i64 xd]] w (RetServe (svP (grantP T (B.getD i cu0).a mo) 3 me mo 0 (B.getD i cu0).a.rev d lp c.length L.length) w) := by
 obtain ⟨Ac, nc, cc, rfl⟩ : ∃ Ac nc cc, cv = .slice Ac nc cc := by obtain ⟨X, y, h, _⟩ := hc; exact ⟨X, _, y, h⟩
 have hV := fun W h1 h2 h3 => vserve3_ok T hT At nt ct (.slice Ac nc cc) c L B me i mo d Ao no co lp W h1 h2 hS (by omega) hp hL hf h3 hlp h5 (by omega) (by omega)
 obtain ⟨v, hv⟩ : ∃ v, svP (grantP T (B.getD i cu0).a mo) 3 me mo 0 (B.getD i cu0).a.rev d lp c.length L.length = v := ⟨_, rfl⟩
 rw [hv] at hV ⊢
 obtain ⟨wl, lq, vme, ⟨id, te', de, fe, pr, ch, un⟩, s, E⟩ := v
 unfold RetServe at hV
 unfold RetServe
 dsimp only at hV
 dsimp only
 clear hv hS hp hL hf hlp h5
 have H := Mem.init w
 obtain ⟨W0, hW0⟩ : ∃ W0, ((((w).alloc (.cells #[.slice At nt ct, .int .i64 ↑T.fx, .int .i64 ↑T.fb, .int .i64 ↑T.db, .int .i64 ↑T.al, .slice Ac nc cc, .slice Ao no co] 36)).alloc (.cells #[.int .i64 xk, .int .i64 xm, .int .i64 xa, .int .i64 xb, .int .i64 xd] 27)).alloc (.cells #[.slice none 0 0] 34)).alloc (.cells #[.int .i64 0, .int .i64 0, .int .i64 0, .int .i64 0, .int .i64 0, .int .i64 0, .int .i64 0, .int .i64 0, .string ⟨#[]⟩] 50) = W0 := ⟨_, rfl⟩
 replace H := Mem.alloc H (w.heap.size) (by first | (simp; done) | (simp; omega)) #[.slice At nt ct, .int .i64 ↑T.fx, .int .i64 ↑T.fb, .int .i64 ↑T.db, .int .i64 ↑T.al, .slice Ac nc cc, .slice Ao no co] 36
 replace H := Mem.alloc H (w.heap.size + 1) (by first | (simp; done) | (simp; omega)) #[.int .i64 xk, .int .i64 xm, .int .i64 xa, .int .i64 xb, .int .i64 xd] 27
 replace H := Mem.alloc H (w.heap.size + 1 + 1) (by first | (simp; done) | (simp; omega)) #[.slice none 0 0] 34
 replace H := Mem.alloc H (w.heap.size + 1 + 1 + 1) (by first | (simp; done) | (simp; omega)) #[.int .i64 0, .int .i64 0, .int .i64 0, .int .i64 0, .int .i64 0, .int .i64 0, .int .i64 0, .int .i64 0, .string ⟨#[]⟩] 50
 simp only [List.nil_append, List.cons_append] at H
 rw [hW0] at H
 have hvt0 := hvt.below H.below
 have hc0 := hc.below H.below
 have hps0 := hps.below H.below
 clear hvt hc hps
 obtain ⟨shlt, sh0, shf0, sh1, shf1, sh2, shf2, sh3, shf3, sh4, shf4, sh5, shf5, sh6, shf6⟩ := H.c7 0 rfl
 obtain ⟨odlt, od0, odf0, od1, odf1, od2, odf2, od3, odf3, od4, odf4⟩ := H.c5 1 rfl
 have ne_sh_od := H.ne 0 1 rfl rfl (by decide)
 have ne_od_sh := H.ne 1 0 rfl rfl (by decide)
 go_enter Tryz.func7, Tryz.ntmps7
 go_upto_region 8 with (first | (go_at_call 6; (with_reducible refine (picked_is _ hM wfm (by omega) (by omega)).mono ?_); rintro e w' ⟨rfl, rfl⟩) | (go_at_call 6; (with_reducible refine (picked_is _ hD wfd (by omega) (by omega)).mono ?_); rintro e w' ⟨rfl, rfl⟩) | (go_at_call 6; (with_reducible refine (picked_is _ hk wfk (by omega) (by omega)).mono ?_); rintro e w' ⟨rfl, rfl⟩))
 clear hW0
 obtain ⟨LL, hLL⟩ : ∃ LL : List Chunk, [.blk (w.heap.size) 36 #[.slice At nt ct, .int .i64 ↑T.fx, .int .i64 ↑T.fb, .int .i64 ↑T.db, .int .i64 ↑T.al, .slice Ac nc cc, .slice Ao no co], .blk (w.heap.size + 1) 27 #[.int .i64 xk, .int .i64 xm, .int .i64 xa, .int .i64 xb, .int .i64 xd], .blk (w.heap.size + 1 + 1) 34 #[.slice none 0 0], .blk (w.heap.size + 1 + 1 + 1) 50 #[.int .i64 0, .int .i64 0, .int .i64 0, .int .i64 0, .int .i64 0, .int .i64 0, .int .i64 0, .int .i64 0, .string ⟨#[]⟩]] = LL := ⟨_, rfl⟩
 rw [hLL] at H
 go_cut [13, 14, 12, 15] (fun p0 p1 p2 p3 wx => ∃ (ob rb : Nat) (A3 : Option Addr) (c3 : Nat) (A2 : Option Addr) (c2 : Nat) (base : Nat), p0 = .pointer (some ⟨ob, 0, none⟩) ∧ p1 = .pointer (some ⟨rb, 0, none⟩) ∧ p2 = .slice A3 wl.length c3 ∧ p3 = .int .i64 ↑E ∧ Mem (w) [] wx (LL ++ (.blk ob 34 #[.slice A2 lq.length c2] :: .blk rb 50 #[.int .i64 ↑vme, .int .i64 ↑id, .int .i64 (te' : Int), .int .i64 ↑de, .int .i64 ↑fe, .int .i64 ↑pr, .int .i64 ↑ch, .int .i64 ↑un, .string s] :: [.row (base) (155) (4) (.slice A2 lq.length c2) (lq.length) (prs lq), .row (base) (119) (2) (.slice A3 wl.length c3) (wl.length) (wrs wl)])) ∧ Below W0.heap.size W0 wx)
 case first =>
   obtain ⟨Sd, hSd⟩ : ∃ Sd : World → Prop, Sd = fun w' => w'.cell? ⟨w.heap.size, 0, none⟩ = some (.slice At nt ct) ∧ w'.cell? ⟨w.heap.size, 1, none⟩ = some (.int .i64 ↑T.fx) ∧ w'.cell? ⟨w.heap.size, 2, none⟩ = some (.int .i64 ↑T.fb) ∧ w'.cell? ⟨w.heap.size, 3, none⟩ = some (.int .i64 ↑T.db) ∧ w'.cell? ⟨w.heap.size, 4, none⟩ = some (.int .i64 ↑T.al) ∧ w'.cell? ⟨w.heap.size, 5, none⟩ = some (.slice Ac nc cc) ∧ w'.cell? ⟨w.heap.size, 6, none⟩ = some (.slice Ao no co) ∧ w'.cell? ⟨w.heap.size + 1, 0, none⟩ = some (.int .i64 xk) ∧ w'.cell? ⟨w.heap.size + 1, 1, none⟩ = some (.int .i64 xm) ∧ w'.cell? ⟨w.heap.size + 1, 2, none⟩ = some (.int .i64 xa) ∧ w'.cell? ⟨w.heap.size + 1, 3, none⟩ = some (.int .i64 xb) ∧ w'.cell? ⟨w.heap.size + 1, 4, none⟩ = some (.int .i64 xd) := ⟨_, rfl⟩
   have hSk : ∀ we, Below W0.heap.size W0 we → Sd we := fun we hWe => by rw [hSd]; exact ⟨(hWe.cell shlt).trans sh0, (hWe.cell shlt).trans sh1, (hWe.cell shlt).trans sh2, (hWe.cell shlt).trans sh3, (hWe.cell shlt).trans sh4, (hWe.cell shlt).trans sh5, (hWe.cell shlt).trans sh6, (hWe.cell odlt).trans od0, (hWe.cell odlt).trans od1, (hWe.cell odlt).trans od2, (hWe.cell odlt).trans od3, (hWe.cell odlt).trans od4⟩
   have nz0a : W0.heap.size ≠ w.heap.size := by have := shlt; omega
   have nz0b : W0.heap.size + 1 ≠ w.heap.size := by have := shlt; omega
   have nz0c : w.heap.size ≠ W0.heap.size := by have := shlt; omega
   have nz0d : w.heap.size ≠ W0.heap.size + 1 := by have := shlt; omega
   have nz1a : W0.heap.size ≠ w.heap.size + 1 := by have := odlt; omega
   have nz1b : W0.heap.size + 1 ≠ w.heap.size + 1 := by have := odlt; omega
   have nz1c : w.heap.size + 1 ≠ W0.heap.size := by have := odlt; omega
   have nz1d : w.heap.size + 1 ≠ W0.heap.size + 1 := by have := odlt; omega
   have nz1e : W0.heap.size ≠ w.heap.size := by have := odlt; omega
   have nz1f : w.heap.size ≠ W0.heap.size := by have := odlt; omega
   have V0 : Mem W0 [] (W0).drew [] := (Mem.init W0).drew
   have B0 := V0.below
   have V1 : Mem W0 [] (W0.alloc (.cells #[.slice none 0 0] 34)).drew [.blk (W0.heap.size) 34 #[.slice none 0 0]] := ((Mem.init W0).alloc _ rfl #[.slice none 0 0] 34).drew
   have B1 := V1.below
   have V1b0 := V1.blk 0 rfl
   have V2 : Mem W0 [] (W0.alloc (.cells #[.int .i64 0, .int .i64 0, .int .i64 0, .int .i64 0, .int .i64 0, .int .i64 0, .int .i64 0, .int .i64 0, .string ⟨#[]⟩] 50)).drew [.blk (W0.heap.size) 50 #[.int .i64 0, .int .i64 0, .int .i64 0, .int .i64 0, .int .i64 0, .int .i64 0, .int .i64 0, .int .i64 0, .string ⟨#[]⟩]] := ((Mem.init W0).alloc _ rfl #[.int .i64 0, .int .i64 0, .int .i64 0, .int .i64 0, .int .i64 0, .int .i64 0, .int .i64 0, .int .i64 0, .string ⟨#[]⟩] 50).drew
   have B2 := V2.below
   have V2b1 := V2.blk 0 rfl
   have V3 : Mem W0 [] ((W0.alloc (.cells #[.slice none 0 0] 34)).alloc (.cells #[.int .i64 0, .int .i64 0, .int .i64 0, .int .i64 0, .int .i64 0, .int .i64 0, .int .i64 0, .int .i64 0, .string ⟨#[]⟩] 50)).drew [.blk (W0.heap.size) 34 #[.slice none 0 0], .blk (W0.heap.size + 1) 50 #[.int .i64 0, .int .i64 0, .int .i64 0, .int .i64 0, .int .i64 0, .int .i64 0, .int .i64 0, .int .i64 0, .string ⟨#[]⟩]] := (((Mem.init W0).alloc _ rfl #[.slice none 0 0] 34).alloc (W0.heap.size + 1) (by simp) #[.int .i64 0, .int .i64 0, .int .i64 0, .int .i64 0, .int .i64 0, .int .i64 0, .int .i64 0, .int .i64 0, .string ⟨#[]⟩] 50).drew
   have B3 := V3.below
   have V3b0 := V3.blk 0 rfl
   have V3b1 := V3.blk 1 rfl
   have V4 : Mem W0 [] ((W0.alloc (.cells #[.int .i64 0, .int .i64 0, .int .i64 0, .int .i64 0, .int .i64 0, .int .i64 0, .int .i64 0, .int .i64 0, .string ⟨#[]⟩] 50)).alloc (.cells #[.slice none 0 0] 34)).drew [.blk (W0.heap.size + 1) 34 #[.slice none 0 0], .blk (W0.heap.size) 50 #[.int .i64 0, .int .i64 0, .int .i64 0, .int .i64 0, .int .i64 0, .int .i64 0, .int .i64 0, .int .i64 0, .string ⟨#[]⟩]] := Mem.perm (List.Perm.swap _ _ _) (((Mem.init W0).alloc _ rfl #[.int .i64 0, .int .i64 0, .int .i64 0, .int .i64 0, .int .i64 0, .int .i64 0, .int .i64 0, .int .i64 0, .string ⟨#[]⟩] 50).alloc (W0.heap.size + 1) (by simp) #[.slice none 0 0] 34).drew
   have B4 := V4.below
   have V4b0 := V4.blk 0 rfl
   have V4b1 := V4.blk 1 rfl
   go_region_held3 (fun w' => w'.cell? ⟨w.heap.size, 0, none⟩ = some (.slice At nt ct) ∧ w'.cell? ⟨w.heap.size, 1, none⟩ = some (.int .i64 ↑T.fx) ∧ w'.cell? ⟨w.heap.size, 2, none⟩ = some (.int .i64 ↑T.fb) ∧ w'.cell? ⟨w.heap.size, 3, none⟩ = some (.int .i64 ↑T.db) ∧ w'.cell? ⟨w.heap.size, 4, none⟩ = some (.int .i64 ↑T.al) ∧ w'.cell? ⟨w.heap.size, 5, none⟩ = some (.slice Ac nc cc) ∧ w'.cell? ⟨w.heap.size, 6, none⟩ = some (.slice Ao no co) ∧ w'.cell? ⟨w.heap.size + 1, 0, none⟩ = some (.int .i64 xk) ∧ w'.cell? ⟨w.heap.size + 1, 1, none⟩ = some (.int .i64 xm) ∧ w'.cell? ⟨w.heap.size + 1, 2, none⟩ = some (.int .i64 xa) ∧ w'.cell? ⟨w.heap.size + 1, 3, none⟩ = some (.int .i64 xb) ∧ w'.cell? ⟨w.heap.size + 1, 4, none⟩ = some (.int .i64 xd)) (first | with_reducible exact ⟨s0, s1, s2, s3, s4, s5, s6, s7, s8, s9, s10, s11⟩ | go_keep | fail) (first | (go_at_call 6; (with_reducible refine (picked_is _ hB wfb (by omega) (by omega)).mono ?_); rintro e w' ⟨rfl, rfl⟩) | (go_at_call 18; (with_reducible refine (hV (W0).drew (hvt0.below B0) (hc0.below B0) (hps0.below B0)).mono ?_); rintro e we ⟨A3, c3, A2, c2, rfl, ho1, ho2, hbe⟩; have hV := V0; obtain ⟨bse, hK⟩ : ∃ bse : Nat, Mem (W0).drew [] we [.row (bse) (155) (4) (.slice A2 lq.length c2) (lq.length) (prs lq), .row (bse) (119) (2) (.slice A3 wl.length c3) (wl.length) (wrs wl)] := ⟨_, Mem.row2 (Mem.init _) hbe ho1 ho2 (by decide)⟩; have hWe : Below W0.heap.size W0 we := B0.trans (hbe.mono B0.size); have q := hSk _ hWe; rw [hSd] at q; obtain ⟨s0, s1, s2, s3, s4, s5, s6, s7, s8, s9, s10, s11⟩ := q; have sz := hWe.size; have ez0a : we.heap.size ≠ w.heap.size := (by have := shlt; omega); have ez0b : we.heap.size + 1 ≠ w.heap.size := (by have := shlt; omega); have ez1c : we.heap.size ≠ w.heap.size := (by have := odlt; omega); have ez1a : we.heap.size ≠ w.heap.size + 1 := (by have := odlt; omega); have ez1b : we.heap.size + 1 ≠ w.heap.size + 1 := (by have := odlt; omega)) | (go_at_call 18; (with_reducible refine (hV (W0.alloc (.cells #[.slice none 0 0] 34)).drew (hvt0.below B1) (hc0.below B1) (hps0.below B1)).mono ?_); rintro e we ⟨A3, c3, A2, c2, rfl, ho1, ho2, hbe⟩; have hV := V1; obtain ⟨bse, hK⟩ : ∃ bse : Nat, Mem (W0.alloc (.cells #[.slice none 0 0] 34)).drew [] we [.row (bse) (155) (4) (.slice A2 lq.length c2) (lq.length) (prs lq), .row (bse) (119) (2) (.slice A3 wl.length c3) (wl.length) (wrs wl)] := ⟨_, Mem.row2 (Mem.init _) hbe ho1 ho2 (by decide)⟩; have hWe : Below W0.heap.size W0 we := B1.trans (hbe.mono B1.size); have q := hSk _ hWe; rw [hSd] at q; obtain ⟨s0, s1, s2, s3, s4, s5, s6, s7, s8, s9, s10, s11⟩ := q; have sz := hWe.size; have ez0a : we.heap.size ≠ w.heap.size := (by have := shlt; omega); have ez0b : we.heap.size + 1 ≠ w.heap.size := (by have := shlt; omega); have ez1c : we.heap.size ≠ w.heap.size := (by have := odlt; omega); have ez1a : we.heap.size ≠ w.heap.size + 1 := (by have := odlt; omega); have ez1b : we.heap.size + 1 ≠ w.heap.size + 1 := (by have := odlt; omega); have zb0 := Blk.below V1b0 hbe V1b0.lt; obtain ⟨zb0lt, zb0_0, zb0f0⟩ := (V1.call hbe).c1 0 rfl) | (go_at_call 18; (with_reducible refine (hV (W0.alloc (.cells #[.int .i64 0, .int .i64 0, .int .i64 0, .int .i64 0, .int .i64 0, .int .i64 0, .int .i64 0, .int .i64 0, .string ⟨#[]⟩] 50)).drew (hvt0.below B2) (hc0.below B2) (hps0.below B2)).mono ?_); rintro e we ⟨A3, c3, A2, c2, rfl, ho1, ho2, hbe⟩; have hV := V2; obtain ⟨bse, hK⟩ : ∃ bse : Nat, Mem (W0.alloc (.cells #[.int .i64 0, .int .i64 0, .int .i64 0, .int .i64 0, .int .i64 0, .int .i64 0, .int .i64 0, .int .i64 0, .string ⟨#[]⟩] 50)).drew [] we [.row (bse) (155) (4) (.slice A2 lq.length c2) (lq.length) (prs lq), .row (bse) (119) (2) (.slice A3 wl.length c3) (wl.length) (wrs wl)] := ⟨_, Mem.row2 (Mem.init _) hbe ho1 ho2 (by decide)⟩; have hWe : Below W0.heap.size W0 we := B2.trans (hbe.mono B2.size); have q := hSk _ hWe; rw [hSd] at q; obtain ⟨s0, s1, s2, s3, s4, s5, s6, s7, s8, s9, s10, s11⟩ := q; have sz := hWe.size; have ez0a : we.heap.size ≠ w.heap.size := (by have := shlt; omega); have ez0b : we.heap.size + 1 ≠ w.heap.size := (by have := shlt; omega); have ez1c : we.heap.size ≠ w.heap.size := (by have := odlt; omega); have ez1a : we.heap.size ≠ w.heap.size + 1 := (by have := odlt; omega); have ez1b : we.heap.size + 1 ≠ w.heap.size + 1 := (by have := odlt; omega); have zb1 := Blk.below V2b1 hbe V2b1.lt; obtain ⟨zb1lt, zb1_0, zb1f0, zb1_1, zb1f1, zb1_2, zb1f2, zb1_3, zb1f3, zb1_4, zb1f4, zb1_5, zb1f5, zb1_6, zb1f6, zb1_7, zb1f7, zb1_8, zb1f8⟩ := (V2.call hbe).c9 0 rfl) | (go_at_call 18; (with_reducible refine (hV ((W0.alloc (.cells #[.slice none 0 0] 34)).alloc (.cells #[.int .i64 0, .int .i64 0, .int .i64 0, .int .i64 0, .int .i64 0, .int .i64 0, .int .i64 0, .int .i64 0, .string ⟨#[]⟩] 50)).drew (hvt0.below B3) (hc0.below B3) (hps0.below B3)).mono ?_); rintro e we ⟨A3, c3, A2, c2, rfl, ho1, ho2, hbe⟩; have hV := V3; obtain ⟨bse, hK⟩ : ∃ bse : Nat, Mem ((W0.alloc (.cells #[.slice none 0 0] 34)).alloc (.cells #[.int .i64 0, .int .i64 0, .int .i64 0, .int .i64 0, .int .i64 0, .int .i64 0, .int .i64 0, .int .i64 0, .string ⟨#[]⟩] 50)).drew [] we [.row (bse) (155) (4) (.slice A2 lq.length c2) (lq.length) (prs lq), .row (bse) (119) (2) (.slice A3 wl.length c3) (wl.length) (wrs wl)] := ⟨_, Mem.row2 (Mem.init _) hbe ho1 ho2 (by decide)⟩; have hWe : Below W0.heap.size W0 we := B3.trans (hbe.mono B3.size); have q := hSk _ hWe; rw [hSd] at q; obtain ⟨s0, s1, s2, s3, s4, s5, s6, s7, s8, s9, s10, s11⟩ := q; have sz := hWe.size; have ez0a : we.heap.size ≠ w.heap.size := (by have := shlt; omega); have ez0b : we.heap.size + 1 ≠ w.heap.size := (by have := shlt; omega); have ez1c : we.heap.size ≠ w.heap.size := (by have := odlt; omega); have ez1a : we.heap.size ≠ w.heap.size + 1 := (by have := odlt; omega); have ez1b : we.heap.size + 1 ≠ w.heap.size + 1 := (by have := odlt; omega); have zb0 := Blk.below V3b0 hbe V3b0.lt; obtain ⟨zb0lt, zb0_0, zb0f0⟩ := (V3.call hbe).c1 0 rfl; have zb1 := Blk.below V3b1 hbe V3b1.lt; obtain ⟨zb1lt, zb1_0, zb1f0, zb1_1, zb1f1, zb1_2, zb1f2, zb1_3, zb1f3, zb1_4, zb1f4, zb1_5, zb1f5, zb1_6, zb1f6, zb1_7, zb1f7, zb1_8, zb1f8⟩ := (V3.call hbe).c9 1 rfl; have zn1 : W0.heap.size ≠ W0.heap.size + 1 := (by omega); have zn2 : W0.heap.size + 1 ≠ W0.heap.size := (by omega)) | (go_at_call 18; (with_reducible refine (hV ((W0.alloc (.cells #[.int .i64 0, .int .i64 0, .int .i64 0, .int .i64 0, .int .i64 0, .int .i64 0, .int .i64 0, .int .i64 0, .string ⟨#[]⟩] 50)).alloc (.cells #[.slice none 0 0] 34)).drew (hvt0.below B4) (hc0.below B4) (hps0.below B4)).mono ?_); rintro e we ⟨A3, c3, A2, c2, rfl, ho1, ho2, hbe⟩; have hV := V4; obtain ⟨bse, hK⟩ : ∃ bse : Nat, Mem ((W0.alloc (.cells #[.int .i64 0, .int .i64 0, .int .i64 0, .int .i64 0, .int .i64 0, .int .i64 0, .int .i64 0, .int .i64 0, .string ⟨#[]⟩] 50)).alloc (.cells #[.slice none 0 0] 34)).drew [] we [.row (bse) (155) (4) (.slice A2 lq.length c2) (lq.length) (prs lq), .row (bse) (119) (2) (.slice A3 wl.length c3) (wl.length) (wrs wl)] := ⟨_, Mem.row2 (Mem.init _) hbe ho1 ho2 (by decide)⟩; have hWe : Below W0.heap.size W0 we := B4.trans (hbe.mono B4.size); have q := hSk _ hWe; rw [hSd] at q; obtain ⟨s0, s1, s2, s3, s4, s5, s6, s7, s8, s9, s10, s11⟩ := q; have sz := hWe.size; have ez0a : we.heap.size ≠ w.heap.size := (by have := shlt; omega); have ez0b : we.heap.size + 1 ≠ w.heap.size := (by have := shlt; omega); have ez1c : we.heap.size ≠ w.heap.size := (by have := odlt; omega); have ez1a : we.heap.size ≠ w.heap.size + 1 := (by have := odlt; omega); have ez1b : we.heap.size + 1 ≠ w.heap.size + 1 := (by have := odlt; omega); have zb0 := Blk.below V4b0 hbe V4b0.lt; obtain ⟨zb0lt, zb0_0, zb0f0⟩ := (V4.call hbe).c1 0 rfl; have zb1 := Blk.below V4b1 hbe V4b1.lt; obtain ⟨zb1lt, zb1_0, zb1f0, zb1_1, zb1f1, zb1_2, zb1f2, zb1_3, zb1f3, zb1_4, zb1f4, zb1_5, zb1f5, zb1_6, zb1f6, zb1_7, zb1f7, zb1_8, zb1f8⟩ := (V4.call hbe).c9 1 rfl; have zn1 : W0.heap.size + 1 ≠ W0.heap.size := (by omega); have zn2 : W0.heap.size ≠ W0.heap.size + 1 := (by omega)))
   all_goals
     go_wp2_with fail
     go_meet
     refine ⟨_, _, A3, c3, A2, c2, bse, rfl, rfl, rfl, rfl, ?_⟩
     first
     | with_reducible exact ⟨cr2_a H hV hK, (cr2_a (Mem.init W0) hV hK).below⟩
     | with_reducible exact ⟨cr2_b H hV hK, (cr2_b (Mem.init W0) hV hK).below⟩
     | (have h := cr2_c (c1 := #[.slice A2 lq.length c2]) (c2 := #[.int .i64 ↑vme, .int .i64 ↑id, .int .i64 (te' : Int), .int .i64 ↑de, .int .i64 ↑fe, .int .i64 ↑pr, .int .i64 ↑ch, .int .i64 ↑un, .string s]) (t1 := 34) (t2 := 50) (Mem.init W0) hV hK [(0, .slice A2 lq.length c2)] (by simp only [List.foldl_cons, List.foldl_nil, List.setIfInBounds_toArray, List.set_cons_zero])
        simp only [sets, List.foldl_cons, List.foldl_nil, List.nil_append] at h
        with_reducible exact ⟨H.join h, h.below⟩)
     | (have h := cr2_d (c1 := #[.slice A2 lq.length c2]) (c2 := #[.int .i64 ↑vme, .int .i64 ↑id, .int .i64 (te' : Int), .int .i64 ↑de, .int .i64 ↑fe, .int .i64 ↑pr, .int .i64 ↑ch, .int .i64 ↑un, .string s]) (t1 := 34) (t2 := 50) (Mem.init W0) hV hK [(0, .int .i64 ↑vme), (1, .int .i64 ↑id), (2, .int .i64 (te' : Int)), (3, .int .i64 ↑de), (4, .int .i64 ↑fe), (5, .int .i64 ↑pr), (6, .int .i64 ↑ch), (7, .int .i64 ↑un), (8, .string s)] (by simp only [List.foldl_cons, List.foldl_nil, List.setIfInBounds_toArray, List.set_cons_zero, List.set_cons_succ])
        simp only [sets, List.foldl_cons, List.foldl_nil, List.nil_append] at h
        with_reducible exact ⟨H.join h, h.below⟩)
     | (have h := cr2_e (c1 := #[.slice A2 lq.length c2]) (c2 := #[.int .i64 ↑vme, .int .i64 ↑id, .int .i64 (te' : Int), .int .i64 ↑de, .int .i64 ↑fe, .int .i64 ↑pr, .int .i64 ↑ch, .int .i64 ↑un, .string s]) (t1 := 34) (t2 := 50) (Mem.init W0) hV hK [(0, .slice A2 lq.length c2)] [(0, .int .i64 ↑vme), (1, .int .i64 ↑id), (2, .int .i64 (te' : Int)), (3, .int .i64 ↑de), (4, .int .i64 ↑fe), (5, .int .i64 ↑pr), (6, .int .i64 ↑ch), (7, .int .i64 ↑un), (8, .string s)] (by simp only [List.foldl_cons, List.foldl_nil, List.setIfInBounds_toArray, List.set_cons_zero]) (by simp only [List.foldl_cons, List.foldl_nil, List.setIfInBounds_toArray, List.set_cons_zero, List.set_cons_succ])
        simp only [sets, List.foldl_cons, List.foldl_nil, List.nil_append] at h
        with_reducible exact ⟨H.join h, h.below⟩)
     | (have h := cr2_f (c1 := #[.slice A2 lq.length c2]) (c2 := #[.int .i64 ↑vme, .int .i64 ↑id, .int .i64 (te' : Int), .int .i64 ↑de, .int .i64 ↑fe, .int .i64 ↑pr, .int .i64 ↑ch, .int .i64 ↑un, .string s]) (t1 := 34) (t2 := 50) (Mem.init W0) hV hK [(0, .slice A2 lq.length c2)] [(0, .int .i64 ↑vme), (1, .int .i64 ↑id), (2, .int .i64 (te' : Int)), (3, .int .i64 ↑de), (4, .int .i64 ↑fe), (5, .int .i64 ↑pr), (6, .int .i64 ↑ch), (7, .int .i64 ↑un), (8, .string s)] (by simp only [List.foldl_cons, List.foldl_nil, List.setIfInBounds_toArray, List.set_cons_zero]) (by simp only [List.foldl_cons, List.foldl_nil, List.setIfInBounds_toArray, List.set_cons_zero, List.set_cons_succ])
        simp only [sets, List.foldl_cons, List.foldl_nil, List.nil_append] at h
        with_reducible exact ⟨H.join h, h.below⟩)
 case rest =>
   obtain ⟨ob, rb, A3, c3, A2, c2, base, rfl, rfl, rfl, rfl, H, hCR⟩ := hcut
   subst hLL
   replace H : Mem (w) [] (wc) [.blk (w.heap.size) 36 #[.slice At nt ct, .int .i64 ↑T.fx, .int .i64 ↑T.fb, .int .i64 ↑T.db, .int .i64 ↑T.al, .slice Ac nc cc, .slice Ao no co], .blk (w.heap.size + 1) 27 #[.int .i64 xk, .int .i64 xm, .int .i64 xa, .int .i64 xb, .int .i64 xd], .blk (w.heap.size + 1 + 1) 34 #[.slice none 0 0], .blk (w.heap.size + 1 + 1 + 1) 50 #[.int .i64 0, .int .i64 0, .int .i64 0, .int .i64 0, .int .i64 0, .int .i64 0, .int .i64 0, .int .i64 0, .string ⟨#[]⟩], .blk (ob) 34 #[.slice A2 lq.length c2], .blk (rb) 50 #[.int .i64 ↑vme, .int .i64 ↑id, .int .i64 (te' : Int), .int .i64 ↑de, .int .i64 ↑fe, .int .i64 ↑pr, .int .i64 ↑ch, .int .i64 ↑un, .string s], .row (base) (155) (4) (.slice A2 lq.length c2) (lq.length) (prs lq), .row (base) (119) (2) (.slice A3 wl.length c3) (wl.length) (wrs wl)] := H
   clear hV hvt0 hc0 hps0 hCR
   clear shlt sh0 shf0 sh1 shf1 sh2 shf2 sh3 shf3 sh4 shf4 sh5 shf5 sh6 shf6 odlt od0 odf0 od1 odf1 od2 odf2 od3 odf3 od4 odf4 ne_sh_od ne_od_sh
   obtain ⟨oblt, ob0, obf0⟩ := H.c1 4 rfl
   obtain ⟨rblt, rb0, rbf0, rb1, rbf1, rb2, rbf2, rb3, rbf3, rb4, rbf4, rb5, rbf5, rb6, rbf6, rb7, rbf7, rb8, rbf8⟩ := H.c9 5 rfl
   obtain ⟨rolt, ro0, rof0⟩ := H.c1 2 rfl
   obtain ⟨rrlt, rr0, rrf0, rr1, rrf1, rr2, rrf2, rr3, rrf3, rr4, rrf4, rr5, rrf5, rr6, rrf6, rr7, rrf7, rr8, rrf8⟩ := H.c9 3 rfl
   have ne_ob_rb := H.ne 4 5 rfl rfl (by decide)
   have ne_ob_ro := H.ne 4 2 rfl rfl (by decide)
   have ne_ob_rr := H.ne 4 3 rfl rfl (by decide)
   have ne_rb_ob := H.ne 5 4 rfl rfl (by decide)
   have ne_rb_ro := H.ne 5 2 rfl rfl (by decide)
   have ne_rb_rr := H.ne 5 3 rfl rfl (by decide)
   have ne_ro_ob := H.ne 2 4 rfl rfl (by decide)
   have ne_ro_rb := H.ne 2 5 rfl rfl (by decide)
   have ne_ro_rr := H.ne 2 3 rfl rfl (by decide)
   have ne_rr_ob := H.ne 3 4 rfl rfl (by decide)
   have ne_rr_rb := H.ne 3 5 rfl rfl (by decide)
   have ne_rr_ro := H.ne 3 2 rfl rfl (by decide)
   go_wp2
   go_region
   go_wp2
   clear oblt ob0 obf0 rblt rb0 rbf0 rb1 rbf1 rb2 rbf2 rb3 rbf3 rb4 rbf4 rb5 rbf5 rb6 rbf6 rb7 rbf7 rb8 rbf8 rolt ro0 rof0 rrlt rr0 rrf0 rr1 rrf1 rr2 rrf2 rr3 rrf3 rr4 rrf4 rr5 rrf5 rr6 rrf6 rr7 rrf7 rr8 rrf8 ne_ob_rb ne_ob_ro ne_ob_rr ne_rb_ob ne_rb_ro ne_rb_rr ne_ro_ob ne_ro_rb ne_ro_rr ne_rr_ob ne_rr_rb ne_rr_ro
   obtain ⟨w3, hw3⟩ : ∃ w3, (((((((((((wc).setCell ⟨w.heap.size + 1 + 1, 0, none⟩ (.slice A2 lq.length c2)).setCell ⟨w.heap.size + 1 + 1 + 1, 0, none⟩ (.int .i64 ↑vme)).setCell ⟨w.heap.size + 1 + 1 + 1, 1, none⟩ (.int .i64 ↑id)).setCell ⟨w.heap.size + 1 + 1 + 1, 2, none⟩ (.int .i64 (te' : Int))).setCell ⟨w.heap.size + 1 + 1 + 1, 3, none⟩ (.int .i64 ↑de)).setCell ⟨w.heap.size + 1 + 1 + 1, 4, none⟩ (.int .i64 ↑fe)).setCell ⟨w.heap.size + 1 + 1 + 1, 5, none⟩ (.int .i64 ↑pr)).setCell ⟨w.heap.size + 1 + 1 + 1, 6, none⟩ (.int .i64 ↑ch)).setCell ⟨w.heap.size + 1 + 1 + 1, 7, none⟩ (.int .i64 ↑un)).setCell ⟨w.heap.size + 1 + 1 + 1, 8, none⟩ (.string s)).drew = w3 := ⟨_, rfl⟩
   replace H := Mem.set 2 H rfl (0) (.slice A2 lq.length c2)
   replace H := Mem.set 3 H rfl (0) (.int .i64 ↑vme)
   replace H := Mem.set 3 H rfl (1) (.int .i64 ↑id)
   replace H := Mem.set 3 H rfl (2) (.int .i64 (te' : Int))
   replace H := Mem.set 3 H rfl (3) (.int .i64 ↑de)
   replace H := Mem.set 3 H rfl (4) (.int .i64 ↑fe)
   replace H := Mem.set 3 H rfl (5) (.int .i64 ↑pr)
   replace H := Mem.set 3 H rfl (6) (.int .i64 ↑ch)
   replace H := Mem.set 3 H rfl (7) (.int .i64 ↑un)
   replace H := Mem.set 3 H rfl (8) (.string s)
   simp only [List.set_cons_zero, List.set_cons_succ, List.setIfInBounds_toArray] at H
   replace H := H.drew
   rw [hw3] at H ⊢
   clear hw3
   obtain ⟨rolt, ro0, rof0⟩ := H.c1 2 rfl
   obtain ⟨rrlt, rr0, rrf0, rr1, rrf1, rr2, rrf2, rr3, rrf3, rr4, rrf4, rr5, rrf5, rr6, rrf6, rr7, rrf7, rr8, rrf8⟩ := H.c9 3 rfl
   have ne_ro_rr := H.ne 2 3 rfl rfl (by decide)
   have ne_rr_ro := H.ne 3 2 rfl rfl (by decide)
   refine bodyPost_ret (v := .tuple #[.slice A3 wl.length c3, .agg #[.slice A2 lq.length c2], .agg #[.int .i64 ↑vme, .int .i64 ↑id, .int .i64 (te' : Int), .int .i64 ↑de, .int .i64 ↑fe, .int .i64 ↑pr, .int .i64 ↑ch, .int .i64 ↑un, .string s], .int .i64 ↑E]) (by simp [results, Tryz.results7, go_sem, ro0, rr0, rr1, rr2, rr3, rr4, rr5, rr6, rr7, rr8]; done) rfl ?_
   exact ⟨A3, c3, A2, c2, rfl, H.ownb 6 rfl, H.ownb 7 rfl, H.below⟩
end Go.Proofs.YtpcgpnkmjjamhaaGreatDoor

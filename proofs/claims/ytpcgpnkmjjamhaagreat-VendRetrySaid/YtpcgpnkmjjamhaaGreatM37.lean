/- (vendmeterkeep.shop).served: kind 3. vend.sell: kind 4. vend.Rekey, by its function. (vendmeterkeep.shop).served: kind 4. What a server's words are behind a step: plain. (vendmeterkeep.shop).served: a sale, an allowance, the next key by one function. Servers with three meters: plain. vendmeterkeep.opened: a server with three meters, at which steps were done. Orders that came in; what an opened server is, for a law's walk. Tokens are numbered 1, 2, 3: plain. -/
import Derived.Test.YtpcgpnkmjjamhaaGreatM36
import Derived.Test.YtpcgpnkmjjamhaaGreatM9
import Derived.Test.YtpcgpnkmjjamhaaGreatM29
import Derived.Test.YtpcgpnkmjjamhaaGreatM22
import Derived.Test.YtpcgpnkmjjamhaaGreatM7
import Derived.Test.YtpcgpnkmjjamhaaGreatM10
namespace Go.Proofs.YtpcgpnkmjjamhaaGreat
open Go.RowKit
set_option linter.unusedVariables false
set_option maxRecDepth 100000 in
set_option maxHeartbeats 8000000 in
theorem served3_ok (T : Tm) (hT : T.Ok) (At : Option Addr) (nt ct : Nat) (cv : Value) (c : List Nat) (L : List Ev) (B : List Cu) (me i mo d : Nat) (Ao : Option Addr) (no co : Nat) (lp : List Pr) (xk xm xa xb xd q : Int) (w : World)
   (wfk : (Lit.int .i64 xk).wf = true) (wfm : (Lit.int .i64 xm).wf = true) (wfa : (Lit.int .i64 xa).wf = true) (wfb : (Lit.int .i64 xb).wf = true) (wfd : (Lit.int .i64 xd).wf = true) (hk : Hid (pk xk 8 = 1)) (hM : Hid (pk xm 3 = (me : Int))) (hme : me ≤ 2) (hD : Hid (pk xd 65536 = (d : Int))) (hd : d ≤ 65535) (hB : Hid (pk xb 12 = (mo : Int))) (hmo : mo ≤ 11)
   (hvt : IsDs w (.slice At nt ct) T.tl) (hc : IsWs w cv c) (hS : Srv T c L B) (hp : place B me = some i) (hL : L.length < 120) (hf : (L.length + 1) * 14 ≤ c.length) (hps : IsPs w (.slice Ao no co) lp) (hlp : OOk lp) (h5 : lp.length < 500) :
   Calls Tryz.prog 16 #[.agg #[.slice At nt ct, .int .i64 ↑T.fx, .int .i64 ↑T.fb, .int .i64 ↑T.db, .int .i64 ↑T.al, cv, .slice Ao no co], .agg #[.int .i64 xk, .int .i64 xm, .int .i64 xa, .int .i64 xb, .int .i64 xd]] w (RetServe (svP (grantP T (B.getD i cu0).a mo) 3 me mo 0 (B.getD i cu0).a.rev d lp c.length L.length) w) := by
 obtain ⟨Ac, nc, cc, rfl⟩ : ∃ Ac nc cc, cv = .slice Ac nc cc := by obtain ⟨X, y, h, _⟩ := hc; exact ⟨X, _, y, h⟩
 have hV := fun W h1 h2 h3 => vserve3_ok T hT At nt ct (.slice Ac nc cc) c L B me i mo d Ao no co lp W h1 h2 hS (by omega) hp hL hf h3 hlp h5 (by omega) (by omega)
 obtain ⟨v, hv⟩ : ∃ v, svP (grantP T (B.getD i cu0).a mo) 3 me mo 0 (B.getD i cu0).a.rev d lp c.length L.length = v := ⟨_, rfl⟩
 rw [hv] at hV ⊢
 obtain ⟨wl, lq, vme, ⟨id, te', de, fe, pr, ch, un⟩, s, E⟩ := v
 unfold RetServe at hV
 unfold RetServe
 dsimp only at hV
 dsimp only
 clear hv hS hp hL hf hlp h5
 have H := Mem.init w
 obtain ⟨W0, hW0⟩ : ∃ W0, ((((w).alloc (.cells #[.slice At nt ct, .int .i64 ↑T.fx, .int .i64 ↑T.fb, .int .i64 ↑T.db, .int .i64 ↑T.al, .slice Ac nc cc, .slice Ao no co] 34)).alloc (.cells #[.int .i64 xk, .int .i64 xm, .int .i64 xa, .int .i64 xb, .int .i64 xd] 69)).alloc (.cells #[.slice none 0 0] 32)).alloc (.cells #[.int .i64 0, .int .i64 0, .int .i64 0, .int .i64 0, .int .i64 0, .int .i64 0, .int .i64 0, .int .i64 0, .string ⟨#[]⟩] 72) = W0 := ⟨_, rfl⟩
 replace H := Mem.alloc H (w.heap.size) (by first | (simp; done) | (simp; omega)) #[.slice At nt ct, .int .i64 ↑T.fx, .int .i64 ↑T.fb, .int .i64 ↑T.db, .int .i64 ↑T.al, .slice Ac nc cc, .slice Ao no co] 34
 replace H := Mem.alloc H (w.heap.size + 1) (by first | (simp; done) | (simp; omega)) #[.int .i64 xk, .int .i64 xm, .int .i64 xa, .int .i64 xb, .int .i64 xd] 69
 replace H := Mem.alloc H (w.heap.size + 1 + 1) (by first | (simp; done) | (simp; omega)) #[.slice none 0 0] 32
 replace H := Mem.alloc H (w.heap.size + 1 + 1 + 1) (by first | (simp; done) | (simp; omega)) #[.int .i64 0, .int .i64 0, .int .i64 0, .int .i64 0, .int .i64 0, .int .i64 0, .int .i64 0, .int .i64 0, .string ⟨#[]⟩] 72
 simp only [List.nil_append, List.cons_append] at H
 rw [hW0] at H
 have hvt0 := hvt.below H.below
 have hc0 := hc.below H.below
 have hps0 := hps.below H.below
 clear hvt hc hps
 obtain ⟨shlt, sh0, shf0, sh1, shf1, sh2, shf2, sh3, shf3, sh4, shf4, sh5, shf5, sh6, shf6⟩ := H.c7 0 rfl
 obtain ⟨odlt, od0, odf0, od1, odf1, od2, odf2, od3, odf3, od4, odf4⟩ := H.c5 1 rfl
 have ne_sh_od := H.ne 0 1 rfl rfl (by decide)
 have ne_od_sh := H.ne 1 0 rfl rfl (by decide)
 go_enter Tryz.func16, Tryz.ntmps16
 go_upto_region 8 with (first | (go_at_call 11; (with_reducible refine (picked_is _ hM wfm (by omega) (by omega)).mono ?_); rintro e w' ⟨rfl, rfl⟩) | (go_at_call 11; (with_reducible refine (picked_is _ hD wfd (by omega) (by omega)).mono ?_); rintro e w' ⟨rfl, rfl⟩) | (go_at_call 11; (with_reducible refine (picked_is _ hk wfk (by omega) (by omega)).mono ?_); rintro e w' ⟨rfl, rfl⟩))
 clear hW0
 obtain ⟨LL, hLL⟩ : ∃ LL : List Chunk, [.blk (w.heap.size) 34 #[.slice At nt ct, .int .i64 ↑T.fx, .int .i64 ↑T.fb, .int .i64 ↑T.db, .int .i64 ↑T.al, .slice Ac nc cc, .slice Ao no co], .blk (w.heap.size + 1) 69 #[.int .i64 xk, .int .i64 xm, .int .i64 xa, .int .i64 xb, .int .i64 xd], .blk (w.heap.size + 1 + 1) 32 #[.slice none 0 0], .blk (w.heap.size + 1 + 1 + 1) 72 #[.int .i64 0, .int .i64 0, .int .i64 0, .int .i64 0, .int .i64 0, .int .i64 0, .int .i64 0, .int .i64 0, .string ⟨#[]⟩]] = LL := ⟨_, rfl⟩
 rw [hLL] at H
 go_cut [13, 14, 12, 15] (fun p0 p1 p2 p3 wx => ∃ (ob rb : Nat) (A3 : Option Addr) (c3 : Nat) (A2 : Option Addr) (c2 : Nat) (base : Nat), p0 = .pointer (some ⟨ob, 0, none⟩) ∧ p1 = .pointer (some ⟨rb, 0, none⟩) ∧ p2 = .slice A3 wl.length c3 ∧ p3 = .int .i64 ↑E ∧ Mem (w) [] wx (LL ++ (.blk ob 32 #[.slice A2 lq.length c2] :: .blk rb 72 #[.int .i64 ↑vme, .int .i64 ↑id, .int .i64 (te' : Int), .int .i64 ↑de, .int .i64 ↑fe, .int .i64 ↑pr, .int .i64 ↑ch, .int .i64 ↑un, .string s] :: [.row (base) (225) (4) (.slice A2 lq.length c2) (lq.length) (prs lq), .row (base) (113) (2) (.slice A3 wl.length c3) (wl.length) (wrs wl)])) ∧ Below W0.heap.size W0 wx)
 case first =>
   have nz0a : W0.heap.size ≠ w.heap.size := by have := shlt; omega
   have nz0b : W0.heap.size + 1 ≠ w.heap.size := by have := shlt; omega
   have nz0c : w.heap.size ≠ W0.heap.size := by have := shlt; omega
   have nz0d : w.heap.size ≠ W0.heap.size + 1 := by have := shlt; omega
   have nz1a : W0.heap.size ≠ w.heap.size + 1 := by have := odlt; omega
   have nz1b : W0.heap.size + 1 ≠ w.heap.size + 1 := by have := odlt; omega
   have nz1c : w.heap.size + 1 ≠ W0.heap.size := by have := odlt; omega
   have nz1d : w.heap.size + 1 ≠ W0.heap.size + 1 := by have := odlt; omega
   have nz1e : W0.heap.size ≠ w.heap.size := by have := odlt; omega
   have nz1f : w.heap.size ≠ W0.heap.size := by have := odlt; omega
   have V0 : Mem W0 [] (W0).drew [] := (Mem.init W0).drew
   have B0 := V0.below
   have V1 : Mem W0 [] (W0.alloc (.cells #[.slice none 0 0] 32)).drew [.blk (W0.heap.size) 32 #[.slice none 0 0]] := ((Mem.init W0).alloc _ rfl #[.slice none 0 0] 32).drew
   have B1 := V1.below
   have V1b0 := V1.blk 0 rfl
   have V2 : Mem W0 [] (W0.alloc (.cells #[.int .i64 0, .int .i64 0, .int .i64 0, .int .i64 0, .int .i64 0, .int .i64 0, .int .i64 0, .int .i64 0, .string ⟨#[]⟩] 72)).drew [.blk (W0.heap.size) 72 #[.int .i64 0, .int .i64 0, .int .i64 0, .int .i64 0, .int .i64 0, .int .i64 0, .int .i64 0, .int .i64 0, .string ⟨#[]⟩]] := ((Mem.init W0).alloc _ rfl #[.int .i64 0, .int .i64 0, .int .i64 0, .int .i64 0, .int .i64 0, .int .i64 0, .int .i64 0, .int .i64 0, .string ⟨#[]⟩] 72).drew
   have B2 := V2.below
   have V2b1 := V2.blk 0 rfl
   have V3 : Mem W0 [] ((W0.alloc (.cells #[.slice none 0 0] 32)).alloc (.cells #[.int .i64 0, .int .i64 0, .int .i64 0, .int .i64 0, .int .i64 0, .int .i64 0, .int .i64 0, .int .i64 0, .string ⟨#[]⟩] 72)).drew [.blk (W0.heap.size) 32 #[.slice none 0 0], .blk (W0.heap.size + 1) 72 #[.int .i64 0, .int .i64 0, .int .i64 0, .int .i64 0, .int .i64 0, .int .i64 0, .int .i64 0, .int .i64 0, .string ⟨#[]⟩]] := (((Mem.init W0).alloc _ rfl #[.slice none 0 0] 32).alloc (W0.heap.size + 1) (by simp) #[.int .i64 0, .int .i64 0, .int .i64 0, .int .i64 0, .int .i64 0, .int .i64 0, .int .i64 0, .int .i64 0, .string ⟨#[]⟩] 72).drew
   have B3 := V3.below
   have V3b0 := V3.blk 0 rfl
   have V3b1 := V3.blk 1 rfl
   have V4 : Mem W0 [] ((W0.alloc (.cells #[.int .i64 0, .int .i64 0, .int .i64 0, .int .i64 0, .int .i64 0, .int .i64 0, .int .i64 0, .int .i64 0, .string ⟨#[]⟩] 72)).alloc (.cells #[.slice none 0 0] 32)).drew [.blk (W0.heap.size + 1) 32 #[.slice none 0 0], .blk (W0.heap.size) 72 #[.int .i64 0, .int .i64 0, .int .i64 0, .int .i64 0, .int .i64 0, .int .i64 0, .int .i64 0, .int .i64 0, .string ⟨#[]⟩]] := Mem.perm (List.Perm.swap _ _ _) (((Mem.init W0).alloc _ rfl #[.int .i64 0, .int .i64 0, .int .i64 0, .int .i64 0, .int .i64 0, .int .i64 0, .int .i64 0, .int .i64 0, .string ⟨#[]⟩] 72).alloc (W0.heap.size + 1) (by simp) #[.slice none 0 0] 32).drew
   have B4 := V4.below
   have V4b0 := V4.blk 0 rfl
   have V4b1 := V4.blk 1 rfl
   go_region_held3 (fun w' => w'.cell? ⟨w.heap.size, 0, none⟩ = some (.slice At nt ct) ∧ w'.cell? ⟨w.heap.size, 1, none⟩ = some (.int .i64 ↑T.fx) ∧ w'.cell? ⟨w.heap.size, 2, none⟩ = some (.int .i64 ↑T.fb) ∧ w'.cell? ⟨w.heap.size, 3, none⟩ = some (.int .i64 ↑T.db) ∧ w'.cell? ⟨w.heap.size, 4, none⟩ = some (.int .i64 ↑T.al) ∧ w'.cell? ⟨w.heap.size, 5, none⟩ = some (.slice Ac nc cc) ∧ w'.cell? ⟨w.heap.size, 6, none⟩ = some (.slice Ao no co) ∧ w'.cell? ⟨w.heap.size + 1, 0, none⟩ = some (.int .i64 xk) ∧ w'.cell? ⟨w.heap.size + 1, 1, none⟩ = some (.int .i64 xm) ∧ w'.cell? ⟨w.heap.size + 1, 2, none⟩ = some (.int .i64 xa) ∧ w'.cell? ⟨w.heap.size + 1, 3, none⟩ = some (.int .i64 xb) ∧ w'.cell? ⟨w.heap.size + 1, 4, none⟩ = some (.int .i64 xd)) (first | with_reducible exact ⟨s0, s1, s2, s3, s4, s5, s6, s7, s8, s9, s10, s11⟩ | go_keep | fail) (first | (go_at_call 11; (with_reducible refine (picked_is _ hB wfb (by omega) (by omega)).mono ?_); rintro e w' ⟨rfl, rfl⟩) | (go_at_call 31; (with_reducible refine (hV (W0).drew (hvt0.below B0) (hc0.below B0) (hps0.below B0)).mono ?_); rintro e we ⟨A3, c3, A2, c2, rfl, ho1, ho2, hbe⟩; have hV := V0; obtain ⟨bse, hK⟩ : ∃ bse : Nat, Mem (W0).drew [] we [.row (bse) (225) (4) (.slice A2 lq.length c2) (lq.length) (prs lq), .row (bse) (113) (2) (.slice A3 wl.length c3) (wl.length) (wrs wl)] := ⟨_, Mem.row2 (Mem.init _) hbe ho1 ho2 (by decide)⟩; have hWe : Below W0.heap.size W0 we := B0.trans (hbe.mono B0.size); have s0 := (hWe.cell (p := ⟨w.heap.size, 0, none⟩) shlt).trans sh0; have s1 := (hWe.cell (p := ⟨w.heap.size, 1, none⟩) shlt).trans sh1; have s2 := (hWe.cell (p := ⟨w.heap.size, 2, none⟩) shlt).trans sh2; have s3 := (hWe.cell (p := ⟨w.heap.size, 3, none⟩) shlt).trans sh3; have s4 := (hWe.cell (p := ⟨w.heap.size, 4, none⟩) shlt).trans sh4; have s5 := (hWe.cell (p := ⟨w.heap.size, 5, none⟩) shlt).trans sh5; have s6 := (hWe.cell (p := ⟨w.heap.size, 6, none⟩) shlt).trans sh6; have s7 := (hWe.cell (p := ⟨w.heap.size + 1, 0, none⟩) odlt).trans od0; have s8 := (hWe.cell (p := ⟨w.heap.size + 1, 1, none⟩) odlt).trans od1; have s9 := (hWe.cell (p := ⟨w.heap.size + 1, 2, none⟩) odlt).trans od2; have s10 := (hWe.cell (p := ⟨w.heap.size + 1, 3, none⟩) odlt).trans od3; have s11 := (hWe.cell (p := ⟨w.heap.size + 1, 4, none⟩) odlt).trans od4; have sz := hWe.size; have ez0a : we.heap.size ≠ w.heap.size := (by have := shlt; omega); have ez0b : we.heap.size + 1 ≠ w.heap.size := (by have := shlt; omega); have ez1c : we.heap.size ≠ w.heap.size := (by have := odlt; omega); have ez1a : we.heap.size ≠ w.heap.size + 1 := (by have := odlt; omega); have ez1b : we.heap.size + 1 ≠ w.heap.size + 1 := (by have := odlt; omega)) | (go_at_call 31; (with_reducible refine (hV (W0.alloc (.cells #[.slice none 0 0] 32)).drew (hvt0.below B1) (hc0.below B1) (hps0.below B1)).mono ?_); rintro e we ⟨A3, c3, A2, c2, rfl, ho1, ho2, hbe⟩; have hV := V1; obtain ⟨bse, hK⟩ : ∃ bse : Nat, Mem (W0.alloc (.cells #[.slice none 0 0] 32)).drew [] we [.row (bse) (225) (4) (.slice A2 lq.length c2) (lq.length) (prs lq), .row (bse) (113) (2) (.slice A3 wl.length c3) (wl.length) (wrs wl)] := ⟨_, Mem.row2 (Mem.init _) hbe ho1 ho2 (by decide)⟩; have hWe : Below W0.heap.size W0 we := B1.trans (hbe.mono B1.size); have s0 := (hWe.cell (p := ⟨w.heap.size, 0, none⟩) shlt).trans sh0; have s1 := (hWe.cell (p := ⟨w.heap.size, 1, none⟩) shlt).trans sh1; have s2 := (hWe.cell (p := ⟨w.heap.size, 2, none⟩) shlt).trans sh2; have s3 := (hWe.cell (p := ⟨w.heap.size, 3, none⟩) shlt).trans sh3; have s4 := (hWe.cell (p := ⟨w.heap.size, 4, none⟩) shlt).trans sh4; have s5 := (hWe.cell (p := ⟨w.heap.size, 5, none⟩) shlt).trans sh5; have s6 := (hWe.cell (p := ⟨w.heap.size, 6, none⟩) shlt).trans sh6; have s7 := (hWe.cell (p := ⟨w.heap.size + 1, 0, none⟩) odlt).trans od0; have s8 := (hWe.cell (p := ⟨w.heap.size + 1, 1, none⟩) odlt).trans od1; have s9 := (hWe.cell (p := ⟨w.heap.size + 1, 2, none⟩) odlt).trans od2; have s10 := (hWe.cell (p := ⟨w.heap.size + 1, 3, none⟩) odlt).trans od3; have s11 := (hWe.cell (p := ⟨w.heap.size + 1, 4, none⟩) odlt).trans od4; have sz := hWe.size; have ez0a : we.heap.size ≠ w.heap.size := (by have := shlt; omega); have ez0b : we.heap.size + 1 ≠ w.heap.size := (by have := shlt; omega); have ez1c : we.heap.size ≠ w.heap.size := (by have := odlt; omega); have ez1a : we.heap.size ≠ w.heap.size + 1 := (by have := odlt; omega); have ez1b : we.heap.size + 1 ≠ w.heap.size + 1 := (by have := odlt; omega); have zb0 := Blk.below V1b0 hbe V1b0.lt; have zb0_0 := zb0.cell 0; have zb0f0 := zb0.frozen 0; have zb0lt : W0.heap.size < we.heap.size := zb0.lt) | (go_at_call 31; (with_reducible refine (hV (W0.alloc (.cells #[.int .i64 0, .int .i64 0, .int .i64 0, .int .i64 0, .int .i64 0, .int .i64 0, .int .i64 0, .int .i64 0, .string ⟨#[]⟩] 72)).drew (hvt0.below B2) (hc0.below B2) (hps0.below B2)).mono ?_); rintro e we ⟨A3, c3, A2, c2, rfl, ho1, ho2, hbe⟩; have hV := V2; obtain ⟨bse, hK⟩ : ∃ bse : Nat, Mem (W0.alloc (.cells #[.int .i64 0, .int .i64 0, .int .i64 0, .int .i64 0, .int .i64 0, .int .i64 0, .int .i64 0, .int .i64 0, .string ⟨#[]⟩] 72)).drew [] we [.row (bse) (225) (4) (.slice A2 lq.length c2) (lq.length) (prs lq), .row (bse) (113) (2) (.slice A3 wl.length c3) (wl.length) (wrs wl)] := ⟨_, Mem.row2 (Mem.init _) hbe ho1 ho2 (by decide)⟩; have hWe : Below W0.heap.size W0 we := B2.trans (hbe.mono B2.size); have s0 := (hWe.cell (p := ⟨w.heap.size, 0, none⟩) shlt).trans sh0; have s1 := (hWe.cell (p := ⟨w.heap.size, 1, none⟩) shlt).trans sh1; have s2 := (hWe.cell (p := ⟨w.heap.size, 2, none⟩) shlt).trans sh2; have s3 := (hWe.cell (p := ⟨w.heap.size, 3, none⟩) shlt).trans sh3; have s4 := (hWe.cell (p := ⟨w.heap.size, 4, none⟩) shlt).trans sh4; have s5 := (hWe.cell (p := ⟨w.heap.size, 5, none⟩) shlt).trans sh5; have s6 := (hWe.cell (p := ⟨w.heap.size, 6, none⟩) shlt).trans sh6; have s7 := (hWe.cell (p := ⟨w.heap.size + 1, 0, none⟩) odlt).trans od0; have s8 := (hWe.cell (p := ⟨w.heap.size + 1, 1, none⟩) odlt).trans od1; have s9 := (hWe.cell (p := ⟨w.heap.size + 1, 2, none⟩) odlt).trans od2; have s10 := (hWe.cell (p := ⟨w.heap.size + 1, 3, none⟩) odlt).trans od3; have s11 := (hWe.cell (p := ⟨w.heap.size + 1, 4, none⟩) odlt).trans od4; have sz := hWe.size; have ez0a : we.heap.size ≠ w.heap.size := (by have := shlt; omega); have ez0b : we.heap.size + 1 ≠ w.heap.size := (by have := shlt; omega); have ez1c : we.heap.size ≠ w.heap.size := (by have := odlt; omega); have ez1a : we.heap.size ≠ w.heap.size + 1 := (by have := odlt; omega); have ez1b : we.heap.size + 1 ≠ w.heap.size + 1 := (by have := odlt; omega); have zb1 := Blk.below V2b1 hbe V2b1.lt; have zb1_0 := zb1.cell 0; have zb1f0 := zb1.frozen 0; have zb1_1 := zb1.cell 1; have zb1f1 := zb1.frozen 1; have zb1_2 := zb1.cell 2; have zb1f2 := zb1.frozen 2; have zb1_3 := zb1.cell 3; have zb1f3 := zb1.frozen 3; have zb1_4 := zb1.cell 4; have zb1f4 := zb1.frozen 4; have zb1_5 := zb1.cell 5; have zb1f5 := zb1.frozen 5; have zb1_6 := zb1.cell 6; have zb1f6 := zb1.frozen 6; have zb1_7 := zb1.cell 7; have zb1f7 := zb1.frozen 7; have zb1_8 := zb1.cell 8; have zb1f8 := zb1.frozen 8; have zb1lt : W0.heap.size < we.heap.size := zb1.lt) | (go_at_call 31; (with_reducible refine (hV ((W0.alloc (.cells #[.slice none 0 0] 32)).alloc (.cells #[.int .i64 0, .int .i64 0, .int .i64 0, .int .i64 0, .int .i64 0, .int .i64 0, .int .i64 0, .int .i64 0, .string ⟨#[]⟩] 72)).drew (hvt0.below B3) (hc0.below B3) (hps0.below B3)).mono ?_); rintro e we ⟨A3, c3, A2, c2, rfl, ho1, ho2, hbe⟩; have hV := V3; obtain ⟨bse, hK⟩ : ∃ bse : Nat, Mem ((W0.alloc (.cells #[.slice none 0 0] 32)).alloc (.cells #[.int .i64 0, .int .i64 0, .int .i64 0, .int .i64 0, .int .i64 0, .int .i64 0, .int .i64 0, .int .i64 0, .string ⟨#[]⟩] 72)).drew [] we [.row (bse) (225) (4) (.slice A2 lq.length c2) (lq.length) (prs lq), .row (bse) (113) (2) (.slice A3 wl.length c3) (wl.length) (wrs wl)] := ⟨_, Mem.row2 (Mem.init _) hbe ho1 ho2 (by decide)⟩; have hWe : Below W0.heap.size W0 we := B3.trans (hbe.mono B3.size); have s0 := (hWe.cell (p := ⟨w.heap.size, 0, none⟩) shlt).trans sh0; have s1 := (hWe.cell (p := ⟨w.heap.size, 1, none⟩) shlt).trans sh1; have s2 := (hWe.cell (p := ⟨w.heap.size, 2, none⟩) shlt).trans sh2; have s3 := (hWe.cell (p := ⟨w.heap.size, 3, none⟩) shlt).trans sh3; have s4 := (hWe.cell (p := ⟨w.heap.size, 4, none⟩) shlt).trans sh4; have s5 := (hWe.cell (p := ⟨w.heap.size, 5, none⟩) shlt).trans sh5; have s6 := (hWe.cell (p := ⟨w.heap.size, 6, none⟩) shlt).trans sh6; have s7 := (hWe.cell (p := ⟨w.heap.size + 1, 0, none⟩) odlt).trans od0; have s8 := (hWe.cell (p := ⟨w.heap.size + 1, 1, none⟩) odlt).trans od1; have s9 := (hWe.cell (p := ⟨w.heap.size + 1, 2, none⟩) odlt).trans od2; have s10 := (hWe.cell (p := ⟨w.heap.size + 1, 3, none⟩) odlt).trans od3; have s11 := (hWe.cell (p := ⟨w.heap.size + 1, 4, none⟩) odlt).trans od4; have sz := hWe.size; have ez0a : we.heap.size ≠ w.heap.size := (by have := shlt; omega); have ez0b : we.heap.size + 1 ≠ w.heap.size := (by have := shlt; omega); have ez1c : we.heap.size ≠ w.heap.size := (by have := odlt; omega); have ez1a : we.heap.size ≠ w.heap.size + 1 := (by have := odlt; omega); have ez1b : we.heap.size + 1 ≠ w.heap.size + 1 := (by have := odlt; omega); have zb0 := Blk.below V3b0 hbe V3b0.lt; have zb0_0 := zb0.cell 0; have zb0f0 := zb0.frozen 0; have zb0lt : W0.heap.size < we.heap.size := zb0.lt; have zb1 := Blk.below V3b1 hbe V3b1.lt; have zb1_0 := zb1.cell 0; have zb1f0 := zb1.frozen 0; have zb1_1 := zb1.cell 1; have zb1f1 := zb1.frozen 1; have zb1_2 := zb1.cell 2; have zb1f2 := zb1.frozen 2; have zb1_3 := zb1.cell 3; have zb1f3 := zb1.frozen 3; have zb1_4 := zb1.cell 4; have zb1f4 := zb1.frozen 4; have zb1_5 := zb1.cell 5; have zb1f5 := zb1.frozen 5; have zb1_6 := zb1.cell 6; have zb1f6 := zb1.frozen 6; have zb1_7 := zb1.cell 7; have zb1f7 := zb1.frozen 7; have zb1_8 := zb1.cell 8; have zb1f8 := zb1.frozen 8; have zb1lt : W0.heap.size + 1 < we.heap.size := zb1.lt; have zn1 : W0.heap.size ≠ W0.heap.size + 1 := (by omega); have zn2 : W0.heap.size + 1 ≠ W0.heap.size := (by omega)) | (go_at_call 31; (with_reducible refine (hV ((W0.alloc (.cells #[.int .i64 0, .int .i64 0, .int .i64 0, .int .i64 0, .int .i64 0, .int .i64 0, .int .i64 0, .int .i64 0, .string ⟨#[]⟩] 72)).alloc (.cells #[.slice none 0 0] 32)).drew (hvt0.below B4) (hc0.below B4) (hps0.below B4)).mono ?_); rintro e we ⟨A3, c3, A2, c2, rfl, ho1, ho2, hbe⟩; have hV := V4; obtain ⟨bse, hK⟩ : ∃ bse : Nat, Mem ((W0.alloc (.cells #[.int .i64 0, .int .i64 0, .int .i64 0, .int .i64 0, .int .i64 0, .int .i64 0, .int .i64 0, .int .i64 0, .string ⟨#[]⟩] 72)).alloc (.cells #[.slice none 0 0] 32)).drew [] we [.row (bse) (225) (4) (.slice A2 lq.length c2) (lq.length) (prs lq), .row (bse) (113) (2) (.slice A3 wl.length c3) (wl.length) (wrs wl)] := ⟨_, Mem.row2 (Mem.init _) hbe ho1 ho2 (by decide)⟩; have hWe : Below W0.heap.size W0 we := B4.trans (hbe.mono B4.size); have s0 := (hWe.cell (p := ⟨w.heap.size, 0, none⟩) shlt).trans sh0; have s1 := (hWe.cell (p := ⟨w.heap.size, 1, none⟩) shlt).trans sh1; have s2 := (hWe.cell (p := ⟨w.heap.size, 2, none⟩) shlt).trans sh2; have s3 := (hWe.cell (p := ⟨w.heap.size, 3, none⟩) shlt).trans sh3; have s4 := (hWe.cell (p := ⟨w.heap.size, 4, none⟩) shlt).trans sh4; have s5 := (hWe.cell (p := ⟨w.heap.size, 5, none⟩) shlt).trans sh5; have s6 := (hWe.cell (p := ⟨w.heap.size, 6, none⟩) shlt).trans sh6; have s7 := (hWe.cell (p := ⟨w.heap.size + 1, 0, none⟩) odlt).trans od0; have s8 := (hWe.cell (p := ⟨w.heap.size + 1, 1, none⟩) odlt).trans od1; have s9 := (hWe.cell (p := ⟨w.heap.size + 1, 2, none⟩) odlt).trans od2; have s10 := (hWe.cell (p := ⟨w.heap.size + 1, 3, none⟩) odlt).trans od3; have s11 := (hWe.cell (p := ⟨w.heap.size + 1, 4, none⟩) odlt).trans od4; have sz := hWe.size; have ez0a : we.heap.size ≠ w.heap.size := (by have := shlt; omega); have ez0b : we.heap.size + 1 ≠ w.heap.size := (by have := shlt; omega); have ez1c : we.heap.size ≠ w.heap.size := (by have := odlt; omega); have ez1a : we.heap.size ≠ w.heap.size + 1 := (by have := odlt; omega); have ez1b : we.heap.size + 1 ≠ w.heap.size + 1 := (by have := odlt; omega); have zb0 := Blk.below V4b0 hbe V4b0.lt; have zb0_0 := zb0.cell 0; have zb0f0 := zb0.frozen 0; have zb0lt : W0.heap.size + 1 < we.heap.size := zb0.lt; have zb1 := Blk.below V4b1 hbe V4b1.lt; have zb1_0 := zb1.cell 0; have zb1f0 := zb1.frozen 0; have zb1_1 := zb1.cell 1; have zb1f1 := zb1.frozen 1; have zb1_2 := zb1.cell 2; have zb1f2 := zb1.frozen 2; have zb1_3 := zb1.cell 3; have zb1f3 := zb1.frozen 3; have zb1_4 := zb1.cell 4; have zb1f4 := zb1.frozen 4; have zb1_5 := zb1.cell 5; have zb1f5 := zb1.frozen 5; have zb1_6 := zb1.cell 6; have zb1f6 := zb1.frozen 6; have zb1_7 := zb1.cell 7; have zb1f7 := zb1.frozen 7; have zb1_8 := zb1.cell 8; have zb1f8 := zb1.frozen 8; have zb1lt : W0.heap.size < we.heap.size := zb1.lt; have zn1 : W0.heap.size + 1 ≠ W0.heap.size := (by omega); have zn2 : W0.heap.size ≠ W0.heap.size + 1 := (by omega)))
   all_goals
     go_wp2_with fail
     go_meet
     refine ⟨_, _, A3, c3, A2, c2, bse, rfl, rfl, rfl, rfl, ?_⟩
     first
     | with_reducible exact ⟨cr2_a H hV hK, (cr2_a (Mem.init W0) hV hK).below⟩
     | with_reducible exact ⟨cr2_b H hV hK, (cr2_b (Mem.init W0) hV hK).below⟩
     | (have h := cr2_c (c1 := #[.slice A2 lq.length c2]) (c2 := #[.int .i64 ↑vme, .int .i64 ↑id, .int .i64 (te' : Int), .int .i64 ↑de, .int .i64 ↑fe, .int .i64 ↑pr, .int .i64 ↑ch, .int .i64 ↑un, .string s]) (t1 := 32) (t2 := 72) H hV hK [(0, .slice A2 lq.length c2)] (by simp only [List.foldl_cons, List.foldl_nil, List.setIfInBounds_toArray, List.set_cons_zero])
        have h2 := (cr2_c (c1 := #[.slice A2 lq.length c2]) (c2 := #[.int .i64 ↑vme, .int .i64 ↑id, .int .i64 (te' : Int), .int .i64 ↑de, .int .i64 ↑fe, .int .i64 ↑pr, .int .i64 ↑ch, .int .i64 ↑un, .string s]) (t1 := 32) (t2 := 72) (Mem.init W0) hV hK [(0, .slice A2 lq.length c2)] (by simp only [List.foldl_cons, List.foldl_nil, List.setIfInBounds_toArray, List.set_cons_zero])).below
        simp only [sets, List.foldl_cons, List.foldl_nil] at h h2
        with_reducible exact ⟨h, h2⟩)
     | (have h := cr2_d (c1 := #[.slice A2 lq.length c2]) (c2 := #[.int .i64 ↑vme, .int .i64 ↑id, .int .i64 (te' : Int), .int .i64 ↑de, .int .i64 ↑fe, .int .i64 ↑pr, .int .i64 ↑ch, .int .i64 ↑un, .string s]) (t1 := 32) (t2 := 72) H hV hK [(0, .int .i64 ↑vme), (1, .int .i64 ↑id), (2, .int .i64 (te' : Int)), (3, .int .i64 ↑de), (4, .int .i64 ↑fe), (5, .int .i64 ↑pr), (6, .int .i64 ↑ch), (7, .int .i64 ↑un), (8, .string s)] (by simp only [List.foldl_cons, List.foldl_nil, List.setIfInBounds_toArray, List.set_cons_zero, List.set_cons_succ])
        have h2 := (cr2_d (c1 := #[.slice A2 lq.length c2]) (c2 := #[.int .i64 ↑vme, .int .i64 ↑id, .int .i64 (te' : Int), .int .i64 ↑de, .int .i64 ↑fe, .int .i64 ↑pr, .int .i64 ↑ch, .int .i64 ↑un, .string s]) (t1 := 32) (t2 := 72) (Mem.init W0) hV hK [(0, .int .i64 ↑vme), (1, .int .i64 ↑id), (2, .int .i64 (te' : Int)), (3, .int .i64 ↑de), (4, .int .i64 ↑fe), (5, .int .i64 ↑pr), (6, .int .i64 ↑ch), (7, .int .i64 ↑un), (8, .string s)] (by simp only [List.foldl_cons, List.foldl_nil, List.setIfInBounds_toArray, List.set_cons_zero, List.set_cons_succ])).below
        simp only [sets, List.foldl_cons, List.foldl_nil] at h h2
        with_reducible exact ⟨h, h2⟩)
     | (have h := cr2_e (c1 := #[.slice A2 lq.length c2]) (c2 := #[.int .i64 ↑vme, .int .i64 ↑id, .int .i64 (te' : Int), .int .i64 ↑de, .int .i64 ↑fe, .int .i64 ↑pr, .int .i64 ↑ch, .int .i64 ↑un, .string s]) (t1 := 32) (t2 := 72) H hV hK [(0, .slice A2 lq.length c2)] [(0, .int .i64 ↑vme), (1, .int .i64 ↑id), (2, .int .i64 (te' : Int)), (3, .int .i64 ↑de), (4, .int .i64 ↑fe), (5, .int .i64 ↑pr), (6, .int .i64 ↑ch), (7, .int .i64 ↑un), (8, .string s)] (by simp only [List.foldl_cons, List.foldl_nil, List.setIfInBounds_toArray, List.set_cons_zero]) (by simp only [List.foldl_cons, List.foldl_nil, List.setIfInBounds_toArray, List.set_cons_zero, List.set_cons_succ])
        have h2 := (cr2_e (c1 := #[.slice A2 lq.length c2]) (c2 := #[.int .i64 ↑vme, .int .i64 ↑id, .int .i64 (te' : Int), .int .i64 ↑de, .int .i64 ↑fe, .int .i64 ↑pr, .int .i64 ↑ch, .int .i64 ↑un, .string s]) (t1 := 32) (t2 := 72) (Mem.init W0) hV hK [(0, .slice A2 lq.length c2)] [(0, .int .i64 ↑vme), (1, .int .i64 ↑id), (2, .int .i64 (te' : Int)), (3, .int .i64 ↑de), (4, .int .i64 ↑fe), (5, .int .i64 ↑pr), (6, .int .i64 ↑ch), (7, .int .i64 ↑un), (8, .string s)] (by simp only [List.foldl_cons, List.foldl_nil, List.setIfInBounds_toArray, List.set_cons_zero]) (by simp only [List.foldl_cons, List.foldl_nil, List.setIfInBounds_toArray, List.set_cons_zero, List.set_cons_succ])).below
        simp only [sets, List.foldl_cons, List.foldl_nil] at h h2
        with_reducible exact ⟨h, h2⟩)
     | (have h := cr2_f (c1 := #[.slice A2 lq.length c2]) (c2 := #[.int .i64 ↑vme, .int .i64 ↑id, .int .i64 (te' : Int), .int .i64 ↑de, .int .i64 ↑fe, .int .i64 ↑pr, .int .i64 ↑ch, .int .i64 ↑un, .string s]) (t1 := 32) (t2 := 72) H hV hK [(0, .slice A2 lq.length c2)] [(0, .int .i64 ↑vme), (1, .int .i64 ↑id), (2, .int .i64 (te' : Int)), (3, .int .i64 ↑de), (4, .int .i64 ↑fe), (5, .int .i64 ↑pr), (6, .int .i64 ↑ch), (7, .int .i64 ↑un), (8, .string s)] (by simp only [List.foldl_cons, List.foldl_nil, List.setIfInBounds_toArray, List.set_cons_zero]) (by simp only [List.foldl_cons, List.foldl_nil, List.setIfInBounds_toArray, List.set_cons_zero, List.set_cons_succ])
        have h2 := (cr2_f (c1 := #[.slice A2 lq.length c2]) (c2 := #[.int .i64 ↑vme, .int .i64 ↑id, .int .i64 (te' : Int), .int .i64 ↑de, .int .i64 ↑fe, .int .i64 ↑pr, .int .i64 ↑ch, .int .i64 ↑un, .string s]) (t1 := 32) (t2 := 72) (Mem.init W0) hV hK [(0, .slice A2 lq.length c2)] [(0, .int .i64 ↑vme), (1, .int .i64 ↑id), (2, .int .i64 (te' : Int)), (3, .int .i64 ↑de), (4, .int .i64 ↑fe), (5, .int .i64 ↑pr), (6, .int .i64 ↑ch), (7, .int .i64 ↑un), (8, .string s)] (by simp only [List.foldl_cons, List.foldl_nil, List.setIfInBounds_toArray, List.set_cons_zero]) (by simp only [List.foldl_cons, List.foldl_nil, List.setIfInBounds_toArray, List.set_cons_zero, List.set_cons_succ])).below
        simp only [sets, List.foldl_cons, List.foldl_nil] at h h2
        with_reducible exact ⟨h, h2⟩)
 case rest =>
   obtain ⟨ob, rb, A3, c3, A2, c2, base, rfl, rfl, rfl, rfl, H, hCR⟩ := hcut
   subst hLL
   replace H : Mem (w) [] (wc) [.blk (w.heap.size) 34 #[.slice At nt ct, .int .i64 ↑T.fx, .int .i64 ↑T.fb, .int .i64 ↑T.db, .int .i64 ↑T.al, .slice Ac nc cc, .slice Ao no co], .blk (w.heap.size + 1) 69 #[.int .i64 xk, .int .i64 xm, .int .i64 xa, .int .i64 xb, .int .i64 xd], .blk (w.heap.size + 1 + 1) 32 #[.slice none 0 0], .blk (w.heap.size + 1 + 1 + 1) 72 #[.int .i64 0, .int .i64 0, .int .i64 0, .int .i64 0, .int .i64 0, .int .i64 0, .int .i64 0, .int .i64 0, .string ⟨#[]⟩], .blk (ob) 32 #[.slice A2 lq.length c2], .blk (rb) 72 #[.int .i64 ↑vme, .int .i64 ↑id, .int .i64 (te' : Int), .int .i64 ↑de, .int .i64 ↑fe, .int .i64 ↑pr, .int .i64 ↑ch, .int .i64 ↑un, .string s], .row (base) (225) (4) (.slice A2 lq.length c2) (lq.length) (prs lq), .row (base) (113) (2) (.slice A3 wl.length c3) (wl.length) (wrs wl)] := H
   clear hV hvt0 hc0 hps0 hCR
   clear shlt sh0 shf0 sh1 shf1 sh2 shf2 sh3 shf3 sh4 shf4 sh5 shf5 sh6 shf6 odlt od0 odf0 od1 odf1 od2 odf2 od3 odf3 od4 odf4 ne_sh_od ne_od_sh
   obtain ⟨oblt, ob0, obf0⟩ := H.c1 4 rfl
   obtain ⟨rblt, rb0, rbf0, rb1, rbf1, rb2, rbf2, rb3, rbf3, rb4, rbf4, rb5, rbf5, rb6, rbf6, rb7, rbf7, rb8, rbf8⟩ := H.c9 5 rfl
   obtain ⟨rolt, ro0, rof0⟩ := H.c1 2 rfl
   obtain ⟨rrlt, rr0, rrf0, rr1, rrf1, rr2, rrf2, rr3, rrf3, rr4, rrf4, rr5, rrf5, rr6, rrf6, rr7, rrf7, rr8, rrf8⟩ := H.c9 3 rfl
   have ne_ob_rb := H.ne 4 5 rfl rfl (by decide)
   have ne_ob_ro := H.ne 4 2 rfl rfl (by decide)
   have ne_ob_rr := H.ne 4 3 rfl rfl (by decide)
   have ne_rb_ob := H.ne 5 4 rfl rfl (by decide)
   have ne_rb_ro := H.ne 5 2 rfl rfl (by decide)
   have ne_rb_rr := H.ne 5 3 rfl rfl (by decide)
   have ne_ro_ob := H.ne 2 4 rfl rfl (by decide)
   have ne_ro_rb := H.ne 2 5 rfl rfl (by decide)
   have ne_ro_rr := H.ne 2 3 rfl rfl (by decide)
   have ne_rr_ob := H.ne 3 4 rfl rfl (by decide)
   have ne_rr_rb := H.ne 3 5 rfl rfl (by decide)
   have ne_rr_ro := H.ne 3 2 rfl rfl (by decide)
   go_wp2
   go_region
   go_wp2
   clear oblt ob0 obf0 rblt rb0 rbf0 rb1 rbf1 rb2 rbf2 rb3 rbf3 rb4 rbf4 rb5 rbf5 rb6 rbf6 rb7 rbf7 rb8 rbf8 rolt ro0 rof0 rrlt rr0 rrf0 rr1 rrf1 rr2 rrf2 rr3 rrf3 rr4 rrf4 rr5 rrf5 rr6 rrf6 rr7 rrf7 rr8 rrf8 ne_ob_rb ne_ob_ro ne_ob_rr ne_rb_ob ne_rb_ro ne_rb_rr ne_ro_ob ne_ro_rb ne_ro_rr ne_rr_ob ne_rr_rb ne_rr_ro
   obtain ⟨w3, hw3⟩ : ∃ w3, (((((((((((wc).setCell ⟨w.heap.size + 1 + 1, 0, none⟩ (.slice A2 lq.length c2)).setCell ⟨w.heap.size + 1 + 1 + 1, 0, none⟩ (.int .i64 ↑vme)).setCell ⟨w.heap.size + 1 + 1 + 1, 1, none⟩ (.int .i64 ↑id)).setCell ⟨w.heap.size + 1 + 1 + 1, 2, none⟩ (.int .i64 (te' : Int))).setCell ⟨w.heap.size + 1 + 1 + 1, 3, none⟩ (.int .i64 ↑de)).setCell ⟨w.heap.size + 1 + 1 + 1, 4, none⟩ (.int .i64 ↑fe)).setCell ⟨w.heap.size + 1 + 1 + 1, 5, none⟩ (.int .i64 ↑pr)).setCell ⟨w.heap.size + 1 + 1 + 1, 6, none⟩ (.int .i64 ↑ch)).setCell ⟨w.heap.size + 1 + 1 + 1, 7, none⟩ (.int .i64 ↑un)).setCell ⟨w.heap.size + 1 + 1 + 1, 8, none⟩ (.string s)).drew = w3 := ⟨_, rfl⟩
   replace H := Mem.set 2 H rfl (0) (.slice A2 lq.length c2)
   replace H := Mem.set 3 H rfl (0) (.int .i64 ↑vme)
   replace H := Mem.set 3 H rfl (1) (.int .i64 ↑id)
   replace H := Mem.set 3 H rfl (2) (.int .i64 (te' : Int))
   replace H := Mem.set 3 H rfl (3) (.int .i64 ↑de)
   replace H := Mem.set 3 H rfl (4) (.int .i64 ↑fe)
   replace H := Mem.set 3 H rfl (5) (.int .i64 ↑pr)
   replace H := Mem.set 3 H rfl (6) (.int .i64 ↑ch)
   replace H := Mem.set 3 H rfl (7) (.int .i64 ↑un)
   replace H := Mem.set 3 H rfl (8) (.string s)
   simp only [List.set_cons_zero, List.set_cons_succ, List.setIfInBounds_toArray] at H
   replace H := H.drew
   rw [hw3] at H ⊢
   clear hw3
   obtain ⟨rolt, ro0, rof0⟩ := H.c1 2 rfl
   obtain ⟨rrlt, rr0, rrf0, rr1, rrf1, rr2, rrf2, rr3, rrf3, rr4, rrf4, rr5, rrf5, rr6, rrf6, rr7, rrf7, rr8, rrf8⟩ := H.c9 3 rfl
   have ne_ro_rr := H.ne 2 3 rfl rfl (by decide)
   have ne_rr_ro := H.ne 3 2 rfl rfl (by decide)
   refine bodyPost_ret (v := .tuple #[.slice A3 wl.length c3, .agg #[.slice A2 lq.length c2], .agg #[.int .i64 ↑vme, .int .i64 ↑id, .int .i64 (te' : Int), .int .i64 ↑de, .int .i64 ↑fe, .int .i64 ↑pr, .int .i64 ↑ch, .int .i64 ↑un, .string s], .int .i64 ↑E]) (by simp [results, Tryz.results16, go_sem, ro0, rr0, rr1, rr2, rr3, rr4, rr5, rr6, rr7, rr8]; done) rfl ?_
   exact ⟨A3, c3, A2, c2, rfl, H.ownb 6 rfl, H.ownb 7 rfl, H.below⟩
end Go.Proofs.YtpcgpnkmjjamhaaGreat
namespace Go.Proofs.YtpcgpnkmjjamhaaGreat
open Go.RowKit
set_option linter.unusedVariables false
set_option maxRecDepth 100000 in
set_option maxHeartbeats 16000000 in
theorem vsell4_ok (T : Tm) (hT : T.Ok) (At : Option Addr) (nt ct : Nat) (cv : Value) (c : List Nat) (L : List Ev) (B : List Cu) (me i d : Nat) (Ao : Option Addr) (no co : Nat) (lp : List Pr) (E me2 rev2 next2 month2 bought2 : Nat) (free2 : Int) (l2 : List (Nat × Nat)) (id te de fe pr ch un : Nat) (w : World)
   (hvt : IsDs w (.slice At nt ct) T.tl) (hc : IsWs w cv c) (hS : Srv T c L B) (hme : me ≤ 49) (hp : place B me = some i) (hL : L.length < 120) (hf : (L.length + 1) * 14 ≤ c.length) (hps : IsPs w (.slice Ao no co) lp) (hlp : OOk lp) (h5 : lp.length < 500) (hd : d ≤ 65535)
   (hW : ∀ (W : World) (Ad : Option Addr) (cd : Nat), Below w.heap.size w W → IsDs W (.slice Ad (B.getD i cu0).a.l.length cd) (B.getD i cu0).a.l → Calls Tryz.prog 56 #[.agg #[.int .i64 ((B.getD i cu0).a.me : Int), .int .i64 ((B.getD i cu0).a.rev : Int), .int .i64 ((B.getD i cu0).a.next : Int), .int .i64 ((B.getD i cu0).a.month : Int), .int .i64 ((B.getD i cu0).a.bought : Int), .int .i64 (B.getD i cu0).a.free, .slice Ad (B.getD i cu0).a.l.length cd]] W (RetDI E me2 rev2 next2 month2 bought2 free2 l2 id te de fe pr ch un W))
   (hz : E = 0 → TkOk 2 id rev2 0 ∧ ∀ t, t ≤ 65535 → (Ev.mk 4 me 0 id te de fe pr ch un t 0 0).ok) :
   Calls Tryz.prog 53 #[.agg #[.slice At nt ct, .int .i64 ↑T.fx, .int .i64 ↑T.fb, .int .i64 ↑T.db, .int .i64 ↑T.al], cv, .agg #[.slice Ao no co], .int .i64 ↑d, .agg #[.int .i64 4, .int .i64 ↑me, .int .i64 0, .int .i64 0, .int .i64 0, .int .i64 0, .int .i64 0, .int .i64 0, .int .i64 0, .int .i64 0, .int .i64 0, .int .i64 0, .int .i64 0, .int .i64 2, .func (.func 56) #[] #[]]] w (RetVSell E 4 me 0 id te de fe pr ch un 2 rev2 (B.getD i cu0).a.rev d lp c L w) := by
 obtain ⟨hi, hime⟩ := place_some hp
 clear hime
 have hBk := runE_bok hT L [] B 0 (bok_nil T) (by omega) hS.ok hS.run
 have hgd : B.getD i cu0 = B[i] := by simp [hi]
 have hao := (hBk.h1 B[i] (List.getElem_mem hi)).1
 rw [hgd] at hW ⊢
 have hO := fun W h1 h2 => vopen_ok T hT At nt ct cv c L B W h1 h2 hS
 unfold RetShop at hO
 have hK := fun g x0 x1 x2 x3 x4 x5 v W hv hs hw => vkeep_ok g x0 x1 x2 x3 x4 x5 cv c L v W hs hw hS.tape hS.h2 hL hv hf
 unfold RetWrOwn at hK
 obtain ⟨Ac, nc, cc, rfl⟩ : ∃ Ac nc cc, cv = .slice Ac nc cc := by obtain ⟨X, y, h, _⟩ := hc; exact ⟨X, _, y, h⟩
 have HI := Lib.hid (And.intro hi hp)
 have hat := fun W A n c (h : IsBk W (.slice A n c) B) => h.at_ hi
 generalize B[i] = cu at hao hat hW ⊢
 obtain ⟨⟨ame, rev, next, month, bought, free, l⟩, s⟩ := cu
 dsimp only at hao hat hW ⊢
 have hrev : rev ≤ 15 := hao.h1.h2
 have HB := Lib.hid (And.intro hrev (And.intro hme (And.intro hlp (And.intro h5 hd))))
 clear hS hL hf hgd hBk hi hao hp hrev
 have H := Mem.init w
 obtain ⟨W0, hW0⟩ : ∃ W0, ((((w).alloc (.cells #[.slice At nt ct, .int .i64 ↑T.fx, .int .i64 ↑T.fb, .int .i64 ↑T.db, .int .i64 ↑T.al] 28)).alloc (.cells #[.slice Ao no co] 32)).alloc (.cells #[.int .i64 4, .int .i64 ↑me, .int .i64 0, .int .i64 0, .int .i64 0, .int .i64 0, .int .i64 0, .int .i64 0, .int .i64 0, .int .i64 0, .int .i64 0, .int .i64 0, .int .i64 0, .int .i64 2, .func (.func 56) #[] #[]] 153)).alloc (.cells #[.slice none 0 0, .slice none 0 0, .int .i64 0, .int .i64 0, .int .i64 0, .int .i64 0, .int .i64 0, .int .i64 0, .int .i64 0, .int .i64 0, .string ⟨#[]⟩] 146) = W0 := ⟨_, rfl⟩
 replace H := Mem.alloc H (w.heap.size) (by first | (simp; done) | (simp; omega)) #[.slice At nt ct, .int .i64 ↑T.fx, .int .i64 ↑T.fb, .int .i64 ↑T.db, .int .i64 ↑T.al] 28
 replace H := Mem.alloc H (w.heap.size + 1) (by first | (simp; done) | (simp; omega)) #[.slice Ao no co] 32
 replace H := Mem.alloc H (w.heap.size + 1 + 1) (by first | (simp; done) | (simp; omega)) #[.int .i64 4, .int .i64 ↑me, .int .i64 0, .int .i64 0, .int .i64 0, .int .i64 0, .int .i64 0, .int .i64 0, .int .i64 0, .int .i64 0, .int .i64 0, .int .i64 0, .int .i64 0, .int .i64 2, .func (.func 56) #[] #[]] 153
 replace H := Mem.alloc H (w.heap.size + 1 + 1 + 1) (by first | (simp; done) | (simp; omega)) #[.slice none 0 0, .slice none 0 0, .int .i64 0, .int .i64 0, .int .i64 0, .int .i64 0, .int .i64 0, .int .i64 0, .int .i64 0, .int .i64 0, .string ⟨#[]⟩] 146
 simp only [List.nil_append, List.cons_append] at H
 rw [hW0] at H
 have hvt0 := hvt.below H.below
 have hc0 := hc.below H.below
 obtain ⟨ttlt, tt0, ttf0, tt1, ttf1, tt2, ttf2, tt3, ttf3, tt4, ttf4⟩ := H.c5 0 rfl
 go_enter Tryz.func53, Tryz.ntmps53
 go_wp2_with fail
 refine (hO _ hvt0 hc0).mono ?_
 rintro e w1 ⟨g, u, rfl, HK, hbk⟩
 obtain ⟨Ab, nb, cb, rfl⟩ := hbk.slice
 have hbw := HK.below
 obtain ⟨b, off, Ad, cd, As, cs, rfl, hbl, hds, hss, p0, p1, p2, p3, p4, p5, p6, p7⟩ := hat w1 Ab nb cb hbk.is
 clear p7 hss
 have hc1 := hc0.below hbw
 replace H : Mem (w) [] (w1) [.blk (w.heap.size) 28 #[.slice At nt ct, .int .i64 ↑T.fx, .int .i64 ↑T.fb, .int .i64 ↑T.db, .int .i64 ↑T.al], .blk (w.heap.size + 1) 32 #[.slice Ao no co], .blk (w.heap.size + 1 + 1) 153 #[.int .i64 4, .int .i64 ↑me, .int .i64 0, .int .i64 0, .int .i64 0, .int .i64 0, .int .i64 0, .int .i64 0, .int .i64 0, .int .i64 0, .int .i64 0, .int .i64 0, .int .i64 0, .int .i64 2, .func (.func 56) #[] #[]], .blk (w.heap.size + 1 + 1 + 1) 146 #[.slice none 0 0, .slice none 0 0, .int .i64 0, .int .i64 0, .int .i64 0, .int .i64 0, .int .i64 0, .int .i64 0, .int .i64 0, .int .i64 0, .string ⟨#[]⟩], .blk (g) 103 #[.slice (some ⟨b, off, none⟩) nb cb, .slice At nt ct, .int .i64 ↑T.fx, .int .i64 ↑T.fb, .int .i64 ↑T.db, .int .i64 ↑T.al, .slice Ac nc cc, .int .i64 ↑L.length]] := Mem.join H HK
 clear hO hvt0 hc0 hW0 HK hbw
 clear ttlt tt0 ttf0 tt1 ttf1 tt2 ttf2 tt3 ttf3 tt4 ttf4
 obtain ⟨odlt, od0, odf0, od1, odf1, od2, odf2, od3, odf3, od4, odf4, od5, odf5, od6, odf6, od7, odf7, od8, odf8, od9, odf9, od10, odf10, od11, odf11, od12, odf12, od13, odf13, od14, odf14⟩ := H.c15 2 rfl
 go_wp2_with fail
 refine (customer_some g b off nb cb i me _ _ _ _ _ _ _ B _ (H.blk 4 rfl) hbk.is HI.out.2).mono ?_
 rintro e w2 ⟨rfl, hb2⟩
 obtain ⟨o, ho⟩ : ∃ o, off + i * 8 = o := ⟨_, rfl⟩
 rw [ho] at p0 p1 p2 p3 p4 p5 p6 ⊢
 have q0 := (hb2.cell (p := ⟨b, o, none⟩) hbl).trans p0
 have q1 := (hb2.cell (p := ⟨b, o + 1, none⟩) hbl).trans p1
 have q2 := (hb2.cell (p := ⟨b, o + 2, none⟩) hbl).trans p2
 have q3 := (hb2.cell (p := ⟨b, o + 3, none⟩) hbl).trans p3
 have q4 := (hb2.cell (p := ⟨b, o + 4, none⟩) hbl).trans p4
 have q5 := (hb2.cell (p := ⟨b, o + 5, none⟩) hbl).trans p5
 have q6 := (hb2.cell (p := ⟨b, o + 6, none⟩) hbl).trans p6
 have hbl2 := Nat.lt_of_lt_of_le hbl hb2.size
 have hds2 := hds.below hb2
 have hc2 := hc1.below hb2
 replace H := Mem.call H hb2
 have hbww := H.below
 have hWk := fun W h h2 => hW W Ad cd (hbww.trans (Below.mono h hbww.size)) h2
 unfold RetDI at hWk
 clear ho p0 p1 p2 p3 p4 p5 p6 hc1 hb2 hbl hbk hds hW hbww
 clear odlt od0 odf0 od1 odf1 od2 odf2 od3 odf3 od4 odf4 od5 odf5 od6 odf6 od7 odf7 od8 odf8 od9 odf9 od10 odf10 od11 odf11 od12 odf12 od13 odf13 od14 odf14
 obtain ⟨odlt, od0, odf0, od1, odf1, od2, odf2, od3, odf3, od4, odf4, od5, odf5, od6, odf6, od7, odf7, od8, odf8, od9, odf9, od10, odf10, od11, odf11, od12, odf12, od13, odf13, od14, odf14⟩ := H.c15 2 rfl
 go_upto_region 7 with fail
 obtain ⟨LL, hLL⟩ : ∃ LL : List Chunk, [.blk (w.heap.size) 28 #[.slice At nt ct, .int .i64 ↑T.fx, .int .i64 ↑T.fb, .int .i64 ↑T.db, .int .i64 ↑T.al], .blk (w.heap.size + 1) 32 #[.slice Ao no co], .blk (w.heap.size + 1 + 1) 153 #[.int .i64 4, .int .i64 ↑me, .int .i64 0, .int .i64 0, .int .i64 0, .int .i64 0, .int .i64 0, .int .i64 0, .int .i64 0, .int .i64 0, .int .i64 0, .int .i64 0, .int .i64 0, .int .i64 2, .func (.func 56) #[] #[]], .blk (w.heap.size + 1 + 1 + 1) 146 #[.slice none 0 0, .slice none 0 0, .int .i64 0, .int .i64 0, .int .i64 0, .int .i64 0, .int .i64 0, .int .i64 0, .int .i64 0, .int .i64 0, .string ⟨#[]⟩], .blk (g) 103 #[.slice (some ⟨b, off, none⟩) nb cb, .slice At nt ct, .int .i64 ↑T.fx, .int .i64 ↑T.fb, .int .i64 ↑T.db, .int .i64 ↑T.al, .slice Ac nc cc, .int .i64 ↑L.length]] = LL := ⟨_, rfl⟩
 rw [hLL] at H
 go_cut [15, 16, 13] (fun p0 p1 p2 wx => ∃ (na bi : Nat) (A2 : Option Addr) (d2 : Nat) (base : Nat), p0 = .pointer (some ⟨na, 0, none⟩) ∧ p1 = .pointer (some ⟨bi, 0, none⟩) ∧ p2 = .int .i64 ↑E ∧ Mem (w) [] wx (LL ++ (.blk na 58 #[.int .i64 ↑me2, .int .i64 ↑rev2, .int .i64 ↑next2, .int .i64 ↑month2, .int .i64 ↑bought2, .int .i64 free2, .slice A2 l2.length d2] :: .blk bi 42 #[.int .i64 ↑id, .int .i64 ↑te, .int .i64 ↑de, .int .i64 ↑fe, .int .i64 ↑pr, .int .i64 ↑ch, .int .i64 ↑un] :: [.row (base) (44) (2) (.slice A2 l2.length d2) (l2.length) (drs l2)])) ∧ Below w2.heap.size w2 wx)
 case first =>
   have nz0a : w2.heap.size ≠ w.heap.size + 1 + 1 := by have := odlt; omega
   have nz0b : w2.heap.size + 1 ≠ w.heap.size + 1 + 1 := by have := odlt; omega
   have nz0c : w.heap.size + 1 + 1 ≠ w2.heap.size := by have := odlt; omega
   have nz0d : w.heap.size + 1 + 1 ≠ w2.heap.size + 1 := by have := odlt; omega
   have nz1a : w2.heap.size ≠ b := by have := hbl2; omega
   have nz1b : w2.heap.size + 1 ≠ b := by have := hbl2; omega
   have nz1c : b ≠ w2.heap.size := by have := hbl2; omega
   have nz1d : b ≠ w2.heap.size + 1 := by have := hbl2; omega
   have nz0e : w2.heap.size ≠ w.heap.size + 1 := by have := odlt; omega
   have nz0f : w.heap.size + 1 ≠ w2.heap.size := by have := odlt; omega
   have V0 : Mem w2 [] (w2).drew [] := (Mem.init w2).drew
   have B0 := V0.below
   have V1 : Mem w2 [] (w2.alloc (.cells #[.int .i64 0, .int .i64 0, .int .i64 0, .int .i64 0, .int .i64 0, .int .i64 0, .slice none 0 0] 58)).drew [.blk (w2.heap.size) 58 #[.int .i64 0, .int .i64 0, .int .i64 0, .int .i64 0, .int .i64 0, .int .i64 0, .slice none 0 0]] := ((Mem.init w2).alloc _ rfl #[.int .i64 0, .int .i64 0, .int .i64 0, .int .i64 0, .int .i64 0, .int .i64 0, .slice none 0 0] 58).drew
   have B1 := V1.below
   have V1b0 := V1.blk 0 rfl
   have V2 : Mem w2 [] (w2.alloc (.cells #[.int .i64 0, .int .i64 0, .int .i64 0, .int .i64 0, .int .i64 0, .int .i64 0, .int .i64 0] 42)).drew [.blk (w2.heap.size) 42 #[.int .i64 0, .int .i64 0, .int .i64 0, .int .i64 0, .int .i64 0, .int .i64 0, .int .i64 0]] := ((Mem.init w2).alloc _ rfl #[.int .i64 0, .int .i64 0, .int .i64 0, .int .i64 0, .int .i64 0, .int .i64 0, .int .i64 0] 42).drew
   have B2 := V2.below
   have V2b1 := V2.blk 0 rfl
   have V3 : Mem w2 [] ((w2.alloc (.cells #[.int .i64 0, .int .i64 0, .int .i64 0, .int .i64 0, .int .i64 0, .int .i64 0, .slice none 0 0] 58)).alloc (.cells #[.int .i64 0, .int .i64 0, .int .i64 0, .int .i64 0, .int .i64 0, .int .i64 0, .int .i64 0] 42)).drew [.blk (w2.heap.size) 58 #[.int .i64 0, .int .i64 0, .int .i64 0, .int .i64 0, .int .i64 0, .int .i64 0, .slice none 0 0], .blk (w2.heap.size + 1) 42 #[.int .i64 0, .int .i64 0, .int .i64 0, .int .i64 0, .int .i64 0, .int .i64 0, .int .i64 0]] := (((Mem.init w2).alloc _ rfl #[.int .i64 0, .int .i64 0, .int .i64 0, .int .i64 0, .int .i64 0, .int .i64 0, .slice none 0 0] 58).alloc (w2.heap.size + 1) (by simp) #[.int .i64 0, .int .i64 0, .int .i64 0, .int .i64 0, .int .i64 0, .int .i64 0, .int .i64 0] 42).drew
   have B3 := V3.below
   have V3b0 := V3.blk 0 rfl
   have V3b1 := V3.blk 1 rfl
   have V4 : Mem w2 [] ((w2.alloc (.cells #[.int .i64 0, .int .i64 0, .int .i64 0, .int .i64 0, .int .i64 0, .int .i64 0, .int .i64 0] 42)).alloc (.cells #[.int .i64 0, .int .i64 0, .int .i64 0, .int .i64 0, .int .i64 0, .int .i64 0, .slice none 0 0] 58)).drew [.blk (w2.heap.size + 1) 58 #[.int .i64 0, .int .i64 0, .int .i64 0, .int .i64 0, .int .i64 0, .int .i64 0, .slice none 0 0], .blk (w2.heap.size) 42 #[.int .i64 0, .int .i64 0, .int .i64 0, .int .i64 0, .int .i64 0, .int .i64 0, .int .i64 0]] := Mem.perm (List.Perm.swap _ _ _) (((Mem.init w2).alloc _ rfl #[.int .i64 0, .int .i64 0, .int .i64 0, .int .i64 0, .int .i64 0, .int .i64 0, .int .i64 0] 42).alloc (w2.heap.size + 1) (by simp) #[.int .i64 0, .int .i64 0, .int .i64 0, .int .i64 0, .int .i64 0, .int .i64 0, .slice none 0 0] 58).drew
   have B4 := V4.below
   have V4b0 := V4.blk 0 rfl
   have V4b1 := V4.blk 1 rfl
   go_region_held3 (fun w' => w'.cell? ⟨w.heap.size + 1 + 1, 14, none⟩ = some (.func (.func 56) #[] #[]) ∧ w'.cell? ⟨b, o, none⟩ = some (.int .i64 ↑ame) ∧ w'.cell? ⟨b, o + 1, none⟩ = some (.int .i64 ↑rev) ∧ w'.cell? ⟨b, o + 2, none⟩ = some (.int .i64 ↑next) ∧ w'.cell? ⟨b, o + 3, none⟩ = some (.int .i64 ↑month) ∧ w'.cell? ⟨b, o + 4, none⟩ = some (.int .i64 ↑bought) ∧ w'.cell? ⟨b, o + 5, none⟩ = some (.int .i64 free) ∧ w'.cell? ⟨b, o + 6, none⟩ = some (.slice Ad l.length cd)) (first | with_reducible exact ⟨s0, s1, s2, s3, s4, s5, s6, s7⟩ | go_keep | fail) (first | (go_at_call 56; (with_reducible refine (hWk (w2).drew B0 (hds2.below B0)).mono ?_); rintro e we ⟨A2, d2, rfl, hown, hbe⟩; have hV := V0; obtain ⟨bse, hK⟩ : ∃ bse : Nat, Mem (w2).drew [] we [.row (bse) (44) (2) (.slice A2 l2.length d2) (l2.length) (drs l2)] := ⟨_, Mem.row (Mem.init _) hbe hown (Nat.le_refl _)⟩; have hWe : Below w2.heap.size w2 we := B0.trans (hbe.mono B0.size); have s0 := (hWe.cell (p := ⟨w.heap.size + 1 + 1, 14, none⟩) odlt).trans od14; have s1 := (hWe.cell (p := ⟨b, o, none⟩) hbl2).trans q0; have s2 := (hWe.cell (p := ⟨b, o + 1, none⟩) hbl2).trans q1; have s3 := (hWe.cell (p := ⟨b, o + 2, none⟩) hbl2).trans q2; have s4 := (hWe.cell (p := ⟨b, o + 3, none⟩) hbl2).trans q3; have s5 := (hWe.cell (p := ⟨b, o + 4, none⟩) hbl2).trans q4; have s6 := (hWe.cell (p := ⟨b, o + 5, none⟩) hbl2).trans q5; have s7 := (hWe.cell (p := ⟨b, o + 6, none⟩) hbl2).trans q6; have sz := hWe.size; have ez0c : we.heap.size ≠ w.heap.size + 1 := (by have := odlt; omega); have ez0a : we.heap.size ≠ w.heap.size + 1 + 1 := (by have := odlt; omega); have ez0b : we.heap.size + 1 ≠ w.heap.size + 1 + 1 := (by have := odlt; omega); have ez1a : we.heap.size ≠ b := (by have := hbl2; omega); have ez1b : we.heap.size + 1 ≠ b := (by have := hbl2; omega)) | (go_at_call 56; (with_reducible refine (hWk (w2.alloc (.cells #[.int .i64 0, .int .i64 0, .int .i64 0, .int .i64 0, .int .i64 0, .int .i64 0, .slice none 0 0] 58)).drew B1 (hds2.below B1)).mono ?_); rintro e we ⟨A2, d2, rfl, hown, hbe⟩; have hV := V1; obtain ⟨bse, hK⟩ : ∃ bse : Nat, Mem (w2.alloc (.cells #[.int .i64 0, .int .i64 0, .int .i64 0, .int .i64 0, .int .i64 0, .int .i64 0, .slice none 0 0] 58)).drew [] we [.row (bse) (44) (2) (.slice A2 l2.length d2) (l2.length) (drs l2)] := ⟨_, Mem.row (Mem.init _) hbe hown (Nat.le_refl _)⟩; have hWe : Below w2.heap.size w2 we := B1.trans (hbe.mono B1.size); have s0 := (hWe.cell (p := ⟨w.heap.size + 1 + 1, 14, none⟩) odlt).trans od14; have s1 := (hWe.cell (p := ⟨b, o, none⟩) hbl2).trans q0; have s2 := (hWe.cell (p := ⟨b, o + 1, none⟩) hbl2).trans q1; have s3 := (hWe.cell (p := ⟨b, o + 2, none⟩) hbl2).trans q2; have s4 := (hWe.cell (p := ⟨b, o + 3, none⟩) hbl2).trans q3; have s5 := (hWe.cell (p := ⟨b, o + 4, none⟩) hbl2).trans q4; have s6 := (hWe.cell (p := ⟨b, o + 5, none⟩) hbl2).trans q5; have s7 := (hWe.cell (p := ⟨b, o + 6, none⟩) hbl2).trans q6; have sz := hWe.size; have ez0c : we.heap.size ≠ w.heap.size + 1 := (by have := odlt; omega); have ez0a : we.heap.size ≠ w.heap.size + 1 + 1 := (by have := odlt; omega); have ez0b : we.heap.size + 1 ≠ w.heap.size + 1 + 1 := (by have := odlt; omega); have ez1a : we.heap.size ≠ b := (by have := hbl2; omega); have ez1b : we.heap.size + 1 ≠ b := (by have := hbl2; omega); have zb0 := Blk.below V1b0 hbe V1b0.lt; have zb0_0 := zb0.cell 0; have zb0f0 := zb0.frozen 0; have zb0_1 := zb0.cell 1; have zb0f1 := zb0.frozen 1; have zb0_2 := zb0.cell 2; have zb0f2 := zb0.frozen 2; have zb0_3 := zb0.cell 3; have zb0f3 := zb0.frozen 3; have zb0_4 := zb0.cell 4; have zb0f4 := zb0.frozen 4; have zb0_5 := zb0.cell 5; have zb0f5 := zb0.frozen 5; have zb0_6 := zb0.cell 6; have zb0f6 := zb0.frozen 6; have zb0lt : w2.heap.size < we.heap.size := zb0.lt) | (go_at_call 56; (with_reducible refine (hWk (w2.alloc (.cells #[.int .i64 0, .int .i64 0, .int .i64 0, .int .i64 0, .int .i64 0, .int .i64 0, .int .i64 0] 42)).drew B2 (hds2.below B2)).mono ?_); rintro e we ⟨A2, d2, rfl, hown, hbe⟩; have hV := V2; obtain ⟨bse, hK⟩ : ∃ bse : Nat, Mem (w2.alloc (.cells #[.int .i64 0, .int .i64 0, .int .i64 0, .int .i64 0, .int .i64 0, .int .i64 0, .int .i64 0] 42)).drew [] we [.row (bse) (44) (2) (.slice A2 l2.length d2) (l2.length) (drs l2)] := ⟨_, Mem.row (Mem.init _) hbe hown (Nat.le_refl _)⟩; have hWe : Below w2.heap.size w2 we := B2.trans (hbe.mono B2.size); have s0 := (hWe.cell (p := ⟨w.heap.size + 1 + 1, 14, none⟩) odlt).trans od14; have s1 := (hWe.cell (p := ⟨b, o, none⟩) hbl2).trans q0; have s2 := (hWe.cell (p := ⟨b, o + 1, none⟩) hbl2).trans q1; have s3 := (hWe.cell (p := ⟨b, o + 2, none⟩) hbl2).trans q2; have s4 := (hWe.cell (p := ⟨b, o + 3, none⟩) hbl2).trans q3; have s5 := (hWe.cell (p := ⟨b, o + 4, none⟩) hbl2).trans q4; have s6 := (hWe.cell (p := ⟨b, o + 5, none⟩) hbl2).trans q5; have s7 := (hWe.cell (p := ⟨b, o + 6, none⟩) hbl2).trans q6; have sz := hWe.size; have ez0c : we.heap.size ≠ w.heap.size + 1 := (by have := odlt; omega); have ez0a : we.heap.size ≠ w.heap.size + 1 + 1 := (by have := odlt; omega); have ez0b : we.heap.size + 1 ≠ w.heap.size + 1 + 1 := (by have := odlt; omega); have ez1a : we.heap.size ≠ b := (by have := hbl2; omega); have ez1b : we.heap.size + 1 ≠ b := (by have := hbl2; omega); have zb1 := Blk.below V2b1 hbe V2b1.lt; have zb1_0 := zb1.cell 0; have zb1f0 := zb1.frozen 0; have zb1_1 := zb1.cell 1; have zb1f1 := zb1.frozen 1; have zb1_2 := zb1.cell 2; have zb1f2 := zb1.frozen 2; have zb1_3 := zb1.cell 3; have zb1f3 := zb1.frozen 3; have zb1_4 := zb1.cell 4; have zb1f4 := zb1.frozen 4; have zb1_5 := zb1.cell 5; have zb1f5 := zb1.frozen 5; have zb1_6 := zb1.cell 6; have zb1f6 := zb1.frozen 6; have zb1lt : w2.heap.size < we.heap.size := zb1.lt) | (go_at_call 56; (with_reducible refine (hWk ((w2.alloc (.cells #[.int .i64 0, .int .i64 0, .int .i64 0, .int .i64 0, .int .i64 0, .int .i64 0, .slice none 0 0] 58)).alloc (.cells #[.int .i64 0, .int .i64 0, .int .i64 0, .int .i64 0, .int .i64 0, .int .i64 0, .int .i64 0] 42)).drew B3 (hds2.below B3)).mono ?_); rintro e we ⟨A2, d2, rfl, hown, hbe⟩; have hV := V3; obtain ⟨bse, hK⟩ : ∃ bse : Nat, Mem ((w2.alloc (.cells #[.int .i64 0, .int .i64 0, .int .i64 0, .int .i64 0, .int .i64 0, .int .i64 0, .slice none 0 0] 58)).alloc (.cells #[.int .i64 0, .int .i64 0, .int .i64 0, .int .i64 0, .int .i64 0, .int .i64 0, .int .i64 0] 42)).drew [] we [.row (bse) (44) (2) (.slice A2 l2.length d2) (l2.length) (drs l2)] := ⟨_, Mem.row (Mem.init _) hbe hown (Nat.le_refl _)⟩; have hWe : Below w2.heap.size w2 we := B3.trans (hbe.mono B3.size); have s0 := (hWe.cell (p := ⟨w.heap.size + 1 + 1, 14, none⟩) odlt).trans od14; have s1 := (hWe.cell (p := ⟨b, o, none⟩) hbl2).trans q0; have s2 := (hWe.cell (p := ⟨b, o + 1, none⟩) hbl2).trans q1; have s3 := (hWe.cell (p := ⟨b, o + 2, none⟩) hbl2).trans q2; have s4 := (hWe.cell (p := ⟨b, o + 3, none⟩) hbl2).trans q3; have s5 := (hWe.cell (p := ⟨b, o + 4, none⟩) hbl2).trans q4; have s6 := (hWe.cell (p := ⟨b, o + 5, none⟩) hbl2).trans q5; have s7 := (hWe.cell (p := ⟨b, o + 6, none⟩) hbl2).trans q6; have sz := hWe.size; have ez0c : we.heap.size ≠ w.heap.size + 1 := (by have := odlt; omega); have ez0a : we.heap.size ≠ w.heap.size + 1 + 1 := (by have := odlt; omega); have ez0b : we.heap.size + 1 ≠ w.heap.size + 1 + 1 := (by have := odlt; omega); have ez1a : we.heap.size ≠ b := (by have := hbl2; omega); have ez1b : we.heap.size + 1 ≠ b := (by have := hbl2; omega); have zb0 := Blk.below V3b0 hbe V3b0.lt; have zb0_0 := zb0.cell 0; have zb0f0 := zb0.frozen 0; have zb0_1 := zb0.cell 1; have zb0f1 := zb0.frozen 1; have zb0_2 := zb0.cell 2; have zb0f2 := zb0.frozen 2; have zb0_3 := zb0.cell 3; have zb0f3 := zb0.frozen 3; have zb0_4 := zb0.cell 4; have zb0f4 := zb0.frozen 4; have zb0_5 := zb0.cell 5; have zb0f5 := zb0.frozen 5; have zb0_6 := zb0.cell 6; have zb0f6 := zb0.frozen 6; have zb0lt : w2.heap.size < we.heap.size := zb0.lt; have zb1 := Blk.below V3b1 hbe V3b1.lt; have zb1_0 := zb1.cell 0; have zb1f0 := zb1.frozen 0; have zb1_1 := zb1.cell 1; have zb1f1 := zb1.frozen 1; have zb1_2 := zb1.cell 2; have zb1f2 := zb1.frozen 2; have zb1_3 := zb1.cell 3; have zb1f3 := zb1.frozen 3; have zb1_4 := zb1.cell 4; have zb1f4 := zb1.frozen 4; have zb1_5 := zb1.cell 5; have zb1f5 := zb1.frozen 5; have zb1_6 := zb1.cell 6; have zb1f6 := zb1.frozen 6; have zb1lt : w2.heap.size + 1 < we.heap.size := zb1.lt; have zn1 : w2.heap.size ≠ w2.heap.size + 1 := (by omega); have zn2 : w2.heap.size + 1 ≠ w2.heap.size := (by omega)) | (go_at_call 56; (with_reducible refine (hWk ((w2.alloc (.cells #[.int .i64 0, .int .i64 0, .int .i64 0, .int .i64 0, .int .i64 0, .int .i64 0, .int .i64 0] 42)).alloc (.cells #[.int .i64 0, .int .i64 0, .int .i64 0, .int .i64 0, .int .i64 0, .int .i64 0, .slice none 0 0] 58)).drew B4 (hds2.below B4)).mono ?_); rintro e we ⟨A2, d2, rfl, hown, hbe⟩; have hV := V4; obtain ⟨bse, hK⟩ : ∃ bse : Nat, Mem ((w2.alloc (.cells #[.int .i64 0, .int .i64 0, .int .i64 0, .int .i64 0, .int .i64 0, .int .i64 0, .int .i64 0] 42)).alloc (.cells #[.int .i64 0, .int .i64 0, .int .i64 0, .int .i64 0, .int .i64 0, .int .i64 0, .slice none 0 0] 58)).drew [] we [.row (bse) (44) (2) (.slice A2 l2.length d2) (l2.length) (drs l2)] := ⟨_, Mem.row (Mem.init _) hbe hown (Nat.le_refl _)⟩; have hWe : Below w2.heap.size w2 we := B4.trans (hbe.mono B4.size); have s0 := (hWe.cell (p := ⟨w.heap.size + 1 + 1, 14, none⟩) odlt).trans od14; have s1 := (hWe.cell (p := ⟨b, o, none⟩) hbl2).trans q0; have s2 := (hWe.cell (p := ⟨b, o + 1, none⟩) hbl2).trans q1; have s3 := (hWe.cell (p := ⟨b, o + 2, none⟩) hbl2).trans q2; have s4 := (hWe.cell (p := ⟨b, o + 3, none⟩) hbl2).trans q3; have s5 := (hWe.cell (p := ⟨b, o + 4, none⟩) hbl2).trans q4; have s6 := (hWe.cell (p := ⟨b, o + 5, none⟩) hbl2).trans q5; have s7 := (hWe.cell (p := ⟨b, o + 6, none⟩) hbl2).trans q6; have sz := hWe.size; have ez0c : we.heap.size ≠ w.heap.size + 1 := (by have := odlt; omega); have ez0a : we.heap.size ≠ w.heap.size + 1 + 1 := (by have := odlt; omega); have ez0b : we.heap.size + 1 ≠ w.heap.size + 1 + 1 := (by have := odlt; omega); have ez1a : we.heap.size ≠ b := (by have := hbl2; omega); have ez1b : we.heap.size + 1 ≠ b := (by have := hbl2; omega); have zb0 := Blk.below V4b0 hbe V4b0.lt; have zb0_0 := zb0.cell 0; have zb0f0 := zb0.frozen 0; have zb0_1 := zb0.cell 1; have zb0f1 := zb0.frozen 1; have zb0_2 := zb0.cell 2; have zb0f2 := zb0.frozen 2; have zb0_3 := zb0.cell 3; have zb0f3 := zb0.frozen 3; have zb0_4 := zb0.cell 4; have zb0f4 := zb0.frozen 4; have zb0_5 := zb0.cell 5; have zb0f5 := zb0.frozen 5; have zb0_6 := zb0.cell 6; have zb0f6 := zb0.frozen 6; have zb0lt : w2.heap.size + 1 < we.heap.size := zb0.lt; have zb1 := Blk.below V4b1 hbe V4b1.lt; have zb1_0 := zb1.cell 0; have zb1f0 := zb1.frozen 0; have zb1_1 := zb1.cell 1; have zb1f1 := zb1.frozen 1; have zb1_2 := zb1.cell 2; have zb1f2 := zb1.frozen 2; have zb1_3 := zb1.cell 3; have zb1f3 := zb1.frozen 3; have zb1_4 := zb1.cell 4; have zb1f4 := zb1.frozen 4; have zb1_5 := zb1.cell 5; have zb1f5 := zb1.frozen 5; have zb1_6 := zb1.cell 6; have zb1f6 := zb1.frozen 6; have zb1lt : w2.heap.size < we.heap.size := zb1.lt; have zn1 : w2.heap.size + 1 ≠ w2.heap.size := (by omega); have zn2 : w2.heap.size ≠ w2.heap.size + 1 := (by omega)))
   all_goals
     go_wp2_with fail
     go_meet
     refine ⟨_, _, A2, d2, bse, rfl, rfl, rfl, ?_⟩
     first
     | with_reducible exact ⟨cr2_a H hV hK, (cr2_a (Mem.init w2) hV hK).below⟩
     | with_reducible exact ⟨cr2_b H hV hK, (cr2_b (Mem.init w2) hV hK).below⟩
     | (have h := cr2_c (c1 := #[.int .i64 ↑me2, .int .i64 ↑rev2, .int .i64 ↑next2, .int .i64 ↑month2, .int .i64 ↑bought2, .int .i64 free2, .slice A2 l2.length d2]) (c2 := #[.int .i64 ↑id, .int .i64 ↑te, .int .i64 ↑de, .int .i64 ↑fe, .int .i64 ↑pr, .int .i64 ↑ch, .int .i64 ↑un]) (t1 := 58) (t2 := 42) H hV hK [(0, .int .i64 ↑me2), (1, .int .i64 ↑rev2), (2, .int .i64 ↑next2), (3, .int .i64 ↑month2), (4, .int .i64 ↑bought2), (5, .int .i64 free2), (6, .slice A2 l2.length d2)] (by simp only [List.foldl_cons, List.foldl_nil, List.setIfInBounds_toArray, List.set_cons_zero, List.set_cons_succ])
        have h2 := (cr2_c (c1 := #[.int .i64 ↑me2, .int .i64 ↑rev2, .int .i64 ↑next2, .int .i64 ↑month2, .int .i64 ↑bought2, .int .i64 free2, .slice A2 l2.length d2]) (c2 := #[.int .i64 ↑id, .int .i64 ↑te, .int .i64 ↑de, .int .i64 ↑fe, .int .i64 ↑pr, .int .i64 ↑ch, .int .i64 ↑un]) (t1 := 58) (t2 := 42) (Mem.init w2) hV hK [(0, .int .i64 ↑me2), (1, .int .i64 ↑rev2), (2, .int .i64 ↑next2), (3, .int .i64 ↑month2), (4, .int .i64 ↑bought2), (5, .int .i64 free2), (6, .slice A2 l2.length d2)] (by simp only [List.foldl_cons, List.foldl_nil, List.setIfInBounds_toArray, List.set_cons_zero, List.set_cons_succ])).below
        simp only [sets, List.foldl_cons, List.foldl_nil] at h h2
        with_reducible exact ⟨h, h2⟩)
     | (have h := cr2_d (c1 := #[.int .i64 ↑me2, .int .i64 ↑rev2, .int .i64 ↑next2, .int .i64 ↑month2, .int .i64 ↑bought2, .int .i64 free2, .slice A2 l2.length d2]) (c2 := #[.int .i64 ↑id, .int .i64 ↑te, .int .i64 ↑de, .int .i64 ↑fe, .int .i64 ↑pr, .int .i64 ↑ch, .int .i64 ↑un]) (t1 := 58) (t2 := 42) H hV hK [(0, .int .i64 ↑id), (1, .int .i64 ↑te), (2, .int .i64 ↑de), (3, .int .i64 ↑fe), (4, .int .i64 ↑pr), (5, .int .i64 ↑ch), (6, .int .i64 ↑un)] (by simp only [List.foldl_cons, List.foldl_nil, List.setIfInBounds_toArray, List.set_cons_zero, List.set_cons_succ])
        have h2 := (cr2_d (c1 := #[.int .i64 ↑me2, .int .i64 ↑rev2, .int .i64 ↑next2, .int .i64 ↑month2, .int .i64 ↑bought2, .int .i64 free2, .slice A2 l2.length d2]) (c2 := #[.int .i64 ↑id, .int .i64 ↑te, .int .i64 ↑de, .int .i64 ↑fe, .int .i64 ↑pr, .int .i64 ↑ch, .int .i64 ↑un]) (t1 := 58) (t2 := 42) (Mem.init w2) hV hK [(0, .int .i64 ↑id), (1, .int .i64 ↑te), (2, .int .i64 ↑de), (3, .int .i64 ↑fe), (4, .int .i64 ↑pr), (5, .int .i64 ↑ch), (6, .int .i64 ↑un)] (by simp only [List.foldl_cons, List.foldl_nil, List.setIfInBounds_toArray, List.set_cons_zero, List.set_cons_succ])).below
        simp only [sets, List.foldl_cons, List.foldl_nil] at h h2
        with_reducible exact ⟨h, h2⟩)
     | (have h := cr2_e (c1 := #[.int .i64 ↑me2, .int .i64 ↑rev2, .int .i64 ↑next2, .int .i64 ↑month2, .int .i64 ↑bought2, .int .i64 free2, .slice A2 l2.length d2]) (c2 := #[.int .i64 ↑id, .int .i64 ↑te, .int .i64 ↑de, .int .i64 ↑fe, .int .i64 ↑pr, .int .i64 ↑ch, .int .i64 ↑un]) (t1 := 58) (t2 := 42) H hV hK [(0, .int .i64 ↑me2), (1, .int .i64 ↑rev2), (2, .int .i64 ↑next2), (3, .int .i64 ↑month2), (4, .int .i64 ↑bought2), (5, .int .i64 free2), (6, .slice A2 l2.length d2)] [(0, .int .i64 ↑id), (1, .int .i64 ↑te), (2, .int .i64 ↑de), (3, .int .i64 ↑fe), (4, .int .i64 ↑pr), (5, .int .i64 ↑ch), (6, .int .i64 ↑un)] (by simp only [List.foldl_cons, List.foldl_nil, List.setIfInBounds_toArray, List.set_cons_zero, List.set_cons_succ]) (by simp only [List.foldl_cons, List.foldl_nil, List.setIfInBounds_toArray, List.set_cons_zero, List.set_cons_succ])
        have h2 := (cr2_e (c1 := #[.int .i64 ↑me2, .int .i64 ↑rev2, .int .i64 ↑next2, .int .i64 ↑month2, .int .i64 ↑bought2, .int .i64 free2, .slice A2 l2.length d2]) (c2 := #[.int .i64 ↑id, .int .i64 ↑te, .int .i64 ↑de, .int .i64 ↑fe, .int .i64 ↑pr, .int .i64 ↑ch, .int .i64 ↑un]) (t1 := 58) (t2 := 42) (Mem.init w2) hV hK [(0, .int .i64 ↑me2), (1, .int .i64 ↑rev2), (2, .int .i64 ↑next2), (3, .int .i64 ↑month2), (4, .int .i64 ↑bought2), (5, .int .i64 free2), (6, .slice A2 l2.length d2)] [(0, .int .i64 ↑id), (1, .int .i64 ↑te), (2, .int .i64 ↑de), (3, .int .i64 ↑fe), (4, .int .i64 ↑pr), (5, .int .i64 ↑ch), (6, .int .i64 ↑un)] (by simp only [List.foldl_cons, List.foldl_nil, List.setIfInBounds_toArray, List.set_cons_zero, List.set_cons_succ]) (by simp only [List.foldl_cons, List.foldl_nil, List.setIfInBounds_toArray, List.set_cons_zero, List.set_cons_succ])).below
        simp only [sets, List.foldl_cons, List.foldl_nil] at h h2
        with_reducible exact ⟨h, h2⟩)
     | (have h := cr2_f (c1 := #[.int .i64 ↑me2, .int .i64 ↑rev2, .int .i64 ↑next2, .int .i64 ↑month2, .int .i64 ↑bought2, .int .i64 free2, .slice A2 l2.length d2]) (c2 := #[.int .i64 ↑id, .int .i64 ↑te, .int .i64 ↑de, .int .i64 ↑fe, .int .i64 ↑pr, .int .i64 ↑ch, .int .i64 ↑un]) (t1 := 58) (t2 := 42) H hV hK [(0, .int .i64 ↑me2), (1, .int .i64 ↑rev2), (2, .int .i64 ↑next2), (3, .int .i64 ↑month2), (4, .int .i64 ↑bought2), (5, .int .i64 free2), (6, .slice A2 l2.length d2)] [(0, .int .i64 ↑id), (1, .int .i64 ↑te), (2, .int .i64 ↑de), (3, .int .i64 ↑fe), (4, .int .i64 ↑pr), (5, .int .i64 ↑ch), (6, .int .i64 ↑un)] (by simp only [List.foldl_cons, List.foldl_nil, List.setIfInBounds_toArray, List.set_cons_zero, List.set_cons_succ]) (by simp only [List.foldl_cons, List.foldl_nil, List.setIfInBounds_toArray, List.set_cons_zero, List.set_cons_succ])
        have h2 := (cr2_f (c1 := #[.int .i64 ↑me2, .int .i64 ↑rev2, .int .i64 ↑next2, .int .i64 ↑month2, .int .i64 ↑bought2, .int .i64 free2, .slice A2 l2.length d2]) (c2 := #[.int .i64 ↑id, .int .i64 ↑te, .int .i64 ↑de, .int .i64 ↑fe, .int .i64 ↑pr, .int .i64 ↑ch, .int .i64 ↑un]) (t1 := 58) (t2 := 42) (Mem.init w2) hV hK [(0, .int .i64 ↑me2), (1, .int .i64 ↑rev2), (2, .int .i64 ↑next2), (3, .int .i64 ↑month2), (4, .int .i64 ↑bought2), (5, .int .i64 free2), (6, .slice A2 l2.length d2)] [(0, .int .i64 ↑id), (1, .int .i64 ↑te), (2, .int .i64 ↑de), (3, .int .i64 ↑fe), (4, .int .i64 ↑pr), (5, .int .i64 ↑ch), (6, .int .i64 ↑un)] (by simp only [List.foldl_cons, List.foldl_nil, List.setIfInBounds_toArray, List.set_cons_zero, List.set_cons_succ]) (by simp only [List.foldl_cons, List.foldl_nil, List.setIfInBounds_toArray, List.set_cons_zero, List.set_cons_succ])).below
        simp only [sets, List.foldl_cons, List.foldl_nil] at h h2
        with_reducible exact ⟨h, h2⟩)
 case rest =>
   obtain ⟨na, bi, A2, d2, base, rfl, rfl, rfl, H, hCR⟩ := hcut
   subst hLL
   replace H : Mem (w) [] (wc) [.blk (w.heap.size) 28 #[.slice At nt ct, .int .i64 ↑T.fx, .int .i64 ↑T.fb, .int .i64 ↑T.db, .int .i64 ↑T.al], .blk (w.heap.size + 1) 32 #[.slice Ao no co], .blk (w.heap.size + 1 + 1) 153 #[.int .i64 4, .int .i64 ↑me, .int .i64 0, .int .i64 0, .int .i64 0, .int .i64 0, .int .i64 0, .int .i64 0, .int .i64 0, .int .i64 0, .int .i64 0, .int .i64 0, .int .i64 0, .int .i64 2, .func (.func 56) #[] #[]], .blk (w.heap.size + 1 + 1 + 1) 146 #[.slice none 0 0, .slice none 0 0, .int .i64 0, .int .i64 0, .int .i64 0, .int .i64 0, .int .i64 0, .int .i64 0, .int .i64 0, .int .i64 0, .string ⟨#[]⟩], .blk (g) 103 #[.slice (some ⟨b, off, none⟩) nb cb, .slice At nt ct, .int .i64 ↑T.fx, .int .i64 ↑T.fb, .int .i64 ↑T.db, .int .i64 ↑T.al, .slice Ac nc cc, .int .i64 ↑L.length], .blk (na) 58 #[.int .i64 ↑me2, .int .i64 ↑rev2, .int .i64 ↑next2, .int .i64 ↑month2, .int .i64 ↑bought2, .int .i64 free2, .slice A2 l2.length d2], .blk (bi) 42 #[.int .i64 ↑id, .int .i64 ↑te, .int .i64 ↑de, .int .i64 ↑fe, .int .i64 ↑pr, .int .i64 ↑ch, .int .i64 ↑un], .row (base) (44) (2) (.slice A2 l2.length d2) (l2.length) (drs l2)] := H
   obtain ⟨wk, hwk⟩ : ∃ wk, wk = wc := ⟨_, rfl⟩
   subst hwk

   have hc3 := hc2.below (Below.mono hCR (Nat.le_refl _))
   have q1c := (hCR.cell (p := ⟨b, o + 1, none⟩) hbl2).trans q1
   have hbl3 := Nat.lt_of_lt_of_le hbl2 hCR.size
   clear q0 q1 q2 q3 q4 q5 q6 hbl2 hds2 hWk hc2 hCR
   by_cases hE : E = 0
   rotate_left
   · have hEb : ((E : Int) == 0) = false := by simp; omega
     have hEn : ¬ (E : Int) = 0 := by omega
     clear hK q1c

     clear odlt od0 odf0 od1 odf1 od2 odf2 od3 odf3 od4 odf4 od5 odf5 od6 odf6 od7 odf7 od8 odf8 od9 odf9 od10 odf10 od11 odf11 od12 odf12 od13 odf13 od14 odf14
     obtain ⟨rslt, rs0, rsf0, rs1, rsf1, rs2, rsf2, rs3, rsf3, rs4, rsf4, rs5, rsf5, rs6, rsf6, rs7, rsf7, rs8, rsf8, rs9, rsf9, rs10, rsf10⟩ := H.c11 3 rfl
     go_wp2
     obtain ⟨wz, hwz⟩ : ∃ wz, (((((((((((wk).setCell ⟨w.heap.size + 1 + 1 + 1, 0, none⟩ (.slice none 0 0)).setCell ⟨w.heap.size + 1 + 1 + 1, 1, none⟩ (.slice none 0 0)).setCell ⟨w.heap.size + 1 + 1 + 1, 2, none⟩ (.int .i64 0)).setCell ⟨w.heap.size + 1 + 1 + 1, 3, none⟩ (.int .i64 0)).setCell ⟨w.heap.size + 1 + 1 + 1, 4, none⟩ (.int .i64 0)).setCell ⟨w.heap.size + 1 + 1 + 1, 5, none⟩ (.int .i64 0)).setCell ⟨w.heap.size + 1 + 1 + 1, 6, none⟩ (.int .i64 0)).setCell ⟨w.heap.size + 1 + 1 + 1, 7, none⟩ (.int .i64 0)).setCell ⟨w.heap.size + 1 + 1 + 1, 8, none⟩ (.int .i64 0)).setCell ⟨w.heap.size + 1 + 1 + 1, 9, none⟩ (.int .i64 0)).setCell ⟨w.heap.size + 1 + 1 + 1, 10, none⟩ (.string ⟨#[]⟩) = wz := ⟨_, rfl⟩
     replace H := Mem.set 3 H rfl (0) (.slice none 0 0)
     replace H := Mem.set 3 H rfl (1) (.slice none 0 0)
     replace H := Mem.set 3 H rfl (2) (.int .i64 0)
     replace H := Mem.set 3 H rfl (3) (.int .i64 0)
     replace H := Mem.set 3 H rfl (4) (.int .i64 0)
     replace H := Mem.set 3 H rfl (5) (.int .i64 0)
     replace H := Mem.set 3 H rfl (6) (.int .i64 0)
     replace H := Mem.set 3 H rfl (7) (.int .i64 0)
     replace H := Mem.set 3 H rfl (8) (.int .i64 0)
     replace H := Mem.set 3 H rfl (9) (.int .i64 0)
     replace H := Mem.set 3 H rfl (10) (.string ⟨#[]⟩)
     simp only [List.set_cons_zero, List.set_cons_succ, List.setIfInBounds_toArray] at H
     rw [hwz] at H ⊢
     clear hwz
     clear rslt rs0 rsf0 rs1 rsf1 rs2 rsf2 rs3 rsf3 rs4 rsf4 rs5 rsf5 rs6 rsf6 rs7 rsf7 rs8 rsf8 rs9 rsf9 rs10 rsf10
     obtain ⟨rslt, rs0, rsf0, rs1, rsf1, rs2, rsf2, rs3, rsf3, rs4, rsf4, rs5, rsf5, rs6, rsf6, rs7, rsf7, rs8, rsf8, rs9, rsf9, rs10, rsf10⟩ := H.c11 3 rfl
     refine bodyPost_ret (v := .tuple #[.agg #[.slice none 0 0, .slice none 0 0, .int .i64 0, .int .i64 0, .int .i64 0, .int .i64 0, .int .i64 0, .int .i64 0, .int .i64 0, .int .i64 0, .string ⟨#[]⟩], .int .i64 ↑E]) (by simp [results, Tryz.results53, go_sem, rs0, rs1, rs2, rs3, rs4, rs5, rs6, rs7, rs8, rs9, rs10]; done) rfl ?_
     exact .inr ⟨hE, rfl, H.below⟩
   · subst hE
     skip
     obtain ⟨hk0, hvo⟩ := hz rfl
     clear hz
     obtain ⟨hrev, hme, hlp, h5, hd⟩ := HB.out
     obtain ⟨body, hbody⟩ : ∃ bb, tbody 2 id rev2 = bb := ⟨_, rfl⟩
     have hB := fun W => tbody_ok 2 id rev2 0 body W hk0 (Lib.hid hbody)
     have hbl := tbody_le hk0
     rw [hbody] at hbl
     have hmk : mayK ((me : Int), (rev : Int), (body : Int)) := by unfold mayK; dsimp only; omega
     have hwf : wf3 (me : Int) (rev : Int) (body : Int) := ⟨WalkArith.wf_i64 (by omega), WalkArith.wf_i64 (by omega), WalkArith.wf_i64 (by omega)⟩
     obtain ⟨t0, t9⟩ := issT_bd (x := (me : Int)) (y := (rev : Int)) (z := (body : Int)) (d := (d : Int)) hlp (by omega) (by omega)
     obtain ⟨t2, ht2⟩ : ∃ t2 : Nat, issT lp (me : Int) (rev : Int) (body : Int) (d : Int) = (t2 : Int) := ⟨(issT lp (me : Int) (rev : Int) (body : Int) (d : Int)).toNat, by omega⟩
     rw [ht2] at t0 t9
     obtain ⟨lp2, hl2⟩ : ∃ lp2, issL lp (me : Int) (rev : Int) (body : Int) (d : Int) = lp2 := ⟨_, rfl⟩
     have hO2 := issL_ok (x := (me : Int)) (y := (rev : Int)) (z := (body : Int)) (d := (d : Int)) hlp hmk (by omega) (by omega) h5
     rw [hl2] at hO2
     have hI := fun W h => issue_ok (.slice Ao no co) lp lp2 (me : Int) (rev : Int) (body : Int) (d : Int) (t2 : Int) W h hlp hmk hwf (by omega) (by omega) h5 (Lib.hid hl2) (Lib.hid ht2)
     unfold RetIss at hI
     have ht65 : t2 ≤ 65535 := by omega
     have hk2 : TkOk 2 id rev2 t2 := ⟨hk0.h1, hk0.h2, hk0.h3, hk0.h4, ht65⟩
     have hFm := fun W => format_ok 2 id rev2 t2 W hk2
     have hKv := fun g x0 x1 x2 x3 x4 x5 W hs hw => hK g x0 x1 x2 x3 x4 x5 (Ev.mk 4 me 0 id te de fe pr ch un t2 0 0) W (hvo t2 ht65) hs hw
     have hev : evV (Ev.mk 4 me 0 id te de fe pr ch un t2 0 0) = .agg #[.int .i64 4, .int .i64 ↑me, .int .i64 0, .int .i64 ↑id, .int .i64 ↑te, .int .i64 ↑de, .int .i64 ↑fe, .int .i64 ↑pr, .int .i64 ↑ch, .int .i64 ↑un, .int .i64 ↑t2, .int .i64 0, .int .i64 0] := rfl
     rw [hev] at hKv
     obtain ⟨wl, hwl⟩ : ∃ wl, putW c.length (L.length * 14) (evW ⟨4, me, 0, id, te, de, fe, pr, ch, un, t2, 0, 0⟩) = wl := ⟨_, rfl⟩
     rw [hwl] at hKv
     have HF := Lib.hid (And.intro ht65 (And.intro hl2 (And.intro ht2 (And.intro hO2 (And.intro hwl hbody)))))
     simp only [Int.cast_ofNat_Int] at hB hFm
     obtain ⟨dg, hdg⟩ : ∃ dg, dstr (tokD 2 id rev2 t2) = dg := ⟨_, rfl⟩
     rw [hdg] at hFm
     clear hK hk0 hvo hbl hmk hwf t0 t9 ht2 hl2 hO2 ht65 hk2 hev hwl hbody
     clear odlt od0 odf0 od1 odf1 od2 odf2 od3 odf3 od4 odf4 od5 odf5 od6 odf6 od7 odf7 od8 odf8 od9 odf9 od10 odf10 od11 odf11 od12 odf12 od13 odf13 od14 odf14
     obtain ⟨odlt, od0, odf0, od1, odf1, od2, odf2, od3, odf3, od4, odf4, od5, odf5, od6, odf6, od7, odf7, od8, odf8, od9, odf9, od10, odf10, od11, odf11, od12, odf12, od13, odf13, od14, odf14⟩ := H.c15 2 rfl
     obtain ⟨bilt, bi0, bif0, bi1, bif1, bi2, bif2, bi3, bif3, bi4, bif4, bi5, bif5, bi6, bif6⟩ := H.c7 6 rfl
     obtain ⟨nalt, na0, naf0, na1, naf1, na2, naf2, na3, naf3, na4, naf4, na5, naf5, na6, naf6⟩ := H.c7 5 rfl
     have ne_od_bi := H.ne 2 6 rfl rfl (by decide)
     have ne_od_na := H.ne 2 5 rfl rfl (by decide)
     have ne_bi_od := H.ne 6 2 rfl rfl (by decide)
     have ne_bi_na := H.ne 6 5 rfl rfl (by decide)
     have ne_na_od := H.ne 5 2 rfl rfl (by decide)
     have ne_na_bi := H.ne 5 6 rfl rfl (by decide)
     go_wp2_with fail
     replace H := Mem.alloc H (wk.heap.size) (by first | (simp; done) | (simp; omega)) #[.int .i64 2, .int .i64 ↑id, .int .i64 ↑rev2, .int .i64 0] 120
     simp only [List.cons_append, List.nil_append] at H
     refine (hB _).mono ?_
     rintro e wd ⟨rfl, hbd⟩
     have hbw2 : Below wk.heap.size wk wd := (below_a1 wk _).trans (Below.mono hbd (by simp))
     have hc4 := hc3.below hbw2
     have q1d := (hbw2.cell (p := ⟨b, o + 1, none⟩) hbl3).trans q1c
     have hbl4 := Nat.lt_of_lt_of_le hbl3 hbw2.size
     replace H := Mem.call H hbd
     have hpsd := hps.below H.below
     clear hB hbd hc3 q1c hbl3 hbw2
     clear odlt od0 odf0 od1 odf1 od2 odf2 od3 odf3 od4 odf4 od5 odf5 od6 odf6 od7 odf7 od8 odf8 od9 odf9 od10 odf10 od11 odf11 od12 odf12 od13 odf13 od14 odf14 bilt bi0 bif0 bi1 bif1 bi2 bif2 bi3 bif3 bi4 bif4 bi5 bif5 bi6 bif6 nalt na0 naf0 na1 naf1 na2 naf2 na3 naf3 na4 naf4 na5 naf5 na6 naf6 ne_od_bi ne_od_na ne_bi_od ne_bi_na ne_na_od ne_na_bi
     obtain ⟨oolt, oo0, oof0⟩ := H.c1 1 rfl
     obtain ⟨odlt, od0, odf0, od1, odf1, od2, odf2, od3, odf3, od4, odf4, od5, odf5, od6, odf6, od7, odf7, od8, odf8, od9, odf9, od10, odf10, od11, odf11, od12, odf12, od13, odf13, od14, odf14⟩ := H.c15 2 rfl
     have ne_oo_od := H.ne 1 2 rfl rfl (by decide)
     have ne_od_oo := H.ne 2 1 rfl rfl (by decide)
     go_upto_region 16 with fail
     obtain ⟨LL, hLL⟩ : ∃ LL : List Chunk, [.blk (w.heap.size) 28 #[.slice At nt ct, .int .i64 ↑T.fx, .int .i64 ↑T.fb, .int .i64 ↑T.db, .int .i64 ↑T.al], .blk (w.heap.size + 1) 32 #[.slice Ao no co], .blk (w.heap.size + 1 + 1) 153 #[.int .i64 4, .int .i64 ↑me, .int .i64 0, .int .i64 0, .int .i64 0, .int .i64 0, .int .i64 0, .int .i64 0, .int .i64 0, .int .i64 0, .int .i64 0, .int .i64 0, .int .i64 0, .int .i64 2, .func (.func 56) #[] #[]], .blk (w.heap.size + 1 + 1 + 1) 146 #[.slice none 0 0, .slice none 0 0, .int .i64 0, .int .i64 0, .int .i64 0, .int .i64 0, .int .i64 0, .int .i64 0, .int .i64 0, .int .i64 0, .string ⟨#[]⟩], .blk (g) 103 #[.slice (some ⟨b, off, none⟩) nb cb, .slice At nt ct, .int .i64 ↑T.fx, .int .i64 ↑T.fb, .int .i64 ↑T.db, .int .i64 ↑T.al, .slice Ac nc cc, .int .i64 ↑L.length], .blk (na) 58 #[.int .i64 ↑me2, .int .i64 ↑rev2, .int .i64 ↑next2, .int .i64 ↑month2, .int .i64 ↑bought2, .int .i64 free2, .slice A2 l2.length d2], .blk (bi) 42 #[.int .i64 ↑id, .int .i64 ↑te, .int .i64 ↑de, .int .i64 ↑fe, .int .i64 ↑pr, .int .i64 ↑ch, .int .i64 ↑un], .row (base) (44) (2) (.slice A2 l2.length d2) (l2.length) (drs l2), .blk (wk.heap.size) 120 #[.int .i64 2, .int .i64 ↑id, .int .i64 ↑rev2, .int .i64 0]] = LL := ⟨_, rfl⟩
     rw [hLL] at H
     go_cut [19, 20, 13] (fun p0 p1 p2 wx => ∃ (no2 : Nat) (A4 : Option Addr) (c4 : Nat) (base : Nat), p0 = .pointer (some ⟨no2, 0, none⟩) ∧ p1 = .int .i64 ↑t2 ∧ p2 = .int .i64 0 ∧ Mem (w) [] wx (LL ++ (.blk no2 32 #[.slice A4 lp2.length c4] :: [.row (base) (225) (4) (.slice A4 lp2.length c4) (lp2.length) (prs lp2)])) ∧ Below wd.heap.size wd wx)
     case first =>
       have nz0a : wd.heap.size ≠ w.heap.size + 1 := by have := oolt; omega
       have nz0b : wd.heap.size + 1 ≠ w.heap.size + 1 := by have := oolt; omega
       have nz0c : w.heap.size + 1 ≠ wd.heap.size := by have := oolt; omega
       have nz0d : w.heap.size + 1 ≠ wd.heap.size + 1 := by have := oolt; omega
       have nz1a : wd.heap.size ≠ w.heap.size + 1 + 1 := by have := odlt; omega
       have nz1b : wd.heap.size + 1 ≠ w.heap.size + 1 + 1 := by have := odlt; omega
       have nz1c : w.heap.size + 1 + 1 ≠ wd.heap.size := by have := odlt; omega
       have nz1d : w.heap.size + 1 + 1 ≠ wd.heap.size + 1 := by have := odlt; omega
       have nz2a : wd.heap.size ≠ b := by have := hbl4; omega
       have nz2b : wd.heap.size + 1 ≠ b := by have := hbl4; omega
       have nz2c : b ≠ wd.heap.size := by have := hbl4; omega
       have nz2d : b ≠ wd.heap.size + 1 := by have := hbl4; omega
       have nz0e : wd.heap.size ≠ w.heap.size := by have := oolt; omega
       have nz0f : w.heap.size ≠ wd.heap.size := by have := oolt; omega
       have nz1e : wd.heap.size ≠ w.heap.size + 1 := by have := odlt; omega
       have nz1f : w.heap.size + 1 ≠ wd.heap.size := by have := odlt; omega
       have V0 : Mem wd [] (wd).drew [] := (Mem.init wd).drew
       have B0 := V0.below
       have V1 : Mem wd [] (wd.alloc (.cells #[.slice none 0 0] 32)).drew [.blk (wd.heap.size) 32 #[.slice none 0 0]] := ((Mem.init wd).alloc _ rfl #[.slice none 0 0] 32).drew
       have B1 := V1.below
       have V1b0 := V1.blk 0 rfl
       go_region_held3 (fun w' => w'.cell? ⟨w.heap.size + 1, 0, none⟩ = some (.slice Ao no co) ∧ w'.cell? ⟨w.heap.size + 1 + 1, 0, none⟩ = some (.int .i64 4) ∧ w'.cell? ⟨w.heap.size + 1 + 1, 1, none⟩ = some (.int .i64 ↑me) ∧ w'.cell? ⟨w.heap.size + 1 + 1, 2, none⟩ = some (.int .i64 0) ∧ w'.cell? ⟨w.heap.size + 1 + 1, 3, none⟩ = some (.int .i64 0) ∧ w'.cell? ⟨w.heap.size + 1 + 1, 4, none⟩ = some (.int .i64 0) ∧ w'.cell? ⟨w.heap.size + 1 + 1, 5, none⟩ = some (.int .i64 0) ∧ w'.cell? ⟨w.heap.size + 1 + 1, 6, none⟩ = some (.int .i64 0) ∧ w'.cell? ⟨w.heap.size + 1 + 1, 7, none⟩ = some (.int .i64 0) ∧ w'.cell? ⟨w.heap.size + 1 + 1, 8, none⟩ = some (.int .i64 0) ∧ w'.cell? ⟨w.heap.size + 1 + 1, 9, none⟩ = some (.int .i64 0) ∧ w'.cell? ⟨w.heap.size + 1 + 1, 10, none⟩ = some (.int .i64 0) ∧ w'.cell? ⟨w.heap.size + 1 + 1, 11, none⟩ = some (.int .i64 0) ∧ w'.cell? ⟨w.heap.size + 1 + 1, 12, none⟩ = some (.int .i64 0) ∧ w'.cell? ⟨w.heap.size + 1 + 1, 13, none⟩ = some (.int .i64 2) ∧ w'.cell? ⟨w.heap.size + 1 + 1, 14, none⟩ = some (.func (.func 56) #[] #[]) ∧ w'.cell? ⟨b, o + 1, none⟩ = some (.int .i64 ↑rev)) (first | with_reducible exact ⟨s0, s1, s2, s3, s4, s5, s6, s7, s8, s9, s10, s11, s12, s13, s14, s15, s16⟩ | go_keep | fail) (first | (go_at_call 71; (with_reducible refine (hI (wd).drew (hpsd.below B0)).mono ?_); rintro e we ⟨A4, c4, rfl, _, hown, hbe⟩; have hV := V0; obtain ⟨bse, hK⟩ : ∃ bse : Nat, Mem (wd).drew [] we [.row (bse) (225) (4) (.slice A4 lp2.length c4) (lp2.length) (prs lp2)] := ⟨_, Mem.row (Mem.init _) hbe hown (Nat.le_refl _)⟩; have hWe : Below wd.heap.size wd we := B0.trans (hbe.mono B0.size); have s0 := (hWe.cell (p := ⟨w.heap.size + 1, 0, none⟩) oolt).trans oo0; have s1 := (hWe.cell (p := ⟨w.heap.size + 1 + 1, 0, none⟩) odlt).trans od0; have s2 := (hWe.cell (p := ⟨w.heap.size + 1 + 1, 1, none⟩) odlt).trans od1; have s3 := (hWe.cell (p := ⟨w.heap.size + 1 + 1, 2, none⟩) odlt).trans od2; have s4 := (hWe.cell (p := ⟨w.heap.size + 1 + 1, 3, none⟩) odlt).trans od3; have s5 := (hWe.cell (p := ⟨w.heap.size + 1 + 1, 4, none⟩) odlt).trans od4; have s6 := (hWe.cell (p := ⟨w.heap.size + 1 + 1, 5, none⟩) odlt).trans od5; have s7 := (hWe.cell (p := ⟨w.heap.size + 1 + 1, 6, none⟩) odlt).trans od6; have s8 := (hWe.cell (p := ⟨w.heap.size + 1 + 1, 7, none⟩) odlt).trans od7; have s9 := (hWe.cell (p := ⟨w.heap.size + 1 + 1, 8, none⟩) odlt).trans od8; have s10 := (hWe.cell (p := ⟨w.heap.size + 1 + 1, 9, none⟩) odlt).trans od9; have s11 := (hWe.cell (p := ⟨w.heap.size + 1 + 1, 10, none⟩) odlt).trans od10; have s12 := (hWe.cell (p := ⟨w.heap.size + 1 + 1, 11, none⟩) odlt).trans od11; have s13 := (hWe.cell (p := ⟨w.heap.size + 1 + 1, 12, none⟩) odlt).trans od12; have s14 := (hWe.cell (p := ⟨w.heap.size + 1 + 1, 13, none⟩) odlt).trans od13; have s15 := (hWe.cell (p := ⟨w.heap.size + 1 + 1, 14, none⟩) odlt).trans od14; have s16 := (hWe.cell (p := ⟨b, o + 1, none⟩) hbl4).trans q1d; have sz := hWe.size; have ez0c : we.heap.size ≠ w.heap.size := (by have := oolt; omega); have ez0a : we.heap.size ≠ w.heap.size + 1 := (by have := oolt; omega); have ez0b : we.heap.size + 1 ≠ w.heap.size + 1 := (by have := oolt; omega); have ez1c : we.heap.size ≠ w.heap.size + 1 := (by have := odlt; omega); have ez1a : we.heap.size ≠ w.heap.size + 1 + 1 := (by have := odlt; omega); have ez1b : we.heap.size + 1 ≠ w.heap.size + 1 + 1 := (by have := odlt; omega); have ez2a : we.heap.size ≠ b := (by have := hbl4; omega); have ez2b : we.heap.size + 1 ≠ b := (by have := hbl4; omega)) | (go_at_call 71; (with_reducible refine (hI (wd.alloc (.cells #[.slice none 0 0] 32)).drew (hpsd.below B1)).mono ?_); rintro e we ⟨A4, c4, rfl, _, hown, hbe⟩; have hV := V1; obtain ⟨bse, hK⟩ : ∃ bse : Nat, Mem (wd.alloc (.cells #[.slice none 0 0] 32)).drew [] we [.row (bse) (225) (4) (.slice A4 lp2.length c4) (lp2.length) (prs lp2)] := ⟨_, Mem.row (Mem.init _) hbe hown (Nat.le_refl _)⟩; have hWe : Below wd.heap.size wd we := B1.trans (hbe.mono B1.size); have s0 := (hWe.cell (p := ⟨w.heap.size + 1, 0, none⟩) oolt).trans oo0; have s1 := (hWe.cell (p := ⟨w.heap.size + 1 + 1, 0, none⟩) odlt).trans od0; have s2 := (hWe.cell (p := ⟨w.heap.size + 1 + 1, 1, none⟩) odlt).trans od1; have s3 := (hWe.cell (p := ⟨w.heap.size + 1 + 1, 2, none⟩) odlt).trans od2; have s4 := (hWe.cell (p := ⟨w.heap.size + 1 + 1, 3, none⟩) odlt).trans od3; have s5 := (hWe.cell (p := ⟨w.heap.size + 1 + 1, 4, none⟩) odlt).trans od4; have s6 := (hWe.cell (p := ⟨w.heap.size + 1 + 1, 5, none⟩) odlt).trans od5; have s7 := (hWe.cell (p := ⟨w.heap.size + 1 + 1, 6, none⟩) odlt).trans od6; have s8 := (hWe.cell (p := ⟨w.heap.size + 1 + 1, 7, none⟩) odlt).trans od7; have s9 := (hWe.cell (p := ⟨w.heap.size + 1 + 1, 8, none⟩) odlt).trans od8; have s10 := (hWe.cell (p := ⟨w.heap.size + 1 + 1, 9, none⟩) odlt).trans od9; have s11 := (hWe.cell (p := ⟨w.heap.size + 1 + 1, 10, none⟩) odlt).trans od10; have s12 := (hWe.cell (p := ⟨w.heap.size + 1 + 1, 11, none⟩) odlt).trans od11; have s13 := (hWe.cell (p := ⟨w.heap.size + 1 + 1, 12, none⟩) odlt).trans od12; have s14 := (hWe.cell (p := ⟨w.heap.size + 1 + 1, 13, none⟩) odlt).trans od13; have s15 := (hWe.cell (p := ⟨w.heap.size + 1 + 1, 14, none⟩) odlt).trans od14; have s16 := (hWe.cell (p := ⟨b, o + 1, none⟩) hbl4).trans q1d; have sz := hWe.size; have ez0c : we.heap.size ≠ w.heap.size := (by have := oolt; omega); have ez0a : we.heap.size ≠ w.heap.size + 1 := (by have := oolt; omega); have ez0b : we.heap.size + 1 ≠ w.heap.size + 1 := (by have := oolt; omega); have ez1c : we.heap.size ≠ w.heap.size + 1 := (by have := odlt; omega); have ez1a : we.heap.size ≠ w.heap.size + 1 + 1 := (by have := odlt; omega); have ez1b : we.heap.size + 1 ≠ w.heap.size + 1 + 1 := (by have := odlt; omega); have ez2a : we.heap.size ≠ b := (by have := hbl4; omega); have ez2b : we.heap.size + 1 ≠ b := (by have := hbl4; omega); have zb0 := Blk.below V1b0 hbe V1b0.lt; have zb0_0 := zb0.cell 0; have zb0f0 := zb0.frozen 0; have zb0lt : wd.heap.size < we.heap.size := zb0.lt))
       all_goals
         go_wp2_with fail
         go_meet
         refine ⟨_, A4, c4, bse, rfl, rfl, rfl, ?_⟩
         first
         | with_reducible exact ⟨cr1_a H hV hK, (cr1_a (Mem.init wd) hV hK).below⟩
         | (have h := cr1_b (c := #[.slice A4 lp2.length c4]) H hV hK [(0, .slice A4 lp2.length c4)] (by simp only [List.foldl_cons, List.foldl_nil, List.setIfInBounds_toArray, List.set_cons_zero])
            have h2 := (cr1_b (c := #[.slice A4 lp2.length c4]) (Mem.init wd) hV hK [(0, .slice A4 lp2.length c4)] (by simp only [List.foldl_cons, List.foldl_nil, List.setIfInBounds_toArray, List.set_cons_zero])).below
            simp only [sets, List.foldl_cons, List.foldl_nil] at h h2
            with_reducible exact ⟨h, h2⟩)
     case rest =>
       obtain ⟨no2, A4, c4, base2, rfl, rfl, rfl, H, hCR2⟩ := hcut
       subst hLL
       replace H : Mem (w) [] (wc) [.blk (w.heap.size) 28 #[.slice At nt ct, .int .i64 ↑T.fx, .int .i64 ↑T.fb, .int .i64 ↑T.db, .int .i64 ↑T.al], .blk (w.heap.size + 1) 32 #[.slice Ao no co], .blk (w.heap.size + 1 + 1) 153 #[.int .i64 4, .int .i64 ↑me, .int .i64 0, .int .i64 0, .int .i64 0, .int .i64 0, .int .i64 0, .int .i64 0, .int .i64 0, .int .i64 0, .int .i64 0, .int .i64 0, .int .i64 0, .int .i64 2, .func (.func 56) #[] #[]], .blk (w.heap.size + 1 + 1 + 1) 146 #[.slice none 0 0, .slice none 0 0, .int .i64 0, .int .i64 0, .int .i64 0, .int .i64 0, .int .i64 0, .int .i64 0, .int .i64 0, .int .i64 0, .string ⟨#[]⟩], .blk (g) 103 #[.slice (some ⟨b, off, none⟩) nb cb, .slice At nt ct, .int .i64 ↑T.fx, .int .i64 ↑T.fb, .int .i64 ↑T.db, .int .i64 ↑T.al, .slice Ac nc cc, .int .i64 ↑L.length], .blk (na) 58 #[.int .i64 ↑me2, .int .i64 ↑rev2, .int .i64 ↑next2, .int .i64 ↑month2, .int .i64 ↑bought2, .int .i64 free2, .slice A2 l2.length d2], .blk (bi) 42 #[.int .i64 ↑id, .int .i64 ↑te, .int .i64 ↑de, .int .i64 ↑fe, .int .i64 ↑pr, .int .i64 ↑ch, .int .i64 ↑un], .row (base) (44) (2) (.slice A2 l2.length d2) (l2.length) (drs l2), .blk (wk.heap.size) 120 #[.int .i64 2, .int .i64 ↑id, .int .i64 ↑rev2, .int .i64 0], .blk (no2) 32 #[.slice A4 lp2.length c4], .row (base2) (225) (4) (.slice A4 lp2.length c4) (lp2.length) (prs lp2)] := H
       have hc5 := hc4.below hCR2
       clear hI hpsd hc4 q1d hbl4 hCR2
       clear oolt oo0 oof0 odlt od0 odf0 od1 odf1 od2 odf2 od3 odf3 od4 odf4 od5 odf5 od6 odf6 od7 odf7 od8 odf8 od9 odf9 od10 odf10 od11 odf11 od12 odf12 od13 odf13 od14 odf14 ne_oo_od ne_od_oo
       obtain ⟨odlt, od0, odf0, od1, odf1, od2, odf2, od3, odf3, od4, odf4, od5, odf5, od6, odf6, od7, odf7, od8, odf8, od9, odf9, od10, odf10, od11, odf11, od12, odf12, od13, odf13, od14, odf14⟩ := H.c15 2 rfl
       obtain ⟨bilt, bi0, bif0, bi1, bif1, bi2, bif2, bi3, bif3, bi4, bif4, bi5, bif5, bi6, bif6⟩ := H.c7 6 rfl
       obtain ⟨tklt, tk0, tkf0, tk1, tkf1, tk2, tkf2, tk3, tkf3⟩ := H.c4 8 rfl
       have ne_od_bi := H.ne 2 6 rfl rfl (by decide)
       have ne_od_tk := H.ne 2 8 rfl rfl (by decide)
       have ne_bi_od := H.ne 6 2 rfl rfl (by decide)
       have ne_bi_tk := H.ne 6 8 rfl rfl (by decide)
       have ne_tk_od := H.ne 8 2 rfl rfl (by decide)
       have ne_tk_bi := H.ne 8 6 rfl rfl (by decide)
       go_wp2_with fail
       obtain ⟨Wd, hWd⟩ : ∃ Wd, (((((((((wc).setCell ⟨wk.heap.size, 3, none⟩ (.int .i64 ↑t2)).setCell ⟨w.heap.size + 1 + 1, 3, none⟩ (.int .i64 ↑id)).setCell ⟨w.heap.size + 1 + 1, 4, none⟩ (.int .i64 ↑te)).setCell ⟨w.heap.size + 1 + 1, 5, none⟩ (.int .i64 ↑de)).setCell ⟨w.heap.size + 1 + 1, 6, none⟩ (.int .i64 ↑fe)).setCell ⟨w.heap.size + 1 + 1, 7, none⟩ (.int .i64 ↑pr)).setCell ⟨w.heap.size + 1 + 1, 8, none⟩ (.int .i64 ↑ch)).setCell ⟨w.heap.size + 1 + 1, 9, none⟩ (.int .i64 ↑un)).setCell ⟨w.heap.size + 1 + 1, 10, none⟩ (.int .i64 ↑t2) = Wd := ⟨_, rfl⟩
       replace H := Mem.set 8 H rfl (3) (.int .i64 ↑t2)
       replace H := Mem.set 2 H rfl (3) (.int .i64 ↑id)
       replace H := Mem.set 2 H rfl (4) (.int .i64 ↑te)
       replace H := Mem.set 2 H rfl (5) (.int .i64 ↑de)
       replace H := Mem.set 2 H rfl (6) (.int .i64 ↑fe)
       replace H := Mem.set 2 H rfl (7) (.int .i64 ↑pr)
       replace H := Mem.set 2 H rfl (8) (.int .i64 ↑ch)
       replace H := Mem.set 2 H rfl (9) (.int .i64 ↑un)
       replace H := Mem.set 2 H rfl (10) (.int .i64 ↑t2)
       simp only [List.set_cons_zero, List.set_cons_succ, List.setIfInBounds_toArray] at H
       rw [hWd] at H ⊢
       clear hWd
       refine (hKv g _ _ _ _ _ _ _ (H.blk 4 rfl) (hc.below H.below)).mono ?_
       rintro e wf ⟨A5, c5, rfl, hp2, hown, hbf⟩
       replace H : Mem (w) [] (wf) [.blk (w.heap.size) 28 #[.slice At nt ct, .int .i64 ↑T.fx, .int .i64 ↑T.fb, .int .i64 ↑T.db, .int .i64 ↑T.al], .blk (w.heap.size + 1) 32 #[.slice Ao no co], .blk (w.heap.size + 1 + 1) 153 #[.int .i64 4, .int .i64 ↑me, .int .i64 0, .int .i64 ↑id, .int .i64 ↑te, .int .i64 ↑de, .int .i64 ↑fe, .int .i64 ↑pr, .int .i64 ↑ch, .int .i64 ↑un, .int .i64 ↑t2, .int .i64 0, .int .i64 0, .int .i64 2, .func (.func 56) #[] #[]], .blk (w.heap.size + 1 + 1 + 1) 146 #[.slice none 0 0, .slice none 0 0, .int .i64 0, .int .i64 0, .int .i64 0, .int .i64 0, .int .i64 0, .int .i64 0, .int .i64 0, .int .i64 0, .string ⟨#[]⟩], .blk (g) 103 #[.slice (some ⟨b, off, none⟩) nb cb, .slice At nt ct, .int .i64 ↑T.fx, .int .i64 ↑T.fb, .int .i64 ↑T.db, .int .i64 ↑T.al, .slice Ac nc cc, .int .i64 ↑L.length], .blk (na) 58 #[.int .i64 ↑me2, .int .i64 ↑rev2, .int .i64 ↑next2, .int .i64 ↑month2, .int .i64 ↑bought2, .int .i64 free2, .slice A2 l2.length d2], .blk (bi) 42 #[.int .i64 ↑id, .int .i64 ↑te, .int .i64 ↑de, .int .i64 ↑fe, .int .i64 ↑pr, .int .i64 ↑ch, .int .i64 ↑un], .row (base) (44) (2) (.slice A2 l2.length d2) (l2.length) (drs l2), .blk (wk.heap.size) 120 #[.int .i64 2, .int .i64 ↑id, .int .i64 ↑rev2, .int .i64 ↑t2], .blk (no2) 32 #[.slice A4 lp2.length c4], .row (base2) (225) (4) (.slice A4 lp2.length c4) (lp2.length) (prs lp2), .row (Wd.heap.size) (113) (2) (.slice A5 wl.length c5) (wl.length) (wrs wl)] := Mem.row H hbf hown (Nat.le_refl _)
       clear hKv hc5 hp2 hown hbf
       clear odlt od0 odf0 od1 odf1 od2 odf2 od3 odf3 od4 odf4 od5 odf5 od6 odf6 od7 odf7 od8 odf8 od9 odf9 od10 odf10 od11 odf11 od12 odf12 od13 odf13 od14 odf14 bilt bi0 bif0 bi1 bif1 bi2 bif2 bi3 bif3 bi4 bif4 bi5 bif5 bi6 bif6 tklt tk0 tkf0 tk1 tkf1 tk2 tkf2 tk3 tkf3 ne_od_bi ne_od_tk ne_bi_od ne_bi_tk ne_tk_od ne_tk_bi
       obtain ⟨tklt, tk0, tkf0, tk1, tkf1, tk2, tkf2, tk3, tkf3⟩ := H.c4 8 rfl
       go_wp2_with fail
       refine (hFm _).mono ?_
       rintro e wg ⟨rfl, hbg⟩
       replace H := Mem.call H hbg
       clear hFm hbg
       clear tklt tk0 tkf0 tk1 tkf1 tk2 tkf2 tk3 tkf3
       obtain ⟨odlt, od0, odf0, od1, odf1, od2, odf2, od3, odf3, od4, odf4, od5, odf5, od6, odf6, od7, odf7, od8, odf8, od9, odf9, od10, odf10, od11, odf11, od12, odf12, od13, odf13, od14, odf14⟩ := H.c15 2 rfl
       obtain ⟨bilt, bi0, bif0, bi1, bif1, bi2, bif2, bi3, bif3, bi4, bif4, bi5, bif5, bi6, bif6⟩ := H.c7 6 rfl
       obtain ⟨no2lt, no20, no2f0⟩ := H.c1 9 rfl
       obtain ⟨rslt, rs0, rsf0, rs1, rsf1, rs2, rsf2, rs3, rsf3, rs4, rsf4, rs5, rsf5, rs6, rsf6, rs7, rsf7, rs8, rsf8, rs9, rsf9, rs10, rsf10⟩ := H.c11 3 rfl
       have ne_od_bi := H.ne 2 6 rfl rfl (by decide)
       have ne_od_no2 := H.ne 2 9 rfl rfl (by decide)
       have ne_od_rs := H.ne 2 3 rfl rfl (by decide)
       have ne_bi_od := H.ne 6 2 rfl rfl (by decide)
       have ne_bi_no2 := H.ne 6 9 rfl rfl (by decide)
       have ne_bi_rs := H.ne 6 3 rfl rfl (by decide)
       have ne_no2_od := H.ne 9 2 rfl rfl (by decide)
       have ne_no2_bi := H.ne 9 6 rfl rfl (by decide)
       have ne_no2_rs := H.ne 9 3 rfl rfl (by decide)
       have ne_rs_od := H.ne 3 2 rfl rfl (by decide)
       have ne_rs_bi := H.ne 3 6 rfl rfl (by decide)
       have ne_rs_no2 := H.ne 3 9 rfl rfl (by decide)
       go_wp2
       obtain ⟨wz, hwz⟩ : ∃ wz, (((((((((((wg).setCell ⟨w.heap.size + 1 + 1 + 1, 0, none⟩ (.slice A5 wl.length c5)).setCell ⟨w.heap.size + 1 + 1 + 1, 1, none⟩ (.slice A4 lp2.length c4)).setCell ⟨w.heap.size + 1 + 1 + 1, 2, none⟩ (.int .i64 ↑me)).setCell ⟨w.heap.size + 1 + 1 + 1, 3, none⟩ (.int .i64 ↑id)).setCell ⟨w.heap.size + 1 + 1 + 1, 4, none⟩ (.int .i64 ↑te)).setCell ⟨w.heap.size + 1 + 1 + 1, 5, none⟩ (.int .i64 ↑de)).setCell ⟨w.heap.size + 1 + 1 + 1, 6, none⟩ (.int .i64 ↑fe)).setCell ⟨w.heap.size + 1 + 1 + 1, 7, none⟩ (.int .i64 ↑pr)).setCell ⟨w.heap.size + 1 + 1 + 1, 8, none⟩ (.int .i64 ↑ch)).setCell ⟨w.heap.size + 1 + 1 + 1, 9, none⟩ (.int .i64 ↑un)).setCell ⟨w.heap.size + 1 + 1 + 1, 10, none⟩ (.string dg) = wz := ⟨_, rfl⟩
       replace H := Mem.set 3 H rfl (0) (.slice A5 wl.length c5)
       replace H := Mem.set 3 H rfl (1) (.slice A4 lp2.length c4)
       replace H := Mem.set 3 H rfl (2) (.int .i64 ↑me)
       replace H := Mem.set 3 H rfl (3) (.int .i64 ↑id)
       replace H := Mem.set 3 H rfl (4) (.int .i64 ↑te)
       replace H := Mem.set 3 H rfl (5) (.int .i64 ↑de)
       replace H := Mem.set 3 H rfl (6) (.int .i64 ↑fe)
       replace H := Mem.set 3 H rfl (7) (.int .i64 ↑pr)
       replace H := Mem.set 3 H rfl (8) (.int .i64 ↑ch)
       replace H := Mem.set 3 H rfl (9) (.int .i64 ↑un)
       replace H := Mem.set 3 H rfl (10) (.string dg)
       simp only [List.set_cons_zero, List.set_cons_succ, List.setIfInBounds_toArray] at H
       rw [hwz] at H ⊢
       clear hwz
       clear odlt od0 odf0 od1 odf1 od2 odf2 od3 odf3 od4 odf4 od5 odf5 od6 odf6 od7 odf7 od8 odf8 od9 odf9 od10 odf10 od11 odf11 od12 odf12 od13 odf13 od14 odf14 bilt bi0 bif0 bi1 bif1 bi2 bif2 bi3 bif3 bi4 bif4 bi5 bif5 bi6 bif6 no2lt no20 no2f0 rslt rs0 rsf0 rs1 rsf1 rs2 rsf2 rs3 rsf3 rs4 rsf4 rs5 rsf5 rs6 rsf6 rs7 rsf7 rs8 rsf8 rs9 rsf9 rs10 rsf10 ne_od_bi ne_od_no2 ne_od_rs ne_bi_od ne_bi_no2 ne_bi_rs ne_no2_od ne_no2_bi ne_no2_rs ne_rs_od ne_rs_bi ne_rs_no2
       obtain ⟨rslt, rs0, rsf0, rs1, rsf1, rs2, rsf2, rs3, rsf3, rs4, rsf4, rs5, rsf5, rs6, rsf6, rs7, rsf7, rs8, rsf8, rs9, rsf9, rs10, rsf10⟩ := H.c11 3 rfl
       refine bodyPost_ret (v := .tuple #[.agg #[.slice A5 wl.length c5, .slice A4 lp2.length c4, .int .i64 ↑me, .int .i64 ↑id, .int .i64 ↑te, .int .i64 ↑de, .int .i64 ↑fe, .int .i64 ↑pr, .int .i64 ↑ch, .int .i64 ↑un, .string dg], .int .i64 0]) (by simp [results, Tryz.results53, go_sem, rs0, rs1, rs2, rs3, rs4, rs5, rs6, rs7, rs8, rs9, rs10]; done) rfl ?_
       obtain ⟨ht65, hl2, ht2, hO2, hwl, hbody⟩ := HF.out
       refine .inl ⟨rfl, t2, lp2, A4, c4, A5, c5, ht65, by rw [hbody]; exact hl2, by rw [hbody]; exact ht2, hO2, by rw [hwl, hdg], H.ownb 10 rfl, by rw [hwl]; exact H.ownb 11 rfl, H.below⟩
end Go.Proofs.YtpcgpnkmjjamhaaGreat
namespace Go.Proofs.YtpcgpnkmjjamhaaGreat
open Go.RowKit
set_option linter.unusedVariables false
set_option maxRecDepth 100000 in
set_option maxHeartbeats 4000000 in
theorem vserve4_ok (T : Tm) (hT : T.Ok) (At : Option Addr) (nt ct : Nat) (cv : Value) (c : List Nat) (L : List Ev) (B : List Cu) (me i d : Nat) (Ao : Option Addr) (no co : Nat) (lp : List Pr) (w : World)
   (hvt : IsDs w (.slice At nt ct) T.tl) (hc : IsWs w cv c) (hS : Srv T c L B) (hme : me ≤ 49) (hp : place B me = some i) (hL : L.length < 120) (hf : (L.length + 1) * 14 ≤ c.length) (hps : IsPs w (.slice Ao no co) lp) (hlp : OOk lp) (h5 : lp.length < 500) (hd : d ≤ 65535) :
   Calls Tryz.prog 32 #[.agg #[.slice At nt ct, .int .i64 ↑T.fx, .int .i64 ↑T.fb, .int .i64 ↑T.db, .int .i64 ↑T.al], cv, .agg #[.slice Ao no co], .int .i64 ↑me, .int .i64 ↑d] w (RetServe (svP (rekeyP (B.getD i cu0).a) 4 me 0 2 (B.getD i cu0).a.rev d lp c.length L.length) w) := by
 obtain ⟨hi, hime⟩ := place_some hp
 have hBk := runE_bok hT L [] B 0 (bok_nil T) (by omega) hS.ok hS.run
 have hgd : B.getD i cu0 = B[i] := by simp [hi]
 have hao : (B.getD i cu0).a.Ok ∧ (B.getD i cu0).a.next = (B.getD i cu0).s.length + 1 := by rw [hgd]; exact hBk.h1 B[i] (List.getElem_mem hi)
 have hsl : (B.getD i cu0).s.length ≤ 1000 := by rw [hgd]; have := hBk.sold (List.getElem_mem hi); omega
 have hnx : (B.getD i cu0).a.next ≤ 1048575 := by omega
 obtain ⟨r, hr⟩ : ∃ r, rekeyP (B.getD i cu0).a = r := ⟨_, rfl⟩
 rw [hr]
 obtain ⟨Ac, nc, cc, rfl⟩ : ∃ Ac nc cc, cv = .slice Ac nc cc := by obtain ⟨X, y, h, _⟩ := hc; exact ⟨X, _, y, h⟩
 have H := Mem.init w
 obtain ⟨W0, hW0⟩ : ∃ W0, ((((w).alloc (.cells #[.slice At nt ct, .int .i64 ↑T.fx, .int .i64 ↑T.fb, .int .i64 ↑T.db, .int .i64 ↑T.al] 28)).alloc (.cells #[.slice Ao no co] 32)).alloc (.cells #[.slice none 0 0] 32)).alloc (.cells #[.int .i64 0, .int .i64 0, .int .i64 0, .int .i64 0, .int .i64 0, .int .i64 0, .int .i64 0, .int .i64 0, .string ⟨#[]⟩] 72) = W0 := ⟨_, rfl⟩
 replace H := Mem.alloc H (w.heap.size) (by first | (simp; done) | (simp; omega)) #[.slice At nt ct, .int .i64 ↑T.fx, .int .i64 ↑T.fb, .int .i64 ↑T.db, .int .i64 ↑T.al] 28
 replace H := Mem.alloc H (w.heap.size + 1) (by first | (simp; done) | (simp; omega)) #[.slice Ao no co] 32
 replace H := Mem.alloc H (w.heap.size + 1 + 1) (by first | (simp; done) | (simp; omega)) #[.slice none 0 0] 32
 replace H := Mem.alloc H (w.heap.size + 1 + 1 + 1) (by first | (simp; done) | (simp; omega)) #[.int .i64 0, .int .i64 0, .int .i64 0, .int .i64 0, .int .i64 0, .int .i64 0, .int .i64 0, .int .i64 0, .string ⟨#[]⟩] 72
 simp only [List.nil_append, List.cons_append] at H
 rw [hW0] at H
 have hvt0 := hvt.below H.below
 have hc0 := hc.below H.below
 have hps0 := hps.below H.below
 obtain ⟨ttlt, tt0, ttf0, tt1, ttf1, tt2, ttf2, tt3, ttf3, tt4, ttf4⟩ := H.c5 0 rfl
 obtain ⟨oolt, oo0, oof0⟩ := H.c1 1 rfl
 have ne_tt_oo := H.ne 0 1 rfl rfl (by decide)
 have ne_oo_tt := H.ne 1 0 rfl rfl (by decide)
 have hz : r.1 = 0 → TkOk 2 r.2.2.id r.2.1.rev 0 ∧ ∀ t, t ≤ 65535 → (Ev.mk 4 me 0 r.2.2.id r.2.2.te r.2.2.de r.2.2.fe r.2.2.pr r.2.2.ch r.2.2.un t 0 0).ok := by
   intro h0
   have h : rekeyP (B.getD i cu0).a = (0, r.2.1, r.2.2) := by rw [hr, ← h0]
   exact rekey_ev hao.1 hnx hme h
 have hWk : ∀ (W : World) (Ad : Option Addr) (cd : Nat), Below W0.heap.size W0 W → IsDs W (.slice Ad (B.getD i cu0).a.l.length cd) (B.getD i cu0).a.l → Calls Tryz.prog 56 #[.agg #[.int .i64 ((B.getD i cu0).a.me : Int), .int .i64 ((B.getD i cu0).a.rev : Int), .int .i64 ((B.getD i cu0).a.next : Int), .int .i64 ((B.getD i cu0).a.month : Int), .int .i64 ((B.getD i cu0).a.bought : Int), .int .i64 (B.getD i cu0).a.free, .slice Ad (B.getD i cu0).a.l.length cd]] W (RetDI r.1 r.2.1.me r.2.1.rev r.2.1.next r.2.1.month r.2.1.bought r.2.1.free r.2.1.l r.2.2.id r.2.2.te r.2.2.de r.2.2.fe r.2.2.pr r.2.2.ch r.2.2.un W) := by
   intro W Ad cd hbW h2
   exact rekey_all (B.getD i cu0).a.me (B.getD i cu0).a.rev (B.getD i cu0).a.next (B.getD i cu0).a.month (B.getD i cu0).a.bought (B.getD i cu0).a.free Ad (B.getD i cu0).a.l.length cd (B.getD i cu0).a.l r.1 r.2.1.me r.2.1.rev r.2.1.next r.2.1.month r.2.1.bought r.2.1.free r.2.1.l r.2.2.id r.2.2.te r.2.2.de r.2.2.fe r.2.2.pr r.2.2.ch r.2.2.un W h2 hao.1.h2 hao.1.h1 hnx (Lib.hid hr)
 have hSl := vsell4_ok T hT At nt ct (.slice Ac nc cc) c L B me i d Ao no co lp r.1 r.2.1.me r.2.1.rev r.2.1.next r.2.1.month r.2.1.bought r.2.1.free r.2.1.l r.2.2.id r.2.2.te r.2.2.de r.2.2.fe r.2.2.pr r.2.2.ch r.2.2.un W0 hvt0 hc0 hS hme hp hL hf hps0 hlp h5 hd hWk hz
 replace hSl := hSl.mono fun e w' h => retsv_of (r := r) (cls := 2) (am := r.2.1.rev) (fun _ => by unfold amP; simp) h
 obtain ⟨v, hv⟩ : ∃ v, svP r 4 me 0 2 (B.getD i cu0).a.rev d lp c.length L.length = v := ⟨_, rfl⟩
 rw [hv] at hSl ⊢
 unfold RetSv at hSl
 obtain ⟨wl, lq, vme, ⟨id, te', de, fe, pr, ch, un⟩, s, E⟩ := v
 dsimp only at hSl
 unfold RetServe
 dsimp only
 clear hWk hz hr hv hvt hc hps hS hf
 go_enter Tryz.func32, Tryz.ntmps32
 go_wp2_with fail
 refine hSl.mono ?_
 rintro e w1 ⟨A3, c3, A2, c2, rfl, ho1, ho2, hb1⟩
 replace H := Mem.call H hb1
 have hsz : W0.heap.size = w.heap.size + 1 + 1 + 1 + 1 := by rw [← hW0]; simp
 clear hSl hW0 hvt0 hc0 hps0 hb1
 clear ttlt tt0 ttf0 tt1 ttf1 tt2 ttf2 tt3 ttf3 tt4 ttf4 oolt oo0 oof0 ne_tt_oo ne_oo_tt
 go_wp2
 obtain ⟨w2, hw2⟩ : ∃ w2, (w1).alloc (.cells #[.slice A3 wl.length c3, .slice A2 lq.length c2, .int .i64 ↑vme, .int .i64 ↑id, .int .i64 (te' : Int), .int .i64 ↑de, .int .i64 ↑fe, .int .i64 ↑pr, .int .i64 ↑ch, .int .i64 ↑un, .string s] 146) = w2 := ⟨_, rfl⟩
 replace H := Mem.alloc H (w1.heap.size) (by first | (simp; done) | (simp; omega)) #[.slice A3 wl.length c3, .slice A2 lq.length c2, .int .i64 ↑vme, .int .i64 ↑id, .int .i64 (te' : Int), .int .i64 ↑de, .int .i64 ↑fe, .int .i64 ↑pr, .int .i64 ↑ch, .int .i64 ↑un, .string s] 146
 simp only [List.cons_append, List.nil_append] at H
 rw [hw2] at H ⊢
 have hq1 := own_kept ho1 (World.grownBy_alloc w1 (.cells #[.slice A3 wl.length c3, .slice A2 lq.length c2, .int .i64 ↑vme, .int .i64 ↑id, .int .i64 (te' : Int), .int .i64 ↑de, .int .i64 ↑fe, .int .i64 ↑pr, .int .i64 ↑ch, .int .i64 ↑un, .string s] 146) none) (by simp)
 have hq2 := own_kept ho2 (World.grownBy_alloc w1 (.cells #[.slice A3 wl.length c3, .slice A2 lq.length c2, .int .i64 ↑vme, .int .i64 ↑id, .int .i64 (te' : Int), .int .i64 ↑de, .int .i64 ↑fe, .int .i64 ↑pr, .int .i64 ↑ch, .int .i64 ↑un, .string s] 146) none) (by simp)
 rw [hw2] at hq1 hq2
 clear hw2 ho1 ho2
 obtain ⟨svlt, sv0, svf0, sv1, svf1, sv2, svf2, sv3, svf3, sv4, svf4, sv5, svf5, sv6, svf6, sv7, svf7, sv8, svf8, sv9, svf9, sv10, svf10⟩ := H.c11 4 rfl
 obtain ⟨rolt, ro0, rof0⟩ := H.c1 2 rfl
 obtain ⟨rrlt, rr0, rrf0, rr1, rrf1, rr2, rrf2, rr3, rrf3, rr4, rrf4, rr5, rrf5, rr6, rrf6, rr7, rrf7, rr8, rrf8⟩ := H.c9 3 rfl
 have ne_sv_ro := H.ne 4 2 rfl rfl (by decide)
 have ne_sv_rr := H.ne 4 3 rfl rfl (by decide)
 have ne_ro_sv := H.ne 2 4 rfl rfl (by decide)
 have ne_ro_rr := H.ne 2 3 rfl rfl (by decide)
 have ne_rr_sv := H.ne 3 4 rfl rfl (by decide)
 have ne_rr_ro := H.ne 3 2 rfl rfl (by decide)
 go_region
 go_wp2
 clear svlt sv0 svf0 sv1 svf1 sv2 svf2 sv3 svf3 sv4 svf4 sv5 svf5 sv6 svf6 sv7 svf7 sv8 svf8 sv9 svf9 sv10 svf10 rolt ro0 rof0 rrlt rr0 rrf0 rr1 rrf1 rr2 rrf2 rr3 rrf3 rr4 rrf4 rr5 rrf5 rr6 rrf6 rr7 rrf7 rr8 rrf8 ne_sv_ro ne_sv_rr ne_ro_sv ne_ro_rr ne_rr_sv ne_rr_ro
 obtain ⟨w3, hw3⟩ : ∃ w3, (((((((((((w2).setCell ⟨w.heap.size + 1 + 1, 0, none⟩ (.slice A2 lq.length c2)).setCell ⟨w.heap.size + 1 + 1 + 1, 0, none⟩ (.int .i64 ↑vme)).setCell ⟨w.heap.size + 1 + 1 + 1, 1, none⟩ (.int .i64 ↑id)).setCell ⟨w.heap.size + 1 + 1 + 1, 2, none⟩ (.int .i64 (te' : Int))).setCell ⟨w.heap.size + 1 + 1 + 1, 3, none⟩ (.int .i64 ↑de)).setCell ⟨w.heap.size + 1 + 1 + 1, 4, none⟩ (.int .i64 ↑fe)).setCell ⟨w.heap.size + 1 + 1 + 1, 5, none⟩ (.int .i64 ↑pr)).setCell ⟨w.heap.size + 1 + 1 + 1, 6, none⟩ (.int .i64 ↑ch)).setCell ⟨w.heap.size + 1 + 1 + 1, 7, none⟩ (.int .i64 ↑un)).setCell ⟨w.heap.size + 1 + 1 + 1, 8, none⟩ (.string s)).drew = w3 := ⟨_, rfl⟩
 replace H := Mem.set 2 H rfl (0) (.slice A2 lq.length c2)
 replace H := Mem.set 3 H rfl (0) (.int .i64 ↑vme)
 replace H := Mem.set 3 H rfl (1) (.int .i64 ↑id)
 replace H := Mem.set 3 H rfl (2) (.int .i64 (te' : Int))
 replace H := Mem.set 3 H rfl (3) (.int .i64 ↑de)
 replace H := Mem.set 3 H rfl (4) (.int .i64 ↑fe)
 replace H := Mem.set 3 H rfl (5) (.int .i64 ↑pr)
 replace H := Mem.set 3 H rfl (6) (.int .i64 ↑ch)
 replace H := Mem.set 3 H rfl (7) (.int .i64 ↑un)
 replace H := Mem.set 3 H rfl (8) (.string s)
 simp only [List.set_cons_zero, List.set_cons_succ, List.setIfInBounds_toArray] at H
 replace H := H.drew
 rw [hw3] at H ⊢
 have hz1 := own_drewK ((own_set (k := w.heap.size + 1 + 1 + 1) (o := 8) (x := .string s) (own_set (k := w.heap.size + 1 + 1 + 1) (o := 7) (x := .int .i64 ↑un) (own_set (k := w.heap.size + 1 + 1 + 1) (o := 6) (x := .int .i64 ↑ch) (own_set (k := w.heap.size + 1 + 1 + 1) (o := 5) (x := .int .i64 ↑pr) (own_set (k := w.heap.size + 1 + 1 + 1) (o := 4) (x := .int .i64 ↑fe) (own_set (k := w.heap.size + 1 + 1 + 1) (o := 3) (x := .int .i64 ↑de) (own_set (k := w.heap.size + 1 + 1 + 1) (o := 2) (x := .int .i64 (te' : Int)) (own_set (k := w.heap.size + 1 + 1 + 1) (o := 1) (x := .int .i64 ↑id) (own_set (k := w.heap.size + 1 + 1 + 1) (o := 0) (x := .int .i64 ↑vme) (own_set (k := w.heap.size + 1 + 1) (o := 0) (x := .slice A2 lq.length c2) hq1 (by omega)) (by omega)) (by omega)) (by omega)) (by omega)) (by omega)) (by omega)) (by omega)) (by omega)) (by omega)))
 have hz2 := own_drewK ((own_set (k := w.heap.size + 1 + 1 + 1) (o := 8) (x := .string s) (own_set (k := w.heap.size + 1 + 1 + 1) (o := 7) (x := .int .i64 ↑un) (own_set (k := w.heap.size + 1 + 1 + 1) (o := 6) (x := .int .i64 ↑ch) (own_set (k := w.heap.size + 1 + 1 + 1) (o := 5) (x := .int .i64 ↑pr) (own_set (k := w.heap.size + 1 + 1 + 1) (o := 4) (x := .int .i64 ↑fe) (own_set (k := w.heap.size + 1 + 1 + 1) (o := 3) (x := .int .i64 ↑de) (own_set (k := w.heap.size + 1 + 1 + 1) (o := 2) (x := .int .i64 (te' : Int)) (own_set (k := w.heap.size + 1 + 1 + 1) (o := 1) (x := .int .i64 ↑id) (own_set (k := w.heap.size + 1 + 1 + 1) (o := 0) (x := .int .i64 ↑vme) (own_set (k := w.heap.size + 1 + 1) (o := 0) (x := .slice A2 lq.length c2) hq2 (by omega)) (by omega)) (by omega)) (by omega)) (by omega)) (by omega)) (by omega)) (by omega)) (by omega)) (by omega)))
 rw [hw3] at hz1 hz2
 clear hw3 hq1 hq2
 obtain ⟨rolt, ro0, rof0⟩ := H.c1 2 rfl
 obtain ⟨rrlt, rr0, rrf0, rr1, rrf1, rr2, rrf2, rr3, rrf3, rr4, rrf4, rr5, rrf5, rr6, rrf6, rr7, rrf7, rr8, rrf8⟩ := H.c9 3 rfl
 have ne_ro_rr := H.ne 2 3 rfl rfl (by decide)
 have ne_rr_ro := H.ne 3 2 rfl rfl (by decide)
 refine bodyPost_ret (v := .tuple #[.slice A3 wl.length c3, .agg #[.slice A2 lq.length c2], .agg #[.int .i64 ↑vme, .int .i64 ↑id, .int .i64 (te' : Int), .int .i64 ↑de, .int .i64 ↑fe, .int .i64 ↑pr, .int .i64 ↑ch, .int .i64 ↑un, .string s], .int .i64 ↑E]) (by simp [results, Tryz.results32, go_sem, ro0, rr0, rr1, rr2, rr3, rr4, rr5, rr6, rr7, rr8]; done) rfl ?_
 exact ⟨A3, c3, A2, c2, rfl, own_mono hz1 (by omega), own_mono hz2 (by omega), H.below⟩
end Go.Proofs.YtpcgpnkmjjamhaaGreat
namespace Go.Proofs.YtpcgpnkmjjamhaaGreat
open Go.RowKit
set_option linter.unusedVariables false
set_option maxRecDepth 100000 in
set_option maxHeartbeats 8000000 in
theorem served4_ok (T : Tm) (hT : T.Ok) (At : Option Addr) (nt ct : Nat) (cv : Value) (c : List Nat) (L : List Ev) (B : List Cu) (me i d : Nat) (Ao : Option Addr) (no co : Nat) (lp : List Pr) (xk xm xa xb xd q : Int) (w : World)
   (wfk : (Lit.int .i64 xk).wf = true) (wfm : (Lit.int .i64 xm).wf = true) (wfa : (Lit.int .i64 xa).wf = true) (wfb : (Lit.int .i64 xb).wf = true) (wfd : (Lit.int .i64 xd).wf = true) (hk : Hid (pk xk 8 = 2)) (hM : Hid (pk xm 3 = (me : Int))) (hme : me ≤ 2) (hD : Hid (pk xd 65536 = (d : Int))) (hd : d ≤ 65535)
   (hvt : IsDs w (.slice At nt ct) T.tl) (hc : IsWs w cv c) (hS : Srv T c L B) (hp : place B me = some i) (hL : L.length < 120) (hf : (L.length + 1) * 14 ≤ c.length) (hps : IsPs w (.slice Ao no co) lp) (hlp : OOk lp) (h5 : lp.length < 500) :
   Calls Tryz.prog 16 #[.agg #[.slice At nt ct, .int .i64 ↑T.fx, .int .i64 ↑T.fb, .int .i64 ↑T.db, .int .i64 ↑T.al, cv, .slice Ao no co], .agg #[.int .i64 xk, .int .i64 xm, .int .i64 xa, .int .i64 xb, .int .i64 xd]] w (RetServe (svP (rekeyP (B.getD i cu0).a) 4 me 0 2 (B.getD i cu0).a.rev d lp c.length L.length) w) := by
 obtain ⟨Ac, nc, cc, rfl⟩ : ∃ Ac nc cc, cv = .slice Ac nc cc := by obtain ⟨X, y, h, _⟩ := hc; exact ⟨X, _, y, h⟩
 have hV := fun W h1 h2 h3 => vserve4_ok T hT At nt ct (.slice Ac nc cc) c L B me i d Ao no co lp W h1 h2 hS (by omega) hp hL hf h3 hlp h5 (by omega)
 obtain ⟨v, hv⟩ : ∃ v, svP (rekeyP (B.getD i cu0).a) 4 me 0 2 (B.getD i cu0).a.rev d lp c.length L.length = v := ⟨_, rfl⟩
 rw [hv] at hV ⊢
 obtain ⟨wl, lq, vme, ⟨id, te', de, fe, pr, ch, un⟩, s, E⟩ := v
 unfold RetServe at hV
 unfold RetServe
 dsimp only at hV
 dsimp only
 clear hv hS hp hL hf hlp h5
 have H := Mem.init w
 obtain ⟨W0, hW0⟩ : ∃ W0, ((((w).alloc (.cells #[.slice At nt ct, .int .i64 ↑T.fx, .int .i64 ↑T.fb, .int .i64 ↑T.db, .int .i64 ↑T.al, .slice Ac nc cc, .slice Ao no co] 34)).alloc (.cells #[.int .i64 xk, .int .i64 xm, .int .i64 xa, .int .i64 xb, .int .i64 xd] 69)).alloc (.cells #[.slice none 0 0] 32)).alloc (.cells #[.int .i64 0, .int .i64 0, .int .i64 0, .int .i64 0, .int .i64 0, .int .i64 0, .int .i64 0, .int .i64 0, .string ⟨#[]⟩] 72) = W0 := ⟨_, rfl⟩
 replace H := Mem.alloc H (w.heap.size) (by first | (simp; done) | (simp; omega)) #[.slice At nt ct, .int .i64 ↑T.fx, .int .i64 ↑T.fb, .int .i64 ↑T.db, .int .i64 ↑T.al, .slice Ac nc cc, .slice Ao no co] 34
 replace H := Mem.alloc H (w.heap.size + 1) (by first | (simp; done) | (simp; omega)) #[.int .i64 xk, .int .i64 xm, .int .i64 xa, .int .i64 xb, .int .i64 xd] 69
 replace H := Mem.alloc H (w.heap.size + 1 + 1) (by first | (simp; done) | (simp; omega)) #[.slice none 0 0] 32
 replace H := Mem.alloc H (w.heap.size + 1 + 1 + 1) (by first | (simp; done) | (simp; omega)) #[.int .i64 0, .int .i64 0, .int .i64 0, .int .i64 0, .int .i64 0, .int .i64 0, .int .i64 0, .int .i64 0, .string ⟨#[]⟩] 72
 simp only [List.nil_append, List.cons_append] at H
 rw [hW0] at H
 have hvt0 := hvt.below H.below
 have hc0 := hc.below H.below
 have hps0 := hps.below H.below
 clear hvt hc hps
 obtain ⟨shlt, sh0, shf0, sh1, shf1, sh2, shf2, sh3, shf3, sh4, shf4, sh5, shf5, sh6, shf6⟩ := H.c7 0 rfl
 obtain ⟨odlt, od0, odf0, od1, odf1, od2, odf2, od3, odf3, od4, odf4⟩ := H.c5 1 rfl
 have ne_sh_od := H.ne 0 1 rfl rfl (by decide)
 have ne_od_sh := H.ne 1 0 rfl rfl (by decide)
 go_enter Tryz.func16, Tryz.ntmps16
 go_wp2_with (first | (go_at_call 11; (with_reducible refine (picked_is _ hM wfm (by omega) (by omega)).mono ?_); rintro e w' ⟨rfl, rfl⟩) | (go_at_call 11; (with_reducible refine (picked_is _ hD wfd (by omega) (by omega)).mono ?_); rintro e w' ⟨rfl, rfl⟩) | (go_at_call 11; (with_reducible refine (picked_is _ hk wfk (by omega) (by omega)).mono ?_); rintro e w' ⟨rfl, rfl⟩))
 refine (hV _ hvt0 hc0 hps0).mono ?_
 rintro e w1 ⟨A3, c3, A2, c2, rfl, ho1, ho2, hb1⟩
 have HH := Mem.row2 H hb1 ho1 ho2 (by decide)

 have H : Mem (w) [] (w1) [.blk (w.heap.size) 34 #[.slice At nt ct, .int .i64 ↑T.fx, .int .i64 ↑T.fb, .int .i64 ↑T.db, .int .i64 ↑T.al, .slice Ac nc cc, .slice Ao no co], .blk (w.heap.size + 1) 69 #[.int .i64 xk, .int .i64 xm, .int .i64 xa, .int .i64 xb, .int .i64 xd], .blk (w.heap.size + 1 + 1) 32 #[.slice none 0 0], .blk (w.heap.size + 1 + 1 + 1) 72 #[.int .i64 0, .int .i64 0, .int .i64 0, .int .i64 0, .int .i64 0, .int .i64 0, .int .i64 0, .int .i64 0, .string ⟨#[]⟩], .row (W0.heap.size) (225) (4) (.slice A2 lq.length c2) (lq.length) (prs lq), .row (W0.heap.size) (113) (2) (.slice A3 wl.length c3) (wl.length) (wrs wl)] := HH
 clear HH hV hW0 hvt0 hc0 hps0 hb1 ho1 ho2
 clear shlt sh0 shf0 sh1 shf1 sh2 shf2 sh3 shf3 sh4 shf4 sh5 shf5 sh6 shf6 odlt od0 odf0 od1 odf1 od2 odf2 od3 odf3 od4 odf4 ne_sh_od ne_od_sh
 go_wp2
 obtain ⟨w2, hw2⟩ : ∃ w2, ((w1).alloc (.cells #[.slice A2 lq.length c2] 32)).alloc (.cells #[.int .i64 ↑vme, .int .i64 ↑id, .int .i64 (te' : Int), .int .i64 ↑de, .int .i64 ↑fe, .int .i64 ↑pr, .int .i64 ↑ch, .int .i64 ↑un, .string s] 72) = w2 := ⟨_, rfl⟩
 replace H := Mem.alloc H (w1.heap.size) (by first | (simp; done) | (simp; omega)) #[.slice A2 lq.length c2] 32
 replace H := Mem.alloc H (w1.heap.size + 1) (by first | (simp; done) | (simp; omega)) #[.int .i64 ↑vme, .int .i64 ↑id, .int .i64 (te' : Int), .int .i64 ↑de, .int .i64 ↑fe, .int .i64 ↑pr, .int .i64 ↑ch, .int .i64 ↑un, .string s] 72
 simp only [List.cons_append, List.nil_append] at H
 rw [hw2] at H ⊢
 clear hw2
 obtain ⟨oblt, ob0, obf0⟩ := H.c1 6 rfl
 obtain ⟨rblt, rb0, rbf0, rb1, rbf1, rb2, rbf2, rb3, rbf3, rb4, rbf4, rb5, rbf5, rb6, rbf6, rb7, rbf7, rb8, rbf8⟩ := H.c9 7 rfl
 obtain ⟨rolt, ro0, rof0⟩ := H.c1 2 rfl
 obtain ⟨rrlt, rr0, rrf0, rr1, rrf1, rr2, rrf2, rr3, rrf3, rr4, rrf4, rr5, rrf5, rr6, rrf6, rr7, rrf7, rr8, rrf8⟩ := H.c9 3 rfl
 have ne_ob_rb := H.ne 6 7 rfl rfl (by decide)
 have ne_ob_ro := H.ne 6 2 rfl rfl (by decide)
 have ne_ob_rr := H.ne 6 3 rfl rfl (by decide)
 have ne_rb_ob := H.ne 7 6 rfl rfl (by decide)
 have ne_rb_ro := H.ne 7 2 rfl rfl (by decide)
 have ne_rb_rr := H.ne 7 3 rfl rfl (by decide)
 have ne_ro_ob := H.ne 2 6 rfl rfl (by decide)
 have ne_ro_rb := H.ne 2 7 rfl rfl (by decide)
 have ne_ro_rr := H.ne 2 3 rfl rfl (by decide)
 have ne_rr_ob := H.ne 3 6 rfl rfl (by decide)
 have ne_rr_rb := H.ne 3 7 rfl rfl (by decide)
 have ne_rr_ro := H.ne 3 2 rfl rfl (by decide)
 go_region
 go_wp2
 clear oblt ob0 obf0 rblt rb0 rbf0 rb1 rbf1 rb2 rbf2 rb3 rbf3 rb4 rbf4 rb5 rbf5 rb6 rbf6 rb7 rbf7 rb8 rbf8 rolt ro0 rof0 rrlt rr0 rrf0 rr1 rrf1 rr2 rrf2 rr3 rrf3 rr4 rrf4 rr5 rrf5 rr6 rrf6 rr7 rrf7 rr8 rrf8 ne_ob_rb ne_ob_ro ne_ob_rr ne_rb_ob ne_rb_ro ne_rb_rr ne_ro_ob ne_ro_rb ne_ro_rr ne_rr_ob ne_rr_rb ne_rr_ro
 obtain ⟨w3, hw3⟩ : ∃ w3, (((((((((((w2).setCell ⟨w.heap.size + 1 + 1, 0, none⟩ (.slice A2 lq.length c2)).setCell ⟨w.heap.size + 1 + 1 + 1, 0, none⟩ (.int .i64 ↑vme)).setCell ⟨w.heap.size + 1 + 1 + 1, 1, none⟩ (.int .i64 ↑id)).setCell ⟨w.heap.size + 1 + 1 + 1, 2, none⟩ (.int .i64 (te' : Int))).setCell ⟨w.heap.size + 1 + 1 + 1, 3, none⟩ (.int .i64 ↑de)).setCell ⟨w.heap.size + 1 + 1 + 1, 4, none⟩ (.int .i64 ↑fe)).setCell ⟨w.heap.size + 1 + 1 + 1, 5, none⟩ (.int .i64 ↑pr)).setCell ⟨w.heap.size + 1 + 1 + 1, 6, none⟩ (.int .i64 ↑ch)).setCell ⟨w.heap.size + 1 + 1 + 1, 7, none⟩ (.int .i64 ↑un)).setCell ⟨w.heap.size + 1 + 1 + 1, 8, none⟩ (.string s)).drew = w3 := ⟨_, rfl⟩
 replace H := Mem.set 2 H rfl (0) (.slice A2 lq.length c2)
 replace H := Mem.set 3 H rfl (0) (.int .i64 ↑vme)
 replace H := Mem.set 3 H rfl (1) (.int .i64 ↑id)
 replace H := Mem.set 3 H rfl (2) (.int .i64 (te' : Int))
 replace H := Mem.set 3 H rfl (3) (.int .i64 ↑de)
 replace H := Mem.set 3 H rfl (4) (.int .i64 ↑fe)
 replace H := Mem.set 3 H rfl (5) (.int .i64 ↑pr)
 replace H := Mem.set 3 H rfl (6) (.int .i64 ↑ch)
 replace H := Mem.set 3 H rfl (7) (.int .i64 ↑un)
 replace H := Mem.set 3 H rfl (8) (.string s)
 simp only [List.set_cons_zero, List.set_cons_succ, List.setIfInBounds_toArray] at H
 replace H := H.drew
 rw [hw3] at H ⊢
 clear hw3
 obtain ⟨rolt, ro0, rof0⟩ := H.c1 2 rfl
 obtain ⟨rrlt, rr0, rrf0, rr1, rrf1, rr2, rrf2, rr3, rrf3, rr4, rrf4, rr5, rrf5, rr6, rrf6, rr7, rrf7, rr8, rrf8⟩ := H.c9 3 rfl
 have ne_ro_rr := H.ne 2 3 rfl rfl (by decide)
 have ne_rr_ro := H.ne 3 2 rfl rfl (by decide)
 refine bodyPost_ret (v := .tuple #[.slice A3 wl.length c3, .agg #[.slice A2 lq.length c2], .agg #[.int .i64 ↑vme, .int .i64 ↑id, .int .i64 (te' : Int), .int .i64 ↑de, .int .i64 ↑fe, .int .i64 ↑pr, .int .i64 ↑ch, .int .i64 ↑un, .string s], .int .i64 ↑E]) (by simp [results, Tryz.results16, go_sem, ro0, rr0, rr1, rr2, rr3, rr4, rr5, rr6, rr7, rr8]; done) rfl ?_
 exact ⟨A3, c3, A2, c2, rfl, H.ownb 4 rfl, H.ownb 5 rfl, H.below⟩
end Go.Proofs.YtpcgpnkmjjamhaaGreat
namespace Go.Proofs.YtpcgpnkmjjamhaaGreat
open Go.RowKit
set_option linter.unusedVariables false
theorem Srv.put {T : Tm} {c : List Nat} {L : List Ev} {B B2 : List Cu} {v : Ev} (hS : Srv T c L B) (hv : v.ok) (hk : keepE T B v = (0, B2)) (hL : L.length < 120) (hf : (L.length + 1) * 14 ≤ c.length) :
   Srv T (applyW c (putW c.length (L.length * 14) (evW v))) (L ++ [v]) B2 ∧ ∀ k, k < (putW c.length (L.length * 14) (evW v)).length → Srv T (applyW c ((putW c.length (L.length * 14) (evW v)).take k)) L B := by
 have hp := put_tape (r := evW v) hS.tape ⟨by simp [evW], by simp [evW], fun x hx => by have := hv.lt x hx; omega⟩ (by rw [enc_evs]; simp only [evW, List.length_cons, List.length_nil]; omega)
 rw [enc_evs] at hp
 refine ⟨⟨by rw [List.map_append]; exact hp.2, ?_, ?_, by simp; omega, by rw [applyW_length]; exact hS.h1, by rw [applyW_length]; exact hS.h2⟩, fun k hk' => ⟨hp.1 k hk', hS.ok, hS.run, hS.len, by rw [applyW_length]; exact hS.h1, by rw [applyW_length]; exact hS.h2⟩⟩
 · intro u hu
   rcases List.mem_append.1 hu with h | h
   · exact hS.ok u h
   · obtain rfl := List.mem_singleton.1 h; exact hv
 · rw [runE_append, hS.run]
   exact runE_one.2 hk
theorem Srv.bok {T : Tm} {c : List Nat} {L : List Ev} {B : List Cu} (hT : T.Ok) (hS : Srv T c L B) : BOk T B L.length := by
 have := runE_bok hT L [] B 0 (bok_nil T) (by have := hS.len; omega) hS.ok hS.run
 rwa [Nat.zero_add] at this
theorem svP_E {r : Nat × Acc × Bil} {k me mo cls rev d : Nat} {lp : List Pr} {n m : Nat} : (svP r k me mo cls rev d lp n m).E = r.1 := by
 unfold svP
 by_cases h : r.1 = 0
 · rw [if_pos h, h]
 · rw [if_neg h]
theorem svP_ok {r : Nat × Acc × Bil} {k me mo cls rev d : Nat} {lp : List Pr} {n m : Nat} (h : r.1 = 0) : svP r k me mo cls rev d lp n m = ⟨putW n (m * 14) (evW (evP k me mo (tagP lp me rev cls d r) r.2.2)), issL lp (me : Int) (rev : Int) (tbody cls r.2.2.id (amP cls r) : Nat) (d : Int), me, r.2.2, dstr (tokD cls r.2.2.id (amP cls r) (tagP lp me rev cls d r)), 0⟩ := by
 unfold svP; rw [if_pos h]
theorem svP_no {r : Nat × Acc × Bil} {k me mo cls rev d : Nat} {lp : List Pr} {n m : Nat} (h : r.1 ≠ 0) : svP r k me mo cls rev d lp n m = ⟨[], [], 0, bil0, ⟨#[]⟩, r.1⟩ := by
 unfold svP; rw [if_neg h]
theorem tagP_le {r : Nat × Acc × Bil} {me rev cls d : Nat} {lp : List Pr} (hl : OOk lp) (hd : d ≤ 65535) : tagP lp me rev cls d r ≤ 65535 := by
 have := issT_bd (x := (me : Int)) (y := (rev : Int)) (z := (tbody cls r.2.2.id (amP cls r) : Nat)) (d := (d : Int)) hl (by omega) (by omega)
 unfold tagP; omega
structure Rq where
 q : Nat
 me : Nat
 te : Nat
 mo : Nat
structure Rq.Ok (x : Rq) : Prop where
 h1 : x.me ≤ 49
 h2 : 1 ≤ x.te
 h3 : x.te ≤ 1000000
 h4 : x.mo ≤ 2399
def Rq.k (x : Rq) : Nat := if x.q = 1 then 3 else if x.q = 2 then 4 else 2
def Rq.cls (x : Rq) : Nat := if x.q = 2 then 2 else 0
def Rq.m (x : Rq) : Nat := if x.q = 2 then 0 else x.mo
def Rq.r (x : Rq) (T : Tm) (a : Acc) : Nat × Acc × Bil := if x.q = 1 then grantP T a x.mo else if x.q = 2 then rekeyP a else sellP T a x.te x.mo
def saleP (T : Tm) (a : Acc) (lp : List Pr) (n m d : Nat) (x : Rq) : Sv := svP (x.r T a) x.k x.me x.m x.cls a.rev d lp n m
def saleV (T : Tm) (a : Acc) (lp : List Pr) (d : Nat) (x : Rq) : Ev := evP x.k x.me x.m (tagP lp x.me a.rev x.cls d (x.r T a)) (x.r T a).2.2
theorem Rq.deed {T : Tm} {a : Acc} {x : Rq} (t : Nat) (h : (x.r T a).1 = 0) : deedP T a (evP x.k x.me x.m t (x.r T a).2.2) = x.r T a := by
 unfold deedP evP Rq.k Rq.m Rq.r
 unfold Rq.r at h
 by_cases g1 : x.q = 1
 · simp only [g1, if_true]
   rfl
 · simp only [g1, if_false] at h ⊢
   by_cases g2 : x.q = 2
   · simp only [g2, if_true]
     rfl
   · simp only [g2, if_false] at h ⊢
     have e : sellP T a x.te x.mo = (0, (sellP T a x.te x.mo).2.1, (sellP T a x.te x.mo).2.2) := by rw [← h]
     have := (sellP_ne e).2.2.2.2.2.2.2.1
     simp only [if_true]
     rw [this]
theorem Rq.tk {T : Tm} {a : Acc} {x : Rq} (hx : x.Ok) (hT : T.Ok) (ha : a.Ok) (hn : a.next ≤ 1048575) (h : (x.r T a).1 = 0) : TkOk x.cls (x.r T a).2.2.id (amP x.cls (x.r T a)) 0 ∧ ∀ t, t ≤ 65535 → (evP x.k x.me x.m t (x.r T a).2.2).ok := by
 unfold evP Rq.k Rq.m Rq.r Rq.cls amP
 unfold Rq.r at h
 by_cases g1 : x.q = 1
 · simp only [g1, if_true] at h ⊢
   have e : grantP T a x.mo = (0, (grantP T a x.mo).2.1, (grantP T a x.mo).2.2) := by rw [← h]
   exact grant_ev hT ha hn hx.h4 hx.h1 e
 · simp only [g1, if_false] at h ⊢
   by_cases g2 : x.q = 2
   · simp only [g2, if_true] at h ⊢
     have e : rekeyP a = (0, (rekeyP a).2.1, (rekeyP a).2.2) := by rw [← h]
     exact rekey_ev ha hn hx.h1 e
   · simp only [g2, if_false] at h ⊢
     have e : sellP T a x.te x.mo = (0, (sellP T a x.te x.mo).2.1, (sellP T a x.te x.mo).2.2) := by rw [← h]
     exact sell_ev hT ha hn hx.h4 hx.h1 hx.h2 (by have := hx.h3; omega) e
theorem Rq.k_ne (x : Rq) : x.k ≠ 1 ∧ x.k ≠ 5 := by
 unfold Rq.k
 split
 · omega
 · split <;> omega
theorem Rq.cust {T : Tm} {c : Cu} {x : Rq} (t : Nat) (h : (x.r T c.a).1 = 0) : custP T c (evP x.k x.me x.m t (x.r T c.a).2.2) = (0, ⟨(x.r T c.a).2.1, c.s ++ [soldP c.a.rev (evP x.k x.me x.m t (x.r T c.a).2.2) (x.r T c.a).2.1]⟩) := by
 have hd := Rq.deed (T := T) (a := c.a) t h
 unfold custP
 rw [if_neg (show ¬ (evP x.k x.me x.m t (x.r T c.a).2.2).k = 5 from x.k_ne.2), hd, if_pos h, if_pos (show (x.r T c.a).2.2.same _ from ⟨rfl, rfl, rfl, rfl, rfl, rfl, rfl⟩)]
theorem keepE_at {T : Tm} {B : List Cu} {v : Ev} {i : Nat} {c2 : Cu} (hp : place B v.me = some i) (hk : v.k ≠ 1) (h : custP T (B.getD i cu0) v = (0, c2)) : keepE T B v = (0, B.set i c2) := by
 unfold keepE
 rw [hp]
 dsimp only
 rw [if_neg hk, h, if_pos rfl]
theorem sale_law {T : Tm} {c : List Nat} {L : List Ev} {B : List Cu} {lp : List Pr} {i d : Nat} {x : Rq} (hT : T.Ok) (hS : Srv T c L B) (hx : x.Ok) (hp : place B x.me = some i) (hL : L.length < 120) (hf : (L.length + 1) * 14 ≤ c.length) (hl : OOk lp) (h5 : lp.length < 500) (hd : d ≤ 65535) (h : (saleP T (B.getD i cu0).a lp c.length L.length d x).E = 0) :
   (x.r T (B.getD i cu0).a).1 = 0 ∧ (saleV T (B.getD i cu0).a lp d x).ok ∧ (saleP T (B.getD i cu0).a lp c.length L.length d x).wl = putW c.length (L.length * 14) (evW (saleV T (B.getD i cu0).a lp d x)) ∧
   keepE T B (saleV T (B.getD i cu0).a lp d x) = (0, B.set i ⟨(x.r T (B.getD i cu0).a).2.1, (B.getD i cu0).s ++ [soldP (B.getD i cu0).a.rev (saleV T (B.getD i cu0).a lp d x) (x.r T (B.getD i cu0).a).2.1]⟩) ∧
   OOk (saleP T (B.getD i cu0).a lp c.length L.length d x).lp ∧ (saleP T (B.getD i cu0).a lp c.length L.length d x).lp.length ≤ lp.length + 1 := by
 unfold saleP at h ⊢
 rw [svP_E] at h
 have hB := hS.bok hT
 obtain ⟨hi, hme⟩ := place_some hp
 have hgd : B.getD i cu0 = B[i] := by simp [hi]
 have hao := hB.h1 B[i] (List.getElem_mem hi)
 have hsl := hB.sold (List.getElem_mem hi)
 have hlen := hS.len
 rw [hgd] at h ⊢
 have hn : B[i].a.next ≤ 1048575 := by omega
 obtain ⟨k1, k2⟩ := Rq.tk hx hT hao.1 hn h
 have ht := tagP_le (r := x.r T B[i].a) (me := x.me) (rev := B[i].a.rev) (cls := x.cls) hl hd
 refine ⟨h, k2 _ ht, ?_, ?_, ?_, ?_⟩
 · rw [svP_ok h]; rfl
 · refine keepE_at (v := saleV T B[i].a lp d x) hp x.k_ne.1 ?_
   rw [hgd]
   exact Rq.cust _ h
 · rw [svP_ok h]
   refine issL_ok hl ?_ (by omega) (by omega) h5
   have := tbody_le k1
   have h2 := hao.1.h1.h2
   have h3 := hx.h1
   unfold mayK; dsimp only; omega
 · rw [svP_ok h]
   exact (issL_len _ _ _ _ _).2
theorem chg_law {T : Tm} {B : List Cu} {i me ow bp : Nat} (hp : place B me = some i) (h : (oweP (B.getD i cu0).a ow bp).1 = 0) : keepE T B ⟨5, me, 0, 0, 0, 0, 0, 0, 0, 0, 0, ow, bp⟩ = (0, B.set i ⟨(oweP (B.getD i cu0).a ow bp).2, (B.getD i cu0).s⟩) := by
 refine keepE_at (v := ⟨5, me, 0, 0, 0, 0, 0, 0, 0, 0, 0, ow, bp⟩) hp (show (5 : Nat) ≠ 1 by decide) ?_
 unfold custP
 rw [if_pos rfl, if_pos h]
end Go.Proofs.YtpcgpnkmjjamhaaGreat
namespace Go.Proofs.YtpcgpnkmjjamhaaGreat
open Go.RowKit
set_option linter.unusedVariables false
theorem serveds_ok (T : Tm) (hT : T.Ok) (At : Option Addr) (nt ct : Nat) (cv : Value) (c : List Nat) (L : List Ev) (B : List Cu) (x : Rq) (i d : Nat) (Ao : Option Addr) (no co : Nat) (lp : List Pr) (xk xm xa xb xd : Int) (w : World)
   (wfk : (Lit.int .i64 xk).wf = true) (wfm : (Lit.int .i64 xm).wf = true) (wfa : (Lit.int .i64 xa).wf = true) (wfb : (Lit.int .i64 xb).wf = true) (wfd : (Lit.int .i64 xd).wf = true) (hk : Hid (pk xk 8 = (x.q : Int))) (hq : x.q ≠ 0) (hM : Hid (pk xm 3 = (x.me : Int))) (hme : x.me ≤ 2) (hD : Hid (pk xd 65536 = (d : Int))) (hd : d ≤ 65535) (hA : Hid (1 + pk xa 1000000 = (x.te : Int))) (hte : 1 ≤ x.te ∧ x.te ≤ 1000000) (hB : Hid (pk xb 12 = (x.mo : Int))) (hmo : x.mo ≤ 11)
   (hvt : IsDs w (.slice At nt ct) T.tl) (hc : IsWs w cv c) (hS : Srv T c L B) (hp : place B x.me = some i) (hL : L.length < 120) (hf : (L.length + 1) * 14 ≤ c.length) (hps : IsPs w (.slice Ao no co) lp) (hlp : OOk lp) (h5 : lp.length < 500) :
   Calls Tryz.prog 16 #[.agg #[.slice At nt ct, .int .i64 ↑T.fx, .int .i64 ↑T.fb, .int .i64 ↑T.db, .int .i64 ↑T.al, cv, .slice Ao no co], .agg #[.int .i64 xk, .int .i64 xm, .int .i64 xa, .int .i64 xb, .int .i64 xd]] w (RetServe (saleP T (B.getD i cu0).a lp c.length L.length d x) w) := by
 obtain ⟨q, me, te, mo⟩ := x
 dsimp only at hk hq hM hme hA hte hB hmo hp
 unfold saleP Rq.r Rq.k Rq.m Rq.cls
 dsimp only
 by_cases g1 : q = 1
 · subst g1
   exact served3_ok T hT At nt ct cv c L B me i mo d Ao no co lp xk xm xa xb xd 0 w wfk wfm wfa wfb wfd hk hM hme hD hd hB hmo hvt hc hS hp hL hf hps hlp h5
 · by_cases g2 : q = 2
   · subst g2
     exact served4_ok T hT At nt ct cv c L B me i d Ao no co lp xk xm xa xb xd 0 w wfk wfm wfa wfb wfd hk hM hme hD hd hvt hc hS hp hL hf hps hlp h5
   · simp only [g1, g2, if_false]
     exact served2_ok T hT At nt ct cv c L B me i te mo d Ao no co lp xk xm xa xb xd q w wfk wfm wfa wfb wfd hk (by omega) hM hme hD hd hA hte hB hmo hvt hc hS hp hL hf hps hlp h5
end Go.Proofs.YtpcgpnkmjjamhaaGreat
namespace Go.Proofs.YtpcgpnkmjjamhaaGreat
open Go.RowKit
set_option linter.unusedVariables false
structure Opn (T : Tm) (c : List Nat) (L : List Ev) (B : List Cu) (m : Nat) : Prop where
 srv : Srv T c L B
 len : c.length = 600
 evs : L = (List.range m).map regV
 cus : B.length = m
 me : ∀ j (h : j < B.length), (B[j]'h).a.me = j
theorem opn_nil (T : Tm) : Opn T (List.replicate 600 0) [] [] 0 := ⟨⟨blank_tape 600, by simp, rfl, Nat.zero_le _, by rw [List.length_replicate]; omega, by rw [List.length_replicate]; omega⟩, List.length_replicate, rfl, rfl, fun j h => by simp at h⟩
theorem Opn.none {T : Tm} {c : List Nat} {L : List Ev} {B : List Cu} {m : Nat} (h : Opn T c L B m) : place B m = none := by
 rw [place_none]
 intro x hx
 obtain ⟨j, hj, rfl⟩ := List.getElem_of_mem hx
 rw [h.me j hj]
 have := h.cus
 omega
theorem Opn.next {T : Tm} {c : List Nat} {L : List Ev} {B : List Cu} {m : Nat} (h : Opn T c L B m) (hm : m ≤ 2) : Opn T (applyW c (putW c.length (L.length * 14) (evW (regV m)))) (L ++ [regV m]) (B ++ [⟨openP m, []⟩]) (m + 1) := by
 have hl : L.length = m := by rw [h.evs]; simp
 have hk : keepE T B (regV m) = (0, B ++ [⟨openP m, []⟩]) := by
   unfold keepE
   rw [show (regV m).me = m from rfl, h.none]
   rfl
 have hlen := h.len
 refine ⟨(h.srv.put (regV_ok (by omega)) hk (by omega) (by omega)).1, by rw [applyW_length]; exact hlen, ?_, by simp [h.cus], fun j hj => ?_⟩
 · rw [h.evs, List.range_succ, List.map_append]; rfl
 · by_cases e : j < B.length
   · rw [List.getElem_append_left e]; exact h.me j e
   · have hj2 : j = B.length := by simp at hj; omega
     subst hj2
     rw [List.getElem_append_right (Nat.le_refl _)]
     simp [openP, h.cus]
structure Shp (T : Tm) (c : List Nat) (L : List Ev) (B : List Cu) (lp : List Pr) (k : Nat) : Prop where
 srv : Srv T c L B
 len : c.length = 600
 evs : ∃ M, L = [regV 0, regV 1, regV 2] ++ M ∧ M.length ≤ k ∧ ∀ v ∈ M, v.k ≠ 1 ∧ v.te ≤ 1000000
 cus : B.length = 3
 me : ∀ j (h : j < B.length), (B[j]'h).a.me = j
 ook : OOk lp
 lpl : lp.length ≤ k
theorem ook_nil0 : OOk [] := ⟨by simp, by simp, by simp⟩
theorem Opn.shp {T : Tm} {c : List Nat} {L : List Ev} {B : List Cu} (h : Opn T c L B 3) : Shp T c L B [] 0 :=
 ⟨h.srv, h.len, ⟨[], by rw [h.evs]; rfl, by simp, by simp⟩, h.cus, h.me, ook_nil0, by simp⟩
theorem Shp.at_ {T : Tm} {c : List Nat} {L : List Ev} {B : List Cu} {lp : List Pr} {k me : Nat} (h : Shp T c L B lp k) (hm : me ≤ 2) : place B me = some me := by
 have := h.cus
 refine place_found (by omega) (fun j hj => ?_) (h.me me (by omega))
 rw [h.me j (by omega)]; omega
theorem Shp.lens {T : Tm} {c : List Nat} {L : List Ev} {B : List Cu} {lp : List Pr} {k : Nat} (h : Shp T c L B lp k) : L.length ≤ 3 + k := by
 obtain ⟨M, h1, h2, _⟩ := h.evs
 rw [h1]; simp; omega
theorem Shp.more {T : Tm} {c : List Nat} {L : List Ev} {B : List Cu} {lp : List Pr} {k : Nat} (h : Shp T c L B lp k) : Shp T c L B lp (k + 1) := by
 obtain ⟨M, h1, h2, h3⟩ := h.evs
 exact ⟨h.srv, h.len, ⟨M, h1, by omega, h3⟩, h.cus, h.me, h.ook, by have := h.lpl; omega⟩
theorem Shp.step {T : Tm} {c : List Nat} {L : List Ev} {B : List Cu} {lp lp2 : List Pr} {k i : Nat} {v : Ev} {c2 : Cu} (h : Shp T c L B lp k) (hk : k ≤ 30) (hv : v.ok) (hv1 : v.k ≠ 1 ∧ v.te ≤ 1000000) (hi : i < B.length) (hkp : keepE T B v = (0, B.set i c2)) (hme : c2.a.me = i) (ho : OOk lp2) (hl : lp2.length ≤ lp.length + 1) :
   Shp T (applyW c (putW c.length (L.length * 14) (evW v))) (L ++ [v]) (B.set i c2) lp2 (k + 1) := by
 have hlen := h.lens
 have h6 := h.len
 obtain ⟨M, h1, h2, h3⟩ := h.evs
 refine ⟨(h.srv.put hv hkp (by omega) (by omega)).1, by rw [applyW_length]; exact h6, ⟨M ++ [v], by rw [h1]; simp, by simp; omega, fun u hu => ?_⟩, by rw [List.length_set]; exact h.cus, fun j hj => ?_, ho, by have := h.lpl; omega⟩
 · rcases List.mem_append.1 hu with hu | hu
   · exact h3 u hu
   · obtain rfl := List.mem_singleton.1 hu; exact hv1
 · rw [List.getElem_set]
   split
   · rename_i e; subst e; exact hme
   · exact h.me j (by simpa using hj)
theorem Shp.le {T : Tm} {c : List Nat} {L : List Ev} {B : List Cu} {lp : List Pr} {k k2 : Nat} (h : Shp T c L B lp k) (hk : k ≤ k2) : Shp T c L B lp k2 := by
 obtain ⟨M, h1, h2, h3⟩ := h.evs
 exact ⟨h.srv, h.len, ⟨M, h1, by omega, h3⟩, h.cus, h.me, h.ook, by have := h.lpl; omega⟩
theorem Rq.meq {T : Tm} {a : Acc} {x : Rq} (h : (x.r T a).1 = 0) : (x.r T a).2.1.me = a.me := by
 unfold Rq.r at h ⊢
 by_cases g1 : x.q = 1
 · simp only [g1, if_true] at h ⊢
   have e : grantP T a x.mo = (0, (grantP T a x.mo).2.1, (grantP T a x.mo).2.2) := by rw [← h]
   exact (grantP_ne e).2.1
 · simp only [g1, if_false] at h ⊢
   by_cases g2 : x.q = 2
   · simp only [g2, if_true] at h ⊢
     have e : rekeyP a = (0, (rekeyP a).2.1, (rekeyP a).2.2) := by rw [← h]
     rw [(rekeyP_ne e).1]
   · simp only [g2, if_false] at h ⊢
     have e : sellP T a x.te x.mo = (0, (sellP T a x.te x.mo).2.1, (sellP T a x.te x.mo).2.2) := by rw [← h]
     exact (sellP_ne e).2.1
theorem Rq.tel {T : Tm} {a : Acc} {x : Rq} (h : (x.r T a).1 = 0) (hx : x.te ≤ 1000000) : (x.r T a).2.2.te ≤ 1000000 := by
 unfold Rq.r at h ⊢
 by_cases g1 : x.q = 1
 · simp only [g1, if_true] at h ⊢
   have e : grantP T a x.mo = (0, (grantP T a x.mo).2.1, (grantP T a x.mo).2.2) := by rw [← h]
   rw [(grantP_ne e).2.2.2.2.2.2.2.1]
   exact Nat.zero_le _
 · simp only [g1, if_false] at h ⊢
   by_cases g2 : x.q = 2
   · simp only [g2, if_true] at h ⊢
     have e : rekeyP a = (0, (rekeyP a).2.1, (rekeyP a).2.2) := by rw [← h]
     rw [(rekeyP_ne e).2.1]
     exact Nat.zero_le _
   · simp only [g2, if_false] at h ⊢
     have e : sellP T a x.te x.mo = (0, (sellP T a x.te x.mo).2.1, (sellP T a x.te x.mo).2.2) := by rw [← h]
     rw [(sellP_ne e).2.2.2.2.2.2.2.1]
     exact hx
theorem Shp.sale {T : Tm} {c : List Nat} {L : List Ev} {B : List Cu} {lp : List Pr} {k d : Nat} {x : Rq} (h : Shp T c L B lp k) (hT : T.Ok) (hk : k ≤ 30) (hx : x.Ok) (hme : x.me ≤ 2) (hd : d ≤ 65535) (h0 : (saleP T (B.getD x.me cu0).a lp c.length L.length d x).E = 0) :
   (1 ≤ (saleP T (B.getD x.me cu0).a lp c.length L.length d x).wl.length ∧ (saleP T (B.getD x.me cu0).a lp c.length L.length d x).wl.length ≤ 15) ∧ (∀ p ∈ (saleP T (B.getD x.me cu0).a lp c.length L.length d x).wl, p.1 < 600) ∧ (∀ p ∈ (saleP T (B.getD x.me cu0).a lp c.length L.length d x).wl, p.2 < 4294967296) ∧ ∃ L2 B2, Shp T (applyW c (saleP T (B.getD x.me cu0).a lp c.length L.length d x).wl) L2 B2 (saleP T (B.getD x.me cu0).a lp c.length L.length d x).lp (k + 1) := by
 have hp := h.at_ hme
 have hlens := h.lens
 have hlen := h.len
 have hlpl := h.lpl
 obtain ⟨s1, s2, s3, s4, s5, s6⟩ := sale_law hT h.srv hx hp (by omega) (by omega) h.ook (by omega) hd h0
 have hat := putW_at (len := c.length) (at0 := L.length * 14) (r := evW (saleV T (B.getD x.me cu0).a lp d x)) (by simp only [evW, List.length_cons, List.length_nil]; omega)
 have hwn := putW_len c.length (L.length * 14) (evW (saleV T (B.getD x.me cu0).a lp d x))
 have hlt := putW_lt (len := c.length) (at0 := L.length * 14) (r := evW (saleV T (B.getD x.me cu0).a lp d x)) ⟨by simp [evW], fun y hy => by have := s2.lt y hy; omega⟩
 have hgd : B.getD x.me cu0 = B[x.me]'(place_some hp).1 := by simp [(place_some hp).1]
 have hsh := h.step hk s2 ⟨x.k_ne.1, Rq.tel s1 hx.h3⟩ (place_some hp).1 s4 (by
   dsimp only
   rw [Rq.meq s1, hgd]; exact h.me _ _) s5 s6
 rw [s3]
 have e13 : (evW (saleV T (B.getD x.me cu0).a lp d x)).length = 13 := rfl
 rw [e13] at hwn
 exact ⟨by omega, fun p hp => by have := (hat p hp).2; omega, hlt, _, _, hsh⟩
end Go.Proofs.YtpcgpnkmjjamhaaGreat
namespace Go.Proofs.YtpcgpnkmjjamhaaGreat
open Go.RowKit
set_option linter.unusedVariables false
def RetOpd (w : World) (e : Ending) (w' : World) : Prop :=
 ∃ (T : Tm) (At : Option Addr) (nt ct : Nat) (cc : List Nat) (L : List Ev) (B : List Cu) (lp : List Pr) (Aw : Option Addr) (cw : Nat) (Ap : Option Addr) (cp b1 b2 b3 : Nat), e = .returned (.tuple #[.agg #[.slice At nt ct, .int .i64 ↑T.fx, .int .i64 ↑T.fb, .int .i64 ↑T.db, .int .i64 ↑T.al, .slice Aw 600 cw, .slice Ap lp.length cp], .bool true]) ∧ T.Ok ∧ nt = T.tl.length ∧ (∀ x ∈ cc, x < 4294967296) ∧ Shp T cc L B lp 12 ∧
   Mem w [] w' [.row b1 166 2 (.slice At nt ct) nt (drs T.tl), .row b2 225 4 (.slice Ap lp.length cp) lp.length (prs lp), .row b3 111 1 (.slice Aw 600 cw) 600 (ws cc)]
theorem apply600 (Aw : Option Addr) (cw : Nat) (A5 : Option Addr) (c5 : Nat) (cc : List Nat) (wl : List (Nat × Nat)) (nw k : Nat) (W : World) (hnw : wl.length = nw) (hlen : cc.length = 600) (h1 : IsWs W (.slice Aw 600 cw) cc) (h2 : IsWr W (.slice A5 nw c5) wl) (hl : ∀ p ∈ wl, p.1 < 600) (h3 : nw ≤ 4096) (hk : k ≤ nw) :
   Calls Tryz.prog 17 #[.slice Aw 600 cw, .slice A5 nw c5, .int .i64 ↑k] W fun e w' => ∃ (A6 : Option Addr) (c6 : Nat), e = .returned (.tuple #[.slice A6 600 c6, .int .i64 0]) ∧ ((∀ x ∈ applyW cc (wl.take k), x < 4294967296) ∧ w'.ownsRow W.heap.size 111 1 (.slice A6 600 c6) 600 (ws (applyW cc (wl.take k)))) ∧ Below W.heap.size W w' := by
 subst hnw
 refine (apply_own (.slice Aw 600 cw) (.slice A5 wl.length c5) cc wl k W h1 h2 (by omega) (by omega) h3 (fun p hp => by rw [hlen]; exact hl p hp) hk).mono ?_
 rintro e w' ⟨A6, c6, he, ⟨hx, ho⟩, hb⟩
 rw [applyW_length, hlen] at he ho
 exact ⟨A6, c6, he, ⟨hx, ho⟩, hb⟩
theorem perm6 {a b c d e f : Chunk} : [a, b, c, d, e, f].Perm [a, b, d, e, f, c] := by
 refine .cons _ (.cons _ ?_)
 exact (List.perm_append_comm (l₁ := [c]) (l₂ := [d, e, f]))
set_option maxRecDepth 100000 in
set_option maxHeartbeats 16000000 in
theorem opened_ok (A : Option Addr) (n m : Nat) (g : Nat → Nat → Int) (a b c d : Int) (Al : Option Addr) (nl cl : Nat) (f : Nat → Nat → Int) (w : World) (wa : (Lit.int .i64 a).wf = true) (wb : (Lit.int .i64 b).wf = true) (wc0 : (Lit.int .i64 c).wf = true) (wd : (Lit.int .i64 d).wf = true)
   (hv : IsRows w (.slice A n m) [.i64, .i64] n g) (hl : IsRows w (.slice Al nl cl) [.i64, .i64, .i64, .i64, .i64] nl f) :
   Calls Tryz.prog 9 #[.agg #[.slice A n m, .int .i64 a, .int .i64 b, .int .i64 c, .int .i64 d], .slice Al nl cl] w (RetOpd w) := by
 have hBl := fun W => blank_own 600 W (by omega) (by omega)
 unfold RetWsOwn at hBl
 rw [List.length_replicate] at hBl
 have hAg := fun W h => agreed_own A n m g a b c d W wa wb wc0 wd h
 unfold RetAgO at hAg
 have H := Mem.init w
 obtain ⟨W0, hW0⟩ : ∃ W0, ((w).alloc (.cells #[.slice A n m, .int .i64 a, .int .i64 b, .int .i64 c, .int .i64 d] 24)).alloc (.cells #[.slice none 0 0, .int .i64 0, .int .i64 0, .int .i64 0, .int .i64 0, .slice none 0 0, .slice none 0 0] 34) = W0 := ⟨_, rfl⟩
 replace H := Mem.alloc H (w.heap.size) (by first | (simp; done) | (simp; omega)) #[.slice A n m, .int .i64 a, .int .i64 b, .int .i64 c, .int .i64 d] 24
 replace H := Mem.alloc H (w.heap.size + 1) (by first | (simp; done) | (simp; omega)) #[.slice none 0 0, .int .i64 0, .int .i64 0, .int .i64 0, .int .i64 0, .slice none 0 0, .slice none 0 0] 34
 simp only [List.nil_append, List.cons_append] at H
 rw [hW0] at H
 have hv0 := hv.below H.below
 obtain ⟨ddlt, dd0, ddf0, dd1, ddf1, dd2, ddf2, dd3, ddf3, dd4, ddf4⟩ := H.c5 0 rfl
 go_enter Tryz.func9, Tryz.ntmps9
 go_wp2_with fail
 refine (hBl _).mono ?_
 rintro e w1 ⟨Aw, cw, rfl, ⟨hwl, hwo⟩, hb1⟩
 have hv1 := hv0.below hb1
 obtain ⟨cc, hcc⟩ : ∃ cc, List.replicate 600 0 = cc := ⟨_, rfl⟩
 rw [hcc] at hwo hwl
 replace H : Mem (w) [] (w1) [.blk (w.heap.size) 24 #[.slice A n m, .int .i64 a, .int .i64 b, .int .i64 c, .int .i64 d], .blk (w.heap.size + 1) 34 #[.slice none 0 0, .int .i64 0, .int .i64 0, .int .i64 0, .int .i64 0, .slice none 0 0, .slice none 0 0], .row (W0.heap.size) (111) (1) (.slice Aw 600 cw) (600) (ws cc)] := Mem.row H hb1 hwo (Nat.le_refl _)
 clear ddlt dd0 ddf0 dd1 ddf1 dd2 ddf2 dd3 ddf3 dd4 ddf4
 obtain ⟨ddlt, dd0, ddf0, dd1, ddf1, dd2, ddf2, dd3, ddf3, dd4, ddf4⟩ := H.c5 0 rfl
 clear hBl hb1 hW0 hv0
 go_wp2_with fail
 refine (hAg _ hv1).mono ?_
 rintro e w2 ⟨tl, At, ct, fx, fb, db, al, rfl, hT1, hT2, hto, hb2⟩
 obtain ⟨T, hTe⟩ : ∃ T : Tm, T = ⟨tl, fx, fb, db, al⟩ := ⟨_, rfl⟩
 have hT : T.Ok := by rw [hTe]; exact ⟨hT1, hT2⟩
 obtain ⟨rfl, rfl, rfl, rfl, rfl⟩ : tl = T.tl ∧ fx = T.fx ∧ fb = T.fb ∧ db = T.db ∧ al = T.al := by rw [hTe]; exact ⟨rfl, rfl, rfl, rfl, rfl⟩
 obtain ⟨nt, hnt⟩ : ∃ nt, T.tl.length = nt := ⟨_, rfl⟩
 rw [hnt] at hto ⊢
 replace H : Mem (w) [] (w2) [.blk (w.heap.size) 24 #[.slice A n m, .int .i64 a, .int .i64 b, .int .i64 c, .int .i64 d], .blk (w.heap.size + 1) 34 #[.slice none 0 0, .int .i64 0, .int .i64 0, .int .i64 0, .int .i64 0, .slice none 0 0, .slice none 0 0], .row (W0.heap.size) (111) (1) (.slice Aw 600 cw) (600) (ws cc), .row (w1.heap.size) (166) (2) (.slice At nt ct) (nt) (drs T.tl)] := Mem.row H hb2 hto (Nat.le_refl _)
 clear hAg hb2 hto hTe hT1 hT2 hv1 hwo
 clear ddlt dd0 ddf0 dd1 ddf1 dd2 ddf2 dd3 ddf3 dd4 ddf4
 go_wp2_with fail
 obtain ⟨W3, hW3⟩ : ∃ W3, (w2).alloc (.cells #[.slice At nt ct, .int .i64 ↑T.fx, .int .i64 ↑T.fb, .int .i64 ↑T.db, .int .i64 ↑T.al, .slice Aw 600 cw, .slice none 0 0] 34) = W3 := ⟨_, rfl⟩
 replace H := Mem.alloc H (w2.heap.size) (by first | (simp; done) | (simp; omega)) #[.slice At nt ct, .int .i64 ↑T.fx, .int .i64 ↑T.fb, .int .i64 ↑T.db, .int .i64 ↑T.al, .slice Aw 600 cw, .slice none 0 0] 34
 simp only [List.cons_append, List.nil_append] at H
 rw [hW3] at H ⊢
 clear hW3
 replace H : Mem (w) [] (W3) [.blk (w.heap.size) 24 #[.slice A n m, .int .i64 a, .int .i64 b, .int .i64 c, .int .i64 d], .blk (w.heap.size + 1) 34 #[.slice none 0 0, .int .i64 0, .int .i64 0, .int .i64 0, .int .i64 0, .slice none 0 0, .slice none 0 0], .row (W0.heap.size) (111) (1) (.slice Aw 600 cw) (600) (ws cc), .row (w1.heap.size) (166) (2) (.slice At nt ct) (nt) (drs T.tl), .blk (w2.heap.size) 34 #[.slice At nt ct, .int .i64 ↑T.fx, .int .i64 ↑T.fb, .int .i64 ↑T.db, .int .i64 ↑T.al, .slice Aw 600 cw, .slice none 0 0], .row (0) (225) (4) (.slice none 0 0) (0) ([])] := Mem.nilrow H _ _ _
 obtain ⟨gs, hgs⟩ : ∃ gs, w2.heap.size = gs := ⟨_, rfl⟩
 rw [hgs] at H ⊢
 have HP := Mem.perm perm6 H
 have HN := Lib.hid hnt
 have ho0 := opn_nil T
 rw [hcc] at ho0
 clear hcc H hnt hgs
 go_loopw [9] (fun i wr => ∃ (m2 : Nat) (cc : List Nat) (L : List Ev) (B : List Cu) (Aw : Option Addr) (cw bw : Nat), m2 ≤ 3 ∧ i = .int .i64 ↑m2 ∧ (∀ x ∈ cc, x < 4294967296) ∧ Opn T cc L B m2 ∧ Mem w [] wr [.blk (w.heap.size) 24 #[.slice A n m, .int .i64 a, .int .i64 b, .int .i64 c, .int .i64 d], .blk (w.heap.size + 1) 34 #[.slice none 0 0, .int .i64 0, .int .i64 0, .int .i64 0, .int .i64 0, .slice none 0 0, .slice none 0 0], .row (w1.heap.size) (166) (2) (.slice At nt ct) (nt) (drs T.tl), .blk (gs) 34 #[.slice At nt ct, .int .i64 ↑T.fx, .int .i64 ↑T.fb, .int .i64 ↑T.db, .int .i64 ↑T.al, .slice Aw 600 cw, .slice none 0 0], .row (0) (225) (4) (.slice none 0 0) (0) ([]), .row (bw) (111) (1) (.slice Aw 600 cw) (600) (ws cc)]) (fun i _ => 3 - (intOf i).toNat)
 case atStart => exact ⟨0, cc, [], [], Aw, cw, _, by omega, rfl, hwl, ho0, HP⟩
 case round =>
   clear HP ho0 hwl
   obtain ⟨m2, cc, L, B, Aw, cw, bw, hm, rfl, hwl, hO, HM⟩ := hrel
   have H : Mem (w) [] (wr) [.blk (w.heap.size) 24 #[.slice A n m, .int .i64 a, .int .i64 b, .int .i64 c, .int .i64 d], .blk (w.heap.size + 1) 34 #[.slice none 0 0, .int .i64 0, .int .i64 0, .int .i64 0, .int .i64 0, .slice none 0 0, .slice none 0 0], .row (w1.heap.size) (166) (2) (.slice At nt ct) (nt) (drs T.tl), .blk (gs) 34 #[.slice At nt ct, .int .i64 ↑T.fx, .int .i64 ↑T.fb, .int .i64 ↑T.db, .int .i64 ↑T.al, .slice Aw 600 cw, .slice none 0 0], .row (0) (225) (4) (.slice none 0 0) (0) ([]), .row (bw) (111) (1) (.slice Aw 600 cw) (600) (ws cc)] := HM
   clear HM

   by_cases hlt : m2 < 3
   · have hds := isds_own (l := T.tl) HN.out (H.own_ 2 rfl)
     have hws := isws_own (xs := cc) hO.len hwl (H.own_ 5 rfl)
     have hlL : L.length = m2 := by rw [hO.evs]; simp
     have hR := fun W h1 h2 => register_ok T hT At nt ct (.slice Aw 600 cw) cc L B m2 W h1 h2 hO.srv (by omega) hO.none (by omega) (by rw [hO.len]; omega)
     have hnx := hO.next (by omega)
     have hat := putW_at (len := cc.length) (at0 := L.length * 14) (r := evW (regV m2)) (by rw [hO.len]; simp only [evW, List.length_cons, List.length_nil]; omega)
     have hwn := putW_len cc.length (L.length * 14) (evW (regV m2))
     have hlen := hO.len
     obtain ⟨wl, hwe⟩ : ∃ wl, putW cc.length (L.length * 14) (evW (regV m2)) = wl := ⟨_, rfl⟩
     rw [hwe] at hR hnx hat hwn
     unfold RetWrOwn at hR
     obtain ⟨nw, hnw⟩ : ∃ nw, wl.length = nw := ⟨_, rfl⟩
     rw [hnw] at hR hwn
     have hwn2 : 1 ≤ nw ∧ nw ≤ 15 := by simp [evW] at hwn; omega
     have hwz : ((nw : Int) == 0) = false := by simp; omega
     have hwz2 : ¬ (nw : Int) = 0 := by omega
     have HX := Lib.hid (And.intro hlen (And.intro hnx (And.intro hwl (And.intro hnw (show ∀ p ∈ wl, p.1 < 600 from fun p hp => by have := (hat p hp).2; omega)))))
     have mlt : (m2 : Int) < 3 := by omega
     clear hO hlL hlen hnx hat hwn hwe hnw hwl
     obtain ⟨shlt, sh0, shf0, sh1, shf1, sh2, shf2, sh3, shf3, sh4, shf4, sh5, shf5, sh6, shf6⟩ := H.c7 3 rfl
     go_wp2_with fail
     refine (hR _ hds hws).mono ?_
     rintro e wq ⟨A5, c5, rfl, hp2, hown, hbq⟩
     have hwr := iswr_own (l := wl) HX.out.2.2.2.1 hp2 hown
     have hws2 := hws.below hbq
     replace H : Mem (w) [] (wq) [.blk (w.heap.size) 24 #[.slice A n m, .int .i64 a, .int .i64 b, .int .i64 c, .int .i64 d], .blk (w.heap.size + 1) 34 #[.slice none 0 0, .int .i64 0, .int .i64 0, .int .i64 0, .int .i64 0, .slice none 0 0, .slice none 0 0], .row (w1.heap.size) (166) (2) (.slice At nt ct) (nt) (drs T.tl), .blk (gs) 34 #[.slice At nt ct, .int .i64 ↑T.fx, .int .i64 ↑T.fb, .int .i64 ↑T.db, .int .i64 ↑T.al, .slice Aw 600 cw, .slice none 0 0], .row (0) (225) (4) (.slice none 0 0) (0) ([]), .row (bw) (111) (1) (.slice Aw 600 cw) (600) (ws cc), .row (wr.heap.size) (113) (2) (.slice A5 nw c5) (nw) (wrs wl)] := Mem.row H hbq hown (Nat.le_refl _)
     clear hR hds hws hp2 hown hbq
     clear shlt sh0 shf0 sh1 shf1 sh2 shf2 sh3 shf3 sh4 shf4 sh5 shf5 sh6 shf6
     obtain ⟨shlt, sh0, shf0, sh1, shf1, sh2, shf2, sh3, shf3, sh4, shf4, sh5, shf5, sh6, shf6⟩ := H.c7 3 rfl
     go_wp2_with fail
     refine (apply600 Aw cw A5 c5 cc wl nw nw _ HX.out.2.2.2.1 HX.out.1 hws2 hwr HX.out.2.2.2.2 (by omega) (Nat.le_refl _)).mono ?_
     rintro e wv ⟨A6, c6, rfl, ⟨hx6, ho6⟩, hb6⟩
     rw [List.take_of_length_le (Nat.le_of_eq HX.out.2.2.2.1)] at hx6 ho6
     replace H : Mem (w) [] (wv) [.blk (w.heap.size) 24 #[.slice A n m, .int .i64 a, .int .i64 b, .int .i64 c, .int .i64 d], .blk (w.heap.size + 1) 34 #[.slice none 0 0, .int .i64 0, .int .i64 0, .int .i64 0, .int .i64 0, .slice none 0 0, .slice none 0 0], .row (w1.heap.size) (166) (2) (.slice At nt ct) (nt) (drs T.tl), .blk (gs) 34 #[.slice At nt ct, .int .i64 ↑T.fx, .int .i64 ↑T.fb, .int .i64 ↑T.db, .int .i64 ↑T.al, .slice Aw 600 cw, .slice none 0 0], .row (0) (225) (4) (.slice none 0 0) (0) ([]), .row (bw) (111) (1) (.slice Aw 600 cw) (600) (ws cc), .row (wr.heap.size) (113) (2) (.slice A5 nw c5) (nw) (wrs wl), .row (wq.heap.size) (111) (1) (.slice A6 600 c6) (600) (ws (applyW cc wl))] := Mem.row H hb6 ho6 (Nat.le_refl _)
     clear hws2 hwr ho6 hb6
     clear shlt sh0 shf0 sh1 shf1 sh2 shf2 sh3 shf3 sh4 shf4 sh5 shf5 sh6 shf6
     obtain ⟨shlt, sh0, shf0, sh1, shf1, sh2, shf2, sh3, shf3, sh4, shf4, sh5, shf5, sh6, shf6⟩ := H.c7 3 rfl
     go_wp2
     go_roundw
     case rel =>
       have HZ := Mem.set 3 H rfl 5 (.slice A6 600 c6)
       exact ⟨m2 + 1, applyW cc wl, _, _, A6, c6, _, by omega, by go_num, hx6, HX.out.2.1, Mem.drop_ 5 (Mem.drop_ 5 HZ)⟩
     case measure => simp [intOf]; omega
   · have hm3 : m2 = 3 := by omega
     have hS0 : Shp T cc L B [] 0 := (show Opn T cc L B 3 from hm3 ▸ hO).shp
     have mge : ¬ (m2 : Int) < 3 := by omega
     clear hO hm3 hlt hm
     skip
     go_wp2
     go_loopw [14] (fun i wr => ∃ (k : Nat) (cc : List Nat) (L : List Ev) (B : List Cu) (lp : List Pr) (Aw : Option Addr) (cw : Nat) (Ap : Option Addr) (cp bw bp : Nat), k ≤ 12 ∧ k ≤ nl ∧ i = .int .i64 ↑k ∧ (∀ x ∈ cc, x < 4294967296) ∧ Shp T cc L B lp k ∧ Mem w [] wr [.blk (w.heap.size) 24 #[.slice A n m, .int .i64 a, .int .i64 b, .int .i64 c, .int .i64 d], .blk (w.heap.size + 1) 34 #[.slice none 0 0, .int .i64 0, .int .i64 0, .int .i64 0, .int .i64 0, .slice none 0 0, .slice none 0 0], .row (w1.heap.size) (166) (2) (.slice At nt ct) (nt) (drs T.tl), .blk (gs) 34 #[.slice At nt ct, .int .i64 ↑T.fx, .int .i64 ↑T.fb, .int .i64 ↑T.db, .int .i64 ↑T.al, .slice Aw 600 cw, .slice Ap lp.length cp], .row (bp) (225) (4) (.slice Ap lp.length cp) (lp.length) (prs lp), .row (bw) (111) (1) (.slice Aw 600 cw) (600) (ws cc)]) (fun i _ => 12 - (intOf i).toNat)
     case atStart => exact ⟨0, cc, L, B, [], Aw, cw, none, 0, bw, 0, by omega, by omega, rfl, hwl, hS0, H⟩
     case round =>
       clear H hS0 hwl
       obtain ⟨k, cc, L, B, lp, Aw, cw, Ap, cp, bw, bp, hk12, hkn, rfl, hwl, hS, HM⟩ := hrel
       have H : Mem (w) [] (wr) [.blk (w.heap.size) 24 #[.slice A n m, .int .i64 a, .int .i64 b, .int .i64 c, .int .i64 d], .blk (w.heap.size + 1) 34 #[.slice none 0 0, .int .i64 0, .int .i64 0, .int .i64 0, .int .i64 0, .slice none 0 0, .slice none 0 0], .row (w1.heap.size) (166) (2) (.slice At nt ct) (nt) (drs T.tl), .blk (gs) 34 #[.slice At nt ct, .int .i64 ↑T.fx, .int .i64 ↑T.fb, .int .i64 ↑T.db, .int .i64 ↑T.al, .slice Aw 600 cw, .slice Ap lp.length cp], .row (bp) (225) (4) (.slice Ap lp.length cp) (lp.length) (prs lp), .row (bw) (111) (1) (.slice Aw 600 cw) (600) (ws cc)] := HM
       clear HM

       by_cases hlt : k < nl ∧ k < 12
       · obtain ⟨hk1, hk2⟩ := hlt
         obtain ⟨A9, c9, e9, _, _, hwf, hcl⟩ := hl
         injection e9 with e91 _ e93
         subst e91 e93
         obtain ⟨bl, ol, rfl, hbl0, hcl⟩ := hcl (by omega)
         have hbw := H.below
         have wf0 := hwf k hk1 0 .i64 rfl
         have wf1 := hwf k hk1 1 .i64 rfl
         have wf2 := hwf k hk1 2 .i64 rfl
         have wf3 := hwf k hk1 3 .i64 rfl
         have wf4 := hwf k hk1 4 .i64 rfl
         have p0 : wr.cell? ⟨bl, ol + k * 5, none⟩ = _ := (hbw.cell (p := ⟨bl, ol + k * 5, none⟩) hbl0).trans (hcl k hk1 0 .i64 rfl)
         have p1 : wr.cell? ⟨bl, ol + k * 5 + 1, none⟩ = _ := (hbw.cell (p := ⟨bl, ol + k * 5 + 1, none⟩) hbl0).trans (hcl k hk1 1 .i64 rfl)
         have p2 : wr.cell? ⟨bl, ol + k * 5 + 2, none⟩ = _ := (hbw.cell (p := ⟨bl, ol + k * 5 + 2, none⟩) hbl0).trans (hcl k hk1 2 .i64 rfl)
         have p3 : wr.cell? ⟨bl, ol + k * 5 + 3, none⟩ = _ := (hbw.cell (p := ⟨bl, ol + k * 5 + 3, none⟩) hbl0).trans (hcl k hk1 3 .i64 rfl)
         have p4 : wr.cell? ⟨bl, ol + k * 5 + 4, none⟩ = _ := (hbw.cell (p := ⟨bl, ol + k * 5 + 4, none⟩) hbl0).trans (hcl k hk1 4 .i64 rfl)
         have hbl : bl < wr.heap.size := Nat.lt_of_lt_of_le hbl0 hbw.size
         generalize f k 0 = x0 at wf0 p0
         generalize f k 1 = x1 at wf1 p1
         generalize f k 2 = x2 at wf2 p2
         generalize f k 3 = x3 at wf3 p3
         generalize f k 4 = x4 at wf4 p4
         clear hwf hcl hbw
         obtain ⟨q, hq, hq8⟩ := pk_nat x0 8 (by omega)
         obtain ⟨me, hme, hme3⟩ := pk_nat x1 3 (by omega)
         obtain ⟨dr, hd, hd6⟩ := pk_nat x4 65536 (by omega)
         have hp := hS.at_ (me := me) (by omega)
         have hlens := hS.lens
         have hlen := hS.len
         have hlpl := hS.lpl
         have hook := hS.ook
         have hds := isds_own (l := T.tl) HN.out (H.own_ 2 rfl)
         have hws0 := isws_own (xs := cc) hlen hwl (H.own_ 5 rfl)
         have ki1 : (k : Int) < (nl : Int) := by omega
         have ki2 : (k : Int) < 12 := by omega
         have HL := Lib.hid hlen
         by_cases hq0 : q = 0
         · subst hq0
           obtain ⟨ow0, how, how1⟩ := pk_nat x2 100000 (by omega)
           obtain ⟨bp2, hbp, hbp1⟩ := pk_nat x3 1000 (by omega)
           obtain ⟨ow, howe⟩ : ∃ ow, ow0 + 1 = ow := ⟨_, rfl⟩
           have hA : Hid (1 + pk x2 100000 = (ow : Int)) := by show _ = _; have e : pk x2 100000 = (ow0 : Int) := how.out; rw [e]; omega
           have hV := fun W h1 h2 => served0_ok T hT At nt ct (.slice Aw 600 cw) cc L B me me ow bp2 Ap lp.length cp x0 x1 x2 x3 x4 (dr : Int) W wf0 wf1 wf2 wf3 wf4 hq hme (by omega) hd hA (by omega) hbp (by omega) h1 h2 hS.srv hp (by omega) (by omega)
           obtain ⟨E, hE⟩ : ∃ E, (oweP (B.getD me cu0).a ow bp2).1 = E := ⟨_, rfl⟩
           obtain ⟨wl, hwe⟩ : ∃ wl, (if E = 0 then putW cc.length (L.length * 14) (evW (chgV me ow bp2)) else []) = wl := ⟨_, rfl⟩
           rw [hE, hwe] at hV
           unfold RetChg at hV
           have HX := Lib.hid (show E = 0 → (1 ≤ wl.length ∧ wl.length ≤ 15) ∧ (∀ p ∈ wl, p.1 < 600) ∧ (∀ p ∈ wl, p.2 < 4294967296) ∧ ∃ L2 B2, Shp T (applyW cc wl) L2 B2 lp (k + 1) from by
             intro h0
             rw [if_pos h0] at hwe
             have hv := chgV_ok (me := me) (ow := ow) (bp := bp2) (by omega) (by omega) (by omega) (by omega)
             have hkp := chg_law (T := T) hp (hE.trans h0)
             have hat := putW_at (len := cc.length) (at0 := L.length * 14) (r := evW (chgV me ow bp2)) (by simp only [evW, List.length_cons, List.length_nil]; omega)
             have hwn := putW_len cc.length (L.length * 14) (evW (chgV me ow bp2))
             have hlt := putW_lt (len := cc.length) (at0 := L.length * 14) (r := evW (chgV me ow bp2)) ⟨by simp [evW], fun x hx => by have := hv.lt x hx; omega⟩
             have hsh := hS.step (lp2 := lp) (by omega) hv ⟨show (5 : Nat) ≠ 1 by decide, show (0 : Nat) ≤ 1000000 by decide⟩ (place_some hp).1 hkp (by
               have e : oweP (B.getD me cu0).a ow bp2 = (0, (oweP (B.getD me cu0).a ow bp2).2) := by rw [← hE.trans h0]
               dsimp only; rw [(oweP_ne e).1]; dsimp only
               have h3 := hS.cus
               have hgd : B.getD me cu0 = B[me]'(place_some hp).1 := by simp [(place_some hp).1]
               rw [hgd]; exact hS.me me _) hook (by omega)
             have hsh2 : Shp T (applyW cc (putW cc.length (L.length * 14) (evW (chgV me ow bp2)))) _ _ lp (k + 1) := hsh
             rw [hwe] at hat hwn hlt hsh2
             simp [evW] at hwn
             exact ⟨by omega, fun p hp => by have := (hat p hp).2; omega, hlt, _, _, hsh2⟩)
           obtain ⟨nw, hnw⟩ : ∃ nw, wl.length = nw := ⟨_, rfl⟩
           rw [hnw] at hV HX
           have HW := Lib.hid hnw
           clear hwe hE how hA hbp how1 howe hp hlens hlen hlpl hook hnw hbl0
           obtain ⟨shlt, sh0, shf0, sh1, shf1, sh2, shf2, sh3, shf3, sh4, shf4, sh5, shf5, sh6, shf6⟩ := H.c7 3 rfl
           go_upto_region 16 with fail
           obtain ⟨LL, hLL⟩ : ∃ LL : List Chunk, [.blk (w.heap.size) 24 #[.slice A n m, .int .i64 a, .int .i64 b, .int .i64 c, .int .i64 d], .blk (w.heap.size + 1) 34 #[.slice none 0 0, .int .i64 0, .int .i64 0, .int .i64 0, .int .i64 0, .slice none 0 0, .slice none 0 0], .row (w1.heap.size) (166) (2) (.slice At nt ct) (nt) (drs T.tl), .blk (gs) 34 #[.slice At nt ct, .int .i64 ↑T.fx, .int .i64 ↑T.fb, .int .i64 ↑T.db, .int .i64 ↑T.al, .slice Aw 600 cw, .slice Ap lp.length cp], .row (bp) (225) (4) (.slice Ap lp.length cp) (lp.length) (prs lp), .row (bw) (111) (1) (.slice Aw 600 cw) (600) (ws cc)] = LL := ⟨_, rfl⟩
           rw [hLL] at H
           go_cut [16, 17, 15, 18] from 73 to 116 (fun p0 p1 p2 p3 wx => ∃ (ob rb : Nat) (A5 : Option Addr) (c5 : Nat) (base : Nat), p0 = .pointer (some ⟨ob, 0, none⟩) ∧ p1 = .pointer (some ⟨rb, 0, none⟩) ∧ p2 = .slice A5 nw c5 ∧ p3 = .int .i64 ↑E ∧ Mem (w) [] wx (LL ++ (.blk ob 32 #[.slice Ap lp.length cp] :: .blk rb 72 #[.int .i64 0, .int .i64 0, .int .i64 0, .int .i64 0, .int .i64 0, .int .i64 0, .int .i64 0, .int .i64 0, .string ⟨#[]⟩] :: [.row (base) (113) (2) (.slice A5 nw c5) (nw) (wrs wl)])) ∧ Below wr.heap.size wr wx)
           case first =>
             have nz0a : wr.heap.size ≠ gs := by have := shlt; omega
             have nz0b : wr.heap.size + 1 ≠ gs := by have := shlt; omega
             have nz0c : gs ≠ wr.heap.size := by have := shlt; omega
             have nz0d : gs ≠ wr.heap.size + 1 := by have := shlt; omega
             have nz1a : wr.heap.size ≠ bl := by have := hbl; omega
             have nz1b : wr.heap.size + 1 ≠ bl := by have := hbl; omega
             have nz1c : bl ≠ wr.heap.size := by have := hbl; omega
             have nz1d : bl ≠ wr.heap.size + 1 := by have := hbl; omega
             have V0 : Mem wr [] (wr).drew [] := (Mem.init wr).drew
             have B0 := V0.below
             have V1 : Mem wr [] (wr.alloc (.cells #[.slice none 0 0] 32)).drew [.blk (wr.heap.size) 32 #[.slice none 0 0]] := ((Mem.init wr).alloc _ rfl #[.slice none 0 0] 32).drew
             have B1 := V1.below
             have V1b0 := V1.blk 0 rfl
             have V2 : Mem wr [] (wr.alloc (.cells #[.int .i64 0, .int .i64 0, .int .i64 0, .int .i64 0, .int .i64 0, .int .i64 0, .int .i64 0, .int .i64 0, .string ⟨#[]⟩] 72)).drew [.blk (wr.heap.size) 72 #[.int .i64 0, .int .i64 0, .int .i64 0, .int .i64 0, .int .i64 0, .int .i64 0, .int .i64 0, .int .i64 0, .string ⟨#[]⟩]] := ((Mem.init wr).alloc _ rfl #[.int .i64 0, .int .i64 0, .int .i64 0, .int .i64 0, .int .i64 0, .int .i64 0, .int .i64 0, .int .i64 0, .string ⟨#[]⟩] 72).drew
             have B2 := V2.below
             have V2b1 := V2.blk 0 rfl
             have V3 : Mem wr [] ((wr.alloc (.cells #[.slice none 0 0] 32)).alloc (.cells #[.int .i64 0, .int .i64 0, .int .i64 0, .int .i64 0, .int .i64 0, .int .i64 0, .int .i64 0, .int .i64 0, .string ⟨#[]⟩] 72)).drew [.blk (wr.heap.size) 32 #[.slice none 0 0], .blk (wr.heap.size + 1) 72 #[.int .i64 0, .int .i64 0, .int .i64 0, .int .i64 0, .int .i64 0, .int .i64 0, .int .i64 0, .int .i64 0, .string ⟨#[]⟩]] := (((Mem.init wr).alloc _ rfl #[.slice none 0 0] 32).alloc (wr.heap.size + 1) (by simp) #[.int .i64 0, .int .i64 0, .int .i64 0, .int .i64 0, .int .i64 0, .int .i64 0, .int .i64 0, .int .i64 0, .string ⟨#[]⟩] 72).drew
             have B3 := V3.below
             have V3b0 := V3.blk 0 rfl
             have V3b1 := V3.blk 1 rfl
             have V4 : Mem wr [] ((wr.alloc (.cells #[.int .i64 0, .int .i64 0, .int .i64 0, .int .i64 0, .int .i64 0, .int .i64 0, .int .i64 0, .int .i64 0, .string ⟨#[]⟩] 72)).alloc (.cells #[.slice none 0 0] 32)).drew [.blk (wr.heap.size + 1) 32 #[.slice none 0 0], .blk (wr.heap.size) 72 #[.int .i64 0, .int .i64 0, .int .i64 0, .int .i64 0, .int .i64 0, .int .i64 0, .int .i64 0, .int .i64 0, .string ⟨#[]⟩]] := Mem.perm (List.Perm.swap _ _ _) (((Mem.init wr).alloc _ rfl #[.int .i64 0, .int .i64 0, .int .i64 0, .int .i64 0, .int .i64 0, .int .i64 0, .int .i64 0, .int .i64 0, .string ⟨#[]⟩] 72).alloc (wr.heap.size + 1) (by simp) #[.slice none 0 0] 32).drew
             have B4 := V4.below
             have V4b0 := V4.blk 0 rfl
             have V4b1 := V4.blk 1 rfl
             go_region_held3 (fun w' => w'.cell? ⟨gs, 0, none⟩ = some (.slice At nt ct) ∧ w'.cell? ⟨gs, 1, none⟩ = some (.int .i64 ↑T.fx) ∧ w'.cell? ⟨gs, 2, none⟩ = some (.int .i64 ↑T.fb) ∧ w'.cell? ⟨gs, 3, none⟩ = some (.int .i64 ↑T.db) ∧ w'.cell? ⟨gs, 4, none⟩ = some (.int .i64 ↑T.al) ∧ w'.cell? ⟨gs, 5, none⟩ = some (.slice Aw 600 cw) ∧ w'.cell? ⟨gs, 6, none⟩ = some (.slice Ap lp.length cp) ∧ w'.cell? ⟨bl, ol + k * 5, none⟩ = some (.int .i64 x0) ∧ w'.cell? ⟨bl, ol + k * 5 + 1, none⟩ = some (.int .i64 x1) ∧ w'.cell? ⟨bl, ol + k * 5 + 2, none⟩ = some (.int .i64 x2) ∧ w'.cell? ⟨bl, ol + k * 5 + 3, none⟩ = some (.int .i64 x3) ∧ w'.cell? ⟨bl, ol + k * 5 + 4, none⟩ = some (.int .i64 x4)) (first | with_reducible exact ⟨s0, s1, s2, s3, s4, s5, s6, s7, s8, s9, s10, s11⟩ | go_keep | fail) (first | (go_at_call 16; (with_reducible refine (hV (wr).drew (hds.below B0) (hws0.below B0)).mono ?_); rintro e we ⟨A5, c5, rfl, hown, hbe⟩; have hV := V0; obtain ⟨bse, hK⟩ : ∃ bse : Nat, Mem (wr).drew [] we [.row (bse) (113) (2) (.slice A5 nw c5) (nw) (wrs wl)] := ⟨_, Mem.row (Mem.init _) hbe hown (Nat.le_refl _)⟩; have hWe : Below wr.heap.size wr we := B0.trans (hbe.mono B0.size); have s0 := (hWe.cell (p := ⟨gs, 0, none⟩) shlt).trans sh0; have s1 := (hWe.cell (p := ⟨gs, 1, none⟩) shlt).trans sh1; have s2 := (hWe.cell (p := ⟨gs, 2, none⟩) shlt).trans sh2; have s3 := (hWe.cell (p := ⟨gs, 3, none⟩) shlt).trans sh3; have s4 := (hWe.cell (p := ⟨gs, 4, none⟩) shlt).trans sh4; have s5 := (hWe.cell (p := ⟨gs, 5, none⟩) shlt).trans sh5; have s6 := (hWe.cell (p := ⟨gs, 6, none⟩) shlt).trans sh6; have s7 := (hWe.cell (p := ⟨bl, ol + k * 5, none⟩) hbl).trans p0; have s8 := (hWe.cell (p := ⟨bl, ol + k * 5 + 1, none⟩) hbl).trans p1; have s9 := (hWe.cell (p := ⟨bl, ol + k * 5 + 2, none⟩) hbl).trans p2; have s10 := (hWe.cell (p := ⟨bl, ol + k * 5 + 3, none⟩) hbl).trans p3; have s11 := (hWe.cell (p := ⟨bl, ol + k * 5 + 4, none⟩) hbl).trans p4; have sz := hWe.size; have ez0a : we.heap.size ≠ gs := (by have := shlt; omega); have ez0b : we.heap.size + 1 ≠ gs := (by have := shlt; omega); have ez1a : we.heap.size ≠ bl := (by have := hbl; omega); have ez1b : we.heap.size + 1 ≠ bl := (by have := hbl; omega)) | (go_at_call 16; (with_reducible refine (hV (wr.alloc (.cells #[.slice none 0 0] 32)).drew (hds.below B1) (hws0.below B1)).mono ?_); rintro e we ⟨A5, c5, rfl, hown, hbe⟩; have hV := V1; obtain ⟨bse, hK⟩ : ∃ bse : Nat, Mem (wr.alloc (.cells #[.slice none 0 0] 32)).drew [] we [.row (bse) (113) (2) (.slice A5 nw c5) (nw) (wrs wl)] := ⟨_, Mem.row (Mem.init _) hbe hown (Nat.le_refl _)⟩; have hWe : Below wr.heap.size wr we := B1.trans (hbe.mono B1.size); have s0 := (hWe.cell (p := ⟨gs, 0, none⟩) shlt).trans sh0; have s1 := (hWe.cell (p := ⟨gs, 1, none⟩) shlt).trans sh1; have s2 := (hWe.cell (p := ⟨gs, 2, none⟩) shlt).trans sh2; have s3 := (hWe.cell (p := ⟨gs, 3, none⟩) shlt).trans sh3; have s4 := (hWe.cell (p := ⟨gs, 4, none⟩) shlt).trans sh4; have s5 := (hWe.cell (p := ⟨gs, 5, none⟩) shlt).trans sh5; have s6 := (hWe.cell (p := ⟨gs, 6, none⟩) shlt).trans sh6; have s7 := (hWe.cell (p := ⟨bl, ol + k * 5, none⟩) hbl).trans p0; have s8 := (hWe.cell (p := ⟨bl, ol + k * 5 + 1, none⟩) hbl).trans p1; have s9 := (hWe.cell (p := ⟨bl, ol + k * 5 + 2, none⟩) hbl).trans p2; have s10 := (hWe.cell (p := ⟨bl, ol + k * 5 + 3, none⟩) hbl).trans p3; have s11 := (hWe.cell (p := ⟨bl, ol + k * 5 + 4, none⟩) hbl).trans p4; have sz := hWe.size; have ez0a : we.heap.size ≠ gs := (by have := shlt; omega); have ez0b : we.heap.size + 1 ≠ gs := (by have := shlt; omega); have ez1a : we.heap.size ≠ bl := (by have := hbl; omega); have ez1b : we.heap.size + 1 ≠ bl := (by have := hbl; omega); have zb0 := Blk.below V1b0 hbe V1b0.lt; have zb0_0 := zb0.cell 0; have zb0f0 := zb0.frozen 0; have zb0lt : wr.heap.size < we.heap.size := zb0.lt) | (go_at_call 16; (with_reducible refine (hV (wr.alloc (.cells #[.int .i64 0, .int .i64 0, .int .i64 0, .int .i64 0, .int .i64 0, .int .i64 0, .int .i64 0, .int .i64 0, .string ⟨#[]⟩] 72)).drew (hds.below B2) (hws0.below B2)).mono ?_); rintro e we ⟨A5, c5, rfl, hown, hbe⟩; have hV := V2; obtain ⟨bse, hK⟩ : ∃ bse : Nat, Mem (wr.alloc (.cells #[.int .i64 0, .int .i64 0, .int .i64 0, .int .i64 0, .int .i64 0, .int .i64 0, .int .i64 0, .int .i64 0, .string ⟨#[]⟩] 72)).drew [] we [.row (bse) (113) (2) (.slice A5 nw c5) (nw) (wrs wl)] := ⟨_, Mem.row (Mem.init _) hbe hown (Nat.le_refl _)⟩; have hWe : Below wr.heap.size wr we := B2.trans (hbe.mono B2.size); have s0 := (hWe.cell (p := ⟨gs, 0, none⟩) shlt).trans sh0; have s1 := (hWe.cell (p := ⟨gs, 1, none⟩) shlt).trans sh1; have s2 := (hWe.cell (p := ⟨gs, 2, none⟩) shlt).trans sh2; have s3 := (hWe.cell (p := ⟨gs, 3, none⟩) shlt).trans sh3; have s4 := (hWe.cell (p := ⟨gs, 4, none⟩) shlt).trans sh4; have s5 := (hWe.cell (p := ⟨gs, 5, none⟩) shlt).trans sh5; have s6 := (hWe.cell (p := ⟨gs, 6, none⟩) shlt).trans sh6; have s7 := (hWe.cell (p := ⟨bl, ol + k * 5, none⟩) hbl).trans p0; have s8 := (hWe.cell (p := ⟨bl, ol + k * 5 + 1, none⟩) hbl).trans p1; have s9 := (hWe.cell (p := ⟨bl, ol + k * 5 + 2, none⟩) hbl).trans p2; have s10 := (hWe.cell (p := ⟨bl, ol + k * 5 + 3, none⟩) hbl).trans p3; have s11 := (hWe.cell (p := ⟨bl, ol + k * 5 + 4, none⟩) hbl).trans p4; have sz := hWe.size; have ez0a : we.heap.size ≠ gs := (by have := shlt; omega); have ez0b : we.heap.size + 1 ≠ gs := (by have := shlt; omega); have ez1a : we.heap.size ≠ bl := (by have := hbl; omega); have ez1b : we.heap.size + 1 ≠ bl := (by have := hbl; omega); have zb1 := Blk.below V2b1 hbe V2b1.lt; have zb1_0 := zb1.cell 0; have zb1f0 := zb1.frozen 0; have zb1_1 := zb1.cell 1; have zb1f1 := zb1.frozen 1; have zb1_2 := zb1.cell 2; have zb1f2 := zb1.frozen 2; have zb1_3 := zb1.cell 3; have zb1f3 := zb1.frozen 3; have zb1_4 := zb1.cell 4; have zb1f4 := zb1.frozen 4; have zb1_5 := zb1.cell 5; have zb1f5 := zb1.frozen 5; have zb1_6 := zb1.cell 6; have zb1f6 := zb1.frozen 6; have zb1_7 := zb1.cell 7; have zb1f7 := zb1.frozen 7; have zb1_8 := zb1.cell 8; have zb1f8 := zb1.frozen 8; have zb1lt : wr.heap.size < we.heap.size := zb1.lt) | (go_at_call 16; (with_reducible refine (hV ((wr.alloc (.cells #[.slice none 0 0] 32)).alloc (.cells #[.int .i64 0, .int .i64 0, .int .i64 0, .int .i64 0, .int .i64 0, .int .i64 0, .int .i64 0, .int .i64 0, .string ⟨#[]⟩] 72)).drew (hds.below B3) (hws0.below B3)).mono ?_); rintro e we ⟨A5, c5, rfl, hown, hbe⟩; have hV := V3; obtain ⟨bse, hK⟩ : ∃ bse : Nat, Mem ((wr.alloc (.cells #[.slice none 0 0] 32)).alloc (.cells #[.int .i64 0, .int .i64 0, .int .i64 0, .int .i64 0, .int .i64 0, .int .i64 0, .int .i64 0, .int .i64 0, .string ⟨#[]⟩] 72)).drew [] we [.row (bse) (113) (2) (.slice A5 nw c5) (nw) (wrs wl)] := ⟨_, Mem.row (Mem.init _) hbe hown (Nat.le_refl _)⟩; have hWe : Below wr.heap.size wr we := B3.trans (hbe.mono B3.size); have s0 := (hWe.cell (p := ⟨gs, 0, none⟩) shlt).trans sh0; have s1 := (hWe.cell (p := ⟨gs, 1, none⟩) shlt).trans sh1; have s2 := (hWe.cell (p := ⟨gs, 2, none⟩) shlt).trans sh2; have s3 := (hWe.cell (p := ⟨gs, 3, none⟩) shlt).trans sh3; have s4 := (hWe.cell (p := ⟨gs, 4, none⟩) shlt).trans sh4; have s5 := (hWe.cell (p := ⟨gs, 5, none⟩) shlt).trans sh5; have s6 := (hWe.cell (p := ⟨gs, 6, none⟩) shlt).trans sh6; have s7 := (hWe.cell (p := ⟨bl, ol + k * 5, none⟩) hbl).trans p0; have s8 := (hWe.cell (p := ⟨bl, ol + k * 5 + 1, none⟩) hbl).trans p1; have s9 := (hWe.cell (p := ⟨bl, ol + k * 5 + 2, none⟩) hbl).trans p2; have s10 := (hWe.cell (p := ⟨bl, ol + k * 5 + 3, none⟩) hbl).trans p3; have s11 := (hWe.cell (p := ⟨bl, ol + k * 5 + 4, none⟩) hbl).trans p4; have sz := hWe.size; have ez0a : we.heap.size ≠ gs := (by have := shlt; omega); have ez0b : we.heap.size + 1 ≠ gs := (by have := shlt; omega); have ez1a : we.heap.size ≠ bl := (by have := hbl; omega); have ez1b : we.heap.size + 1 ≠ bl := (by have := hbl; omega); have zb0 := Blk.below V3b0 hbe V3b0.lt; have zb0_0 := zb0.cell 0; have zb0f0 := zb0.frozen 0; have zb0lt : wr.heap.size < we.heap.size := zb0.lt; have zb1 := Blk.below V3b1 hbe V3b1.lt; have zb1_0 := zb1.cell 0; have zb1f0 := zb1.frozen 0; have zb1_1 := zb1.cell 1; have zb1f1 := zb1.frozen 1; have zb1_2 := zb1.cell 2; have zb1f2 := zb1.frozen 2; have zb1_3 := zb1.cell 3; have zb1f3 := zb1.frozen 3; have zb1_4 := zb1.cell 4; have zb1f4 := zb1.frozen 4; have zb1_5 := zb1.cell 5; have zb1f5 := zb1.frozen 5; have zb1_6 := zb1.cell 6; have zb1f6 := zb1.frozen 6; have zb1_7 := zb1.cell 7; have zb1f7 := zb1.frozen 7; have zb1_8 := zb1.cell 8; have zb1f8 := zb1.frozen 8; have zb1lt : wr.heap.size + 1 < we.heap.size := zb1.lt; have zn1 : wr.heap.size ≠ wr.heap.size + 1 := (by omega); have zn2 : wr.heap.size + 1 ≠ wr.heap.size := (by omega)) | (go_at_call 16; (with_reducible refine (hV ((wr.alloc (.cells #[.int .i64 0, .int .i64 0, .int .i64 0, .int .i64 0, .int .i64 0, .int .i64 0, .int .i64 0, .int .i64 0, .string ⟨#[]⟩] 72)).alloc (.cells #[.slice none 0 0] 32)).drew (hds.below B4) (hws0.below B4)).mono ?_); rintro e we ⟨A5, c5, rfl, hown, hbe⟩; have hV := V4; obtain ⟨bse, hK⟩ : ∃ bse : Nat, Mem ((wr.alloc (.cells #[.int .i64 0, .int .i64 0, .int .i64 0, .int .i64 0, .int .i64 0, .int .i64 0, .int .i64 0, .int .i64 0, .string ⟨#[]⟩] 72)).alloc (.cells #[.slice none 0 0] 32)).drew [] we [.row (bse) (113) (2) (.slice A5 nw c5) (nw) (wrs wl)] := ⟨_, Mem.row (Mem.init _) hbe hown (Nat.le_refl _)⟩; have hWe : Below wr.heap.size wr we := B4.trans (hbe.mono B4.size); have s0 := (hWe.cell (p := ⟨gs, 0, none⟩) shlt).trans sh0; have s1 := (hWe.cell (p := ⟨gs, 1, none⟩) shlt).trans sh1; have s2 := (hWe.cell (p := ⟨gs, 2, none⟩) shlt).trans sh2; have s3 := (hWe.cell (p := ⟨gs, 3, none⟩) shlt).trans sh3; have s4 := (hWe.cell (p := ⟨gs, 4, none⟩) shlt).trans sh4; have s5 := (hWe.cell (p := ⟨gs, 5, none⟩) shlt).trans sh5; have s6 := (hWe.cell (p := ⟨gs, 6, none⟩) shlt).trans sh6; have s7 := (hWe.cell (p := ⟨bl, ol + k * 5, none⟩) hbl).trans p0; have s8 := (hWe.cell (p := ⟨bl, ol + k * 5 + 1, none⟩) hbl).trans p1; have s9 := (hWe.cell (p := ⟨bl, ol + k * 5 + 2, none⟩) hbl).trans p2; have s10 := (hWe.cell (p := ⟨bl, ol + k * 5 + 3, none⟩) hbl).trans p3; have s11 := (hWe.cell (p := ⟨bl, ol + k * 5 + 4, none⟩) hbl).trans p4; have sz := hWe.size; have ez0a : we.heap.size ≠ gs := (by have := shlt; omega); have ez0b : we.heap.size + 1 ≠ gs := (by have := shlt; omega); have ez1a : we.heap.size ≠ bl := (by have := hbl; omega); have ez1b : we.heap.size + 1 ≠ bl := (by have := hbl; omega); have zb0 := Blk.below V4b0 hbe V4b0.lt; have zb0_0 := zb0.cell 0; have zb0f0 := zb0.frozen 0; have zb0lt : wr.heap.size + 1 < we.heap.size := zb0.lt; have zb1 := Blk.below V4b1 hbe V4b1.lt; have zb1_0 := zb1.cell 0; have zb1f0 := zb1.frozen 0; have zb1_1 := zb1.cell 1; have zb1f1 := zb1.frozen 1; have zb1_2 := zb1.cell 2; have zb1f2 := zb1.frozen 2; have zb1_3 := zb1.cell 3; have zb1f3 := zb1.frozen 3; have zb1_4 := zb1.cell 4; have zb1f4 := zb1.frozen 4; have zb1_5 := zb1.cell 5; have zb1f5 := zb1.frozen 5; have zb1_6 := zb1.cell 6; have zb1f6 := zb1.frozen 6; have zb1_7 := zb1.cell 7; have zb1f7 := zb1.frozen 7; have zb1_8 := zb1.cell 8; have zb1f8 := zb1.frozen 8; have zb1lt : wr.heap.size < we.heap.size := zb1.lt; have zn1 : wr.heap.size + 1 ≠ wr.heap.size := (by omega); have zn2 : wr.heap.size ≠ wr.heap.size + 1 := (by omega)))
             all_goals
               go_wp2_with fail
               go_meet
               refine ⟨_, _, A5, c5, bse, rfl, rfl, rfl, rfl, ?_⟩
               first
               | with_reducible exact ⟨cr2_a H hV hK, (cr2_a (Mem.init wr) hV hK).below⟩
               | with_reducible exact ⟨cr2_b H hV hK, (cr2_b (Mem.init wr) hV hK).below⟩
               | (have h := cr2_c (c1 := #[.slice Ap lp.length cp]) (c2 := #[.int .i64 0, .int .i64 0, .int .i64 0, .int .i64 0, .int .i64 0, .int .i64 0, .int .i64 0, .int .i64 0, .string ⟨#[]⟩]) (t1 := 32) (t2 := 72) H hV hK [(0, .slice Ap lp.length cp)] (by simp only [List.foldl_cons, List.foldl_nil, List.setIfInBounds_toArray, List.set_cons_zero])
                  have h2 := (cr2_c (c1 := #[.slice Ap lp.length cp]) (c2 := #[.int .i64 0, .int .i64 0, .int .i64 0, .int .i64 0, .int .i64 0, .int .i64 0, .int .i64 0, .int .i64 0, .string ⟨#[]⟩]) (t1 := 32) (t2 := 72) (Mem.init wr) hV hK [(0, .slice Ap lp.length cp)] (by simp only [List.foldl_cons, List.foldl_nil, List.setIfInBounds_toArray, List.set_cons_zero])).below
                  simp only [sets, List.foldl_cons, List.foldl_nil] at h h2
                  with_reducible exact ⟨h, h2⟩)
               | (have h := cr2_d (c1 := #[.slice Ap lp.length cp]) (c2 := #[.int .i64 0, .int .i64 0, .int .i64 0, .int .i64 0, .int .i64 0, .int .i64 0, .int .i64 0, .int .i64 0, .string ⟨#[]⟩]) (t1 := 32) (t2 := 72) H hV hK [(0, .int .i64 0), (1, .int .i64 0), (2, .int .i64 0), (3, .int .i64 0), (4, .int .i64 0), (5, .int .i64 0), (6, .int .i64 0), (7, .int .i64 0), (8, .string ⟨#[]⟩)] (by simp only [List.foldl_cons, List.foldl_nil, List.setIfInBounds_toArray, List.set_cons_zero, List.set_cons_succ])
                  have h2 := (cr2_d (c1 := #[.slice Ap lp.length cp]) (c2 := #[.int .i64 0, .int .i64 0, .int .i64 0, .int .i64 0, .int .i64 0, .int .i64 0, .int .i64 0, .int .i64 0, .string ⟨#[]⟩]) (t1 := 32) (t2 := 72) (Mem.init wr) hV hK [(0, .int .i64 0), (1, .int .i64 0), (2, .int .i64 0), (3, .int .i64 0), (4, .int .i64 0), (5, .int .i64 0), (6, .int .i64 0), (7, .int .i64 0), (8, .string ⟨#[]⟩)] (by simp only [List.foldl_cons, List.foldl_nil, List.setIfInBounds_toArray, List.set_cons_zero, List.set_cons_succ])).below
                  simp only [sets, List.foldl_cons, List.foldl_nil] at h h2
                  with_reducible exact ⟨h, h2⟩)
               | (have h := cr2_e (c1 := #[.slice Ap lp.length cp]) (c2 := #[.int .i64 0, .int .i64 0, .int .i64 0, .int .i64 0, .int .i64 0, .int .i64 0, .int .i64 0, .int .i64 0, .string ⟨#[]⟩]) (t1 := 32) (t2 := 72) H hV hK [(0, .slice Ap lp.length cp)] [(0, .int .i64 0), (1, .int .i64 0), (2, .int .i64 0), (3, .int .i64 0), (4, .int .i64 0), (5, .int .i64 0), (6, .int .i64 0), (7, .int .i64 0), (8, .string ⟨#[]⟩)] (by simp only [List.foldl_cons, List.foldl_nil, List.setIfInBounds_toArray, List.set_cons_zero]) (by simp only [List.foldl_cons, List.foldl_nil, List.setIfInBounds_toArray, List.set_cons_zero, List.set_cons_succ])
                  have h2 := (cr2_e (c1 := #[.slice Ap lp.length cp]) (c2 := #[.int .i64 0, .int .i64 0, .int .i64 0, .int .i64 0, .int .i64 0, .int .i64 0, .int .i64 0, .int .i64 0, .string ⟨#[]⟩]) (t1 := 32) (t2 := 72) (Mem.init wr) hV hK [(0, .slice Ap lp.length cp)] [(0, .int .i64 0), (1, .int .i64 0), (2, .int .i64 0), (3, .int .i64 0), (4, .int .i64 0), (5, .int .i64 0), (6, .int .i64 0), (7, .int .i64 0), (8, .string ⟨#[]⟩)] (by simp only [List.foldl_cons, List.foldl_nil, List.setIfInBounds_toArray, List.set_cons_zero]) (by simp only [List.foldl_cons, List.foldl_nil, List.setIfInBounds_toArray, List.set_cons_zero, List.set_cons_succ])).below
                  simp only [sets, List.foldl_cons, List.foldl_nil] at h h2
                  with_reducible exact ⟨h, h2⟩)
               | (have h := cr2_f (c1 := #[.slice Ap lp.length cp]) (c2 := #[.int .i64 0, .int .i64 0, .int .i64 0, .int .i64 0, .int .i64 0, .int .i64 0, .int .i64 0, .int .i64 0, .string ⟨#[]⟩]) (t1 := 32) (t2 := 72) H hV hK [(0, .slice Ap lp.length cp)] [(0, .int .i64 0), (1, .int .i64 0), (2, .int .i64 0), (3, .int .i64 0), (4, .int .i64 0), (5, .int .i64 0), (6, .int .i64 0), (7, .int .i64 0), (8, .string ⟨#[]⟩)] (by simp only [List.foldl_cons, List.foldl_nil, List.setIfInBounds_toArray, List.set_cons_zero]) (by simp only [List.foldl_cons, List.foldl_nil, List.setIfInBounds_toArray, List.set_cons_zero, List.set_cons_succ])
                  have h2 := (cr2_f (c1 := #[.slice Ap lp.length cp]) (c2 := #[.int .i64 0, .int .i64 0, .int .i64 0, .int .i64 0, .int .i64 0, .int .i64 0, .int .i64 0, .int .i64 0, .string ⟨#[]⟩]) (t1 := 32) (t2 := 72) (Mem.init wr) hV hK [(0, .slice Ap lp.length cp)] [(0, .int .i64 0), (1, .int .i64 0), (2, .int .i64 0), (3, .int .i64 0), (4, .int .i64 0), (5, .int .i64 0), (6, .int .i64 0), (7, .int .i64 0), (8, .string ⟨#[]⟩)] (by simp only [List.foldl_cons, List.foldl_nil, List.setIfInBounds_toArray, List.set_cons_zero]) (by simp only [List.foldl_cons, List.foldl_nil, List.setIfInBounds_toArray, List.set_cons_zero, List.set_cons_succ])).below
                  simp only [sets, List.foldl_cons, List.foldl_nil] at h h2
                  with_reducible exact ⟨h, h2⟩)
           case rest =>
             obtain ⟨ob, rb, A5, c5, base, rfl, rfl, rfl, rfl, H, hCR⟩ := hcut
             subst hLL
             replace H : Mem (w) [] (wc) [.blk (w.heap.size) 24 #[.slice A n m, .int .i64 a, .int .i64 b, .int .i64 c, .int .i64 d], .blk (w.heap.size + 1) 34 #[.slice none 0 0, .int .i64 0, .int .i64 0, .int .i64 0, .int .i64 0, .slice none 0 0, .slice none 0 0], .row (w1.heap.size) (166) (2) (.slice At nt ct) (nt) (drs T.tl), .blk (gs) 34 #[.slice At nt ct, .int .i64 ↑T.fx, .int .i64 ↑T.fb, .int .i64 ↑T.db, .int .i64 ↑T.al, .slice Aw 600 cw, .slice Ap lp.length cp], .row (bp) (225) (4) (.slice Ap lp.length cp) (lp.length) (prs lp), .row (bw) (111) (1) (.slice Aw 600 cw) (600) (ws cc), .blk (ob) 32 #[.slice Ap lp.length cp], .blk (rb) 72 #[.int .i64 0, .int .i64 0, .int .i64 0, .int .i64 0, .int .i64 0, .int .i64 0, .int .i64 0, .int .i64 0, .string ⟨#[]⟩], .row (base) (113) (2) (.slice A5 nw c5) (nw) (wrs wl)] := H
             clear hV hds hws0 hCR p0 p1 p2 p3 p4 hbl
             by_cases hE : E = 0
             · subst hE
               obtain ⟨hwn, hat, hx1, hsh⟩ := HX.out rfl
               have hwz : ((nw : Int) == 0) = false := by simp; omega
               have hwz2 : ¬ (nw : Int) = 0 := by omega
               have HS := Lib.hid hsh
               have hws := isws_own (xs := cc) HL.out hwl (H.own_ 5 rfl)
               have hwr := iswr_own (l := wl) HW.out hx1 (H.own_ 8 rfl)
               have HAt := Lib.hid hat
               clear hsh hat HX
               clear shlt sh0 shf0 sh1 shf1 sh2 shf2 sh3 shf3 sh4 shf4 sh5 shf5 sh6 shf6
               obtain ⟨shlt, sh0, shf0, sh1, shf1, sh2, shf2, sh3, shf3, sh4, shf4, sh5, shf5, sh6, shf6⟩ := H.c7 3 rfl
               go_wp2_with fail
               refine (apply600 Aw cw A5 c5 cc wl nw nw _ HW.out HL.out hws hwr HAt.out (by omega) (Nat.le_refl _)).mono ?_
               rintro e wv ⟨A6, c6, rfl, ⟨hx6, ho6⟩, hb6⟩
               rw [List.take_of_length_le (Nat.le_of_eq HW.out)] at hx6 ho6
               replace H : Mem (w) [] (wv) [.blk (w.heap.size) 24 #[.slice A n m, .int .i64 a, .int .i64 b, .int .i64 c, .int .i64 d], .blk (w.heap.size + 1) 34 #[.slice none 0 0, .int .i64 0, .int .i64 0, .int .i64 0, .int .i64 0, .slice none 0 0, .slice none 0 0], .row (w1.heap.size) (166) (2) (.slice At nt ct) (nt) (drs T.tl), .blk (gs) 34 #[.slice At nt ct, .int .i64 ↑T.fx, .int .i64 ↑T.fb, .int .i64 ↑T.db, .int .i64 ↑T.al, .slice Aw 600 cw, .slice Ap lp.length cp], .row (bp) (225) (4) (.slice Ap lp.length cp) (lp.length) (prs lp), .row (bw) (111) (1) (.slice Aw 600 cw) (600) (ws cc), .blk (ob) 32 #[.slice Ap lp.length cp], .blk (rb) 72 #[.int .i64 0, .int .i64 0, .int .i64 0, .int .i64 0, .int .i64 0, .int .i64 0, .int .i64 0, .int .i64 0, .string ⟨#[]⟩], .row (base) (113) (2) (.slice A5 nw c5) (nw) (wrs wl), .row (wc.heap.size) (111) (1) (.slice A6 600 c6) (600) (ws (applyW cc wl))] := Mem.row H hb6 ho6 (Nat.le_refl _)
               clear hws hwr ho6 hb6
               clear shlt sh0 shf0 sh1 shf1 sh2 shf2 sh3 shf3 sh4 shf4 sh5 shf5 sh6 shf6
               obtain ⟨shlt, sh0, shf0, sh1, shf1, sh2, shf2, sh3, shf3, sh4, shf4, sh5, shf5, sh6, shf6⟩ := H.c7 3 rfl
               obtain ⟨oblt, ob0, obf0⟩ := H.c1 6 rfl
               have ne_sh_ob := H.ne 3 6 rfl rfl (by decide)
               have ne_ob_sh := H.ne 6 3 rfl rfl (by decide)
               go_wp2
               go_roundw
               case rel =>
                 have HZ := Mem.set 3 (Mem.set 3 H rfl 5 (.slice A6 600 c6)) rfl 6 (.slice Ap lp.length cp)
                 obtain ⟨L2, B2, hsh⟩ := HS.out
                 exact ⟨k + 1, applyW cc wl, L2, B2, lp, A6, c6, Ap, cp, _, bp, by omega, by omega, by go_num, hx6, hsh, Mem.drop_ 5 (Mem.drop_ 6 (Mem.drop_ 6 (Mem.drop_ 6 HZ)))⟩
               case measure => simp [intOf]; omega
             · have hEb : ((E : Int) == 0) = false := by simp; omega
               have hEn : ¬ (E : Int) = 0 := by omega
               clear HX
               go_wp2
               go_roundw
               case rel => exact ⟨k + 1, cc, L, B, lp, Aw, cw, Ap, cp, _, _, by omega, by omega, by go_num, hwl, hS.more, Mem.drop_ 6 (Mem.drop_ 6 (Mem.drop_ 6 H))⟩
               case measure => simp [intOf]; omega
         · skip
           obtain ⟨ta, hta0, hta1⟩ := pk_nat x2 1000000 (by omega)
           obtain ⟨mo, hmo, hmo1⟩ := pk_nat x3 12 (by omega)
           obtain ⟨te, hte⟩ : ∃ te, ta + 1 = te := ⟨_, rfl⟩
           have hA : Hid (1 + pk x2 1000000 = (te : Int)) := by show _ = _; have e : pk x2 1000000 = (ta : Int) := hta0.out; rw [e]; omega
           have hV := fun W h1 h2 h3 => serveds_ok T hT At nt ct (.slice Aw 600 cw) cc L B ⟨q, me, te, mo⟩ me dr Ap lp.length cp lp x0 x1 x2 x3 x4 W wf0 wf1 wf2 wf3 wf4 hq hq0 hme (show me ≤ 2 by omega) hd (by omega) hA (show 1 ≤ te ∧ te ≤ 1000000 by omega) hmo (show mo ≤ 11 by omega) h1 h2 hS.srv hp (by omega) (by omega) h3 hook (by omega)
           have hps0 := isps_own (l := lp) rfl (ook_wf hook) (H.own_ 4 rfl)
           have hXX := hS.sale (x := ⟨q, me, te, mo⟩) (d := dr) hT (by omega) ⟨show me ≤ 49 by omega, show 1 ≤ te by omega, show te ≤ 1000000 by omega, show mo ≤ 2399 by omega⟩ (show me ≤ 2 by omega) (by omega)
           dsimp only at hXX
           obtain ⟨v, hve⟩ : ∃ v, saleP T (B.getD me cu0).a lp cc.length L.length dr ⟨q, me, te, mo⟩ = v := ⟨_, rfl⟩
           rw [hve] at hV hXX
           obtain ⟨wl, lq, vme, ⟨id, te2, de, fe, pr, ch, un⟩, s, E⟩ := v
           unfold RetServe at hV
           dsimp only at hV hXX
           have HX := Lib.hid hXX
           obtain ⟨nw, hnw⟩ : ∃ nw, wl.length = nw := ⟨_, rfl⟩
           rw [hnw] at hV HX
           have HW := Lib.hid hnw
           clear hve hXX hA hta0 hmo hte hp hlens hlen hlpl hook hnw hbl0
           obtain ⟨shlt, sh0, shf0, sh1, shf1, sh2, shf2, sh3, shf3, sh4, shf4, sh5, shf5, sh6, shf6⟩ := H.c7 3 rfl
           go_upto_region 16 with fail
           obtain ⟨LL, hLL⟩ : ∃ LL : List Chunk, [.blk (w.heap.size) 24 #[.slice A n m, .int .i64 a, .int .i64 b, .int .i64 c, .int .i64 d], .blk (w.heap.size + 1) 34 #[.slice none 0 0, .int .i64 0, .int .i64 0, .int .i64 0, .int .i64 0, .slice none 0 0, .slice none 0 0], .row (w1.heap.size) (166) (2) (.slice At nt ct) (nt) (drs T.tl), .blk (gs) 34 #[.slice At nt ct, .int .i64 ↑T.fx, .int .i64 ↑T.fb, .int .i64 ↑T.db, .int .i64 ↑T.al, .slice Aw 600 cw, .slice Ap lp.length cp], .row (bp) (225) (4) (.slice Ap lp.length cp) (lp.length) (prs lp), .row (bw) (111) (1) (.slice Aw 600 cw) (600) (ws cc)] = LL := ⟨_, rfl⟩
           rw [hLL] at H
           go_cut [16, 17, 15, 18] from 73 to 116 (fun p0 p1 p2 p3 wx => ∃ (ob rb : Nat) (A5 : Option Addr) (c5 : Nat) (Aq : Option Addr) (cq : Nat) (base : Nat), p0 = .pointer (some ⟨ob, 0, none⟩) ∧ p1 = .pointer (some ⟨rb, 0, none⟩) ∧ p2 = .slice A5 nw c5 ∧ p3 = .int .i64 ↑E ∧ Mem (w) [] wx (LL ++ (.blk ob 32 #[.slice Aq lq.length cq] :: .blk rb 72 #[.int .i64 ↑vme, .int .i64 ↑id, .int .i64 ↑te2, .int .i64 ↑de, .int .i64 ↑fe, .int .i64 ↑pr, .int .i64 ↑ch, .int .i64 ↑un, .string s] :: [.row (base) (225) (4) (.slice Aq lq.length cq) (lq.length) (prs lq), .row (base) (113) (2) (.slice A5 nw c5) (nw) (wrs wl)])) ∧ Below wr.heap.size wr wx)
           case first =>
             have nz0a : wr.heap.size ≠ gs := by have := shlt; omega
             have nz0b : wr.heap.size + 1 ≠ gs := by have := shlt; omega
             have nz0c : gs ≠ wr.heap.size := by have := shlt; omega
             have nz0d : gs ≠ wr.heap.size + 1 := by have := shlt; omega
             have nz1a : wr.heap.size ≠ bl := by have := hbl; omega
             have nz1b : wr.heap.size + 1 ≠ bl := by have := hbl; omega
             have nz1c : bl ≠ wr.heap.size := by have := hbl; omega
             have nz1d : bl ≠ wr.heap.size + 1 := by have := hbl; omega
             have V0 : Mem wr [] (wr).drew [] := (Mem.init wr).drew
             have B0 := V0.below
             have V1 : Mem wr [] (wr.alloc (.cells #[.slice none 0 0] 32)).drew [.blk (wr.heap.size) 32 #[.slice none 0 0]] := ((Mem.init wr).alloc _ rfl #[.slice none 0 0] 32).drew
             have B1 := V1.below
             have V1b0 := V1.blk 0 rfl
             have V2 : Mem wr [] (wr.alloc (.cells #[.int .i64 0, .int .i64 0, .int .i64 0, .int .i64 0, .int .i64 0, .int .i64 0, .int .i64 0, .int .i64 0, .string ⟨#[]⟩] 72)).drew [.blk (wr.heap.size) 72 #[.int .i64 0, .int .i64 0, .int .i64 0, .int .i64 0, .int .i64 0, .int .i64 0, .int .i64 0, .int .i64 0, .string ⟨#[]⟩]] := ((Mem.init wr).alloc _ rfl #[.int .i64 0, .int .i64 0, .int .i64 0, .int .i64 0, .int .i64 0, .int .i64 0, .int .i64 0, .int .i64 0, .string ⟨#[]⟩] 72).drew
             have B2 := V2.below
             have V2b1 := V2.blk 0 rfl
             have V3 : Mem wr [] ((wr.alloc (.cells #[.slice none 0 0] 32)).alloc (.cells #[.int .i64 0, .int .i64 0, .int .i64 0, .int .i64 0, .int .i64 0, .int .i64 0, .int .i64 0, .int .i64 0, .string ⟨#[]⟩] 72)).drew [.blk (wr.heap.size) 32 #[.slice none 0 0], .blk (wr.heap.size + 1) 72 #[.int .i64 0, .int .i64 0, .int .i64 0, .int .i64 0, .int .i64 0, .int .i64 0, .int .i64 0, .int .i64 0, .string ⟨#[]⟩]] := (((Mem.init wr).alloc _ rfl #[.slice none 0 0] 32).alloc (wr.heap.size + 1) (by simp) #[.int .i64 0, .int .i64 0, .int .i64 0, .int .i64 0, .int .i64 0, .int .i64 0, .int .i64 0, .int .i64 0, .string ⟨#[]⟩] 72).drew
             have B3 := V3.below
             have V3b0 := V3.blk 0 rfl
             have V3b1 := V3.blk 1 rfl
             have V4 : Mem wr [] ((wr.alloc (.cells #[.int .i64 0, .int .i64 0, .int .i64 0, .int .i64 0, .int .i64 0, .int .i64 0, .int .i64 0, .int .i64 0, .string ⟨#[]⟩] 72)).alloc (.cells #[.slice none 0 0] 32)).drew [.blk (wr.heap.size + 1) 32 #[.slice none 0 0], .blk (wr.heap.size) 72 #[.int .i64 0, .int .i64 0, .int .i64 0, .int .i64 0, .int .i64 0, .int .i64 0, .int .i64 0, .int .i64 0, .string ⟨#[]⟩]] := Mem.perm (List.Perm.swap _ _ _) (((Mem.init wr).alloc _ rfl #[.int .i64 0, .int .i64 0, .int .i64 0, .int .i64 0, .int .i64 0, .int .i64 0, .int .i64 0, .int .i64 0, .string ⟨#[]⟩] 72).alloc (wr.heap.size + 1) (by simp) #[.slice none 0 0] 32).drew
             have B4 := V4.below
             have V4b0 := V4.blk 0 rfl
             have V4b1 := V4.blk 1 rfl
             go_region_held3 (fun w' => w'.cell? ⟨gs, 0, none⟩ = some (.slice At nt ct) ∧ w'.cell? ⟨gs, 1, none⟩ = some (.int .i64 ↑T.fx) ∧ w'.cell? ⟨gs, 2, none⟩ = some (.int .i64 ↑T.fb) ∧ w'.cell? ⟨gs, 3, none⟩ = some (.int .i64 ↑T.db) ∧ w'.cell? ⟨gs, 4, none⟩ = some (.int .i64 ↑T.al) ∧ w'.cell? ⟨gs, 5, none⟩ = some (.slice Aw 600 cw) ∧ w'.cell? ⟨gs, 6, none⟩ = some (.slice Ap lp.length cp) ∧ w'.cell? ⟨bl, ol + k * 5, none⟩ = some (.int .i64 x0) ∧ w'.cell? ⟨bl, ol + k * 5 + 1, none⟩ = some (.int .i64 x1) ∧ w'.cell? ⟨bl, ol + k * 5 + 2, none⟩ = some (.int .i64 x2) ∧ w'.cell? ⟨bl, ol + k * 5 + 3, none⟩ = some (.int .i64 x3) ∧ w'.cell? ⟨bl, ol + k * 5 + 4, none⟩ = some (.int .i64 x4)) (first | with_reducible exact ⟨s0, s1, s2, s3, s4, s5, s6, s7, s8, s9, s10, s11⟩ | go_keep | fail) (first | (go_at_call 16; (with_reducible refine (hV (wr).drew (hds.below B0) (hws0.below B0) (hps0.below B0)).mono ?_); rintro e we ⟨A5, c5, Aq, cq, rfl, ho1, ho2, hbe⟩; have hV := V0; obtain ⟨bse, hK⟩ : ∃ bse : Nat, Mem (wr).drew [] we [.row (bse) (225) (4) (.slice Aq lq.length cq) (lq.length) (prs lq), .row (bse) (113) (2) (.slice A5 nw c5) (nw) (wrs wl)] := ⟨_, Mem.row2 (Mem.init _) hbe ho1 ho2 (by decide)⟩; have hWe : Below wr.heap.size wr we := B0.trans (hbe.mono B0.size); have s0 := (hWe.cell (p := ⟨gs, 0, none⟩) shlt).trans sh0; have s1 := (hWe.cell (p := ⟨gs, 1, none⟩) shlt).trans sh1; have s2 := (hWe.cell (p := ⟨gs, 2, none⟩) shlt).trans sh2; have s3 := (hWe.cell (p := ⟨gs, 3, none⟩) shlt).trans sh3; have s4 := (hWe.cell (p := ⟨gs, 4, none⟩) shlt).trans sh4; have s5 := (hWe.cell (p := ⟨gs, 5, none⟩) shlt).trans sh5; have s6 := (hWe.cell (p := ⟨gs, 6, none⟩) shlt).trans sh6; have s7 := (hWe.cell (p := ⟨bl, ol + k * 5, none⟩) hbl).trans p0; have s8 := (hWe.cell (p := ⟨bl, ol + k * 5 + 1, none⟩) hbl).trans p1; have s9 := (hWe.cell (p := ⟨bl, ol + k * 5 + 2, none⟩) hbl).trans p2; have s10 := (hWe.cell (p := ⟨bl, ol + k * 5 + 3, none⟩) hbl).trans p3; have s11 := (hWe.cell (p := ⟨bl, ol + k * 5 + 4, none⟩) hbl).trans p4; have sz := hWe.size; have ez0a : we.heap.size ≠ gs := (by have := shlt; omega); have ez0b : we.heap.size + 1 ≠ gs := (by have := shlt; omega); have ez1a : we.heap.size ≠ bl := (by have := hbl; omega); have ez1b : we.heap.size + 1 ≠ bl := (by have := hbl; omega)) | (go_at_call 16; (with_reducible refine (hV (wr.alloc (.cells #[.slice none 0 0] 32)).drew (hds.below B1) (hws0.below B1) (hps0.below B1)).mono ?_); rintro e we ⟨A5, c5, Aq, cq, rfl, ho1, ho2, hbe⟩; have hV := V1; obtain ⟨bse, hK⟩ : ∃ bse : Nat, Mem (wr.alloc (.cells #[.slice none 0 0] 32)).drew [] we [.row (bse) (225) (4) (.slice Aq lq.length cq) (lq.length) (prs lq), .row (bse) (113) (2) (.slice A5 nw c5) (nw) (wrs wl)] := ⟨_, Mem.row2 (Mem.init _) hbe ho1 ho2 (by decide)⟩; have hWe : Below wr.heap.size wr we := B1.trans (hbe.mono B1.size); have s0 := (hWe.cell (p := ⟨gs, 0, none⟩) shlt).trans sh0; have s1 := (hWe.cell (p := ⟨gs, 1, none⟩) shlt).trans sh1; have s2 := (hWe.cell (p := ⟨gs, 2, none⟩) shlt).trans sh2; have s3 := (hWe.cell (p := ⟨gs, 3, none⟩) shlt).trans sh3; have s4 := (hWe.cell (p := ⟨gs, 4, none⟩) shlt).trans sh4; have s5 := (hWe.cell (p := ⟨gs, 5, none⟩) shlt).trans sh5; have s6 := (hWe.cell (p := ⟨gs, 6, none⟩) shlt).trans sh6; have s7 := (hWe.cell (p := ⟨bl, ol + k * 5, none⟩) hbl).trans p0; have s8 := (hWe.cell (p := ⟨bl, ol + k * 5 + 1, none⟩) hbl).trans p1; have s9 := (hWe.cell (p := ⟨bl, ol + k * 5 + 2, none⟩) hbl).trans p2; have s10 := (hWe.cell (p := ⟨bl, ol + k * 5 + 3, none⟩) hbl).trans p3; have s11 := (hWe.cell (p := ⟨bl, ol + k * 5 + 4, none⟩) hbl).trans p4; have sz := hWe.size; have ez0a : we.heap.size ≠ gs := (by have := shlt; omega); have ez0b : we.heap.size + 1 ≠ gs := (by have := shlt; omega); have ez1a : we.heap.size ≠ bl := (by have := hbl; omega); have ez1b : we.heap.size + 1 ≠ bl := (by have := hbl; omega); have zb0 := Blk.below V1b0 hbe V1b0.lt; have zb0_0 := zb0.cell 0; have zb0f0 := zb0.frozen 0; have zb0lt : wr.heap.size < we.heap.size := zb0.lt) | (go_at_call 16; (with_reducible refine (hV (wr.alloc (.cells #[.int .i64 0, .int .i64 0, .int .i64 0, .int .i64 0, .int .i64 0, .int .i64 0, .int .i64 0, .int .i64 0, .string ⟨#[]⟩] 72)).drew (hds.below B2) (hws0.below B2) (hps0.below B2)).mono ?_); rintro e we ⟨A5, c5, Aq, cq, rfl, ho1, ho2, hbe⟩; have hV := V2; obtain ⟨bse, hK⟩ : ∃ bse : Nat, Mem (wr.alloc (.cells #[.int .i64 0, .int .i64 0, .int .i64 0, .int .i64 0, .int .i64 0, .int .i64 0, .int .i64 0, .int .i64 0, .string ⟨#[]⟩] 72)).drew [] we [.row (bse) (225) (4) (.slice Aq lq.length cq) (lq.length) (prs lq), .row (bse) (113) (2) (.slice A5 nw c5) (nw) (wrs wl)] := ⟨_, Mem.row2 (Mem.init _) hbe ho1 ho2 (by decide)⟩; have hWe : Below wr.heap.size wr we := B2.trans (hbe.mono B2.size); have s0 := (hWe.cell (p := ⟨gs, 0, none⟩) shlt).trans sh0; have s1 := (hWe.cell (p := ⟨gs, 1, none⟩) shlt).trans sh1; have s2 := (hWe.cell (p := ⟨gs, 2, none⟩) shlt).trans sh2; have s3 := (hWe.cell (p := ⟨gs, 3, none⟩) shlt).trans sh3; have s4 := (hWe.cell (p := ⟨gs, 4, none⟩) shlt).trans sh4; have s5 := (hWe.cell (p := ⟨gs, 5, none⟩) shlt).trans sh5; have s6 := (hWe.cell (p := ⟨gs, 6, none⟩) shlt).trans sh6; have s7 := (hWe.cell (p := ⟨bl, ol + k * 5, none⟩) hbl).trans p0; have s8 := (hWe.cell (p := ⟨bl, ol + k * 5 + 1, none⟩) hbl).trans p1; have s9 := (hWe.cell (p := ⟨bl, ol + k * 5 + 2, none⟩) hbl).trans p2; have s10 := (hWe.cell (p := ⟨bl, ol + k * 5 + 3, none⟩) hbl).trans p3; have s11 := (hWe.cell (p := ⟨bl, ol + k * 5 + 4, none⟩) hbl).trans p4; have sz := hWe.size; have ez0a : we.heap.size ≠ gs := (by have := shlt; omega); have ez0b : we.heap.size + 1 ≠ gs := (by have := shlt; omega); have ez1a : we.heap.size ≠ bl := (by have := hbl; omega); have ez1b : we.heap.size + 1 ≠ bl := (by have := hbl; omega); have zb1 := Blk.below V2b1 hbe V2b1.lt; have zb1_0 := zb1.cell 0; have zb1f0 := zb1.frozen 0; have zb1_1 := zb1.cell 1; have zb1f1 := zb1.frozen 1; have zb1_2 := zb1.cell 2; have zb1f2 := zb1.frozen 2; have zb1_3 := zb1.cell 3; have zb1f3 := zb1.frozen 3; have zb1_4 := zb1.cell 4; have zb1f4 := zb1.frozen 4; have zb1_5 := zb1.cell 5; have zb1f5 := zb1.frozen 5; have zb1_6 := zb1.cell 6; have zb1f6 := zb1.frozen 6; have zb1_7 := zb1.cell 7; have zb1f7 := zb1.frozen 7; have zb1_8 := zb1.cell 8; have zb1f8 := zb1.frozen 8; have zb1lt : wr.heap.size < we.heap.size := zb1.lt) | (go_at_call 16; (with_reducible refine (hV ((wr.alloc (.cells #[.slice none 0 0] 32)).alloc (.cells #[.int .i64 0, .int .i64 0, .int .i64 0, .int .i64 0, .int .i64 0, .int .i64 0, .int .i64 0, .int .i64 0, .string ⟨#[]⟩] 72)).drew (hds.below B3) (hws0.below B3) (hps0.below B3)).mono ?_); rintro e we ⟨A5, c5, Aq, cq, rfl, ho1, ho2, hbe⟩; have hV := V3; obtain ⟨bse, hK⟩ : ∃ bse : Nat, Mem ((wr.alloc (.cells #[.slice none 0 0] 32)).alloc (.cells #[.int .i64 0, .int .i64 0, .int .i64 0, .int .i64 0, .int .i64 0, .int .i64 0, .int .i64 0, .int .i64 0, .string ⟨#[]⟩] 72)).drew [] we [.row (bse) (225) (4) (.slice Aq lq.length cq) (lq.length) (prs lq), .row (bse) (113) (2) (.slice A5 nw c5) (nw) (wrs wl)] := ⟨_, Mem.row2 (Mem.init _) hbe ho1 ho2 (by decide)⟩; have hWe : Below wr.heap.size wr we := B3.trans (hbe.mono B3.size); have s0 := (hWe.cell (p := ⟨gs, 0, none⟩) shlt).trans sh0; have s1 := (hWe.cell (p := ⟨gs, 1, none⟩) shlt).trans sh1; have s2 := (hWe.cell (p := ⟨gs, 2, none⟩) shlt).trans sh2; have s3 := (hWe.cell (p := ⟨gs, 3, none⟩) shlt).trans sh3; have s4 := (hWe.cell (p := ⟨gs, 4, none⟩) shlt).trans sh4; have s5 := (hWe.cell (p := ⟨gs, 5, none⟩) shlt).trans sh5; have s6 := (hWe.cell (p := ⟨gs, 6, none⟩) shlt).trans sh6; have s7 := (hWe.cell (p := ⟨bl, ol + k * 5, none⟩) hbl).trans p0; have s8 := (hWe.cell (p := ⟨bl, ol + k * 5 + 1, none⟩) hbl).trans p1; have s9 := (hWe.cell (p := ⟨bl, ol + k * 5 + 2, none⟩) hbl).trans p2; have s10 := (hWe.cell (p := ⟨bl, ol + k * 5 + 3, none⟩) hbl).trans p3; have s11 := (hWe.cell (p := ⟨bl, ol + k * 5 + 4, none⟩) hbl).trans p4; have sz := hWe.size; have ez0a : we.heap.size ≠ gs := (by have := shlt; omega); have ez0b : we.heap.size + 1 ≠ gs := (by have := shlt; omega); have ez1a : we.heap.size ≠ bl := (by have := hbl; omega); have ez1b : we.heap.size + 1 ≠ bl := (by have := hbl; omega); have zb0 := Blk.below V3b0 hbe V3b0.lt; have zb0_0 := zb0.cell 0; have zb0f0 := zb0.frozen 0; have zb0lt : wr.heap.size < we.heap.size := zb0.lt; have zb1 := Blk.below V3b1 hbe V3b1.lt; have zb1_0 := zb1.cell 0; have zb1f0 := zb1.frozen 0; have zb1_1 := zb1.cell 1; have zb1f1 := zb1.frozen 1; have zb1_2 := zb1.cell 2; have zb1f2 := zb1.frozen 2; have zb1_3 := zb1.cell 3; have zb1f3 := zb1.frozen 3; have zb1_4 := zb1.cell 4; have zb1f4 := zb1.frozen 4; have zb1_5 := zb1.cell 5; have zb1f5 := zb1.frozen 5; have zb1_6 := zb1.cell 6; have zb1f6 := zb1.frozen 6; have zb1_7 := zb1.cell 7; have zb1f7 := zb1.frozen 7; have zb1_8 := zb1.cell 8; have zb1f8 := zb1.frozen 8; have zb1lt : wr.heap.size + 1 < we.heap.size := zb1.lt; have zn1 : wr.heap.size ≠ wr.heap.size + 1 := (by omega); have zn2 : wr.heap.size + 1 ≠ wr.heap.size := (by omega)) | (go_at_call 16; (with_reducible refine (hV ((wr.alloc (.cells #[.int .i64 0, .int .i64 0, .int .i64 0, .int .i64 0, .int .i64 0, .int .i64 0, .int .i64 0, .int .i64 0, .string ⟨#[]⟩] 72)).alloc (.cells #[.slice none 0 0] 32)).drew (hds.below B4) (hws0.below B4) (hps0.below B4)).mono ?_); rintro e we ⟨A5, c5, Aq, cq, rfl, ho1, ho2, hbe⟩; have hV := V4; obtain ⟨bse, hK⟩ : ∃ bse : Nat, Mem ((wr.alloc (.cells #[.int .i64 0, .int .i64 0, .int .i64 0, .int .i64 0, .int .i64 0, .int .i64 0, .int .i64 0, .int .i64 0, .string ⟨#[]⟩] 72)).alloc (.cells #[.slice none 0 0] 32)).drew [] we [.row (bse) (225) (4) (.slice Aq lq.length cq) (lq.length) (prs lq), .row (bse) (113) (2) (.slice A5 nw c5) (nw) (wrs wl)] := ⟨_, Mem.row2 (Mem.init _) hbe ho1 ho2 (by decide)⟩; have hWe : Below wr.heap.size wr we := B4.trans (hbe.mono B4.size); have s0 := (hWe.cell (p := ⟨gs, 0, none⟩) shlt).trans sh0; have s1 := (hWe.cell (p := ⟨gs, 1, none⟩) shlt).trans sh1; have s2 := (hWe.cell (p := ⟨gs, 2, none⟩) shlt).trans sh2; have s3 := (hWe.cell (p := ⟨gs, 3, none⟩) shlt).trans sh3; have s4 := (hWe.cell (p := ⟨gs, 4, none⟩) shlt).trans sh4; have s5 := (hWe.cell (p := ⟨gs, 5, none⟩) shlt).trans sh5; have s6 := (hWe.cell (p := ⟨gs, 6, none⟩) shlt).trans sh6; have s7 := (hWe.cell (p := ⟨bl, ol + k * 5, none⟩) hbl).trans p0; have s8 := (hWe.cell (p := ⟨bl, ol + k * 5 + 1, none⟩) hbl).trans p1; have s9 := (hWe.cell (p := ⟨bl, ol + k * 5 + 2, none⟩) hbl).trans p2; have s10 := (hWe.cell (p := ⟨bl, ol + k * 5 + 3, none⟩) hbl).trans p3; have s11 := (hWe.cell (p := ⟨bl, ol + k * 5 + 4, none⟩) hbl).trans p4; have sz := hWe.size; have ez0a : we.heap.size ≠ gs := (by have := shlt; omega); have ez0b : we.heap.size + 1 ≠ gs := (by have := shlt; omega); have ez1a : we.heap.size ≠ bl := (by have := hbl; omega); have ez1b : we.heap.size + 1 ≠ bl := (by have := hbl; omega); have zb0 := Blk.below V4b0 hbe V4b0.lt; have zb0_0 := zb0.cell 0; have zb0f0 := zb0.frozen 0; have zb0lt : wr.heap.size + 1 < we.heap.size := zb0.lt; have zb1 := Blk.below V4b1 hbe V4b1.lt; have zb1_0 := zb1.cell 0; have zb1f0 := zb1.frozen 0; have zb1_1 := zb1.cell 1; have zb1f1 := zb1.frozen 1; have zb1_2 := zb1.cell 2; have zb1f2 := zb1.frozen 2; have zb1_3 := zb1.cell 3; have zb1f3 := zb1.frozen 3; have zb1_4 := zb1.cell 4; have zb1f4 := zb1.frozen 4; have zb1_5 := zb1.cell 5; have zb1f5 := zb1.frozen 5; have zb1_6 := zb1.cell 6; have zb1f6 := zb1.frozen 6; have zb1_7 := zb1.cell 7; have zb1f7 := zb1.frozen 7; have zb1_8 := zb1.cell 8; have zb1f8 := zb1.frozen 8; have zb1lt : wr.heap.size < we.heap.size := zb1.lt; have zn1 : wr.heap.size + 1 ≠ wr.heap.size := (by omega); have zn2 : wr.heap.size ≠ wr.heap.size + 1 := (by omega)))
             all_goals
               go_wp2_with fail
               go_meet
               refine ⟨_, _, A5, c5, Aq, cq, bse, rfl, rfl, rfl, rfl, ?_⟩
               first
               | with_reducible exact ⟨cr2_a H hV hK, (cr2_a (Mem.init wr) hV hK).below⟩
               | with_reducible exact ⟨cr2_b H hV hK, (cr2_b (Mem.init wr) hV hK).below⟩
               | (have h := cr2_c (c1 := #[.slice Aq lq.length cq]) (c2 := #[.int .i64 ↑vme, .int .i64 ↑id, .int .i64 ↑te2, .int .i64 ↑de, .int .i64 ↑fe, .int .i64 ↑pr, .int .i64 ↑ch, .int .i64 ↑un, .string s]) (t1 := 32) (t2 := 72) H hV hK [(0, .slice Aq lq.length cq)] (by simp only [List.foldl_cons, List.foldl_nil, List.setIfInBounds_toArray, List.set_cons_zero])
                  have h2 := (cr2_c (c1 := #[.slice Aq lq.length cq]) (c2 := #[.int .i64 ↑vme, .int .i64 ↑id, .int .i64 ↑te2, .int .i64 ↑de, .int .i64 ↑fe, .int .i64 ↑pr, .int .i64 ↑ch, .int .i64 ↑un, .string s]) (t1 := 32) (t2 := 72) (Mem.init wr) hV hK [(0, .slice Aq lq.length cq)] (by simp only [List.foldl_cons, List.foldl_nil, List.setIfInBounds_toArray, List.set_cons_zero])).below
                  simp only [sets, List.foldl_cons, List.foldl_nil] at h h2
                  with_reducible exact ⟨h, h2⟩)
               | (have h := cr2_d (c1 := #[.slice Aq lq.length cq]) (c2 := #[.int .i64 ↑vme, .int .i64 ↑id, .int .i64 ↑te2, .int .i64 ↑de, .int .i64 ↑fe, .int .i64 ↑pr, .int .i64 ↑ch, .int .i64 ↑un, .string s]) (t1 := 32) (t2 := 72) H hV hK [(0, .int .i64 ↑vme), (1, .int .i64 ↑id), (2, .int .i64 ↑te2), (3, .int .i64 ↑de), (4, .int .i64 ↑fe), (5, .int .i64 ↑pr), (6, .int .i64 ↑ch), (7, .int .i64 ↑un), (8, .string s)] (by simp only [List.foldl_cons, List.foldl_nil, List.setIfInBounds_toArray, List.set_cons_zero, List.set_cons_succ])
                  have h2 := (cr2_d (c1 := #[.slice Aq lq.length cq]) (c2 := #[.int .i64 ↑vme, .int .i64 ↑id, .int .i64 ↑te2, .int .i64 ↑de, .int .i64 ↑fe, .int .i64 ↑pr, .int .i64 ↑ch, .int .i64 ↑un, .string s]) (t1 := 32) (t2 := 72) (Mem.init wr) hV hK [(0, .int .i64 ↑vme), (1, .int .i64 ↑id), (2, .int .i64 ↑te2), (3, .int .i64 ↑de), (4, .int .i64 ↑fe), (5, .int .i64 ↑pr), (6, .int .i64 ↑ch), (7, .int .i64 ↑un), (8, .string s)] (by simp only [List.foldl_cons, List.foldl_nil, List.setIfInBounds_toArray, List.set_cons_zero, List.set_cons_succ])).below
                  simp only [sets, List.foldl_cons, List.foldl_nil] at h h2
                  with_reducible exact ⟨h, h2⟩)
               | (have h := cr2_e (c1 := #[.slice Aq lq.length cq]) (c2 := #[.int .i64 ↑vme, .int .i64 ↑id, .int .i64 ↑te2, .int .i64 ↑de, .int .i64 ↑fe, .int .i64 ↑pr, .int .i64 ↑ch, .int .i64 ↑un, .string s]) (t1 := 32) (t2 := 72) H hV hK [(0, .slice Aq lq.length cq)] [(0, .int .i64 ↑vme), (1, .int .i64 ↑id), (2, .int .i64 ↑te2), (3, .int .i64 ↑de), (4, .int .i64 ↑fe), (5, .int .i64 ↑pr), (6, .int .i64 ↑ch), (7, .int .i64 ↑un), (8, .string s)] (by simp only [List.foldl_cons, List.foldl_nil, List.setIfInBounds_toArray, List.set_cons_zero]) (by simp only [List.foldl_cons, List.foldl_nil, List.setIfInBounds_toArray, List.set_cons_zero, List.set_cons_succ])
                  have h2 := (cr2_e (c1 := #[.slice Aq lq.length cq]) (c2 := #[.int .i64 ↑vme, .int .i64 ↑id, .int .i64 ↑te2, .int .i64 ↑de, .int .i64 ↑fe, .int .i64 ↑pr, .int .i64 ↑ch, .int .i64 ↑un, .string s]) (t1 := 32) (t2 := 72) (Mem.init wr) hV hK [(0, .slice Aq lq.length cq)] [(0, .int .i64 ↑vme), (1, .int .i64 ↑id), (2, .int .i64 ↑te2), (3, .int .i64 ↑de), (4, .int .i64 ↑fe), (5, .int .i64 ↑pr), (6, .int .i64 ↑ch), (7, .int .i64 ↑un), (8, .string s)] (by simp only [List.foldl_cons, List.foldl_nil, List.setIfInBounds_toArray, List.set_cons_zero]) (by simp only [List.foldl_cons, List.foldl_nil, List.setIfInBounds_toArray, List.set_cons_zero, List.set_cons_succ])).below
                  simp only [sets, List.foldl_cons, List.foldl_nil] at h h2
                  with_reducible exact ⟨h, h2⟩)
               | (have h := cr2_f (c1 := #[.slice Aq lq.length cq]) (c2 := #[.int .i64 ↑vme, .int .i64 ↑id, .int .i64 ↑te2, .int .i64 ↑de, .int .i64 ↑fe, .int .i64 ↑pr, .int .i64 ↑ch, .int .i64 ↑un, .string s]) (t1 := 32) (t2 := 72) H hV hK [(0, .slice Aq lq.length cq)] [(0, .int .i64 ↑vme), (1, .int .i64 ↑id), (2, .int .i64 ↑te2), (3, .int .i64 ↑de), (4, .int .i64 ↑fe), (5, .int .i64 ↑pr), (6, .int .i64 ↑ch), (7, .int .i64 ↑un), (8, .string s)] (by simp only [List.foldl_cons, List.foldl_nil, List.setIfInBounds_toArray, List.set_cons_zero]) (by simp only [List.foldl_cons, List.foldl_nil, List.setIfInBounds_toArray, List.set_cons_zero, List.set_cons_succ])
                  have h2 := (cr2_f (c1 := #[.slice Aq lq.length cq]) (c2 := #[.int .i64 ↑vme, .int .i64 ↑id, .int .i64 ↑te2, .int .i64 ↑de, .int .i64 ↑fe, .int .i64 ↑pr, .int .i64 ↑ch, .int .i64 ↑un, .string s]) (t1 := 32) (t2 := 72) (Mem.init wr) hV hK [(0, .slice Aq lq.length cq)] [(0, .int .i64 ↑vme), (1, .int .i64 ↑id), (2, .int .i64 ↑te2), (3, .int .i64 ↑de), (4, .int .i64 ↑fe), (5, .int .i64 ↑pr), (6, .int .i64 ↑ch), (7, .int .i64 ↑un), (8, .string s)] (by simp only [List.foldl_cons, List.foldl_nil, List.setIfInBounds_toArray, List.set_cons_zero]) (by simp only [List.foldl_cons, List.foldl_nil, List.setIfInBounds_toArray, List.set_cons_zero, List.set_cons_succ])).below
                  simp only [sets, List.foldl_cons, List.foldl_nil] at h h2
                  with_reducible exact ⟨h, h2⟩)
           case rest =>
             obtain ⟨ob, rb, A5, c5, Aq, cq, base, rfl, rfl, rfl, rfl, H, hCR⟩ := hcut
             subst hLL
             replace H : Mem (w) [] (wc) [.blk (w.heap.size) 24 #[.slice A n m, .int .i64 a, .int .i64 b, .int .i64 c, .int .i64 d], .blk (w.heap.size + 1) 34 #[.slice none 0 0, .int .i64 0, .int .i64 0, .int .i64 0, .int .i64 0, .slice none 0 0, .slice none 0 0], .row (w1.heap.size) (166) (2) (.slice At nt ct) (nt) (drs T.tl), .blk (gs) 34 #[.slice At nt ct, .int .i64 ↑T.fx, .int .i64 ↑T.fb, .int .i64 ↑T.db, .int .i64 ↑T.al, .slice Aw 600 cw, .slice Ap lp.length cp], .row (bp) (225) (4) (.slice Ap lp.length cp) (lp.length) (prs lp), .row (bw) (111) (1) (.slice Aw 600 cw) (600) (ws cc), .blk (ob) 32 #[.slice Aq lq.length cq], .blk (rb) 72 #[.int .i64 ↑vme, .int .i64 ↑id, .int .i64 ↑te2, .int .i64 ↑de, .int .i64 ↑fe, .int .i64 ↑pr, .int .i64 ↑ch, .int .i64 ↑un, .string s], .row (base) (225) (4) (.slice Aq lq.length cq) (lq.length) (prs lq), .row (base) (113) (2) (.slice A5 nw c5) (nw) (wrs wl)] := H
             clear hV hds hws0 hps0 hCR p0 p1 p2 p3 p4 hbl
             by_cases hE : E = 0
             · subst hE
               obtain ⟨hwn, hat, hx1, hsh⟩ := HX.out rfl
               have hwz : ((nw : Int) == 0) = false := by simp; omega
               have hwz2 : ¬ (nw : Int) = 0 := by omega
               have HS := Lib.hid hsh
               have hws := isws_own (xs := cc) HL.out hwl (H.own_ 5 rfl)
               have hwr := iswr_own (l := wl) HW.out hx1 (H.own_ 9 rfl)
               have HAt := Lib.hid hat
               clear hsh hat HX
               clear shlt sh0 shf0 sh1 shf1 sh2 shf2 sh3 shf3 sh4 shf4 sh5 shf5 sh6 shf6
               obtain ⟨shlt, sh0, shf0, sh1, shf1, sh2, shf2, sh3, shf3, sh4, shf4, sh5, shf5, sh6, shf6⟩ := H.c7 3 rfl
               go_wp2_with fail
               refine (apply600 Aw cw A5 c5 cc wl nw nw _ HW.out HL.out hws hwr HAt.out (by omega) (Nat.le_refl _)).mono ?_
               rintro e wv ⟨A6, c6, rfl, ⟨hx6, ho6⟩, hb6⟩
               rw [List.take_of_length_le (Nat.le_of_eq HW.out)] at hx6 ho6
               replace H : Mem (w) [] (wv) [.blk (w.heap.size) 24 #[.slice A n m, .int .i64 a, .int .i64 b, .int .i64 c, .int .i64 d], .blk (w.heap.size + 1) 34 #[.slice none 0 0, .int .i64 0, .int .i64 0, .int .i64 0, .int .i64 0, .slice none 0 0, .slice none 0 0], .row (w1.heap.size) (166) (2) (.slice At nt ct) (nt) (drs T.tl), .blk (gs) 34 #[.slice At nt ct, .int .i64 ↑T.fx, .int .i64 ↑T.fb, .int .i64 ↑T.db, .int .i64 ↑T.al, .slice Aw 600 cw, .slice Ap lp.length cp], .row (bp) (225) (4) (.slice Ap lp.length cp) (lp.length) (prs lp), .row (bw) (111) (1) (.slice Aw 600 cw) (600) (ws cc), .blk (ob) 32 #[.slice Aq lq.length cq], .blk (rb) 72 #[.int .i64 ↑vme, .int .i64 ↑id, .int .i64 ↑te2, .int .i64 ↑de, .int .i64 ↑fe, .int .i64 ↑pr, .int .i64 ↑ch, .int .i64 ↑un, .string s], .row (base) (225) (4) (.slice Aq lq.length cq) (lq.length) (prs lq), .row (base) (113) (2) (.slice A5 nw c5) (nw) (wrs wl), .row (wc.heap.size) (111) (1) (.slice A6 600 c6) (600) (ws (applyW cc wl))] := Mem.row H hb6 ho6 (Nat.le_refl _)
               clear hws hwr ho6 hb6
               clear shlt sh0 shf0 sh1 shf1 sh2 shf2 sh3 shf3 sh4 shf4 sh5 shf5 sh6 shf6
               obtain ⟨shlt, sh0, shf0, sh1, shf1, sh2, shf2, sh3, shf3, sh4, shf4, sh5, shf5, sh6, shf6⟩ := H.c7 3 rfl
               obtain ⟨oblt, ob0, obf0⟩ := H.c1 6 rfl
               have ne_sh_ob := H.ne 3 6 rfl rfl (by decide)
               have ne_ob_sh := H.ne 6 3 rfl rfl (by decide)
               go_wp2
               go_roundw
               case rel =>
                 have HZ := Mem.set 3 (Mem.set 3 H rfl 5 (.slice A6 600 c6)) rfl 6 (.slice Aq lq.length cq)
                 obtain ⟨L2, B2, hsh⟩ := HS.out
                 exact ⟨k + 1, applyW cc wl, L2, B2, lq, A6, c6, Aq, cq, _, _, by omega, by omega, by go_num, hx6, hsh, Mem.drop_ 4 (Mem.drop_ 5 (Mem.drop_ 6 (Mem.drop_ 7 (Mem.drop_ 9 HZ))))⟩
               case measure => simp [intOf]; omega
             · have hEb : ((E : Int) == 0) = false := by simp; omega
               have hEn : ¬ (E : Int) = 0 := by omega
               clear HX
               go_wp2
               go_roundw
               case rel => exact ⟨k + 1, cc, L, B, lp, Aw, cw, Ap, cp, _, _, by omega, by omega, by go_num, hwl, hS.more, Mem.drop_ 6 (Mem.drop_ 6 (Mem.drop_ 6 (Mem.drop_ 6 H)))⟩
               case measure => simp [intOf]; omega
       · skip
         have hS12 := hS.le hk12
         by_cases hk1 : k < nl
         · have ki1 : (k : Int) < (nl : Int) := by omega
           have ki2 : ¬ (k : Int) < 12 := by omega
           obtain ⟨shlt, sh0, shf0, sh1, shf1, sh2, shf2, sh3, shf3, sh4, shf4, sh5, shf5, sh6, shf6⟩ := H.c7 3 rfl
           obtain ⟨rslt, rs0, rsf0, rs1, rsf1, rs2, rsf2, rs3, rsf3, rs4, rsf4, rs5, rsf5, rs6, rsf6⟩ := H.c7 1 rfl
           have ne_sh_rs := H.ne 3 1 rfl rfl (by decide)
           have ne_rs_sh := H.ne 1 3 rfl rfl (by decide)
           go_wp2
           obtain ⟨W9, hW9⟩ : ∃ W9, (((((((wr).setCell ⟨w.heap.size + 1, 0, none⟩ (.slice At nt ct)).setCell ⟨w.heap.size + 1, 1, none⟩ (.int .i64 ↑T.fx)).setCell ⟨w.heap.size + 1, 2, none⟩ (.int .i64 ↑T.fb)).setCell ⟨w.heap.size + 1, 3, none⟩ (.int .i64 ↑T.db)).setCell ⟨w.heap.size + 1, 4, none⟩ (.int .i64 ↑T.al)).setCell ⟨w.heap.size + 1, 5, none⟩ (.slice Aw 600 cw)).setCell ⟨w.heap.size + 1, 6, none⟩ (.slice Ap lp.length cp) = W9 := ⟨_, rfl⟩
           replace H := Mem.set 1 H rfl (0) (.slice At nt ct)
           replace H := Mem.set 1 H rfl (1) (.int .i64 ↑T.fx)
           replace H := Mem.set 1 H rfl (2) (.int .i64 ↑T.fb)
           replace H := Mem.set 1 H rfl (3) (.int .i64 ↑T.db)
           replace H := Mem.set 1 H rfl (4) (.int .i64 ↑T.al)
           replace H := Mem.set 1 H rfl (5) (.slice Aw 600 cw)
           replace H := Mem.set 1 H rfl (6) (.slice Ap lp.length cp)
           simp only [List.set_cons_zero, List.set_cons_succ, List.setIfInBounds_toArray] at H
           rw [hW9] at H ⊢
           clear hW9
           clear shlt sh0 shf0 sh1 shf1 sh2 shf2 sh3 shf3 sh4 shf4 sh5 shf5 sh6 shf6 rslt rs0 rsf0 rs1 rsf1 rs2 rsf2 rs3 rsf3 rs4 rsf4 rs5 rsf5 rs6 rsf6 ne_sh_rs ne_rs_sh
           obtain ⟨rslt, rs0, rsf0, rs1, rsf1, rs2, rsf2, rs3, rsf3, rs4, rsf4, rs5, rsf5, rs6, rsf6⟩ := H.c7 1 rfl
           refine bodyPost_ret (v := .tuple #[.agg #[.slice At nt ct, .int .i64 ↑T.fx, .int .i64 ↑T.fb, .int .i64 ↑T.db, .int .i64 ↑T.al, .slice Aw 600 cw, .slice Ap lp.length cp], .bool true]) (by simp [results, Tryz.results9, go_sem, rs0, rs1, rs2, rs3, rs4, rs5, rs6]; done) rfl ?_
           exact ⟨T, At, nt, ct, cc, L, B, lp, Aw, cw, Ap, cp, _, _, _, rfl, hT, HN.out.symm, hwl, hS12, Mem.drop_ 0 (Mem.drop_ 0 (Mem.drop_ 3 H))⟩
         · have ki1 : ¬ (k : Int) < (nl : Int) := by omega
           skip
           obtain ⟨shlt, sh0, shf0, sh1, shf1, sh2, shf2, sh3, shf3, sh4, shf4, sh5, shf5, sh6, shf6⟩ := H.c7 3 rfl
           obtain ⟨rslt, rs0, rsf0, rs1, rsf1, rs2, rsf2, rs3, rsf3, rs4, rsf4, rs5, rsf5, rs6, rsf6⟩ := H.c7 1 rfl
           have ne_sh_rs := H.ne 3 1 rfl rfl (by decide)
           have ne_rs_sh := H.ne 1 3 rfl rfl (by decide)
           go_wp2
           obtain ⟨W9, hW9⟩ : ∃ W9, (((((((wr).setCell ⟨w.heap.size + 1, 0, none⟩ (.slice At nt ct)).setCell ⟨w.heap.size + 1, 1, none⟩ (.int .i64 ↑T.fx)).setCell ⟨w.heap.size + 1, 2, none⟩ (.int .i64 ↑T.fb)).setCell ⟨w.heap.size + 1, 3, none⟩ (.int .i64 ↑T.db)).setCell ⟨w.heap.size + 1, 4, none⟩ (.int .i64 ↑T.al)).setCell ⟨w.heap.size + 1, 5, none⟩ (.slice Aw 600 cw)).setCell ⟨w.heap.size + 1, 6, none⟩ (.slice Ap lp.length cp) = W9 := ⟨_, rfl⟩
           replace H := Mem.set 1 H rfl (0) (.slice At nt ct)
           replace H := Mem.set 1 H rfl (1) (.int .i64 ↑T.fx)
           replace H := Mem.set 1 H rfl (2) (.int .i64 ↑T.fb)
           replace H := Mem.set 1 H rfl (3) (.int .i64 ↑T.db)
           replace H := Mem.set 1 H rfl (4) (.int .i64 ↑T.al)
           replace H := Mem.set 1 H rfl (5) (.slice Aw 600 cw)
           replace H := Mem.set 1 H rfl (6) (.slice Ap lp.length cp)
           simp only [List.set_cons_zero, List.set_cons_succ, List.setIfInBounds_toArray] at H
           rw [hW9] at H ⊢
           clear hW9
           clear shlt sh0 shf0 sh1 shf1 sh2 shf2 sh3 shf3 sh4 shf4 sh5 shf5 sh6 shf6 rslt rs0 rsf0 rs1 rsf1 rs2 rsf2 rs3 rsf3 rs4 rsf4 rs5 rsf5 rs6 rsf6 ne_sh_rs ne_rs_sh
           obtain ⟨rslt, rs0, rsf0, rs1, rsf1, rs2, rsf2, rs3, rsf3, rs4, rsf4, rs5, rsf5, rs6, rsf6⟩ := H.c7 1 rfl
           refine bodyPost_ret (v := .tuple #[.agg #[.slice At nt ct, .int .i64 ↑T.fx, .int .i64 ↑T.fb, .int .i64 ↑T.db, .int .i64 ↑T.al, .slice Aw 600 cw, .slice Ap lp.length cp], .bool true]) (by simp [results, Tryz.results9, go_sem, rs0, rs1, rs2, rs3, rs4, rs5, rs6]; done) rfl ?_
           exact ⟨T, At, nt, ct, cc, L, B, lp, Aw, cw, Ap, cp, _, _, _, rfl, hT, HN.out.symm, hwl, hS12, Mem.drop_ 0 (Mem.drop_ 0 (Mem.drop_ 3 H))⟩
end Go.Proofs.YtpcgpnkmjjamhaaGreat
namespace Go.Proofs.YtpcgpnkmjjamhaaGreat
open Go.RowKit
set_option linter.unusedVariables false
theorem orders_fit {v : Value} {w : World} (h : Fit Tryz.prog w 25 v) : ∃ (A : Option Addr) (n c : Nat) (f : Nat → Nat → Int), v = .slice A n c ∧ IsRows w (.slice A n c) [.i64, .i64, .i64, .i64, .i64] n f := by
 obtain ⟨n, f, hr⟩ := Fit.rows h Tryz.underlying25 (ks := [.i64, .i64, .i64, .i64, .i64]) (by kernel_rfl) (by decide) (by kernel_rfl)
 have hr0 := hr
 obtain ⟨A, c, rfl, _⟩ := hr
 exact ⟨A, n, c, f, rfl, hr0⟩
end Go.Proofs.YtpcgpnkmjjamhaaGreat
namespace Go.Proofs.YtpcgpnkmjjamhaaGreat
open Go.RowKit
set_option linter.unusedVariables false
def NumOk (B : List Cu) : Prop := ∀ c ∈ B, ∀ k (h : k < c.s.length), (c.s[k]'h).id = k + 1 ∧ (c.s[k]'h).rev ≤ c.a.rev
theorem keepE_num {T : Tm} {B B2 : List Cu} {v : Ev} {n : Nat} (hT : T.Ok) (hB : BOk T B n) (hn : n ≤ 1000) (hv : v.ok) (h : keepE T B v = (0, B2)) (hN : NumOk B) : NumOk B2 := by
 rcases keepE_ne h with ⟨_, hp, rfl⟩ | ⟨_, i, hi, hp, hme, hc, rfl⟩
 · intro c hc k hk
   rcases List.mem_append.1 hc with hc | hc
   · exact hN c hc k hk
   · obtain rfl := List.mem_singleton.1 hc
     simp at hk
 · have hmem : B[i] ∈ B := List.getElem_mem hi
   have hs := hB.sold hmem
   obtain ⟨c1, c2, c3, c4, c5⟩ := custP_law hT (hB.h1 _ hmem).1 (hB.h1 _ hmem).2 (by omega) hv hc
   have hnx := (hB.h1 _ hmem).2
   intro c hc' k hk
   rcases List.mem_or_eq_of_mem_set hc' with hc' | rfl
   · exact hN c hc' k hk
   · have hold := hN _ hmem
     generalize (custP T B[i] v).2 = d at c4 c5 hk ⊢
     rcases c4 with e | ⟨x, e, hx1, hx2⟩
     · have hk2 : k < B[i].s.length := by rw [← e]; exact hk
       have e2 : d.s[k] = B[i].s[k] := by simp only [e]
       rw [e2]
       have := hold k hk2
       omega
     · by_cases hk2 : k < B[i].s.length
       · have e2 : d.s[k] = B[i].s[k] := by simp only [e]; exact List.getElem_append_left hk2
         rw [e2]
         have := hold k hk2
         omega
       · have hk3 : k = B[i].s.length := by
           rw [e] at hk; simp at hk; omega
         have e2 : d.s[k] = x := by
           simp only [e]
           rw [List.getElem_append_right (by omega)]
           simp [hk3]
         rw [e2, hx1, hx2]
         omega
theorem runE_num {T : Tm} (hT : T.Ok) : ∀ (l : List Ev) (B B2 : List Cu) (n : Nat), BOk T B n → n + l.length ≤ 1000 → (∀ v ∈ l, v.ok) → NumOk B → runE T B l = some B2 → NumOk B2 := by
 intro l
 induction l with
 | nil => intro B B2 n hB _ _ hN h; simp only [runE, Option.some.injEq] at h; subst h; exact hN
 | cons v l ih =>
   intro B B2 n hB hn hv hN h
   rw [show v :: l = [v] ++ l from rfl, runE_append] at h
   obtain ⟨B1, h1, h2⟩ := Option.bind_eq_some_iff.1 h
   have hk := runE_one.1 h1
   have hB1 := keepE_bok hT hB (by simp only [List.length_cons] at hn; omega) (hv v (by simp)) hk
   have hN1 := keepE_num hT hB (by simp only [List.length_cons] at hn; omega) (hv v (by simp)) hk hN
   exact ih B1 B2 (n + 1) hB1 (by simp only [List.length_cons] at hn; omega) (fun u hu => hv u (by simp [hu])) hN1 h2
theorem Srv.num {T : Tm} {c : List Nat} {L : List Ev} {B : List Cu} (hT : T.Ok) (hS : Srv T c L B) : NumOk B :=
 runE_num hT L [] B 0 (bok_nil T) (by have := hS.len; omega) hS.ok (fun c hc => by simp at hc) hS.run
end Go.Proofs.YtpcgpnkmjjamhaaGreat

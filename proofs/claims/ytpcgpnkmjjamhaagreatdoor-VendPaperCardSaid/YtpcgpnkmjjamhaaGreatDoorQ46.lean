/- vendmeterkeep.opened: a server with three meters, at which steps were done. -/
import Derived.Test.YtpcgpnkmjjamhaaGreatDoorQ45
import Derived.Test.YtpcgpnkmjjamhaaGreatDoorQ7
import Derived.Test.YtpcgpnkmjjamhaaGreatDoorQ10
import Derived.Test.YtpcgpnkmjjamhaaGreatDoorQ9
namespace Go.Proofs.YtpcgpnkmjjamhaaGreatDoor
open Go.RowKit
set_option linter.unusedVariables false
set_option maxRecDepth 100000
def RetOpd (w : World) (e : Ending) (w' : World) : Prop :=
 ∃ (T : Tm) (At : Option Addr) (nt ct : Nat) (cc : List Nat) (L : List Ev) (B : List Cu) (lp : List Pr) (Aw : Option Addr) (cw : Nat) (Ap : Option Addr) (cp b1 b2 b3 : Nat), e = .returned (.tuple #[.agg #[.slice At nt ct, .int .i64 ↑T.fx, .int .i64 ↑T.fb, .int .i64 ↑T.db, .int .i64 ↑T.al, .slice Aw 600 cw, .slice Ap lp.length cp], .bool true]) ∧ T.Ok ∧ nt = T.tl.length ∧ (∀ x ∈ cc, x < 4294967296) ∧ Shp T cc L B lp 12 ∧
   Mem w [] w' [.row b1 161 2 (.slice At nt ct) nt (drs T.tl), .row b2 155 4 (.slice Ap lp.length cp) lp.length (prs lp), .row b3 86 1 (.slice Aw 600 cw) 600 (ws cc)]
theorem apply600 (Aw : Option Addr) (cw : Nat) (A5 : Option Addr) (c5 : Nat) (cc : List Nat) (wl : List (Nat × Nat)) (nw k : Nat) (W : World) (hnw : wl.length = nw) (hlen : cc.length = 600) (h1 : IsWs W (.slice Aw 600 cw) cc) (h2 : IsWr W (.slice A5 nw c5) wl) (hl : ∀ p ∈ wl, p.1 < 600) (h3 : nw ≤ 4096) (hk : k ≤ nw) :
   Calls Tryz.prog 15 #[.slice Aw 600 cw, .slice A5 nw c5, .int .i64 ↑k] W fun e w' => ∃ (A6 : Option Addr) (c6 : Nat), e = .returned (.tuple #[.slice A6 600 c6, .int .i64 0]) ∧ ((∀ x ∈ applyW cc (wl.take k), x < 4294967296) ∧ w'.ownsRow W.heap.size 86 1 (.slice A6 600 c6) 600 (ws (applyW cc (wl.take k)))) ∧ Below W.heap.size W w' := by
 subst hnw
 refine (apply_own (.slice Aw 600 cw) (.slice A5 wl.length c5) cc wl k W h1 h2 (by omega) (by omega) h3 (fun p hp => by rw [hlen]; exact hl p hp) hk).mono ?_
 rintro e w' ⟨A6, c6, he, ⟨hx, ho⟩, hb⟩
 rw [applyW_length, hlen] at he ho
 exact ⟨A6, c6, he, ⟨hx, ho⟩, hb⟩
theorem perm6 {a b c d e f : Chunk} : [a, b, c, d, e, f].Perm [a, b, d, e, f, c] := by
 refine .cons _ (.cons _ ?_)
 exact (List.perm_append_comm (l₁ := [c]) (l₂ := [d, e, f]))
set_option maxHeartbeats 16000000 in
theorem opened_ok (A : Option Addr) (n m : Nat) (g : Nat → Nat → Int) (a b c d : Int) (Al : Option Addr) (nl cl : Nat) (f : Nat → Nat → Int) (w : World) (wa : (Lit.int .i64 a).wf = true) (wb : (Lit.int .i64 b).wf = true) (wc0 : (Lit.int .i64 c).wf = true) (wd : (Lit.int .i64 d).wf = true)
   (hv : IsRows w (.slice A n m) [.i64, .i64] n g) (hl : IsRows w (.slice Al nl cl) [.i64, .i64, .i64, .i64, .i64] nl f) :
   Calls Tryz.prog 4 #[.agg #[.slice A n m, .int .i64 a, .int .i64 b, .int .i64 c, .int .i64 d], .slice Al nl cl] w (RetOpd w) := by
 have hBl := fun W => blank_own 600 W (by omega) (by omega)
 unfold RetWsOwn at hBl
 rw [List.length_replicate] at hBl
 have hAg := fun W h => agreed_own A n m g a b c d W wa wb wc0 wd h
 unfold RetAgO at hAg
 have H := Mem.init w
 obtain ⟨W0, hW0⟩ : ∃ W0, ((w).alloc (.cells #[.slice A n m, .int .i64 a, .int .i64 b, .int .i64 c, .int .i64 d] 24)).alloc (.cells #[.slice none 0 0, .int .i64 0, .int .i64 0, .int .i64 0, .int .i64 0, .slice none 0 0, .slice none 0 0] 36) = W0 := ⟨_, rfl⟩
 replace H := Mem.alloc H (w.heap.size) (by first | (simp; done) | (simp; omega)) #[.slice A n m, .int .i64 a, .int .i64 b, .int .i64 c, .int .i64 d] 24
 replace H := Mem.alloc H (w.heap.size + 1) (by first | (simp; done) | (simp; omega)) #[.slice none 0 0, .int .i64 0, .int .i64 0, .int .i64 0, .int .i64 0, .slice none 0 0, .slice none 0 0] 36
 simp only [List.nil_append, List.cons_append] at H
 rw [hW0] at H
 have hv0 := hv.below H.below
 obtain ⟨ddlt, dd0, ddf0, dd1, ddf1, dd2, ddf2, dd3, ddf3, dd4, ddf4⟩ := H.c5 0 rfl
 go_enter Tryz.func4, Tryz.ntmps4
 go_wp2_with fail
 refine (hBl _).mono ?_
 rintro e w1 ⟨Aw, cw, rfl, ⟨hwl, hwo⟩, hb1⟩
 have hv1 := hv0.below hb1
 obtain ⟨cc, hcc⟩ : ∃ cc, List.replicate 600 0 = cc := ⟨_, rfl⟩
 rw [hcc] at hwo hwl
 replace H : Mem (w) [] (w1) [.blk (w.heap.size) 24 #[.slice A n m, .int .i64 a, .int .i64 b, .int .i64 c, .int .i64 d], .blk (w.heap.size + 1) 36 #[.slice none 0 0, .int .i64 0, .int .i64 0, .int .i64 0, .int .i64 0, .slice none 0 0, .slice none 0 0], .row (W0.heap.size) (86) (1) (.slice Aw 600 cw) (600) (ws cc)] := Mem.row H hb1 hwo (Nat.le_refl _)
 clear ddlt dd0 ddf0 dd1 ddf1 dd2 ddf2 dd3 ddf3 dd4 ddf4
 obtain ⟨ddlt, dd0, ddf0, dd1, ddf1, dd2, ddf2, dd3, ddf3, dd4, ddf4⟩ := H.c5 0 rfl
 clear hBl hb1 hW0 hv0
 go_wp2_with fail
 refine (hAg _ hv1).mono ?_
 rintro e w2 ⟨tl, At, ct, fx, fb, db, al, rfl, hT1, hT2, hto, hb2⟩
 obtain ⟨T, hTe⟩ : ∃ T : Tm, T = ⟨tl, fx, fb, db, al⟩ := ⟨_, rfl⟩
 have hT : T.Ok := by rw [hTe]; exact ⟨hT1, hT2⟩
 obtain ⟨rfl, rfl, rfl, rfl, rfl⟩ : tl = T.tl ∧ fx = T.fx ∧ fb = T.fb ∧ db = T.db ∧ al = T.al := by rw [hTe]; exact ⟨rfl, rfl, rfl, rfl, rfl⟩
 obtain ⟨nt, hnt⟩ : ∃ nt, T.tl.length = nt := ⟨_, rfl⟩
 rw [hnt] at hto ⊢
 replace H : Mem (w) [] (w2) [.blk (w.heap.size) 24 #[.slice A n m, .int .i64 a, .int .i64 b, .int .i64 c, .int .i64 d], .blk (w.heap.size + 1) 36 #[.slice none 0 0, .int .i64 0, .int .i64 0, .int .i64 0, .int .i64 0, .slice none 0 0, .slice none 0 0], .row (W0.heap.size) (86) (1) (.slice Aw 600 cw) (600) (ws cc), .row (w1.heap.size) (161) (2) (.slice At nt ct) (nt) (drs T.tl)] := Mem.row H hb2 hto (Nat.le_refl _)
 clear hAg hb2 hto hTe hT1 hT2 hv1 hwo
 clear ddlt dd0 ddf0 dd1 ddf1 dd2 ddf2 dd3 ddf3 dd4 ddf4
 go_wp2_with fail
 obtain ⟨W3, hW3⟩ : ∃ W3, (w2).alloc (.cells #[.slice At nt ct, .int .i64 ↑T.fx, .int .i64 ↑T.fb, .int .i64 ↑T.db, .int .i64 ↑T.al, .slice Aw 600 cw, .slice none 0 0] 36) = W3 := ⟨_, rfl⟩
 replace H := Mem.alloc H (w2.heap.size) (by first | (simp; done) | (simp; omega)) #[.slice At nt ct, .int .i64 ↑T.fx, .int .i64 ↑T.fb, .int .i64 ↑T.db, .int .i64 ↑T.al, .slice Aw 600 cw, .slice none 0 0] 36
 simp only [List.cons_append, List.nil_append] at H
 rw [hW3] at H ⊢
 clear hW3
 replace H : Mem (w) [] (W3) [.blk (w.heap.size) 24 #[.slice A n m, .int .i64 a, .int .i64 b, .int .i64 c, .int .i64 d], .blk (w.heap.size + 1) 36 #[.slice none 0 0, .int .i64 0, .int .i64 0, .int .i64 0, .int .i64 0, .slice none 0 0, .slice none 0 0], .row (W0.heap.size) (86) (1) (.slice Aw 600 cw) (600) (ws cc), .row (w1.heap.size) (161) (2) (.slice At nt ct) (nt) (drs T.tl), .blk (w2.heap.size) 36 #[.slice At nt ct, .int .i64 ↑T.fx, .int .i64 ↑T.fb, .int .i64 ↑T.db, .int .i64 ↑T.al, .slice Aw 600 cw, .slice none 0 0], .row (0) (155) (4) (.slice none 0 0) (0) ([])] := Mem.nilrow H _ _ _
 obtain ⟨gs, hgs⟩ : ∃ gs, w2.heap.size = gs := ⟨_, rfl⟩
 rw [hgs] at H ⊢
 have HP := Mem.perm perm6 H
 have HN := Lib.hid hnt
 have ho0 := opn_nil T
 rw [hcc] at ho0
 clear hcc H hnt hgs
 go_loopw [9] (fun i wr => ∃ (m2 : Nat) (cc : List Nat) (L : List Ev) (B : List Cu) (Aw : Option Addr) (cw bw : Nat), m2 ≤ 3 ∧ i = .int .i64 ↑m2 ∧ (∀ x ∈ cc, x < 4294967296) ∧ Opn T cc L B m2 ∧ Mem w [] wr [.blk (w.heap.size) 24 #[.slice A n m, .int .i64 a, .int .i64 b, .int .i64 c, .int .i64 d], .blk (w.heap.size + 1) 36 #[.slice none 0 0, .int .i64 0, .int .i64 0, .int .i64 0, .int .i64 0, .slice none 0 0, .slice none 0 0], .row (w1.heap.size) (161) (2) (.slice At nt ct) (nt) (drs T.tl), .blk (gs) 36 #[.slice At nt ct, .int .i64 ↑T.fx, .int .i64 ↑T.fb, .int .i64 ↑T.db, .int .i64 ↑T.al, .slice Aw 600 cw, .slice none 0 0], .row (0) (155) (4) (.slice none 0 0) (0) ([]), .row (bw) (86) (1) (.slice Aw 600 cw) (600) (ws cc)]) (fun i _ => 3 - (intOf i).toNat)
 case atStart => exact ⟨0, cc, [], [], Aw, cw, _, by omega, rfl, hwl, ho0, HP⟩
 case round =>
   clear HP ho0 hwl
   obtain ⟨m2, cc, L, B, Aw, cw, bw, hm, rfl, hwl, hO, HM⟩ := hrel
   have H : Mem (w) [] (wr) [.blk (w.heap.size) 24 #[.slice A n m, .int .i64 a, .int .i64 b, .int .i64 c, .int .i64 d], .blk (w.heap.size + 1) 36 #[.slice none 0 0, .int .i64 0, .int .i64 0, .int .i64 0, .int .i64 0, .slice none 0 0, .slice none 0 0], .row (w1.heap.size) (161) (2) (.slice At nt ct) (nt) (drs T.tl), .blk (gs) 36 #[.slice At nt ct, .int .i64 ↑T.fx, .int .i64 ↑T.fb, .int .i64 ↑T.db, .int .i64 ↑T.al, .slice Aw 600 cw, .slice none 0 0], .row (0) (155) (4) (.slice none 0 0) (0) ([]), .row (bw) (86) (1) (.slice Aw 600 cw) (600) (ws cc)] := HM
   clear HM

   by_cases hlt : m2 < 3
   · have hds := isds_own (l := T.tl) HN.out (H.own_ 2 rfl)
     have hws := isws_own (xs := cc) hO.len hwl (H.own_ 5 rfl)
     have hlL : L.length = m2 := by rw [hO.evs]; simp
     have hR := fun W h1 h2 => register_ok T hT At nt ct (.slice Aw 600 cw) cc L B m2 W h1 h2 hO.srv (by omega) hO.none (by omega) (by rw [hO.len]; omega)
     have hnx := hO.next (by omega)
     have hat := putW_at (len := cc.length) (at0 := L.length * 14) (r := evW (regV m2)) (by rw [hO.len]; simp only [evW, List.length_cons, List.length_nil]; omega)
     have hwn := putW_len cc.length (L.length * 14) (evW (regV m2))
     have hlen := hO.len
     obtain ⟨wl, hwe⟩ : ∃ wl, putW cc.length (L.length * 14) (evW (regV m2)) = wl := ⟨_, rfl⟩
     rw [hwe] at hR hnx hat hwn
     unfold RetWrOwn at hR
     obtain ⟨nw, hnw⟩ : ∃ nw, wl.length = nw := ⟨_, rfl⟩
     rw [hnw] at hR hwn
     have hwn2 : 1 ≤ nw ∧ nw ≤ 15 := by simp [evW] at hwn; omega
     have hwz : ((nw : Int) == 0) = false := by simp; omega
     have hwz2 : ¬ (nw : Int) = 0 := by omega
     have HX := Lib.hid (And.intro hlen (And.intro hnx (And.intro hwl (And.intro hnw (show ∀ p ∈ wl, p.1 < 600 from fun p hp => by have := (hat p hp).2; omega)))))
     have mlt : (m2 : Int) < 3 := by omega
     clear hO hlL hlen hnx hat hwn hwe hnw hwl
     obtain ⟨shlt, sh0, shf0, sh1, shf1, sh2, shf2, sh3, shf3, sh4, shf4, sh5, shf5, sh6, shf6⟩ := H.c7 3 rfl
     go_wp2_with fail
     refine (hR _ hds hws).mono ?_
     rintro e wq ⟨A5, c5, rfl, hp2, hown, hbq⟩
     have hwr := iswr_own (l := wl) HX.out.2.2.2.1 hp2 hown
     have hws2 := hws.below hbq
     replace H : Mem (w) [] (wq) [.blk (w.heap.size) 24 #[.slice A n m, .int .i64 a, .int .i64 b, .int .i64 c, .int .i64 d], .blk (w.heap.size + 1) 36 #[.slice none 0 0, .int .i64 0, .int .i64 0, .int .i64 0, .int .i64 0, .slice none 0 0, .slice none 0 0], .row (w1.heap.size) (161) (2) (.slice At nt ct) (nt) (drs T.tl), .blk (gs) 36 #[.slice At nt ct, .int .i64 ↑T.fx, .int .i64 ↑T.fb, .int .i64 ↑T.db, .int .i64 ↑T.al, .slice Aw 600 cw, .slice none 0 0], .row (0) (155) (4) (.slice none 0 0) (0) ([]), .row (bw) (86) (1) (.slice Aw 600 cw) (600) (ws cc), .row (wr.heap.size) (119) (2) (.slice A5 nw c5) (nw) (wrs wl)] := Mem.row H hbq hown (Nat.le_refl _)
     clear hR hds hws hp2 hown hbq
     clear shlt sh0 shf0 sh1 shf1 sh2 shf2 sh3 shf3 sh4 shf4 sh5 shf5 sh6 shf6
     obtain ⟨shlt, sh0, shf0, sh1, shf1, sh2, shf2, sh3, shf3, sh4, shf4, sh5, shf5, sh6, shf6⟩ := H.c7 3 rfl
     go_wp2_with fail
     refine (apply600 Aw cw A5 c5 cc wl nw nw _ HX.out.2.2.2.1 HX.out.1 hws2 hwr HX.out.2.2.2.2 (by omega) (Nat.le_refl _)).mono ?_
     rintro e wv ⟨A6, c6, rfl, ⟨hx6, ho6⟩, hb6⟩
     rw [List.take_of_length_le (Nat.le_of_eq HX.out.2.2.2.1)] at hx6 ho6
     replace H : Mem (w) [] (wv) [.blk (w.heap.size) 24 #[.slice A n m, .int .i64 a, .int .i64 b, .int .i64 c, .int .i64 d], .blk (w.heap.size + 1) 36 #[.slice none 0 0, .int .i64 0, .int .i64 0, .int .i64 0, .int .i64 0, .slice none 0 0, .slice none 0 0], .row (w1.heap.size) (161) (2) (.slice At nt ct) (nt) (drs T.tl), .blk (gs) 36 #[.slice At nt ct, .int .i64 ↑T.fx, .int .i64 ↑T.fb, .int .i64 ↑T.db, .int .i64 ↑T.al, .slice Aw 600 cw, .slice none 0 0], .row (0) (155) (4) (.slice none 0 0) (0) ([]), .row (bw) (86) (1) (.slice Aw 600 cw) (600) (ws cc), .row (wr.heap.size) (119) (2) (.slice A5 nw c5) (nw) (wrs wl), .row (wq.heap.size) (86) (1) (.slice A6 600 c6) (600) (ws (applyW cc wl))] := Mem.row H hb6 ho6 (Nat.le_refl _)
     clear hws2 hwr ho6 hb6
     clear shlt sh0 shf0 sh1 shf1 sh2 shf2 sh3 shf3 sh4 shf4 sh5 shf5 sh6 shf6
     obtain ⟨shlt, sh0, shf0, sh1, shf1, sh2, shf2, sh3, shf3, sh4, shf4, sh5, shf5, sh6, shf6⟩ := H.c7 3 rfl
     go_wp2
     go_roundw
     case rel =>
       have HZ := Mem.set 3 H rfl 5 (.slice A6 600 c6)
       exact ⟨m2 + 1, applyW cc wl, _, _, A6, c6, _, by omega, by go_num, hx6, HX.out.2.1, Mem.drop_ 5 (Mem.drop_ 5 HZ)⟩
     case measure => simp [intOf]; omega
   · have hm3 : m2 = 3 := by omega
     have hS0 : Shp T cc L B [] 0 := (show Opn T cc L B 3 from hm3 ▸ hO).shp
     have mge : ¬ (m2 : Int) < 3 := by omega
     clear hO hm3 hlt hm
     skip
     go_wp2
     go_loopw [14] (fun i wr => ∃ (k : Nat) (cc : List Nat) (L : List Ev) (B : List Cu) (lp : List Pr) (Aw : Option Addr) (cw : Nat) (Ap : Option Addr) (cp bw bp : Nat), k ≤ 12 ∧ k ≤ nl ∧ i = .int .i64 ↑k ∧ (∀ x ∈ cc, x < 4294967296) ∧ Shp T cc L B lp k ∧ Mem w [] wr [.blk (w.heap.size) 24 #[.slice A n m, .int .i64 a, .int .i64 b, .int .i64 c, .int .i64 d], .blk (w.heap.size + 1) 36 #[.slice none 0 0, .int .i64 0, .int .i64 0, .int .i64 0, .int .i64 0, .slice none 0 0, .slice none 0 0], .row (w1.heap.size) (161) (2) (.slice At nt ct) (nt) (drs T.tl), .blk (gs) 36 #[.slice At nt ct, .int .i64 ↑T.fx, .int .i64 ↑T.fb, .int .i64 ↑T.db, .int .i64 ↑T.al, .slice Aw 600 cw, .slice Ap lp.length cp], .row (bp) (155) (4) (.slice Ap lp.length cp) (lp.length) (prs lp), .row (bw) (86) (1) (.slice Aw 600 cw) (600) (ws cc)]) (fun i _ => 12 - (intOf i).toNat)
     case atStart => exact ⟨0, cc, L, B, [], Aw, cw, none, 0, bw, 0, by omega, by omega, rfl, hwl, hS0, H⟩
     case round =>
       clear H hS0 hwl
       obtain ⟨k, cc, L, B, lp, Aw, cw, Ap, cp, bw, bp, hk12, hkn, rfl, hwl, hS, HM⟩ := hrel
       have H : Mem (w) [] (wr) [.blk (w.heap.size) 24 #[.slice A n m, .int .i64 a, .int .i64 b, .int .i64 c, .int .i64 d], .blk (w.heap.size + 1) 36 #[.slice none 0 0, .int .i64 0, .int .i64 0, .int .i64 0, .int .i64 0, .slice none 0 0, .slice none 0 0], .row (w1.heap.size) (161) (2) (.slice At nt ct) (nt) (drs T.tl), .blk (gs) 36 #[.slice At nt ct, .int .i64 ↑T.fx, .int .i64 ↑T.fb, .int .i64 ↑T.db, .int .i64 ↑T.al, .slice Aw 600 cw, .slice Ap lp.length cp], .row (bp) (155) (4) (.slice Ap lp.length cp) (lp.length) (prs lp), .row (bw) (86) (1) (.slice Aw 600 cw) (600) (ws cc)] := HM
       clear HM

       by_cases hlt : k < nl ∧ k < 12
       · obtain ⟨hk1, hk2⟩ := hlt
         obtain ⟨A9, c9, e9, _, _, hwf, hcl⟩ := hl
         injection e9 with e91 _ e93
         subst e91 e93
         obtain ⟨bl, ol, rfl, hbl0, hcl⟩ := hcl (by omega)
         have hbw := H.below
         have wf0 := hwf k hk1 0 .i64 rfl
         have wf1 := hwf k hk1 1 .i64 rfl
         have wf2 := hwf k hk1 2 .i64 rfl
         have wf3 := hwf k hk1 3 .i64 rfl
         have wf4 := hwf k hk1 4 .i64 rfl
         have p0 : wr.cell? ⟨bl, ol + k * 5, none⟩ = _ := (hbw.cell (p := ⟨bl, ol + k * 5, none⟩) hbl0).trans (hcl k hk1 0 .i64 rfl)
         have p1 : wr.cell? ⟨bl, ol + k * 5 + 1, none⟩ = _ := (hbw.cell (p := ⟨bl, ol + k * 5 + 1, none⟩) hbl0).trans (hcl k hk1 1 .i64 rfl)
         have p2 : wr.cell? ⟨bl, ol + k * 5 + 2, none⟩ = _ := (hbw.cell (p := ⟨bl, ol + k * 5 + 2, none⟩) hbl0).trans (hcl k hk1 2 .i64 rfl)
         have p3 : wr.cell? ⟨bl, ol + k * 5 + 3, none⟩ = _ := (hbw.cell (p := ⟨bl, ol + k * 5 + 3, none⟩) hbl0).trans (hcl k hk1 3 .i64 rfl)
         have p4 : wr.cell? ⟨bl, ol + k * 5 + 4, none⟩ = _ := (hbw.cell (p := ⟨bl, ol + k * 5 + 4, none⟩) hbl0).trans (hcl k hk1 4 .i64 rfl)
         have hbl : bl < wr.heap.size := Nat.lt_of_lt_of_le hbl0 hbw.size
         generalize f k 0 = x0 at wf0 p0
         generalize f k 1 = x1 at wf1 p1
         generalize f k 2 = x2 at wf2 p2
         generalize f k 3 = x3 at wf3 p3
         generalize f k 4 = x4 at wf4 p4
         clear hwf hcl hbw
         obtain ⟨q, hq, hq8⟩ := pk_nat x0 8 (by omega)
         obtain ⟨me, hme, hme3⟩ := pk_nat x1 3 (by omega)
         obtain ⟨dr, hd, hd6⟩ := pk_nat x4 65536 (by omega)
         have hp := hS.at_ (me := me) (by omega)
         have hlens := hS.lens
         have hlen := hS.len
         have hlpl := hS.lpl
         have hook := hS.ook
         have hds := isds_own (l := T.tl) HN.out (H.own_ 2 rfl)
         have hws0 := isws_own (xs := cc) hlen hwl (H.own_ 5 rfl)
         have ki1 : (k : Int) < (nl : Int) := by omega
         have ki2 : (k : Int) < 12 := by omega
         have HL := Lib.hid hlen
         by_cases hq0 : q = 0
         · subst hq0
           obtain ⟨ow0, how, how1⟩ := pk_nat x2 100000 (by omega)
           obtain ⟨bp2, hbp, hbp1⟩ := pk_nat x3 1000 (by omega)
           obtain ⟨ow, howe⟩ : ∃ ow, ow0 + 1 = ow := ⟨_, rfl⟩
           have hA : Hid (1 + pk x2 100000 = (ow : Int)) := by show _ = _; have e : pk x2 100000 = (ow0 : Int) := how.out; rw [e]; omega
           have hV := fun W h1 h2 => served0_ok T hT At nt ct (.slice Aw 600 cw) cc L B me me ow bp2 Ap lp.length cp x0 x1 x2 x3 x4 (dr : Int) W wf0 wf1 wf2 wf3 wf4 hq hme (by omega) hd hA (by omega) hbp (by omega) h1 h2 hS.srv hp (by omega) (by omega)
           obtain ⟨E, hE⟩ : ∃ E, (oweP (B.getD me cu0).a ow bp2).1 = E := ⟨_, rfl⟩
           obtain ⟨wl, hwe⟩ : ∃ wl, (if E = 0 then putW cc.length (L.length * 14) (evW (chgV me ow bp2)) else []) = wl := ⟨_, rfl⟩
           rw [hE, hwe] at hV
           unfold RetChg at hV
           have HX := Lib.hid (show E = 0 → (1 ≤ wl.length ∧ wl.length ≤ 15) ∧ (∀ p ∈ wl, p.1 < 600) ∧ (∀ p ∈ wl, p.2 < 4294967296) ∧ ∃ L2 B2, Shp T (applyW cc wl) L2 B2 lp (k + 1) from by
             intro h0
             rw [if_pos h0] at hwe
             have hv := chgV_ok (me := me) (ow := ow) (bp := bp2) (by omega) (by omega) (by omega) (by omega)
             have hkp := chg_law (T := T) hp (hE.trans h0)
             have hat := putW_at (len := cc.length) (at0 := L.length * 14) (r := evW (chgV me ow bp2)) (by simp only [evW, List.length_cons, List.length_nil]; omega)
             have hwn := putW_len cc.length (L.length * 14) (evW (chgV me ow bp2))
             have hlt := putW_lt (len := cc.length) (at0 := L.length * 14) (r := evW (chgV me ow bp2)) ⟨by simp [evW], fun x hx => by have := hv.lt x hx; omega⟩
             have hsh := hS.step (lp2 := lp) (by omega) hv ⟨show (5 : Nat) ≠ 1 by decide, show (0 : Nat) ≤ 1000000 by decide⟩ (place_some hp).1 hkp (by
               have e : oweP (B.getD me cu0).a ow bp2 = (0, (oweP (B.getD me cu0).a ow bp2).2) := by rw [← hE.trans h0]
               dsimp only; rw [(oweP_ne e).1]; dsimp only
               have h3 := hS.cus
               have hgd : B.getD me cu0 = B[me]'(place_some hp).1 := by simp [(place_some hp).1]
               rw [hgd]; exact hS.me me _) hook (by omega)
             have hsh2 : Shp T (applyW cc (putW cc.length (L.length * 14) (evW (chgV me ow bp2)))) _ _ lp (k + 1) := hsh
             rw [hwe] at hat hwn hlt hsh2
             simp [evW] at hwn
             exact ⟨by omega, fun p hp => by have := (hat p hp).2; omega, hlt, _, _, hsh2⟩)
           obtain ⟨nw, hnw⟩ : ∃ nw, wl.length = nw := ⟨_, rfl⟩
           rw [hnw] at hV HX
           have HW := Lib.hid hnw
           clear hwe hE how hA hbp how1 howe hp hlens hlen hlpl hook hnw hbl0
           obtain ⟨shlt, sh0, shf0, sh1, shf1, sh2, shf2, sh3, shf3, sh4, shf4, sh5, shf5, sh6, shf6⟩ := H.c7 3 rfl
           go_upto_region 16 with fail
           obtain ⟨LL, hLL⟩ : ∃ LL : List Chunk, [.blk (w.heap.size) 24 #[.slice A n m, .int .i64 a, .int .i64 b, .int .i64 c, .int .i64 d], .blk (w.heap.size + 1) 36 #[.slice none 0 0, .int .i64 0, .int .i64 0, .int .i64 0, .int .i64 0, .slice none 0 0, .slice none 0 0], .row (w1.heap.size) (161) (2) (.slice At nt ct) (nt) (drs T.tl), .blk (gs) 36 #[.slice At nt ct, .int .i64 ↑T.fx, .int .i64 ↑T.fb, .int .i64 ↑T.db, .int .i64 ↑T.al, .slice Aw 600 cw, .slice Ap lp.length cp], .row (bp) (155) (4) (.slice Ap lp.length cp) (lp.length) (prs lp), .row (bw) (86) (1) (.slice Aw 600 cw) (600) (ws cc)] = LL := ⟨_, rfl⟩
           rw [hLL] at H
           go_cut [16, 17, 15, 18] from 73 to 116 (fun p0 p1 p2 p3 wx => ∃ (ob rb : Nat) (A5 : Option Addr) (c5 : Nat) (base : Nat), p0 = .pointer (some ⟨ob, 0, none⟩) ∧ p1 = .pointer (some ⟨rb, 0, none⟩) ∧ p2 = .slice A5 nw c5 ∧ p3 = .int .i64 ↑E ∧ Mem (w) [] wx (LL ++ (.blk ob 34 #[.slice Ap lp.length cp] :: .blk rb 50 #[.int .i64 0, .int .i64 0, .int .i64 0, .int .i64 0, .int .i64 0, .int .i64 0, .int .i64 0, .int .i64 0, .string ⟨#[]⟩] :: [.row (base) (119) (2) (.slice A5 nw c5) (nw) (wrs wl)])) ∧ Below wr.heap.size wr wx)
           case first =>
             obtain ⟨Sd, hSd⟩ : ∃ Sd : World → Prop, Sd = fun w' => w'.cell? ⟨gs, 0, none⟩ = some (.slice At nt ct) ∧ w'.cell? ⟨gs, 1, none⟩ = some (.int .i64 ↑T.fx) ∧ w'.cell? ⟨gs, 2, none⟩ = some (.int .i64 ↑T.fb) ∧ w'.cell? ⟨gs, 3, none⟩ = some (.int .i64 ↑T.db) ∧ w'.cell? ⟨gs, 4, none⟩ = some (.int .i64 ↑T.al) ∧ w'.cell? ⟨gs, 5, none⟩ = some (.slice Aw 600 cw) ∧ w'.cell? ⟨gs, 6, none⟩ = some (.slice Ap lp.length cp) ∧ w'.cell? ⟨bl, ol + k * 5, none⟩ = some (.int .i64 x0) ∧ w'.cell? ⟨bl, ol + k * 5 + 1, none⟩ = some (.int .i64 x1) ∧ w'.cell? ⟨bl, ol + k * 5 + 2, none⟩ = some (.int .i64 x2) ∧ w'.cell? ⟨bl, ol + k * 5 + 3, none⟩ = some (.int .i64 x3) ∧ w'.cell? ⟨bl, ol + k * 5 + 4, none⟩ = some (.int .i64 x4) := ⟨_, rfl⟩
             have hSk : ∀ we, Below wr.heap.size wr we → Sd we := fun we hWe => by rw [hSd]; exact ⟨(hWe.cell shlt).trans sh0, (hWe.cell shlt).trans sh1, (hWe.cell shlt).trans sh2, (hWe.cell shlt).trans sh3, (hWe.cell shlt).trans sh4, (hWe.cell shlt).trans sh5, (hWe.cell shlt).trans sh6, (hWe.cell hbl).trans p0, (hWe.cell hbl).trans p1, (hWe.cell hbl).trans p2, (hWe.cell hbl).trans p3, (hWe.cell hbl).trans p4⟩
             have nz0a : wr.heap.size ≠ gs := by have := shlt; omega
             have nz0b : wr.heap.size + 1 ≠ gs := by have := shlt; omega
             have nz0c : gs ≠ wr.heap.size := by have := shlt; omega
             have nz0d : gs ≠ wr.heap.size + 1 := by have := shlt; omega
             have nz1a : wr.heap.size ≠ bl := by have := hbl; omega
             have nz1b : wr.heap.size + 1 ≠ bl := by have := hbl; omega
             have nz1c : bl ≠ wr.heap.size := by have := hbl; omega
             have nz1d : bl ≠ wr.heap.size + 1 := by have := hbl; omega
             have V0 : Mem wr [] (wr).drew [] := (Mem.init wr).drew
             have B0 := V0.below
             have V1 : Mem wr [] (wr.alloc (.cells #[.slice none 0 0] 34)).drew [.blk (wr.heap.size) 34 #[.slice none 0 0]] := ((Mem.init wr).alloc _ rfl #[.slice none 0 0] 34).drew
             have B1 := V1.below
             have V1b0 := V1.blk 0 rfl
             have V2 : Mem wr [] (wr.alloc (.cells #[.int .i64 0, .int .i64 0, .int .i64 0, .int .i64 0, .int .i64 0, .int .i64 0, .int .i64 0, .int .i64 0, .string ⟨#[]⟩] 50)).drew [.blk (wr.heap.size) 50 #[.int .i64 0, .int .i64 0, .int .i64 0, .int .i64 0, .int .i64 0, .int .i64 0, .int .i64 0, .int .i64 0, .string ⟨#[]⟩]] := ((Mem.init wr).alloc _ rfl #[.int .i64 0, .int .i64 0, .int .i64 0, .int .i64 0, .int .i64 0, .int .i64 0, .int .i64 0, .int .i64 0, .string ⟨#[]⟩] 50).drew
             have B2 := V2.below
             have V2b1 := V2.blk 0 rfl
             have V3 : Mem wr [] ((wr.alloc (.cells #[.slice none 0 0] 34)).alloc (.cells #[.int .i64 0, .int .i64 0, .int .i64 0, .int .i64 0, .int .i64 0, .int .i64 0, .int .i64 0, .int .i64 0, .string ⟨#[]⟩] 50)).drew [.blk (wr.heap.size) 34 #[.slice none 0 0], .blk (wr.heap.size + 1) 50 #[.int .i64 0, .int .i64 0, .int .i64 0, .int .i64 0, .int .i64 0, .int .i64 0, .int .i64 0, .int .i64 0, .string ⟨#[]⟩]] := (((Mem.init wr).alloc _ rfl #[.slice none 0 0] 34).alloc (wr.heap.size + 1) (by simp) #[.int .i64 0, .int .i64 0, .int .i64 0, .int .i64 0, .int .i64 0, .int .i64 0, .int .i64 0, .int .i64 0, .string ⟨#[]⟩] 50).drew
             have B3 := V3.below
             have V3b0 := V3.blk 0 rfl
             have V3b1 := V3.blk 1 rfl
             have V4 : Mem wr [] ((wr.alloc (.cells #[.int .i64 0, .int .i64 0, .int .i64 0, .int .i64 0, .int .i64 0, .int .i64 0, .int .i64 0, .int .i64 0, .string ⟨#[]⟩] 50)).alloc (.cells #[.slice none 0 0] 34)).drew [.blk (wr.heap.size + 1) 34 #[.slice none 0 0], .blk (wr.heap.size) 50 #[.int .i64 0, .int .i64 0, .int .i64 0, .int .i64 0, .int .i64 0, .int .i64 0, .int .i64 0, .int .i64 0, .string ⟨#[]⟩]] := Mem.perm (List.Perm.swap _ _ _) (((Mem.init wr).alloc _ rfl #[.int .i64 0, .int .i64 0, .int .i64 0, .int .i64 0, .int .i64 0, .int .i64 0, .int .i64 0, .int .i64 0, .string ⟨#[]⟩] 50).alloc (wr.heap.size + 1) (by simp) #[.slice none 0 0] 34).drew
             have B4 := V4.below
             have V4b0 := V4.blk 0 rfl
             have V4b1 := V4.blk 1 rfl
             go_region_held3 (fun w' => w'.cell? ⟨gs, 0, none⟩ = some (.slice At nt ct) ∧ w'.cell? ⟨gs, 1, none⟩ = some (.int .i64 ↑T.fx) ∧ w'.cell? ⟨gs, 2, none⟩ = some (.int .i64 ↑T.fb) ∧ w'.cell? ⟨gs, 3, none⟩ = some (.int .i64 ↑T.db) ∧ w'.cell? ⟨gs, 4, none⟩ = some (.int .i64 ↑T.al) ∧ w'.cell? ⟨gs, 5, none⟩ = some (.slice Aw 600 cw) ∧ w'.cell? ⟨gs, 6, none⟩ = some (.slice Ap lp.length cp) ∧ w'.cell? ⟨bl, ol + k * 5, none⟩ = some (.int .i64 x0) ∧ w'.cell? ⟨bl, ol + k * 5 + 1, none⟩ = some (.int .i64 x1) ∧ w'.cell? ⟨bl, ol + k * 5 + 2, none⟩ = some (.int .i64 x2) ∧ w'.cell? ⟨bl, ol + k * 5 + 3, none⟩ = some (.int .i64 x3) ∧ w'.cell? ⟨bl, ol + k * 5 + 4, none⟩ = some (.int .i64 x4)) (first | with_reducible exact ⟨s0, s1, s2, s3, s4, s5, s6, s7, s8, s9, s10, s11⟩ | go_keep | fail) (first | (go_at_call 7; (with_reducible refine (hV (wr).drew (hds.below B0) (hws0.below B0)).mono ?_); rintro e we ⟨A5, c5, rfl, hown, hbe⟩; have hV := V0; obtain ⟨bse, hK⟩ : ∃ bse : Nat, Mem (wr).drew [] we [.row (bse) (119) (2) (.slice A5 nw c5) (nw) (wrs wl)] := ⟨_, Mem.row (Mem.init _) hbe hown (Nat.le_refl _)⟩; have hWe : Below wr.heap.size wr we := B0.trans (hbe.mono B0.size); have q := hSk _ hWe; rw [hSd] at q; obtain ⟨s0, s1, s2, s3, s4, s5, s6, s7, s8, s9, s10, s11⟩ := q; have sz := hWe.size; have ez0a : we.heap.size ≠ gs := (by have := shlt; omega); have ez0b : we.heap.size + 1 ≠ gs := (by have := shlt; omega); have ez1a : we.heap.size ≠ bl := (by have := hbl; omega); have ez1b : we.heap.size + 1 ≠ bl := (by have := hbl; omega)) | (go_at_call 7; (with_reducible refine (hV (wr.alloc (.cells #[.slice none 0 0] 34)).drew (hds.below B1) (hws0.below B1)).mono ?_); rintro e we ⟨A5, c5, rfl, hown, hbe⟩; have hV := V1; obtain ⟨bse, hK⟩ : ∃ bse : Nat, Mem (wr.alloc (.cells #[.slice none 0 0] 34)).drew [] we [.row (bse) (119) (2) (.slice A5 nw c5) (nw) (wrs wl)] := ⟨_, Mem.row (Mem.init _) hbe hown (Nat.le_refl _)⟩; have hWe : Below wr.heap.size wr we := B1.trans (hbe.mono B1.size); have q := hSk _ hWe; rw [hSd] at q; obtain ⟨s0, s1, s2, s3, s4, s5, s6, s7, s8, s9, s10, s11⟩ := q; have sz := hWe.size; have ez0a : we.heap.size ≠ gs := (by have := shlt; omega); have ez0b : we.heap.size + 1 ≠ gs := (by have := shlt; omega); have ez1a : we.heap.size ≠ bl := (by have := hbl; omega); have ez1b : we.heap.size + 1 ≠ bl := (by have := hbl; omega); have zb0 := Blk.below V1b0 hbe V1b0.lt; obtain ⟨zb0lt, zb0_0, zb0f0⟩ := (V1.call hbe).c1 0 rfl) | (go_at_call 7; (with_reducible refine (hV (wr.alloc (.cells #[.int .i64 0, .int .i64 0, .int .i64 0, .int .i64 0, .int .i64 0, .int .i64 0, .int .i64 0, .int .i64 0, .string ⟨#[]⟩] 50)).drew (hds.below B2) (hws0.below B2)).mono ?_); rintro e we ⟨A5, c5, rfl, hown, hbe⟩; have hV := V2; obtain ⟨bse, hK⟩ : ∃ bse : Nat, Mem (wr.alloc (.cells #[.int .i64 0, .int .i64 0, .int .i64 0, .int .i64 0, .int .i64 0, .int .i64 0, .int .i64 0, .int .i64 0, .string ⟨#[]⟩] 50)).drew [] we [.row (bse) (119) (2) (.slice A5 nw c5) (nw) (wrs wl)] := ⟨_, Mem.row (Mem.init _) hbe hown (Nat.le_refl _)⟩; have hWe : Below wr.heap.size wr we := B2.trans (hbe.mono B2.size); have q := hSk _ hWe; rw [hSd] at q; obtain ⟨s0, s1, s2, s3, s4, s5, s6, s7, s8, s9, s10, s11⟩ := q; have sz := hWe.size; have ez0a : we.heap.size ≠ gs := (by have := shlt; omega); have ez0b : we.heap.size + 1 ≠ gs := (by have := shlt; omega); have ez1a : we.heap.size ≠ bl := (by have := hbl; omega); have ez1b : we.heap.size + 1 ≠ bl := (by have := hbl; omega); have zb1 := Blk.below V2b1 hbe V2b1.lt; obtain ⟨zb1lt, zb1_0, zb1f0, zb1_1, zb1f1, zb1_2, zb1f2, zb1_3, zb1f3, zb1_4, zb1f4, zb1_5, zb1f5, zb1_6, zb1f6, zb1_7, zb1f7, zb1_8, zb1f8⟩ := (V2.call hbe).c9 0 rfl) | (go_at_call 7; (with_reducible refine (hV ((wr.alloc (.cells #[.slice none 0 0] 34)).alloc (.cells #[.int .i64 0, .int .i64 0, .int .i64 0, .int .i64 0, .int .i64 0, .int .i64 0, .int .i64 0, .int .i64 0, .string ⟨#[]⟩] 50)).drew (hds.below B3) (hws0.below B3)).mono ?_); rintro e we ⟨A5, c5, rfl, hown, hbe⟩; have hV := V3; obtain ⟨bse, hK⟩ : ∃ bse : Nat, Mem ((wr.alloc (.cells #[.slice none 0 0] 34)).alloc (.cells #[.int .i64 0, .int .i64 0, .int .i64 0, .int .i64 0, .int .i64 0, .int .i64 0, .int .i64 0, .int .i64 0, .string ⟨#[]⟩] 50)).drew [] we [.row (bse) (119) (2) (.slice A5 nw c5) (nw) (wrs wl)] := ⟨_, Mem.row (Mem.init _) hbe hown (Nat.le_refl _)⟩; have hWe : Below wr.heap.size wr we := B3.trans (hbe.mono B3.size); have q := hSk _ hWe; rw [hSd] at q; obtain ⟨s0, s1, s2, s3, s4, s5, s6, s7, s8, s9, s10, s11⟩ := q; have sz := hWe.size; have ez0a : we.heap.size ≠ gs := (by have := shlt; omega); have ez0b : we.heap.size + 1 ≠ gs := (by have := shlt; omega); have ez1a : we.heap.size ≠ bl := (by have := hbl; omega); have ez1b : we.heap.size + 1 ≠ bl := (by have := hbl; omega); have zb0 := Blk.below V3b0 hbe V3b0.lt; obtain ⟨zb0lt, zb0_0, zb0f0⟩ := (V3.call hbe).c1 0 rfl; have zb1 := Blk.below V3b1 hbe V3b1.lt; obtain ⟨zb1lt, zb1_0, zb1f0, zb1_1, zb1f1, zb1_2, zb1f2, zb1_3, zb1f3, zb1_4, zb1f4, zb1_5, zb1f5, zb1_6, zb1f6, zb1_7, zb1f7, zb1_8, zb1f8⟩ := (V3.call hbe).c9 1 rfl; have zn1 : wr.heap.size ≠ wr.heap.size + 1 := (by omega); have zn2 : wr.heap.size + 1 ≠ wr.heap.size := (by omega)) | (go_at_call 7; (with_reducible refine (hV ((wr.alloc (.cells #[.int .i64 0, .int .i64 0, .int .i64 0, .int .i64 0, .int .i64 0, .int .i64 0, .int .i64 0, .int .i64 0, .string ⟨#[]⟩] 50)).alloc (.cells #[.slice none 0 0] 34)).drew (hds.below B4) (hws0.below B4)).mono ?_); rintro e we ⟨A5, c5, rfl, hown, hbe⟩; have hV := V4; obtain ⟨bse, hK⟩ : ∃ bse : Nat, Mem ((wr.alloc (.cells #[.int .i64 0, .int .i64 0, .int .i64 0, .int .i64 0, .int .i64 0, .int .i64 0, .int .i64 0, .int .i64 0, .string ⟨#[]⟩] 50)).alloc (.cells #[.slice none 0 0] 34)).drew [] we [.row (bse) (119) (2) (.slice A5 nw c5) (nw) (wrs wl)] := ⟨_, Mem.row (Mem.init _) hbe hown (Nat.le_refl _)⟩; have hWe : Below wr.heap.size wr we := B4.trans (hbe.mono B4.size); have q := hSk _ hWe; rw [hSd] at q; obtain ⟨s0, s1, s2, s3, s4, s5, s6, s7, s8, s9, s10, s11⟩ := q; have sz := hWe.size; have ez0a : we.heap.size ≠ gs := (by have := shlt; omega); have ez0b : we.heap.size + 1 ≠ gs := (by have := shlt; omega); have ez1a : we.heap.size ≠ bl := (by have := hbl; omega); have ez1b : we.heap.size + 1 ≠ bl := (by have := hbl; omega); have zb0 := Blk.below V4b0 hbe V4b0.lt; obtain ⟨zb0lt, zb0_0, zb0f0⟩ := (V4.call hbe).c1 0 rfl; have zb1 := Blk.below V4b1 hbe V4b1.lt; obtain ⟨zb1lt, zb1_0, zb1f0, zb1_1, zb1f1, zb1_2, zb1f2, zb1_3, zb1f3, zb1_4, zb1f4, zb1_5, zb1f5, zb1_6, zb1f6, zb1_7, zb1f7, zb1_8, zb1f8⟩ := (V4.call hbe).c9 1 rfl; have zn1 : wr.heap.size + 1 ≠ wr.heap.size := (by omega); have zn2 : wr.heap.size ≠ wr.heap.size + 1 := (by omega)))
             all_goals
               go_wp2_with fail
               go_meet
               refine ⟨_, _, A5, c5, bse, rfl, rfl, rfl, rfl, ?_⟩
               first
               | with_reducible exact ⟨cr2_a H hV hK, (cr2_a (Mem.init wr) hV hK).below⟩
               | with_reducible exact ⟨cr2_b H hV hK, (cr2_b (Mem.init wr) hV hK).below⟩
               | (have h := cr2_c (c1 := #[.slice Ap lp.length cp]) (c2 := #[.int .i64 0, .int .i64 0, .int .i64 0, .int .i64 0, .int .i64 0, .int .i64 0, .int .i64 0, .int .i64 0, .string ⟨#[]⟩]) (t1 := 34) (t2 := 50) (Mem.init wr) hV hK [(0, .slice Ap lp.length cp)] (by simp only [List.foldl_cons, List.foldl_nil, List.setIfInBounds_toArray, List.set_cons_zero])
                  simp only [sets, List.foldl_cons, List.foldl_nil, List.nil_append] at h
                  with_reducible exact ⟨H.join h, h.below⟩)
               | (have h := cr2_d (c1 := #[.slice Ap lp.length cp]) (c2 := #[.int .i64 0, .int .i64 0, .int .i64 0, .int .i64 0, .int .i64 0, .int .i64 0, .int .i64 0, .int .i64 0, .string ⟨#[]⟩]) (t1 := 34) (t2 := 50) (Mem.init wr) hV hK [(0, .int .i64 0), (1, .int .i64 0), (2, .int .i64 0), (3, .int .i64 0), (4, .int .i64 0), (5, .int .i64 0), (6, .int .i64 0), (7, .int .i64 0), (8, .string ⟨#[]⟩)] (by simp only [List.foldl_cons, List.foldl_nil, List.setIfInBounds_toArray, List.set_cons_zero, List.set_cons_succ])
                  simp only [sets, List.foldl_cons, List.foldl_nil, List.nil_append] at h
                  with_reducible exact ⟨H.join h, h.below⟩)
               | (have h := cr2_e (c1 := #[.slice Ap lp.length cp]) (c2 := #[.int .i64 0, .int .i64 0, .int .i64 0, .int .i64 0, .int .i64 0, .int .i64 0, .int .i64 0, .int .i64 0, .string ⟨#[]⟩]) (t1 := 34) (t2 := 50) (Mem.init wr) hV hK [(0, .slice Ap lp.length cp)] [(0, .int .i64 0), (1, .int .i64 0), (2, .int .i64 0), (3, .int .i64 0), (4, .int .i64 0), (5, .int .i64 0), (6, .int .i64 0), (7, .int .i64 0), (8, .string ⟨#[]⟩)] (by simp only [List.foldl_cons, List.foldl_nil, List.setIfInBounds_toArray, List.set_cons_zero]) (by simp only [List.foldl_cons, List.foldl_nil, List.setIfInBounds_toArray, List.set_cons_zero, List.set_cons_succ])
                  simp only [sets, List.foldl_cons, List.foldl_nil, List.nil_append] at h
                  with_reducible exact ⟨H.join h, h.below⟩)
               | (have h := cr2_f (c1 := #[.slice Ap lp.length cp]) (c2 := #[.int .i64 0, .int .i64 0, .int .i64 0, .int .i64 0, .int .i64 0, .int .i64 0, .int .i64 0, .int .i64 0, .string ⟨#[]⟩]) (t1 := 34) (t2 := 50) (Mem.init wr) hV hK [(0, .slice Ap lp.length cp)] [(0, .int .i64 0), (1, .int .i64 0), (2, .int .i64 0), (3, .int .i64 0), (4, .int .i64 0), (5, .int .i64 0), (6, .int .i64 0), (7, .int .i64 0), (8, .string ⟨#[]⟩)] (by simp only [List.foldl_cons, List.foldl_nil, List.setIfInBounds_toArray, List.set_cons_zero]) (by simp only [List.foldl_cons, List.foldl_nil, List.setIfInBounds_toArray, List.set_cons_zero, List.set_cons_succ])
                  simp only [sets, List.foldl_cons, List.foldl_nil, List.nil_append] at h
                  with_reducible exact ⟨H.join h, h.below⟩)
           case rest =>
             obtain ⟨ob, rb, A5, c5, base, rfl, rfl, rfl, rfl, H, hCR⟩ := hcut
             subst hLL
             replace H : Mem (w) [] (wc) [.blk (w.heap.size) 24 #[.slice A n m, .int .i64 a, .int .i64 b, .int .i64 c, .int .i64 d], .blk (w.heap.size + 1) 36 #[.slice none 0 0, .int .i64 0, .int .i64 0, .int .i64 0, .int .i64 0, .slice none 0 0, .slice none 0 0], .row (w1.heap.size) (161) (2) (.slice At nt ct) (nt) (drs T.tl), .blk (gs) 36 #[.slice At nt ct, .int .i64 ↑T.fx, .int .i64 ↑T.fb, .int .i64 ↑T.db, .int .i64 ↑T.al, .slice Aw 600 cw, .slice Ap lp.length cp], .row (bp) (155) (4) (.slice Ap lp.length cp) (lp.length) (prs lp), .row (bw) (86) (1) (.slice Aw 600 cw) (600) (ws cc), .blk (ob) 34 #[.slice Ap lp.length cp], .blk (rb) 50 #[.int .i64 0, .int .i64 0, .int .i64 0, .int .i64 0, .int .i64 0, .int .i64 0, .int .i64 0, .int .i64 0, .string ⟨#[]⟩], .row (base) (119) (2) (.slice A5 nw c5) (nw) (wrs wl)] := H
             clear hV hds hws0 hCR p0 p1 p2 p3 p4 hbl
             by_cases hE : E = 0
             · subst hE
               obtain ⟨hwn, hat, hx1, hsh⟩ := HX.out rfl
               have hwz : ((nw : Int) == 0) = false := by simp; omega
               have hwz2 : ¬ (nw : Int) = 0 := by omega
               have HS := Lib.hid hsh
               have hws := isws_own (xs := cc) HL.out hwl (H.own_ 5 rfl)
               have hwr := iswr_own (l := wl) HW.out hx1 (H.own_ 8 rfl)
               have HAt := Lib.hid hat
               clear hsh hat HX
               clear shlt sh0 shf0 sh1 shf1 sh2 shf2 sh3 shf3 sh4 shf4 sh5 shf5 sh6 shf6
               obtain ⟨shlt, sh0, shf0, sh1, shf1, sh2, shf2, sh3, shf3, sh4, shf4, sh5, shf5, sh6, shf6⟩ := H.c7 3 rfl
               go_wp2_with fail
               refine (apply600 Aw cw A5 c5 cc wl nw nw _ HW.out HL.out hws hwr HAt.out (by omega) (Nat.le_refl _)).mono ?_
               rintro e wv ⟨A6, c6, rfl, ⟨hx6, ho6⟩, hb6⟩
               rw [List.take_of_length_le (Nat.le_of_eq HW.out)] at hx6 ho6
               replace H : Mem (w) [] (wv) [.blk (w.heap.size) 24 #[.slice A n m, .int .i64 a, .int .i64 b, .int .i64 c, .int .i64 d], .blk (w.heap.size + 1) 36 #[.slice none 0 0, .int .i64 0, .int .i64 0, .int .i64 0, .int .i64 0, .slice none 0 0, .slice none 0 0], .row (w1.heap.size) (161) (2) (.slice At nt ct) (nt) (drs T.tl), .blk (gs) 36 #[.slice At nt ct, .int .i64 ↑T.fx, .int .i64 ↑T.fb, .int .i64 ↑T.db, .int .i64 ↑T.al, .slice Aw 600 cw, .slice Ap lp.length cp], .row (bp) (155) (4) (.slice Ap lp.length cp) (lp.length) (prs lp), .row (bw) (86) (1) (.slice Aw 600 cw) (600) (ws cc), .blk (ob) 34 #[.slice Ap lp.length cp], .blk (rb) 50 #[.int .i64 0, .int .i64 0, .int .i64 0, .int .i64 0, .int .i64 0, .int .i64 0, .int .i64 0, .int .i64 0, .string ⟨#[]⟩], .row (base) (119) (2) (.slice A5 nw c5) (nw) (wrs wl), .row (wc.heap.size) (86) (1) (.slice A6 600 c6) (600) (ws (applyW cc wl))] := Mem.row H hb6 ho6 (Nat.le_refl _)
               clear hws hwr ho6 hb6
               clear shlt sh0 shf0 sh1 shf1 sh2 shf2 sh3 shf3 sh4 shf4 sh5 shf5 sh6 shf6
               obtain ⟨shlt, sh0, shf0, sh1, shf1, sh2, shf2, sh3, shf3, sh4, shf4, sh5, shf5, sh6, shf6⟩ := H.c7 3 rfl
               obtain ⟨oblt, ob0, obf0⟩ := H.c1 6 rfl
               have ne_sh_ob := H.ne 3 6 rfl rfl (by decide)
               have ne_ob_sh := H.ne 6 3 rfl rfl (by decide)
               go_wp2
               go_roundw
               case rel =>
                 have HZ := Mem.set 3 (Mem.set 3 H rfl 5 (.slice A6 600 c6)) rfl 6 (.slice Ap lp.length cp)
                 obtain ⟨L2, B2, hsh⟩ := HS.out
                 exact ⟨k + 1, applyW cc wl, L2, B2, lp, A6, c6, Ap, cp, _, bp, by omega, by omega, by go_num, hx6, hsh, Mem.drop_ 5 (Mem.drop_ 6 (Mem.drop_ 6 (Mem.drop_ 6 HZ)))⟩
               case measure => simp [intOf]; omega
             · have hEb : ((E : Int) == 0) = false := by simp; omega
               have hEn : ¬ (E : Int) = 0 := by omega
               clear HX
               go_wp2
               go_roundw
               case rel => exact ⟨k + 1, cc, L, B, lp, Aw, cw, Ap, cp, _, _, by omega, by omega, by go_num, hwl, hS.more, Mem.drop_ 6 (Mem.drop_ 6 (Mem.drop_ 6 H))⟩
               case measure => simp [intOf]; omega
         · skip
           obtain ⟨ta, hta0, hta1⟩ := pk_nat x2 1000000 (by omega)
           obtain ⟨mo, hmo, hmo1⟩ := pk_nat x3 12 (by omega)
           obtain ⟨te, hte⟩ : ∃ te, ta + 1 = te := ⟨_, rfl⟩
           have hA : Hid (1 + pk x2 1000000 = (te : Int)) := by show _ = _; have e : pk x2 1000000 = (ta : Int) := hta0.out; rw [e]; omega
           have hV := fun W h1 h2 h3 => serveds_ok T hT At nt ct (.slice Aw 600 cw) cc L B ⟨q, me, te, mo⟩ me dr Ap lp.length cp lp x0 x1 x2 x3 x4 W wf0 wf1 wf2 wf3 wf4 hq hq0 hme (show me ≤ 2 by omega) hd (by omega) hA (show 1 ≤ te ∧ te ≤ 1000000 by omega) hmo (show mo ≤ 11 by omega) h1 h2 hS.srv hp (by omega) (by omega) h3 hook (by omega)
           have hps0 := isps_own (l := lp) rfl (ook_wf hook) (H.own_ 4 rfl)
           have hXX := hS.sale (x := ⟨q, me, te, mo⟩) (d := dr) hT (by omega) ⟨show me ≤ 49 by omega, show 1 ≤ te by omega, show te ≤ 1000000 by omega, show mo ≤ 2399 by omega⟩ (show me ≤ 2 by omega) (by omega)
           dsimp only at hXX
           obtain ⟨v, hve⟩ : ∃ v, saleP T (B.getD me cu0).a lp cc.length L.length dr ⟨q, me, te, mo⟩ = v := ⟨_, rfl⟩
           rw [hve] at hV hXX
           obtain ⟨wl, lq, vme, ⟨id, te2, de, fe, pr, ch, un⟩, s, E⟩ := v
           unfold RetServe at hV
           dsimp only at hV hXX
           have HX := Lib.hid hXX
           obtain ⟨nw, hnw⟩ : ∃ nw, wl.length = nw := ⟨_, rfl⟩
           rw [hnw] at hV HX
           have HW := Lib.hid hnw
           clear hve hXX hA hta0 hmo hte hp hlens hlen hlpl hook hnw hbl0
           obtain ⟨shlt, sh0, shf0, sh1, shf1, sh2, shf2, sh3, shf3, sh4, shf4, sh5, shf5, sh6, shf6⟩ := H.c7 3 rfl
           go_upto_region 16 with fail
           obtain ⟨LL, hLL⟩ : ∃ LL : List Chunk, [.blk (w.heap.size) 24 #[.slice A n m, .int .i64 a, .int .i64 b, .int .i64 c, .int .i64 d], .blk (w.heap.size + 1) 36 #[.slice none 0 0, .int .i64 0, .int .i64 0, .int .i64 0, .int .i64 0, .slice none 0 0, .slice none 0 0], .row (w1.heap.size) (161) (2) (.slice At nt ct) (nt) (drs T.tl), .blk (gs) 36 #[.slice At nt ct, .int .i64 ↑T.fx, .int .i64 ↑T.fb, .int .i64 ↑T.db, .int .i64 ↑T.al, .slice Aw 600 cw, .slice Ap lp.length cp], .row (bp) (155) (4) (.slice Ap lp.length cp) (lp.length) (prs lp), .row (bw) (86) (1) (.slice Aw 600 cw) (600) (ws cc)] = LL := ⟨_, rfl⟩
           rw [hLL] at H
           go_cut [16, 17, 15, 18] from 73 to 116 (fun p0 p1 p2 p3 wx => ∃ (ob rb : Nat) (A5 : Option Addr) (c5 : Nat) (Aq : Option Addr) (cq : Nat) (base : Nat), p0 = .pointer (some ⟨ob, 0, none⟩) ∧ p1 = .pointer (some ⟨rb, 0, none⟩) ∧ p2 = .slice A5 nw c5 ∧ p3 = .int .i64 ↑E ∧ Mem (w) [] wx (LL ++ (.blk ob 34 #[.slice Aq lq.length cq] :: .blk rb 50 #[.int .i64 ↑vme, .int .i64 ↑id, .int .i64 ↑te2, .int .i64 ↑de, .int .i64 ↑fe, .int .i64 ↑pr, .int .i64 ↑ch, .int .i64 ↑un, .string s] :: [.row (base) (155) (4) (.slice Aq lq.length cq) (lq.length) (prs lq), .row (base) (119) (2) (.slice A5 nw c5) (nw) (wrs wl)])) ∧ Below wr.heap.size wr wx)
           case first =>
             obtain ⟨Sd, hSd⟩ : ∃ Sd : World → Prop, Sd = fun w' => w'.cell? ⟨gs, 0, none⟩ = some (.slice At nt ct) ∧ w'.cell? ⟨gs, 1, none⟩ = some (.int .i64 ↑T.fx) ∧ w'.cell? ⟨gs, 2, none⟩ = some (.int .i64 ↑T.fb) ∧ w'.cell? ⟨gs, 3, none⟩ = some (.int .i64 ↑T.db) ∧ w'.cell? ⟨gs, 4, none⟩ = some (.int .i64 ↑T.al) ∧ w'.cell? ⟨gs, 5, none⟩ = some (.slice Aw 600 cw) ∧ w'.cell? ⟨gs, 6, none⟩ = some (.slice Ap lp.length cp) ∧ w'.cell? ⟨bl, ol + k * 5, none⟩ = some (.int .i64 x0) ∧ w'.cell? ⟨bl, ol + k * 5 + 1, none⟩ = some (.int .i64 x1) ∧ w'.cell? ⟨bl, ol + k * 5 + 2, none⟩ = some (.int .i64 x2) ∧ w'.cell? ⟨bl, ol + k * 5 + 3, none⟩ = some (.int .i64 x3) ∧ w'.cell? ⟨bl, ol + k * 5 + 4, none⟩ = some (.int .i64 x4) := ⟨_, rfl⟩
             have hSk : ∀ we, Below wr.heap.size wr we → Sd we := fun we hWe => by rw [hSd]; exact ⟨(hWe.cell shlt).trans sh0, (hWe.cell shlt).trans sh1, (hWe.cell shlt).trans sh2, (hWe.cell shlt).trans sh3, (hWe.cell shlt).trans sh4, (hWe.cell shlt).trans sh5, (hWe.cell shlt).trans sh6, (hWe.cell hbl).trans p0, (hWe.cell hbl).trans p1, (hWe.cell hbl).trans p2, (hWe.cell hbl).trans p3, (hWe.cell hbl).trans p4⟩
             have nz0a : wr.heap.size ≠ gs := by have := shlt; omega
             have nz0b : wr.heap.size + 1 ≠ gs := by have := shlt; omega
             have nz0c : gs ≠ wr.heap.size := by have := shlt; omega
             have nz0d : gs ≠ wr.heap.size + 1 := by have := shlt; omega
             have nz1a : wr.heap.size ≠ bl := by have := hbl; omega
             have nz1b : wr.heap.size + 1 ≠ bl := by have := hbl; omega
             have nz1c : bl ≠ wr.heap.size := by have := hbl; omega
             have nz1d : bl ≠ wr.heap.size + 1 := by have := hbl; omega
             have V0 : Mem wr [] (wr).drew [] := (Mem.init wr).drew
             have B0 := V0.below
             have V1 : Mem wr [] (wr.alloc (.cells #[.slice none 0 0] 34)).drew [.blk (wr.heap.size) 34 #[.slice none 0 0]] := ((Mem.init wr).alloc _ rfl #[.slice none 0 0] 34).drew
             have B1 := V1.below
             have V1b0 := V1.blk 0 rfl
             have V2 : Mem wr [] (wr.alloc (.cells #[.int .i64 0, .int .i64 0, .int .i64 0, .int .i64 0, .int .i64 0, .int .i64 0, .int .i64 0, .int .i64 0, .string ⟨#[]⟩] 50)).drew [.blk (wr.heap.size) 50 #[.int .i64 0, .int .i64 0, .int .i64 0, .int .i64 0, .int .i64 0, .int .i64 0, .int .i64 0, .int .i64 0, .string ⟨#[]⟩]] := ((Mem.init wr).alloc _ rfl #[.int .i64 0, .int .i64 0, .int .i64 0, .int .i64 0, .int .i64 0, .int .i64 0, .int .i64 0, .int .i64 0, .string ⟨#[]⟩] 50).drew
             have B2 := V2.below
             have V2b1 := V2.blk 0 rfl
             have V3 : Mem wr [] ((wr.alloc (.cells #[.slice none 0 0] 34)).alloc (.cells #[.int .i64 0, .int .i64 0, .int .i64 0, .int .i64 0, .int .i64 0, .int .i64 0, .int .i64 0, .int .i64 0, .string ⟨#[]⟩] 50)).drew [.blk (wr.heap.size) 34 #[.slice none 0 0], .blk (wr.heap.size + 1) 50 #[.int .i64 0, .int .i64 0, .int .i64 0, .int .i64 0, .int .i64 0, .int .i64 0, .int .i64 0, .int .i64 0, .string ⟨#[]⟩]] := (((Mem.init wr).alloc _ rfl #[.slice none 0 0] 34).alloc (wr.heap.size + 1) (by simp) #[.int .i64 0, .int .i64 0, .int .i64 0, .int .i64 0, .int .i64 0, .int .i64 0, .int .i64 0, .int .i64 0, .string ⟨#[]⟩] 50).drew
             have B3 := V3.below
             have V3b0 := V3.blk 0 rfl
             have V3b1 := V3.blk 1 rfl
             have V4 : Mem wr [] ((wr.alloc (.cells #[.int .i64 0, .int .i64 0, .int .i64 0, .int .i64 0, .int .i64 0, .int .i64 0, .int .i64 0, .int .i64 0, .string ⟨#[]⟩] 50)).alloc (.cells #[.slice none 0 0] 34)).drew [.blk (wr.heap.size + 1) 34 #[.slice none 0 0], .blk (wr.heap.size) 50 #[.int .i64 0, .int .i64 0, .int .i64 0, .int .i64 0, .int .i64 0, .int .i64 0, .int .i64 0, .int .i64 0, .string ⟨#[]⟩]] := Mem.perm (List.Perm.swap _ _ _) (((Mem.init wr).alloc _ rfl #[.int .i64 0, .int .i64 0, .int .i64 0, .int .i64 0, .int .i64 0, .int .i64 0, .int .i64 0, .int .i64 0, .string ⟨#[]⟩] 50).alloc (wr.heap.size + 1) (by simp) #[.slice none 0 0] 34).drew
             have B4 := V4.below
             have V4b0 := V4.blk 0 rfl
             have V4b1 := V4.blk 1 rfl
             go_region_held3 (fun w' => w'.cell? ⟨gs, 0, none⟩ = some (.slice At nt ct) ∧ w'.cell? ⟨gs, 1, none⟩ = some (.int .i64 ↑T.fx) ∧ w'.cell? ⟨gs, 2, none⟩ = some (.int .i64 ↑T.fb) ∧ w'.cell? ⟨gs, 3, none⟩ = some (.int .i64 ↑T.db) ∧ w'.cell? ⟨gs, 4, none⟩ = some (.int .i64 ↑T.al) ∧ w'.cell? ⟨gs, 5, none⟩ = some (.slice Aw 600 cw) ∧ w'.cell? ⟨gs, 6, none⟩ = some (.slice Ap lp.length cp) ∧ w'.cell? ⟨bl, ol + k * 5, none⟩ = some (.int .i64 x0) ∧ w'.cell? ⟨bl, ol + k * 5 + 1, none⟩ = some (.int .i64 x1) ∧ w'.cell? ⟨bl, ol + k * 5 + 2, none⟩ = some (.int .i64 x2) ∧ w'.cell? ⟨bl, ol + k * 5 + 3, none⟩ = some (.int .i64 x3) ∧ w'.cell? ⟨bl, ol + k * 5 + 4, none⟩ = some (.int .i64 x4)) (first | with_reducible exact ⟨s0, s1, s2, s3, s4, s5, s6, s7, s8, s9, s10, s11⟩ | go_keep | fail) (first | (go_at_call 7; (with_reducible refine (hV (wr).drew (hds.below B0) (hws0.below B0) (hps0.below B0)).mono ?_); rintro e we ⟨A5, c5, Aq, cq, rfl, ho1, ho2, hbe⟩; have hV := V0; obtain ⟨bse, hK⟩ : ∃ bse : Nat, Mem (wr).drew [] we [.row (bse) (155) (4) (.slice Aq lq.length cq) (lq.length) (prs lq), .row (bse) (119) (2) (.slice A5 nw c5) (nw) (wrs wl)] := ⟨_, Mem.row2 (Mem.init _) hbe ho1 ho2 (by decide)⟩; have hWe : Below wr.heap.size wr we := B0.trans (hbe.mono B0.size); have q := hSk _ hWe; rw [hSd] at q; obtain ⟨s0, s1, s2, s3, s4, s5, s6, s7, s8, s9, s10, s11⟩ := q; have sz := hWe.size; have ez0a : we.heap.size ≠ gs := (by have := shlt; omega); have ez0b : we.heap.size + 1 ≠ gs := (by have := shlt; omega); have ez1a : we.heap.size ≠ bl := (by have := hbl; omega); have ez1b : we.heap.size + 1 ≠ bl := (by have := hbl; omega)) | (go_at_call 7; (with_reducible refine (hV (wr.alloc (.cells #[.slice none 0 0] 34)).drew (hds.below B1) (hws0.below B1) (hps0.below B1)).mono ?_); rintro e we ⟨A5, c5, Aq, cq, rfl, ho1, ho2, hbe⟩; have hV := V1; obtain ⟨bse, hK⟩ : ∃ bse : Nat, Mem (wr.alloc (.cells #[.slice none 0 0] 34)).drew [] we [.row (bse) (155) (4) (.slice Aq lq.length cq) (lq.length) (prs lq), .row (bse) (119) (2) (.slice A5 nw c5) (nw) (wrs wl)] := ⟨_, Mem.row2 (Mem.init _) hbe ho1 ho2 (by decide)⟩; have hWe : Below wr.heap.size wr we := B1.trans (hbe.mono B1.size); have q := hSk _ hWe; rw [hSd] at q; obtain ⟨s0, s1, s2, s3, s4, s5, s6, s7, s8, s9, s10, s11⟩ := q; have sz := hWe.size; have ez0a : we.heap.size ≠ gs := (by have := shlt; omega); have ez0b : we.heap.size + 1 ≠ gs := (by have := shlt; omega); have ez1a : we.heap.size ≠ bl := (by have := hbl; omega); have ez1b : we.heap.size + 1 ≠ bl := (by have := hbl; omega); have zb0 := Blk.below V1b0 hbe V1b0.lt; obtain ⟨zb0lt, zb0_0, zb0f0⟩ := (V1.call hbe).c1 0 rfl) | (go_at_call 7; (with_reducible refine (hV (wr.alloc (.cells #[.int .i64 0, .int .i64 0, .int .i64 0, .int .i64 0, .int .i64 0, .int .i64 0, .int .i64 0, .int .i64 0, .string ⟨#[]⟩] 50)).drew (hds.below B2) (hws0.below B2) (hps0.below B2)).mono ?_); rintro e we ⟨A5, c5, Aq, cq, rfl, ho1, ho2, hbe⟩; have hV := V2; obtain ⟨bse, hK⟩ : ∃ bse : Nat, Mem (wr.alloc (.cells #[.int .i64 0, .int .i64 0, .int .i64 0, .int .i64 0, .int .i64 0, .int .i64 0, .int .i64 0, .int .i64 0, .string ⟨#[]⟩] 50)).drew [] we [.row (bse) (155) (4) (.slice Aq lq.length cq) (lq.length) (prs lq), .row (bse) (119) (2) (.slice A5 nw c5) (nw) (wrs wl)] := ⟨_, Mem.row2 (Mem.init _) hbe ho1 ho2 (by decide)⟩; have hWe : Below wr.heap.size wr we := B2.trans (hbe.mono B2.size); have q := hSk _ hWe; rw [hSd] at q; obtain ⟨s0, s1, s2, s3, s4, s5, s6, s7, s8, s9, s10, s11⟩ := q; have sz := hWe.size; have ez0a : we.heap.size ≠ gs := (by have := shlt; omega); have ez0b : we.heap.size + 1 ≠ gs := (by have := shlt; omega); have ez1a : we.heap.size ≠ bl := (by have := hbl; omega); have ez1b : we.heap.size + 1 ≠ bl := (by have := hbl; omega); have zb1 := Blk.below V2b1 hbe V2b1.lt; obtain ⟨zb1lt, zb1_0, zb1f0, zb1_1, zb1f1, zb1_2, zb1f2, zb1_3, zb1f3, zb1_4, zb1f4, zb1_5, zb1f5, zb1_6, zb1f6, zb1_7, zb1f7, zb1_8, zb1f8⟩ := (V2.call hbe).c9 0 rfl) | (go_at_call 7; (with_reducible refine (hV ((wr.alloc (.cells #[.slice none 0 0] 34)).alloc (.cells #[.int .i64 0, .int .i64 0, .int .i64 0, .int .i64 0, .int .i64 0, .int .i64 0, .int .i64 0, .int .i64 0, .string ⟨#[]⟩] 50)).drew (hds.below B3) (hws0.below B3) (hps0.below B3)).mono ?_); rintro e we ⟨A5, c5, Aq, cq, rfl, ho1, ho2, hbe⟩; have hV := V3; obtain ⟨bse, hK⟩ : ∃ bse : Nat, Mem ((wr.alloc (.cells #[.slice none 0 0] 34)).alloc (.cells #[.int .i64 0, .int .i64 0, .int .i64 0, .int .i64 0, .int .i64 0, .int .i64 0, .int .i64 0, .int .i64 0, .string ⟨#[]⟩] 50)).drew [] we [.row (bse) (155) (4) (.slice Aq lq.length cq) (lq.length) (prs lq), .row (bse) (119) (2) (.slice A5 nw c5) (nw) (wrs wl)] := ⟨_, Mem.row2 (Mem.init _) hbe ho1 ho2 (by decide)⟩; have hWe : Below wr.heap.size wr we := B3.trans (hbe.mono B3.size); have q := hSk _ hWe; rw [hSd] at q; obtain ⟨s0, s1, s2, s3, s4, s5, s6, s7, s8, s9, s10, s11⟩ := q; have sz := hWe.size; have ez0a : we.heap.size ≠ gs := (by have := shlt; omega); have ez0b : we.heap.size + 1 ≠ gs := (by have := shlt; omega); have ez1a : we.heap.size ≠ bl := (by have := hbl; omega); have ez1b : we.heap.size + 1 ≠ bl := (by have := hbl; omega); have zb0 := Blk.below V3b0 hbe V3b0.lt; obtain ⟨zb0lt, zb0_0, zb0f0⟩ := (V3.call hbe).c1 0 rfl; have zb1 := Blk.below V3b1 hbe V3b1.lt; obtain ⟨zb1lt, zb1_0, zb1f0, zb1_1, zb1f1, zb1_2, zb1f2, zb1_3, zb1f3, zb1_4, zb1f4, zb1_5, zb1f5, zb1_6, zb1f6, zb1_7, zb1f7, zb1_8, zb1f8⟩ := (V3.call hbe).c9 1 rfl; have zn1 : wr.heap.size ≠ wr.heap.size + 1 := (by omega); have zn2 : wr.heap.size + 1 ≠ wr.heap.size := (by omega)) | (go_at_call 7; (with_reducible refine (hV ((wr.alloc (.cells #[.int .i64 0, .int .i64 0, .int .i64 0, .int .i64 0, .int .i64 0, .int .i64 0, .int .i64 0, .int .i64 0, .string ⟨#[]⟩] 50)).alloc (.cells #[.slice none 0 0] 34)).drew (hds.below B4) (hws0.below B4) (hps0.below B4)).mono ?_); rintro e we ⟨A5, c5, Aq, cq, rfl, ho1, ho2, hbe⟩; have hV := V4; obtain ⟨bse, hK⟩ : ∃ bse : Nat, Mem ((wr.alloc (.cells #[.int .i64 0, .int .i64 0, .int .i64 0, .int .i64 0, .int .i64 0, .int .i64 0, .int .i64 0, .int .i64 0, .string ⟨#[]⟩] 50)).alloc (.cells #[.slice none 0 0] 34)).drew [] we [.row (bse) (155) (4) (.slice Aq lq.length cq) (lq.length) (prs lq), .row (bse) (119) (2) (.slice A5 nw c5) (nw) (wrs wl)] := ⟨_, Mem.row2 (Mem.init _) hbe ho1 ho2 (by decide)⟩; have hWe : Below wr.heap.size wr we := B4.trans (hbe.mono B4.size); have q := hSk _ hWe; rw [hSd] at q; obtain ⟨s0, s1, s2, s3, s4, s5, s6, s7, s8, s9, s10, s11⟩ := q; have sz := hWe.size; have ez0a : we.heap.size ≠ gs := (by have := shlt; omega); have ez0b : we.heap.size + 1 ≠ gs := (by have := shlt; omega); have ez1a : we.heap.size ≠ bl := (by have := hbl; omega); have ez1b : we.heap.size + 1 ≠ bl := (by have := hbl; omega); have zb0 := Blk.below V4b0 hbe V4b0.lt; obtain ⟨zb0lt, zb0_0, zb0f0⟩ := (V4.call hbe).c1 0 rfl; have zb1 := Blk.below V4b1 hbe V4b1.lt; obtain ⟨zb1lt, zb1_0, zb1f0, zb1_1, zb1f1, zb1_2, zb1f2, zb1_3, zb1f3, zb1_4, zb1f4, zb1_5, zb1f5, zb1_6, zb1f6, zb1_7, zb1f7, zb1_8, zb1f8⟩ := (V4.call hbe).c9 1 rfl; have zn1 : wr.heap.size + 1 ≠ wr.heap.size := (by omega); have zn2 : wr.heap.size ≠ wr.heap.size + 1 := (by omega)))
             all_goals
               go_wp2_with fail
               go_meet
               refine ⟨_, _, A5, c5, Aq, cq, bse, rfl, rfl, rfl, rfl, ?_⟩
               first
               | with_reducible exact ⟨cr2_a H hV hK, (cr2_a (Mem.init wr) hV hK).below⟩
               | with_reducible exact ⟨cr2_b H hV hK, (cr2_b (Mem.init wr) hV hK).below⟩
               | (have h := cr2_c (c1 := #[.slice Aq lq.length cq]) (c2 := #[.int .i64 ↑vme, .int .i64 ↑id, .int .i64 ↑te2, .int .i64 ↑de, .int .i64 ↑fe, .int .i64 ↑pr, .int .i64 ↑ch, .int .i64 ↑un, .string s]) (t1 := 34) (t2 := 50) (Mem.init wr) hV hK [(0, .slice Aq lq.length cq)] (by simp only [List.foldl_cons, List.foldl_nil, List.setIfInBounds_toArray, List.set_cons_zero])
                  simp only [sets, List.foldl_cons, List.foldl_nil, List.nil_append] at h
                  with_reducible exact ⟨H.join h, h.below⟩)
               | (have h := cr2_d (c1 := #[.slice Aq lq.length cq]) (c2 := #[.int .i64 ↑vme, .int .i64 ↑id, .int .i64 ↑te2, .int .i64 ↑de, .int .i64 ↑fe, .int .i64 ↑pr, .int .i64 ↑ch, .int .i64 ↑un, .string s]) (t1 := 34) (t2 := 50) (Mem.init wr) hV hK [(0, .int .i64 ↑vme), (1, .int .i64 ↑id), (2, .int .i64 ↑te2), (3, .int .i64 ↑de), (4, .int .i64 ↑fe), (5, .int .i64 ↑pr), (6, .int .i64 ↑ch), (7, .int .i64 ↑un), (8, .string s)] (by simp only [List.foldl_cons, List.foldl_nil, List.setIfInBounds_toArray, List.set_cons_zero, List.set_cons_succ])
                  simp only [sets, List.foldl_cons, List.foldl_nil, List.nil_append] at h
                  with_reducible exact ⟨H.join h, h.below⟩)
               | (have h := cr2_e (c1 := #[.slice Aq lq.length cq]) (c2 := #[.int .i64 ↑vme, .int .i64 ↑id, .int .i64 ↑te2, .int .i64 ↑de, .int .i64 ↑fe, .int .i64 ↑pr, .int .i64 ↑ch, .int .i64 ↑un, .string s]) (t1 := 34) (t2 := 50) (Mem.init wr) hV hK [(0, .slice Aq lq.length cq)] [(0, .int .i64 ↑vme), (1, .int .i64 ↑id), (2, .int .i64 ↑te2), (3, .int .i64 ↑de), (4, .int .i64 ↑fe), (5, .int .i64 ↑pr), (6, .int .i64 ↑ch), (7, .int .i64 ↑un), (8, .string s)] (by simp only [List.foldl_cons, List.foldl_nil, List.setIfInBounds_toArray, List.set_cons_zero]) (by simp only [List.foldl_cons, List.foldl_nil, List.setIfInBounds_toArray, List.set_cons_zero, List.set_cons_succ])
                  simp only [sets, List.foldl_cons, List.foldl_nil, List.nil_append] at h
                  with_reducible exact ⟨H.join h, h.below⟩)
               | (have h := cr2_f (c1 := #[.slice Aq lq.length cq]) (c2 := #[.int .i64 ↑vme, .int .i64 ↑id, .int .i64 ↑te2, .int .i64 ↑de, .int .i64 ↑fe, .int .i64 ↑pr, .int .i64 ↑ch, .int .i64 ↑un, .string s]) (t1 := 34) (t2 := 50) (Mem.init wr) hV hK [(0, .slice Aq lq.length cq)] [(0, .int .i64 ↑vme), (1, .int .i64 ↑id), (2, .int .i64 ↑te2), (3, .int .i64 ↑de), (4, .int .i64 ↑fe), (5, .int .i64 ↑pr), (6, .int .i64 ↑ch), (7, .int .i64 ↑un), (8, .string s)] (by simp only [List.foldl_cons, List.foldl_nil, List.setIfInBounds_toArray, List.set_cons_zero]) (by simp only [List.foldl_cons, List.foldl_nil, List.setIfInBounds_toArray, List.set_cons_zero, List.set_cons_succ])
                  simp only [sets, List.foldl_cons, List.foldl_nil, List.nil_append] at h
                  with_reducible exact ⟨H.join h, h.below⟩)
           case rest =>
             obtain ⟨ob, rb, A5, c5, Aq, cq, base, rfl, rfl, rfl, rfl, H, hCR⟩ := hcut
             subst hLL
             replace H : Mem (w) [] (wc) [.blk (w.heap.size) 24 #[.slice A n m, .int .i64 a, .int .i64 b, .int .i64 c, .int .i64 d], .blk (w.heap.size + 1) 36 #[.slice none 0 0, .int .i64 0, .int .i64 0, .int .i64 0, .int .i64 0, .slice none 0 0, .slice none 0 0], .row (w1.heap.size) (161) (2) (.slice At nt ct) (nt) (drs T.tl), .blk (gs) 36 #[.slice At nt ct, .int .i64 ↑T.fx, .int .i64 ↑T.fb, .int .i64 ↑T.db, .int .i64 ↑T.al, .slice Aw 600 cw, .slice Ap lp.length cp], .row (bp) (155) (4) (.slice Ap lp.length cp) (lp.length) (prs lp), .row (bw) (86) (1) (.slice Aw 600 cw) (600) (ws cc), .blk (ob) 34 #[.slice Aq lq.length cq], .blk (rb) 50 #[.int .i64 ↑vme, .int .i64 ↑id, .int .i64 ↑te2, .int .i64 ↑de, .int .i64 ↑fe, .int .i64 ↑pr, .int .i64 ↑ch, .int .i64 ↑un, .string s], .row (base) (155) (4) (.slice Aq lq.length cq) (lq.length) (prs lq), .row (base) (119) (2) (.slice A5 nw c5) (nw) (wrs wl)] := H
             clear hV hds hws0 hps0 hCR p0 p1 p2 p3 p4 hbl
             by_cases hE : E = 0
             · subst hE
               obtain ⟨hwn, hat, hx1, hsh⟩ := HX.out rfl
               have hwz : ((nw : Int) == 0) = false := by simp; omega
               have hwz2 : ¬ (nw : Int) = 0 := by omega
               have HS := Lib.hid hsh
               have hws := isws_own (xs := cc) HL.out hwl (H.own_ 5 rfl)
               have hwr := iswr_own (l := wl) HW.out hx1 (H.own_ 9 rfl)
               have HAt := Lib.hid hat
               clear hsh hat HX
               clear shlt sh0 shf0 sh1 shf1 sh2 shf2 sh3 shf3 sh4 shf4 sh5 shf5 sh6 shf6
               obtain ⟨shlt, sh0, shf0, sh1, shf1, sh2, shf2, sh3, shf3, sh4, shf4, sh5, shf5, sh6, shf6⟩ := H.c7 3 rfl
               go_wp2_with fail
               refine (apply600 Aw cw A5 c5 cc wl nw nw _ HW.out HL.out hws hwr HAt.out (by omega) (Nat.le_refl _)).mono ?_
               rintro e wv ⟨A6, c6, rfl, ⟨hx6, ho6⟩, hb6⟩
               rw [List.take_of_length_le (Nat.le_of_eq HW.out)] at hx6 ho6
               replace H : Mem (w) [] (wv) [.blk (w.heap.size) 24 #[.slice A n m, .int .i64 a, .int .i64 b, .int .i64 c, .int .i64 d], .blk (w.heap.size + 1) 36 #[.slice none 0 0, .int .i64 0, .int .i64 0, .int .i64 0, .int .i64 0, .slice none 0 0, .slice none 0 0], .row (w1.heap.size) (161) (2) (.slice At nt ct) (nt) (drs T.tl), .blk (gs) 36 #[.slice At nt ct, .int .i64 ↑T.fx, .int .i64 ↑T.fb, .int .i64 ↑T.db, .int .i64 ↑T.al, .slice Aw 600 cw, .slice Ap lp.length cp], .row (bp) (155) (4) (.slice Ap lp.length cp) (lp.length) (prs lp), .row (bw) (86) (1) (.slice Aw 600 cw) (600) (ws cc), .blk (ob) 34 #[.slice Aq lq.length cq], .blk (rb) 50 #[.int .i64 ↑vme, .int .i64 ↑id, .int .i64 ↑te2, .int .i64 ↑de, .int .i64 ↑fe, .int .i64 ↑pr, .int .i64 ↑ch, .int .i64 ↑un, .string s], .row (base) (155) (4) (.slice Aq lq.length cq) (lq.length) (prs lq), .row (base) (119) (2) (.slice A5 nw c5) (nw) (wrs wl), .row (wc.heap.size) (86) (1) (.slice A6 600 c6) (600) (ws (applyW cc wl))] := Mem.row H hb6 ho6 (Nat.le_refl _)
               clear hws hwr ho6 hb6
               clear shlt sh0 shf0 sh1 shf1 sh2 shf2 sh3 shf3 sh4 shf4 sh5 shf5 sh6 shf6
               obtain ⟨shlt, sh0, shf0, sh1, shf1, sh2, shf2, sh3, shf3, sh4, shf4, sh5, shf5, sh6, shf6⟩ := H.c7 3 rfl
               obtain ⟨oblt, ob0, obf0⟩ := H.c1 6 rfl
               have ne_sh_ob := H.ne 3 6 rfl rfl (by decide)
               have ne_ob_sh := H.ne 6 3 rfl rfl (by decide)
               go_wp2
               go_roundw
               case rel =>
                 have HZ := Mem.set 3 (Mem.set 3 H rfl 5 (.slice A6 600 c6)) rfl 6 (.slice Aq lq.length cq)
                 obtain ⟨L2, B2, hsh⟩ := HS.out
                 exact ⟨k + 1, applyW cc wl, L2, B2, lq, A6, c6, Aq, cq, _, _, by omega, by omega, by go_num, hx6, hsh, Mem.drop_ 4 (Mem.drop_ 5 (Mem.drop_ 6 (Mem.drop_ 7 (Mem.drop_ 9 HZ))))⟩
               case measure => simp [intOf]; omega
             · have hEb : ((E : Int) == 0) = false := by simp; omega
               have hEn : ¬ (E : Int) = 0 := by omega
               clear HX
               go_wp2
               go_roundw
               case rel => exact ⟨k + 1, cc, L, B, lp, Aw, cw, Ap, cp, _, _, by omega, by omega, by go_num, hwl, hS.more, Mem.drop_ 6 (Mem.drop_ 6 (Mem.drop_ 6 (Mem.drop_ 6 H)))⟩
               case measure => simp [intOf]; omega
       · skip
         have hS12 := hS.le hk12
         by_cases hk1 : k < nl
         · have ki1 : (k : Int) < (nl : Int) := by omega
           have ki2 : ¬ (k : Int) < 12 := by omega
           obtain ⟨shlt, sh0, shf0, sh1, shf1, sh2, shf2, sh3, shf3, sh4, shf4, sh5, shf5, sh6, shf6⟩ := H.c7 3 rfl
           obtain ⟨rslt, rs0, rsf0, rs1, rsf1, rs2, rsf2, rs3, rsf3, rs4, rsf4, rs5, rsf5, rs6, rsf6⟩ := H.c7 1 rfl
           have ne_sh_rs := H.ne 3 1 rfl rfl (by decide)
           have ne_rs_sh := H.ne 1 3 rfl rfl (by decide)
           go_wp2
           obtain ⟨W9, hW9⟩ : ∃ W9, (((((((wr).setCell ⟨w.heap.size + 1, 0, none⟩ (.slice At nt ct)).setCell ⟨w.heap.size + 1, 1, none⟩ (.int .i64 ↑T.fx)).setCell ⟨w.heap.size + 1, 2, none⟩ (.int .i64 ↑T.fb)).setCell ⟨w.heap.size + 1, 3, none⟩ (.int .i64 ↑T.db)).setCell ⟨w.heap.size + 1, 4, none⟩ (.int .i64 ↑T.al)).setCell ⟨w.heap.size + 1, 5, none⟩ (.slice Aw 600 cw)).setCell ⟨w.heap.size + 1, 6, none⟩ (.slice Ap lp.length cp) = W9 := ⟨_, rfl⟩
           replace H := Mem.set 1 H rfl (0) (.slice At nt ct)
           replace H := Mem.set 1 H rfl (1) (.int .i64 ↑T.fx)
           replace H := Mem.set 1 H rfl (2) (.int .i64 ↑T.fb)
           replace H := Mem.set 1 H rfl (3) (.int .i64 ↑T.db)
           replace H := Mem.set 1 H rfl (4) (.int .i64 ↑T.al)
           replace H := Mem.set 1 H rfl (5) (.slice Aw 600 cw)
           replace H := Mem.set 1 H rfl (6) (.slice Ap lp.length cp)
           simp only [List.set_cons_zero, List.set_cons_succ, List.setIfInBounds_toArray] at H
           rw [hW9] at H ⊢
           clear hW9
           clear shlt sh0 shf0 sh1 shf1 sh2 shf2 sh3 shf3 sh4 shf4 sh5 shf5 sh6 shf6 rslt rs0 rsf0 rs1 rsf1 rs2 rsf2 rs3 rsf3 rs4 rsf4 rs5 rsf5 rs6 rsf6 ne_sh_rs ne_rs_sh
           obtain ⟨rslt, rs0, rsf0, rs1, rsf1, rs2, rsf2, rs3, rsf3, rs4, rsf4, rs5, rsf5, rs6, rsf6⟩ := H.c7 1 rfl
           refine bodyPost_ret (v := .tuple #[.agg #[.slice At nt ct, .int .i64 ↑T.fx, .int .i64 ↑T.fb, .int .i64 ↑T.db, .int .i64 ↑T.al, .slice Aw 600 cw, .slice Ap lp.length cp], .bool true]) (by simp [results, Tryz.results4, go_sem, rs0, rs1, rs2, rs3, rs4, rs5, rs6]; done) rfl ?_
           exact ⟨T, At, nt, ct, cc, L, B, lp, Aw, cw, Ap, cp, _, _, _, rfl, hT, HN.out.symm, hwl, hS12, Mem.drop_ 0 (Mem.drop_ 0 (Mem.drop_ 3 H))⟩
         · have ki1 : ¬ (k : Int) < (nl : Int) := by omega
           skip
           obtain ⟨shlt, sh0, shf0, sh1, shf1, sh2, shf2, sh3, shf3, sh4, shf4, sh5, shf5, sh6, shf6⟩ := H.c7 3 rfl
           obtain ⟨rslt, rs0, rsf0, rs1, rsf1, rs2, rsf2, rs3, rsf3, rs4, rsf4, rs5, rsf5, rs6, rsf6⟩ := H.c7 1 rfl
           have ne_sh_rs := H.ne 3 1 rfl rfl (by decide)
           have ne_rs_sh := H.ne 1 3 rfl rfl (by decide)
           go_wp2
           obtain ⟨W9, hW9⟩ : ∃ W9, (((((((wr).setCell ⟨w.heap.size + 1, 0, none⟩ (.slice At nt ct)).setCell ⟨w.heap.size + 1, 1, none⟩ (.int .i64 ↑T.fx)).setCell ⟨w.heap.size + 1, 2, none⟩ (.int .i64 ↑T.fb)).setCell ⟨w.heap.size + 1, 3, none⟩ (.int .i64 ↑T.db)).setCell ⟨w.heap.size + 1, 4, none⟩ (.int .i64 ↑T.al)).setCell ⟨w.heap.size + 1, 5, none⟩ (.slice Aw 600 cw)).setCell ⟨w.heap.size + 1, 6, none⟩ (.slice Ap lp.length cp) = W9 := ⟨_, rfl⟩
           replace H := Mem.set 1 H rfl (0) (.slice At nt ct)
           replace H := Mem.set 1 H rfl (1) (.int .i64 ↑T.fx)
           replace H := Mem.set 1 H rfl (2) (.int .i64 ↑T.fb)
           replace H := Mem.set 1 H rfl (3) (.int .i64 ↑T.db)
           replace H := Mem.set 1 H rfl (4) (.int .i64 ↑T.al)
           replace H := Mem.set 1 H rfl (5) (.slice Aw 600 cw)
           replace H := Mem.set 1 H rfl (6) (.slice Ap lp.length cp)
           simp only [List.set_cons_zero, List.set_cons_succ, List.setIfInBounds_toArray] at H
           rw [hW9] at H ⊢
           clear hW9
           clear shlt sh0 shf0 sh1 shf1 sh2 shf2 sh3 shf3 sh4 shf4 sh5 shf5 sh6 shf6 rslt rs0 rsf0 rs1 rsf1 rs2 rsf2 rs3 rsf3 rs4 rsf4 rs5 rsf5 rs6 rsf6 ne_sh_rs ne_rs_sh
           obtain ⟨rslt, rs0, rsf0, rs1, rsf1, rs2, rsf2, rs3, rsf3, rs4, rsf4, rs5, rsf5, rs6, rsf6⟩ := H.c7 1 rfl
           refine bodyPost_ret (v := .tuple #[.agg #[.slice At nt ct, .int .i64 ↑T.fx, .int .i64 ↑T.fb, .int .i64 ↑T.db, .int .i64 ↑T.al, .slice Aw 600 cw, .slice Ap lp.length cp], .bool true]) (by simp [results, Tryz.results4, go_sem, rs0, rs1, rs2, rs3, rs4, rs5, rs6]; done) rfl ?_
           exact ⟨T, At, nt, ct, cc, L, B, lp, Aw, cw, Ap, cp, _, _, _, rfl, hT, HN.out.symm, hwl, hS12, Mem.drop_ 0 (Mem.drop_ 0 (Mem.drop_ 3 H))⟩
theorem orders_fit {v : Value} {w : World} (h : Fit Tryz.prog w 25 v) : ∃ (A : Option Addr) (n c : Nat) (f : Nat → Nat → Int), v = .slice A n c ∧ IsRows w (.slice A n c) [.i64, .i64, .i64, .i64, .i64] n f := by
 obtain ⟨n, f, hr⟩ := Fit.rows h Tryz.underlying25 (ks := [.i64, .i64, .i64, .i64, .i64]) (by kernel_rfl) (by decide) (by kernel_rfl)
 have hr0 := hr
 obtain ⟨A, c, rfl, _⟩ := hr
 exact ⟨A, n, c, f, rfl, hr0⟩
def NumOk (B : List Cu) : Prop := ∀ c ∈ B, ∀ k (h : k < c.s.length), (c.s[k]'h).id = k + 1 ∧ (c.s[k]'h).rev ≤ c.a.rev
theorem keepE_num {T : Tm} {B B2 : List Cu} {v : Ev} {n : Nat} (hT : T.Ok) (hB : BOk T B n) (hn : n ≤ 1000) (hv : v.ok) (h : keepE T B v = (0, B2)) (hN : NumOk B) : NumOk B2 := by
 rcases keepE_ne h with ⟨_, hp, rfl⟩ | ⟨_, i, hi, hp, hme, hc, rfl⟩
 · intro c hc k hk
   rcases List.mem_append.1 hc with hc | hc
   · exact hN c hc k hk
   · obtain rfl := List.mem_singleton.1 hc
     simp at hk
 · have hmem : B[i] ∈ B := List.getElem_mem hi
   have hs := hB.sold hmem
   obtain ⟨c1, c2, c3, c4, c5⟩ := custP_law hT (hB.h1 _ hmem).1 (hB.h1 _ hmem).2 (by omega) hv hc
   have hnx := (hB.h1 _ hmem).2
   intro c hc' k hk
   rcases List.mem_or_eq_of_mem_set hc' with hc' | rfl
   · exact hN c hc' k hk
   · have hold := hN _ hmem
     generalize (custP T B[i] v).2 = d at c4 c5 hk ⊢
     rcases c4 with e | ⟨x, e, hx1, hx2⟩
     · have hk2 : k < B[i].s.length := by rw [← e]; exact hk
       have e2 : d.s[k] = B[i].s[k] := by simp only [e]
       rw [e2]
       have := hold k hk2
       omega
     · by_cases hk2 : k < B[i].s.length
       · have e2 : d.s[k] = B[i].s[k] := by simp only [e]; exact List.getElem_append_left hk2
         rw [e2]
         have := hold k hk2
         omega
       · have hk3 : k = B[i].s.length := by
           rw [e] at hk; simp at hk; omega
         have e2 : d.s[k] = x := by
           simp only [e]
           rw [List.getElem_append_right (by omega)]
           simp [hk3]
         rw [e2, hx1, hx2]
         omega
theorem runE_num {T : Tm} (hT : T.Ok) : ∀ (l : List Ev) (B B2 : List Cu) (n : Nat), BOk T B n → n + l.length ≤ 1000 → (∀ v ∈ l, v.ok) → NumOk B → runE T B l = some B2 → NumOk B2 := by
 intro l
 induction l with
 | nil => intro B B2 n hB _ _ hN h; simp only [runE, Option.some.injEq] at h; subst h; exact hN
 | cons v l ih =>
   intro B B2 n hB hn hv hN h
   rw [show v :: l = [v] ++ l from rfl, runE_append] at h
   obtain ⟨B1, h1, h2⟩ := Option.bind_eq_some_iff.1 h
   have hk := runE_one.1 h1
   have hB1 := keepE_bok hT hB (by simp only [List.length_cons] at hn; omega) (hv v (by simp)) hk
   have hN1 := keepE_num hT hB (by simp only [List.length_cons] at hn; omega) (hv v (by simp)) hk hN
   exact ih B1 B2 (n + 1) hB1 (by simp only [List.length_cons] at hn; omega) (fun u hu => hv u (by simp [hu])) hN1 h2
theorem Srv.num {T : Tm} {c : List Nat} {L : List Ev} {B : List Cu} (hT : T.Ok) (hS : Srv T c L B) : NumOk B :=
 runE_num hT L [] B 0 (bok_nil T) (by have := hS.len; omega) hS.ok (fun c hc => by simp at hc) hS.run
end Go.Proofs.YtpcgpnkmjjamhaaGreatDoor

/- account.Sell. -/
import Derived.Test.YtpcgpnkmjjamhaaGreatDoorQ18
import Derived.Test.YtpcgpnkmjjamhaaGreatDoorQ9
namespace Go.Proofs.YtpcgpnkmjjamhaaGreatDoor
open Go.RowKit
set_option linter.unusedVariables false
set_option maxRecDepth 100000
theorem ck_mem {W0 w3 : World} {g me rev next month bought : Nat} {free : Int} {l : List (Nat × Nat)} {At : Option Addr} {nt ct fx fb db al : Nat} (hk : Ck W0.heap.size w3 g me rev next month bought free l At nt ct fx fb db al) (hb : Below W0.heap.size W0 w3) :
   ∃ (A : Option Addr) (c : Nat), Mem W0 [] w3 [.blk g 191 #[.int .i64 ↑me, .int .i64 ↑rev, .int .i64 ↑next, .int .i64 ↑month, .int .i64 ↑bought, .int .i64 free, .slice A l.length c, .slice At nt ct, .int .i64 ↑fx, .int .i64 ↑fb, .int .i64 ↑db, .int .i64 ↑al], .row W0.heap.size 81 2 (.slice A l.length c) l.length (drs l)] := by
 obtain ⟨hBg, A, c, hblk, hown⟩ := hk
 refine ⟨A, c, ⟨hb.os, hb.tape, hb.output, hb.size, fun k hk _ => hb.block k hk⟩, fun d hd => ?_, ?_, fun d hd k hk => .inl ?_⟩
 · rcases List.mem_cons.1 hd with rfl | hd
   · exact hblk
   · obtain rfl := List.mem_singleton.1 hd
     exact hown
 · have hn := blk_not_row hblk (by decide) hown
   refine List.pairwise_cons.2 ⟨fun d hd k hk hk' => ?_, List.pairwise_singleton _ _⟩
   obtain rfl := List.mem_singleton.1 hd
   obtain rfl : g = k := by simpa [Chunk.num] using hk
   exact hn hk'.symm
 · rcases List.mem_cons.1 hd with rfl | hd
   · obtain rfl : g = k := by simpa [Chunk.num] using hk
     exact hBg
   · obtain rfl := List.mem_singleton.1 hd
     exact (World.ownsRow.lt hown k hk).1
def RetSell (me rev next next1 m2 bought2 : Nat) (free : Int) (t paid F P ch U : Nat) (out : List (Nat × Nat)) (w : World) (e : Ending) (w' : World) : Prop :=
 ∃ (A2 : Option Addr) (c2 : Nat), e = .returned (.tuple #[.agg #[.int .i64 ↑me, .int .i64 ↑rev, .int .i64 ↑next1, .int .i64 ↑m2, .int .i64 ↑bought2, .int .i64 free, .slice A2 out.length c2], .agg #[.int .i64 ↑next, .int .i64 ↑t, .int .i64 ↑paid, .int .i64 ↑F, .int .i64 ↑P, .int .i64 ↑ch, .int .i64 ↑U], .int .i64 0]) ∧ w'.ownsRow w.heap.size 81 2 (.slice A2 out.length c2) out.length (drs out) ∧ Below w.heap.size w w'
set_option maxHeartbeats 4000000 in
theorem sellX_yes (me rev next month bought : Nat) (free : Int) (A : Option Addr) (n c : Nat) (l : List (Nat × Nat)) (At : Option Addr) (nt ct fx fb db al : Nat) (tl : List (Nat × Nat)) (m2 b2 : Nat) (l2 : List (Nat × Nat)) (t S paid f0 F left U P : Nat) (out : List (Nat × Nat)) (next1 bought2 ch : Nat) (w : World)
   (hv : IsDs w (.slice A n c) l) (hl : DOk l) (ha : AOk me rev next month bought free) (hv2 : IsDs w (.slice At nt ct) tl) (hl2 : TOk tl) (ht : TmOk fx fb db al) (hr : Rolled month bought l m2 b2 l2) (hm : m2 ≤ 2399)
   (hS : Sale l2 tl b2 fx fb db t S paid f0 F left U P out) (hU : 1 ≤ U) (hnx : next ≤ 1048575) (hn1 : Hid (next1 = next + 1)) (hb2 : Hid (bought2 = b2 + U)) (hch : Hid (P + ch = left)) :
   Calls Tryz.prog 44 #[.agg #[.int .i64 ↑me, .int .i64 ↑rev, .int .i64 ↑next, .int .i64 ↑month, .int .i64 ↑bought, .int .i64 free, .slice A n c], .agg #[.slice At nt ct, .int .i64 ↑fx, .int .i64 ↑fb, .int .i64 ↑db, .int .i64 ↑al], .int .i64 ↑t, .int .i64 ↑m2] w (RetSell me rev next next1 m2 bought2 free t paid F P ch U out w) := by
 have hO := fun W h h2 => open_ok me rev next month bought free A n c l At nt ct fx fb db al tl W h hl ha h2 hl2 ht
 have hR := fun B g W hk hB => roll_ok B g me rev next month bought free l At nt ct fx fb db al m2 b2 l2 W hk hl hB hr hm
 have hb2' : b2 ≤ 10000000 := by have := ha.h6; rcases hr with ⟨_, rfl, _⟩ | ⟨_, rfl, _⟩ <;> omega
 have hX := fun g W0 W hk h1 h2 => sell_yes g me rev next m2 b2 free l2 At nt ct fx fb db al tl t S paid f0 F left U P out next1 bought2 ch W0 W hk (hr.ok hl) h1 h2 hl2 ht hb2' hS hU hnx hn1 hb2 hch
 have H := Mem.init w
 obtain ⟨W0, hW0⟩ : ∃ W0, ((((w).alloc (.cells #[.int .i64 ↑me, .int .i64 ↑rev, .int .i64 ↑next, .int .i64 ↑month, .int .i64 ↑bought, .int .i64 free, .slice A n c] 61)).alloc (.cells #[.slice At nt ct, .int .i64 ↑fx, .int .i64 ↑fb, .int .i64 ↑db, .int .i64 ↑al] 30)).alloc (.cells #[.int .i64 0, .int .i64 0, .int .i64 0, .int .i64 0, .int .i64 0, .int .i64 0, .slice none 0 0] 61)).alloc (.cells #[.int .i64 0, .int .i64 0, .int .i64 0, .int .i64 0, .int .i64 0, .int .i64 0, .int .i64 0] 48) = W0 := ⟨_, rfl⟩
 replace H := Mem.alloc H (w.heap.size) (by first | (simp; done) | (simp; omega)) #[.int .i64 ↑me, .int .i64 ↑rev, .int .i64 ↑next, .int .i64 ↑month, .int .i64 ↑bought, .int .i64 free, .slice A n c] 61
 replace H := Mem.alloc H (w.heap.size + 1) (by first | (simp; done) | (simp; omega)) #[.slice At nt ct, .int .i64 ↑fx, .int .i64 ↑fb, .int .i64 ↑db, .int .i64 ↑al] 30
 replace H := Mem.alloc H (w.heap.size + 1 + 1) (by first | (simp; done) | (simp; omega)) #[.int .i64 0, .int .i64 0, .int .i64 0, .int .i64 0, .int .i64 0, .int .i64 0, .slice none 0 0] 61
 replace H := Mem.alloc H (w.heap.size + 1 + 1 + 1) (by first | (simp; done) | (simp; omega)) #[.int .i64 0, .int .i64 0, .int .i64 0, .int .i64 0, .int .i64 0, .int .i64 0, .int .i64 0] 48
 simp only [List.nil_append, List.cons_append] at H
 rw [hW0] at H
 have hv0 := hv.below H.below
 have hv20 := hv2.below H.below
 clear hr ha ht hl2 hv hv2 hS
 obtain ⟨alt, a0, af0, a1, af1, a2, af2, a3, af3, a4, af4, a5, af5, a6, af6⟩ := H.c7 0 rfl
 obtain ⟨tlt, t0, tf0, t1, tf1, t2, tf2, t3, tf3, t4, tf4⟩ := H.c5 1 rfl
 have ne_a_t := H.ne 0 1 rfl rfl (by decide)
 have ne_t_a := H.ne 1 0 rfl rfl (by decide)
 go_enter Tryz.func44, Tryz.ntmps44
 go_wp2_with fail
 refine (hO _ hv0 hv20).mono ?_
 rintro e w1 ⟨g, rfl, hk, hb1⟩
 clear alt a0 af0 a1 af1 a2 af2 a3 af3 a4 af4 a5 af5 a6 af6 tlt t0 tf0 t1 tf1 t2 tf2 t3 tf3 t4 tf4 ne_a_t ne_t_a
 go_wp2_with fail
 refine (hR _ g _ hk hb1.size).mono ?_
 rintro e w2 ⟨rfl, hk2, hb2⟩
 have hB2 := hb1.trans hb2
 clear hO hR hk hb1 hb2
 go_wp2_with fail
 refine (hX g W0 w2 hk2 hB2 hv20).mono ?_
 rintro e w3 ⟨rfl, hk3, hb3⟩
 obtain ⟨A2, c2, hK⟩ := ck_mem hk3 hb3
 clear hX hk2 hB2 hk3 hb3 hW0 hv0 hv20
 replace H : Mem (w) [] (w3) [.blk (w.heap.size) 61 #[.int .i64 ↑me, .int .i64 ↑rev, .int .i64 ↑next, .int .i64 ↑month, .int .i64 ↑bought, .int .i64 free, .slice A n c], .blk (w.heap.size + 1) 30 #[.slice At nt ct, .int .i64 ↑fx, .int .i64 ↑fb, .int .i64 ↑db, .int .i64 ↑al], .blk (w.heap.size + 1 + 1) 61 #[.int .i64 0, .int .i64 0, .int .i64 0, .int .i64 0, .int .i64 0, .int .i64 0, .slice none 0 0], .blk (w.heap.size + 1 + 1 + 1) 48 #[.int .i64 0, .int .i64 0, .int .i64 0, .int .i64 0, .int .i64 0, .int .i64 0, .int .i64 0], .blk (g) 191 #[.int .i64 ↑me, .int .i64 ↑rev, .int .i64 ↑next1, .int .i64 ↑m2, .int .i64 ↑bought2, .int .i64 free, .slice A2 out.length c2, .slice At nt ct, .int .i64 ↑fx, .int .i64 ↑fb, .int .i64 ↑db, .int .i64 ↑al], .row (W0.heap.size) (81) (2) (.slice A2 out.length c2) (out.length) (drs out)] := Mem.join H hK
 clear hK
 go_wp2_with fail
 obtain ⟨W4, hW4⟩ : ∃ W4, (w3).alloc (.cells #[.int .i64 ↑next, .int .i64 ↑t, .int .i64 ↑paid, .int .i64 ↑F, .int .i64 ↑P, .int .i64 ↑ch, .int .i64 ↑U] 48) = W4 := ⟨_, rfl⟩
 replace H := Mem.alloc H (w3.heap.size) (by first | (simp; done) | (simp; omega)) #[.int .i64 ↑next, .int .i64 ↑t, .int .i64 ↑paid, .int .i64 ↑F, .int .i64 ↑P, .int .i64 ↑ch, .int .i64 ↑U] 48
 simp only [List.cons_append, List.nil_append] at H
 rw [hW4] at H ⊢
 clear hW4
 obtain ⟨klt, k0, kf0, k1, kf1, k2, kf2, k3, kf3, k4, kf4, k5, kf5, k6, kf6, k7, kf7, k8, kf8, k9, kf9, k10, kf10, k11, kf11⟩ := H.c12 4 rfl
 obtain ⟨blt, b0, bf0, b1, bf1, b2, bf2, b3, bf3, b4, bf4, b5, bf5, b6, bf6⟩ := H.c7 6 rfl
 obtain ⟨xlt, x0, xf0, x1, xf1, x2, xf2, x3, xf3, x4, xf4, x5, xf5, x6, xf6⟩ := H.c7 2 rfl
 obtain ⟨ylt, y0, yf0, y1, yf1, y2, yf2, y3, yf3, y4, yf4, y5, yf5, y6, yf6⟩ := H.c7 3 rfl
 have ne_k_b := H.ne 4 6 rfl rfl (by decide)
 have ne_k_x := H.ne 4 2 rfl rfl (by decide)
 have ne_k_y := H.ne 4 3 rfl rfl (by decide)
 have ne_b_k := H.ne 6 4 rfl rfl (by decide)
 have ne_b_x := H.ne 6 2 rfl rfl (by decide)
 have ne_b_y := H.ne 6 3 rfl rfl (by decide)
 have ne_x_k := H.ne 2 4 rfl rfl (by decide)
 have ne_x_b := H.ne 2 6 rfl rfl (by decide)
 have ne_x_y := H.ne 2 3 rfl rfl (by decide)
 have ne_y_k := H.ne 3 4 rfl rfl (by decide)
 have ne_y_b := H.ne 3 6 rfl rfl (by decide)
 have ne_y_x := H.ne 3 2 rfl rfl (by decide)
 go_region
 obtain ⟨W5, hW5⟩ : ∃ W5, (((((((((((((((W4).setCell ⟨w.heap.size + 1 + 1, 0, none⟩ (.int .i64 ↑me)).setCell ⟨w.heap.size + 1 + 1, 1, none⟩ (.int .i64 ↑rev)).setCell ⟨w.heap.size + 1 + 1, 2, none⟩ (.int .i64 ↑next1)).setCell ⟨w.heap.size + 1 + 1, 3, none⟩ (.int .i64 ↑m2)).setCell ⟨w.heap.size + 1 + 1, 4, none⟩ (.int .i64 ↑bought2)).setCell ⟨w.heap.size + 1 + 1, 5, none⟩ (.int .i64 free)).setCell ⟨w.heap.size + 1 + 1, 6, none⟩ (.slice A2 out.length c2)).setCell ⟨w.heap.size + 1 + 1 + 1, 0, none⟩ (.int .i64 ↑next)).setCell ⟨w.heap.size + 1 + 1 + 1, 1, none⟩ (.int .i64 ↑t)).setCell ⟨w.heap.size + 1 + 1 + 1, 2, none⟩ (.int .i64 ↑paid)).setCell ⟨w.heap.size + 1 + 1 + 1, 3, none⟩ (.int .i64 ↑F)).setCell ⟨w.heap.size + 1 + 1 + 1, 4, none⟩ (.int .i64 ↑P)).setCell ⟨w.heap.size + 1 + 1 + 1, 5, none⟩ (.int .i64 ↑ch)).setCell ⟨w.heap.size + 1 + 1 + 1, 6, none⟩ (.int .i64 ↑U)).drew = W5 := ⟨_, rfl⟩
 replace H := Mem.set 2 H rfl (0) (.int .i64 ↑me)
 replace H := Mem.set 2 H rfl (1) (.int .i64 ↑rev)
 replace H := Mem.set 2 H rfl (2) (.int .i64 ↑next1)
 replace H := Mem.set 2 H rfl (3) (.int .i64 ↑m2)
 replace H := Mem.set 2 H rfl (4) (.int .i64 ↑bought2)
 replace H := Mem.set 2 H rfl (5) (.int .i64 free)
 replace H := Mem.set 2 H rfl (6) (.slice A2 out.length c2)
 replace H := Mem.set 3 H rfl (0) (.int .i64 ↑next)
 replace H := Mem.set 3 H rfl (1) (.int .i64 ↑t)
 replace H := Mem.set 3 H rfl (2) (.int .i64 ↑paid)
 replace H := Mem.set 3 H rfl (3) (.int .i64 ↑F)
 replace H := Mem.set 3 H rfl (4) (.int .i64 ↑P)
 replace H := Mem.set 3 H rfl (5) (.int .i64 ↑ch)
 replace H := Mem.set 3 H rfl (6) (.int .i64 ↑U)
 simp only [List.set_cons_zero, List.set_cons_succ, List.setIfInBounds_toArray] at H
 replace H := H.drew
 rw [hW5] at H ⊢
 clear hW5
 clear klt k0 kf0 k1 kf1 k2 kf2 k3 kf3 k4 kf4 k5 kf5 k6 kf6 k7 kf7 k8 kf8 k9 kf9 k10 kf10 k11 kf11 blt b0 bf0 b1 bf1 b2 bf2 b3 bf3 b4 bf4 b5 bf5 b6 bf6 xlt x0 xf0 x1 xf1 x2 xf2 x3 xf3 x4 xf4 x5 xf5 x6 xf6 ylt y0 yf0 y1 yf1 y2 yf2 y3 yf3 y4 yf4 y5 yf5 y6 yf6 ne_k_b ne_k_x ne_k_y ne_b_k ne_b_x ne_b_y ne_x_k ne_x_b ne_x_y ne_y_k ne_y_b ne_y_x
 obtain ⟨xlt, x0, xf0, x1, xf1, x2, xf2, x3, xf3, x4, xf4, x5, xf5, x6, xf6⟩ := H.c7 2 rfl
 obtain ⟨ylt, y0, yf0, y1, yf1, y2, yf2, y3, yf3, y4, yf4, y5, yf5, y6, yf6⟩ := H.c7 3 rfl
 have ne_x_y := H.ne 2 3 rfl rfl (by decide)
 have ne_y_x := H.ne 3 2 rfl rfl (by decide)
 go_wp2
 refine bodyPost_ret (v := .tuple #[.agg #[.int .i64 ↑me, .int .i64 ↑rev, .int .i64 ↑next1, .int .i64 ↑m2, .int .i64 ↑bought2, .int .i64 free, .slice A2 out.length c2], .agg #[.int .i64 ↑next, .int .i64 ↑t, .int .i64 ↑paid, .int .i64 ↑F, .int .i64 ↑P, .int .i64 ↑ch, .int .i64 ↑U], .int .i64 0]) (by simp [results, Tryz.results44, go_sem, x0, x1, x2, x3, x4, x5, x6, y0, y1, y2, y3, y4, y5, y6]; done) rfl ?_
 exact ⟨A2, c2, rfl, H.ownb 5 rfl, H.below⟩
set_option maxHeartbeats 4000000 in
theorem sellX_no (me rev next month bought : Nat) (free : Int) (A : Option Addr) (n c : Nat) (l : List (Nat × Nat)) (At : Option Addr) (nt ct fx fb db al : Nat) (tl : List (Nat × Nat)) (m2 b2 : Nat) (l2 : List (Nat × Nat)) (t S paid f0 F : Nat) (li : Int) (out : List (Nat × Nat)) (w : World)
   (hv : IsDs w (.slice A n c) l) (hl : DOk l) (ha : AOk me rev next month bought free) (hv2 : IsDs w (.slice At nt ct) tl) (hl2 : TOk tl) (ht : TmOk fx fb db al) (hr : Rolled month bought l m2 b2 l2) (hm : m2 ≤ 2399)
   (hS : SaleN l2 tl b2 fx fb db t S paid f0 F li out) :
   Calls Tryz.prog 44 #[.agg #[.int .i64 ↑me, .int .i64 ↑rev, .int .i64 ↑next, .int .i64 ↑month, .int .i64 ↑bought, .int .i64 free, .slice A n c], .agg #[.slice At nt ct, .int .i64 ↑fx, .int .i64 ↑fb, .int .i64 ↑db, .int .i64 ↑al], .int .i64 ↑t, .int .i64 ↑m2] w fun e w' =>
     e = .returned (.tuple #[.agg #[.int .i64 0, .int .i64 0, .int .i64 0, .int .i64 0, .int .i64 0, .int .i64 0, .slice none 0 0], .agg #[.int .i64 0, .int .i64 0, .int .i64 0, .int .i64 0, .int .i64 0, .int .i64 0, .int .i64 0], .int .i64 19]) ∧ Below w.heap.size w w' := by
 have hO := fun W h h2 => open_ok me rev next month bought free A n c l At nt ct fx fb db al tl W h hl ha h2 hl2 ht
 have hR := fun B g W hk hB => roll_ok B g me rev next month bought free l At nt ct fx fb db al m2 b2 l2 W hk hl hB hr hm
 have hb2' : b2 ≤ 10000000 := by have := ha.h6; rcases hr with ⟨_, rfl, _⟩ | ⟨_, rfl, _⟩ <;> omega
 have hX := fun g W0 W hk h1 h2 => sell_no g me rev next m2 b2 free l2 At nt ct fx fb db al tl t S paid f0 F li out W0 W hk (hr.ok hl) h1 h2 hl2 ht hb2' hS
 have H := Mem.init w
 obtain ⟨W0, hW0⟩ : ∃ W0, ((((w).alloc (.cells #[.int .i64 ↑me, .int .i64 ↑rev, .int .i64 ↑next, .int .i64 ↑month, .int .i64 ↑bought, .int .i64 free, .slice A n c] 61)).alloc (.cells #[.slice At nt ct, .int .i64 ↑fx, .int .i64 ↑fb, .int .i64 ↑db, .int .i64 ↑al] 30)).alloc (.cells #[.int .i64 0, .int .i64 0, .int .i64 0, .int .i64 0, .int .i64 0, .int .i64 0, .slice none 0 0] 61)).alloc (.cells #[.int .i64 0, .int .i64 0, .int .i64 0, .int .i64 0, .int .i64 0, .int .i64 0, .int .i64 0] 48) = W0 := ⟨_, rfl⟩
 replace H := Mem.alloc H (w.heap.size) (by first | (simp; done) | (simp; omega)) #[.int .i64 ↑me, .int .i64 ↑rev, .int .i64 ↑next, .int .i64 ↑month, .int .i64 ↑bought, .int .i64 free, .slice A n c] 61
 replace H := Mem.alloc H (w.heap.size + 1) (by first | (simp; done) | (simp; omega)) #[.slice At nt ct, .int .i64 ↑fx, .int .i64 ↑fb, .int .i64 ↑db, .int .i64 ↑al] 30
 replace H := Mem.alloc H (w.heap.size + 1 + 1) (by first | (simp; done) | (simp; omega)) #[.int .i64 0, .int .i64 0, .int .i64 0, .int .i64 0, .int .i64 0, .int .i64 0, .slice none 0 0] 61
 replace H := Mem.alloc H (w.heap.size + 1 + 1 + 1) (by first | (simp; done) | (simp; omega)) #[.int .i64 0, .int .i64 0, .int .i64 0, .int .i64 0, .int .i64 0, .int .i64 0, .int .i64 0] 48
 simp only [List.nil_append, List.cons_append] at H
 rw [hW0] at H
 have hv0 := hv.below H.below
 have hv20 := hv2.below H.below
 clear hr ha ht hl2 hv hv2 hS
 obtain ⟨alt, a0, af0, a1, af1, a2, af2, a3, af3, a4, af4, a5, af5, a6, af6⟩ := H.c7 0 rfl
 obtain ⟨tlt, t0, tf0, t1, tf1, t2, tf2, t3, tf3, t4, tf4⟩ := H.c5 1 rfl
 have ne_a_t := H.ne 0 1 rfl rfl (by decide)
 have ne_t_a := H.ne 1 0 rfl rfl (by decide)
 go_enter Tryz.func44, Tryz.ntmps44
 go_wp2_with fail
 refine (hO _ hv0 hv20).mono ?_
 rintro e w1 ⟨g, rfl, hk, hb1⟩
 clear alt a0 af0 a1 af1 a2 af2 a3 af3 a4 af4 a5 af5 a6 af6 tlt t0 tf0 t1 tf1 t2 tf2 t3 tf3 t4 tf4 ne_a_t ne_t_a
 go_wp2_with fail
 refine (hR _ g _ hk hb1.size).mono ?_
 rintro e w2 ⟨rfl, hk2, hb2⟩
 have hB2 := hb1.trans hb2
 clear hO hR hk hb1 hb2
 go_wp2_with fail
 refine (hX g W0 w2 hk2 hB2 hv20).mono ?_
 rintro e w3 ⟨rfl, hb3⟩
 have hK : Mem W0 [] w3 [] := (Mem.init W0).call hb3
 clear hX hk2 hB2 hb3 hW0 hv0 hv20
 replace H := H.join hK
 clear hK
 have H : Mem (w) [] (w3) [.blk (w.heap.size) 61 #[.int .i64 ↑me, .int .i64 ↑rev, .int .i64 ↑next, .int .i64 ↑month, .int .i64 ↑bought, .int .i64 free, .slice A n c], .blk (w.heap.size + 1) 30 #[.slice At nt ct, .int .i64 ↑fx, .int .i64 ↑fb, .int .i64 ↑db, .int .i64 ↑al], .blk (w.heap.size + 1 + 1) 61 #[.int .i64 0, .int .i64 0, .int .i64 0, .int .i64 0, .int .i64 0, .int .i64 0, .slice none 0 0], .blk (w.heap.size + 1 + 1 + 1) 48 #[.int .i64 0, .int .i64 0, .int .i64 0, .int .i64 0, .int .i64 0, .int .i64 0, .int .i64 0]] := H
 obtain ⟨xlt, x0, xf0, x1, xf1, x2, xf2, x3, xf3, x4, xf4, x5, xf5, x6, xf6⟩ := H.c7 2 rfl
 obtain ⟨ylt, y0, yf0, y1, yf1, y2, yf2, y3, yf3, y4, yf4, y5, yf5, y6, yf6⟩ := H.c7 3 rfl
 have ne_x_y := H.ne 2 3 rfl rfl (by decide)
 have ne_y_x := H.ne 3 2 rfl rfl (by decide)
 go_wp2_with fail
 obtain ⟨W5, hW5⟩ : ∃ W5, (((((((((((((((w3).setCell ⟨w.heap.size + 1 + 1, 0, none⟩ (.int .i64 0)).setCell ⟨w.heap.size + 1 + 1, 1, none⟩ (.int .i64 0)).setCell ⟨w.heap.size + 1 + 1, 2, none⟩ (.int .i64 0)).setCell ⟨w.heap.size + 1 + 1, 3, none⟩ (.int .i64 0)).setCell ⟨w.heap.size + 1 + 1, 4, none⟩ (.int .i64 0)).setCell ⟨w.heap.size + 1 + 1, 5, none⟩ (.int .i64 0)).setCell ⟨w.heap.size + 1 + 1, 6, none⟩ (.slice none 0 0)).setCell ⟨w.heap.size + 1 + 1 + 1, 0, none⟩ (.int .i64 0)).setCell ⟨w.heap.size + 1 + 1 + 1, 1, none⟩ (.int .i64 0)).setCell ⟨w.heap.size + 1 + 1 + 1, 2, none⟩ (.int .i64 0)).setCell ⟨w.heap.size + 1 + 1 + 1, 3, none⟩ (.int .i64 0)).setCell ⟨w.heap.size + 1 + 1 + 1, 4, none⟩ (.int .i64 0)).setCell ⟨w.heap.size + 1 + 1 + 1, 5, none⟩ (.int .i64 0)).setCell ⟨w.heap.size + 1 + 1 + 1, 6, none⟩ (.int .i64 0)).alloc (.cells #[.int .i64 0, .int .i64 0, .int .i64 0, .int .i64 0, .int .i64 0, .int .i64 0, .int .i64 0] 48) = W5 := ⟨_, rfl⟩
 replace H := Mem.set 2 H rfl (0) (.int .i64 0)
 replace H := Mem.set 2 H rfl (1) (.int .i64 0)
 replace H := Mem.set 2 H rfl (2) (.int .i64 0)
 replace H := Mem.set 2 H rfl (3) (.int .i64 0)
 replace H := Mem.set 2 H rfl (4) (.int .i64 0)
 replace H := Mem.set 2 H rfl (5) (.int .i64 0)
 replace H := Mem.set 2 H rfl (6) (.slice none 0 0)
 replace H := Mem.set 3 H rfl (0) (.int .i64 0)
 replace H := Mem.set 3 H rfl (1) (.int .i64 0)
 replace H := Mem.set 3 H rfl (2) (.int .i64 0)
 replace H := Mem.set 3 H rfl (3) (.int .i64 0)
 replace H := Mem.set 3 H rfl (4) (.int .i64 0)
 replace H := Mem.set 3 H rfl (5) (.int .i64 0)
 replace H := Mem.set 3 H rfl (6) (.int .i64 0)
 replace H := Mem.alloc H (w3.heap.size) (by first | (simp; done) | (simp; omega)) #[.int .i64 0, .int .i64 0, .int .i64 0, .int .i64 0, .int .i64 0, .int .i64 0, .int .i64 0] 48
 simp only [List.set_cons_zero, List.set_cons_succ, List.setIfInBounds_toArray, List.cons_append, List.nil_append] at H
 rw [hW5] at H ⊢
 clear hW5
 clear xlt x0 xf0 x1 xf1 x2 xf2 x3 xf3 x4 xf4 x5 xf5 x6 xf6 ylt y0 yf0 y1 yf1 y2 yf2 y3 yf3 y4 yf4 y5 yf5 y6 yf6 ne_x_y ne_y_x
 obtain ⟨xlt, x0, xf0, x1, xf1, x2, xf2, x3, xf3, x4, xf4, x5, xf5, x6, xf6⟩ := H.c7 2 rfl
 obtain ⟨ylt, y0, yf0, y1, yf1, y2, yf2, y3, yf3, y4, yf4, y5, yf5, y6, yf6⟩ := H.c7 3 rfl
 have ne_x_y := H.ne 2 3 rfl rfl (by decide)
 have ne_y_x := H.ne 3 2 rfl rfl (by decide)
 refine bodyPost_ret (v := .tuple #[.agg #[.int .i64 0, .int .i64 0, .int .i64 0, .int .i64 0, .int .i64 0, .int .i64 0, .slice none 0 0], .agg #[.int .i64 0, .int .i64 0, .int .i64 0, .int .i64 0, .int .i64 0, .int .i64 0, .int .i64 0], .int .i64 19]) (by simp [results, Tryz.results44, go_sem, x0, x1, x2, x3, x4, x5, x6, y0, y1, y2, y3, y4, y5, y6]; done) rfl ?_
 exact ⟨rfl, H.below⟩
end Go.Proofs.YtpcgpnkmjjamhaaGreatDoor
